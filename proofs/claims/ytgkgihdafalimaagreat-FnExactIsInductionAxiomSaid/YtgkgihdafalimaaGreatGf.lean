/- A part of the proof: lemmas only; nothing is claimed here beyond what each lemma says. -/
import Derived.Test.YtgkgihdafalimaaGreatAvF5
import Derived.Test.YtgkgihdafalimaaGreatChecked
import Derived.KernelRfl
set_option linter.unusedSimpArgs false
set_option linter.unusedVariables false
set_option linter.defProp false
set_option maxRecDepth 4000
namespace Go.Proofs.YtgkgihdafalimaaGreat
open Go.Av
theorem mixed : Tryz.prog.follows .mixedOrders = true := by kernel_rfl
theorem mixedT : (Tryz.prog.follows .mixedOrders = true) = True := eq_true mixed
theorem i_3 : Tryz.prog.info? 3 = some Tryz.t3 := by kernel_rfl
theorem ty_3 : TyIs Tryz.prog 3 false 1 := TyIs.mk' Tryz.underlying3 i_3 rfl rfl
theorem zc_3 : zcv Tryz.prog 8 3 = .pv (.lit (.int .i64 0)) := by kernel_rfl
theorem z_3 : ZeroIs Tryz.prog 3 (.pv (.lit (.int .i64 0))) := ZeroIs.one i_3 rfl rfl rfl rfl rfl
theorem i_4 : Tryz.prog.info? 4 = some Tryz.t4 := by kernel_rfl
theorem ty_4 : TyIs Tryz.prog 4 false 1 := TyIs.mk' Tryz.underlying4 i_4 rfl rfl
theorem zc_4 : zcv Tryz.prog 8 4 = .pv (.lit (.bool false)) := by kernel_rfl
theorem z_4 : ZeroIs Tryz.prog 4 (.pv (.lit (.bool false))) := ZeroIs.one i_4 rfl rfl rfl rfl rfl
theorem u_4 : (Tryz.prog.underlying 4 = some .bool) = True := eq_true Tryz.underlying4
theorem i_5 : Tryz.prog.info? 5 = some Tryz.t5 := by kernel_rfl
theorem ty_5 : TyIs Tryz.prog 5 false 1 := TyIs.mk' Tryz.underlying5 i_5 rfl rfl
theorem zc_5 : zcv Tryz.prog 8 5 = .pv (.lit (.int .u8 0)) := by kernel_rfl
theorem z_5 : ZeroIs Tryz.prog 5 (.pv (.lit (.int .u8 0))) := ZeroIs.one i_5 rfl rfl rfl rfl rfl
theorem i_9 : Tryz.prog.info? 9 = some Tryz.t9 := by kernel_rfl
theorem ty_9 : TyIs Tryz.prog 9 false 1 := TyIs.mk' Tryz.underlying9 i_9 rfl rfl
theorem zc_9 : zcv Tryz.prog 8 9 = .pv (.lit (.string ⟨#[]⟩)) := by kernel_rfl
theorem z_9 : ZeroIs Tryz.prog 9 (.pv (.lit (.string ⟨#[]⟩))) := ZeroIs.one i_9 rfl rfl rfl rfl rfl
theorem u_9 : (Tryz.prog.underlying 9 = some .string) = True := eq_true Tryz.underlying9
theorem i_22 : Tryz.prog.info? 22 = some Tryz.t22 := by kernel_rfl
theorem ty_22 : TyIs Tryz.prog 22 false 1 := TyIs.mk' Tryz.underlying22 i_22 rfl rfl
theorem zc_22 : zcv Tryz.prog 8 22 = .pv (.sl true 2 []) := by kernel_rfl
theorem z_22 : ZeroIs Tryz.prog 22 (.pv (.sl true 2 [])) := ZeroIs.one i_22 rfl rfl rfl rfl rfl
theorem i_24 : Tryz.prog.info? 24 = some Tryz.t24 := by kernel_rfl
theorem es_22 : eSize Tryz.prog 22 = 2 := by kernel_rfl
theorem eb_22 : eBytes Tryz.prog 22 = 40 := by kernel_rfl
theorem sl_22 : SlIs Tryz.prog 22 2 40 := SlIs.mk' Tryz.underlying22 i_24 rfl rfl rfl rfl (by decide)
theorem is_22 : IsSl Tryz.prog 22 := ⟨_, Tryz.underlying22⟩
theorem el_22 : elemOfT Tryz.prog 22 = 24 := by kernel_rfl
theorem ze_22 : zel Tryz.prog 22 = .agg [(.lit (.string ⟨#[]⟩)), (.sl true 2 [])] := by kernel_rfl
theorem ez_22 : ElemZero Tryz.prog 22 (.agg [(.lit (.string ⟨#[]⟩)), (.sl true 2 [])]) := ElemZero.mk' Tryz.underlying22 (ZeroIs.agg i_24 rfl rfl rfl)
theorem ty_24 : TyIs Tryz.prog 24 true 2 := TyIs.mk' Tryz.underlying24 i_24 rfl rfl
theorem zc_24 : zcv Tryz.prog 8 24 = .node [.pv (.lit (.string ⟨#[]⟩)), .pv (.sl true 2 [])] := by kernel_rfl
theorem z_24 : ZeroIs Tryz.prog 24 (.node [.pv (.lit (.string ⟨#[]⟩)), .pv (.sl true 2 [])]) := ZeroIs.agg i_24 rfl rfl rfl
theorem fo_24_0 : fOff Tryz.prog 24 0 = 0 := by kernel_rfl
theorem fi_24_0 : FieldIs Tryz.prog 24 0 0 := FieldIs.mk' Tryz.underlying24 rfl rfl i_9 (by decide)
theorem ft_24_0 : fldT Tryz.prog 24 0 = 9 := by kernel_rfl
theorem fo_24_1 : fOff Tryz.prog 24 1 = 1 := by kernel_rfl
theorem fi_24_1 : FieldIs Tryz.prog 24 1 1 := FieldIs.mk' Tryz.underlying24 rfl rfl i_22 (by decide)
theorem ft_24_1 : fldT Tryz.prog 24 1 = 22 := by kernel_rfl
theorem lay_24 : LayoutOk Tryz.prog 24 [.pv (.lit (.string ⟨#[]⟩)), .pv (.sl true 2 [])] := .inr ⟨_, Tryz.underlying24, rfl, fun k f hk => by match k, hk with | 0, hk => (obtain rfl := Option.some.inj hk; exact ⟨rfl, _, i_9, rfl⟩) | 1, hk => (obtain rfl := Option.some.inj hk; exact ⟨rfl, _, i_22, rfl⟩) | k + 2, hk => simp at hk⟩
theorem i_25 : Tryz.prog.info? 25 = some Tryz.t25 := by kernel_rfl
theorem ty_25 : TyIs Tryz.prog 25 false 1 := TyIs.mk' Tryz.underlying25 i_25 rfl rfl
theorem zc_25 : zcv Tryz.prog 8 25 = .pv (.sl true 5 []) := by kernel_rfl
theorem z_25 : ZeroIs Tryz.prog 25 (.pv (.sl true 5 [])) := ZeroIs.one i_25 rfl rfl rfl rfl rfl
theorem i_27 : Tryz.prog.info? 27 = some Tryz.t27 := by kernel_rfl
theorem es_25 : eSize Tryz.prog 25 = 5 := by kernel_rfl
theorem eb_25 : eBytes Tryz.prog 25 = 88 := by kernel_rfl
theorem sl_25 : SlIs Tryz.prog 25 5 88 := SlIs.mk' Tryz.underlying25 i_27 rfl rfl rfl rfl (by decide)
theorem is_25 : IsSl Tryz.prog 25 := ⟨_, Tryz.underlying25⟩
theorem el_25 : elemOfT Tryz.prog 25 = 27 := by kernel_rfl
theorem ze_25 : zel Tryz.prog 25 = .agg [(.lit (.int .i64 0)), .agg [(.lit (.string ⟨#[]⟩)), (.sl true 2 [])], (.lit (.string ⟨#[]⟩)), (.sl true 5 [])] := by kernel_rfl
theorem ez_25 : ElemZero Tryz.prog 25 (.agg [(.lit (.int .i64 0)), .agg [(.lit (.string ⟨#[]⟩)), (.sl true 2 [])], (.lit (.string ⟨#[]⟩)), (.sl true 5 [])]) := ElemZero.mk' Tryz.underlying25 (ZeroIs.agg i_27 rfl rfl rfl)
theorem ty_27 : TyIs Tryz.prog 27 true 5 := TyIs.mk' Tryz.underlying27 i_27 rfl rfl
theorem zc_27 : zcv Tryz.prog 8 27 = .node [.pv (.lit (.int .i64 0)), .node [.pv (.lit (.string ⟨#[]⟩)), .pv (.sl true 2 [])], .pv (.lit (.string ⟨#[]⟩)), .pv (.sl true 5 [])] := by kernel_rfl
theorem z_27 : ZeroIs Tryz.prog 27 (.node [.pv (.lit (.int .i64 0)), .node [.pv (.lit (.string ⟨#[]⟩)), .pv (.sl true 2 [])], .pv (.lit (.string ⟨#[]⟩)), .pv (.sl true 5 [])]) := ZeroIs.agg i_27 rfl rfl rfl
theorem fo_27_0 : fOff Tryz.prog 27 0 = 0 := by kernel_rfl
theorem fi_27_0 : FieldIs Tryz.prog 27 0 0 := FieldIs.mk' Tryz.underlying27 rfl rfl i_3 (by decide)
theorem ft_27_0 : fldT Tryz.prog 27 0 = 3 := by kernel_rfl
theorem fo_27_1 : fOff Tryz.prog 27 1 = 1 := by kernel_rfl
theorem fi_27_1 : FieldIs Tryz.prog 27 1 1 := FieldIs.mk' Tryz.underlying27 rfl rfl i_24 (by decide)
theorem ft_27_1 : fldT Tryz.prog 27 1 = 24 := by kernel_rfl
theorem fo_27_2 : fOff Tryz.prog 27 2 = 3 := by kernel_rfl
theorem fi_27_2 : FieldIs Tryz.prog 27 2 3 := FieldIs.mk' Tryz.underlying27 rfl rfl i_9 (by decide)
theorem ft_27_2 : fldT Tryz.prog 27 2 = 9 := by kernel_rfl
theorem fo_27_3 : fOff Tryz.prog 27 3 = 4 := by kernel_rfl
theorem fi_27_3 : FieldIs Tryz.prog 27 3 4 := FieldIs.mk' Tryz.underlying27 rfl rfl i_25 (by decide)
theorem ft_27_3 : fldT Tryz.prog 27 3 = 25 := by kernel_rfl
theorem lay_27 : LayoutOk Tryz.prog 27 [.pv (.lit (.int .i64 0)), .node [.pv (.lit (.string ⟨#[]⟩)), .pv (.sl true 2 [])], .pv (.lit (.string ⟨#[]⟩)), .pv (.sl true 5 [])] := .inr ⟨_, Tryz.underlying27, rfl, fun k f hk => by match k, hk with | 0, hk => (obtain rfl := Option.some.inj hk; exact ⟨rfl, _, i_3, rfl⟩) | 1, hk => (obtain rfl := Option.some.inj hk; exact ⟨rfl, _, i_24, rfl⟩) | 2, hk => (obtain rfl := Option.some.inj hk; exact ⟨rfl, _, i_9, rfl⟩) | 3, hk => (obtain rfl := Option.some.inj hk; exact ⟨rfl, _, i_25, rfl⟩) | k + 4, hk => simp at hk⟩
theorem i_31 : Tryz.prog.info? 31 = some Tryz.t31 := by kernel_rfl
theorem ty_31 : TyIs Tryz.prog 31 false 1 := TyIs.mk' Tryz.underlying31 i_31 rfl rfl
theorem zc_31 : zcv Tryz.prog 8 31 = .pv (.sl true 2 []) := by kernel_rfl
theorem z_31 : ZeroIs Tryz.prog 31 (.pv (.sl true 2 [])) := ZeroIs.one i_31 rfl rfl rfl rfl rfl
theorem i_33 : Tryz.prog.info? 33 = some Tryz.t33 := by kernel_rfl
theorem es_31 : eSize Tryz.prog 31 = 2 := by kernel_rfl
theorem eb_31 : eBytes Tryz.prog 31 = 40 := by kernel_rfl
theorem sl_31 : SlIs Tryz.prog 31 2 40 := SlIs.mk' Tryz.underlying31 i_33 rfl rfl rfl rfl (by decide)
theorem is_31 : IsSl Tryz.prog 31 := ⟨_, Tryz.underlying31⟩
theorem el_31 : elemOfT Tryz.prog 31 = 33 := by kernel_rfl
theorem ze_31 : zel Tryz.prog 31 = .agg [(.lit (.string ⟨#[]⟩)), (.sl true 2 [])] := by kernel_rfl
theorem ez_31 : ElemZero Tryz.prog 31 (.agg [(.lit (.string ⟨#[]⟩)), (.sl true 2 [])]) := ElemZero.mk' Tryz.underlying31 (ZeroIs.agg i_33 rfl rfl rfl)
theorem ty_33 : TyIs Tryz.prog 33 true 2 := TyIs.mk' Tryz.underlying33 i_33 rfl rfl
theorem zc_33 : zcv Tryz.prog 8 33 = .node [.pv (.lit (.string ⟨#[]⟩)), .pv (.sl true 2 [])] := by kernel_rfl
theorem z_33 : ZeroIs Tryz.prog 33 (.node [.pv (.lit (.string ⟨#[]⟩)), .pv (.sl true 2 [])]) := ZeroIs.agg i_33 rfl rfl rfl
theorem fo_33_0 : fOff Tryz.prog 33 0 = 0 := by kernel_rfl
theorem fi_33_0 : FieldIs Tryz.prog 33 0 0 := FieldIs.mk' Tryz.underlying33 rfl rfl i_9 (by decide)
theorem ft_33_0 : fldT Tryz.prog 33 0 = 9 := by kernel_rfl
theorem fo_33_1 : fOff Tryz.prog 33 1 = 1 := by kernel_rfl
theorem fi_33_1 : FieldIs Tryz.prog 33 1 1 := FieldIs.mk' Tryz.underlying33 rfl rfl i_31 (by decide)
theorem ft_33_1 : fldT Tryz.prog 33 1 = 31 := by kernel_rfl
theorem lay_33 : LayoutOk Tryz.prog 33 [.pv (.lit (.string ⟨#[]⟩)), .pv (.sl true 2 [])] := .inr ⟨_, Tryz.underlying33, rfl, fun k f hk => by match k, hk with | 0, hk => (obtain rfl := Option.some.inj hk; exact ⟨rfl, _, i_9, rfl⟩) | 1, hk => (obtain rfl := Option.some.inj hk; exact ⟨rfl, _, i_31, rfl⟩) | k + 2, hk => simp at hk⟩
theorem i_34 : Tryz.prog.info? 34 = some Tryz.t34 := by kernel_rfl
theorem ty_34 : TyIs Tryz.prog 34 false 1 := TyIs.mk' Tryz.underlying34 i_34 rfl rfl
theorem zc_34 : zcv Tryz.prog 8 34 = .pv (.sl true 5 []) := by kernel_rfl
theorem z_34 : ZeroIs Tryz.prog 34 (.pv (.sl true 5 [])) := ZeroIs.one i_34 rfl rfl rfl rfl rfl
theorem i_36 : Tryz.prog.info? 36 = some Tryz.t36 := by kernel_rfl
theorem es_34 : eSize Tryz.prog 34 = 5 := by kernel_rfl
theorem eb_34 : eBytes Tryz.prog 34 = 88 := by kernel_rfl
theorem sl_34 : SlIs Tryz.prog 34 5 88 := SlIs.mk' Tryz.underlying34 i_36 rfl rfl rfl rfl (by decide)
theorem is_34 : IsSl Tryz.prog 34 := ⟨_, Tryz.underlying34⟩
theorem el_34 : elemOfT Tryz.prog 34 = 36 := by kernel_rfl
theorem ze_34 : zel Tryz.prog 34 = .agg [(.lit (.int .i64 0)), .agg [(.lit (.string ⟨#[]⟩)), (.sl true 2 [])], (.lit (.string ⟨#[]⟩)), (.sl true 5 [])] := by kernel_rfl
theorem ez_34 : ElemZero Tryz.prog 34 (.agg [(.lit (.int .i64 0)), .agg [(.lit (.string ⟨#[]⟩)), (.sl true 2 [])], (.lit (.string ⟨#[]⟩)), (.sl true 5 [])]) := ElemZero.mk' Tryz.underlying34 (ZeroIs.agg i_36 rfl rfl rfl)
theorem ty_36 : TyIs Tryz.prog 36 true 5 := TyIs.mk' Tryz.underlying36 i_36 rfl rfl
theorem zc_36 : zcv Tryz.prog 8 36 = .node [.pv (.lit (.int .i64 0)), .node [.pv (.lit (.string ⟨#[]⟩)), .pv (.sl true 2 [])], .pv (.lit (.string ⟨#[]⟩)), .pv (.sl true 5 [])] := by kernel_rfl
theorem z_36 : ZeroIs Tryz.prog 36 (.node [.pv (.lit (.int .i64 0)), .node [.pv (.lit (.string ⟨#[]⟩)), .pv (.sl true 2 [])], .pv (.lit (.string ⟨#[]⟩)), .pv (.sl true 5 [])]) := ZeroIs.agg i_36 rfl rfl rfl
theorem fo_36_0 : fOff Tryz.prog 36 0 = 0 := by kernel_rfl
theorem fi_36_0 : FieldIs Tryz.prog 36 0 0 := FieldIs.mk' Tryz.underlying36 rfl rfl i_3 (by decide)
theorem ft_36_0 : fldT Tryz.prog 36 0 = 3 := by kernel_rfl
theorem fo_36_1 : fOff Tryz.prog 36 1 = 1 := by kernel_rfl
theorem fi_36_1 : FieldIs Tryz.prog 36 1 1 := FieldIs.mk' Tryz.underlying36 rfl rfl i_33 (by decide)
theorem ft_36_1 : fldT Tryz.prog 36 1 = 33 := by kernel_rfl
theorem fo_36_2 : fOff Tryz.prog 36 2 = 3 := by kernel_rfl
theorem fi_36_2 : FieldIs Tryz.prog 36 2 3 := FieldIs.mk' Tryz.underlying36 rfl rfl i_9 (by decide)
theorem ft_36_2 : fldT Tryz.prog 36 2 = 9 := by kernel_rfl
theorem fo_36_3 : fOff Tryz.prog 36 3 = 4 := by kernel_rfl
theorem fi_36_3 : FieldIs Tryz.prog 36 3 4 := FieldIs.mk' Tryz.underlying36 rfl rfl i_34 (by decide)
theorem ft_36_3 : fldT Tryz.prog 36 3 = 34 := by kernel_rfl
theorem lay_36 : LayoutOk Tryz.prog 36 [.pv (.lit (.int .i64 0)), .node [.pv (.lit (.string ⟨#[]⟩)), .pv (.sl true 2 [])], .pv (.lit (.string ⟨#[]⟩)), .pv (.sl true 5 [])] := .inr ⟨_, Tryz.underlying36, rfl, fun k f hk => by match k, hk with | 0, hk => (obtain rfl := Option.some.inj hk; exact ⟨rfl, _, i_3, rfl⟩) | 1, hk => (obtain rfl := Option.some.inj hk; exact ⟨rfl, _, i_33, rfl⟩) | 2, hk => (obtain rfl := Option.some.inj hk; exact ⟨rfl, _, i_9, rfl⟩) | 3, hk => (obtain rfl := Option.some.inj hk; exact ⟨rfl, _, i_34, rfl⟩) | k + 4, hk => simp at hk⟩
theorem i_38 : Tryz.prog.info? 38 = some Tryz.t38 := by kernel_rfl
theorem ty_38 : TyIs Tryz.prog 38 false 1 := TyIs.mk' Tryz.underlying38 i_38 rfl rfl
theorem zc_38 : zcv Tryz.prog 8 38 = .pv (.lit .nilFunc) := by kernel_rfl
theorem z_38 : ZeroIs Tryz.prog 38 (.pv (.lit .nilFunc)) := ZeroIs.one i_38 rfl rfl rfl rfl rfl
theorem i_60 : Tryz.prog.info? 60 = some Tryz.t60 := by kernel_rfl
theorem ty_60 : TyIs Tryz.prog 60 false 1 := TyIs.mk' Tryz.underlying60 i_60 rfl rfl
theorem zc_60 : zcv Tryz.prog 8 60 = .pv (.lit .nilFunc) := by kernel_rfl
theorem z_60 : ZeroIs Tryz.prog 60 (.pv (.lit .nilFunc)) := ZeroIs.one i_60 rfl rfl rfl rfl rfl
theorem i_63 : Tryz.prog.info? 63 = some Tryz.t63 := by kernel_rfl
theorem ty_63 : TyIs Tryz.prog 63 false 1 := TyIs.mk' Tryz.underlying63 i_63 rfl rfl
theorem zc_63 : zcv Tryz.prog 8 63 = .pv (.lit .nilFunc) := by kernel_rfl
theorem z_63 : ZeroIs Tryz.prog 63 (.pv (.lit .nilFunc)) := ZeroIs.one i_63 rfl rfl rfl rfl rfl
theorem i_69 : Tryz.prog.info? 69 = some Tryz.t69 := by kernel_rfl
theorem ty_69 : TyIs Tryz.prog 69 false 1 := TyIs.mk' Tryz.underlying69 i_69 rfl rfl
theorem zc_69 : zcv Tryz.prog 8 69 = .pv (.lit .nilFunc) := by kernel_rfl
theorem z_69 : ZeroIs Tryz.prog 69 (.pv (.lit .nilFunc)) := ZeroIs.one i_69 rfl rfl rfl rfl rfl
theorem i_79 : Tryz.prog.info? 79 = some Tryz.t79 := by kernel_rfl
theorem ty_79 : TyIs Tryz.prog 79 false 1 := TyIs.mk' Tryz.underlying79 i_79 rfl rfl
theorem zc_79 : zcv Tryz.prog 8 79 = .pv (.sl true 1 []) := by kernel_rfl
theorem z_79 : ZeroIs Tryz.prog 79 (.pv (.sl true 1 [])) := ZeroIs.one i_79 rfl rfl rfl rfl rfl
theorem es_79 : eSize Tryz.prog 79 = 1 := by kernel_rfl
theorem eb_79 : eBytes Tryz.prog 79 = 16 := by kernel_rfl
theorem sl_79 : SlIs Tryz.prog 79 1 16 := SlIs.mk' Tryz.underlying79 i_9 rfl rfl rfl rfl (by decide)
theorem is_79 : IsSl Tryz.prog 79 := ⟨_, Tryz.underlying79⟩
theorem el_79 : elemOfT Tryz.prog 79 = 9 := by kernel_rfl
theorem ze_79 : zel Tryz.prog 79 = (.lit (.string ⟨#[]⟩)) := by kernel_rfl
theorem ez_79 : ElemZero Tryz.prog 79 ((.lit (.string ⟨#[]⟩))) := ElemZero.mk' Tryz.underlying79 (ZeroIs.one i_9 rfl rfl rfl rfl rfl)
theorem i_91 : Tryz.prog.info? 91 = some Tryz.t91 := by kernel_rfl
theorem ty_91 : TyIs Tryz.prog 91 false 1 := TyIs.mk' Tryz.underlying91 i_91 rfl rfl
theorem zc_91 : zcv Tryz.prog 8 91 = .pv (.sl true 3 []) := by kernel_rfl
theorem z_91 : ZeroIs Tryz.prog 91 (.pv (.sl true 3 [])) := ZeroIs.one i_91 rfl rfl rfl rfl rfl
theorem i_116 : Tryz.prog.info? 116 = some Tryz.t116 := by kernel_rfl
theorem es_91 : eSize Tryz.prog 91 = 3 := by kernel_rfl
theorem eb_91 : eBytes Tryz.prog 91 = 56 := by kernel_rfl
theorem sl_91 : SlIs Tryz.prog 91 3 56 := SlIs.mk' Tryz.underlying91 i_116 rfl rfl rfl rfl (by decide)
theorem is_91 : IsSl Tryz.prog 91 := ⟨_, Tryz.underlying91⟩
theorem el_91 : elemOfT Tryz.prog 91 = 116 := by kernel_rfl
theorem ze_91 : zel Tryz.prog 91 = .agg [(.lit (.string ⟨#[]⟩)), .agg [(.lit (.string ⟨#[]⟩)), (.sl true 2 [])]] := by kernel_rfl
theorem ez_91 : ElemZero Tryz.prog 91 (.agg [(.lit (.string ⟨#[]⟩)), .agg [(.lit (.string ⟨#[]⟩)), (.sl true 2 [])]]) := ElemZero.mk' Tryz.underlying91 (ZeroIs.agg i_116 rfl rfl rfl)
theorem i_93 : Tryz.prog.info? 93 = some Tryz.t93 := by kernel_rfl
theorem ty_93 : TyIs Tryz.prog 93 true 1 := TyIs.mk' Tryz.underlying93 i_93 rfl rfl
theorem zc_93 : zcv Tryz.prog 8 93 = .node [.pv (.sl true 3 [])] := by kernel_rfl
theorem z_93 : ZeroIs Tryz.prog 93 (.node [.pv (.sl true 3 [])]) := ZeroIs.agg i_93 rfl rfl rfl
theorem fo_93_0 : fOff Tryz.prog 93 0 = 0 := by kernel_rfl
theorem fi_93_0 : FieldIs Tryz.prog 93 0 0 := FieldIs.mk' Tryz.underlying93 rfl rfl i_91 (by decide)
theorem ft_93_0 : fldT Tryz.prog 93 0 = 91 := by kernel_rfl
theorem lay_93 : LayoutOk Tryz.prog 93 [.pv (.sl true 3 [])] := .inr ⟨_, Tryz.underlying93, rfl, fun k f hk => by match k, hk with | 0, hk => (obtain rfl := Option.some.inj hk; exact ⟨rfl, _, i_91, rfl⟩) | k + 1, hk => simp at hk⟩
theorem i_95 : Tryz.prog.info? 95 = some Tryz.t95 := by kernel_rfl
theorem ty_95 : TyIs Tryz.prog 95 false 1 := TyIs.mk' Tryz.underlying95 i_95 rfl rfl
theorem zc_95 : zcv Tryz.prog 8 95 = .pv (.lit .nilFunc) := by kernel_rfl
theorem z_95 : ZeroIs Tryz.prog 95 (.pv (.lit .nilFunc)) := ZeroIs.one i_95 rfl rfl rfl rfl rfl
theorem ty_116 : TyIs Tryz.prog 116 true 3 := TyIs.mk' Tryz.underlying116 i_116 rfl rfl
theorem zc_116 : zcv Tryz.prog 8 116 = .node [.pv (.lit (.string ⟨#[]⟩)), .node [.pv (.lit (.string ⟨#[]⟩)), .pv (.sl true 2 [])]] := by kernel_rfl
theorem z_116 : ZeroIs Tryz.prog 116 (.node [.pv (.lit (.string ⟨#[]⟩)), .node [.pv (.lit (.string ⟨#[]⟩)), .pv (.sl true 2 [])]]) := ZeroIs.agg i_116 rfl rfl rfl
theorem fo_116_0 : fOff Tryz.prog 116 0 = 0 := by kernel_rfl
theorem fi_116_0 : FieldIs Tryz.prog 116 0 0 := FieldIs.mk' Tryz.underlying116 rfl rfl i_9 (by decide)
theorem ft_116_0 : fldT Tryz.prog 116 0 = 9 := by kernel_rfl
theorem fo_116_1 : fOff Tryz.prog 116 1 = 1 := by kernel_rfl
theorem fi_116_1 : FieldIs Tryz.prog 116 1 1 := FieldIs.mk' Tryz.underlying116 rfl rfl i_33 (by decide)
theorem ft_116_1 : fldT Tryz.prog 116 1 = 33 := by kernel_rfl
theorem lay_116 : LayoutOk Tryz.prog 116 [.pv (.lit (.string ⟨#[]⟩)), .node [.pv (.lit (.string ⟨#[]⟩)), .pv (.sl true 2 [])]] := .inr ⟨_, Tryz.underlying116, rfl, fun k f hk => by match k, hk with | 0, hk => (obtain rfl := Option.some.inj hk; exact ⟨rfl, _, i_9, rfl⟩) | 1, hk => (obtain rfl := Option.some.inj hk; exact ⟨rfl, _, i_33, rfl⟩) | k + 2, hk => simp at hk⟩
theorem i_123 : Tryz.prog.info? 123 = some Tryz.t123 := by kernel_rfl
theorem ty_123 : TyIs Tryz.prog 123 false 1 := TyIs.mk' Tryz.underlying123 i_123 rfl rfl
theorem zc_123 : zcv Tryz.prog 8 123 = .pv (.lit (.int .u64 0)) := by kernel_rfl
theorem z_123 : ZeroIs Tryz.prog 123 (.pv (.lit (.int .u64 0))) := ZeroIs.one i_123 rfl rfl rfl rfl rfl
theorem i_155 : Tryz.prog.info? 155 = some Tryz.t155 := by kernel_rfl
theorem ty_155 : TyIs Tryz.prog 155 false 1 := TyIs.mk' Tryz.underlying155 i_155 rfl rfl
theorem zc_155 : zcv Tryz.prog 8 155 = .pv (.lit .nilFunc) := by kernel_rfl
theorem z_155 : ZeroIs Tryz.prog 155 (.pv (.lit .nilFunc)) := ZeroIs.one i_155 rfl rfl rfl rfl rfl
theorem uk_3 : Tryz.prog.underlying 3 = some (.int .i64) := Tryz.underlying3
theorem uk_123 : Tryz.prog.underlying 123 = some (.int .u64) := Tryz.underlying123
attribute [push_cast] ty_3 zc_3 z_3 ty_9 zc_9 z_9 u_9 ty_22 zc_22 z_22 es_22 eb_22 sl_22 is_22 el_22 ze_22 ez_22 ty_24 zc_24 z_24 fo_24_0 fi_24_0 ft_24_0 fo_24_1 fi_24_1 ft_24_1 lay_24 ty_25 zc_25 z_25 es_25 eb_25 sl_25 is_25 el_25 ze_25 ez_25 ty_27 zc_27 z_27 fo_27_0 fi_27_0 ft_27_0 fo_27_1 fi_27_1 ft_27_1 fo_27_2 fi_27_2 ft_27_2 fo_27_3 fi_27_3 ft_27_3 lay_27 ty_31 zc_31 z_31 es_31 eb_31 sl_31 is_31 el_31 ze_31 ez_31 ty_33 zc_33 z_33 fo_33_0 fi_33_0 ft_33_0 fo_33_1 fi_33_1 ft_33_1 lay_33 ty_34 zc_34 z_34 es_34 eb_34 sl_34 is_34 el_34 ze_34 ez_34 ty_36 zc_36 z_36 fo_36_0 fi_36_0 ft_36_0 fo_36_1 fi_36_1 ft_36_1 fo_36_2 fi_36_2 ft_36_2 fo_36_3 fi_36_3 ft_36_3 lay_36 ty_5 zc_5 z_5 ty_4 zc_4 z_4 u_4 mixedT ty_91 zc_91 z_91 es_91 eb_91 sl_91 is_91 el_91 ze_91 ez_91 ty_93 zc_93 z_93 fo_93_0 fi_93_0 ft_93_0 lay_93 ty_116 zc_116 z_116 fo_116_0 fi_116_0 ft_116_0 fo_116_1 fi_116_1 ft_116_1 lay_116 ty_79 zc_79 z_79 es_79 eb_79 sl_79 is_79 el_79 ze_79 ez_79 ty_95 zc_95 z_95 ty_60 zc_60 z_60 ty_123 zc_123 z_123 uk_3 uk_123 ty_69 zc_69 z_69 ty_155 zc_155 z_155 ty_63 zc_63 z_63 ty_38 zc_38 z_38
end Go.Proofs.YtgkgihdafalimaaGreat
