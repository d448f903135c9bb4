/- A part of the proof: lemmas only; nothing is claimed here beyond what each lemma says. -/
import Derived.Test.YtkokcfphepmeeaaGreatDoorAvO
import Derived.Test.YtkokcfphepmeeaaGreatDoorChecked
import Derived.KernelRfl
set_option linter.unusedSimpArgs false
set_option linter.unusedVariables false
set_option linter.defProp false
set_option maxRecDepth 4000
namespace Go.Proofs.YtkokcfphepmeeaaGreatDoor
open Go.Av
theorem mixed : Tryz.prog.follows .mixedOrders = true := by kernel_rfl
theorem mixedT : (Tryz.prog.follows .mixedOrders = true) = True := eq_true mixed
theorem i_2 : Tryz.prog.info? 2 = some Tryz.t2 := by kernel_rfl
theorem ty_2 : TyIs Tryz.prog 2 false 1 := TyIs.mk' Tryz.underlying2 i_2 rfl rfl
theorem zc_2 : zcv Tryz.prog 8 2 = .pv (.lit (.int .i64 0)) := by kernel_rfl
theorem z_2 : ZeroIs Tryz.prog 2 (.pv (.lit (.int .i64 0))) := ZeroIs.one i_2 rfl rfl rfl rfl rfl
theorem i_3 : Tryz.prog.info? 3 = some Tryz.t3 := by kernel_rfl
theorem ty_3 : TyIs Tryz.prog 3 false 1 := TyIs.mk' Tryz.underlying3 i_3 rfl rfl
theorem zc_3 : zcv Tryz.prog 8 3 = .pv (.lit (.int .i64 0)) := by kernel_rfl
theorem z_3 : ZeroIs Tryz.prog 3 (.pv (.lit (.int .i64 0))) := ZeroIs.one i_3 rfl rfl rfl rfl rfl
theorem i_4 : Tryz.prog.info? 4 = some Tryz.t4 := by kernel_rfl
theorem ty_4 : TyIs Tryz.prog 4 false 1 := TyIs.mk' Tryz.underlying4 i_4 rfl rfl
theorem zc_4 : zcv Tryz.prog 8 4 = .pv (.lit (.bool false)) := by kernel_rfl
theorem z_4 : ZeroIs Tryz.prog 4 (.pv (.lit (.bool false))) := ZeroIs.one i_4 rfl rfl rfl rfl rfl
theorem u_4 : (Tryz.prog.underlying 4 = some .bool) = True := eq_true Tryz.underlying4
theorem i_5 : Tryz.prog.info? 5 = some Tryz.t5 := by kernel_rfl
theorem ty_5 : TyIs Tryz.prog 5 false 1 := TyIs.mk' Tryz.underlying5 i_5 rfl rfl
theorem zc_5 : zcv Tryz.prog 8 5 = .pv (.lit (.int .u8 0)) := by kernel_rfl
theorem z_5 : ZeroIs Tryz.prog 5 (.pv (.lit (.int .u8 0))) := ZeroIs.one i_5 rfl rfl rfl rfl rfl
theorem i_9 : Tryz.prog.info? 9 = some Tryz.t9 := by kernel_rfl
theorem ty_9 : TyIs Tryz.prog 9 false 1 := TyIs.mk' Tryz.underlying9 i_9 rfl rfl
theorem zc_9 : zcv Tryz.prog 8 9 = .pv (.lit (.string ⟨#[]⟩)) := by kernel_rfl
theorem z_9 : ZeroIs Tryz.prog 9 (.pv (.lit (.string ⟨#[]⟩))) := ZeroIs.one i_9 rfl rfl rfl rfl rfl
theorem u_9 : (Tryz.prog.underlying 9 = some .string) = True := eq_true Tryz.underlying9
theorem i_22 : Tryz.prog.info? 22 = some Tryz.t22 := by kernel_rfl
theorem ty_22 : TyIs Tryz.prog 22 false 1 := TyIs.mk' Tryz.underlying22 i_22 rfl rfl
theorem zc_22 : zcv Tryz.prog 8 22 = .pv (.sl true 2 []) := by kernel_rfl
theorem z_22 : ZeroIs Tryz.prog 22 (.pv (.sl true 2 [])) := ZeroIs.one i_22 rfl rfl rfl rfl rfl
theorem i_24 : Tryz.prog.info? 24 = some Tryz.t24 := by kernel_rfl
theorem es_22 : eSize Tryz.prog 22 = 2 := by kernel_rfl
theorem eb_22 : eBytes Tryz.prog 22 = 40 := by kernel_rfl
theorem sl_22 : SlIs Tryz.prog 22 2 40 := SlIs.mk' Tryz.underlying22 i_24 rfl rfl rfl rfl (by decide)
theorem is_22 : IsSl Tryz.prog 22 := ⟨_, Tryz.underlying22⟩
theorem el_22 : elemOfT Tryz.prog 22 = 24 := by kernel_rfl
theorem ze_22 : zel Tryz.prog 22 = .agg [(.lit (.string ⟨#[]⟩)), (.sl true 2 [])] := by kernel_rfl
theorem ez_22 : ElemZero Tryz.prog 22 (.agg [(.lit (.string ⟨#[]⟩)), (.sl true 2 [])]) := ElemZero.mk' Tryz.underlying22 (ZeroIs.agg i_24 rfl rfl rfl)
theorem ty_24 : TyIs Tryz.prog 24 true 2 := TyIs.mk' Tryz.underlying24 i_24 rfl rfl
theorem zc_24 : zcv Tryz.prog 8 24 = .node [.pv (.lit (.string ⟨#[]⟩)), .pv (.sl true 2 [])] := by kernel_rfl
theorem z_24 : ZeroIs Tryz.prog 24 (.node [.pv (.lit (.string ⟨#[]⟩)), .pv (.sl true 2 [])]) := ZeroIs.agg i_24 rfl rfl rfl
theorem fo_24_0 : fOff Tryz.prog 24 0 = 0 := by kernel_rfl
theorem fi_24_0 : FieldIs Tryz.prog 24 0 0 := FieldIs.mk' Tryz.underlying24 rfl rfl i_9 (by decide)
theorem ft_24_0 : fldT Tryz.prog 24 0 = 9 := by kernel_rfl
theorem fo_24_1 : fOff Tryz.prog 24 1 = 1 := by kernel_rfl
theorem fi_24_1 : FieldIs Tryz.prog 24 1 1 := FieldIs.mk' Tryz.underlying24 rfl rfl i_22 (by decide)
theorem ft_24_1 : fldT Tryz.prog 24 1 = 22 := by kernel_rfl
theorem lay_24 : LayoutOk Tryz.prog 24 [.pv (.lit (.string ⟨#[]⟩)), .pv (.sl true 2 [])] := ⟨_, Tryz.underlying24, rfl, fun k f hk => by match k, hk with | 0, hk => (obtain rfl := Option.some.inj hk; exact ⟨rfl, _, i_9, rfl⟩) | 1, hk => (obtain rfl := Option.some.inj hk; exact ⟨rfl, _, i_22, rfl⟩) | k + 2, hk => simp at hk⟩
theorem i_25 : Tryz.prog.info? 25 = some Tryz.t25 := by kernel_rfl
theorem ty_25 : TyIs Tryz.prog 25 false 1 := TyIs.mk' Tryz.underlying25 i_25 rfl rfl
theorem zc_25 : zcv Tryz.prog 8 25 = .pv (.sl true 5 []) := by kernel_rfl
theorem z_25 : ZeroIs Tryz.prog 25 (.pv (.sl true 5 [])) := ZeroIs.one i_25 rfl rfl rfl rfl rfl
theorem i_27 : Tryz.prog.info? 27 = some Tryz.t27 := by kernel_rfl
theorem es_25 : eSize Tryz.prog 25 = 5 := by kernel_rfl
theorem eb_25 : eBytes Tryz.prog 25 = 88 := by kernel_rfl
theorem sl_25 : SlIs Tryz.prog 25 5 88 := SlIs.mk' Tryz.underlying25 i_27 rfl rfl rfl rfl (by decide)
theorem is_25 : IsSl Tryz.prog 25 := ⟨_, Tryz.underlying25⟩
theorem el_25 : elemOfT Tryz.prog 25 = 27 := by kernel_rfl
theorem ze_25 : zel Tryz.prog 25 = .agg [(.lit (.int .i64 0)), .agg [(.lit (.string ⟨#[]⟩)), (.sl true 2 [])], (.lit (.string ⟨#[]⟩)), (.sl true 5 [])] := by kernel_rfl
theorem ez_25 : ElemZero Tryz.prog 25 (.agg [(.lit (.int .i64 0)), .agg [(.lit (.string ⟨#[]⟩)), (.sl true 2 [])], (.lit (.string ⟨#[]⟩)), (.sl true 5 [])]) := ElemZero.mk' Tryz.underlying25 (ZeroIs.agg i_27 rfl rfl rfl)
theorem ty_27 : TyIs Tryz.prog 27 true 5 := TyIs.mk' Tryz.underlying27 i_27 rfl rfl
theorem zc_27 : zcv Tryz.prog 8 27 = .node [.pv (.lit (.int .i64 0)), .node [.pv (.lit (.string ⟨#[]⟩)), .pv (.sl true 2 [])], .pv (.lit (.string ⟨#[]⟩)), .pv (.sl true 5 [])] := by kernel_rfl
theorem z_27 : ZeroIs Tryz.prog 27 (.node [.pv (.lit (.int .i64 0)), .node [.pv (.lit (.string ⟨#[]⟩)), .pv (.sl true 2 [])], .pv (.lit (.string ⟨#[]⟩)), .pv (.sl true 5 [])]) := ZeroIs.agg i_27 rfl rfl rfl
theorem fo_27_0 : fOff Tryz.prog 27 0 = 0 := by kernel_rfl
theorem fi_27_0 : FieldIs Tryz.prog 27 0 0 := FieldIs.mk' Tryz.underlying27 rfl rfl i_3 (by decide)
theorem ft_27_0 : fldT Tryz.prog 27 0 = 3 := by kernel_rfl
theorem fo_27_1 : fOff Tryz.prog 27 1 = 1 := by kernel_rfl
theorem fi_27_1 : FieldIs Tryz.prog 27 1 1 := FieldIs.mk' Tryz.underlying27 rfl rfl i_24 (by decide)
theorem ft_27_1 : fldT Tryz.prog 27 1 = 24 := by kernel_rfl
theorem fo_27_2 : fOff Tryz.prog 27 2 = 3 := by kernel_rfl
theorem fi_27_2 : FieldIs Tryz.prog 27 2 3 := FieldIs.mk' Tryz.underlying27 rfl rfl i_9 (by decide)
theorem ft_27_2 : fldT Tryz.prog 27 2 = 9 := by kernel_rfl
theorem fo_27_3 : fOff Tryz.prog 27 3 = 4 := by kernel_rfl
theorem fi_27_3 : FieldIs Tryz.prog 27 3 4 := FieldIs.mk' Tryz.underlying27 rfl rfl i_25 (by decide)
theorem ft_27_3 : fldT Tryz.prog 27 3 = 25 := by kernel_rfl
theorem lay_27 : LayoutOk Tryz.prog 27 [.pv (.lit (.int .i64 0)), .node [.pv (.lit (.string ⟨#[]⟩)), .pv (.sl true 2 [])], .pv (.lit (.string ⟨#[]⟩)), .pv (.sl true 5 [])] := ⟨_, Tryz.underlying27, rfl, fun k f hk => by match k, hk with | 0, hk => (obtain rfl := Option.some.inj hk; exact ⟨rfl, _, i_3, rfl⟩) | 1, hk => (obtain rfl := Option.some.inj hk; exact ⟨rfl, _, i_24, rfl⟩) | 2, hk => (obtain rfl := Option.some.inj hk; exact ⟨rfl, _, i_9, rfl⟩) | 3, hk => (obtain rfl := Option.some.inj hk; exact ⟨rfl, _, i_25, rfl⟩) | k + 4, hk => simp at hk⟩
theorem i_28 : Tryz.prog.info? 28 = some Tryz.t28 := by kernel_rfl
theorem ty_28 : TyIs Tryz.prog 28 false 1 := TyIs.mk' Tryz.underlying28 i_28 rfl rfl
theorem zc_28 : zcv Tryz.prog 8 28 = .pv (.sl true 1 []) := by kernel_rfl
theorem z_28 : ZeroIs Tryz.prog 28 (.pv (.sl true 1 [])) := ZeroIs.one i_28 rfl rfl rfl rfl rfl
theorem es_28 : eSize Tryz.prog 28 = 1 := by kernel_rfl
theorem eb_28 : eBytes Tryz.prog 28 = 8 := by kernel_rfl
theorem sl_28 : SlIs Tryz.prog 28 1 8 := SlIs.mk' Tryz.underlying28 i_3 rfl rfl rfl rfl (by decide)
theorem is_28 : IsSl Tryz.prog 28 := ⟨_, Tryz.underlying28⟩
theorem el_28 : elemOfT Tryz.prog 28 = 3 := by kernel_rfl
theorem ze_28 : zel Tryz.prog 28 = (.lit (.int .i64 0)) := by kernel_rfl
theorem ez_28 : ElemZero Tryz.prog 28 ((.lit (.int .i64 0))) := ElemZero.mk' Tryz.underlying28 (ZeroIs.one i_3 rfl rfl rfl rfl rfl)
theorem i_32 : Tryz.prog.info? 32 = some Tryz.t32 := by kernel_rfl
theorem ty_32 : TyIs Tryz.prog 32 false 1 := TyIs.mk' Tryz.underlying32 i_32 rfl rfl
theorem zc_32 : zcv Tryz.prog 8 32 = .pv (.sl true 2 []) := by kernel_rfl
theorem z_32 : ZeroIs Tryz.prog 32 (.pv (.sl true 2 [])) := ZeroIs.one i_32 rfl rfl rfl rfl rfl
theorem i_34 : Tryz.prog.info? 34 = some Tryz.t34 := by kernel_rfl
theorem es_32 : eSize Tryz.prog 32 = 2 := by kernel_rfl
theorem eb_32 : eBytes Tryz.prog 32 = 40 := by kernel_rfl
theorem sl_32 : SlIs Tryz.prog 32 2 40 := SlIs.mk' Tryz.underlying32 i_34 rfl rfl rfl rfl (by decide)
theorem is_32 : IsSl Tryz.prog 32 := ⟨_, Tryz.underlying32⟩
theorem el_32 : elemOfT Tryz.prog 32 = 34 := by kernel_rfl
theorem ze_32 : zel Tryz.prog 32 = .agg [(.lit (.string ⟨#[]⟩)), (.sl true 2 [])] := by kernel_rfl
theorem ez_32 : ElemZero Tryz.prog 32 (.agg [(.lit (.string ⟨#[]⟩)), (.sl true 2 [])]) := ElemZero.mk' Tryz.underlying32 (ZeroIs.agg i_34 rfl rfl rfl)
theorem ty_34 : TyIs Tryz.prog 34 true 2 := TyIs.mk' Tryz.underlying34 i_34 rfl rfl
theorem zc_34 : zcv Tryz.prog 8 34 = .node [.pv (.lit (.string ⟨#[]⟩)), .pv (.sl true 2 [])] := by kernel_rfl
theorem z_34 : ZeroIs Tryz.prog 34 (.node [.pv (.lit (.string ⟨#[]⟩)), .pv (.sl true 2 [])]) := ZeroIs.agg i_34 rfl rfl rfl
theorem fo_34_0 : fOff Tryz.prog 34 0 = 0 := by kernel_rfl
theorem fi_34_0 : FieldIs Tryz.prog 34 0 0 := FieldIs.mk' Tryz.underlying34 rfl rfl i_9 (by decide)
theorem ft_34_0 : fldT Tryz.prog 34 0 = 9 := by kernel_rfl
theorem fo_34_1 : fOff Tryz.prog 34 1 = 1 := by kernel_rfl
theorem fi_34_1 : FieldIs Tryz.prog 34 1 1 := FieldIs.mk' Tryz.underlying34 rfl rfl i_32 (by decide)
theorem ft_34_1 : fldT Tryz.prog 34 1 = 32 := by kernel_rfl
theorem lay_34 : LayoutOk Tryz.prog 34 [.pv (.lit (.string ⟨#[]⟩)), .pv (.sl true 2 [])] := ⟨_, Tryz.underlying34, rfl, fun k f hk => by match k, hk with | 0, hk => (obtain rfl := Option.some.inj hk; exact ⟨rfl, _, i_9, rfl⟩) | 1, hk => (obtain rfl := Option.some.inj hk; exact ⟨rfl, _, i_32, rfl⟩) | k + 2, hk => simp at hk⟩
theorem i_35 : Tryz.prog.info? 35 = some Tryz.t35 := by kernel_rfl
theorem ty_35 : TyIs Tryz.prog 35 false 1 := TyIs.mk' Tryz.underlying35 i_35 rfl rfl
theorem zc_35 : zcv Tryz.prog 8 35 = .pv (.sl true 5 []) := by kernel_rfl
theorem z_35 : ZeroIs Tryz.prog 35 (.pv (.sl true 5 [])) := ZeroIs.one i_35 rfl rfl rfl rfl rfl
theorem i_37 : Tryz.prog.info? 37 = some Tryz.t37 := by kernel_rfl
theorem es_35 : eSize Tryz.prog 35 = 5 := by kernel_rfl
theorem eb_35 : eBytes Tryz.prog 35 = 88 := by kernel_rfl
theorem sl_35 : SlIs Tryz.prog 35 5 88 := SlIs.mk' Tryz.underlying35 i_37 rfl rfl rfl rfl (by decide)
theorem is_35 : IsSl Tryz.prog 35 := ⟨_, Tryz.underlying35⟩
theorem el_35 : elemOfT Tryz.prog 35 = 37 := by kernel_rfl
theorem ze_35 : zel Tryz.prog 35 = .agg [(.lit (.int .i64 0)), .agg [(.lit (.string ⟨#[]⟩)), (.sl true 2 [])], (.lit (.string ⟨#[]⟩)), (.sl true 5 [])] := by kernel_rfl
theorem ez_35 : ElemZero Tryz.prog 35 (.agg [(.lit (.int .i64 0)), .agg [(.lit (.string ⟨#[]⟩)), (.sl true 2 [])], (.lit (.string ⟨#[]⟩)), (.sl true 5 [])]) := ElemZero.mk' Tryz.underlying35 (ZeroIs.agg i_37 rfl rfl rfl)
theorem ty_37 : TyIs Tryz.prog 37 true 5 := TyIs.mk' Tryz.underlying37 i_37 rfl rfl
theorem zc_37 : zcv Tryz.prog 8 37 = .node [.pv (.lit (.int .i64 0)), .node [.pv (.lit (.string ⟨#[]⟩)), .pv (.sl true 2 [])], .pv (.lit (.string ⟨#[]⟩)), .pv (.sl true 5 [])] := by kernel_rfl
theorem z_37 : ZeroIs Tryz.prog 37 (.node [.pv (.lit (.int .i64 0)), .node [.pv (.lit (.string ⟨#[]⟩)), .pv (.sl true 2 [])], .pv (.lit (.string ⟨#[]⟩)), .pv (.sl true 5 [])]) := ZeroIs.agg i_37 rfl rfl rfl
theorem fo_37_0 : fOff Tryz.prog 37 0 = 0 := by kernel_rfl
theorem fi_37_0 : FieldIs Tryz.prog 37 0 0 := FieldIs.mk' Tryz.underlying37 rfl rfl i_3 (by decide)
theorem ft_37_0 : fldT Tryz.prog 37 0 = 3 := by kernel_rfl
theorem fo_37_1 : fOff Tryz.prog 37 1 = 1 := by kernel_rfl
theorem fi_37_1 : FieldIs Tryz.prog 37 1 1 := FieldIs.mk' Tryz.underlying37 rfl rfl i_34 (by decide)
theorem ft_37_1 : fldT Tryz.prog 37 1 = 34 := by kernel_rfl
theorem fo_37_2 : fOff Tryz.prog 37 2 = 3 := by kernel_rfl
theorem fi_37_2 : FieldIs Tryz.prog 37 2 3 := FieldIs.mk' Tryz.underlying37 rfl rfl i_9 (by decide)
theorem ft_37_2 : fldT Tryz.prog 37 2 = 9 := by kernel_rfl
theorem fo_37_3 : fOff Tryz.prog 37 3 = 4 := by kernel_rfl
theorem fi_37_3 : FieldIs Tryz.prog 37 3 4 := FieldIs.mk' Tryz.underlying37 rfl rfl i_35 (by decide)
theorem ft_37_3 : fldT Tryz.prog 37 3 = 35 := by kernel_rfl
theorem lay_37 : LayoutOk Tryz.prog 37 [.pv (.lit (.int .i64 0)), .node [.pv (.lit (.string ⟨#[]⟩)), .pv (.sl true 2 [])], .pv (.lit (.string ⟨#[]⟩)), .pv (.sl true 5 [])] := ⟨_, Tryz.underlying37, rfl, fun k f hk => by match k, hk with | 0, hk => (obtain rfl := Option.some.inj hk; exact ⟨rfl, _, i_3, rfl⟩) | 1, hk => (obtain rfl := Option.some.inj hk; exact ⟨rfl, _, i_34, rfl⟩) | 2, hk => (obtain rfl := Option.some.inj hk; exact ⟨rfl, _, i_9, rfl⟩) | 3, hk => (obtain rfl := Option.some.inj hk; exact ⟨rfl, _, i_35, rfl⟩) | k + 4, hk => simp at hk⟩
theorem i_45 : Tryz.prog.info? 45 = some Tryz.t45 := by kernel_rfl
theorem ty_45 : TyIs Tryz.prog 45 false 1 := TyIs.mk' Tryz.underlying45 i_45 rfl rfl
theorem zc_45 : zcv Tryz.prog 8 45 = .pv (.sl true 1 []) := by kernel_rfl
theorem z_45 : ZeroIs Tryz.prog 45 (.pv (.sl true 1 [])) := ZeroIs.one i_45 rfl rfl rfl rfl rfl
theorem es_45 : eSize Tryz.prog 45 = 1 := by kernel_rfl
theorem eb_45 : eBytes Tryz.prog 45 = 24 := by kernel_rfl
theorem sl_45 : SlIs Tryz.prog 45 1 24 := SlIs.mk' Tryz.underlying45 i_28 rfl rfl rfl rfl (by decide)
theorem is_45 : IsSl Tryz.prog 45 := ⟨_, Tryz.underlying45⟩
theorem el_45 : elemOfT Tryz.prog 45 = 28 := by kernel_rfl
theorem ze_45 : zel Tryz.prog 45 = (.sl true 1 []) := by kernel_rfl
theorem ez_45 : ElemZero Tryz.prog 45 ((.sl true 1 [])) := ElemZero.mk' Tryz.underlying45 (ZeroIs.one i_28 rfl rfl rfl rfl rfl)
theorem i_53 : Tryz.prog.info? 53 = some Tryz.t53 := by kernel_rfl
theorem ty_53 : TyIs Tryz.prog 53 false 1 := TyIs.mk' Tryz.underlying53 i_53 rfl rfl
theorem zc_53 : zcv Tryz.prog 8 53 = .pv (.lit .nilFunc) := by kernel_rfl
theorem z_53 : ZeroIs Tryz.prog 53 (.pv (.lit .nilFunc)) := ZeroIs.one i_53 rfl rfl rfl rfl rfl
theorem i_54 : Tryz.prog.info? 54 = some Tryz.t54 := by kernel_rfl
theorem ty_54 : TyIs Tryz.prog 54 false 1 := TyIs.mk' Tryz.underlying54 i_54 rfl rfl
theorem zc_54 : zcv Tryz.prog 8 54 = .pv (.lit .nilFunc) := by kernel_rfl
theorem z_54 : ZeroIs Tryz.prog 54 (.pv (.lit .nilFunc)) := ZeroIs.one i_54 rfl rfl rfl rfl rfl
theorem i_63 : Tryz.prog.info? 63 = some Tryz.t63 := by kernel_rfl
theorem ty_63 : TyIs Tryz.prog 63 false 1 := TyIs.mk' Tryz.underlying63 i_63 rfl rfl
theorem zc_63 : zcv Tryz.prog 8 63 = .pv (.lit .nilFunc) := by kernel_rfl
theorem z_63 : ZeroIs Tryz.prog 63 (.pv (.lit .nilFunc)) := ZeroIs.one i_63 rfl rfl rfl rfl rfl
theorem i_64 : Tryz.prog.info? 64 = some Tryz.t64 := by kernel_rfl
theorem ty_64 : TyIs Tryz.prog 64 false 1 := TyIs.mk' Tryz.underlying64 i_64 rfl rfl
theorem zc_64 : zcv Tryz.prog 8 64 = .pv (.lit .nilFunc) := by kernel_rfl
theorem z_64 : ZeroIs Tryz.prog 64 (.pv (.lit .nilFunc)) := ZeroIs.one i_64 rfl rfl rfl rfl rfl
theorem i_66 : Tryz.prog.info? 66 = some Tryz.t66 := by kernel_rfl
theorem ty_66 : TyIs Tryz.prog 66 false 1 := TyIs.mk' Tryz.underlying66 i_66 rfl rfl
theorem zc_66 : zcv Tryz.prog 8 66 = .pv (.lit (.int .u64 0)) := by kernel_rfl
theorem z_66 : ZeroIs Tryz.prog 66 (.pv (.lit (.int .u64 0))) := ZeroIs.one i_66 rfl rfl rfl rfl rfl
theorem i_101 : Tryz.prog.info? 101 = some Tryz.t101 := by kernel_rfl
theorem ty_101 : TyIs Tryz.prog 101 false 1 := TyIs.mk' Tryz.underlying101 i_101 rfl rfl
theorem zc_101 : zcv Tryz.prog 8 101 = .pv (.lit .nilFunc) := by kernel_rfl
theorem z_101 : ZeroIs Tryz.prog 101 (.pv (.lit .nilFunc)) := ZeroIs.one i_101 rfl rfl rfl rfl rfl
theorem i_111 : Tryz.prog.info? 111 = some Tryz.t111 := by kernel_rfl
theorem ty_111 : TyIs Tryz.prog 111 false 1 := TyIs.mk' Tryz.underlying111 i_111 rfl rfl
theorem zc_111 : zcv Tryz.prog 8 111 = .pv (.sl true 1 []) := by kernel_rfl
theorem z_111 : ZeroIs Tryz.prog 111 (.pv (.sl true 1 [])) := ZeroIs.one i_111 rfl rfl rfl rfl rfl
theorem es_111 : eSize Tryz.prog 111 = 1 := by kernel_rfl
theorem eb_111 : eBytes Tryz.prog 111 = 16 := by kernel_rfl
theorem sl_111 : SlIs Tryz.prog 111 1 16 := SlIs.mk' Tryz.underlying111 i_9 rfl rfl rfl rfl (by decide)
theorem is_111 : IsSl Tryz.prog 111 := ⟨_, Tryz.underlying111⟩
theorem el_111 : elemOfT Tryz.prog 111 = 9 := by kernel_rfl
theorem ze_111 : zel Tryz.prog 111 = (.lit (.string ⟨#[]⟩)) := by kernel_rfl
theorem ez_111 : ElemZero Tryz.prog 111 ((.lit (.string ⟨#[]⟩))) := ElemZero.mk' Tryz.underlying111 (ZeroIs.one i_9 rfl rfl rfl rfl rfl)
theorem i_113 : Tryz.prog.info? 113 = some Tryz.t113 := by kernel_rfl
theorem ty_113 : TyIs Tryz.prog 113 true 24 := TyIs.mk' Tryz.underlying113 i_113 rfl rfl
theorem i_114 : Tryz.prog.info? 114 = some Tryz.t114 := by kernel_rfl
theorem ty_114 : TyIs Tryz.prog 114 false 1 := TyIs.mk' Tryz.underlying114 i_114 rfl rfl
theorem zc_114 : zcv Tryz.prog 8 114 = .pv (.lit (.int .u64 0)) := by kernel_rfl
theorem z_114 : ZeroIs Tryz.prog 114 (.pv (.lit (.int .u64 0))) := ZeroIs.one i_114 rfl rfl rfl rfl rfl
theorem i_117 : Tryz.prog.info? 117 = some Tryz.t117 := by kernel_rfl
theorem ty_117 : TyIs Tryz.prog 117 false 1 := TyIs.mk' Tryz.underlying117 i_117 rfl rfl
theorem zc_117 : zcv Tryz.prog 8 117 = .pv (.sl true 1 []) := by kernel_rfl
theorem z_117 : ZeroIs Tryz.prog 117 (.pv (.sl true 1 [])) := ZeroIs.one i_117 rfl rfl rfl rfl rfl
theorem es_117 : eSize Tryz.prog 117 = 1 := by kernel_rfl
theorem eb_117 : eBytes Tryz.prog 117 = 1 := by kernel_rfl
theorem sl_117 : SlIs Tryz.prog 117 1 1 := SlIs.mk' Tryz.underlying117 i_5 rfl rfl rfl rfl (by decide)
theorem by_117 : IsBytes Tryz.prog 117 := ⟨_, Tryz.underlying117, Tryz.underlying5⟩
theorem is_117 : IsSl Tryz.prog 117 := ⟨_, Tryz.underlying117⟩
theorem el_117 : elemOfT Tryz.prog 117 = 5 := by kernel_rfl
theorem ze_117 : zel Tryz.prog 117 = (.lit (.int .u8 0)) := by kernel_rfl
theorem ez_117 : ElemZero Tryz.prog 117 ((.lit (.int .u8 0))) := ElemZero.mk' Tryz.underlying117 (ZeroIs.one i_5 rfl rfl rfl rfl rfl)
theorem i_124 : Tryz.prog.info? 124 = some Tryz.t124 := by kernel_rfl
theorem ty_124 : TyIs Tryz.prog 124 true 65 := TyIs.mk' Tryz.underlying124 i_124 rfl rfl
theorem uk_2 : Tryz.prog.underlying 2 = some (.int .i64) := Tryz.underlying2
theorem uk_3 : Tryz.prog.underlying 3 = some (.int .i64) := Tryz.underlying3
theorem uk_5 : Tryz.prog.underlying 5 = some (.int .u8) := Tryz.underlying5
theorem uk_9 : Tryz.prog.underlying 9 = some .string := Tryz.underlying9
theorem uk_66 : Tryz.prog.underlying 66 = some (.int .u64) := Tryz.underlying66
theorem uk_114 : Tryz.prog.underlying 114 = some (.int .u64) := Tryz.underlying114
def TB3 := And.intro @ty_3 <| And.intro @zc_3 <| @z_3
def TB28 := And.intro @ty_28 <| And.intro @zc_28 <| And.intro @z_28 <| And.intro @es_28 <| And.intro @eb_28 <| And.intro @sl_28 <| And.intro @is_28 <| And.intro @el_28 <| And.intro @ze_28 <| @ez_28
def TB45 := And.intro @ty_45 <| And.intro @zc_45 <| And.intro @z_45 <| And.intro @es_45 <| And.intro @eb_45 <| And.intro @sl_45 <| And.intro @is_45 <| And.intro @el_45 <| And.intro @ze_45 <| @ez_45
def TB9 := And.intro @ty_9 <| And.intro @zc_9 <| And.intro @z_9 <| @u_9
def TB22 := And.intro @ty_22 <| And.intro @zc_22 <| And.intro @z_22 <| And.intro @es_22 <| And.intro @eb_22 <| And.intro @sl_22 <| And.intro @is_22 <| And.intro @el_22 <| And.intro @ze_22 <| @ez_22
def TB24 := And.intro @ty_24 <| And.intro @zc_24 <| And.intro @z_24 <| And.intro @fo_24_0 <| And.intro @fi_24_0 <| And.intro @ft_24_0 <| And.intro @fo_24_1 <| And.intro @fi_24_1 <| And.intro @ft_24_1 <| @lay_24
def TB25 := And.intro @ty_25 <| And.intro @zc_25 <| And.intro @z_25 <| And.intro @es_25 <| And.intro @eb_25 <| And.intro @sl_25 <| And.intro @is_25 <| And.intro @el_25 <| And.intro @ze_25 <| @ez_25
def TB27 := And.intro @ty_27 <| And.intro @zc_27 <| And.intro @z_27 <| And.intro @fo_27_0 <| And.intro @fi_27_0 <| And.intro @ft_27_0 <| And.intro @fo_27_1 <| And.intro @fi_27_1 <| And.intro @ft_27_1 <| And.intro @fo_27_2 <| And.intro @fi_27_2 <| And.intro @ft_27_2 <| And.intro @fo_27_3 <| And.intro @fi_27_3 <| And.intro @ft_27_3 <| @lay_27
def TB32 := And.intro @ty_32 <| And.intro @zc_32 <| And.intro @z_32 <| And.intro @es_32 <| And.intro @eb_32 <| And.intro @sl_32 <| And.intro @is_32 <| And.intro @el_32 <| And.intro @ze_32 <| @ez_32
def TB34 := And.intro @ty_34 <| And.intro @zc_34 <| And.intro @z_34 <| And.intro @fo_34_0 <| And.intro @fi_34_0 <| And.intro @ft_34_0 <| And.intro @fo_34_1 <| And.intro @fi_34_1 <| And.intro @ft_34_1 <| @lay_34
def TB35 := And.intro @ty_35 <| And.intro @zc_35 <| And.intro @z_35 <| And.intro @es_35 <| And.intro @eb_35 <| And.intro @sl_35 <| And.intro @is_35 <| And.intro @el_35 <| And.intro @ze_35 <| @ez_35
def TB37 := And.intro @ty_37 <| And.intro @zc_37 <| And.intro @z_37 <| And.intro @fo_37_0 <| And.intro @fi_37_0 <| And.intro @ft_37_0 <| And.intro @fo_37_1 <| And.intro @fi_37_1 <| And.intro @ft_37_1 <| And.intro @fo_37_2 <| And.intro @fi_37_2 <| And.intro @ft_37_2 <| And.intro @fo_37_3 <| And.intro @fi_37_3 <| And.intro @ft_37_3 <| @lay_37
def TB4 := And.intro @ty_4 <| And.intro @zc_4 <| And.intro @z_4 <| @u_4
def TB5 := And.intro @ty_5 <| And.intro @zc_5 <| @z_5
def TB66 := And.intro @ty_66 <| And.intro @zc_66 <| @z_66
def TB111 := And.intro @ty_111 <| And.intro @zc_111 <| And.intro @z_111 <| And.intro @es_111 <| And.intro @eb_111 <| And.intro @sl_111 <| And.intro @is_111 <| And.intro @el_111 <| And.intro @ze_111 <| @ez_111
def TB101 := And.intro @ty_101 <| And.intro @zc_101 <| @z_101
def TB53 := And.intro @ty_53 <| And.intro @zc_53 <| @z_53
def TB114 := And.intro @ty_114 <| And.intro @zc_114 <| @z_114
def TB117 := And.intro @ty_117 <| And.intro @zc_117 <| And.intro @z_117 <| And.intro @es_117 <| And.intro @eb_117 <| And.intro @sl_117 <| And.intro @by_117 <| And.intro @is_117 <| And.intro @el_117 <| And.intro @ze_117 <| @ez_117
def TB2 := And.intro @ty_2 <| And.intro @zc_2 <| @z_2
def TB54 := And.intro @ty_54 <| And.intro @zc_54 <| @z_54
def TB63 := And.intro @ty_63 <| And.intro @zc_63 <| @z_63
def TB64 := And.intro @ty_64 <| And.intro @zc_64 <| @z_64
end Go.Proofs.YtkokcfphepmeeaaGreatDoor
