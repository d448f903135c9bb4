/- A part of the proof: lemmas only; nothing is claimed here beyond what each lemma says. -/
import Derived.Test.YtheihimhijkekaaAvO
import Derived.Test.YtheihimhijkekaaChecked
import Derived.KernelRfl
set_option linter.unusedSimpArgs false
set_option linter.unusedVariables false
set_option linter.defProp false
set_option maxRecDepth 4000
namespace Go.Proofs.Ytheihimhijkekaa
open Go.Av
theorem mixed : Try.prog.follows .mixedOrders = true := by kernel_rfl
theorem mixedT : (Try.prog.follows .mixedOrders = true) = True := eq_true mixed
theorem i_3 : Try.prog.info? 3 = some Try.t3 := by kernel_rfl
theorem ty_3 : TyIs Try.prog 3 false 1 := TyIs.mk' Try.underlying3 i_3 rfl rfl
theorem zc_3 : zcv Try.prog 8 3 = .pv (.lit (.int .i64 0)) := by kernel_rfl
theorem z_3 : ZeroIs Try.prog 3 (.pv (.lit (.int .i64 0))) := ZeroIs.one i_3 rfl rfl rfl rfl rfl
theorem i_4 : Try.prog.info? 4 = some Try.t4 := by kernel_rfl
theorem ty_4 : TyIs Try.prog 4 false 1 := TyIs.mk' Try.underlying4 i_4 rfl rfl
theorem zc_4 : zcv Try.prog 8 4 = .pv (.lit (.bool false)) := by kernel_rfl
theorem z_4 : ZeroIs Try.prog 4 (.pv (.lit (.bool false))) := ZeroIs.one i_4 rfl rfl rfl rfl rfl
theorem u_4 : (Try.prog.underlying 4 = some .bool) = True := eq_true Try.underlying4
theorem i_9 : Try.prog.info? 9 = some Try.t9 := by kernel_rfl
theorem ty_9 : TyIs Try.prog 9 false 1 := TyIs.mk' Try.underlying9 i_9 rfl rfl
theorem zc_9 : zcv Try.prog 8 9 = .pv (.lit (.string ⟨#[]⟩)) := by kernel_rfl
theorem z_9 : ZeroIs Try.prog 9 (.pv (.lit (.string ⟨#[]⟩))) := ZeroIs.one i_9 rfl rfl rfl rfl rfl
theorem u_9 : (Try.prog.underlying 9 = some .string) = True := eq_true Try.underlying9
theorem i_22 : Try.prog.info? 22 = some Try.t22 := by kernel_rfl
theorem ty_22 : TyIs Try.prog 22 false 1 := TyIs.mk' Try.underlying22 i_22 rfl rfl
theorem zc_22 : zcv Try.prog 8 22 = .pv (.sl true 1 []) := by kernel_rfl
theorem z_22 : ZeroIs Try.prog 22 (.pv (.sl true 1 [])) := ZeroIs.one i_22 rfl rfl rfl rfl rfl
theorem es_22 : eSize Try.prog 22 = 1 := by kernel_rfl
theorem eb_22 : eBytes Try.prog 22 = 8 := by kernel_rfl
theorem sl_22 : SlIs Try.prog 22 1 8 := SlIs.mk' Try.underlying22 i_3 rfl rfl rfl rfl (by decide)
theorem is_22 : IsSl Try.prog 22 := ⟨_, Try.underlying22⟩
theorem el_22 : elemOfT Try.prog 22 = 3 := by kernel_rfl
theorem ze_22 : zel Try.prog 22 = (.lit (.int .i64 0)) := by kernel_rfl
theorem ez_22 : ElemZero Try.prog 22 ((.lit (.int .i64 0))) := ElemZero.mk' Try.underlying22 (ZeroIs.one i_3 rfl rfl rfl rfl rfl)
theorem i_23 : Try.prog.info? 23 = some Try.t23 := by kernel_rfl
theorem ty_23 : TyIs Try.prog 23 false 1 := TyIs.mk' Try.underlying23 i_23 rfl rfl
theorem zc_23 : zcv Try.prog 8 23 = .pv (.sl true 3 []) := by kernel_rfl
theorem z_23 : ZeroIs Try.prog 23 (.pv (.sl true 3 [])) := ZeroIs.one i_23 rfl rfl rfl rfl rfl
theorem i_78 : Try.prog.info? 78 = some Try.t78 := by kernel_rfl
theorem es_23 : eSize Try.prog 23 = 3 := by kernel_rfl
theorem eb_23 : eBytes Try.prog 23 = 40 := by kernel_rfl
theorem sl_23 : SlIs Try.prog 23 3 40 := SlIs.mk' Try.underlying23 i_78 rfl rfl rfl rfl (by decide)
theorem is_23 : IsSl Try.prog 23 := ⟨_, Try.underlying23⟩
theorem el_23 : elemOfT Try.prog 23 = 78 := by kernel_rfl
theorem ze_23 : zel Try.prog 23 = .agg [(.lit (.int .i64 0)), (.lit (.int .i64 0)), (.sl true 3 [])] := by kernel_rfl
theorem ez_23 : ElemZero Try.prog 23 (.agg [(.lit (.int .i64 0)), (.lit (.int .i64 0)), (.sl true 3 [])]) := ElemZero.mk' Try.underlying23 (ZeroIs.agg i_78 rfl rfl rfl)
theorem i_25 : Try.prog.info? 25 = some Try.t25 := by kernel_rfl
theorem ty_25 : TyIs Try.prog 25 true 2 := TyIs.mk' Try.underlying25 i_25 rfl rfl
theorem zc_25 : zcv Try.prog 8 25 = .node [.pv (.sl true 1 []), .pv (.sl true 3 [])] := by kernel_rfl
theorem z_25 : ZeroIs Try.prog 25 (.node [.pv (.sl true 1 []), .pv (.sl true 3 [])]) := ZeroIs.agg i_25 rfl rfl rfl
theorem fo_25_0 : fOff Try.prog 25 0 = 0 := by kernel_rfl
theorem fi_25_0 : FieldIs Try.prog 25 0 0 := FieldIs.mk' Try.underlying25 rfl rfl i_22 (by decide)
theorem ft_25_0 : fldT Try.prog 25 0 = 22 := by kernel_rfl
theorem fo_25_1 : fOff Try.prog 25 1 = 1 := by kernel_rfl
theorem fi_25_1 : FieldIs Try.prog 25 1 1 := FieldIs.mk' Try.underlying25 rfl rfl i_23 (by decide)
theorem ft_25_1 : fldT Try.prog 25 1 = 23 := by kernel_rfl
theorem lay_25 : LayoutOk Try.prog 25 [.pv (.sl true 1 []), .pv (.sl true 3 [])] := .inr ⟨_, Try.underlying25, rfl, fun k f hk => by match k, hk with | 0, hk => (obtain rfl := Option.some.inj hk; exact ⟨rfl, _, i_22, rfl⟩) | 1, hk => (obtain rfl := Option.some.inj hk; exact ⟨rfl, _, i_23, rfl⟩) | k + 2, hk => simp at hk⟩
theorem i_29 : Try.prog.info? 29 = some Try.t29 := by kernel_rfl
theorem ty_29 : TyIs Try.prog 29 false 1 := TyIs.mk' Try.underlying29 i_29 rfl rfl
theorem zc_29 : zcv Try.prog 8 29 = .pv (.sl true 3 []) := by kernel_rfl
theorem z_29 : ZeroIs Try.prog 29 (.pv (.sl true 3 [])) := ZeroIs.one i_29 rfl rfl rfl rfl rfl
theorem i_53 : Try.prog.info? 53 = some Try.t53 := by kernel_rfl
theorem es_29 : eSize Try.prog 29 = 3 := by kernel_rfl
theorem eb_29 : eBytes Try.prog 29 = 40 := by kernel_rfl
theorem sl_29 : SlIs Try.prog 29 3 40 := SlIs.mk' Try.underlying29 i_53 rfl rfl rfl rfl (by decide)
theorem is_29 : IsSl Try.prog 29 := ⟨_, Try.underlying29⟩
theorem el_29 : elemOfT Try.prog 29 = 53 := by kernel_rfl
theorem ze_29 : zel Try.prog 29 = .agg [(.lit (.int .i64 0)), (.lit (.int .i64 0)), (.sl true 3 [])] := by kernel_rfl
theorem ez_29 : ElemZero Try.prog 29 (.agg [(.lit (.int .i64 0)), (.lit (.int .i64 0)), (.sl true 3 [])]) := ElemZero.mk' Try.underlying29 (ZeroIs.agg i_53 rfl rfl rfl)
theorem i_31 : Try.prog.info? 31 = some Try.t31 := by kernel_rfl
theorem ty_31 : TyIs Try.prog 31 true 2 := TyIs.mk' Try.underlying31 i_31 rfl rfl
theorem zc_31 : zcv Try.prog 8 31 = .node [.pv (.sl true 1 []), .pv (.sl true 3 [])] := by kernel_rfl
theorem z_31 : ZeroIs Try.prog 31 (.node [.pv (.sl true 1 []), .pv (.sl true 3 [])]) := ZeroIs.agg i_31 rfl rfl rfl
theorem fo_31_0 : fOff Try.prog 31 0 = 0 := by kernel_rfl
theorem fi_31_0 : FieldIs Try.prog 31 0 0 := FieldIs.mk' Try.underlying31 rfl rfl i_22 (by decide)
theorem ft_31_0 : fldT Try.prog 31 0 = 22 := by kernel_rfl
theorem fo_31_1 : fOff Try.prog 31 1 = 1 := by kernel_rfl
theorem fi_31_1 : FieldIs Try.prog 31 1 1 := FieldIs.mk' Try.underlying31 rfl rfl i_29 (by decide)
theorem ft_31_1 : fldT Try.prog 31 1 = 29 := by kernel_rfl
theorem lay_31 : LayoutOk Try.prog 31 [.pv (.sl true 1 []), .pv (.sl true 3 [])] := .inr ⟨_, Try.underlying31, rfl, fun k f hk => by match k, hk with | 0, hk => (obtain rfl := Option.some.inj hk; exact ⟨rfl, _, i_22, rfl⟩) | 1, hk => (obtain rfl := Option.some.inj hk; exact ⟨rfl, _, i_29, rfl⟩) | k + 2, hk => simp at hk⟩
theorem i_51 : Try.prog.info? 51 = some Try.t51 := by kernel_rfl
theorem ty_51 : TyIs Try.prog 51 false 1 := TyIs.mk' Try.underlying51 i_51 rfl rfl
theorem zc_51 : zcv Try.prog 8 51 = .pv (.sl true 3 []) := by kernel_rfl
theorem z_51 : ZeroIs Try.prog 51 (.pv (.sl true 3 [])) := ZeroIs.one i_51 rfl rfl rfl rfl rfl
theorem i_55 : Try.prog.info? 55 = some Try.t55 := by kernel_rfl
theorem es_51 : eSize Try.prog 51 = 3 := by kernel_rfl
theorem eb_51 : eBytes Try.prog 51 = 24 := by kernel_rfl
theorem sl_51 : SlIs Try.prog 51 3 24 := SlIs.mk' Try.underlying51 i_55 rfl rfl rfl rfl (by decide)
theorem is_51 : IsSl Try.prog 51 := ⟨_, Try.underlying51⟩
theorem el_51 : elemOfT Try.prog 51 = 55 := by kernel_rfl
theorem ze_51 : zel Try.prog 51 = .agg [(.lit (.int .i64 0)), (.lit (.int .i64 0)), (.lit (.bool false))] := by kernel_rfl
theorem ez_51 : ElemZero Try.prog 51 (.agg [(.lit (.int .i64 0)), (.lit (.int .i64 0)), (.lit (.bool false))]) := ElemZero.mk' Try.underlying51 (ZeroIs.agg i_55 rfl rfl rfl)
theorem ty_53 : TyIs Try.prog 53 true 3 := TyIs.mk' Try.underlying53 i_53 rfl rfl
theorem zc_53 : zcv Try.prog 8 53 = .node [.pv (.lit (.int .i64 0)), .pv (.lit (.int .i64 0)), .pv (.sl true 3 [])] := by kernel_rfl
theorem z_53 : ZeroIs Try.prog 53 (.node [.pv (.lit (.int .i64 0)), .pv (.lit (.int .i64 0)), .pv (.sl true 3 [])]) := ZeroIs.agg i_53 rfl rfl rfl
theorem fo_53_0 : fOff Try.prog 53 0 = 0 := by kernel_rfl
theorem fi_53_0 : FieldIs Try.prog 53 0 0 := FieldIs.mk' Try.underlying53 rfl rfl i_3 (by decide)
theorem ft_53_0 : fldT Try.prog 53 0 = 3 := by kernel_rfl
theorem fo_53_1 : fOff Try.prog 53 1 = 1 := by kernel_rfl
theorem fi_53_1 : FieldIs Try.prog 53 1 1 := FieldIs.mk' Try.underlying53 rfl rfl i_3 (by decide)
theorem ft_53_1 : fldT Try.prog 53 1 = 3 := by kernel_rfl
theorem fo_53_2 : fOff Try.prog 53 2 = 2 := by kernel_rfl
theorem fi_53_2 : FieldIs Try.prog 53 2 2 := FieldIs.mk' Try.underlying53 rfl rfl i_51 (by decide)
theorem ft_53_2 : fldT Try.prog 53 2 = 51 := by kernel_rfl
theorem lay_53 : LayoutOk Try.prog 53 [.pv (.lit (.int .i64 0)), .pv (.lit (.int .i64 0)), .pv (.sl true 3 [])] := .inr ⟨_, Try.underlying53, rfl, fun k f hk => by match k, hk with | 0, hk => (obtain rfl := Option.some.inj hk; exact ⟨rfl, _, i_3, rfl⟩) | 1, hk => (obtain rfl := Option.some.inj hk; exact ⟨rfl, _, i_3, rfl⟩) | 2, hk => (obtain rfl := Option.some.inj hk; exact ⟨rfl, _, i_51, rfl⟩) | k + 3, hk => simp at hk⟩
theorem ty_55 : TyIs Try.prog 55 true 3 := TyIs.mk' Try.underlying55 i_55 rfl rfl
theorem zc_55 : zcv Try.prog 8 55 = .node [.pv (.lit (.int .i64 0)), .pv (.lit (.int .i64 0)), .pv (.lit (.bool false))] := by kernel_rfl
theorem z_55 : ZeroIs Try.prog 55 (.node [.pv (.lit (.int .i64 0)), .pv (.lit (.int .i64 0)), .pv (.lit (.bool false))]) := ZeroIs.agg i_55 rfl rfl rfl
theorem fo_55_0 : fOff Try.prog 55 0 = 0 := by kernel_rfl
theorem fi_55_0 : FieldIs Try.prog 55 0 0 := FieldIs.mk' Try.underlying55 rfl rfl i_3 (by decide)
theorem ft_55_0 : fldT Try.prog 55 0 = 3 := by kernel_rfl
theorem fo_55_1 : fOff Try.prog 55 1 = 1 := by kernel_rfl
theorem fi_55_1 : FieldIs Try.prog 55 1 1 := FieldIs.mk' Try.underlying55 rfl rfl i_3 (by decide)
theorem ft_55_1 : fldT Try.prog 55 1 = 3 := by kernel_rfl
theorem fo_55_2 : fOff Try.prog 55 2 = 2 := by kernel_rfl
theorem fi_55_2 : FieldIs Try.prog 55 2 2 := FieldIs.mk' Try.underlying55 rfl rfl i_4 (by decide)
theorem ft_55_2 : fldT Try.prog 55 2 = 4 := by kernel_rfl
theorem lay_55 : LayoutOk Try.prog 55 [.pv (.lit (.int .i64 0)), .pv (.lit (.int .i64 0)), .pv (.lit (.bool false))] := .inr ⟨_, Try.underlying55, rfl, fun k f hk => by match k, hk with | 0, hk => (obtain rfl := Option.some.inj hk; exact ⟨rfl, _, i_3, rfl⟩) | 1, hk => (obtain rfl := Option.some.inj hk; exact ⟨rfl, _, i_3, rfl⟩) | 2, hk => (obtain rfl := Option.some.inj hk; exact ⟨rfl, _, i_4, rfl⟩) | k + 3, hk => simp at hk⟩
theorem i_65 : Try.prog.info? 65 = some Try.t65 := by kernel_rfl
theorem ty_65 : TyIs Try.prog 65 false 1 := TyIs.mk' Try.underlying65 i_65 rfl rfl
theorem zc_65 : zcv Try.prog 8 65 = .pv (.lit .nilFunc) := by kernel_rfl
theorem z_65 : ZeroIs Try.prog 65 (.pv (.lit .nilFunc)) := ZeroIs.one i_65 rfl rfl rfl rfl rfl
theorem i_72 : Try.prog.info? 72 = some Try.t72 := by kernel_rfl
theorem ty_72 : TyIs Try.prog 72 false 1 := TyIs.mk' Try.underlying72 i_72 rfl rfl
theorem zc_72 : zcv Try.prog 8 72 = .pv (.lit .nilFunc) := by kernel_rfl
theorem z_72 : ZeroIs Try.prog 72 (.pv (.lit .nilFunc)) := ZeroIs.one i_72 rfl rfl rfl rfl rfl
theorem i_76 : Try.prog.info? 76 = some Try.t76 := by kernel_rfl
theorem ty_76 : TyIs Try.prog 76 false 1 := TyIs.mk' Try.underlying76 i_76 rfl rfl
theorem zc_76 : zcv Try.prog 8 76 = .pv (.sl true 3 []) := by kernel_rfl
theorem z_76 : ZeroIs Try.prog 76 (.pv (.sl true 3 [])) := ZeroIs.one i_76 rfl rfl rfl rfl rfl
theorem i_113 : Try.prog.info? 113 = some Try.t113 := by kernel_rfl
theorem es_76 : eSize Try.prog 76 = 3 := by kernel_rfl
theorem eb_76 : eBytes Try.prog 76 = 24 := by kernel_rfl
theorem sl_76 : SlIs Try.prog 76 3 24 := SlIs.mk' Try.underlying76 i_113 rfl rfl rfl rfl (by decide)
theorem is_76 : IsSl Try.prog 76 := ⟨_, Try.underlying76⟩
theorem el_76 : elemOfT Try.prog 76 = 113 := by kernel_rfl
theorem ze_76 : zel Try.prog 76 = .agg [(.lit (.int .i64 0)), (.lit (.int .i64 0)), (.lit (.bool false))] := by kernel_rfl
theorem ez_76 : ElemZero Try.prog 76 (.agg [(.lit (.int .i64 0)), (.lit (.int .i64 0)), (.lit (.bool false))]) := ElemZero.mk' Try.underlying76 (ZeroIs.agg i_113 rfl rfl rfl)
theorem ty_78 : TyIs Try.prog 78 true 3 := TyIs.mk' Try.underlying78 i_78 rfl rfl
theorem zc_78 : zcv Try.prog 8 78 = .node [.pv (.lit (.int .i64 0)), .pv (.lit (.int .i64 0)), .pv (.sl true 3 [])] := by kernel_rfl
theorem z_78 : ZeroIs Try.prog 78 (.node [.pv (.lit (.int .i64 0)), .pv (.lit (.int .i64 0)), .pv (.sl true 3 [])]) := ZeroIs.agg i_78 rfl rfl rfl
theorem fo_78_0 : fOff Try.prog 78 0 = 0 := by kernel_rfl
theorem fi_78_0 : FieldIs Try.prog 78 0 0 := FieldIs.mk' Try.underlying78 rfl rfl i_3 (by decide)
theorem ft_78_0 : fldT Try.prog 78 0 = 3 := by kernel_rfl
theorem fo_78_1 : fOff Try.prog 78 1 = 1 := by kernel_rfl
theorem fi_78_1 : FieldIs Try.prog 78 1 1 := FieldIs.mk' Try.underlying78 rfl rfl i_3 (by decide)
theorem ft_78_1 : fldT Try.prog 78 1 = 3 := by kernel_rfl
theorem fo_78_2 : fOff Try.prog 78 2 = 2 := by kernel_rfl
theorem fi_78_2 : FieldIs Try.prog 78 2 2 := FieldIs.mk' Try.underlying78 rfl rfl i_76 (by decide)
theorem ft_78_2 : fldT Try.prog 78 2 = 76 := by kernel_rfl
theorem lay_78 : LayoutOk Try.prog 78 [.pv (.lit (.int .i64 0)), .pv (.lit (.int .i64 0)), .pv (.sl true 3 [])] := .inr ⟨_, Try.underlying78, rfl, fun k f hk => by match k, hk with | 0, hk => (obtain rfl := Option.some.inj hk; exact ⟨rfl, _, i_3, rfl⟩) | 1, hk => (obtain rfl := Option.some.inj hk; exact ⟨rfl, _, i_3, rfl⟩) | 2, hk => (obtain rfl := Option.some.inj hk; exact ⟨rfl, _, i_76, rfl⟩) | k + 3, hk => simp at hk⟩
theorem i_82 : Try.prog.info? 82 = some Try.t82 := by kernel_rfl
theorem ty_82 : TyIs Try.prog 82 false 1 := TyIs.mk' Try.underlying82 i_82 rfl rfl
theorem zc_82 : zcv Try.prog 8 82 = .pv (.lit .nilFunc) := by kernel_rfl
theorem z_82 : ZeroIs Try.prog 82 (.pv (.lit .nilFunc)) := ZeroIs.one i_82 rfl rfl rfl rfl rfl
theorem i_84 : Try.prog.info? 84 = some Try.t84 := by kernel_rfl
theorem ty_84 : TyIs Try.prog 84 false 1 := TyIs.mk' Try.underlying84 i_84 rfl rfl
theorem zc_84 : zcv Try.prog 8 84 = .pv (.lit (.int .u64 0)) := by kernel_rfl
theorem z_84 : ZeroIs Try.prog 84 (.pv (.lit (.int .u64 0))) := ZeroIs.one i_84 rfl rfl rfl rfl rfl
theorem i_100 : Try.prog.info? 100 = some Try.t100 := by kernel_rfl
theorem ty_100 : TyIs Try.prog 100 false 1 := TyIs.mk' Try.underlying100 i_100 rfl rfl
theorem zc_100 : zcv Try.prog 8 100 = .pv (.lit (.int .u32 0)) := by kernel_rfl
theorem z_100 : ZeroIs Try.prog 100 (.pv (.lit (.int .u32 0))) := ZeroIs.one i_100 rfl rfl rfl rfl rfl
theorem i_103 : Try.prog.info? 103 = some Try.t103 := by kernel_rfl
theorem ty_103 : TyIs Try.prog 103 false 1 := TyIs.mk' Try.underlying103 i_103 rfl rfl
theorem zc_103 : zcv Try.prog 8 103 = .pv (.lit (.int .u64 0)) := by kernel_rfl
theorem z_103 : ZeroIs Try.prog 103 (.pv (.lit (.int .u64 0))) := ZeroIs.one i_103 rfl rfl rfl rfl rfl
theorem ty_113 : TyIs Try.prog 113 true 3 := TyIs.mk' Try.underlying113 i_113 rfl rfl
theorem zc_113 : zcv Try.prog 8 113 = .node [.pv (.lit (.int .i64 0)), .pv (.lit (.int .i64 0)), .pv (.lit (.bool false))] := by kernel_rfl
theorem z_113 : ZeroIs Try.prog 113 (.node [.pv (.lit (.int .i64 0)), .pv (.lit (.int .i64 0)), .pv (.lit (.bool false))]) := ZeroIs.agg i_113 rfl rfl rfl
theorem fo_113_0 : fOff Try.prog 113 0 = 0 := by kernel_rfl
theorem fi_113_0 : FieldIs Try.prog 113 0 0 := FieldIs.mk' Try.underlying113 rfl rfl i_3 (by decide)
theorem ft_113_0 : fldT Try.prog 113 0 = 3 := by kernel_rfl
theorem fo_113_1 : fOff Try.prog 113 1 = 1 := by kernel_rfl
theorem fi_113_1 : FieldIs Try.prog 113 1 1 := FieldIs.mk' Try.underlying113 rfl rfl i_3 (by decide)
theorem ft_113_1 : fldT Try.prog 113 1 = 3 := by kernel_rfl
theorem fo_113_2 : fOff Try.prog 113 2 = 2 := by kernel_rfl
theorem fi_113_2 : FieldIs Try.prog 113 2 2 := FieldIs.mk' Try.underlying113 rfl rfl i_4 (by decide)
theorem ft_113_2 : fldT Try.prog 113 2 = 4 := by kernel_rfl
theorem lay_113 : LayoutOk Try.prog 113 [.pv (.lit (.int .i64 0)), .pv (.lit (.int .i64 0)), .pv (.lit (.bool false))] := .inr ⟨_, Try.underlying113, rfl, fun k f hk => by match k, hk with | 0, hk => (obtain rfl := Option.some.inj hk; exact ⟨rfl, _, i_3, rfl⟩) | 1, hk => (obtain rfl := Option.some.inj hk; exact ⟨rfl, _, i_3, rfl⟩) | 2, hk => (obtain rfl := Option.some.inj hk; exact ⟨rfl, _, i_4, rfl⟩) | k + 3, hk => simp at hk⟩
theorem isIntB_i : isIntB (Try.prog.underlying 3) = true := by kernel_rfl
theorem uk_3 : Try.prog.underlying 3 = some (.int .i64) := Try.underlying3
theorem uk_84 : Try.prog.underlying 84 = some (.int .u64) := Try.underlying84
theorem uk_100 : Try.prog.underlying 100 = some (.int .u32) := Try.underlying100
theorem uk_103 : Try.prog.underlying 103 = some (.int .u64) := Try.underlying103
end Go.Proofs.Ytheihimhijkekaa
