/- A part of the proof: lemmas only; nothing is claimed here beyond what each lemma says. -/
import Derived.Test.YtgbddapcjhgllaaAvF3
import Derived.Test.YtgbddapcjhgllaaChecked
import Derived.KernelRfl
set_option linter.unusedSimpArgs false
set_option linter.unusedVariables false
set_option linter.defProp false
set_option maxRecDepth 4000
namespace Go.Proofs.Ytgbddapcjhgllaa
open Go.Av
theorem mixed : Try.prog.follows .mixedOrders = true := by kernel_rfl
theorem mixedT : (Try.prog.follows .mixedOrders = true) = True := eq_true mixed
theorem i_3 : Try.prog.info? 3 = some Try.t3 := by kernel_rfl
theorem ty_3 : TyIs Try.prog 3 false 1 := TyIs.mk' Try.underlying3 i_3 rfl rfl
theorem zc_3 : zcv Try.prog 8 3 = .pv (.lit (.int .i64 0)) := by kernel_rfl
theorem z_3 : ZeroIs Try.prog 3 (.pv (.lit (.int .i64 0))) := ZeroIs.one i_3 rfl rfl rfl rfl rfl
theorem i_4 : Try.prog.info? 4 = some Try.t4 := by kernel_rfl
theorem ty_4 : TyIs Try.prog 4 false 1 := TyIs.mk' Try.underlying4 i_4 rfl rfl
theorem zc_4 : zcv Try.prog 8 4 = .pv (.lit (.bool false)) := by kernel_rfl
theorem z_4 : ZeroIs Try.prog 4 (.pv (.lit (.bool false))) := ZeroIs.one i_4 rfl rfl rfl rfl rfl
theorem u_4 : (Try.prog.underlying 4 = some .bool) = True := eq_true Try.underlying4
theorem i_5 : Try.prog.info? 5 = some Try.t5 := by kernel_rfl
theorem ty_5 : TyIs Try.prog 5 false 1 := TyIs.mk' Try.underlying5 i_5 rfl rfl
theorem zc_5 : zcv Try.prog 8 5 = .pv (.lit (.int .u8 0)) := by kernel_rfl
theorem z_5 : ZeroIs Try.prog 5 (.pv (.lit (.int .u8 0))) := ZeroIs.one i_5 rfl rfl rfl rfl rfl
theorem i_9 : Try.prog.info? 9 = some Try.t9 := by kernel_rfl
theorem ty_9 : TyIs Try.prog 9 false 1 := TyIs.mk' Try.underlying9 i_9 rfl rfl
theorem zc_9 : zcv Try.prog 8 9 = .pv (.lit (.string ⟨#[]⟩)) := by kernel_rfl
theorem z_9 : ZeroIs Try.prog 9 (.pv (.lit (.string ⟨#[]⟩))) := ZeroIs.one i_9 rfl rfl rfl rfl rfl
theorem u_9 : (Try.prog.underlying 9 = some .string) = True := eq_true Try.underlying9
theorem i_22 : Try.prog.info? 22 = some Try.t22 := by kernel_rfl
theorem ty_22 : TyIs Try.prog 22 false 1 := TyIs.mk' Try.underlying22 i_22 rfl rfl
theorem zc_22 : zcv Try.prog 8 22 = .pv (.sl true 1 []) := by kernel_rfl
theorem z_22 : ZeroIs Try.prog 22 (.pv (.sl true 1 [])) := ZeroIs.one i_22 rfl rfl rfl rfl rfl
theorem es_22 : eSize Try.prog 22 = 1 := by kernel_rfl
theorem eb_22 : eBytes Try.prog 22 = 16 := by kernel_rfl
theorem sl_22 : SlIs Try.prog 22 1 16 := SlIs.mk' Try.underlying22 i_9 rfl rfl rfl rfl (by decide)
theorem is_22 : IsSl Try.prog 22 := ⟨_, Try.underlying22⟩
theorem el_22 : elemOfT Try.prog 22 = 9 := by kernel_rfl
theorem ze_22 : zel Try.prog 22 = (.lit (.string ⟨#[]⟩)) := by kernel_rfl
theorem ez_22 : ElemZero Try.prog 22 ((.lit (.string ⟨#[]⟩))) := ElemZero.mk' Try.underlying22 (ZeroIs.one i_9 rfl rfl rfl rfl rfl)
theorem i_23 : Try.prog.info? 23 = some Try.t23 := by kernel_rfl
theorem ty_23 : TyIs Try.prog 23 false 1 := TyIs.mk' Try.underlying23 i_23 rfl rfl
theorem zc_23 : zcv Try.prog 8 23 = .pv (.sl true 1 []) := by kernel_rfl
theorem z_23 : ZeroIs Try.prog 23 (.pv (.sl true 1 [])) := ZeroIs.one i_23 rfl rfl rfl rfl rfl
theorem es_23 : eSize Try.prog 23 = 1 := by kernel_rfl
theorem eb_23 : eBytes Try.prog 23 = 8 := by kernel_rfl
theorem sl_23 : SlIs Try.prog 23 1 8 := SlIs.mk' Try.underlying23 i_3 rfl rfl rfl rfl (by decide)
theorem is_23 : IsSl Try.prog 23 := ⟨_, Try.underlying23⟩
theorem el_23 : elemOfT Try.prog 23 = 3 := by kernel_rfl
theorem ze_23 : zel Try.prog 23 = (.lit (.int .i64 0)) := by kernel_rfl
theorem ez_23 : ElemZero Try.prog 23 ((.lit (.int .i64 0))) := ElemZero.mk' Try.underlying23 (ZeroIs.one i_3 rfl rfl rfl rfl rfl)
theorem i_25 : Try.prog.info? 25 = some Try.t25 := by kernel_rfl
theorem ty_25 : TyIs Try.prog 25 true 3 := TyIs.mk' Try.underlying25 i_25 rfl rfl
theorem zc_25 : zcv Try.prog 8 25 = .node [.pv (.sl true 1 []), .pv (.sl true 1 []), .pv (.lit (.int .i64 0))] := by kernel_rfl
theorem z_25 : ZeroIs Try.prog 25 (.node [.pv (.sl true 1 []), .pv (.sl true 1 []), .pv (.lit (.int .i64 0))]) := ZeroIs.agg i_25 rfl rfl rfl
theorem fo_25_0 : fOff Try.prog 25 0 = 0 := by kernel_rfl
theorem fi_25_0 : FieldIs Try.prog 25 0 0 := FieldIs.mk' Try.underlying25 rfl rfl i_22 (by decide)
theorem ft_25_0 : fldT Try.prog 25 0 = 22 := by kernel_rfl
theorem fo_25_1 : fOff Try.prog 25 1 = 1 := by kernel_rfl
theorem fi_25_1 : FieldIs Try.prog 25 1 1 := FieldIs.mk' Try.underlying25 rfl rfl i_23 (by decide)
theorem ft_25_1 : fldT Try.prog 25 1 = 23 := by kernel_rfl
theorem fo_25_2 : fOff Try.prog 25 2 = 2 := by kernel_rfl
theorem fi_25_2 : FieldIs Try.prog 25 2 2 := FieldIs.mk' Try.underlying25 rfl rfl i_3 (by decide)
theorem ft_25_2 : fldT Try.prog 25 2 = 3 := by kernel_rfl
theorem lay_25 : LayoutOk Try.prog 25 [.pv (.sl true 1 []), .pv (.sl true 1 []), .pv (.lit (.int .i64 0))] := .inr ⟨_, Try.underlying25, rfl, fun k f hk => by match k, hk with | 0, hk => (obtain rfl := Option.some.inj hk; exact ⟨rfl, _, i_22, rfl⟩) | 1, hk => (obtain rfl := Option.some.inj hk; exact ⟨rfl, _, i_23, rfl⟩) | 2, hk => (obtain rfl := Option.some.inj hk; exact ⟨rfl, _, i_3, rfl⟩) | k + 3, hk => simp at hk⟩
theorem i_27 : Try.prog.info? 27 = some Try.t27 := by kernel_rfl
theorem ty_27 : TyIs Try.prog 27 true 3 := TyIs.mk' Try.underlying27 i_27 rfl rfl
theorem zc_27 : zcv Try.prog 8 27 = .node [.pv (.sl true 1 []), .pv (.sl true 1 []), .pv (.lit (.int .i64 0))] := by kernel_rfl
theorem z_27 : ZeroIs Try.prog 27 (.node [.pv (.sl true 1 []), .pv (.sl true 1 []), .pv (.lit (.int .i64 0))]) := ZeroIs.agg i_27 rfl rfl rfl
theorem fo_27_0 : fOff Try.prog 27 0 = 0 := by kernel_rfl
theorem fi_27_0 : FieldIs Try.prog 27 0 0 := FieldIs.mk' Try.underlying27 rfl rfl i_22 (by decide)
theorem ft_27_0 : fldT Try.prog 27 0 = 22 := by kernel_rfl
theorem fo_27_1 : fOff Try.prog 27 1 = 1 := by kernel_rfl
theorem fi_27_1 : FieldIs Try.prog 27 1 1 := FieldIs.mk' Try.underlying27 rfl rfl i_23 (by decide)
theorem ft_27_1 : fldT Try.prog 27 1 = 23 := by kernel_rfl
theorem fo_27_2 : fOff Try.prog 27 2 = 2 := by kernel_rfl
theorem fi_27_2 : FieldIs Try.prog 27 2 2 := FieldIs.mk' Try.underlying27 rfl rfl i_3 (by decide)
theorem ft_27_2 : fldT Try.prog 27 2 = 3 := by kernel_rfl
theorem lay_27 : LayoutOk Try.prog 27 [.pv (.sl true 1 []), .pv (.sl true 1 []), .pv (.lit (.int .i64 0))] := .inr ⟨_, Try.underlying27, rfl, fun k f hk => by match k, hk with | 0, hk => (obtain rfl := Option.some.inj hk; exact ⟨rfl, _, i_22, rfl⟩) | 1, hk => (obtain rfl := Option.some.inj hk; exact ⟨rfl, _, i_23, rfl⟩) | 2, hk => (obtain rfl := Option.some.inj hk; exact ⟨rfl, _, i_3, rfl⟩) | k + 3, hk => simp at hk⟩
theorem i_47 : Try.prog.info? 47 = some Try.t47 := by kernel_rfl
theorem ty_47 : TyIs Try.prog 47 false 1 := TyIs.mk' Try.underlying47 i_47 rfl rfl
theorem i_61 : Try.prog.info? 61 = some Try.t61 := by kernel_rfl
theorem ty_61 : TyIs Try.prog 61 false 1 := TyIs.mk' Try.underlying61 i_61 rfl rfl
theorem zc_61 : zcv Try.prog 8 61 = .pv (.sl true 1 []) := by kernel_rfl
theorem z_61 : ZeroIs Try.prog 61 (.pv (.sl true 1 [])) := ZeroIs.one i_61 rfl rfl rfl rfl rfl
theorem es_61 : eSize Try.prog 61 = 1 := by kernel_rfl
theorem eb_61 : eBytes Try.prog 61 = 1 := by kernel_rfl
theorem sl_61 : SlIs Try.prog 61 1 1 := SlIs.mk' Try.underlying61 i_5 rfl rfl rfl rfl (by decide)
theorem by_61 : IsBytes Try.prog 61 := ⟨_, Try.underlying61, Try.underlying5⟩
theorem is_61 : IsSl Try.prog 61 := ⟨_, Try.underlying61⟩
theorem el_61 : elemOfT Try.prog 61 = 5 := by kernel_rfl
theorem ze_61 : zel Try.prog 61 = (.lit (.int .u8 0)) := by kernel_rfl
theorem ez_61 : ElemZero Try.prog 61 ((.lit (.int .u8 0))) := ElemZero.mk' Try.underlying61 (ZeroIs.one i_5 rfl rfl rfl rfl rfl)
theorem i_62 : Try.prog.info? 62 = some Try.t62 := by kernel_rfl
theorem ty_62 : TyIs Try.prog 62 false 1 := TyIs.mk' Try.underlying62 i_62 rfl rfl
theorem zc_62 : zcv Try.prog 8 62 = .pv (.lit (.int .u64 0)) := by kernel_rfl
theorem z_62 : ZeroIs Try.prog 62 (.pv (.lit (.int .u64 0))) := ZeroIs.one i_62 rfl rfl rfl rfl rfl
theorem mt_47 : MapTy Try.prog 47 3 := ⟨9, Try.underlying47, Try.underlying9⟩
theorem mz_3 : ∃ i v, Try.prog.info? 3 = some i ∧ i.zero = some v ∧ ∀ N w, RepV N w (I (0 : Int)) v [] := ⟨Try.t3, .int .i64 0, by kernel_rfl, rfl, fun N w => ⟨rfl, rfl, rfl⟩⟩
theorem uk_3 : Try.prog.underlying 3 = some (.int .i64) := Try.underlying3
theorem uk_5 : Try.prog.underlying 5 = some (.int .u8) := Try.underlying5
theorem uk_9 : Try.prog.underlying 9 = some .string := Try.underlying9
theorem uk_62 : Try.prog.underlying 62 = some (.int .u64) := Try.underlying62
end Go.Proofs.Ytgbddapcjhgllaa
