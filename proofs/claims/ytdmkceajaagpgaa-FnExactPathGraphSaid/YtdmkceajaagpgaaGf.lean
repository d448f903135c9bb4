/- A part of the proof: lemmas only; nothing is claimed here beyond what each lemma says. -/
import Derived.Test.YtdmkceajaagpgaaAvX
import Derived.Test.YtdmkceajaagpgaaChecked
import Derived.KernelRfl
set_option linter.unusedSimpArgs false
set_option linter.unusedVariables false
set_option linter.defProp false
set_option maxRecDepth 4000
namespace Go.Proofs.Ytdmkceajaagpgaa
open Go.Av
theorem mixed : Try.prog.follows .mixedOrders = true := by kernel_rfl
theorem mixedT : (Try.prog.follows .mixedOrders = true) = True := eq_true mixed
theorem i_3 : Try.prog.info? 3 = some Try.t3 := by kernel_rfl
theorem ty_3 : TyIs Try.prog 3 false 1 := TyIs.mk' Try.underlying3 i_3 rfl rfl
theorem zc_3 : zcv Try.prog 8 3 = .pv (.lit (.int .i64 0)) := by kernel_rfl
theorem z_3 : ZeroIs Try.prog 3 (.pv (.lit (.int .i64 0))) := ZeroIs.one i_3 rfl rfl rfl rfl rfl
theorem i_4 : Try.prog.info? 4 = some Try.t4 := by kernel_rfl
theorem ty_4 : TyIs Try.prog 4 false 1 := TyIs.mk' Try.underlying4 i_4 rfl rfl
theorem zc_4 : zcv Try.prog 8 4 = .pv (.lit (.bool false)) := by kernel_rfl
theorem z_4 : ZeroIs Try.prog 4 (.pv (.lit (.bool false))) := ZeroIs.one i_4 rfl rfl rfl rfl rfl
theorem u_4 : (Try.prog.underlying 4 = some .bool) = True := eq_true Try.underlying4
theorem i_46 : Try.prog.info? 46 = some Try.t46 := by kernel_rfl
theorem ty_46 : TyIs Try.prog 46 false 1 := TyIs.mk' Try.underlying46 i_46 rfl rfl
theorem zc_46 : zcv Try.prog 8 46 = .pv (.sl true 3 []) := by kernel_rfl
theorem z_46 : ZeroIs Try.prog 46 (.pv (.sl true 3 [])) := ZeroIs.one i_46 rfl rfl rfl rfl rfl
theorem i_148 : Try.prog.info? 148 = some Try.t148 := by kernel_rfl
theorem es_46 : eSize Try.prog 46 = 3 := by kernel_rfl
theorem eb_46 : eBytes Try.prog 46 = 24 := by kernel_rfl
theorem sl_46 : SlIs Try.prog 46 3 24 := SlIs.mk' Try.underlying46 i_148 rfl rfl rfl rfl (by decide)
theorem is_46 : IsSl Try.prog 46 := ⟨_, Try.underlying46⟩
theorem el_46 : elemOfT Try.prog 46 = 148 := by kernel_rfl
theorem ze_46 : zel Try.prog 46 = .agg [(.lit (.int .i64 0)), (.lit (.int .i64 0)), (.lit (.bool false))] := by kernel_rfl
theorem ez_46 : ElemZero Try.prog 46 (.agg [(.lit (.int .i64 0)), (.lit (.int .i64 0)), (.lit (.bool false))]) := ElemZero.mk' Try.underlying46 (ZeroIs.agg i_148 rfl rfl rfl)
theorem i_48 : Try.prog.info? 48 = some Try.t48 := by kernel_rfl
theorem ty_48 : TyIs Try.prog 48 true 3 := TyIs.mk' Try.underlying48 i_48 rfl rfl
theorem zc_48 : zcv Try.prog 8 48 = .node [.pv (.lit (.int .i64 0)), .pv (.lit (.int .i64 0)), .pv (.sl true 3 [])] := by kernel_rfl
theorem z_48 : ZeroIs Try.prog 48 (.node [.pv (.lit (.int .i64 0)), .pv (.lit (.int .i64 0)), .pv (.sl true 3 [])]) := ZeroIs.agg i_48 rfl rfl rfl
theorem fo_48_0 : fOff Try.prog 48 0 = 0 := by kernel_rfl
theorem fi_48_0 : FieldIs Try.prog 48 0 0 := FieldIs.mk' Try.underlying48 rfl rfl i_3 (by decide)
theorem ft_48_0 : fldT Try.prog 48 0 = 3 := by kernel_rfl
theorem fo_48_1 : fOff Try.prog 48 1 = 1 := by kernel_rfl
theorem fi_48_1 : FieldIs Try.prog 48 1 1 := FieldIs.mk' Try.underlying48 rfl rfl i_3 (by decide)
theorem ft_48_1 : fldT Try.prog 48 1 = 3 := by kernel_rfl
theorem fo_48_2 : fOff Try.prog 48 2 = 2 := by kernel_rfl
theorem fi_48_2 : FieldIs Try.prog 48 2 2 := FieldIs.mk' Try.underlying48 rfl rfl i_46 (by decide)
theorem ft_48_2 : fldT Try.prog 48 2 = 46 := by kernel_rfl
theorem lay_48 : LayoutOk Try.prog 48 [.pv (.lit (.int .i64 0)), .pv (.lit (.int .i64 0)), .pv (.sl true 3 [])] := ⟨_, Try.underlying48, rfl, fun k f hk => by match k, hk with | 0, hk => (obtain rfl := Option.some.inj hk; exact ⟨rfl, _, i_3, rfl⟩) | 1, hk => (obtain rfl := Option.some.inj hk; exact ⟨rfl, _, i_3, rfl⟩) | 2, hk => (obtain rfl := Option.some.inj hk; exact ⟨rfl, _, i_46, rfl⟩) | k + 3, hk => simp at hk⟩
theorem i_55 : Try.prog.info? 55 = some Try.t55 := by kernel_rfl
theorem ty_55 : TyIs Try.prog 55 false 1 := TyIs.mk' Try.underlying55 i_55 rfl rfl
theorem zc_55 : zcv Try.prog 8 55 = .pv (.sl true 1 []) := by kernel_rfl
theorem z_55 : ZeroIs Try.prog 55 (.pv (.sl true 1 [])) := ZeroIs.one i_55 rfl rfl rfl rfl rfl
theorem es_55 : eSize Try.prog 55 = 1 := by kernel_rfl
theorem eb_55 : eBytes Try.prog 55 = 8 := by kernel_rfl
theorem sl_55 : SlIs Try.prog 55 1 8 := SlIs.mk' Try.underlying55 i_3 rfl rfl rfl rfl (by decide)
theorem is_55 : IsSl Try.prog 55 := ⟨_, Try.underlying55⟩
theorem el_55 : elemOfT Try.prog 55 = 3 := by kernel_rfl
theorem ze_55 : zel Try.prog 55 = (.lit (.int .i64 0)) := by kernel_rfl
theorem ez_55 : ElemZero Try.prog 55 ((.lit (.int .i64 0))) := ElemZero.mk' Try.underlying55 (ZeroIs.one i_3 rfl rfl rfl rfl rfl)
theorem i_56 : Try.prog.info? 56 = some Try.t56 := by kernel_rfl
theorem ty_56 : TyIs Try.prog 56 false 1 := TyIs.mk' Try.underlying56 i_56 rfl rfl
theorem zc_56 : zcv Try.prog 8 56 = .pv (.sl true 3 []) := by kernel_rfl
theorem z_56 : ZeroIs Try.prog 56 (.pv (.sl true 3 [])) := ZeroIs.one i_56 rfl rfl rfl rfl rfl
theorem es_56 : eSize Try.prog 56 = 3 := by kernel_rfl
theorem eb_56 : eBytes Try.prog 56 = 40 := by kernel_rfl
theorem sl_56 : SlIs Try.prog 56 3 40 := SlIs.mk' Try.underlying56 i_48 rfl rfl rfl rfl (by decide)
theorem is_56 : IsSl Try.prog 56 := ⟨_, Try.underlying56⟩
theorem el_56 : elemOfT Try.prog 56 = 48 := by kernel_rfl
theorem ze_56 : zel Try.prog 56 = .agg [(.lit (.int .i64 0)), (.lit (.int .i64 0)), (.sl true 3 [])] := by kernel_rfl
theorem ez_56 : ElemZero Try.prog 56 (.agg [(.lit (.int .i64 0)), (.lit (.int .i64 0)), (.sl true 3 [])]) := ElemZero.mk' Try.underlying56 (ZeroIs.agg i_48 rfl rfl rfl)
theorem i_58 : Try.prog.info? 58 = some Try.t58 := by kernel_rfl
theorem ty_58 : TyIs Try.prog 58 true 2 := TyIs.mk' Try.underlying58 i_58 rfl rfl
theorem zc_58 : zcv Try.prog 8 58 = .node [.pv (.sl true 1 []), .pv (.sl true 3 [])] := by kernel_rfl
theorem z_58 : ZeroIs Try.prog 58 (.node [.pv (.sl true 1 []), .pv (.sl true 3 [])]) := ZeroIs.agg i_58 rfl rfl rfl
theorem fo_58_0 : fOff Try.prog 58 0 = 0 := by kernel_rfl
theorem fi_58_0 : FieldIs Try.prog 58 0 0 := FieldIs.mk' Try.underlying58 rfl rfl i_55 (by decide)
theorem ft_58_0 : fldT Try.prog 58 0 = 55 := by kernel_rfl
theorem fo_58_1 : fOff Try.prog 58 1 = 1 := by kernel_rfl
theorem fi_58_1 : FieldIs Try.prog 58 1 1 := FieldIs.mk' Try.underlying58 rfl rfl i_56 (by decide)
theorem ft_58_1 : fldT Try.prog 58 1 = 56 := by kernel_rfl
theorem lay_58 : LayoutOk Try.prog 58 [.pv (.sl true 1 []), .pv (.sl true 3 [])] := ⟨_, Try.underlying58, rfl, fun k f hk => by match k, hk with | 0, hk => (obtain rfl := Option.some.inj hk; exact ⟨rfl, _, i_55, rfl⟩) | 1, hk => (obtain rfl := Option.some.inj hk; exact ⟨rfl, _, i_56, rfl⟩) | k + 2, hk => simp at hk⟩
theorem i_83 : Try.prog.info? 83 = some Try.t83 := by kernel_rfl
theorem ty_83 : TyIs Try.prog 83 false 1 := TyIs.mk' Try.underlying83 i_83 rfl rfl
theorem zc_83 : zcv Try.prog 8 83 = .pv (.sl true 3 []) := by kernel_rfl
theorem z_83 : ZeroIs Try.prog 83 (.pv (.sl true 3 [])) := ZeroIs.one i_83 rfl rfl rfl rfl rfl
theorem i_240 : Try.prog.info? 240 = some Try.t240 := by kernel_rfl
theorem es_83 : eSize Try.prog 83 = 3 := by kernel_rfl
theorem eb_83 : eBytes Try.prog 83 = 40 := by kernel_rfl
theorem sl_83 : SlIs Try.prog 83 3 40 := SlIs.mk' Try.underlying83 i_240 rfl rfl rfl rfl (by decide)
theorem is_83 : IsSl Try.prog 83 := ⟨_, Try.underlying83⟩
theorem el_83 : elemOfT Try.prog 83 = 240 := by kernel_rfl
theorem ze_83 : zel Try.prog 83 = .agg [(.lit (.int .i64 0)), (.lit (.int .i64 0)), (.sl true 3 [])] := by kernel_rfl
theorem ez_83 : ElemZero Try.prog 83 (.agg [(.lit (.int .i64 0)), (.lit (.int .i64 0)), (.sl true 3 [])]) := ElemZero.mk' Try.underlying83 (ZeroIs.agg i_240 rfl rfl rfl)
theorem i_85 : Try.prog.info? 85 = some Try.t85 := by kernel_rfl
theorem ty_85 : TyIs Try.prog 85 true 2 := TyIs.mk' Try.underlying85 i_85 rfl rfl
theorem zc_85 : zcv Try.prog 8 85 = .node [.pv (.sl true 1 []), .pv (.sl true 3 [])] := by kernel_rfl
theorem z_85 : ZeroIs Try.prog 85 (.node [.pv (.sl true 1 []), .pv (.sl true 3 [])]) := ZeroIs.agg i_85 rfl rfl rfl
theorem fo_85_0 : fOff Try.prog 85 0 = 0 := by kernel_rfl
theorem fi_85_0 : FieldIs Try.prog 85 0 0 := FieldIs.mk' Try.underlying85 rfl rfl i_55 (by decide)
theorem ft_85_0 : fldT Try.prog 85 0 = 55 := by kernel_rfl
theorem fo_85_1 : fOff Try.prog 85 1 = 1 := by kernel_rfl
theorem fi_85_1 : FieldIs Try.prog 85 1 1 := FieldIs.mk' Try.underlying85 rfl rfl i_83 (by decide)
theorem ft_85_1 : fldT Try.prog 85 1 = 83 := by kernel_rfl
theorem lay_85 : LayoutOk Try.prog 85 [.pv (.sl true 1 []), .pv (.sl true 3 [])] := ⟨_, Try.underlying85, rfl, fun k f hk => by match k, hk with | 0, hk => (obtain rfl := Option.some.inj hk; exact ⟨rfl, _, i_55, rfl⟩) | 1, hk => (obtain rfl := Option.some.inj hk; exact ⟨rfl, _, i_83, rfl⟩) | k + 2, hk => simp at hk⟩
theorem i_144 : Try.prog.info? 144 = some Try.t144 := by kernel_rfl
theorem ty_144 : TyIs Try.prog 144 false 1 := TyIs.mk' Try.underlying144 i_144 rfl rfl
theorem zc_144 : zcv Try.prog 8 144 = .pv (.lit .nilFunc) := by kernel_rfl
theorem z_144 : ZeroIs Try.prog 144 (.pv (.lit .nilFunc)) := ZeroIs.one i_144 rfl rfl rfl rfl rfl
theorem i_145 : Try.prog.info? 145 = some Try.t145 := by kernel_rfl
theorem ty_145 : TyIs Try.prog 145 false 1 := TyIs.mk' Try.underlying145 i_145 rfl rfl
theorem zc_145 : zcv Try.prog 8 145 = .pv (.lit .nilFunc) := by kernel_rfl
theorem z_145 : ZeroIs Try.prog 145 (.pv (.lit .nilFunc)) := ZeroIs.one i_145 rfl rfl rfl rfl rfl
theorem ty_148 : TyIs Try.prog 148 true 3 := TyIs.mk' Try.underlying148 i_148 rfl rfl
theorem zc_148 : zcv Try.prog 8 148 = .node [.pv (.lit (.int .i64 0)), .pv (.lit (.int .i64 0)), .pv (.lit (.bool false))] := by kernel_rfl
theorem z_148 : ZeroIs Try.prog 148 (.node [.pv (.lit (.int .i64 0)), .pv (.lit (.int .i64 0)), .pv (.lit (.bool false))]) := ZeroIs.agg i_148 rfl rfl rfl
theorem fo_148_0 : fOff Try.prog 148 0 = 0 := by kernel_rfl
theorem fi_148_0 : FieldIs Try.prog 148 0 0 := FieldIs.mk' Try.underlying148 rfl rfl i_3 (by decide)
theorem ft_148_0 : fldT Try.prog 148 0 = 3 := by kernel_rfl
theorem fo_148_1 : fOff Try.prog 148 1 = 1 := by kernel_rfl
theorem fi_148_1 : FieldIs Try.prog 148 1 1 := FieldIs.mk' Try.underlying148 rfl rfl i_3 (by decide)
theorem ft_148_1 : fldT Try.prog 148 1 = 3 := by kernel_rfl
theorem fo_148_2 : fOff Try.prog 148 2 = 2 := by kernel_rfl
theorem fi_148_2 : FieldIs Try.prog 148 2 2 := FieldIs.mk' Try.underlying148 rfl rfl i_4 (by decide)
theorem ft_148_2 : fldT Try.prog 148 2 = 4 := by kernel_rfl
theorem lay_148 : LayoutOk Try.prog 148 [.pv (.lit (.int .i64 0)), .pv (.lit (.int .i64 0)), .pv (.lit (.bool false))] := ⟨_, Try.underlying148, rfl, fun k f hk => by match k, hk with | 0, hk => (obtain rfl := Option.some.inj hk; exact ⟨rfl, _, i_3, rfl⟩) | 1, hk => (obtain rfl := Option.some.inj hk; exact ⟨rfl, _, i_3, rfl⟩) | 2, hk => (obtain rfl := Option.some.inj hk; exact ⟨rfl, _, i_4, rfl⟩) | k + 3, hk => simp at hk⟩
theorem i_187 : Try.prog.info? 187 = some Try.t187 := by kernel_rfl
theorem ty_187 : TyIs Try.prog 187 false 1 := TyIs.mk' Try.underlying187 i_187 rfl rfl
theorem zc_187 : zcv Try.prog 8 187 = .pv (.lit .nilFunc) := by kernel_rfl
theorem z_187 : ZeroIs Try.prog 187 (.pv (.lit .nilFunc)) := ZeroIs.one i_187 rfl rfl rfl rfl rfl
theorem i_196 : Try.prog.info? 196 = some Try.t196 := by kernel_rfl
theorem ty_196 : TyIs Try.prog 196 false 1 := TyIs.mk' Try.underlying196 i_196 rfl rfl
theorem zc_196 : zcv Try.prog 8 196 = .pv (.lit (.int .u64 0)) := by kernel_rfl
theorem z_196 : ZeroIs Try.prog 196 (.pv (.lit (.int .u64 0))) := ZeroIs.one i_196 rfl rfl rfl rfl rfl
theorem i_222 : Try.prog.info? 222 = some Try.t222 := by kernel_rfl
theorem ty_222 : TyIs Try.prog 222 false 1 := TyIs.mk' Try.underlying222 i_222 rfl rfl
theorem zc_222 : zcv Try.prog 8 222 = .pv (.lit .nilFunc) := by kernel_rfl
theorem z_222 : ZeroIs Try.prog 222 (.pv (.lit .nilFunc)) := ZeroIs.one i_222 rfl rfl rfl rfl rfl
theorem i_238 : Try.prog.info? 238 = some Try.t238 := by kernel_rfl
theorem ty_238 : TyIs Try.prog 238 false 1 := TyIs.mk' Try.underlying238 i_238 rfl rfl
theorem zc_238 : zcv Try.prog 8 238 = .pv (.sl true 3 []) := by kernel_rfl
theorem z_238 : ZeroIs Try.prog 238 (.pv (.sl true 3 [])) := ZeroIs.one i_238 rfl rfl rfl rfl rfl
theorem i_292 : Try.prog.info? 292 = some Try.t292 := by kernel_rfl
theorem es_238 : eSize Try.prog 238 = 3 := by kernel_rfl
theorem eb_238 : eBytes Try.prog 238 = 24 := by kernel_rfl
theorem sl_238 : SlIs Try.prog 238 3 24 := SlIs.mk' Try.underlying238 i_292 rfl rfl rfl rfl (by decide)
theorem is_238 : IsSl Try.prog 238 := ⟨_, Try.underlying238⟩
theorem el_238 : elemOfT Try.prog 238 = 292 := by kernel_rfl
theorem ze_238 : zel Try.prog 238 = .agg [(.lit (.int .i64 0)), (.lit (.int .i64 0)), (.lit (.bool false))] := by kernel_rfl
theorem ez_238 : ElemZero Try.prog 238 (.agg [(.lit (.int .i64 0)), (.lit (.int .i64 0)), (.lit (.bool false))]) := ElemZero.mk' Try.underlying238 (ZeroIs.agg i_292 rfl rfl rfl)
theorem ty_240 : TyIs Try.prog 240 true 3 := TyIs.mk' Try.underlying240 i_240 rfl rfl
theorem zc_240 : zcv Try.prog 8 240 = .node [.pv (.lit (.int .i64 0)), .pv (.lit (.int .i64 0)), .pv (.sl true 3 [])] := by kernel_rfl
theorem z_240 : ZeroIs Try.prog 240 (.node [.pv (.lit (.int .i64 0)), .pv (.lit (.int .i64 0)), .pv (.sl true 3 [])]) := ZeroIs.agg i_240 rfl rfl rfl
theorem fo_240_0 : fOff Try.prog 240 0 = 0 := by kernel_rfl
theorem fi_240_0 : FieldIs Try.prog 240 0 0 := FieldIs.mk' Try.underlying240 rfl rfl i_3 (by decide)
theorem ft_240_0 : fldT Try.prog 240 0 = 3 := by kernel_rfl
theorem fo_240_1 : fOff Try.prog 240 1 = 1 := by kernel_rfl
theorem fi_240_1 : FieldIs Try.prog 240 1 1 := FieldIs.mk' Try.underlying240 rfl rfl i_3 (by decide)
theorem ft_240_1 : fldT Try.prog 240 1 = 3 := by kernel_rfl
theorem fo_240_2 : fOff Try.prog 240 2 = 2 := by kernel_rfl
theorem fi_240_2 : FieldIs Try.prog 240 2 2 := FieldIs.mk' Try.underlying240 rfl rfl i_238 (by decide)
theorem ft_240_2 : fldT Try.prog 240 2 = 238 := by kernel_rfl
theorem lay_240 : LayoutOk Try.prog 240 [.pv (.lit (.int .i64 0)), .pv (.lit (.int .i64 0)), .pv (.sl true 3 [])] := ⟨_, Try.underlying240, rfl, fun k f hk => by match k, hk with | 0, hk => (obtain rfl := Option.some.inj hk; exact ⟨rfl, _, i_3, rfl⟩) | 1, hk => (obtain rfl := Option.some.inj hk; exact ⟨rfl, _, i_3, rfl⟩) | 2, hk => (obtain rfl := Option.some.inj hk; exact ⟨rfl, _, i_238, rfl⟩) | k + 3, hk => simp at hk⟩
theorem ty_292 : TyIs Try.prog 292 true 3 := TyIs.mk' Try.underlying292 i_292 rfl rfl
theorem zc_292 : zcv Try.prog 8 292 = .node [.pv (.lit (.int .i64 0)), .pv (.lit (.int .i64 0)), .pv (.lit (.bool false))] := by kernel_rfl
theorem z_292 : ZeroIs Try.prog 292 (.node [.pv (.lit (.int .i64 0)), .pv (.lit (.int .i64 0)), .pv (.lit (.bool false))]) := ZeroIs.agg i_292 rfl rfl rfl
theorem fo_292_0 : fOff Try.prog 292 0 = 0 := by kernel_rfl
theorem fi_292_0 : FieldIs Try.prog 292 0 0 := FieldIs.mk' Try.underlying292 rfl rfl i_3 (by decide)
theorem ft_292_0 : fldT Try.prog 292 0 = 3 := by kernel_rfl
theorem fo_292_1 : fOff Try.prog 292 1 = 1 := by kernel_rfl
theorem fi_292_1 : FieldIs Try.prog 292 1 1 := FieldIs.mk' Try.underlying292 rfl rfl i_3 (by decide)
theorem ft_292_1 : fldT Try.prog 292 1 = 3 := by kernel_rfl
theorem fo_292_2 : fOff Try.prog 292 2 = 2 := by kernel_rfl
theorem fi_292_2 : FieldIs Try.prog 292 2 2 := FieldIs.mk' Try.underlying292 rfl rfl i_4 (by decide)
theorem ft_292_2 : fldT Try.prog 292 2 = 4 := by kernel_rfl
theorem lay_292 : LayoutOk Try.prog 292 [.pv (.lit (.int .i64 0)), .pv (.lit (.int .i64 0)), .pv (.lit (.bool false))] := ⟨_, Try.underlying292, rfl, fun k f hk => by match k, hk with | 0, hk => (obtain rfl := Option.some.inj hk; exact ⟨rfl, _, i_3, rfl⟩) | 1, hk => (obtain rfl := Option.some.inj hk; exact ⟨rfl, _, i_3, rfl⟩) | 2, hk => (obtain rfl := Option.some.inj hk; exact ⟨rfl, _, i_4, rfl⟩) | k + 3, hk => simp at hk⟩
theorem isIntB_i : isIntB (Try.prog.underlying 3) = true := by kernel_rfl
theorem uk_3 : Try.prog.underlying 3 = some (.int .i64) := Try.underlying3
theorem uk_196 : Try.prog.underlying 196 = some (.int .u64) := Try.underlying196
end Go.Proofs.Ytdmkceajaagpgaa
