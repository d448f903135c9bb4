/- A part of the proof: lemmas only; nothing is claimed here beyond what each lemma says. -/
import Derived.Test.YtdmkceajaagpgaaAvX
import Derived.Test.YtdmkceajaagpgaaChecked
import Derived.KernelRfl
set_option linter.unusedSimpArgs false
set_option linter.unusedVariables false
set_option linter.defProp false
set_option maxRecDepth 4000
namespace Go.Proofs.Ytdmkceajaagpgaa
open Go.Av
theorem mixed : Try.prog.follows .mixedOrders = true := by kernel_rfl
theorem mixedT : (Try.prog.follows .mixedOrders = true) = True := eq_true mixed
theorem i_3 : Try.prog.info? 3 = some Try.t3 := by kernel_rfl
theorem ty_3 : TyIs Try.prog 3 false 1 := TyIs.mk' Try.underlying3 i_3 rfl rfl
theorem zc_3 : zcv Try.prog 8 3 = .pv (.lit (.int .i64 0)) := by kernel_rfl
theorem z_3 : ZeroIs Try.prog 3 (.pv (.lit (.int .i64 0))) := ZeroIs.one i_3 rfl rfl rfl rfl rfl
theorem i_4 : Try.prog.info? 4 = some Try.t4 := by kernel_rfl
theorem ty_4 : TyIs Try.prog 4 false 1 := TyIs.mk' Try.underlying4 i_4 rfl rfl
theorem zc_4 : zcv Try.prog 8 4 = .pv (.lit (.bool false)) := by kernel_rfl
theorem z_4 : ZeroIs Try.prog 4 (.pv (.lit (.bool false))) := ZeroIs.one i_4 rfl rfl rfl rfl rfl
theorem u_4 : (Try.prog.underlying 4 = some .bool) = True := eq_true Try.underlying4
theorem i_5 : Try.prog.info? 5 = some Try.t5 := by kernel_rfl
theorem ty_5 : TyIs Try.prog 5 false 1 := TyIs.mk' Try.underlying5 i_5 rfl rfl
theorem zc_5 : zcv Try.prog 8 5 = .pv (.lit (.int .u8 0)) := by kernel_rfl
theorem z_5 : ZeroIs Try.prog 5 (.pv (.lit (.int .u8 0))) := ZeroIs.one i_5 rfl rfl rfl rfl rfl
theorem i_9 : Try.prog.info? 9 = some Try.t9 := by kernel_rfl
theorem ty_9 : TyIs Try.prog 9 false 1 := TyIs.mk' Try.underlying9 i_9 rfl rfl
theorem zc_9 : zcv Try.prog 8 9 = .pv (.lit (.string ⟨#[]⟩)) := by kernel_rfl
theorem z_9 : ZeroIs Try.prog 9 (.pv (.lit (.string ⟨#[]⟩))) := ZeroIs.one i_9 rfl rfl rfl rfl rfl
theorem u_9 : (Try.prog.underlying 9 = some .string) = True := eq_true Try.underlying9
theorem i_22 : Try.prog.info? 22 = some Try.t22 := by kernel_rfl
theorem ty_22 : TyIs Try.prog 22 false 1 := TyIs.mk' Try.underlying22 i_22 rfl rfl
theorem zc_22 : zcv Try.prog 8 22 = .pv (.sl true 2 []) := by kernel_rfl
theorem z_22 : ZeroIs Try.prog 22 (.pv (.sl true 2 [])) := ZeroIs.one i_22 rfl rfl rfl rfl rfl
theorem i_64 : Try.prog.info? 64 = some Try.t64 := by kernel_rfl
theorem es_22 : eSize Try.prog 22 = 2 := by kernel_rfl
theorem eb_22 : eBytes Try.prog 22 = 40 := by kernel_rfl
theorem sl_22 : SlIs Try.prog 22 2 40 := SlIs.mk' Try.underlying22 i_64 rfl rfl rfl rfl (by decide)
theorem is_22 : IsSl Try.prog 22 := ⟨_, Try.underlying22⟩
theorem el_22 : elemOfT Try.prog 22 = 64 := by kernel_rfl
theorem ze_22 : zel Try.prog 22 = .agg [(.lit (.string ⟨#[]⟩)), (.sl true 2 [])] := by kernel_rfl
theorem ez_22 : ElemZero Try.prog 22 (.agg [(.lit (.string ⟨#[]⟩)), (.sl true 2 [])]) := ElemZero.mk' Try.underlying22 (ZeroIs.agg i_64 rfl rfl rfl)
theorem i_27 : Try.prog.info? 27 = some Try.t27 := by kernel_rfl
theorem ty_27 : TyIs Try.prog 27 false 1 := TyIs.mk' Try.underlying27 i_27 rfl rfl
theorem zc_27 : zcv Try.prog 8 27 = .pv (.sl true 2 []) := by kernel_rfl
theorem z_27 : ZeroIs Try.prog 27 (.pv (.sl true 2 [])) := ZeroIs.one i_27 rfl rfl rfl rfl rfl
theorem i_35 : Try.prog.info? 35 = some Try.t35 := by kernel_rfl
theorem es_27 : eSize Try.prog 27 = 2 := by kernel_rfl
theorem eb_27 : eBytes Try.prog 27 = 40 := by kernel_rfl
theorem sl_27 : SlIs Try.prog 27 2 40 := SlIs.mk' Try.underlying27 i_35 rfl rfl rfl rfl (by decide)
theorem is_27 : IsSl Try.prog 27 := ⟨_, Try.underlying27⟩
theorem el_27 : elemOfT Try.prog 27 = 35 := by kernel_rfl
theorem ze_27 : zel Try.prog 27 = .agg [(.lit (.string ⟨#[]⟩)), (.sl true 2 [])] := by kernel_rfl
theorem ez_27 : ElemZero Try.prog 27 (.agg [(.lit (.string ⟨#[]⟩)), (.sl true 2 [])]) := ElemZero.mk' Try.underlying27 (ZeroIs.agg i_35 rfl rfl rfl)
theorem ty_35 : TyIs Try.prog 35 true 2 := TyIs.mk' Try.underlying35 i_35 rfl rfl
theorem zc_35 : zcv Try.prog 8 35 = .node [.pv (.lit (.string ⟨#[]⟩)), .pv (.sl true 2 [])] := by kernel_rfl
theorem z_35 : ZeroIs Try.prog 35 (.node [.pv (.lit (.string ⟨#[]⟩)), .pv (.sl true 2 [])]) := ZeroIs.agg i_35 rfl rfl rfl
theorem fo_35_0 : fOff Try.prog 35 0 = 0 := by kernel_rfl
theorem fi_35_0 : FieldIs Try.prog 35 0 0 := FieldIs.mk' Try.underlying35 rfl rfl i_9 (by decide)
theorem ft_35_0 : fldT Try.prog 35 0 = 9 := by kernel_rfl
theorem fo_35_1 : fOff Try.prog 35 1 = 1 := by kernel_rfl
theorem fi_35_1 : FieldIs Try.prog 35 1 1 := FieldIs.mk' Try.underlying35 rfl rfl i_27 (by decide)
theorem ft_35_1 : fldT Try.prog 35 1 = 27 := by kernel_rfl
theorem lay_35 : LayoutOk Try.prog 35 [.pv (.lit (.string ⟨#[]⟩)), .pv (.sl true 2 [])] := ⟨_, Try.underlying35, rfl, fun k f hk => by match k, hk with | 0, hk => (obtain rfl := Option.some.inj hk; exact ⟨rfl, _, i_9, rfl⟩) | 1, hk => (obtain rfl := Option.some.inj hk; exact ⟨rfl, _, i_27, rfl⟩) | k + 2, hk => simp at hk⟩
theorem i_39 : Try.prog.info? 39 = some Try.t39 := by kernel_rfl
theorem ty_39 : TyIs Try.prog 39 false 1 := TyIs.mk' Try.underlying39 i_39 rfl rfl
theorem zc_39 : zcv Try.prog 8 39 = .pv (.lit .nilFunc) := by kernel_rfl
theorem z_39 : ZeroIs Try.prog 39 (.pv (.lit .nilFunc)) := ZeroIs.one i_39 rfl rfl rfl rfl rfl
theorem ty_64 : TyIs Try.prog 64 true 2 := TyIs.mk' Try.underlying64 i_64 rfl rfl
theorem zc_64 : zcv Try.prog 8 64 = .node [.pv (.lit (.string ⟨#[]⟩)), .pv (.sl true 2 [])] := by kernel_rfl
theorem z_64 : ZeroIs Try.prog 64 (.node [.pv (.lit (.string ⟨#[]⟩)), .pv (.sl true 2 [])]) := ZeroIs.agg i_64 rfl rfl rfl
theorem fo_64_0 : fOff Try.prog 64 0 = 0 := by kernel_rfl
theorem fi_64_0 : FieldIs Try.prog 64 0 0 := FieldIs.mk' Try.underlying64 rfl rfl i_9 (by decide)
theorem ft_64_0 : fldT Try.prog 64 0 = 9 := by kernel_rfl
theorem fo_64_1 : fOff Try.prog 64 1 = 1 := by kernel_rfl
theorem fi_64_1 : FieldIs Try.prog 64 1 1 := FieldIs.mk' Try.underlying64 rfl rfl i_22 (by decide)
theorem ft_64_1 : fldT Try.prog 64 1 = 22 := by kernel_rfl
theorem lay_64 : LayoutOk Try.prog 64 [.pv (.lit (.string ⟨#[]⟩)), .pv (.sl true 2 [])] := ⟨_, Try.underlying64, rfl, fun k f hk => by match k, hk with | 0, hk => (obtain rfl := Option.some.inj hk; exact ⟨rfl, _, i_9, rfl⟩) | 1, hk => (obtain rfl := Option.some.inj hk; exact ⟨rfl, _, i_22, rfl⟩) | k + 2, hk => simp at hk⟩
theorem i_65 : Try.prog.info? 65 = some Try.t65 := by kernel_rfl
theorem ty_65 : TyIs Try.prog 65 false 1 := TyIs.mk' Try.underlying65 i_65 rfl rfl
theorem zc_65 : zcv Try.prog 8 65 = .pv (.sl true 1 []) := by kernel_rfl
theorem z_65 : ZeroIs Try.prog 65 (.pv (.sl true 1 [])) := ZeroIs.one i_65 rfl rfl rfl rfl rfl
theorem es_65 : eSize Try.prog 65 = 1 := by kernel_rfl
theorem eb_65 : eBytes Try.prog 65 = 16 := by kernel_rfl
theorem sl_65 : SlIs Try.prog 65 1 16 := SlIs.mk' Try.underlying65 i_9 rfl rfl rfl rfl (by decide)
theorem is_65 : IsSl Try.prog 65 := ⟨_, Try.underlying65⟩
theorem el_65 : elemOfT Try.prog 65 = 9 := by kernel_rfl
theorem ze_65 : zel Try.prog 65 = (.lit (.string ⟨#[]⟩)) := by kernel_rfl
theorem ez_65 : ElemZero Try.prog 65 ((.lit (.string ⟨#[]⟩))) := ElemZero.mk' Try.underlying65 (ZeroIs.one i_9 rfl rfl rfl rfl rfl)
theorem i_108 : Try.prog.info? 108 = some Try.t108 := by kernel_rfl
theorem ty_108 : TyIs Try.prog 108 false 1 := TyIs.mk' Try.underlying108 i_108 rfl rfl
theorem zc_108 : zcv Try.prog 8 108 = .pv (.sl true 2 []) := by kernel_rfl
theorem z_108 : ZeroIs Try.prog 108 (.pv (.sl true 2 [])) := ZeroIs.one i_108 rfl rfl rfl rfl rfl
theorem i_191 : Try.prog.info? 191 = some Try.t191 := by kernel_rfl
theorem es_108 : eSize Try.prog 108 = 2 := by kernel_rfl
theorem eb_108 : eBytes Try.prog 108 = 48 := by kernel_rfl
theorem sl_108 : SlIs Try.prog 108 2 48 := SlIs.mk' Try.underlying108 i_191 rfl rfl rfl rfl (by decide)
theorem is_108 : IsSl Try.prog 108 := ⟨_, Try.underlying108⟩
theorem el_108 : elemOfT Try.prog 108 = 191 := by kernel_rfl
theorem ze_108 : zel Try.prog 108 = .agg [(.sl true 5 []), (.sl true 5 [])] := by kernel_rfl
theorem ez_108 : ElemZero Try.prog 108 (.agg [(.sl true 5 []), (.sl true 5 [])]) := ElemZero.mk' Try.underlying108 (ZeroIs.agg i_191 rfl rfl rfl)
theorem i_112 : Try.prog.info? 112 = some Try.t112 := by kernel_rfl
theorem ty_112 : TyIs Try.prog 112 false 1 := TyIs.mk' Try.underlying112 i_112 rfl rfl
theorem zc_112 : zcv Try.prog 8 112 = .pv (.sl true 2 []) := by kernel_rfl
theorem z_112 : ZeroIs Try.prog 112 (.pv (.sl true 2 [])) := ZeroIs.one i_112 rfl rfl rfl rfl rfl
theorem i_194 : Try.prog.info? 194 = some Try.t194 := by kernel_rfl
theorem es_112 : eSize Try.prog 112 = 2 := by kernel_rfl
theorem eb_112 : eBytes Try.prog 112 = 48 := by kernel_rfl
theorem sl_112 : SlIs Try.prog 112 2 48 := SlIs.mk' Try.underlying112 i_194 rfl rfl rfl rfl (by decide)
theorem is_112 : IsSl Try.prog 112 := ⟨_, Try.underlying112⟩
theorem el_112 : elemOfT Try.prog 112 = 194 := by kernel_rfl
theorem ze_112 : zel Try.prog 112 = .agg [(.sl true 5 []), (.sl true 5 [])] := by kernel_rfl
theorem ez_112 : ElemZero Try.prog 112 (.agg [(.sl true 5 []), (.sl true 5 [])]) := ElemZero.mk' Try.underlying112 (ZeroIs.agg i_194 rfl rfl rfl)
theorem i_119 : Try.prog.info? 119 = some Try.t119 := by kernel_rfl
theorem ty_119 : TyIs Try.prog 119 false 1 := TyIs.mk' Try.underlying119 i_119 rfl rfl
theorem zc_119 : zcv Try.prog 8 119 = .pv (.sl true 5 []) := by kernel_rfl
theorem z_119 : ZeroIs Try.prog 119 (.pv (.sl true 5 [])) := ZeroIs.one i_119 rfl rfl rfl rfl rfl
theorem i_121 : Try.prog.info? 121 = some Try.t121 := by kernel_rfl
theorem es_119 : eSize Try.prog 119 = 5 := by kernel_rfl
theorem eb_119 : eBytes Try.prog 119 = 88 := by kernel_rfl
theorem sl_119 : SlIs Try.prog 119 5 88 := SlIs.mk' Try.underlying119 i_121 rfl rfl rfl rfl (by decide)
theorem is_119 : IsSl Try.prog 119 := ⟨_, Try.underlying119⟩
theorem el_119 : elemOfT Try.prog 119 = 121 := by kernel_rfl
theorem ze_119 : zel Try.prog 119 = .agg [(.lit (.int .i64 0)), .agg [(.lit (.string ⟨#[]⟩)), (.sl true 2 [])], (.lit (.string ⟨#[]⟩)), (.sl true 5 [])] := by kernel_rfl
theorem ez_119 : ElemZero Try.prog 119 (.agg [(.lit (.int .i64 0)), .agg [(.lit (.string ⟨#[]⟩)), (.sl true 2 [])], (.lit (.string ⟨#[]⟩)), (.sl true 5 [])]) := ElemZero.mk' Try.underlying119 (ZeroIs.agg i_121 rfl rfl rfl)
theorem ty_121 : TyIs Try.prog 121 true 5 := TyIs.mk' Try.underlying121 i_121 rfl rfl
theorem zc_121 : zcv Try.prog 8 121 = .node [.pv (.lit (.int .i64 0)), .node [.pv (.lit (.string ⟨#[]⟩)), .pv (.sl true 2 [])], .pv (.lit (.string ⟨#[]⟩)), .pv (.sl true 5 [])] := by kernel_rfl
theorem z_121 : ZeroIs Try.prog 121 (.node [.pv (.lit (.int .i64 0)), .node [.pv (.lit (.string ⟨#[]⟩)), .pv (.sl true 2 [])], .pv (.lit (.string ⟨#[]⟩)), .pv (.sl true 5 [])]) := ZeroIs.agg i_121 rfl rfl rfl
theorem fo_121_0 : fOff Try.prog 121 0 = 0 := by kernel_rfl
theorem fi_121_0 : FieldIs Try.prog 121 0 0 := FieldIs.mk' Try.underlying121 rfl rfl i_3 (by decide)
theorem ft_121_0 : fldT Try.prog 121 0 = 3 := by kernel_rfl
theorem fo_121_1 : fOff Try.prog 121 1 = 1 := by kernel_rfl
theorem fi_121_1 : FieldIs Try.prog 121 1 1 := FieldIs.mk' Try.underlying121 rfl rfl i_35 (by decide)
theorem ft_121_1 : fldT Try.prog 121 1 = 35 := by kernel_rfl
theorem fo_121_2 : fOff Try.prog 121 2 = 3 := by kernel_rfl
theorem fi_121_2 : FieldIs Try.prog 121 2 3 := FieldIs.mk' Try.underlying121 rfl rfl i_9 (by decide)
theorem ft_121_2 : fldT Try.prog 121 2 = 9 := by kernel_rfl
theorem fo_121_3 : fOff Try.prog 121 3 = 4 := by kernel_rfl
theorem fi_121_3 : FieldIs Try.prog 121 3 4 := FieldIs.mk' Try.underlying121 rfl rfl i_119 (by decide)
theorem ft_121_3 : fldT Try.prog 121 3 = 119 := by kernel_rfl
theorem lay_121 : LayoutOk Try.prog 121 [.pv (.lit (.int .i64 0)), .node [.pv (.lit (.string ⟨#[]⟩)), .pv (.sl true 2 [])], .pv (.lit (.string ⟨#[]⟩)), .pv (.sl true 5 [])] := ⟨_, Try.underlying121, rfl, fun k f hk => by match k, hk with | 0, hk => (obtain rfl := Option.some.inj hk; exact ⟨rfl, _, i_3, rfl⟩) | 1, hk => (obtain rfl := Option.some.inj hk; exact ⟨rfl, _, i_35, rfl⟩) | 2, hk => (obtain rfl := Option.some.inj hk; exact ⟨rfl, _, i_9, rfl⟩) | 3, hk => (obtain rfl := Option.some.inj hk; exact ⟨rfl, _, i_119, rfl⟩) | k + 4, hk => simp at hk⟩
theorem i_126 : Try.prog.info? 126 = some Try.t126 := by kernel_rfl
theorem ty_126 : TyIs Try.prog 126 false 1 := TyIs.mk' Try.underlying126 i_126 rfl rfl
theorem zc_126 : zcv Try.prog 8 126 = .pv (.lit .nilFunc) := by kernel_rfl
theorem z_126 : ZeroIs Try.prog 126 (.pv (.lit .nilFunc)) := ZeroIs.one i_126 rfl rfl rfl rfl rfl
theorem i_132 : Try.prog.info? 132 = some Try.t132 := by kernel_rfl
theorem ty_132 : TyIs Try.prog 132 false 1 := TyIs.mk' Try.underlying132 i_132 rfl rfl
theorem zc_132 : zcv Try.prog 8 132 = .pv (.lit .nilFunc) := by kernel_rfl
theorem z_132 : ZeroIs Try.prog 132 (.pv (.lit .nilFunc)) := ZeroIs.one i_132 rfl rfl rfl rfl rfl
theorem i_189 : Try.prog.info? 189 = some Try.t189 := by kernel_rfl
theorem ty_189 : TyIs Try.prog 189 false 1 := TyIs.mk' Try.underlying189 i_189 rfl rfl
theorem zc_189 : zcv Try.prog 8 189 = .pv (.sl true 5 []) := by kernel_rfl
theorem z_189 : ZeroIs Try.prog 189 (.pv (.sl true 5 [])) := ZeroIs.one i_189 rfl rfl rfl rfl rfl
theorem i_285 : Try.prog.info? 285 = some Try.t285 := by kernel_rfl
theorem es_189 : eSize Try.prog 189 = 5 := by kernel_rfl
theorem eb_189 : eBytes Try.prog 189 = 88 := by kernel_rfl
theorem sl_189 : SlIs Try.prog 189 5 88 := SlIs.mk' Try.underlying189 i_285 rfl rfl rfl rfl (by decide)
theorem is_189 : IsSl Try.prog 189 := ⟨_, Try.underlying189⟩
theorem el_189 : elemOfT Try.prog 189 = 285 := by kernel_rfl
theorem ze_189 : zel Try.prog 189 = .agg [(.lit (.int .i64 0)), .agg [(.lit (.string ⟨#[]⟩)), (.sl true 2 [])], (.lit (.string ⟨#[]⟩)), (.sl true 5 [])] := by kernel_rfl
theorem ez_189 : ElemZero Try.prog 189 (.agg [(.lit (.int .i64 0)), .agg [(.lit (.string ⟨#[]⟩)), (.sl true 2 [])], (.lit (.string ⟨#[]⟩)), (.sl true 5 [])]) := ElemZero.mk' Try.underlying189 (ZeroIs.agg i_285 rfl rfl rfl)
theorem ty_191 : TyIs Try.prog 191 true 2 := TyIs.mk' Try.underlying191 i_191 rfl rfl
theorem zc_191 : zcv Try.prog 8 191 = .node [.pv (.sl true 5 []), .pv (.sl true 5 [])] := by kernel_rfl
theorem z_191 : ZeroIs Try.prog 191 (.node [.pv (.sl true 5 []), .pv (.sl true 5 [])]) := ZeroIs.agg i_191 rfl rfl rfl
theorem fo_191_0 : fOff Try.prog 191 0 = 0 := by kernel_rfl
theorem fi_191_0 : FieldIs Try.prog 191 0 0 := FieldIs.mk' Try.underlying191 rfl rfl i_189 (by decide)
theorem ft_191_0 : fldT Try.prog 191 0 = 189 := by kernel_rfl
theorem fo_191_1 : fOff Try.prog 191 1 = 1 := by kernel_rfl
theorem fi_191_1 : FieldIs Try.prog 191 1 1 := FieldIs.mk' Try.underlying191 rfl rfl i_189 (by decide)
theorem ft_191_1 : fldT Try.prog 191 1 = 189 := by kernel_rfl
theorem lay_191 : LayoutOk Try.prog 191 [.pv (.sl true 5 []), .pv (.sl true 5 [])] := ⟨_, Try.underlying191, rfl, fun k f hk => by match k, hk with | 0, hk => (obtain rfl := Option.some.inj hk; exact ⟨rfl, _, i_189, rfl⟩) | 1, hk => (obtain rfl := Option.some.inj hk; exact ⟨rfl, _, i_189, rfl⟩) | k + 2, hk => simp at hk⟩
theorem i_192 : Try.prog.info? 192 = some Try.t192 := by kernel_rfl
theorem ty_192 : TyIs Try.prog 192 false 1 := TyIs.mk' Try.underlying192 i_192 rfl rfl
theorem zc_192 : zcv Try.prog 8 192 = .pv (.lit .nilFunc) := by kernel_rfl
theorem z_192 : ZeroIs Try.prog 192 (.pv (.lit .nilFunc)) := ZeroIs.one i_192 rfl rfl rfl rfl rfl
theorem ty_194 : TyIs Try.prog 194 true 2 := TyIs.mk' Try.underlying194 i_194 rfl rfl
theorem zc_194 : zcv Try.prog 8 194 = .node [.pv (.sl true 5 []), .pv (.sl true 5 [])] := by kernel_rfl
theorem z_194 : ZeroIs Try.prog 194 (.node [.pv (.sl true 5 []), .pv (.sl true 5 [])]) := ZeroIs.agg i_194 rfl rfl rfl
theorem fo_194_0 : fOff Try.prog 194 0 = 0 := by kernel_rfl
theorem fi_194_0 : FieldIs Try.prog 194 0 0 := FieldIs.mk' Try.underlying194 rfl rfl i_119 (by decide)
theorem ft_194_0 : fldT Try.prog 194 0 = 119 := by kernel_rfl
theorem fo_194_1 : fOff Try.prog 194 1 = 1 := by kernel_rfl
theorem fi_194_1 : FieldIs Try.prog 194 1 1 := FieldIs.mk' Try.underlying194 rfl rfl i_119 (by decide)
theorem ft_194_1 : fldT Try.prog 194 1 = 119 := by kernel_rfl
theorem lay_194 : LayoutOk Try.prog 194 [.pv (.sl true 5 []), .pv (.sl true 5 [])] := ⟨_, Try.underlying194, rfl, fun k f hk => by match k, hk with | 0, hk => (obtain rfl := Option.some.inj hk; exact ⟨rfl, _, i_119, rfl⟩) | 1, hk => (obtain rfl := Option.some.inj hk; exact ⟨rfl, _, i_119, rfl⟩) | k + 2, hk => simp at hk⟩
theorem i_196 : Try.prog.info? 196 = some Try.t196 := by kernel_rfl
theorem ty_196 : TyIs Try.prog 196 false 1 := TyIs.mk' Try.underlying196 i_196 rfl rfl
theorem zc_196 : zcv Try.prog 8 196 = .pv (.lit (.int .u64 0)) := by kernel_rfl
theorem z_196 : ZeroIs Try.prog 196 (.pv (.lit (.int .u64 0))) := ZeroIs.one i_196 rfl rfl rfl rfl rfl
theorem i_203 : Try.prog.info? 203 = some Try.t203 := by kernel_rfl
theorem ty_203 : TyIs Try.prog 203 false 1 := TyIs.mk' Try.underlying203 i_203 rfl rfl
theorem zc_203 : zcv Try.prog 8 203 = .pv (.lit .nilFunc) := by kernel_rfl
theorem z_203 : ZeroIs Try.prog 203 (.pv (.lit .nilFunc)) := ZeroIs.one i_203 rfl rfl rfl rfl rfl
theorem i_255 : Try.prog.info? 255 = some Try.t255 := by kernel_rfl
theorem ty_255 : TyIs Try.prog 255 false 1 := TyIs.mk' Try.underlying255 i_255 rfl rfl
theorem zc_255 : zcv Try.prog 8 255 = .pv (.sl true 1 []) := by kernel_rfl
theorem z_255 : ZeroIs Try.prog 255 (.pv (.sl true 1 [])) := ZeroIs.one i_255 rfl rfl rfl rfl rfl
theorem es_255 : eSize Try.prog 255 = 1 := by kernel_rfl
theorem eb_255 : eBytes Try.prog 255 = 24 := by kernel_rfl
theorem sl_255 : SlIs Try.prog 255 1 24 := SlIs.mk' Try.underlying255 i_119 rfl rfl rfl rfl (by decide)
theorem is_255 : IsSl Try.prog 255 := ⟨_, Try.underlying255⟩
theorem el_255 : elemOfT Try.prog 255 = 119 := by kernel_rfl
theorem ze_255 : zel Try.prog 255 = (.sl true 5 []) := by kernel_rfl
theorem ez_255 : ElemZero Try.prog 255 ((.sl true 5 [])) := ElemZero.mk' Try.underlying255 (ZeroIs.one i_119 rfl rfl rfl rfl rfl)
theorem ty_285 : TyIs Try.prog 285 true 5 := TyIs.mk' Try.underlying285 i_285 rfl rfl
theorem zc_285 : zcv Try.prog 8 285 = .node [.pv (.lit (.int .i64 0)), .node [.pv (.lit (.string ⟨#[]⟩)), .pv (.sl true 2 [])], .pv (.lit (.string ⟨#[]⟩)), .pv (.sl true 5 [])] := by kernel_rfl
theorem z_285 : ZeroIs Try.prog 285 (.node [.pv (.lit (.int .i64 0)), .node [.pv (.lit (.string ⟨#[]⟩)), .pv (.sl true 2 [])], .pv (.lit (.string ⟨#[]⟩)), .pv (.sl true 5 [])]) := ZeroIs.agg i_285 rfl rfl rfl
theorem fo_285_0 : fOff Try.prog 285 0 = 0 := by kernel_rfl
theorem fi_285_0 : FieldIs Try.prog 285 0 0 := FieldIs.mk' Try.underlying285 rfl rfl i_3 (by decide)
theorem ft_285_0 : fldT Try.prog 285 0 = 3 := by kernel_rfl
theorem fo_285_1 : fOff Try.prog 285 1 = 1 := by kernel_rfl
theorem fi_285_1 : FieldIs Try.prog 285 1 1 := FieldIs.mk' Try.underlying285 rfl rfl i_64 (by decide)
theorem ft_285_1 : fldT Try.prog 285 1 = 64 := by kernel_rfl
theorem fo_285_2 : fOff Try.prog 285 2 = 3 := by kernel_rfl
theorem fi_285_2 : FieldIs Try.prog 285 2 3 := FieldIs.mk' Try.underlying285 rfl rfl i_9 (by decide)
theorem ft_285_2 : fldT Try.prog 285 2 = 9 := by kernel_rfl
theorem fo_285_3 : fOff Try.prog 285 3 = 4 := by kernel_rfl
theorem fi_285_3 : FieldIs Try.prog 285 3 4 := FieldIs.mk' Try.underlying285 rfl rfl i_189 (by decide)
theorem ft_285_3 : fldT Try.prog 285 3 = 189 := by kernel_rfl
theorem lay_285 : LayoutOk Try.prog 285 [.pv (.lit (.int .i64 0)), .node [.pv (.lit (.string ⟨#[]⟩)), .pv (.sl true 2 [])], .pv (.lit (.string ⟨#[]⟩)), .pv (.sl true 5 [])] := ⟨_, Try.underlying285, rfl, fun k f hk => by match k, hk with | 0, hk => (obtain rfl := Option.some.inj hk; exact ⟨rfl, _, i_3, rfl⟩) | 1, hk => (obtain rfl := Option.some.inj hk; exact ⟨rfl, _, i_64, rfl⟩) | 2, hk => (obtain rfl := Option.some.inj hk; exact ⟨rfl, _, i_9, rfl⟩) | 3, hk => (obtain rfl := Option.some.inj hk; exact ⟨rfl, _, i_189, rfl⟩) | k + 4, hk => simp at hk⟩
theorem isIntB_i : isIntB (Try.prog.underlying 3) = true := by kernel_rfl
theorem uk_3 : Try.prog.underlying 3 = some (.int .i64) := Try.underlying3
theorem uk_196 : Try.prog.underlying 196 = some (.int .u64) := Try.underlying196
end Go.Proofs.Ytdmkceajaagpgaa
