/- A part of the proof: lemmas only; nothing is claimed here beyond what each lemma says. -/
import Derived.Test.YtdmkceajaagpgaaAvN
import Derived.Test.YtdmkceajaagpgaaChecked
import Derived.KernelRfl
set_option linter.unusedSimpArgs false
set_option linter.unusedVariables false
set_option linter.defProp false
set_option maxRecDepth 4000
namespace Go.Proofs.Ytdmkceajaagpgaa
open Go.Av
theorem mixed : Try.prog.follows .mixedOrders = true := by kernel_rfl
theorem mixedT : (Try.prog.follows .mixedOrders = true) = True := eq_true mixed
theorem i_3 : Try.prog.info? 3 = some Try.t3 := by kernel_rfl
theorem ty_3 : TyIs Try.prog 3 false 1 := TyIs.mk' Try.underlying3 i_3 rfl rfl
theorem zc_3 : zcv Try.prog 8 3 = .pv (.lit (.int .i64 0)) := by kernel_rfl
theorem z_3 : ZeroIs Try.prog 3 (.pv (.lit (.int .i64 0))) := ZeroIs.one i_3 rfl rfl rfl rfl rfl
theorem i_4 : Try.prog.info? 4 = some Try.t4 := by kernel_rfl
theorem ty_4 : TyIs Try.prog 4 false 1 := TyIs.mk' Try.underlying4 i_4 rfl rfl
theorem zc_4 : zcv Try.prog 8 4 = .pv (.lit (.bool false)) := by kernel_rfl
theorem z_4 : ZeroIs Try.prog 4 (.pv (.lit (.bool false))) := ZeroIs.one i_4 rfl rfl rfl rfl rfl
theorem u_4 : (Try.prog.underlying 4 = some .bool) = True := eq_true Try.underlying4
theorem i_5 : Try.prog.info? 5 = some Try.t5 := by kernel_rfl
theorem ty_5 : TyIs Try.prog 5 false 1 := TyIs.mk' Try.underlying5 i_5 rfl rfl
theorem zc_5 : zcv Try.prog 8 5 = .pv (.lit (.int .u8 0)) := by kernel_rfl
theorem z_5 : ZeroIs Try.prog 5 (.pv (.lit (.int .u8 0))) := ZeroIs.one i_5 rfl rfl rfl rfl rfl
theorem i_9 : Try.prog.info? 9 = some Try.t9 := by kernel_rfl
theorem ty_9 : TyIs Try.prog 9 false 1 := TyIs.mk' Try.underlying9 i_9 rfl rfl
theorem zc_9 : zcv Try.prog 8 9 = .pv (.lit (.string ⟨#[]⟩)) := by kernel_rfl
theorem z_9 : ZeroIs Try.prog 9 (.pv (.lit (.string ⟨#[]⟩))) := ZeroIs.one i_9 rfl rfl rfl rfl rfl
theorem u_9 : (Try.prog.underlying 9 = some .string) = True := eq_true Try.underlying9
theorem i_22 : Try.prog.info? 22 = some Try.t22 := by kernel_rfl
theorem ty_22 : TyIs Try.prog 22 false 1 := TyIs.mk' Try.underlying22 i_22 rfl rfl
theorem zc_22 : zcv Try.prog 8 22 = .pv (.sl true 2 []) := by kernel_rfl
theorem z_22 : ZeroIs Try.prog 22 (.pv (.sl true 2 [])) := ZeroIs.one i_22 rfl rfl rfl rfl rfl
theorem i_64 : Try.prog.info? 64 = some Try.t64 := by kernel_rfl
theorem es_22 : eSize Try.prog 22 = 2 := by kernel_rfl
theorem eb_22 : eBytes Try.prog 22 = 40 := by kernel_rfl
theorem sl_22 : SlIs Try.prog 22 2 40 := SlIs.mk' Try.underlying22 i_64 rfl rfl rfl rfl (by decide)
theorem is_22 : IsSl Try.prog 22 := ⟨_, Try.underlying22⟩
theorem el_22 : elemOfT Try.prog 22 = 64 := by kernel_rfl
theorem ze_22 : zel Try.prog 22 = .agg [(.lit (.string ⟨#[]⟩)), (.sl true 2 [])] := by kernel_rfl
theorem ez_22 : ElemZero Try.prog 22 (.agg [(.lit (.string ⟨#[]⟩)), (.sl true 2 [])]) := ElemZero.mk' Try.underlying22 (ZeroIs.agg i_64 rfl rfl rfl)
theorem i_24 : Try.prog.info? 24 = some Try.t24 := by kernel_rfl
theorem ty_24 : TyIs Try.prog 24 true 2 := TyIs.mk' Try.underlying24 i_24 rfl rfl
theorem zc_24 : zcv Try.prog 8 24 = .node [.pv (.sl true 2 []), .pv (.sl true 2 [])] := by kernel_rfl
theorem z_24 : ZeroIs Try.prog 24 (.node [.pv (.sl true 2 []), .pv (.sl true 2 [])]) := ZeroIs.agg i_24 rfl rfl rfl
theorem fo_24_0 : fOff Try.prog 24 0 = 0 := by kernel_rfl
theorem fi_24_0 : FieldIs Try.prog 24 0 0 := FieldIs.mk' Try.underlying24 rfl rfl i_22 (by decide)
theorem ft_24_0 : fldT Try.prog 24 0 = 22 := by kernel_rfl
theorem fo_24_1 : fOff Try.prog 24 1 = 1 := by kernel_rfl
theorem fi_24_1 : FieldIs Try.prog 24 1 1 := FieldIs.mk' Try.underlying24 rfl rfl i_22 (by decide)
theorem ft_24_1 : fldT Try.prog 24 1 = 22 := by kernel_rfl
theorem lay_24 : LayoutOk Try.prog 24 [.pv (.sl true 2 []), .pv (.sl true 2 [])] := ⟨_, Try.underlying24, rfl, fun k f hk => by match k, hk with | 0, hk => (obtain rfl := Option.some.inj hk; exact ⟨rfl, _, i_22, rfl⟩) | 1, hk => (obtain rfl := Option.some.inj hk; exact ⟨rfl, _, i_22, rfl⟩) | k + 2, hk => simp at hk⟩
theorem i_27 : Try.prog.info? 27 = some Try.t27 := by kernel_rfl
theorem ty_27 : TyIs Try.prog 27 false 1 := TyIs.mk' Try.underlying27 i_27 rfl rfl
theorem zc_27 : zcv Try.prog 8 27 = .pv (.sl true 2 []) := by kernel_rfl
theorem z_27 : ZeroIs Try.prog 27 (.pv (.sl true 2 [])) := ZeroIs.one i_27 rfl rfl rfl rfl rfl
theorem i_35 : Try.prog.info? 35 = some Try.t35 := by kernel_rfl
theorem es_27 : eSize Try.prog 27 = 2 := by kernel_rfl
theorem eb_27 : eBytes Try.prog 27 = 40 := by kernel_rfl
theorem sl_27 : SlIs Try.prog 27 2 40 := SlIs.mk' Try.underlying27 i_35 rfl rfl rfl rfl (by decide)
theorem is_27 : IsSl Try.prog 27 := ⟨_, Try.underlying27⟩
theorem el_27 : elemOfT Try.prog 27 = 35 := by kernel_rfl
theorem ze_27 : zel Try.prog 27 = .agg [(.lit (.string ⟨#[]⟩)), (.sl true 2 [])] := by kernel_rfl
theorem ez_27 : ElemZero Try.prog 27 (.agg [(.lit (.string ⟨#[]⟩)), (.sl true 2 [])]) := ElemZero.mk' Try.underlying27 (ZeroIs.agg i_35 rfl rfl rfl)
theorem i_29 : Try.prog.info? 29 = some Try.t29 := by kernel_rfl
theorem ty_29 : TyIs Try.prog 29 true 2 := TyIs.mk' Try.underlying29 i_29 rfl rfl
theorem zc_29 : zcv Try.prog 8 29 = .node [.pv (.sl true 2 []), .pv (.sl true 2 [])] := by kernel_rfl
theorem z_29 : ZeroIs Try.prog 29 (.node [.pv (.sl true 2 []), .pv (.sl true 2 [])]) := ZeroIs.agg i_29 rfl rfl rfl
theorem fo_29_0 : fOff Try.prog 29 0 = 0 := by kernel_rfl
theorem fi_29_0 : FieldIs Try.prog 29 0 0 := FieldIs.mk' Try.underlying29 rfl rfl i_27 (by decide)
theorem ft_29_0 : fldT Try.prog 29 0 = 27 := by kernel_rfl
theorem fo_29_1 : fOff Try.prog 29 1 = 1 := by kernel_rfl
theorem fi_29_1 : FieldIs Try.prog 29 1 1 := FieldIs.mk' Try.underlying29 rfl rfl i_27 (by decide)
theorem ft_29_1 : fldT Try.prog 29 1 = 27 := by kernel_rfl
theorem lay_29 : LayoutOk Try.prog 29 [.pv (.sl true 2 []), .pv (.sl true 2 [])] := ⟨_, Try.underlying29, rfl, fun k f hk => by match k, hk with | 0, hk => (obtain rfl := Option.some.inj hk; exact ⟨rfl, _, i_27, rfl⟩) | 1, hk => (obtain rfl := Option.some.inj hk; exact ⟨rfl, _, i_27, rfl⟩) | k + 2, hk => simp at hk⟩
theorem ty_35 : TyIs Try.prog 35 true 2 := TyIs.mk' Try.underlying35 i_35 rfl rfl
theorem zc_35 : zcv Try.prog 8 35 = .node [.pv (.lit (.string ⟨#[]⟩)), .pv (.sl true 2 [])] := by kernel_rfl
theorem z_35 : ZeroIs Try.prog 35 (.node [.pv (.lit (.string ⟨#[]⟩)), .pv (.sl true 2 [])]) := ZeroIs.agg i_35 rfl rfl rfl
theorem fo_35_0 : fOff Try.prog 35 0 = 0 := by kernel_rfl
theorem fi_35_0 : FieldIs Try.prog 35 0 0 := FieldIs.mk' Try.underlying35 rfl rfl i_9 (by decide)
theorem ft_35_0 : fldT Try.prog 35 0 = 9 := by kernel_rfl
theorem fo_35_1 : fOff Try.prog 35 1 = 1 := by kernel_rfl
theorem fi_35_1 : FieldIs Try.prog 35 1 1 := FieldIs.mk' Try.underlying35 rfl rfl i_27 (by decide)
theorem ft_35_1 : fldT Try.prog 35 1 = 27 := by kernel_rfl
theorem lay_35 : LayoutOk Try.prog 35 [.pv (.lit (.string ⟨#[]⟩)), .pv (.sl true 2 [])] := ⟨_, Try.underlying35, rfl, fun k f hk => by match k, hk with | 0, hk => (obtain rfl := Option.some.inj hk; exact ⟨rfl, _, i_9, rfl⟩) | 1, hk => (obtain rfl := Option.some.inj hk; exact ⟨rfl, _, i_27, rfl⟩) | k + 2, hk => simp at hk⟩
theorem i_55 : Try.prog.info? 55 = some Try.t55 := by kernel_rfl
theorem ty_55 : TyIs Try.prog 55 false 1 := TyIs.mk' Try.underlying55 i_55 rfl rfl
theorem zc_55 : zcv Try.prog 8 55 = .pv (.sl true 1 []) := by kernel_rfl
theorem z_55 : ZeroIs Try.prog 55 (.pv (.sl true 1 [])) := ZeroIs.one i_55 rfl rfl rfl rfl rfl
theorem es_55 : eSize Try.prog 55 = 1 := by kernel_rfl
theorem eb_55 : eBytes Try.prog 55 = 8 := by kernel_rfl
theorem sl_55 : SlIs Try.prog 55 1 8 := SlIs.mk' Try.underlying55 i_3 rfl rfl rfl rfl (by decide)
theorem is_55 : IsSl Try.prog 55 := ⟨_, Try.underlying55⟩
theorem el_55 : elemOfT Try.prog 55 = 3 := by kernel_rfl
theorem ze_55 : zel Try.prog 55 = (.lit (.int .i64 0)) := by kernel_rfl
theorem ez_55 : ElemZero Try.prog 55 ((.lit (.int .i64 0))) := ElemZero.mk' Try.underlying55 (ZeroIs.one i_3 rfl rfl rfl rfl rfl)
theorem i_62 : Try.prog.info? 62 = some Try.t62 := by kernel_rfl
theorem ty_62 : TyIs Try.prog 62 false 1 := TyIs.mk' Try.underlying62 i_62 rfl rfl
theorem zc_62 : zcv Try.prog 8 62 = .pv (.sl true 3 []) := by kernel_rfl
theorem z_62 : ZeroIs Try.prog 62 (.pv (.sl true 3 [])) := ZeroIs.one i_62 rfl rfl rfl rfl rfl
theorem i_160 : Try.prog.info? 160 = some Try.t160 := by kernel_rfl
theorem es_62 : eSize Try.prog 62 = 3 := by kernel_rfl
theorem eb_62 : eBytes Try.prog 62 = 48 := by kernel_rfl
theorem sl_62 : SlIs Try.prog 62 3 48 := SlIs.mk' Try.underlying62 i_160 rfl rfl rfl rfl (by decide)
theorem is_62 : IsSl Try.prog 62 := ⟨_, Try.underlying62⟩
theorem el_62 : elemOfT Try.prog 62 = 160 := by kernel_rfl
theorem ze_62 : zel Try.prog 62 = .agg [(.lit (.string ⟨#[]⟩)), (.sl true 1 []), (.lit (.int .i64 0))] := by kernel_rfl
theorem ez_62 : ElemZero Try.prog 62 (.agg [(.lit (.string ⟨#[]⟩)), (.sl true 1 []), (.lit (.int .i64 0))]) := ElemZero.mk' Try.underlying62 (ZeroIs.agg i_160 rfl rfl rfl)
theorem ty_64 : TyIs Try.prog 64 true 2 := TyIs.mk' Try.underlying64 i_64 rfl rfl
theorem zc_64 : zcv Try.prog 8 64 = .node [.pv (.lit (.string ⟨#[]⟩)), .pv (.sl true 2 [])] := by kernel_rfl
theorem z_64 : ZeroIs Try.prog 64 (.node [.pv (.lit (.string ⟨#[]⟩)), .pv (.sl true 2 [])]) := ZeroIs.agg i_64 rfl rfl rfl
theorem fo_64_0 : fOff Try.prog 64 0 = 0 := by kernel_rfl
theorem fi_64_0 : FieldIs Try.prog 64 0 0 := FieldIs.mk' Try.underlying64 rfl rfl i_9 (by decide)
theorem ft_64_0 : fldT Try.prog 64 0 = 9 := by kernel_rfl
theorem fo_64_1 : fOff Try.prog 64 1 = 1 := by kernel_rfl
theorem fi_64_1 : FieldIs Try.prog 64 1 1 := FieldIs.mk' Try.underlying64 rfl rfl i_22 (by decide)
theorem ft_64_1 : fldT Try.prog 64 1 = 22 := by kernel_rfl
theorem lay_64 : LayoutOk Try.prog 64 [.pv (.lit (.string ⟨#[]⟩)), .pv (.sl true 2 [])] := ⟨_, Try.underlying64, rfl, fun k f hk => by match k, hk with | 0, hk => (obtain rfl := Option.some.inj hk; exact ⟨rfl, _, i_9, rfl⟩) | 1, hk => (obtain rfl := Option.some.inj hk; exact ⟨rfl, _, i_22, rfl⟩) | k + 2, hk => simp at hk⟩
theorem i_65 : Try.prog.info? 65 = some Try.t65 := by kernel_rfl
theorem ty_65 : TyIs Try.prog 65 false 1 := TyIs.mk' Try.underlying65 i_65 rfl rfl
theorem zc_65 : zcv Try.prog 8 65 = .pv (.sl true 1 []) := by kernel_rfl
theorem z_65 : ZeroIs Try.prog 65 (.pv (.sl true 1 [])) := ZeroIs.one i_65 rfl rfl rfl rfl rfl
theorem es_65 : eSize Try.prog 65 = 1 := by kernel_rfl
theorem eb_65 : eBytes Try.prog 65 = 16 := by kernel_rfl
theorem sl_65 : SlIs Try.prog 65 1 16 := SlIs.mk' Try.underlying65 i_9 rfl rfl rfl rfl (by decide)
theorem is_65 : IsSl Try.prog 65 := ⟨_, Try.underlying65⟩
theorem el_65 : elemOfT Try.prog 65 = 9 := by kernel_rfl
theorem ze_65 : zel Try.prog 65 = (.lit (.string ⟨#[]⟩)) := by kernel_rfl
theorem ez_65 : ElemZero Try.prog 65 ((.lit (.string ⟨#[]⟩))) := ElemZero.mk' Try.underlying65 (ZeroIs.one i_9 rfl rfl rfl rfl rfl)
theorem i_67 : Try.prog.info? 67 = some Try.t67 := by kernel_rfl
theorem ty_67 : TyIs Try.prog 67 true 3 := TyIs.mk' Try.underlying67 i_67 rfl rfl
theorem zc_67 : zcv Try.prog 8 67 = .node [.pv (.sl true 1 []), .pv (.sl true 1 []), .pv (.lit (.int .i64 0))] := by kernel_rfl
theorem z_67 : ZeroIs Try.prog 67 (.node [.pv (.sl true 1 []), .pv (.sl true 1 []), .pv (.lit (.int .i64 0))]) := ZeroIs.agg i_67 rfl rfl rfl
theorem fo_67_0 : fOff Try.prog 67 0 = 0 := by kernel_rfl
theorem fi_67_0 : FieldIs Try.prog 67 0 0 := FieldIs.mk' Try.underlying67 rfl rfl i_65 (by decide)
theorem ft_67_0 : fldT Try.prog 67 0 = 65 := by kernel_rfl
theorem fo_67_1 : fOff Try.prog 67 1 = 1 := by kernel_rfl
theorem fi_67_1 : FieldIs Try.prog 67 1 1 := FieldIs.mk' Try.underlying67 rfl rfl i_55 (by decide)
theorem ft_67_1 : fldT Try.prog 67 1 = 55 := by kernel_rfl
theorem fo_67_2 : fOff Try.prog 67 2 = 2 := by kernel_rfl
theorem fi_67_2 : FieldIs Try.prog 67 2 2 := FieldIs.mk' Try.underlying67 rfl rfl i_3 (by decide)
theorem ft_67_2 : fldT Try.prog 67 2 = 3 := by kernel_rfl
theorem lay_67 : LayoutOk Try.prog 67 [.pv (.sl true 1 []), .pv (.sl true 1 []), .pv (.lit (.int .i64 0))] := ⟨_, Try.underlying67, rfl, fun k f hk => by match k, hk with | 0, hk => (obtain rfl := Option.some.inj hk; exact ⟨rfl, _, i_65, rfl⟩) | 1, hk => (obtain rfl := Option.some.inj hk; exact ⟨rfl, _, i_55, rfl⟩) | 2, hk => (obtain rfl := Option.some.inj hk; exact ⟨rfl, _, i_3, rfl⟩) | k + 3, hk => simp at hk⟩
theorem i_73 : Try.prog.info? 73 = some Try.t73 := by kernel_rfl
theorem ty_73 : TyIs Try.prog 73 false 1 := TyIs.mk' Try.underlying73 i_73 rfl rfl
theorem zc_73 : zcv Try.prog 8 73 = .pv (.sl true 3 []) := by kernel_rfl
theorem z_73 : ZeroIs Try.prog 73 (.pv (.sl true 3 [])) := ZeroIs.one i_73 rfl rfl rfl rfl rfl
theorem i_163 : Try.prog.info? 163 = some Try.t163 := by kernel_rfl
theorem es_73 : eSize Try.prog 73 = 3 := by kernel_rfl
theorem eb_73 : eBytes Try.prog 73 = 48 := by kernel_rfl
theorem sl_73 : SlIs Try.prog 73 3 48 := SlIs.mk' Try.underlying73 i_163 rfl rfl rfl rfl (by decide)
theorem is_73 : IsSl Try.prog 73 := ⟨_, Try.underlying73⟩
theorem el_73 : elemOfT Try.prog 73 = 163 := by kernel_rfl
theorem ze_73 : zel Try.prog 73 = .agg [(.lit (.string ⟨#[]⟩)), (.sl true 1 []), (.lit (.int .i64 0))] := by kernel_rfl
theorem ez_73 : ElemZero Try.prog 73 (.agg [(.lit (.string ⟨#[]⟩)), (.sl true 1 []), (.lit (.int .i64 0))]) := ElemZero.mk' Try.underlying73 (ZeroIs.agg i_163 rfl rfl rfl)
theorem i_77 : Try.prog.info? 77 = some Try.t77 := by kernel_rfl
theorem ty_77 : TyIs Try.prog 77 true 3 := TyIs.mk' Try.underlying77 i_77 rfl rfl
theorem zc_77 : zcv Try.prog 8 77 = .node [.pv (.sl true 1 []), .pv (.sl true 1 []), .pv (.lit (.int .i64 0))] := by kernel_rfl
theorem z_77 : ZeroIs Try.prog 77 (.node [.pv (.sl true 1 []), .pv (.sl true 1 []), .pv (.lit (.int .i64 0))]) := ZeroIs.agg i_77 rfl rfl rfl
theorem fo_77_0 : fOff Try.prog 77 0 = 0 := by kernel_rfl
theorem fi_77_0 : FieldIs Try.prog 77 0 0 := FieldIs.mk' Try.underlying77 rfl rfl i_65 (by decide)
theorem ft_77_0 : fldT Try.prog 77 0 = 65 := by kernel_rfl
theorem fo_77_1 : fOff Try.prog 77 1 = 1 := by kernel_rfl
theorem fi_77_1 : FieldIs Try.prog 77 1 1 := FieldIs.mk' Try.underlying77 rfl rfl i_55 (by decide)
theorem ft_77_1 : fldT Try.prog 77 1 = 55 := by kernel_rfl
theorem fo_77_2 : fOff Try.prog 77 2 = 2 := by kernel_rfl
theorem fi_77_2 : FieldIs Try.prog 77 2 2 := FieldIs.mk' Try.underlying77 rfl rfl i_3 (by decide)
theorem ft_77_2 : fldT Try.prog 77 2 = 3 := by kernel_rfl
theorem lay_77 : LayoutOk Try.prog 77 [.pv (.sl true 1 []), .pv (.sl true 1 []), .pv (.lit (.int .i64 0))] := ⟨_, Try.underlying77, rfl, fun k f hk => by match k, hk with | 0, hk => (obtain rfl := Option.some.inj hk; exact ⟨rfl, _, i_65, rfl⟩) | 1, hk => (obtain rfl := Option.some.inj hk; exact ⟨rfl, _, i_55, rfl⟩) | 2, hk => (obtain rfl := Option.some.inj hk; exact ⟨rfl, _, i_3, rfl⟩) | k + 3, hk => simp at hk⟩
theorem i_132 : Try.prog.info? 132 = some Try.t132 := by kernel_rfl
theorem ty_132 : TyIs Try.prog 132 false 1 := TyIs.mk' Try.underlying132 i_132 rfl rfl
theorem zc_132 : zcv Try.prog 8 132 = .pv (.lit .nilFunc) := by kernel_rfl
theorem z_132 : ZeroIs Try.prog 132 (.pv (.lit .nilFunc)) := ZeroIs.one i_132 rfl rfl rfl rfl rfl
theorem i_144 : Try.prog.info? 144 = some Try.t144 := by kernel_rfl
theorem ty_144 : TyIs Try.prog 144 false 1 := TyIs.mk' Try.underlying144 i_144 rfl rfl
theorem zc_144 : zcv Try.prog 8 144 = .pv (.lit .nilFunc) := by kernel_rfl
theorem z_144 : ZeroIs Try.prog 144 (.pv (.lit .nilFunc)) := ZeroIs.one i_144 rfl rfl rfl rfl rfl
theorem ty_160 : TyIs Try.prog 160 true 3 := TyIs.mk' Try.underlying160 i_160 rfl rfl
theorem zc_160 : zcv Try.prog 8 160 = .node [.pv (.lit (.string ⟨#[]⟩)), .pv (.sl true 1 []), .pv (.lit (.int .i64 0))] := by kernel_rfl
theorem z_160 : ZeroIs Try.prog 160 (.node [.pv (.lit (.string ⟨#[]⟩)), .pv (.sl true 1 []), .pv (.lit (.int .i64 0))]) := ZeroIs.agg i_160 rfl rfl rfl
theorem fo_160_0 : fOff Try.prog 160 0 = 0 := by kernel_rfl
theorem fi_160_0 : FieldIs Try.prog 160 0 0 := FieldIs.mk' Try.underlying160 rfl rfl i_9 (by decide)
theorem ft_160_0 : fldT Try.prog 160 0 = 9 := by kernel_rfl
theorem fo_160_1 : fOff Try.prog 160 1 = 1 := by kernel_rfl
theorem fi_160_1 : FieldIs Try.prog 160 1 1 := FieldIs.mk' Try.underlying160 rfl rfl i_55 (by decide)
theorem ft_160_1 : fldT Try.prog 160 1 = 55 := by kernel_rfl
theorem fo_160_2 : fOff Try.prog 160 2 = 2 := by kernel_rfl
theorem fi_160_2 : FieldIs Try.prog 160 2 2 := FieldIs.mk' Try.underlying160 rfl rfl i_3 (by decide)
theorem ft_160_2 : fldT Try.prog 160 2 = 3 := by kernel_rfl
theorem lay_160 : LayoutOk Try.prog 160 [.pv (.lit (.string ⟨#[]⟩)), .pv (.sl true 1 []), .pv (.lit (.int .i64 0))] := ⟨_, Try.underlying160, rfl, fun k f hk => by match k, hk with | 0, hk => (obtain rfl := Option.some.inj hk; exact ⟨rfl, _, i_9, rfl⟩) | 1, hk => (obtain rfl := Option.some.inj hk; exact ⟨rfl, _, i_55, rfl⟩) | 2, hk => (obtain rfl := Option.some.inj hk; exact ⟨rfl, _, i_3, rfl⟩) | k + 3, hk => simp at hk⟩
theorem ty_163 : TyIs Try.prog 163 true 3 := TyIs.mk' Try.underlying163 i_163 rfl rfl
theorem zc_163 : zcv Try.prog 8 163 = .node [.pv (.lit (.string ⟨#[]⟩)), .pv (.sl true 1 []), .pv (.lit (.int .i64 0))] := by kernel_rfl
theorem z_163 : ZeroIs Try.prog 163 (.node [.pv (.lit (.string ⟨#[]⟩)), .pv (.sl true 1 []), .pv (.lit (.int .i64 0))]) := ZeroIs.agg i_163 rfl rfl rfl
theorem fo_163_0 : fOff Try.prog 163 0 = 0 := by kernel_rfl
theorem fi_163_0 : FieldIs Try.prog 163 0 0 := FieldIs.mk' Try.underlying163 rfl rfl i_9 (by decide)
theorem ft_163_0 : fldT Try.prog 163 0 = 9 := by kernel_rfl
theorem fo_163_1 : fOff Try.prog 163 1 = 1 := by kernel_rfl
theorem fi_163_1 : FieldIs Try.prog 163 1 1 := FieldIs.mk' Try.underlying163 rfl rfl i_55 (by decide)
theorem ft_163_1 : fldT Try.prog 163 1 = 55 := by kernel_rfl
theorem fo_163_2 : fOff Try.prog 163 2 = 2 := by kernel_rfl
theorem fi_163_2 : FieldIs Try.prog 163 2 2 := FieldIs.mk' Try.underlying163 rfl rfl i_3 (by decide)
theorem ft_163_2 : fldT Try.prog 163 2 = 3 := by kernel_rfl
theorem lay_163 : LayoutOk Try.prog 163 [.pv (.lit (.string ⟨#[]⟩)), .pv (.sl true 1 []), .pv (.lit (.int .i64 0))] := ⟨_, Try.underlying163, rfl, fun k f hk => by match k, hk with | 0, hk => (obtain rfl := Option.some.inj hk; exact ⟨rfl, _, i_9, rfl⟩) | 1, hk => (obtain rfl := Option.some.inj hk; exact ⟨rfl, _, i_55, rfl⟩) | 2, hk => (obtain rfl := Option.some.inj hk; exact ⟨rfl, _, i_3, rfl⟩) | k + 3, hk => simp at hk⟩
theorem i_178 : Try.prog.info? 178 = some Try.t178 := by kernel_rfl
theorem ty_178 : TyIs Try.prog 178 false 1 := TyIs.mk' Try.underlying178 i_178 rfl rfl
theorem zc_178 : zcv Try.prog 8 178 = .pv (.lit .nilFunc) := by kernel_rfl
theorem z_178 : ZeroIs Try.prog 178 (.pv (.lit .nilFunc)) := ZeroIs.one i_178 rfl rfl rfl rfl rfl
theorem i_196 : Try.prog.info? 196 = some Try.t196 := by kernel_rfl
theorem ty_196 : TyIs Try.prog 196 false 1 := TyIs.mk' Try.underlying196 i_196 rfl rfl
theorem zc_196 : zcv Try.prog 8 196 = .pv (.lit (.int .u64 0)) := by kernel_rfl
theorem z_196 : ZeroIs Try.prog 196 (.pv (.lit (.int .u64 0))) := ZeroIs.one i_196 rfl rfl rfl rfl rfl
theorem i_215 : Try.prog.info? 215 = some Try.t215 := by kernel_rfl
theorem ty_215 : TyIs Try.prog 215 false 1 := TyIs.mk' Try.underlying215 i_215 rfl rfl
theorem zc_215 : zcv Try.prog 8 215 = .pv (.lit .nilFunc) := by kernel_rfl
theorem z_215 : ZeroIs Try.prog 215 (.pv (.lit .nilFunc)) := ZeroIs.one i_215 rfl rfl rfl rfl rfl
theorem i_276 : Try.prog.info? 276 = some Try.t276 := by kernel_rfl
theorem ty_276 : TyIs Try.prog 276 false 1 := TyIs.mk' Try.underlying276 i_276 rfl rfl
theorem zc_276 : zcv Try.prog 8 276 = .pv (.lit .nilFunc) := by kernel_rfl
theorem z_276 : ZeroIs Try.prog 276 (.pv (.lit .nilFunc)) := ZeroIs.one i_276 rfl rfl rfl rfl rfl
theorem uk_3 : Try.prog.underlying 3 = some (.int .i64) := Try.underlying3
theorem uk_196 : Try.prog.underlying 196 = some (.int .u64) := Try.underlying196
end Go.Proofs.Ytdmkceajaagpgaa
