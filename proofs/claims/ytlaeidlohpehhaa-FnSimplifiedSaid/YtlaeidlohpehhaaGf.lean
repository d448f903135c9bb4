/- Lemmas of the proof; each says what it shows. -/
import Derived.Test.YtlaeidlohpehhaaAvFs
import Derived.Test.YtlaeidlohpehhaaChecked
import Derived.KernelRfl
set_option linter.unusedSimpArgs false
set_option linter.unusedVariables false
set_option linter.defProp false
set_option maxRecDepth 4000
namespace Go.Proofs.Ytlaeidlohpehhaa
open Go.Av
open Try renaming prog→ai
open TyIs renaming mk'→bi
open ZeroIs renaming one→bm
theorem mixed:Try.prog.follows .mixedOrders=true:=by kernel_rfl
theorem mixedT:(Try.prog.follows .mixedOrders=true)=True:=eq_true mixed
theorem i_3:Try.prog.info? 3=some Try.t3:=by kernel_rfl
theorem ty_3:TyIs ai 3 false 1:=bi Try.underlying3 i_3 rfl rfl
theorem zc_3:zcv ai 8 3=.pv (.lit (.int .i64 0)):=by kernel_rfl
theorem z_3:ZeroIs ai 3 (.pv (.lit (.int .i64 0))):=bm i_3 rfl rfl rfl rfl rfl
theorem i_4:Try.prog.info? 4=some Try.t4:=by kernel_rfl
theorem ty_4:TyIs ai 4 false 1:=bi Try.underlying4 i_4 rfl rfl
theorem zc_4:zcv ai 8 4=.pv (.lit (.bool false)):=by kernel_rfl
theorem z_4:ZeroIs ai 4 (.pv (.lit (.bool false))):=bm i_4 rfl rfl rfl rfl rfl
theorem u_4:(Try.prog.underlying 4=some .bool)=True:=eq_true Try.underlying4
theorem i_5:Try.prog.info? 5=some Try.t5:=by kernel_rfl
theorem ty_5:TyIs ai 5 false 1:=bi Try.underlying5 i_5 rfl rfl
theorem zc_5:zcv ai 8 5=.pv (.lit (.int .u8 0)):=by kernel_rfl
theorem z_5:ZeroIs ai 5 (.pv (.lit (.int .u8 0))):=bm i_5 rfl rfl rfl rfl rfl
theorem i_9:Try.prog.info? 9=some Try.t9:=by kernel_rfl
theorem ty_9:TyIs ai 9 false 1:=bi Try.underlying9 i_9 rfl rfl
theorem zc_9:zcv ai 8 9=.pv (.lit (.string ⟨#[]⟩)):=by kernel_rfl
theorem z_9:ZeroIs ai 9 (.pv (.lit (.string ⟨#[]⟩))):=bm i_9 rfl rfl rfl rfl rfl
theorem u_9:(Try.prog.underlying 9=some .string)=True:=eq_true Try.underlying9
theorem i_22:Try.prog.info? 22=some Try.t22:=by kernel_rfl
theorem ty_22:TyIs ai 22 false 1:=bi Try.underlying22 i_22 rfl rfl
theorem zc_22:zcv ai 8 22=.pv (.sl true 1 []):=by kernel_rfl
theorem z_22:ZeroIs ai 22 (.pv (.sl true 1 [])):=bm i_22 rfl rfl rfl rfl rfl
theorem es_22:eSize ai 22=1:=by kernel_rfl
theorem eb_22:eBytes ai 22=1:=by kernel_rfl
theorem sl_22:SlIs ai 22 1 1:=SlIs.mk' Try.underlying22 i_5 rfl rfl rfl rfl (by decide)
theorem by_22:IsBytes ai 22:=⟨_,Try.underlying22,Try.underlying5⟩
theorem is_22:IsSl ai 22:=⟨_,Try.underlying22⟩
theorem el_22:elemOfT ai 22=5:=by kernel_rfl
theorem ze_22:zel ai 22=(.lit (.int .u8 0)):=by kernel_rfl
theorem ez_22:ElemZero ai 22 ((.lit (.int .u8 0))):=ElemZero.mk' Try.underlying22 (bm i_5 rfl rfl rfl rfl rfl)
theorem i_24:Try.prog.info? 24=some Try.t24:=by kernel_rfl
theorem ty_24:TyIs ai 24 false 1:=bi Try.underlying24 i_24 rfl rfl
theorem zc_24:zcv ai 8 24=.pv (.sl true 2 []):=by kernel_rfl
theorem z_24:ZeroIs ai 24 (.pv (.sl true 2 [])):=bm i_24 rfl rfl rfl rfl rfl
theorem i_26:Try.prog.info? 26=some Try.t26:=by kernel_rfl
theorem es_24:eSize ai 24=2:=by kernel_rfl
theorem eb_24:eBytes ai 24=40:=by kernel_rfl
theorem sl_24:SlIs ai 24 2 40:=SlIs.mk' Try.underlying24 i_26 rfl rfl rfl rfl (by decide)
theorem is_24:IsSl ai 24:=⟨_,Try.underlying24⟩
theorem el_24:elemOfT ai 24=26:=by kernel_rfl
theorem ze_24:zel ai 24=.agg [(.lit (.string ⟨#[]⟩)),(.sl true 2 [])]:=by kernel_rfl
theorem ez_24:ElemZero ai 24 (.agg [(.lit (.string ⟨#[]⟩)),(.sl true 2 [])]):=ElemZero.mk' Try.underlying24 (ZeroIs.agg i_26 rfl rfl rfl)
theorem ty_26:TyIs ai 26 true 2:=bi Try.underlying26 i_26 rfl rfl
theorem zc_26:zcv ai 8 26=.node [.pv (.lit (.string ⟨#[]⟩)),.pv (.sl true 2 [])]:=by kernel_rfl
theorem z_26:ZeroIs ai 26 (.node [.pv (.lit (.string ⟨#[]⟩)),.pv (.sl true 2 [])]):=ZeroIs.agg i_26 rfl rfl rfl
theorem fo_26_0:fOff ai 26 0=0:=by kernel_rfl
theorem fi_26_0:FieldIs ai 26 0 0:=FieldIs.mk' Try.underlying26 rfl rfl i_9 (by decide)
theorem ft_26_0:fldT ai 26 0=9:=by kernel_rfl
theorem fo_26_1:fOff ai 26 1=1:=by kernel_rfl
theorem fi_26_1:FieldIs ai 26 1 1:=FieldIs.mk' Try.underlying26 rfl rfl i_24 (by decide)
theorem ft_26_1:fldT ai 26 1=24:=by kernel_rfl
theorem lay_26:LayoutOk ai 26 [.pv (.lit (.string ⟨#[]⟩)),.pv (.sl true 2 [])]:=.inr ⟨_,Try.underlying26,rfl,fun k f hk=>by match k,hk with | 0,hk=>(obtain rfl:=Option.some.inj hk; exact⟨rfl,_,i_9,rfl⟩) | 1,hk=>(obtain rfl:=Option.some.inj hk; exact⟨rfl,_,i_24,rfl⟩) | k+2,hk=>simp at hk⟩
theorem i_27:Try.prog.info? 27=some Try.t27:=by kernel_rfl
theorem ty_27:TyIs ai 27 false 1:=bi Try.underlying27 i_27 rfl rfl
theorem zc_27:zcv ai 8 27=.pv (.sl true 5 []):=by kernel_rfl
theorem z_27:ZeroIs ai 27 (.pv (.sl true 5 [])):=bm i_27 rfl rfl rfl rfl rfl
theorem i_29:Try.prog.info? 29=some Try.t29:=by kernel_rfl
theorem es_27:eSize ai 27=5:=by kernel_rfl
theorem eb_27:eBytes ai 27=88:=by kernel_rfl
theorem sl_27:SlIs ai 27 5 88:=SlIs.mk' Try.underlying27 i_29 rfl rfl rfl rfl (by decide)
theorem is_27:IsSl ai 27:=⟨_,Try.underlying27⟩
theorem el_27:elemOfT ai 27=29:=by kernel_rfl
theorem ze_27:zel ai 27=.agg [(.lit (.int .i64 0)),.agg [(.lit (.string ⟨#[]⟩)),(.sl true 2 [])],(.lit (.string ⟨#[]⟩)),(.sl true 5 [])]:=by kernel_rfl
theorem ez_27:ElemZero ai 27 (.agg [(.lit (.int .i64 0)),.agg [(.lit (.string ⟨#[]⟩)),(.sl true 2 [])],(.lit (.string ⟨#[]⟩)),(.sl true 5 [])]):=ElemZero.mk' Try.underlying27 (ZeroIs.agg i_29 rfl rfl rfl)
theorem ty_29:TyIs ai 29 true 5:=bi Try.underlying29 i_29 rfl rfl
theorem zc_29:zcv ai 8 29=.node [.pv (.lit (.int .i64 0)),.node [.pv (.lit (.string ⟨#[]⟩)),.pv (.sl true 2 [])],.pv (.lit (.string ⟨#[]⟩)),.pv (.sl true 5 [])]:=by kernel_rfl
theorem z_29:ZeroIs ai 29 (.node [.pv (.lit (.int .i64 0)),.node [.pv (.lit (.string ⟨#[]⟩)),.pv (.sl true 2 [])],.pv (.lit (.string ⟨#[]⟩)),.pv (.sl true 5 [])]):=ZeroIs.agg i_29 rfl rfl rfl
theorem fo_29_0:fOff ai 29 0=0:=by kernel_rfl
theorem fi_29_0:FieldIs ai 29 0 0:=FieldIs.mk' Try.underlying29 rfl rfl i_3 (by decide)
theorem ft_29_0:fldT ai 29 0=3:=by kernel_rfl
theorem fo_29_1:fOff ai 29 1=1:=by kernel_rfl
theorem fi_29_1:FieldIs ai 29 1 1:=FieldIs.mk' Try.underlying29 rfl rfl i_26 (by decide)
theorem ft_29_1:fldT ai 29 1=26:=by kernel_rfl
theorem fo_29_2:fOff ai 29 2=3:=by kernel_rfl
theorem fi_29_2:FieldIs ai 29 2 3:=FieldIs.mk' Try.underlying29 rfl rfl i_9 (by decide)
theorem ft_29_2:fldT ai 29 2=9:=by kernel_rfl
theorem fo_29_3:fOff ai 29 3=4:=by kernel_rfl
theorem fi_29_3:FieldIs ai 29 3 4:=FieldIs.mk' Try.underlying29 rfl rfl i_27 (by decide)
theorem ft_29_3:fldT ai 29 3=27:=by kernel_rfl
theorem lay_29:LayoutOk ai 29 [.pv (.lit (.int .i64 0)),.node [.pv (.lit (.string ⟨#[]⟩)),.pv (.sl true 2 [])],.pv (.lit (.string ⟨#[]⟩)),.pv (.sl true 5 [])]:=.inr ⟨_,Try.underlying29,rfl,fun k f hk=>by match k,hk with | 0,hk=>(obtain rfl:=Option.some.inj hk; exact⟨rfl,_,i_3,rfl⟩) | 1,hk=>(obtain rfl:=Option.some.inj hk; exact⟨rfl,_,i_26,rfl⟩) | 2,hk=>(obtain rfl:=Option.some.inj hk; exact⟨rfl,_,i_9,rfl⟩) | 3,hk=>(obtain rfl:=Option.some.inj hk; exact⟨rfl,_,i_27,rfl⟩) | k+4,hk=>simp at hk⟩
theorem i_35:Try.prog.info? 35=some Try.t35:=by kernel_rfl
theorem ty_35:TyIs ai 35 false 1:=bi Try.underlying35 i_35 rfl rfl
theorem zc_35:zcv ai 8 35=.pv (.lit .nilFunc):=by kernel_rfl
theorem z_35:ZeroIs ai 35 (.pv (.lit .nilFunc)):=bm i_35 rfl rfl rfl rfl rfl
theorem i_36:Try.prog.info? 36=some Try.t36:=by kernel_rfl
theorem ty_36:TyIs ai 36 false 1:=bi Try.underlying36 i_36 rfl rfl
theorem zc_36:zcv ai 8 36=.pv (.sl true 1 []):=by kernel_rfl
theorem z_36:ZeroIs ai 36 (.pv (.sl true 1 [])):=bm i_36 rfl rfl rfl rfl rfl
theorem es_36:eSize ai 36=1:=by kernel_rfl
theorem eb_36:eBytes ai 36=16:=by kernel_rfl
theorem sl_36:SlIs ai 36 1 16:=SlIs.mk' Try.underlying36 i_9 rfl rfl rfl rfl (by decide)
theorem is_36:IsSl ai 36:=⟨_,Try.underlying36⟩
theorem el_36:elemOfT ai 36=9:=by kernel_rfl
theorem ze_36:zel ai 36=(.lit (.string ⟨#[]⟩)):=by kernel_rfl
theorem ez_36:ElemZero ai 36 ((.lit (.string ⟨#[]⟩))):=ElemZero.mk' Try.underlying36 (bm i_9 rfl rfl rfl rfl rfl)
theorem i_38:Try.prog.info? 38=some Try.t38:=by kernel_rfl
theorem ty_38:TyIs ai 38 false 1:=bi Try.underlying38 i_38 rfl rfl
theorem zc_38:zcv ai 8 38=.pv (.sl true 1 []):=by kernel_rfl
theorem z_38:ZeroIs ai 38 (.pv (.sl true 1 [])):=bm i_38 rfl rfl rfl rfl rfl
theorem es_38:eSize ai 38=1:=by kernel_rfl
theorem eb_38:eBytes ai 38=8:=by kernel_rfl
theorem sl_38:SlIs ai 38 1 8:=SlIs.mk' Try.underlying38 i_3 rfl rfl rfl rfl (by decide)
theorem is_38:IsSl ai 38:=⟨_,Try.underlying38⟩
theorem el_38:elemOfT ai 38=3:=by kernel_rfl
theorem ze_38:zel ai 38=(.lit (.int .i64 0)):=by kernel_rfl
theorem ez_38:ElemZero ai 38 ((.lit (.int .i64 0))):=ElemZero.mk' Try.underlying38 (bm i_3 rfl rfl rfl rfl rfl)
theorem i_40:Try.prog.info? 40=some Try.t40:=by kernel_rfl
theorem ty_40:TyIs ai 40 true 2:=bi Try.underlying40 i_40 rfl rfl
theorem zc_40:zcv ai 8 40=.node [.pv (.sl true 1 []),.pv (.sl true 1 [])]:=by kernel_rfl
theorem z_40:ZeroIs ai 40 (.node [.pv (.sl true 1 []),.pv (.sl true 1 [])]):=ZeroIs.agg i_40 rfl rfl rfl
theorem fo_40_0:fOff ai 40 0=0:=by kernel_rfl
theorem fi_40_0:FieldIs ai 40 0 0:=FieldIs.mk' Try.underlying40 rfl rfl i_36 (by decide)
theorem ft_40_0:fldT ai 40 0=36:=by kernel_rfl
theorem fo_40_1:fOff ai 40 1=1:=by kernel_rfl
theorem fi_40_1:FieldIs ai 40 1 1:=FieldIs.mk' Try.underlying40 rfl rfl i_38 (by decide)
theorem ft_40_1:fldT ai 40 1=38:=by kernel_rfl
theorem lay_40:LayoutOk ai 40 [.pv (.sl true 1 []),.pv (.sl true 1 [])]:=.inr ⟨_,Try.underlying40,rfl,fun k f hk=>by match k,hk with | 0,hk=>(obtain rfl:=Option.some.inj hk; exact⟨rfl,_,i_36,rfl⟩) | 1,hk=>(obtain rfl:=Option.some.inj hk; exact⟨rfl,_,i_38,rfl⟩) | k+2,hk=>simp at hk⟩
theorem i_42:Try.prog.info? 42=some Try.t42:=by kernel_rfl
theorem ty_42:TyIs ai 42 false 1:=bi Try.underlying42 i_42 rfl rfl
theorem i_43:Try.prog.info? 43=some Try.t43:=by kernel_rfl
theorem ty_43:TyIs ai 43 false 1:=bi Try.underlying43 i_43 rfl rfl
theorem zc_43:zcv ai 8 43=.pv (.lit (.int .u64 0)):=by kernel_rfl
theorem z_43:ZeroIs ai 43 (.pv (.lit (.int .u64 0))):=bm i_43 rfl rfl rfl rfl rfl
theorem i_45:Try.prog.info? 45=some Try.t45:=by kernel_rfl
theorem ty_45:TyIs ai 45 true 3:=bi Try.underlying45 i_45 rfl rfl
theorem zc_45:zcv ai 8 45=.node [.pv (.sl true 1 []),.pv (.lit (.int .i64 0)),.pv (.lit (.int .u64 0))]:=by kernel_rfl
theorem z_45:ZeroIs ai 45 (.node [.pv (.sl true 1 []),.pv (.lit (.int .i64 0)),.pv (.lit (.int .u64 0))]):=ZeroIs.agg i_45 rfl rfl rfl
theorem fo_45_0:fOff ai 45 0=0:=by kernel_rfl
theorem fi_45_0:FieldIs ai 45 0 0:=FieldIs.mk' Try.underlying45 rfl rfl i_22 (by decide)
theorem ft_45_0:fldT ai 45 0=22:=by kernel_rfl
theorem fo_45_1:fOff ai 45 1=1:=by kernel_rfl
theorem fi_45_1:FieldIs ai 45 1 1:=FieldIs.mk' Try.underlying45 rfl rfl i_3 (by decide)
theorem ft_45_1:fldT ai 45 1=3:=by kernel_rfl
theorem fo_45_2:fOff ai 45 2=2:=by kernel_rfl
theorem fi_45_2:FieldIs ai 45 2 2:=FieldIs.mk' Try.underlying45 rfl rfl i_43 (by decide)
theorem ft_45_2:fldT ai 45 2=43:=by kernel_rfl
theorem lay_45:LayoutOk ai 45 [.pv (.sl true 1 []),.pv (.lit (.int .i64 0)),.pv (.lit (.int .u64 0))]:=.inr ⟨_,Try.underlying45,rfl,fun k f hk=>by match k,hk with | 0,hk=>(obtain rfl:=Option.some.inj hk; exact⟨rfl,_,i_22,rfl⟩) | 1,hk=>(obtain rfl:=Option.some.inj hk; exact⟨rfl,_,i_3,rfl⟩) | 2,hk=>(obtain rfl:=Option.some.inj hk; exact⟨rfl,_,i_43,rfl⟩) | k+3,hk=>simp at hk⟩
theorem i_49:Try.prog.info? 49=some Try.t49:=by kernel_rfl
theorem ty_49:TyIs ai 49 false 1:=bi Try.underlying49 i_49 rfl rfl
theorem zc_49:zcv ai 8 49=.pv (.lit .nilFunc):=by kernel_rfl
theorem z_49:ZeroIs ai 49 (.pv (.lit .nilFunc)):=bm i_49 rfl rfl rfl rfl rfl
theorem i_50:Try.prog.info? 50=some Try.t50:=by kernel_rfl
theorem ty_50:TyIs ai 50 false 1:=bi Try.underlying50 i_50 rfl rfl
theorem zc_50:zcv ai 8 50=.pv (.lit .nilFunc):=by kernel_rfl
theorem z_50:ZeroIs ai 50 (.pv (.lit .nilFunc)):=bm i_50 rfl rfl rfl rfl rfl
theorem i_52:Try.prog.info? 52=some Try.t52:=by kernel_rfl
theorem ty_52:TyIs ai 52 false 1:=bi Try.underlying52 i_52 rfl rfl
theorem zc_52:zcv ai 8 52=.pv (.lit .nilFunc):=by kernel_rfl
theorem z_52:ZeroIs ai 52 (.pv (.lit .nilFunc)):=bm i_52 rfl rfl rfl rfl rfl
theorem i_69:Try.prog.info? 69=some Try.t69:=by kernel_rfl
theorem ty_69:TyIs ai 69 false 1:=bi Try.underlying69 i_69 rfl rfl
theorem zc_69:zcv ai 8 69=.pv (.lit .nilFunc):=by kernel_rfl
theorem z_69:ZeroIs ai 69 (.pv (.lit .nilFunc)):=bm i_69 rfl rfl rfl rfl rfl
theorem isIntB_i:isIntB (Try.prog.underlying 3)=true:=by kernel_rfl
theorem uk_3:Try.prog.underlying 3=some (.int .i64):=Try.underlying3
theorem uk_5:Try.prog.underlying 5=some (.int .u8):=Try.underlying5
theorem uk_43:Try.prog.underlying 43=some (.int .u64):=Try.underlying43
attribute [push_cast] ty_3 zc_3 z_3 ty_22 zc_22 z_22 es_22 eb_22 sl_22 by_22 is_22 el_22 ze_22 ez_22 ty_5 zc_5 z_5 ty_43 zc_43 z_43 ty_45 zc_45 z_45 fo_45_0 fi_45_0 ft_45_0 fo_45_1 fi_45_1 ft_45_1 fo_45_2 fi_45_2 ft_45_2 lay_45 uk_3 uk_5 uk_43 mixedT ty_42 ty_9 zc_9 z_9 u_9 ty_36 zc_36 z_36 es_36 eb_36 sl_36 is_36 el_36 ze_36 ez_36 ty_24 zc_24 z_24 es_24 eb_24 sl_24 is_24 el_24 ze_24 ez_24 ty_26 zc_26 z_26 fo_26_0 fi_26_0 ft_26_0 fo_26_1 fi_26_1 ft_26_1 lay_26 ty_38 zc_38 z_38 es_38 eb_38 sl_38 is_38 el_38 ze_38 ez_38 ty_27 zc_27 z_27 es_27 eb_27 sl_27 is_27 el_27 ze_27 ez_27 ty_29 zc_29 z_29 fo_29_0 fi_29_0 ft_29_0 fo_29_1 fi_29_1 ft_29_1 fo_29_2 fi_29_2 ft_29_2 fo_29_3 fi_29_3 ft_29_3 lay_29 ty_4 zc_4 z_4 u_4 ty_69 zc_69 z_69 ty_49 zc_49 z_49 ty_52 zc_52 z_52 ty_35 zc_35 z_35 ty_50 zc_50 z_50 ty_40 zc_40 z_40 fo_40_0 fi_40_0 ft_40_0 fo_40_1 fi_40_1 ft_40_1 lay_40
end Go.Proofs.Ytlaeidlohpehhaa
