/- Lemmas of the proof; each says what it shows. -/
import Derived.Test.YtkmfaliedpidbaaAvF5
import Derived.Test.YtkmfaliedpidbaaChecked
import Derived.KernelRfl
set_option linter.unusedSimpArgs false
set_option linter.unusedVariables false
set_option linter.defProp false
set_option maxRecDepth 4000
namespace Go.Proofs.Ytkmfaliedpidbaa
open Go.Av
open Try renaming prog→ah
theorem mixed:Try.prog.follows .mixedOrders=true:=by kernel_rfl
theorem mT_:(Try.prog.follows .mixedOrders=true)=True:=eq_true mixed
theorem i_3:Try.prog.info? 3=some Try.t3:=by kernel_rfl
theorem ty_3:TyIs ah 3 false 1:=TyIs.mk' Try.underlying3 i_3 rfl rfl
theorem zc_3:zcv ah 8 3=.pv (.lit (.int .i64 0)):=by kernel_rfl
theorem z_3:ZeroIs ah 3 (.pv (.lit (.int .i64 0))):=ZeroIs.one i_3 rfl rfl rfl rfl rfl
theorem i_4:Try.prog.info? 4=some Try.t4:=by kernel_rfl
theorem ty_4:TyIs ah 4 false 1:=TyIs.mk' Try.underlying4 i_4 rfl rfl
theorem zc_4:zcv ah 8 4=.pv (.lit (.bool false)):=by kernel_rfl
theorem z_4:ZeroIs ah 4 (.pv (.lit (.bool false))):=ZeroIs.one i_4 rfl rfl rfl rfl rfl
theorem u_4:(Try.prog.underlying 4=some .bool)=True:=eq_true Try.underlying4
theorem i_5:Try.prog.info? 5=some Try.t5:=by kernel_rfl
theorem ty_5:TyIs ah 5 false 1:=TyIs.mk' Try.underlying5 i_5 rfl rfl
theorem zc_5:zcv ah 8 5=.pv (.lit (.int .u8 0)):=by kernel_rfl
theorem z_5:ZeroIs ah 5 (.pv (.lit (.int .u8 0))):=ZeroIs.one i_5 rfl rfl rfl rfl rfl
theorem i_9:Try.prog.info? 9=some Try.t9:=by kernel_rfl
theorem ty_9:TyIs ah 9 false 1:=TyIs.mk' Try.underlying9 i_9 rfl rfl
theorem zc_9:zcv ah 8 9=.pv (.lit (.string ⟨#[]⟩)):=by kernel_rfl
theorem z_9:ZeroIs ah 9 (.pv (.lit (.string ⟨#[]⟩))):=ZeroIs.one i_9 rfl rfl rfl rfl rfl
theorem u_9:(Try.prog.underlying 9=some .string)=True:=eq_true Try.underlying9
theorem i_22:Try.prog.info? 22=some Try.t22:=by kernel_rfl
theorem ty_22:TyIs ah 22 false 1:=TyIs.mk' Try.underlying22 i_22 rfl rfl
theorem zc_22:zcv ah 8 22=.pv (.sl true 1 []):=by kernel_rfl
theorem z_22:ZeroIs ah 22 (.pv (.sl true 1 [])):=ZeroIs.one i_22 rfl rfl rfl rfl rfl
theorem es_22:eSize ah 22=1:=by kernel_rfl
theorem eb_22:eB_ ah 22=1:=by kernel_rfl
theorem sl_22:SlIs ah 22 1 1:=SlIs.mk' Try.underlying22 i_5 rfl rfl rfl rfl (by decide)
theorem by_22:IB_ ah 22:=⟨_,Try.underlying22,Try.underlying5⟩
theorem is_22:IsSl ah 22:=⟨_,Try.underlying22⟩
theorem el_22:eOT_ ah 22=5:=by kernel_rfl
theorem ze_22:zel ah 22=(.lit (.int .u8 0)):=by kernel_rfl
theorem ez_22:ElemZero ah 22 ((.lit (.int .u8 0))):=ElemZero.mk' Try.underlying22 (ZeroIs.one i_5 rfl rfl rfl rfl rfl)
theorem i_24:Try.prog.info? 24=some Try.t24:=by kernel_rfl
theorem ty_24:TyIs ah 24 false 1:=TyIs.mk' Try.underlying24 i_24 rfl rfl
theorem zc_24:zcv ah 8 24=.pv (.sl true 1 []):=by kernel_rfl
theorem z_24:ZeroIs ah 24 (.pv (.sl true 1 [])):=ZeroIs.one i_24 rfl rfl rfl rfl rfl
theorem es_24:eSize ah 24=1:=by kernel_rfl
theorem eb_24:eB_ ah 24=16:=by kernel_rfl
theorem sl_24:SlIs ah 24 1 16:=SlIs.mk' Try.underlying24 i_9 rfl rfl rfl rfl (by decide)
theorem is_24:IsSl ah 24:=⟨_,Try.underlying24⟩
theorem el_24:eOT_ ah 24=9:=by kernel_rfl
theorem ze_24:zel ah 24=(.lit (.string ⟨#[]⟩)):=by kernel_rfl
theorem ez_24:ElemZero ah 24 ((.lit (.string ⟨#[]⟩))):=ElemZero.mk' Try.underlying24 (ZeroIs.one i_9 rfl rfl rfl rfl rfl)
theorem i_25:Try.prog.info? 25=some Try.t25:=by kernel_rfl
theorem ty_25:TyIs ah 25 false 1:=TyIs.mk' Try.underlying25 i_25 rfl rfl
theorem zc_25:zcv ah 8 25=.pv (.sl true 1 []):=by kernel_rfl
theorem z_25:ZeroIs ah 25 (.pv (.sl true 1 [])):=ZeroIs.one i_25 rfl rfl rfl rfl rfl
theorem es_25:eSize ah 25=1:=by kernel_rfl
theorem eb_25:eB_ ah 25=8:=by kernel_rfl
theorem sl_25:SlIs ah 25 1 8:=SlIs.mk' Try.underlying25 i_3 rfl rfl rfl rfl (by decide)
theorem is_25:IsSl ah 25:=⟨_,Try.underlying25⟩
theorem el_25:eOT_ ah 25=3:=by kernel_rfl
theorem ze_25:zel ah 25=(.lit (.int .i64 0)):=by kernel_rfl
theorem ez_25:ElemZero ah 25 ((.lit (.int .i64 0))):=ElemZero.mk' Try.underlying25 (ZeroIs.one i_3 rfl rfl rfl rfl rfl)
theorem i_27:Try.prog.info? 27=some Try.t27:=by kernel_rfl
theorem ty_27:TyIs ah 27 true 3:=TyIs.mk' Try.underlying27 i_27 rfl rfl
theorem zc_27:zcv ah 8 27=.node [.pv (.sl true 1 []),.pv (.sl true 1 []),.pv (.lit (.int .i64 0))]:=by kernel_rfl
theorem z_27:ZeroIs ah 27 (.node [.pv (.sl true 1 []),.pv (.sl true 1 []),.pv (.lit (.int .i64 0))]):=ZeroIs.agg i_27 rfl rfl rfl
theorem f20_1:fOff ah 27 0=0:=by kernel_rfl
theorem f20_2:FieldIs ah 27 0 0:=FieldIs.mk' Try.underlying27 rfl rfl i_24 (by decide)
theorem f20_:fldT ah 27 0=24:=by kernel_rfl
theorem f21_1:fOff ah 27 1=1:=by kernel_rfl
theorem f21_2:FieldIs ah 27 1 1:=FieldIs.mk' Try.underlying27 rfl rfl i_25 (by decide)
theorem f21_:fldT ah 27 1=25:=by kernel_rfl
theorem f22_1:fOff ah 27 2=2:=by kernel_rfl
theorem f22_2:FieldIs ah 27 2 2:=FieldIs.mk' Try.underlying27 rfl rfl i_3 (by decide)
theorem f22_:fldT ah 27 2=3:=by kernel_rfl
theorem l2_:LO_ ah 27 [.pv (.sl true 1 []),.pv (.sl true 1 []),.pv (.lit (.int .i64 0))]:=.inr ⟨_,Try.underlying27,rfl,fun k f hk=>by match k,hk with | 0,hk=>(obtain rfl:=Option.some.inj hk; exact⟨rfl,_,i_24,rfl⟩) | 1,hk=>(obtain rfl:=Option.some.inj hk; exact⟨rfl,_,i_25,rfl⟩) | 2,hk=>(obtain rfl:=Option.some.inj hk; exact⟨rfl,_,i_3,rfl⟩) | k+3,hk=>simp at hk⟩
theorem i_37:Try.prog.info? 37=some Try.t37:=by kernel_rfl
theorem ty_37:TyIs ah 37 false 1:=TyIs.mk' Try.underlying37 i_37 rfl rfl
theorem i_38:Try.prog.info? 38=some Try.t38:=by kernel_rfl
theorem ty_38:TyIs ah 38 false 1:=TyIs.mk' Try.underlying38 i_38 rfl rfl
theorem zc_38:zcv ah 8 38=.pv (.lit (.int .u64 0)):=by kernel_rfl
theorem z_38:ZeroIs ah 38 (.pv (.lit (.int .u64 0))):=ZeroIs.one i_38 rfl rfl rfl rfl rfl
theorem i_40:Try.prog.info? 40=some Try.t40:=by kernel_rfl
theorem ty_40:TyIs ah 40 true 3:=TyIs.mk' Try.underlying40 i_40 rfl rfl
theorem zc_40:zcv ah 8 40=.node [.pv (.sl true 1 []),.pv (.lit (.int .i64 0)),.pv (.lit (.int .u64 0))]:=by kernel_rfl
theorem z_40:ZeroIs ah 40 (.node [.pv (.sl true 1 []),.pv (.lit (.int .i64 0)),.pv (.lit (.int .u64 0))]):=ZeroIs.agg i_40 rfl rfl rfl
theorem f40_1:fOff ah 40 0=0:=by kernel_rfl
theorem f40_2:FieldIs ah 40 0 0:=FieldIs.mk' Try.underlying40 rfl rfl i_22 (by decide)
theorem f40_:fldT ah 40 0=22:=by kernel_rfl
theorem f41_1:fOff ah 40 1=1:=by kernel_rfl
theorem f41_2:FieldIs ah 40 1 1:=FieldIs.mk' Try.underlying40 rfl rfl i_3 (by decide)
theorem f41_:fldT ah 40 1=3:=by kernel_rfl
theorem f42_1:fOff ah 40 2=2:=by kernel_rfl
theorem f42_2:FieldIs ah 40 2 2:=FieldIs.mk' Try.underlying40 rfl rfl i_38 (by decide)
theorem f42_:fldT ah 40 2=38:=by kernel_rfl
theorem l4_:LO_ ah 40 [.pv (.sl true 1 []),.pv (.lit (.int .i64 0)),.pv (.lit (.int .u64 0))]:=.inr ⟨_,Try.underlying40,rfl,fun k f hk=>by match k,hk with | 0,hk=>(obtain rfl:=Option.some.inj hk; exact⟨rfl,_,i_22,rfl⟩) | 1,hk=>(obtain rfl:=Option.some.inj hk; exact⟨rfl,_,i_3,rfl⟩) | 2,hk=>(obtain rfl:=Option.some.inj hk; exact⟨rfl,_,i_38,rfl⟩) | k+3,hk=>simp at hk⟩
theorem i_48:Try.prog.info? 48=some Try.t48:=by kernel_rfl
theorem ty_48:TyIs ah 48 false 1:=TyIs.mk' Try.underlying48 i_48 rfl rfl
theorem i_56:Try.prog.info? 56=some Try.t56:=by kernel_rfl
theorem ty_56:TyIs ah 56 false 1:=TyIs.mk' Try.underlying56 i_56 rfl rfl
theorem zc_56:zcv ah 8 56=.pv (.sl true 3 []):=by kernel_rfl
theorem z_56:ZeroIs ah 56 (.pv (.sl true 3 [])):=ZeroIs.one i_56 rfl rfl rfl rfl rfl
theorem es_56:eSize ah 56=3:=by kernel_rfl
theorem eb_56:eB_ ah 56=56:=by kernel_rfl
theorem sl_56:SlIs ah 56 3 56:=SlIs.mk' Try.underlying56 i_27 rfl rfl rfl rfl (by decide)
theorem is_56:IsSl ah 56:=⟨_,Try.underlying56⟩
theorem el_56:eOT_ ah 56=27:=by kernel_rfl
theorem ze_56:zel ah 56=.agg [(.sl true 1 []),(.sl true 1 []),(.lit (.int .i64 0))]:=by kernel_rfl
theorem ez_56:ElemZero ah 56 (.agg [(.sl true 1 []),(.sl true 1 []),(.lit (.int .i64 0))]):=ElemZero.mk' Try.underlying56 (ZeroIs.agg i_27 rfl rfl rfl)
theorem i_66:Try.prog.info? 66=some Try.t66:=by kernel_rfl
theorem ty_66:TyIs ah 66 false 1:=TyIs.mk' Try.underlying66 i_66 rfl rfl
theorem zc_66:zcv ah 8 66=.pv (.lit (.int .u64 0)):=by kernel_rfl
theorem z_66:ZeroIs ah 66 (.pv (.lit (.int .u64 0))):=ZeroIs.one i_66 rfl rfl rfl rfl rfl
theorem mt_48:MapTy ah 48 3:=⟨9,Try.underlying48,Try.underlying9⟩
theorem mz_3:∃ i v,Try.prog.info? 3=some i∧i.zero=some v∧∀ N w,RepV N w (I (0:Int)) v []:=⟨Try.t3,.int .i64 0,by kernel_rfl,rfl,fun N w=>⟨rfl,rfl,rfl⟩⟩
theorem uk_3:Try.prog.underlying 3=some (.int .i64):=Try.underlying3
theorem uk_5:Try.prog.underlying 5=some (.int .u8):=Try.underlying5
theorem uk_38:Try.prog.underlying 38=some (.int .u64):=Try.underlying38
theorem uk_66:Try.prog.underlying 66=some (.int .u64):=Try.underlying66
attribute [push_cast] ty_3 zc_3 z_3 ty_22 zc_22 z_22 es_22 eb_22 sl_22 by_22 is_22 el_22 ze_22 ez_22 ty_5 zc_5 z_5 ty_38 zc_38 z_38 ty_40 zc_40 z_40 f40_1 f40_2 f40_ f41_1 f41_2 f41_ f42_1 f42_2 f42_ l4_ uk_3 uk_5 uk_38 mT_ ty_37 ty_25 zc_25 z_25 es_25 eb_25 sl_25 is_25 el_25 ze_25 ez_25 ty_9 zc_9 z_9 u_9 ty_24 zc_24 z_24 es_24 eb_24 sl_24 is_24 el_24 ze_24 ez_24 ty_27 zc_27 z_27 f20_1 f20_2 f20_ f21_1 f21_2 f21_ f22_1 f22_2 f22_ l2_ ty_4 zc_4 z_4 u_4 ty_66 zc_66 z_66 uk_66 ty_48 ty_56 zc_56 z_56 es_56 eb_56 sl_56 is_56 el_56 ze_56 ez_56
end Go.Proofs.Ytkmfaliedpidbaa
