/- Lemmas of the proof; each says what it shows. -/
import Derived.Test.YtpfobcjmfobiaaaAvZ
import Derived.Test.YtpfobcjmfobiaaaChecked
import Derived.KernelRfl
set_option linter.unusedSimpArgs false
set_option linter.unusedVariables false
set_option linter.defProp false
set_option maxRecDepth 4000
namespace Go.Proofs.Ytpfobcjmfobiaaa
open Go.Av
open Try renaming prog→ah
theorem mixed:Try.prog.follows .mixedOrders=true:=by kernel_rfl
theorem mT_2:(Try.prog.follows .mixedOrders=true)=True:=eq_true mixed
theorem i_3:Try.prog.info? 3=some Try.t3:=by kernel_rfl
theorem ty_3:TyIs ah 3 false 1:=TyIs.mk' Try.underlying3 i_3 rfl rfl
theorem zc_3:zcv ah 8 3=.pv (.lit (.int .i64 0)):=by kernel_rfl
theorem z_3:ZeroIs ah 3 (.pv (.lit (.int .i64 0))):=ZeroIs.one i_3 rfl rfl rfl rfl rfl
theorem i_4:Try.prog.info? 4=some Try.t4:=by kernel_rfl
theorem ty_4:TyIs ah 4 false 1:=TyIs.mk' Try.underlying4 i_4 rfl rfl
theorem zc_4:zcv ah 8 4=.pv (.lit (.bool false)):=by kernel_rfl
theorem z_4:ZeroIs ah 4 (.pv (.lit (.bool false))):=ZeroIs.one i_4 rfl rfl rfl rfl rfl
theorem u_4:(Try.prog.underlying 4=some .bool)=True:=eq_true Try.underlying4
theorem i_5:Try.prog.info? 5=some Try.t5:=by kernel_rfl
theorem ty_5:TyIs ah 5 false 1:=TyIs.mk' Try.underlying5 i_5 rfl rfl
theorem zc_5:zcv ah 8 5=.pv (.lit (.int .u8 0)):=by kernel_rfl
theorem z_5:ZeroIs ah 5 (.pv (.lit (.int .u8 0))):=ZeroIs.one i_5 rfl rfl rfl rfl rfl
theorem i_9:Try.prog.info? 9=some Try.t9:=by kernel_rfl
theorem ty_9:TyIs ah 9 false 1:=TyIs.mk' Try.underlying9 i_9 rfl rfl
theorem zc_9:zcv ah 8 9=.pv (.lit (.string ⟨#[]⟩)):=by kernel_rfl
theorem z_9:ZeroIs ah 9 (.pv (.lit (.string ⟨#[]⟩))):=ZeroIs.one i_9 rfl rfl rfl rfl rfl
theorem u_9:(Try.prog.underlying 9=some .string)=True:=eq_true Try.underlying9
theorem i_22:Try.prog.info? 22=some Try.t22:=by kernel_rfl
theorem ty_22:TyIs ah 22 false 1:=TyIs.mk' Try.underlying22 i_22 rfl rfl
theorem zc_22:zcv ah 8 22=.pv (.sl true 2 []):=by kernel_rfl
theorem z_22:ZeroIs ah 22 (.pv (.sl true 2 [])):=ZeroIs.one i_22 rfl rfl rfl rfl rfl
theorem i_37:Try.prog.info? 37=some Try.t37:=by kernel_rfl
theorem es_22:eSize ah 22=2:=by kernel_rfl
theorem eb_22:eB_ ah 22=40:=by kernel_rfl
theorem sl_22:SlIs ah 22 2 40:=SlIs.mk' Try.underlying22 i_37 rfl rfl rfl rfl (by decide)
theorem is_22:IsSl ah 22:=⟨_,Try.underlying22⟩
theorem el_22:eOT_ ah 22=37:=by kernel_rfl
theorem ze_22:zel ah 22=.agg [(.lit (.string ⟨#[]⟩)),(.sl true 2 [])]:=by kernel_rfl
theorem ez_22:ElemZero ah 22 (.agg [(.lit (.string ⟨#[]⟩)),(.sl true 2 [])]):=ElemZero.mk' Try.underlying22 (ZeroIs.agg i_37 rfl rfl rfl)
theorem i_24:Try.prog.info? 24=some Try.t24:=by kernel_rfl
theorem ty_24:TyIs ah 24 false 1:=TyIs.mk' Try.underlying24 i_24 rfl rfl
theorem zc_24:zcv ah 8 24=.pv (.sl true 2 []):=by kernel_rfl
theorem z_24:ZeroIs ah 24 (.pv (.sl true 2 [])):=ZeroIs.one i_24 rfl rfl rfl rfl rfl
theorem i_26:Try.prog.info? 26=some Try.t26:=by kernel_rfl
theorem es_24:eSize ah 24=2:=by kernel_rfl
theorem eb_24:eB_ ah 24=40:=by kernel_rfl
theorem sl_24:SlIs ah 24 2 40:=SlIs.mk' Try.underlying24 i_26 rfl rfl rfl rfl (by decide)
theorem is_24:IsSl ah 24:=⟨_,Try.underlying24⟩
theorem el_24:eOT_ ah 24=26:=by kernel_rfl
theorem ze_24:zel ah 24=.agg [(.lit (.string ⟨#[]⟩)),(.sl true 2 [])]:=by kernel_rfl
theorem ez_24:ElemZero ah 24 (.agg [(.lit (.string ⟨#[]⟩)),(.sl true 2 [])]):=ElemZero.mk' Try.underlying24 (ZeroIs.agg i_26 rfl rfl rfl)
theorem ty_26:TyIs ah 26 true 2:=TyIs.mk' Try.underlying26 i_26 rfl rfl
theorem zc_26:zcv ah 8 26=.node [.pv (.lit (.string ⟨#[]⟩)),.pv (.sl true 2 [])]:=by kernel_rfl
theorem z_26:ZeroIs ah 26 (.node [.pv (.lit (.string ⟨#[]⟩)),.pv (.sl true 2 [])]):=ZeroIs.agg i_26 rfl rfl rfl
theorem f20_1:fOff ah 26 0=0:=by kernel_rfl
theorem f20_2:FieldIs ah 26 0 0:=FieldIs.mk' Try.underlying26 rfl rfl i_9 (by decide)
theorem f20_:fldT ah 26 0=9:=by kernel_rfl
theorem f21_1:fOff ah 26 1=1:=by kernel_rfl
theorem f21_2:FieldIs ah 26 1 1:=FieldIs.mk' Try.underlying26 rfl rfl i_24 (by decide)
theorem f21_:fldT ah 26 1=24:=by kernel_rfl
theorem l2_:LO_ ah 26 [.pv (.lit (.string ⟨#[]⟩)),.pv (.sl true 2 [])]:=.inr ⟨_,Try.underlying26,rfl,fun k f hk=>by match k,hk with | 0,hk=>(obtain rfl:=Option.some.inj hk; exact⟨rfl,_,i_9,rfl⟩) | 1,hk=>(obtain rfl:=Option.some.inj hk; exact⟨rfl,_,i_24,rfl⟩) | k+2,hk=>simp at hk⟩
theorem i_30:Try.prog.info? 30=some Try.t30:=by kernel_rfl
theorem ty_30:TyIs ah 30 false 1:=TyIs.mk' Try.underlying30 i_30 rfl rfl
theorem zc_30:zcv ah 8 30=.pv (.lit .nilFunc):=by kernel_rfl
theorem z_30:ZeroIs ah 30 (.pv (.lit .nilFunc)):=ZeroIs.one i_30 rfl rfl rfl rfl rfl
theorem ty_37:TyIs ah 37 true 2:=TyIs.mk' Try.underlying37 i_37 rfl rfl
theorem zc_37:zcv ah 8 37=.node [.pv (.lit (.string ⟨#[]⟩)),.pv (.sl true 2 [])]:=by kernel_rfl
theorem z_37:ZeroIs ah 37 (.node [.pv (.lit (.string ⟨#[]⟩)),.pv (.sl true 2 [])]):=ZeroIs.agg i_37 rfl rfl rfl
theorem f30_1:fOff ah 37 0=0:=by kernel_rfl
theorem f30_2:FieldIs ah 37 0 0:=FieldIs.mk' Try.underlying37 rfl rfl i_9 (by decide)
theorem f30_:fldT ah 37 0=9:=by kernel_rfl
theorem f31_1:fOff ah 37 1=1:=by kernel_rfl
theorem f31_2:FieldIs ah 37 1 1:=FieldIs.mk' Try.underlying37 rfl rfl i_22 (by decide)
theorem f31_:fldT ah 37 1=22:=by kernel_rfl
theorem l3_:LO_ ah 37 [.pv (.lit (.string ⟨#[]⟩)),.pv (.sl true 2 [])]:=.inr ⟨_,Try.underlying37,rfl,fun k f hk=>by match k,hk with | 0,hk=>(obtain rfl:=Option.some.inj hk; exact⟨rfl,_,i_9,rfl⟩) | 1,hk=>(obtain rfl:=Option.some.inj hk; exact⟨rfl,_,i_22,rfl⟩) | k+2,hk=>simp at hk⟩
theorem i_44:Try.prog.info? 44=some Try.t44:=by kernel_rfl
theorem ty_44:TyIs ah 44 false 1:=TyIs.mk' Try.underlying44 i_44 rfl rfl
theorem zc_44:zcv ah 8 44=.pv (.lit .nilFunc):=by kernel_rfl
theorem z_44:ZeroIs ah 44 (.pv (.lit .nilFunc)):=ZeroIs.one i_44 rfl rfl rfl rfl rfl
theorem i_50:Try.prog.info? 50=some Try.t50:=by kernel_rfl
theorem ty_50:TyIs ah 50 false 1:=TyIs.mk' Try.underlying50 i_50 rfl rfl
theorem zc_50:zcv ah 8 50=.pv (.sl true 1 []):=by kernel_rfl
theorem z_50:ZeroIs ah 50 (.pv (.sl true 1 [])):=ZeroIs.one i_50 rfl rfl rfl rfl rfl
theorem es_50:eSize ah 50=1:=by kernel_rfl
theorem eb_50:eB_ ah 50=1:=by kernel_rfl
theorem sl_50:SlIs ah 50 1 1:=SlIs.mk' Try.underlying50 i_5 rfl rfl rfl rfl (by decide)
theorem by_50:IB_ ah 50:=⟨_,Try.underlying50,Try.underlying5⟩
theorem is_50:IsSl ah 50:=⟨_,Try.underlying50⟩
theorem el_50:eOT_ ah 50=5:=by kernel_rfl
theorem ze_50:zel ah 50=(.lit (.int .u8 0)):=by kernel_rfl
theorem ez_50:ElemZero ah 50 ((.lit (.int .u8 0))):=ElemZero.mk' Try.underlying50 (ZeroIs.one i_5 rfl rfl rfl rfl rfl)
theorem i_51:Try.prog.info? 51=some Try.t51:=by kernel_rfl
theorem ty_51:TyIs ah 51 false 1:=TyIs.mk' Try.underlying51 i_51 rfl rfl
theorem zc_51:zcv ah 8 51=.pv (.sl true 1 []):=by kernel_rfl
theorem z_51:ZeroIs ah 51 (.pv (.sl true 1 [])):=ZeroIs.one i_51 rfl rfl rfl rfl rfl
theorem es_51:eSize ah 51=1:=by kernel_rfl
theorem eb_51:eB_ ah 51=16:=by kernel_rfl
theorem sl_51:SlIs ah 51 1 16:=SlIs.mk' Try.underlying51 i_9 rfl rfl rfl rfl (by decide)
theorem is_51:IsSl ah 51:=⟨_,Try.underlying51⟩
theorem el_51:eOT_ ah 51=9:=by kernel_rfl
theorem ze_51:zel ah 51=(.lit (.string ⟨#[]⟩)):=by kernel_rfl
theorem ez_51:ElemZero ah 51 ((.lit (.string ⟨#[]⟩))):=ElemZero.mk' Try.underlying51 (ZeroIs.one i_9 rfl rfl rfl rfl rfl)
theorem uk_3:Try.prog.underlying 3=some (.int .i64):=Try.underlying3
theorem uk_5:Try.prog.underlying 5=some (.int .u8):=Try.underlying5
theorem uk_9:Try.prog.underlying 9=some .string:=Try.underlying9
attribute [push_cast] ty_3 zc_3 z_3 ty_22 zc_22 z_22 es_22 eb_22 sl_22 is_22 el_22 ze_22 ez_22 ty_37 zc_37 z_37 f30_1 f30_2 f30_ f31_1 f31_2 f31_ l3_ ty_9 zc_9 z_9 u_9 ty_24 zc_24 z_24 es_24 eb_24 sl_24 is_24 el_24 ze_24 ez_24 ty_26 zc_26 z_26 f20_1 f20_2 f20_ f21_1 f21_2 f21_ l2_ ty_5 zc_5 z_5 ty_4 zc_4 z_4 u_4 ty_51 zc_51 z_51 es_51 eb_51 sl_51 is_51 el_51 ze_51 ez_51 mT_2 ty_44 zc_44 z_44 ty_30 zc_30 z_30 ty_50 zc_50 z_50 es_50 eb_50 sl_50 by_50 is_50 el_50 ze_50 ez_50 uk_3 uk_5 uk_9
end Go.Proofs.Ytpfobcjmfobiaaa
