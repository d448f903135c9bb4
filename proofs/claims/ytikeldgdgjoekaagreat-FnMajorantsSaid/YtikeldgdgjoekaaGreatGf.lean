/- Lemmas of the proof; each says what it shows. -/
import Derived.Test.YtikeldgdgjoekaaGreatAvFs
import Derived.Test.YtikeldgdgjoekaaGreatChecked
import Derived.KernelRfl
set_option linter.unusedSimpArgs false
set_option linter.unusedVariables false
set_option linter.defProp false
set_option maxRecDepth 4000
namespace Go.Proofs.YtikeldgdgjoekaaGreat
open Go.Av
open Tryz renaming prog→ah
open TyIs renaming mk'→bn
open ZeroIs renaming one→bw
theorem mixed:Tryz.prog.follows .mixedOrders=true:=by kernel_rfl
theorem mixedT:(Tryz.prog.follows .mixedOrders=true)=True:=eq_true mixed
theorem i_3:Tryz.prog.info? 3=some Tryz.t3:=by kernel_rfl
theorem ty_3:TyIs ah 3 false 1:=bn Tryz.underlying3 i_3 rfl rfl
theorem zc_3:zcv ah 8 3=.pv (.lit (.int .i64 0)):=by kernel_rfl
theorem z_3:ZeroIs ah 3 (.pv (.lit (.int .i64 0))):=bw i_3 rfl rfl rfl rfl rfl
theorem i_4:Tryz.prog.info? 4=some Tryz.t4:=by kernel_rfl
theorem ty_4:TyIs ah 4 false 1:=bn Tryz.underlying4 i_4 rfl rfl
theorem zc_4:zcv ah 8 4=.pv (.lit (.bool false)):=by kernel_rfl
theorem z_4:ZeroIs ah 4 (.pv (.lit (.bool false))):=bw i_4 rfl rfl rfl rfl rfl
theorem u_4:(Tryz.prog.underlying 4=some .bool)=True:=eq_true Tryz.underlying4
theorem i_5:Tryz.prog.info? 5=some Tryz.t5:=by kernel_rfl
theorem ty_5:TyIs ah 5 false 1:=bn Tryz.underlying5 i_5 rfl rfl
theorem zc_5:zcv ah 8 5=.pv (.lit (.int .u8 0)):=by kernel_rfl
theorem z_5:ZeroIs ah 5 (.pv (.lit (.int .u8 0))):=bw i_5 rfl rfl rfl rfl rfl
theorem i_9:Tryz.prog.info? 9=some Tryz.t9:=by kernel_rfl
theorem ty_9:TyIs ah 9 false 1:=bn Tryz.underlying9 i_9 rfl rfl
theorem zc_9:zcv ah 8 9=.pv (.lit (.string ⟨#[]⟩)):=by kernel_rfl
theorem z_9:ZeroIs ah 9 (.pv (.lit (.string ⟨#[]⟩))):=bw i_9 rfl rfl rfl rfl rfl
theorem u_9:(Tryz.prog.underlying 9=some .string)=True:=eq_true Tryz.underlying9
theorem i_22:Tryz.prog.info? 22=some Tryz.t22:=by kernel_rfl
theorem ty_22:TyIs ah 22 false 1:=bn Tryz.underlying22 i_22 rfl rfl
theorem zc_22:zcv ah 8 22=.pv (.sl true 1 []):=by kernel_rfl
theorem z_22:ZeroIs ah 22 (.pv (.sl true 1 [])):=bw i_22 rfl rfl rfl rfl rfl
theorem es_22:eSize ah 22=1:=by kernel_rfl
theorem eb_22:eBytes ah 22=1:=by kernel_rfl
theorem sl_22:SlIs ah 22 1 1:=SlIs.mk' Tryz.underlying22 i_5 rfl rfl rfl rfl (by decide)
theorem by_22:IsBytes ah 22:=⟨_,Tryz.underlying22,Tryz.underlying5⟩
theorem is_22:IsSl ah 22:=⟨_,Tryz.underlying22⟩
theorem el_22:elemOfT ah 22=5:=by kernel_rfl
theorem ze_22:zel ah 22=(.lit (.int .u8 0)):=by kernel_rfl
theorem ez_22:ElemZero ah 22 ((.lit (.int .u8 0))):=ElemZero.mk' Tryz.underlying22 (bw i_5 rfl rfl rfl rfl rfl)
theorem i_24:Tryz.prog.info? 24=some Tryz.t24:=by kernel_rfl
theorem ty_24:TyIs ah 24 false 1:=bn Tryz.underlying24 i_24 rfl rfl
theorem zc_24:zcv ah 8 24=.pv (.sl true 3 []):=by kernel_rfl
theorem z_24:ZeroIs ah 24 (.pv (.sl true 3 [])):=bw i_24 rfl rfl rfl rfl rfl
theorem i_54:Tryz.prog.info? 54=some Tryz.t54:=by kernel_rfl
theorem es_24:eSize ah 24=3:=by kernel_rfl
theorem eb_24:eBytes ah 24=48:=by kernel_rfl
theorem sl_24:SlIs ah 24 3 48:=SlIs.mk' Tryz.underlying24 i_54 rfl rfl rfl rfl (by decide)
theorem is_24:IsSl ah 24:=⟨_,Tryz.underlying24⟩
theorem el_24:elemOfT ah 24=54:=by kernel_rfl
theorem ze_24:zel ah 24=.agg [(.lit (.string ⟨#[]⟩)),(.sl true 1 []),(.lit (.int .i64 0))]:=by kernel_rfl
theorem ez_24:ElemZero ah 24 (.agg [(.lit (.string ⟨#[]⟩)),(.sl true 1 []),(.lit (.int .i64 0))]):=ElemZero.mk' Tryz.underlying24 (ZeroIs.agg i_54 rfl rfl rfl)
theorem i_25:Tryz.prog.info? 25=some Tryz.t25:=by kernel_rfl
theorem ty_25:TyIs ah 25 false 1:=bn Tryz.underlying25 i_25 rfl rfl
theorem zc_25:zcv ah 8 25=.pv (.sl true 1 []):=by kernel_rfl
theorem z_25:ZeroIs ah 25 (.pv (.sl true 1 [])):=bw i_25 rfl rfl rfl rfl rfl
theorem es_25:eSize ah 25=1:=by kernel_rfl
theorem eb_25:eBytes ah 25=8:=by kernel_rfl
theorem sl_25:SlIs ah 25 1 8:=SlIs.mk' Tryz.underlying25 i_3 rfl rfl rfl rfl (by decide)
theorem is_25:IsSl ah 25:=⟨_,Tryz.underlying25⟩
theorem el_25:elemOfT ah 25=3:=by kernel_rfl
theorem ze_25:zel ah 25=(.lit (.int .i64 0)):=by kernel_rfl
theorem ez_25:ElemZero ah 25 ((.lit (.int .i64 0))):=ElemZero.mk' Tryz.underlying25 (bw i_3 rfl rfl rfl rfl rfl)
theorem i_26:Tryz.prog.info? 26=some Tryz.t26:=by kernel_rfl
theorem ty_26:TyIs ah 26 false 1:=bn Tryz.underlying26 i_26 rfl rfl
theorem zc_26:zcv ah 8 26=.pv (.sl true 2 []):=by kernel_rfl
theorem z_26:ZeroIs ah 26 (.pv (.sl true 2 [])):=bw i_26 rfl rfl rfl rfl rfl
theorem i_28:Tryz.prog.info? 28=some Tryz.t28:=by kernel_rfl
theorem es_26:eSize ah 26=2:=by kernel_rfl
theorem eb_26:eBytes ah 26=40:=by kernel_rfl
theorem sl_26:SlIs ah 26 2 40:=SlIs.mk' Tryz.underlying26 i_28 rfl rfl rfl rfl (by decide)
theorem is_26:IsSl ah 26:=⟨_,Tryz.underlying26⟩
theorem el_26:elemOfT ah 26=28:=by kernel_rfl
theorem ze_26:zel ah 26=.agg [(.lit (.string ⟨#[]⟩)),(.sl true 2 [])]:=by kernel_rfl
theorem ez_26:ElemZero ah 26 (.agg [(.lit (.string ⟨#[]⟩)),(.sl true 2 [])]):=ElemZero.mk' Tryz.underlying26 (ZeroIs.agg i_28 rfl rfl rfl)
theorem ty_28:TyIs ah 28 true 2:=bn Tryz.underlying28 i_28 rfl rfl
theorem zc_28:zcv ah 8 28=.node [.pv (.lit (.string ⟨#[]⟩)),.pv (.sl true 2 [])]:=by kernel_rfl
theorem z_28:ZeroIs ah 28 (.node [.pv (.lit (.string ⟨#[]⟩)),.pv (.sl true 2 [])]):=ZeroIs.agg i_28 rfl rfl rfl
theorem fo_28_0:fOff ah 28 0=0:=by kernel_rfl
theorem fi_28_0:FieldIs ah 28 0 0:=FieldIs.mk' Tryz.underlying28 rfl rfl i_9 (by decide)
theorem ft_28_0:fldT ah 28 0=9:=by kernel_rfl
theorem fo_28_1:fOff ah 28 1=1:=by kernel_rfl
theorem fi_28_1:FieldIs ah 28 1 1:=FieldIs.mk' Tryz.underlying28 rfl rfl i_26 (by decide)
theorem ft_28_1:fldT ah 28 1=26:=by kernel_rfl
theorem lay_28:LayoutOk ah 28 [.pv (.lit (.string ⟨#[]⟩)),.pv (.sl true 2 [])]:=.inr ⟨_,Tryz.underlying28,rfl,fun k f hk=>by match k,hk with | 0,hk=>(obtain rfl:=Option.some.inj hk; exact⟨rfl,_,i_9,rfl⟩) | 1,hk=>(obtain rfl:=Option.some.inj hk; exact⟨rfl,_,i_26,rfl⟩) | k+2,hk=>simp at hk⟩
theorem i_29:Tryz.prog.info? 29=some Tryz.t29:=by kernel_rfl
theorem ty_29:TyIs ah 29 false 1:=bn Tryz.underlying29 i_29 rfl rfl
theorem zc_29:zcv ah 8 29=.pv (.sl true 1 []):=by kernel_rfl
theorem z_29:ZeroIs ah 29 (.pv (.sl true 1 [])):=bw i_29 rfl rfl rfl rfl rfl
theorem es_29:eSize ah 29=1:=by kernel_rfl
theorem eb_29:eBytes ah 29=16:=by kernel_rfl
theorem sl_29:SlIs ah 29 1 16:=SlIs.mk' Tryz.underlying29 i_9 rfl rfl rfl rfl (by decide)
theorem is_29:IsSl ah 29:=⟨_,Tryz.underlying29⟩
theorem el_29:elemOfT ah 29=9:=by kernel_rfl
theorem ze_29:zel ah 29=(.lit (.string ⟨#[]⟩)):=by kernel_rfl
theorem ez_29:ElemZero ah 29 ((.lit (.string ⟨#[]⟩))):=ElemZero.mk' Tryz.underlying29 (bw i_9 rfl rfl rfl rfl rfl)
theorem i_31:Tryz.prog.info? 31=some Tryz.t31:=by kernel_rfl
theorem ty_31:TyIs ah 31 true 3:=bn Tryz.underlying31 i_31 rfl rfl
theorem zc_31:zcv ah 8 31=.node [.pv (.sl true 1 []),.pv (.sl true 1 []),.pv (.lit (.int .i64 0))]:=by kernel_rfl
theorem z_31:ZeroIs ah 31 (.node [.pv (.sl true 1 []),.pv (.sl true 1 []),.pv (.lit (.int .i64 0))]):=ZeroIs.agg i_31 rfl rfl rfl
theorem fo_31_0:fOff ah 31 0=0:=by kernel_rfl
theorem fi_31_0:FieldIs ah 31 0 0:=FieldIs.mk' Tryz.underlying31 rfl rfl i_29 (by decide)
theorem ft_31_0:fldT ah 31 0=29:=by kernel_rfl
theorem fo_31_1:fOff ah 31 1=1:=by kernel_rfl
theorem fi_31_1:FieldIs ah 31 1 1:=FieldIs.mk' Tryz.underlying31 rfl rfl i_25 (by decide)
theorem ft_31_1:fldT ah 31 1=25:=by kernel_rfl
theorem fo_31_2:fOff ah 31 2=2:=by kernel_rfl
theorem fi_31_2:FieldIs ah 31 2 2:=FieldIs.mk' Tryz.underlying31 rfl rfl i_3 (by decide)
theorem ft_31_2:fldT ah 31 2=3:=by kernel_rfl
theorem lay_31:LayoutOk ah 31 [.pv (.sl true 1 []),.pv (.sl true 1 []),.pv (.lit (.int .i64 0))]:=.inr ⟨_,Tryz.underlying31,rfl,fun k f hk=>by match k,hk with | 0,hk=>(obtain rfl:=Option.some.inj hk; exact⟨rfl,_,i_29,rfl⟩) | 1,hk=>(obtain rfl:=Option.some.inj hk; exact⟨rfl,_,i_25,rfl⟩) | 2,hk=>(obtain rfl:=Option.some.inj hk; exact⟨rfl,_,i_3,rfl⟩) | k+3,hk=>simp at hk⟩
theorem i_39:Tryz.prog.info? 39=some Tryz.t39:=by kernel_rfl
theorem ty_39:TyIs ah 39 false 1:=bn Tryz.underlying39 i_39 rfl rfl
theorem i_40:Tryz.prog.info? 40=some Tryz.t40:=by kernel_rfl
theorem ty_40:TyIs ah 40 false 1:=bn Tryz.underlying40 i_40 rfl rfl
theorem zc_40:zcv ah 8 40=.pv (.lit (.int .u64 0)):=by kernel_rfl
theorem z_40:ZeroIs ah 40 (.pv (.lit (.int .u64 0))):=bw i_40 rfl rfl rfl rfl rfl
theorem i_42:Tryz.prog.info? 42=some Tryz.t42:=by kernel_rfl
theorem ty_42:TyIs ah 42 true 3:=bn Tryz.underlying42 i_42 rfl rfl
theorem zc_42:zcv ah 8 42=.node [.pv (.sl true 1 []),.pv (.lit (.int .i64 0)),.pv (.lit (.int .u64 0))]:=by kernel_rfl
theorem z_42:ZeroIs ah 42 (.node [.pv (.sl true 1 []),.pv (.lit (.int .i64 0)),.pv (.lit (.int .u64 0))]):=ZeroIs.agg i_42 rfl rfl rfl
theorem fo_42_0:fOff ah 42 0=0:=by kernel_rfl
theorem fi_42_0:FieldIs ah 42 0 0:=FieldIs.mk' Tryz.underlying42 rfl rfl i_22 (by decide)
theorem ft_42_0:fldT ah 42 0=22:=by kernel_rfl
theorem fo_42_1:fOff ah 42 1=1:=by kernel_rfl
theorem fi_42_1:FieldIs ah 42 1 1:=FieldIs.mk' Tryz.underlying42 rfl rfl i_3 (by decide)
theorem ft_42_1:fldT ah 42 1=3:=by kernel_rfl
theorem fo_42_2:fOff ah 42 2=2:=by kernel_rfl
theorem fi_42_2:FieldIs ah 42 2 2:=FieldIs.mk' Tryz.underlying42 rfl rfl i_40 (by decide)
theorem ft_42_2:fldT ah 42 2=40:=by kernel_rfl
theorem lay_42:LayoutOk ah 42 [.pv (.sl true 1 []),.pv (.lit (.int .i64 0)),.pv (.lit (.int .u64 0))]:=.inr ⟨_,Tryz.underlying42,rfl,fun k f hk=>by match k,hk with | 0,hk=>(obtain rfl:=Option.some.inj hk; exact⟨rfl,_,i_22,rfl⟩) | 1,hk=>(obtain rfl:=Option.some.inj hk; exact⟨rfl,_,i_3,rfl⟩) | 2,hk=>(obtain rfl:=Option.some.inj hk; exact⟨rfl,_,i_40,rfl⟩) | k+3,hk=>simp at hk⟩
theorem i_45:Tryz.prog.info? 45=some Tryz.t45:=by kernel_rfl
theorem ty_45:TyIs ah 45 false 1:=bn Tryz.underlying45 i_45 rfl rfl
theorem zc_45:zcv ah 8 45=.pv (.lit .nilFunc):=by kernel_rfl
theorem z_45:ZeroIs ah 45 (.pv (.lit .nilFunc)):=bw i_45 rfl rfl rfl rfl rfl
theorem i_51:Tryz.prog.info? 51=some Tryz.t51:=by kernel_rfl
theorem ty_51:TyIs ah 51 false 1:=bn Tryz.underlying51 i_51 rfl rfl
theorem zc_51:zcv ah 8 51=.pv (.lit .nilFunc):=by kernel_rfl
theorem z_51:ZeroIs ah 51 (.pv (.lit .nilFunc)):=bw i_51 rfl rfl rfl rfl rfl
theorem ty_54:TyIs ah 54 true 3:=bn Tryz.underlying54 i_54 rfl rfl
theorem zc_54:zcv ah 8 54=.node [.pv (.lit (.string ⟨#[]⟩)),.pv (.sl true 1 []),.pv (.lit (.int .i64 0))]:=by kernel_rfl
theorem z_54:ZeroIs ah 54 (.node [.pv (.lit (.string ⟨#[]⟩)),.pv (.sl true 1 []),.pv (.lit (.int .i64 0))]):=ZeroIs.agg i_54 rfl rfl rfl
theorem fo_54_0:fOff ah 54 0=0:=by kernel_rfl
theorem fi_54_0:FieldIs ah 54 0 0:=FieldIs.mk' Tryz.underlying54 rfl rfl i_9 (by decide)
theorem ft_54_0:fldT ah 54 0=9:=by kernel_rfl
theorem fo_54_1:fOff ah 54 1=1:=by kernel_rfl
theorem fi_54_1:FieldIs ah 54 1 1:=FieldIs.mk' Tryz.underlying54 rfl rfl i_25 (by decide)
theorem ft_54_1:fldT ah 54 1=25:=by kernel_rfl
theorem fo_54_2:fOff ah 54 2=2:=by kernel_rfl
theorem fi_54_2:FieldIs ah 54 2 2:=FieldIs.mk' Tryz.underlying54 rfl rfl i_3 (by decide)
theorem ft_54_2:fldT ah 54 2=3:=by kernel_rfl
theorem lay_54:LayoutOk ah 54 [.pv (.lit (.string ⟨#[]⟩)),.pv (.sl true 1 []),.pv (.lit (.int .i64 0))]:=.inr ⟨_,Tryz.underlying54,rfl,fun k f hk=>by match k,hk with | 0,hk=>(obtain rfl:=Option.some.inj hk; exact⟨rfl,_,i_9,rfl⟩) | 1,hk=>(obtain rfl:=Option.some.inj hk; exact⟨rfl,_,i_25,rfl⟩) | 2,hk=>(obtain rfl:=Option.some.inj hk; exact⟨rfl,_,i_3,rfl⟩) | k+3,hk=>simp at hk⟩
theorem i_63:Tryz.prog.info? 63=some Tryz.t63:=by kernel_rfl
theorem ty_63:TyIs ah 63 false 1:=bn Tryz.underlying63 i_63 rfl rfl
theorem i_80:Tryz.prog.info? 80=some Tryz.t80:=by kernel_rfl
theorem ty_80:TyIs ah 80 false 1:=bn Tryz.underlying80 i_80 rfl rfl
theorem zc_80:zcv ah 8 80=.pv (.lit .nilFunc):=by kernel_rfl
theorem z_80:ZeroIs ah 80 (.pv (.lit .nilFunc)):=bw i_80 rfl rfl rfl rfl rfl
theorem i_84:Tryz.prog.info? 84=some Tryz.t84:=by kernel_rfl
theorem ty_84:TyIs ah 84 false 1:=bn Tryz.underlying84 i_84 rfl rfl
theorem zc_84:zcv ah 8 84=.pv (.lit (.int .u64 0)):=by kernel_rfl
theorem z_84:ZeroIs ah 84 (.pv (.lit (.int .u64 0))):=bw i_84 rfl rfl rfl rfl rfl
theorem isIntB_i:isIntB (Tryz.prog.underlying 3)=true:=by kernel_rfl
theorem mt_63:MapTy ah 63 3:=⟨9,Tryz.underlying63,Tryz.underlying9⟩
theorem mz_3:∃ i v,Tryz.prog.info? 3=some i∧i.zero=some v∧∀ N w,RepV N w (I (0:Int)) v []:=⟨Tryz.t3,.int .i64 0,by kernel_rfl,rfl,fun N w=>⟨rfl,rfl,rfl⟩⟩
theorem uk_3:Tryz.prog.underlying 3=some (.int .i64):=Tryz.underlying3
theorem uk_5:Tryz.prog.underlying 5=some (.int .u8):=Tryz.underlying5
theorem uk_40:Tryz.prog.underlying 40=some (.int .u64):=Tryz.underlying40
theorem uk_84:Tryz.prog.underlying 84=some (.int .u64):=Tryz.underlying84
attribute [push_cast] ty_3 zc_3 z_3 ty_22 zc_22 z_22 es_22 eb_22 sl_22 by_22 is_22 el_22 ze_22 ez_22 ty_5 zc_5 z_5 ty_40 zc_40 z_40 ty_42 zc_42 z_42 fo_42_0 fi_42_0 ft_42_0 fo_42_1 fi_42_1 ft_42_1 fo_42_2 fi_42_2 ft_42_2 lay_42 uk_3 uk_5 uk_40 mixedT ty_39 ty_25 zc_25 z_25 es_25 eb_25 sl_25 is_25 el_25 ze_25 ez_25 ty_9 zc_9 z_9 u_9 ty_29 zc_29 z_29 es_29 eb_29 sl_29 is_29 el_29 ze_29 ez_29 ty_24 zc_24 z_24 es_24 eb_24 sl_24 is_24 el_24 ze_24 ez_24 ty_54 zc_54 z_54 fo_54_0 fi_54_0 ft_54_0 fo_54_1 fi_54_1 ft_54_1 fo_54_2 fi_54_2 ft_54_2 lay_54 ty_26 zc_26 z_26 es_26 eb_26 sl_26 is_26 el_26 ze_26 ez_26 ty_28 zc_28 z_28 fo_28_0 fi_28_0 ft_28_0 fo_28_1 fi_28_1 ft_28_1 lay_28 ty_31 zc_31 z_31 fo_31_0 fi_31_0 ft_31_0 fo_31_1 fi_31_1 ft_31_1 fo_31_2 fi_31_2 ft_31_2 lay_31 ty_4 zc_4 z_4 u_4 ty_45 zc_45 z_45 ty_51 zc_51 z_51 ty_84 zc_84 z_84 uk_84 ty_80 zc_80 z_80 ty_63
end Go.Proofs.YtikeldgdgjoekaaGreat
