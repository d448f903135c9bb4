/- Lemmas of the proof; each says what it shows. -/
import Derived.Test.YtjpljobgioglmaaAvF5
import Derived.Test.YtjpljobgioglmaaChecked
import Derived.KernelRfl
set_option linter.unusedSimpArgs false
set_option linter.unusedVariables false
set_option linter.defProp false
set_option maxRecDepth 4000
namespace Go.Proofs.Ytjpljobgioglmaa
open Go.Av
open FieldIs renaming mk'→bB
open Try renaming prog→ag
open TyIs renaming mk'→bg
open ZeroIs renaming one→bm
theorem mixed:Try.prog.follows .mixedOrders=true:=by kernel_rfl
theorem mixedT:(Try.prog.follows .mixedOrders=true)=True:=eq_true mixed
theorem i_3:Try.prog.info? 3=some Try.t3:=by kernel_rfl
theorem ty_3:TyIs ag 3 false 1:=bg Try.underlying3 i_3 rfl rfl
theorem zc_3:zcv ag 8 3=.pv (.lit (.int .i64 0)):=by kernel_rfl
theorem z_3:ZeroIs ag 3 (.pv (.lit (.int .i64 0))):=bm i_3 rfl rfl rfl rfl rfl
theorem i_4:Try.prog.info? 4=some Try.t4:=by kernel_rfl
theorem ty_4:TyIs ag 4 false 1:=bg Try.underlying4 i_4 rfl rfl
theorem zc_4:zcv ag 8 4=.pv (.lit (.bool false)):=by kernel_rfl
theorem z_4:ZeroIs ag 4 (.pv (.lit (.bool false))):=bm i_4 rfl rfl rfl rfl rfl
theorem u_4:(Try.prog.underlying 4=some .bool)=True:=eq_true Try.underlying4
theorem i_5:Try.prog.info? 5=some Try.t5:=by kernel_rfl
theorem ty_5:TyIs ag 5 false 1:=bg Try.underlying5 i_5 rfl rfl
theorem zc_5:zcv ag 8 5=.pv (.lit (.int .u8 0)):=by kernel_rfl
theorem z_5:ZeroIs ag 5 (.pv (.lit (.int .u8 0))):=bm i_5 rfl rfl rfl rfl rfl
theorem i_9:Try.prog.info? 9=some Try.t9:=by kernel_rfl
theorem ty_9:TyIs ag 9 false 1:=bg Try.underlying9 i_9 rfl rfl
theorem zc_9:zcv ag 8 9=.pv (.lit (.string ⟨#[]⟩)):=by kernel_rfl
theorem z_9:ZeroIs ag 9 (.pv (.lit (.string ⟨#[]⟩))):=bm i_9 rfl rfl rfl rfl rfl
theorem u_9:(Try.prog.underlying 9=some .string)=True:=eq_true Try.underlying9
theorem i_22:Try.prog.info? 22=some Try.t22:=by kernel_rfl
theorem ty_22:TyIs ag 22 false 1:=bg Try.underlying22 i_22 rfl rfl
theorem zc_22:zcv ag 8 22=.pv (.sl true 1 []):=by kernel_rfl
theorem z_22:ZeroIs ag 22 (.pv (.sl true 1 [])):=bm i_22 rfl rfl rfl rfl rfl
theorem es_22:eSize ag 22=1:=by kernel_rfl
theorem eb_22:eBytes ag 22=1:=by kernel_rfl
theorem sl_22:SlIs ag 22 1 1:=SlIs.mk' Try.underlying22 i_5 rfl rfl rfl rfl (by decide)
theorem by_22:IsBytes ag 22:=⟨_,Try.underlying22,Try.underlying5⟩
theorem is_22:IsSl ag 22:=⟨_,Try.underlying22⟩
theorem el_22:elemOfT ag 22=5:=by kernel_rfl
theorem ze_22:zel ag 22=(.lit (.int .u8 0)):=by kernel_rfl
theorem ez_22:ElemZero ag 22 ((.lit (.int .u8 0))):=ElemZero.mk' Try.underlying22 (bm i_5 rfl rfl rfl rfl rfl)
theorem i_24:Try.prog.info? 24=some Try.t24:=by kernel_rfl
theorem ty_24:TyIs ag 24 false 1:=bg Try.underlying24 i_24 rfl rfl
theorem zc_24:zcv ag 8 24=.pv (.sl true 3 []):=by kernel_rfl
theorem z_24:ZeroIs ag 24 (.pv (.sl true 3 [])):=bm i_24 rfl rfl rfl rfl rfl
theorem i_72:Try.prog.info? 72=some Try.t72:=by kernel_rfl
theorem es_24:eSize ag 24=3:=by kernel_rfl
theorem eb_24:eBytes ag 24=24:=by kernel_rfl
theorem sl_24:SlIs ag 24 3 24:=SlIs.mk' Try.underlying24 i_72 rfl rfl rfl rfl (by decide)
theorem is_24:IsSl ag 24:=⟨_,Try.underlying24⟩
theorem el_24:elemOfT ag 24=72:=by kernel_rfl
theorem ze_24:zel ag 24=.agg [(.lit (.int .i64 0)),(.lit (.int .i64 0)),(.lit (.bool false))]:=by kernel_rfl
theorem ez_24:ElemZero ag 24 (.agg [(.lit (.int .i64 0)),(.lit (.int .i64 0)),(.lit (.bool false))]):=ElemZero.mk' Try.underlying24 (ZeroIs.agg i_72 rfl rfl rfl)
theorem i_26:Try.prog.info? 26=some Try.t26:=by kernel_rfl
theorem ty_26:TyIs ag 26 true 3:=bg Try.underlying26 i_26 rfl rfl
theorem zc_26:zcv ag 8 26=.node [.pv (.lit (.int .i64 0)),.pv (.lit (.int .i64 0)),.pv (.sl true 3 [])]:=by kernel_rfl
theorem z_26:ZeroIs ag 26 (.node [.pv (.lit (.int .i64 0)),.pv (.lit (.int .i64 0)),.pv (.sl true 3 [])]):=ZeroIs.agg i_26 rfl rfl rfl
theorem fo_26_0:fOff ag 26 0=0:=by kernel_rfl
theorem fi_26_0:FieldIs ag 26 0 0:=bB Try.underlying26 rfl rfl i_3 (by decide)
theorem ft_26_0:fldT ag 26 0=3:=by kernel_rfl
theorem fo_26_1:fOff ag 26 1=1:=by kernel_rfl
theorem fi_26_1:FieldIs ag 26 1 1:=bB Try.underlying26 rfl rfl i_3 (by decide)
theorem ft_26_1:fldT ag 26 1=3:=by kernel_rfl
theorem fo_26_2:fOff ag 26 2=2:=by kernel_rfl
theorem fi_26_2:FieldIs ag 26 2 2:=bB Try.underlying26 rfl rfl i_24 (by decide)
theorem ft_26_2:fldT ag 26 2=24:=by kernel_rfl
theorem lay_26:LayoutOk ag 26 [.pv (.lit (.int .i64 0)),.pv (.lit (.int .i64 0)),.pv (.sl true 3 [])]:=.inr ⟨_,Try.underlying26,rfl,fun k f hk=>by match k,hk with | 0,hk=>(obtain rfl:=Option.some.inj hk; exact⟨rfl,_,i_3,rfl⟩) | 1,hk=>(obtain rfl:=Option.some.inj hk; exact⟨rfl,_,i_3,rfl⟩) | 2,hk=>(obtain rfl:=Option.some.inj hk; exact⟨rfl,_,i_24,rfl⟩) | k+3,hk=>simp at hk⟩
theorem i_33:Try.prog.info? 33=some Try.t33:=by kernel_rfl
theorem ty_33:TyIs ag 33 false 1:=bg Try.underlying33 i_33 rfl rfl
theorem zc_33:zcv ag 8 33=.pv (.sl true 1 []):=by kernel_rfl
theorem z_33:ZeroIs ag 33 (.pv (.sl true 1 [])):=bm i_33 rfl rfl rfl rfl rfl
theorem es_33:eSize ag 33=1:=by kernel_rfl
theorem eb_33:eBytes ag 33=8:=by kernel_rfl
theorem sl_33:SlIs ag 33 1 8:=SlIs.mk' Try.underlying33 i_3 rfl rfl rfl rfl (by decide)
theorem is_33:IsSl ag 33:=⟨_,Try.underlying33⟩
theorem el_33:elemOfT ag 33=3:=by kernel_rfl
theorem ze_33:zel ag 33=(.lit (.int .i64 0)):=by kernel_rfl
theorem ez_33:ElemZero ag 33 ((.lit (.int .i64 0))):=ElemZero.mk' Try.underlying33 (bm i_3 rfl rfl rfl rfl rfl)
theorem i_34:Try.prog.info? 34=some Try.t34:=by kernel_rfl
theorem ty_34:TyIs ag 34 false 1:=bg Try.underlying34 i_34 rfl rfl
theorem zc_34:zcv ag 8 34=.pv (.sl true 3 []):=by kernel_rfl
theorem z_34:ZeroIs ag 34 (.pv (.sl true 3 [])):=bm i_34 rfl rfl rfl rfl rfl
theorem es_34:eSize ag 34=3:=by kernel_rfl
theorem eb_34:eBytes ag 34=40:=by kernel_rfl
theorem sl_34:SlIs ag 34 3 40:=SlIs.mk' Try.underlying34 i_26 rfl rfl rfl rfl (by decide)
theorem is_34:IsSl ag 34:=⟨_,Try.underlying34⟩
theorem el_34:elemOfT ag 34=26:=by kernel_rfl
theorem ze_34:zel ag 34=.agg [(.lit (.int .i64 0)),(.lit (.int .i64 0)),(.sl true 3 [])]:=by kernel_rfl
theorem ez_34:ElemZero ag 34 (.agg [(.lit (.int .i64 0)),(.lit (.int .i64 0)),(.sl true 3 [])]):=ElemZero.mk' Try.underlying34 (ZeroIs.agg i_26 rfl rfl rfl)
theorem i_36:Try.prog.info? 36=some Try.t36:=by kernel_rfl
theorem ty_36:TyIs ag 36 true 2:=bg Try.underlying36 i_36 rfl rfl
theorem zc_36:zcv ag 8 36=.node [.pv (.sl true 1 []),.pv (.sl true 3 [])]:=by kernel_rfl
theorem z_36:ZeroIs ag 36 (.node [.pv (.sl true 1 []),.pv (.sl true 3 [])]):=ZeroIs.agg i_36 rfl rfl rfl
theorem fo_36_0:fOff ag 36 0=0:=by kernel_rfl
theorem fi_36_0:FieldIs ag 36 0 0:=bB Try.underlying36 rfl rfl i_33 (by decide)
theorem ft_36_0:fldT ag 36 0=33:=by kernel_rfl
theorem fo_36_1:fOff ag 36 1=1:=by kernel_rfl
theorem fi_36_1:FieldIs ag 36 1 1:=bB Try.underlying36 rfl rfl i_34 (by decide)
theorem ft_36_1:fldT ag 36 1=34:=by kernel_rfl
theorem lay_36:LayoutOk ag 36 [.pv (.sl true 1 []),.pv (.sl true 3 [])]:=.inr ⟨_,Try.underlying36,rfl,fun k f hk=>by match k,hk with | 0,hk=>(obtain rfl:=Option.some.inj hk; exact⟨rfl,_,i_33,rfl⟩) | 1,hk=>(obtain rfl:=Option.some.inj hk; exact⟨rfl,_,i_34,rfl⟩) | k+2,hk=>simp at hk⟩
theorem i_62:Try.prog.info? 62=some Try.t62:=by kernel_rfl
theorem ty_62:TyIs ag 62 false 1:=bg Try.underlying62 i_62 rfl rfl
theorem i_63:Try.prog.info? 63=some Try.t63:=by kernel_rfl
theorem ty_63:TyIs ag 63 false 1:=bg Try.underlying63 i_63 rfl rfl
theorem zc_63:zcv ag 8 63=.pv (.lit (.int .u64 0)):=by kernel_rfl
theorem z_63:ZeroIs ag 63 (.pv (.lit (.int .u64 0))):=bm i_63 rfl rfl rfl rfl rfl
theorem i_65:Try.prog.info? 65=some Try.t65:=by kernel_rfl
theorem ty_65:TyIs ag 65 true 3:=bg Try.underlying65 i_65 rfl rfl
theorem zc_65:zcv ag 8 65=.node [.pv (.sl true 1 []),.pv (.lit (.int .i64 0)),.pv (.lit (.int .u64 0))]:=by kernel_rfl
theorem z_65:ZeroIs ag 65 (.node [.pv (.sl true 1 []),.pv (.lit (.int .i64 0)),.pv (.lit (.int .u64 0))]):=ZeroIs.agg i_65 rfl rfl rfl
theorem fo_65_0:fOff ag 65 0=0:=by kernel_rfl
theorem fi_65_0:FieldIs ag 65 0 0:=bB Try.underlying65 rfl rfl i_22 (by decide)
theorem ft_65_0:fldT ag 65 0=22:=by kernel_rfl
theorem fo_65_1:fOff ag 65 1=1:=by kernel_rfl
theorem fi_65_1:FieldIs ag 65 1 1:=bB Try.underlying65 rfl rfl i_3 (by decide)
theorem ft_65_1:fldT ag 65 1=3:=by kernel_rfl
theorem fo_65_2:fOff ag 65 2=2:=by kernel_rfl
theorem fi_65_2:FieldIs ag 65 2 2:=bB Try.underlying65 rfl rfl i_63 (by decide)
theorem ft_65_2:fldT ag 65 2=63:=by kernel_rfl
theorem lay_65:LayoutOk ag 65 [.pv (.sl true 1 []),.pv (.lit (.int .i64 0)),.pv (.lit (.int .u64 0))]:=.inr ⟨_,Try.underlying65,rfl,fun k f hk=>by match k,hk with | 0,hk=>(obtain rfl:=Option.some.inj hk; exact⟨rfl,_,i_22,rfl⟩) | 1,hk=>(obtain rfl:=Option.some.inj hk; exact⟨rfl,_,i_3,rfl⟩) | 2,hk=>(obtain rfl:=Option.some.inj hk; exact⟨rfl,_,i_63,rfl⟩) | k+3,hk=>simp at hk⟩
theorem i_68:Try.prog.info? 68=some Try.t68:=by kernel_rfl
theorem ty_68:TyIs ag 68 false 1:=bg Try.underlying68 i_68 rfl rfl
theorem zc_68:zcv ag 8 68=.pv (.lit .nilFunc):=by kernel_rfl
theorem z_68:ZeroIs ag 68 (.pv (.lit .nilFunc)):=bm i_68 rfl rfl rfl rfl rfl
theorem i_69:Try.prog.info? 69=some Try.t69:=by kernel_rfl
theorem ty_69:TyIs ag 69 false 1:=bg Try.underlying69 i_69 rfl rfl
theorem zc_69:zcv ag 8 69=.pv (.lit .nilFunc):=by kernel_rfl
theorem z_69:ZeroIs ag 69 (.pv (.lit .nilFunc)):=bm i_69 rfl rfl rfl rfl rfl
theorem ty_72:TyIs ag 72 true 3:=bg Try.underlying72 i_72 rfl rfl
theorem zc_72:zcv ag 8 72=.node [.pv (.lit (.int .i64 0)),.pv (.lit (.int .i64 0)),.pv (.lit (.bool false))]:=by kernel_rfl
theorem z_72:ZeroIs ag 72 (.node [.pv (.lit (.int .i64 0)),.pv (.lit (.int .i64 0)),.pv (.lit (.bool false))]):=ZeroIs.agg i_72 rfl rfl rfl
theorem fo_72_0:fOff ag 72 0=0:=by kernel_rfl
theorem fi_72_0:FieldIs ag 72 0 0:=bB Try.underlying72 rfl rfl i_3 (by decide)
theorem ft_72_0:fldT ag 72 0=3:=by kernel_rfl
theorem fo_72_1:fOff ag 72 1=1:=by kernel_rfl
theorem fi_72_1:FieldIs ag 72 1 1:=bB Try.underlying72 rfl rfl i_3 (by decide)
theorem ft_72_1:fldT ag 72 1=3:=by kernel_rfl
theorem fo_72_2:fOff ag 72 2=2:=by kernel_rfl
theorem fi_72_2:FieldIs ag 72 2 2:=bB Try.underlying72 rfl rfl i_4 (by decide)
theorem ft_72_2:fldT ag 72 2=4:=by kernel_rfl
theorem eqs_72:EqS ag 72 [some (.int .i64),some (.int .i64),some .bool]:=(by kernel_rfl:eqSB ag 72 [some (.int .i64),some (.int .i64),some .bool]=true)
theorem lay_72:LayoutOk ag 72 [.pv (.lit (.int .i64 0)),.pv (.lit (.int .i64 0)),.pv (.lit (.bool false))]:=.inr ⟨_,Try.underlying72,rfl,fun k f hk=>by match k,hk with | 0,hk=>(obtain rfl:=Option.some.inj hk; exact⟨rfl,_,i_3,rfl⟩) | 1,hk=>(obtain rfl:=Option.some.inj hk; exact⟨rfl,_,i_3,rfl⟩) | 2,hk=>(obtain rfl:=Option.some.inj hk; exact⟨rfl,_,i_4,rfl⟩) | k+3,hk=>simp at hk⟩
theorem i_74:Try.prog.info? 74=some Try.t74:=by kernel_rfl
theorem ty_74:TyIs ag 74 false 1:=bg Try.underlying74 i_74 rfl rfl
theorem zc_74:zcv ag 8 74=.pv (.sl true 4 []):=by kernel_rfl
theorem z_74:ZeroIs ag 74 (.pv (.sl true 4 [])):=bm i_74 rfl rfl rfl rfl rfl
theorem i_78:Try.prog.info? 78=some Try.t78:=by kernel_rfl
theorem es_74:eSize ag 74=4:=by kernel_rfl
theorem eb_74:eBytes ag 74=64:=by kernel_rfl
theorem sl_74:SlIs ag 74 4 64:=SlIs.mk' Try.underlying74 i_78 rfl rfl rfl rfl (by decide)
theorem is_74:IsSl ag 74:=⟨_,Try.underlying74⟩
theorem el_74:elemOfT ag 74=78:=by kernel_rfl
theorem ze_74:zel ag 74=.agg [.agg [(.lit (.int .i64 0)),(.lit (.int .i64 0)),(.sl true 3 [])],(.sl true 1 [])]:=by kernel_rfl
theorem ez_74:ElemZero ag 74 (.agg [.agg [(.lit (.int .i64 0)),(.lit (.int .i64 0)),(.sl true 3 [])],(.sl true 1 [])]):=ElemZero.mk' Try.underlying74 (ZeroIs.agg i_78 rfl rfl rfl)
theorem ty_78:TyIs ag 78 true 4:=bg Try.underlying78 i_78 rfl rfl
theorem zc_78:zcv ag 8 78=.node [.node [.pv (.lit (.int .i64 0)),.pv (.lit (.int .i64 0)),.pv (.sl true 3 [])],.pv (.sl true 1 [])]:=by kernel_rfl
theorem z_78:ZeroIs ag 78 (.node [.node [.pv (.lit (.int .i64 0)),.pv (.lit (.int .i64 0)),.pv (.sl true 3 [])],.pv (.sl true 1 [])]):=ZeroIs.agg i_78 rfl rfl rfl
theorem fo_78_0:fOff ag 78 0=0:=by kernel_rfl
theorem fi_78_0:FieldIs ag 78 0 0:=bB Try.underlying78 rfl rfl i_26 (by decide)
theorem ft_78_0:fldT ag 78 0=26:=by kernel_rfl
theorem fo_78_1:fOff ag 78 1=3:=by kernel_rfl
theorem fi_78_1:FieldIs ag 78 1 3:=bB Try.underlying78 rfl rfl i_33 (by decide)
theorem ft_78_1:fldT ag 78 1=33:=by kernel_rfl
theorem lay_78:LayoutOk ag 78 [.node [.pv (.lit (.int .i64 0)),.pv (.lit (.int .i64 0)),.pv (.sl true 3 [])],.pv (.sl true 1 [])]:=.inr ⟨_,Try.underlying78,rfl,fun k f hk=>by match k,hk with | 0,hk=>(obtain rfl:=Option.some.inj hk; exact⟨rfl,_,i_26,rfl⟩) | 1,hk=>(obtain rfl:=Option.some.inj hk; exact⟨rfl,_,i_33,rfl⟩) | k+2,hk=>simp at hk⟩
theorem i_79:Try.prog.info? 79=some Try.t79:=by kernel_rfl
theorem ty_79:TyIs ag 79 false 1:=bg Try.underlying79 i_79 rfl rfl
theorem zc_79:zcv ag 8 79=.pv (.sl true 1 []):=by kernel_rfl
theorem z_79:ZeroIs ag 79 (.pv (.sl true 1 [])):=bm i_79 rfl rfl rfl rfl rfl
theorem es_79:eSize ag 79=1:=by kernel_rfl
theorem eb_79:eBytes ag 79=24:=by kernel_rfl
theorem sl_79:SlIs ag 79 1 24:=SlIs.mk' Try.underlying79 i_33 rfl rfl rfl rfl (by decide)
theorem is_79:IsSl ag 79:=⟨_,Try.underlying79⟩
theorem el_79:elemOfT ag 79=33:=by kernel_rfl
theorem ze_79:zel ag 79=(.sl true 1 []):=by kernel_rfl
theorem ez_79:ElemZero ag 79 ((.sl true 1 [])):=ElemZero.mk' Try.underlying79 (bm i_33 rfl rfl rfl rfl rfl)
theorem i_86:Try.prog.info? 86=some Try.t86:=by kernel_rfl
theorem ty_86:TyIs ag 86 false 1:=bg Try.underlying86 i_86 rfl rfl
theorem zc_86:zcv ag 8 86=.pv (.lit .nilFunc):=by kernel_rfl
theorem z_86:ZeroIs ag 86 (.pv (.lit .nilFunc)):=bm i_86 rfl rfl rfl rfl rfl
theorem i_93:Try.prog.info? 93=some Try.t93:=by kernel_rfl
theorem ty_93:TyIs ag 93 true 4:=bg Try.underlying93 i_93 rfl rfl
theorem zc_93:zcv ag 8 93=.node [.pv (.lit (.int .i64 0)),.pv (.lit (.int .i64 0)),.pv (.lit (.int .i64 0)),.pv (.lit (.int .i64 0))]:=by kernel_rfl
theorem z_93:ZeroIs ag 93 (.node [.pv (.lit (.int .i64 0)),.pv (.lit (.int .i64 0)),.pv (.lit (.int .i64 0)),.pv (.lit (.int .i64 0))]):=ZeroIs.agg i_93 rfl rfl rfl
theorem ar_93:ArrIs ag 93 4 1:=⟨3,Try.underlying93,by rw[i_3]; rfl⟩
theorem lay_93:LayoutOk ag 93 [.pv (.lit (.int .i64 0)),.pv (.lit (.int .i64 0)),.pv (.lit (.int .i64 0)),.pv (.lit (.int .i64 0))]:=.inl ⟨4,3,_,Try.underlying93,i_3,rfl,fun k hk=>by match k,hk with | 0,_=>exact⟨rfl,rfl⟩ | 1,_=>exact⟨rfl,rfl⟩ | 2,_=>exact⟨rfl,rfl⟩ | 3,_=>exact⟨rfl,rfl⟩ | k+4,hk=>simp at hk; omega⟩
theorem i_99:Try.prog.info? 99=some Try.t99:=by kernel_rfl
theorem ty_99:TyIs ag 99 false 1:=bg Try.underlying99 i_99 rfl rfl
theorem zc_99:zcv ag 8 99=.pv (.lit .nilFunc):=by kernel_rfl
theorem z_99:ZeroIs ag 99 (.pv (.lit .nilFunc)):=bm i_99 rfl rfl rfl rfl rfl
theorem i_107:Try.prog.info? 107=some Try.t107:=by kernel_rfl
theorem ty_107:TyIs ag 107 false 1:=bg Try.underlying107 i_107 rfl rfl
theorem zc_107:zcv ag 8 107=.pv (.lit .nilFunc):=by kernel_rfl
theorem z_107:ZeroIs ag 107 (.pv (.lit .nilFunc)):=bm i_107 rfl rfl rfl rfl rfl
theorem i_118:Try.prog.info? 118=some Try.t118:=by kernel_rfl
theorem ty_118:TyIs ag 118 false 1:=bg Try.underlying118 i_118 rfl rfl
theorem zc_118:zcv ag 8 118=.pv (.lit (.int .u64 0)):=by kernel_rfl
theorem z_118:ZeroIs ag 118 (.pv (.lit (.int .u64 0))):=bm i_118 rfl rfl rfl rfl rfl
theorem i_129:Try.prog.info? 129=some Try.t129:=by kernel_rfl
theorem ty_129:TyIs ag 129 false 1:=bg Try.underlying129 i_129 rfl rfl
theorem zc_129:zcv ag 8 129=.pv (.lit (.int .u32 0)):=by kernel_rfl
theorem z_129:ZeroIs ag 129 (.pv (.lit (.int .u32 0))):=bm i_129 rfl rfl rfl rfl rfl
theorem isIntB_i:isIntB (Try.prog.underlying 3)=true:=by kernel_rfl
theorem uk_3:Try.prog.underlying 3=some (.int .i64):=Try.underlying3
theorem uk_5:Try.prog.underlying 5=some (.int .u8):=Try.underlying5
theorem uk_63:Try.prog.underlying 63=some (.int .u64):=Try.underlying63
theorem uk_118:Try.prog.underlying 118=some (.int .u64):=Try.underlying118
theorem uk_129:Try.prog.underlying 129=some (.int .u32):=Try.underlying129
attribute [push_cast] ty_3 zc_3 z_3 ty_22 zc_22 z_22 es_22 eb_22 sl_22 by_22 is_22 el_22 ze_22 ez_22 ty_5 zc_5 z_5 ty_63 zc_63 z_63 ty_65 zc_65 z_65 fo_65_0 fi_65_0 ft_65_0 fo_65_1 fi_65_1 ft_65_1 fo_65_2 fi_65_2 ft_65_2 lay_65 uk_3 uk_5 uk_63 mixedT ty_62 ty_33 zc_33 z_33 es_33 eb_33 sl_33 is_33 el_33 ze_33 ez_33 ty_24 zc_24 z_24 es_24 eb_24 sl_24 is_24 el_24 ze_24 ez_24 ty_26 zc_26 z_26 fo_26_0 fi_26_0 ft_26_0 fo_26_1 fi_26_1 ft_26_1 fo_26_2 fi_26_2 ft_26_2 lay_26 ty_72 zc_72 z_72 fo_72_0 fi_72_0 ft_72_0 fo_72_1 fi_72_1 ft_72_1 fo_72_2 fi_72_2 ft_72_2 lay_72 ty_34 zc_34 z_34 es_34 eb_34 sl_34 is_34 el_34 ze_34 ez_34 ty_36 zc_36 z_36 fo_36_0 fi_36_0 ft_36_0 fo_36_1 fi_36_1 ft_36_1 lay_36 ty_4 zc_4 z_4 u_4 ty_68 zc_68 z_68 ty_86 zc_86 z_86 ty_69 zc_69 z_69 eqs_72 ty_78 zc_78 z_78 fo_78_0 fi_78_0 ft_78_0 fo_78_1 fi_78_1 ft_78_1 lay_78 ty_74 zc_74 z_74 es_74 eb_74 sl_74 is_74 el_74 ze_74 ez_74 ty_107 zc_107 z_107 ty_118 zc_118 z_118 uk_118 isIntB_i ty_99 zc_99 z_99 ty_79 zc_79 z_79 es_79 eb_79 sl_79 is_79 el_79 ze_79 ez_79 ty_129 zc_129 z_129 uk_129 ty_9 zc_9 z_9 u_9 ty_93 zc_93 z_93 ar_93 lay_93
end Go.Proofs.Ytjpljobgioglmaa
