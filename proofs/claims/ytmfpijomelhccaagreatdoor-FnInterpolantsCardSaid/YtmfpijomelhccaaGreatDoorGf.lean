/- Lemmas of the proof; each says what it shows. -/
import Derived.Test.YtmfpijomelhccaaGreatDoorAvCl
import Derived.Test.YtmfpijomelhccaaGreatDoorChecked
import Derived.KernelRfl
set_option linter.unusedSimpArgs false
set_option linter.unusedVariables false
set_option linter.defProp false
set_option maxRecDepth 4000
namespace Go.Proofs.YtmfpijomelhccaaGreatDoor
open Go.Av
open FieldIs renaming mk'→bq
open Tryz renaming prog→ag
open TyIs renaming mk'→a8
open ZeroIs renaming one→bh
theorem mixed:Tryz.prog.follows .mixedOrders=true:=by kernel_rfl
theorem mixedT:(Tryz.prog.follows .mixedOrders=true)=True:=eq_true mixed
theorem i_2:Tryz.prog.info? 2=some Tryz.t2:=by kernel_rfl
theorem ty_2:TyIs ag 2 false 1:=a8 Tryz.underlying2 i_2 rfl rfl
theorem zc_2:zcv ag 8 2=.pv (.lit (.int .i64 0)):=by kernel_rfl
theorem z_2:ZeroIs ag 2 (.pv (.lit (.int .i64 0))):=bh i_2 rfl rfl rfl rfl rfl
theorem i_3:Tryz.prog.info? 3=some Tryz.t3:=by kernel_rfl
theorem ty_3:TyIs ag 3 false 1:=a8 Tryz.underlying3 i_3 rfl rfl
theorem zc_3:zcv ag 8 3=.pv (.lit (.int .i64 0)):=by kernel_rfl
theorem z_3:ZeroIs ag 3 (.pv (.lit (.int .i64 0))):=bh i_3 rfl rfl rfl rfl rfl
theorem i_4:Tryz.prog.info? 4=some Tryz.t4:=by kernel_rfl
theorem ty_4:TyIs ag 4 false 1:=a8 Tryz.underlying4 i_4 rfl rfl
theorem zc_4:zcv ag 8 4=.pv (.lit (.bool false)):=by kernel_rfl
theorem z_4:ZeroIs ag 4 (.pv (.lit (.bool false))):=bh i_4 rfl rfl rfl rfl rfl
theorem u_4:(Tryz.prog.underlying 4=some .bool)=True:=eq_true Tryz.underlying4
theorem i_5:Tryz.prog.info? 5=some Tryz.t5:=by kernel_rfl
theorem ty_5:TyIs ag 5 false 1:=a8 Tryz.underlying5 i_5 rfl rfl
theorem zc_5:zcv ag 8 5=.pv (.lit (.int .u8 0)):=by kernel_rfl
theorem z_5:ZeroIs ag 5 (.pv (.lit (.int .u8 0))):=bh i_5 rfl rfl rfl rfl rfl
theorem i_9:Tryz.prog.info? 9=some Tryz.t9:=by kernel_rfl
theorem ty_9:TyIs ag 9 false 1:=a8 Tryz.underlying9 i_9 rfl rfl
theorem zc_9:zcv ag 8 9=.pv (.lit (.string ⟨#[]⟩)):=by kernel_rfl
theorem z_9:ZeroIs ag 9 (.pv (.lit (.string ⟨#[]⟩))):=bh i_9 rfl rfl rfl rfl rfl
theorem u_9:(Tryz.prog.underlying 9=some .string)=True:=eq_true Tryz.underlying9
theorem i_22:Tryz.prog.info? 22=some Tryz.t22:=by kernel_rfl
theorem ty_22:TyIs ag 22 false 1:=a8 Tryz.underlying22 i_22 rfl rfl
theorem zc_22:zcv ag 8 22=.pv (.sl true 1 []):=by kernel_rfl
theorem z_22:ZeroIs ag 22 (.pv (.sl true 1 [])):=bh i_22 rfl rfl rfl rfl rfl
theorem i_55:Tryz.prog.info? 55=some Tryz.t55:=by kernel_rfl
theorem es_22:eSize ag 22=1:=by kernel_rfl
theorem eb_22:eBytes ag 22=24:=by kernel_rfl
theorem sl_22:SlIs ag 22 1 24:=SlIs.mk' Tryz.underlying22 i_55 rfl rfl rfl rfl (by decide)
theorem is_22:IsSl ag 22:=⟨_,Tryz.underlying22⟩
theorem el_22:elemOfT ag 22=55:=by kernel_rfl
theorem ze_22:zel ag 22=(.sl true 1 []):=by kernel_rfl
theorem ez_22:ElemZero ag 22 ((.sl true 1 [])):=ElemZero.mk' Tryz.underlying22 (bh i_55 rfl rfl rfl rfl rfl)
theorem i_26:Tryz.prog.info? 26=some Tryz.t26:=by kernel_rfl
theorem ty_26:TyIs ag 26 false 1:=a8 Tryz.underlying26 i_26 rfl rfl
theorem zc_26:zcv ag 8 26=.pv (.sl true 5 []):=by kernel_rfl
theorem z_26:ZeroIs ag 26 (.pv (.sl true 5 [])):=bh i_26 rfl rfl rfl rfl rfl
theorem i_42:Tryz.prog.info? 42=some Tryz.t42:=by kernel_rfl
theorem es_26:eSize ag 26=5:=by kernel_rfl
theorem eb_26:eBytes ag 26=88:=by kernel_rfl
theorem sl_26:SlIs ag 26 5 88:=SlIs.mk' Tryz.underlying26 i_42 rfl rfl rfl rfl (by decide)
theorem is_26:IsSl ag 26:=⟨_,Tryz.underlying26⟩
theorem el_26:elemOfT ag 26=42:=by kernel_rfl
theorem ze_26:zel ag 26=.agg [(.lit (.int .i64 0)),.agg [(.lit (.string ⟨#[]⟩)),(.sl true 2 [])],(.lit (.string ⟨#[]⟩)),(.sl true 5 [])]:=by kernel_rfl
theorem ez_26:ElemZero ag 26 (.agg [(.lit (.int .i64 0)),.agg [(.lit (.string ⟨#[]⟩)),(.sl true 2 [])],(.lit (.string ⟨#[]⟩)),(.sl true 5 [])]):=ElemZero.mk' Tryz.underlying26 (ZeroIs.agg i_42 rfl rfl rfl)
theorem i_30:Tryz.prog.info? 30=some Tryz.t30:=by kernel_rfl
theorem ty_30:TyIs ag 30 false 1:=a8 Tryz.underlying30 i_30 rfl rfl
theorem zc_30:zcv ag 8 30=.pv (.sl true 4 []):=by kernel_rfl
theorem z_30:ZeroIs ag 30 (.pv (.sl true 4 [])):=bh i_30 rfl rfl rfl rfl rfl
theorem i_64:Tryz.prog.info? 64=some Tryz.t64:=by kernel_rfl
theorem es_30:eSize ag 30=4:=by kernel_rfl
theorem eb_30:eBytes ag 30=48:=by kernel_rfl
theorem sl_30:SlIs ag 30 4 48:=SlIs.mk' Tryz.underlying30 i_64 rfl rfl rfl rfl (by decide)
theorem is_30:IsSl ag 30:=⟨_,Tryz.underlying30⟩
theorem el_30:elemOfT ag 30=64:=by kernel_rfl
theorem ze_30:zel ag 30=.agg [(.lit (.int .i64 0)),(.lit (.int .i64 0)),(.lit (.int .i64 0)),(.sl true 1 [])]:=by kernel_rfl
theorem ez_30:ElemZero ag 30 (.agg [(.lit (.int .i64 0)),(.lit (.int .i64 0)),(.lit (.int .i64 0)),(.sl true 1 [])]):=ElemZero.mk' Tryz.underlying30 (ZeroIs.agg i_64 rfl rfl rfl)
theorem i_38:Tryz.prog.info? 38=some Tryz.t38:=by kernel_rfl
theorem ty_38:TyIs ag 38 false 1:=a8 Tryz.underlying38 i_38 rfl rfl
theorem zc_38:zcv ag 8 38=.pv (.sl true 2 []):=by kernel_rfl
theorem z_38:ZeroIs ag 38 (.pv (.sl true 2 [])):=bh i_38 rfl rfl rfl rfl rfl
theorem i_40:Tryz.prog.info? 40=some Tryz.t40:=by kernel_rfl
theorem es_38:eSize ag 38=2:=by kernel_rfl
theorem eb_38:eBytes ag 38=40:=by kernel_rfl
theorem sl_38:SlIs ag 38 2 40:=SlIs.mk' Tryz.underlying38 i_40 rfl rfl rfl rfl (by decide)
theorem is_38:IsSl ag 38:=⟨_,Tryz.underlying38⟩
theorem el_38:elemOfT ag 38=40:=by kernel_rfl
theorem ze_38:zel ag 38=.agg [(.lit (.string ⟨#[]⟩)),(.sl true 2 [])]:=by kernel_rfl
theorem ez_38:ElemZero ag 38 (.agg [(.lit (.string ⟨#[]⟩)),(.sl true 2 [])]):=ElemZero.mk' Tryz.underlying38 (ZeroIs.agg i_40 rfl rfl rfl)
theorem ty_40:TyIs ag 40 true 2:=a8 Tryz.underlying40 i_40 rfl rfl
theorem zc_40:zcv ag 8 40=.node [.pv (.lit (.string ⟨#[]⟩)),.pv (.sl true 2 [])]:=by kernel_rfl
theorem z_40:ZeroIs ag 40 (.node [.pv (.lit (.string ⟨#[]⟩)),.pv (.sl true 2 [])]):=ZeroIs.agg i_40 rfl rfl rfl
theorem fo_40_0:fOff ag 40 0=0:=by kernel_rfl
theorem fi_40_0:FieldIs ag 40 0 0:=bq Tryz.underlying40 rfl rfl i_9 (by decide)
theorem ft_40_0:fldT ag 40 0=9:=by kernel_rfl
theorem fo_40_1:fOff ag 40 1=1:=by kernel_rfl
theorem fi_40_1:FieldIs ag 40 1 1:=bq Tryz.underlying40 rfl rfl i_38 (by decide)
theorem ft_40_1:fldT ag 40 1=38:=by kernel_rfl
theorem lay_40:LayoutOk ag 40 [.pv (.lit (.string ⟨#[]⟩)),.pv (.sl true 2 [])]:=.inr ⟨_,Tryz.underlying40,rfl,fun k f hk=>by match k,hk with | 0,hk=>(obtain rfl:=Option.some.inj hk; exact⟨rfl,_,i_9,rfl⟩) | 1,hk=>(obtain rfl:=Option.some.inj hk; exact⟨rfl,_,i_38,rfl⟩) | k+2,hk=>simp at hk⟩
theorem ty_42:TyIs ag 42 true 5:=a8 Tryz.underlying42 i_42 rfl rfl
theorem zc_42:zcv ag 8 42=.node [.pv (.lit (.int .i64 0)),.node [.pv (.lit (.string ⟨#[]⟩)),.pv (.sl true 2 [])],.pv (.lit (.string ⟨#[]⟩)),.pv (.sl true 5 [])]:=by kernel_rfl
theorem z_42:ZeroIs ag 42 (.node [.pv (.lit (.int .i64 0)),.node [.pv (.lit (.string ⟨#[]⟩)),.pv (.sl true 2 [])],.pv (.lit (.string ⟨#[]⟩)),.pv (.sl true 5 [])]):=ZeroIs.agg i_42 rfl rfl rfl
theorem fo_42_0:fOff ag 42 0=0:=by kernel_rfl
theorem fi_42_0:FieldIs ag 42 0 0:=bq Tryz.underlying42 rfl rfl i_3 (by decide)
theorem ft_42_0:fldT ag 42 0=3:=by kernel_rfl
theorem fo_42_1:fOff ag 42 1=1:=by kernel_rfl
theorem fi_42_1:FieldIs ag 42 1 1:=bq Tryz.underlying42 rfl rfl i_40 (by decide)
theorem ft_42_1:fldT ag 42 1=40:=by kernel_rfl
theorem fo_42_2:fOff ag 42 2=3:=by kernel_rfl
theorem fi_42_2:FieldIs ag 42 2 3:=bq Tryz.underlying42 rfl rfl i_9 (by decide)
theorem ft_42_2:fldT ag 42 2=9:=by kernel_rfl
theorem fo_42_3:fOff ag 42 3=4:=by kernel_rfl
theorem fi_42_3:FieldIs ag 42 3 4:=bq Tryz.underlying42 rfl rfl i_26 (by decide)
theorem ft_42_3:fldT ag 42 3=26:=by kernel_rfl
theorem lay_42:LayoutOk ag 42 [.pv (.lit (.int .i64 0)),.node [.pv (.lit (.string ⟨#[]⟩)),.pv (.sl true 2 [])],.pv (.lit (.string ⟨#[]⟩)),.pv (.sl true 5 [])]:=.inr ⟨_,Tryz.underlying42,rfl,fun k f hk=>by match k,hk with | 0,hk=>(obtain rfl:=Option.some.inj hk; exact⟨rfl,_,i_3,rfl⟩) | 1,hk=>(obtain rfl:=Option.some.inj hk; exact⟨rfl,_,i_40,rfl⟩) | 2,hk=>(obtain rfl:=Option.some.inj hk; exact⟨rfl,_,i_9,rfl⟩) | 3,hk=>(obtain rfl:=Option.some.inj hk; exact⟨rfl,_,i_26,rfl⟩) | k+4,hk=>simp at hk⟩
theorem i_45:Tryz.prog.info? 45=some Tryz.t45:=by kernel_rfl
theorem ty_45:TyIs ag 45 false 1:=a8 Tryz.underlying45 i_45 rfl rfl
theorem zc_45:zcv ag 8 45=.pv (.lit .nilFunc):=by kernel_rfl
theorem z_45:ZeroIs ag 45 (.pv (.lit .nilFunc)):=bh i_45 rfl rfl rfl rfl rfl
theorem i_47:Tryz.prog.info? 47=some Tryz.t47:=by kernel_rfl
theorem ty_47:TyIs ag 47 false 1:=a8 Tryz.underlying47 i_47 rfl rfl
theorem zc_47:zcv ag 8 47=.pv (.sl true 1 []):=by kernel_rfl
theorem z_47:ZeroIs ag 47 (.pv (.sl true 1 [])):=bh i_47 rfl rfl rfl rfl rfl
theorem es_47:eSize ag 47=1:=by kernel_rfl
theorem eb_47:eBytes ag 47=1:=by kernel_rfl
theorem sl_47:SlIs ag 47 1 1:=SlIs.mk' Tryz.underlying47 i_5 rfl rfl rfl rfl (by decide)
theorem by_47:IsBytes ag 47:=⟨_,Tryz.underlying47,Tryz.underlying5⟩
theorem is_47:IsSl ag 47:=⟨_,Tryz.underlying47⟩
theorem el_47:elemOfT ag 47=5:=by kernel_rfl
theorem ze_47:zel ag 47=(.lit (.int .u8 0)):=by kernel_rfl
theorem ez_47:ElemZero ag 47 ((.lit (.int .u8 0))):=ElemZero.mk' Tryz.underlying47 (bh i_5 rfl rfl rfl rfl rfl)
theorem ty_55:TyIs ag 55 false 1:=a8 Tryz.underlying55 i_55 rfl rfl
theorem zc_55:zcv ag 8 55=.pv (.sl true 1 []):=by kernel_rfl
theorem z_55:ZeroIs ag 55 (.pv (.sl true 1 [])):=bh i_55 rfl rfl rfl rfl rfl
theorem es_55:eSize ag 55=1:=by kernel_rfl
theorem eb_55:eBytes ag 55=8:=by kernel_rfl
theorem sl_55:SlIs ag 55 1 8:=SlIs.mk' Tryz.underlying55 i_3 rfl rfl rfl rfl (by decide)
theorem is_55:IsSl ag 55:=⟨_,Tryz.underlying55⟩
theorem el_55:elemOfT ag 55=3:=by kernel_rfl
theorem ze_55:zel ag 55=(.lit (.int .i64 0)):=by kernel_rfl
theorem ez_55:ElemZero ag 55 ((.lit (.int .i64 0))):=ElemZero.mk' Tryz.underlying55 (bh i_3 rfl rfl rfl rfl rfl)
theorem i_62:Tryz.prog.info? 62=some Tryz.t62:=by kernel_rfl
theorem ty_62:TyIs ag 62 false 1:=a8 Tryz.underlying62 i_62 rfl rfl
theorem zc_62:zcv ag 8 62=.pv (.lit .nilFunc):=by kernel_rfl
theorem z_62:ZeroIs ag 62 (.pv (.lit .nilFunc)):=bh i_62 rfl rfl rfl rfl rfl
theorem ty_64:TyIs ag 64 true 4:=a8 Tryz.underlying64 i_64 rfl rfl
theorem zc_64:zcv ag 8 64=.node [.pv (.lit (.int .i64 0)),.pv (.lit (.int .i64 0)),.pv (.lit (.int .i64 0)),.pv (.sl true 1 [])]:=by kernel_rfl
theorem z_64:ZeroIs ag 64 (.node [.pv (.lit (.int .i64 0)),.pv (.lit (.int .i64 0)),.pv (.lit (.int .i64 0)),.pv (.sl true 1 [])]):=ZeroIs.agg i_64 rfl rfl rfl
theorem fo_64_0:fOff ag 64 0=0:=by kernel_rfl
theorem fi_64_0:FieldIs ag 64 0 0:=bq Tryz.underlying64 rfl rfl i_3 (by decide)
theorem ft_64_0:fldT ag 64 0=3:=by kernel_rfl
theorem fo_64_1:fOff ag 64 1=1:=by kernel_rfl
theorem fi_64_1:FieldIs ag 64 1 1:=bq Tryz.underlying64 rfl rfl i_3 (by decide)
theorem ft_64_1:fldT ag 64 1=3:=by kernel_rfl
theorem fo_64_2:fOff ag 64 2=2:=by kernel_rfl
theorem fi_64_2:FieldIs ag 64 2 2:=bq Tryz.underlying64 rfl rfl i_3 (by decide)
theorem ft_64_2:fldT ag 64 2=3:=by kernel_rfl
theorem fo_64_3:fOff ag 64 3=3:=by kernel_rfl
theorem fi_64_3:FieldIs ag 64 3 3:=bq Tryz.underlying64 rfl rfl i_55 (by decide)
theorem ft_64_3:fldT ag 64 3=55:=by kernel_rfl
theorem lay_64:LayoutOk ag 64 [.pv (.lit (.int .i64 0)),.pv (.lit (.int .i64 0)),.pv (.lit (.int .i64 0)),.pv (.sl true 1 [])]:=.inr ⟨_,Tryz.underlying64,rfl,fun k f hk=>by match k,hk with | 0,hk=>(obtain rfl:=Option.some.inj hk; exact⟨rfl,_,i_3,rfl⟩) | 1,hk=>(obtain rfl:=Option.some.inj hk; exact⟨rfl,_,i_3,rfl⟩) | 2,hk=>(obtain rfl:=Option.some.inj hk; exact⟨rfl,_,i_3,rfl⟩) | 3,hk=>(obtain rfl:=Option.some.inj hk; exact⟨rfl,_,i_55,rfl⟩) | k+4,hk=>simp at hk⟩
theorem i_67:Tryz.prog.info? 67=some Tryz.t67:=by kernel_rfl
theorem ty_67:TyIs ag 67 false 1:=a8 Tryz.underlying67 i_67 rfl rfl
theorem i_70:Tryz.prog.info? 70=some Tryz.t70:=by kernel_rfl
theorem ty_70:TyIs ag 70 true 4:=a8 Tryz.underlying70 i_70 rfl rfl
theorem zc_70:zcv ag 8 70=.node [.pv (.sl true 1 []),.pv (.lit (.int .i64 0)),.pv (.lit (.int .i64 0)),.pv (.sl true 1 [])]:=by kernel_rfl
theorem z_70:ZeroIs ag 70 (.node [.pv (.sl true 1 []),.pv (.lit (.int .i64 0)),.pv (.lit (.int .i64 0)),.pv (.sl true 1 [])]):=ZeroIs.agg i_70 rfl rfl rfl
theorem fo_70_0:fOff ag 70 0=0:=by kernel_rfl
theorem fi_70_0:FieldIs ag 70 0 0:=bq Tryz.underlying70 rfl rfl i_22 (by decide)
theorem ft_70_0:fldT ag 70 0=22:=by kernel_rfl
theorem fo_70_1:fOff ag 70 1=1:=by kernel_rfl
theorem fi_70_1:FieldIs ag 70 1 1:=bq Tryz.underlying70 rfl rfl i_3 (by decide)
theorem ft_70_1:fldT ag 70 1=3:=by kernel_rfl
theorem fo_70_2:fOff ag 70 2=2:=by kernel_rfl
theorem fi_70_2:FieldIs ag 70 2 2:=bq Tryz.underlying70 rfl rfl i_3 (by decide)
theorem ft_70_2:fldT ag 70 2=3:=by kernel_rfl
theorem fo_70_3:fOff ag 70 3=3:=by kernel_rfl
theorem fi_70_3:FieldIs ag 70 3 3:=bq Tryz.underlying70 rfl rfl i_55 (by decide)
theorem ft_70_3:fldT ag 70 3=55:=by kernel_rfl
theorem lay_70:LayoutOk ag 70 [.pv (.sl true 1 []),.pv (.lit (.int .i64 0)),.pv (.lit (.int .i64 0)),.pv (.sl true 1 [])]:=.inr ⟨_,Tryz.underlying70,rfl,fun k f hk=>by match k,hk with | 0,hk=>(obtain rfl:=Option.some.inj hk; exact⟨rfl,_,i_22,rfl⟩) | 1,hk=>(obtain rfl:=Option.some.inj hk; exact⟨rfl,_,i_3,rfl⟩) | 2,hk=>(obtain rfl:=Option.some.inj hk; exact⟨rfl,_,i_3,rfl⟩) | 3,hk=>(obtain rfl:=Option.some.inj hk; exact⟨rfl,_,i_55,rfl⟩) | k+4,hk=>simp at hk⟩
theorem i_73:Tryz.prog.info? 73=some Tryz.t73:=by kernel_rfl
theorem ty_73:TyIs ag 73 false 1:=a8 Tryz.underlying73 i_73 rfl rfl
theorem zc_73:zcv ag 8 73=.pv (.lit .nilFunc):=by kernel_rfl
theorem z_73:ZeroIs ag 73 (.pv (.lit .nilFunc)):=bh i_73 rfl rfl rfl rfl rfl
theorem i_79:Tryz.prog.info? 79=some Tryz.t79:=by kernel_rfl
theorem ty_79:TyIs ag 79 false 1:=a8 Tryz.underlying79 i_79 rfl rfl
theorem zc_79:zcv ag 8 79=.pv (.lit .nilFunc):=by kernel_rfl
theorem z_79:ZeroIs ag 79 (.pv (.lit .nilFunc)):=bh i_79 rfl rfl rfl rfl rfl
theorem i_84:Tryz.prog.info? 84=some Tryz.t84:=by kernel_rfl
theorem ty_84:TyIs ag 84 false 1:=a8 Tryz.underlying84 i_84 rfl rfl
theorem zc_84:zcv ag 8 84=.pv (.lit .nilFunc):=by kernel_rfl
theorem z_84:ZeroIs ag 84 (.pv (.lit .nilFunc)):=bh i_84 rfl rfl rfl rfl rfl
theorem i_90:Tryz.prog.info? 90=some Tryz.t90:=by kernel_rfl
theorem ty_90:TyIs ag 90 false 1:=a8 Tryz.underlying90 i_90 rfl rfl
theorem i_92:Tryz.prog.info? 92=some Tryz.t92:=by kernel_rfl
theorem ty_92:TyIs ag 92 true 2:=a8 Tryz.underlying92 i_92 rfl rfl
theorem zc_92:zcv ag 8 92=.node [.pv (.sl true 1 []),.pv (.sl true 4 [])]:=by kernel_rfl
theorem z_92:ZeroIs ag 92 (.node [.pv (.sl true 1 []),.pv (.sl true 4 [])]):=ZeroIs.agg i_92 rfl rfl rfl
theorem fo_92_0:fOff ag 92 0=0:=by kernel_rfl
theorem fi_92_0:FieldIs ag 92 0 0:=bq Tryz.underlying92 rfl rfl i_22 (by decide)
theorem ft_92_0:fldT ag 92 0=22:=by kernel_rfl
theorem fo_92_1:fOff ag 92 1=1:=by kernel_rfl
theorem fi_92_1:FieldIs ag 92 1 1:=bq Tryz.underlying92 rfl rfl i_30 (by decide)
theorem ft_92_1:fldT ag 92 1=30:=by kernel_rfl
theorem lay_92:LayoutOk ag 92 [.pv (.sl true 1 []),.pv (.sl true 4 [])]:=.inr ⟨_,Tryz.underlying92,rfl,fun k f hk=>by match k,hk with | 0,hk=>(obtain rfl:=Option.some.inj hk; exact⟨rfl,_,i_22,rfl⟩) | 1,hk=>(obtain rfl:=Option.some.inj hk; exact⟨rfl,_,i_30,rfl⟩) | k+2,hk=>simp at hk⟩
theorem i_105:Tryz.prog.info? 105=some Tryz.t105:=by kernel_rfl
theorem ty_105:TyIs ag 105 false 1:=a8 Tryz.underlying105 i_105 rfl rfl
theorem i_106:Tryz.prog.info? 106=some Tryz.t106:=by kernel_rfl
theorem ty_106:TyIs ag 106 false 1:=a8 Tryz.underlying106 i_106 rfl rfl
theorem zc_106:zcv ag 8 106=.pv (.lit (.int .u64 0)):=by kernel_rfl
theorem z_106:ZeroIs ag 106 (.pv (.lit (.int .u64 0))):=bh i_106 rfl rfl rfl rfl rfl
theorem i_108:Tryz.prog.info? 108=some Tryz.t108:=by kernel_rfl
theorem ty_108:TyIs ag 108 true 3:=a8 Tryz.underlying108 i_108 rfl rfl
theorem zc_108:zcv ag 8 108=.node [.pv (.sl true 1 []),.pv (.lit (.int .i64 0)),.pv (.lit (.int .u64 0))]:=by kernel_rfl
theorem z_108:ZeroIs ag 108 (.node [.pv (.sl true 1 []),.pv (.lit (.int .i64 0)),.pv (.lit (.int .u64 0))]):=ZeroIs.agg i_108 rfl rfl rfl
theorem fo_108_0:fOff ag 108 0=0:=by kernel_rfl
theorem fi_108_0:FieldIs ag 108 0 0:=bq Tryz.underlying108 rfl rfl i_47 (by decide)
theorem ft_108_0:fldT ag 108 0=47:=by kernel_rfl
theorem fo_108_1:fOff ag 108 1=1:=by kernel_rfl
theorem fi_108_1:FieldIs ag 108 1 1:=bq Tryz.underlying108 rfl rfl i_3 (by decide)
theorem ft_108_1:fldT ag 108 1=3:=by kernel_rfl
theorem fo_108_2:fOff ag 108 2=2:=by kernel_rfl
theorem fi_108_2:FieldIs ag 108 2 2:=bq Tryz.underlying108 rfl rfl i_106 (by decide)
theorem ft_108_2:fldT ag 108 2=106:=by kernel_rfl
theorem lay_108:LayoutOk ag 108 [.pv (.sl true 1 []),.pv (.lit (.int .i64 0)),.pv (.lit (.int .u64 0))]:=.inr ⟨_,Tryz.underlying108,rfl,fun k f hk=>by match k,hk with | 0,hk=>(obtain rfl:=Option.some.inj hk; exact⟨rfl,_,i_47,rfl⟩) | 1,hk=>(obtain rfl:=Option.some.inj hk; exact⟨rfl,_,i_3,rfl⟩) | 2,hk=>(obtain rfl:=Option.some.inj hk; exact⟨rfl,_,i_106,rfl⟩) | k+3,hk=>simp at hk⟩
theorem i_116:Tryz.prog.info? 116=some Tryz.t116:=by kernel_rfl
theorem ty_116:TyIs ag 116 false 1:=a8 Tryz.underlying116 i_116 rfl rfl
theorem zc_116:zcv ag 8 116=.pv (.lit (.int .u64 0)):=by kernel_rfl
theorem z_116:ZeroIs ag 116 (.pv (.lit (.int .u64 0))):=bh i_116 rfl rfl rfl rfl rfl
theorem i_121:Tryz.prog.info? 121=some Tryz.t121:=by kernel_rfl
theorem ty_121:TyIs ag 121 false 1:=a8 Tryz.underlying121 i_121 rfl rfl
theorem zc_121:zcv ag 8 121=.pv (.lit .nilFunc):=by kernel_rfl
theorem z_121:ZeroIs ag 121 (.pv (.lit .nilFunc)):=bh i_121 rfl rfl rfl rfl rfl
theorem i_129:Tryz.prog.info? 129=some Tryz.t129:=by kernel_rfl
theorem ty_129:TyIs ag 129 false 1:=a8 Tryz.underlying129 i_129 rfl rfl
theorem zc_129:zcv ag 8 129=.pv (.lit .nilFunc):=by kernel_rfl
theorem z_129:ZeroIs ag 129 (.pv (.lit .nilFunc)):=bh i_129 rfl rfl rfl rfl rfl
theorem i_140:Tryz.prog.info? 140=some Tryz.t140:=by kernel_rfl
theorem ty_140:TyIs ag 140 false 1:=a8 Tryz.underlying140 i_140 rfl rfl
theorem zc_140:zcv ag 8 140=.pv (.lit .nilFunc):=by kernel_rfl
theorem z_140:ZeroIs ag 140 (.pv (.lit .nilFunc)):=bh i_140 rfl rfl rfl rfl rfl
theorem i_156:Tryz.prog.info? 156=some Tryz.t156:=by kernel_rfl
theorem ty_156:TyIs ag 156 false 1:=a8 Tryz.underlying156 i_156 rfl rfl
theorem zc_156:zcv ag 8 156=.pv (.sl true 1 []):=by kernel_rfl
theorem z_156:ZeroIs ag 156 (.pv (.sl true 1 [])):=bh i_156 rfl rfl rfl rfl rfl
theorem es_156:eSize ag 156=1:=by kernel_rfl
theorem eb_156:eBytes ag 156=16:=by kernel_rfl
theorem sl_156:SlIs ag 156 1 16:=SlIs.mk' Tryz.underlying156 i_9 rfl rfl rfl rfl (by decide)
theorem is_156:IsSl ag 156:=⟨_,Tryz.underlying156⟩
theorem el_156:elemOfT ag 156=9:=by kernel_rfl
theorem ze_156:zel ag 156=(.lit (.string ⟨#[]⟩)):=by kernel_rfl
theorem ez_156:ElemZero ag 156 ((.lit (.string ⟨#[]⟩))):=ElemZero.mk' Tryz.underlying156 (bh i_9 rfl rfl rfl rfl rfl)
theorem i_172:Tryz.prog.info? 172=some Tryz.t172:=by kernel_rfl
theorem ty_172:TyIs ag 172 true 24:=a8 Tryz.underlying172 i_172 rfl rfl
theorem ar_172:ArrIs ag 172 24 1:=⟨5,Tryz.underlying172,by rw[i_5]; rfl⟩
theorem lay_172:LayoutOk ag 172 [.pv (.lit (.int .u8 0)),.pv (.lit (.int .u8 0)),.pv (.lit (.int .u8 0)),.pv (.lit (.int .u8 0)),.pv (.lit (.int .u8 0)),.pv (.lit (.int .u8 0)),.pv (.lit (.int .u8 0)),.pv (.lit (.int .u8 0)),.pv (.lit (.int .u8 0)),.pv (.lit (.int .u8 0)),.pv (.lit (.int .u8 0)),.pv (.lit (.int .u8 0)),.pv (.lit (.int .u8 0)),.pv (.lit (.int .u8 0)),.pv (.lit (.int .u8 0)),.pv (.lit (.int .u8 0)),.pv (.lit (.int .u8 0)),.pv (.lit (.int .u8 0)),.pv (.lit (.int .u8 0)),.pv (.lit (.int .u8 0)),.pv (.lit (.int .u8 0)),.pv (.lit (.int .u8 0)),.pv (.lit (.int .u8 0)),.pv (.lit (.int .u8 0))]:=.inl ⟨24,5,_,Tryz.underlying172,i_5,rfl,fun k hk=>by match k,hk with | 0,_=>exact⟨rfl,rfl⟩ | 1,_=>exact⟨rfl,rfl⟩ | 2,_=>exact⟨rfl,rfl⟩ | 3,_=>exact⟨rfl,rfl⟩ | 4,_=>exact⟨rfl,rfl⟩ | 5,_=>exact⟨rfl,rfl⟩ | 6,_=>exact⟨rfl,rfl⟩ | 7,_=>exact⟨rfl,rfl⟩ | 8,_=>exact⟨rfl,rfl⟩ | 9,_=>exact⟨rfl,rfl⟩ | 10,_=>exact⟨rfl,rfl⟩ | 11,_=>exact⟨rfl,rfl⟩ | 12,_=>exact⟨rfl,rfl⟩ | 13,_=>exact⟨rfl,rfl⟩ | 14,_=>exact⟨rfl,rfl⟩ | 15,_=>exact⟨rfl,rfl⟩ | 16,_=>exact⟨rfl,rfl⟩ | 17,_=>exact⟨rfl,rfl⟩ | 18,_=>exact⟨rfl,rfl⟩ | 19,_=>exact⟨rfl,rfl⟩ | 20,_=>exact⟨rfl,rfl⟩ | 21,_=>exact⟨rfl,rfl⟩ | 22,_=>exact⟨rfl,rfl⟩ | 23,_=>exact⟨rfl,rfl⟩ | k+24,hk=>simp at hk; omega⟩
theorem i_184:Tryz.prog.info? 184=some Tryz.t184:=by kernel_rfl
theorem ty_184:TyIs ag 184 true 65:=a8 Tryz.underlying184 i_184 rfl rfl
theorem ar_184:ArrIs ag 184 65 1:=⟨5,Tryz.underlying184,by rw[i_5]; rfl⟩
theorem lay_184:LayoutOk ag 184 [.pv (.lit (.int .u8 0)),.pv (.lit (.int .u8 0)),.pv (.lit (.int .u8 0)),.pv (.lit (.int .u8 0)),.pv (.lit (.int .u8 0)),.pv (.lit (.int .u8 0)),.pv (.lit (.int .u8 0)),.pv (.lit (.int .u8 0)),.pv (.lit (.int .u8 0)),.pv (.lit (.int .u8 0)),.pv (.lit (.int .u8 0)),.pv (.lit (.int .u8 0)),.pv (.lit (.int .u8 0)),.pv (.lit (.int .u8 0)),.pv (.lit (.int .u8 0)),.pv (.lit (.int .u8 0)),.pv (.lit (.int .u8 0)),.pv (.lit (.int .u8 0)),.pv (.lit (.int .u8 0)),.pv (.lit (.int .u8 0)),.pv (.lit (.int .u8 0)),.pv (.lit (.int .u8 0)),.pv (.lit (.int .u8 0)),.pv (.lit (.int .u8 0)),.pv (.lit (.int .u8 0)),.pv (.lit (.int .u8 0)),.pv (.lit (.int .u8 0)),.pv (.lit (.int .u8 0)),.pv (.lit (.int .u8 0)),.pv (.lit (.int .u8 0)),.pv (.lit (.int .u8 0)),.pv (.lit (.int .u8 0)),.pv (.lit (.int .u8 0)),.pv (.lit (.int .u8 0)),.pv (.lit (.int .u8 0)),.pv (.lit (.int .u8 0)),.pv (.lit (.int .u8 0)),.pv (.lit (.int .u8 0)),.pv (.lit (.int .u8 0)),.pv (.lit (.int .u8 0)),.pv (.lit (.int .u8 0)),.pv (.lit (.int .u8 0)),.pv (.lit (.int .u8 0)),.pv (.lit (.int .u8 0)),.pv (.lit (.int .u8 0)),.pv (.lit (.int .u8 0)),.pv (.lit (.int .u8 0)),.pv (.lit (.int .u8 0)),.pv (.lit (.int .u8 0)),.pv (.lit (.int .u8 0)),.pv (.lit (.int .u8 0)),.pv (.lit (.int .u8 0)),.pv (.lit (.int .u8 0)),.pv (.lit (.int .u8 0)),.pv (.lit (.int .u8 0)),.pv (.lit (.int .u8 0)),.pv (.lit (.int .u8 0)),.pv (.lit (.int .u8 0)),.pv (.lit (.int .u8 0)),.pv (.lit (.int .u8 0)),.pv (.lit (.int .u8 0)),.pv (.lit (.int .u8 0)),.pv (.lit (.int .u8 0)),.pv (.lit (.int .u8 0)),.pv (.lit (.int .u8 0))]:=.inl ⟨65,5,_,Tryz.underlying184,i_5,rfl,fun k hk=>by match k,hk with | 0,_=>exact⟨rfl,rfl⟩ | 1,_=>exact⟨rfl,rfl⟩ | 2,_=>exact⟨rfl,rfl⟩ | 3,_=>exact⟨rfl,rfl⟩ | 4,_=>exact⟨rfl,rfl⟩ | 5,_=>exact⟨rfl,rfl⟩ | 6,_=>exact⟨rfl,rfl⟩ | 7,_=>exact⟨rfl,rfl⟩ | 8,_=>exact⟨rfl,rfl⟩ | 9,_=>exact⟨rfl,rfl⟩ | 10,_=>exact⟨rfl,rfl⟩ | 11,_=>exact⟨rfl,rfl⟩ | 12,_=>exact⟨rfl,rfl⟩ | 13,_=>exact⟨rfl,rfl⟩ | 14,_=>exact⟨rfl,rfl⟩ | 15,_=>exact⟨rfl,rfl⟩ | 16,_=>exact⟨rfl,rfl⟩ | 17,_=>exact⟨rfl,rfl⟩ | 18,_=>exact⟨rfl,rfl⟩ | 19,_=>exact⟨rfl,rfl⟩ | 20,_=>exact⟨rfl,rfl⟩ | 21,_=>exact⟨rfl,rfl⟩ | 22,_=>exact⟨rfl,rfl⟩ | 23,_=>exact⟨rfl,rfl⟩ | 24,_=>exact⟨rfl,rfl⟩ | 25,_=>exact⟨rfl,rfl⟩ | 26,_=>exact⟨rfl,rfl⟩ | 27,_=>exact⟨rfl,rfl⟩ | 28,_=>exact⟨rfl,rfl⟩ | 29,_=>exact⟨rfl,rfl⟩ | 30,_=>exact⟨rfl,rfl⟩ | 31,_=>exact⟨rfl,rfl⟩ | 32,_=>exact⟨rfl,rfl⟩ | 33,_=>exact⟨rfl,rfl⟩ | 34,_=>exact⟨rfl,rfl⟩ | 35,_=>exact⟨rfl,rfl⟩ | 36,_=>exact⟨rfl,rfl⟩ | 37,_=>exact⟨rfl,rfl⟩ | 38,_=>exact⟨rfl,rfl⟩ | 39,_=>exact⟨rfl,rfl⟩ | 40,_=>exact⟨rfl,rfl⟩ | 41,_=>exact⟨rfl,rfl⟩ | 42,_=>exact⟨rfl,rfl⟩ | 43,_=>exact⟨rfl,rfl⟩ | 44,_=>exact⟨rfl,rfl⟩ | 45,_=>exact⟨rfl,rfl⟩ | 46,_=>exact⟨rfl,rfl⟩ | 47,_=>exact⟨rfl,rfl⟩ | 48,_=>exact⟨rfl,rfl⟩ | 49,_=>exact⟨rfl,rfl⟩ | 50,_=>exact⟨rfl,rfl⟩ | 51,_=>exact⟨rfl,rfl⟩ | 52,_=>exact⟨rfl,rfl⟩ | 53,_=>exact⟨rfl,rfl⟩ | 54,_=>exact⟨rfl,rfl⟩ | 55,_=>exact⟨rfl,rfl⟩ | 56,_=>exact⟨rfl,rfl⟩ | 57,_=>exact⟨rfl,rfl⟩ | 58,_=>exact⟨rfl,rfl⟩ | 59,_=>exact⟨rfl,rfl⟩ | 60,_=>exact⟨rfl,rfl⟩ | 61,_=>exact⟨rfl,rfl⟩ | 62,_=>exact⟨rfl,rfl⟩ | 63,_=>exact⟨rfl,rfl⟩ | 64,_=>exact⟨rfl,rfl⟩ | k+65,hk=>simp at hk; omega⟩
theorem isIntB_i:isIntB (Tryz.prog.underlying 2)=true∧isIntB (Tryz.prog.underlying 3)=true:=by refine⟨?_,?_⟩<;>kernel_rfl
theorem uk_2:Tryz.prog.underlying 2=some (.int .i64):=Tryz.underlying2
theorem uk_3:Tryz.prog.underlying 3=some (.int .i64):=Tryz.underlying3
theorem uk_5:Tryz.prog.underlying 5=some (.int .u8):=Tryz.underlying5
theorem uk_9:Tryz.prog.underlying 9=some .string:=Tryz.underlying9
theorem uk_106:Tryz.prog.underlying 106=some (.int .u64):=Tryz.underlying106
theorem uk_116:Tryz.prog.underlying 116=some (.int .u64):=Tryz.underlying116
attribute [push_cast] ty_3 zc_3 z_3 ty_47 zc_47 z_47 es_47 eb_47 sl_47 by_47 is_47 el_47 ze_47 ez_47 ty_5 zc_5 z_5 ty_106 zc_106 z_106 ty_108 zc_108 z_108 fo_108_0 fi_108_0 ft_108_0 fo_108_1 fi_108_1 ft_108_1 fo_108_2 fi_108_2 ft_108_2 lay_108 uk_3 uk_5 uk_106 mixedT ty_105 ty_4 zc_4 z_4 u_4 ty_55 zc_55 z_55 es_55 eb_55 sl_55 is_55 el_55 ze_55 ez_55 ty_22 zc_22 z_22 es_22 eb_22 sl_22 is_22 el_22 ze_22 ez_22 ty_30 zc_30 z_30 es_30 eb_30 sl_30 is_30 el_30 ze_30 ez_30 ty_64 zc_64 z_64 fo_64_0 fi_64_0 ft_64_0 fo_64_1 fi_64_1 ft_64_1 fo_64_2 fi_64_2 ft_64_2 fo_64_3 fi_64_3 ft_64_3 lay_64 ty_92 zc_92 z_92 fo_92_0 fi_92_0 ft_92_0 fo_92_1 fi_92_1 ft_92_1 lay_92 ty_90 ty_121 zc_121 z_121 ty_9 zc_9 z_9 u_9 isIntB_i ty_116 zc_116 z_116 ty_140 zc_140 z_140 uk_116 ty_67 ty_70 zc_70 z_70 fo_70_0 fi_70_0 ft_70_0 fo_70_1 fi_70_1 ft_70_1 fo_70_2 fi_70_2 ft_70_2 fo_70_3 fi_70_3 ft_70_3 lay_70 ty_84 zc_84 z_84 ty_184 ar_184 lay_184 uk_9 ty_2 zc_2 z_2 ty_172 ar_172 lay_172 uk_2 ty_40 zc_40 z_40 fo_40_0 fi_40_0 ft_40_0 fo_40_1 fi_40_1 ft_40_1 lay_40 ty_42 zc_42 z_42 fo_42_0 fi_42_0 ft_42_0 fo_42_1 fi_42_1 ft_42_1 fo_42_2 fi_42_2 ft_42_2 fo_42_3 fi_42_3 ft_42_3 lay_42 ty_26 zc_26 z_26 es_26 eb_26 sl_26 is_26 el_26 ze_26 ez_26 ty_38 zc_38 z_38 es_38 eb_38 sl_38 is_38 el_38 ze_38 ez_38 ty_79 zc_79 z_79 ty_45 zc_45 z_45 ty_156 zc_156 z_156 es_156 eb_156 sl_156 is_156 el_156 ze_156 ez_156 ty_129 zc_129 z_129 ty_73 zc_73 z_73 ty_62 zc_62 z_62
end Go.Proofs.YtmfpijomelhccaaGreatDoor
