/- Lemmas of the proof; each says what it shows. -/
import Derived.Test.YtckabmmondelpaaGreatGty
import Derived.Test.YtckabmmondelpaaGreatChecked
import Derived.KernelRfl
set_option linter.unusedSimpArgs false
set_option linter.unusedVariables false
set_option linter.defProp false
set_option maxRecDepth 4000
namespace Go.Proofs.YtckabmmondelpaaGreat
open Go.Av
open FieldIs renaming mk'→bD
open Tryz renaming prog→ai
open TyIs renaming mk'→bi
open ZeroIs renaming one→bu
theorem mixed:Tryz.prog.follows .mixedOrders=true:=by kernel_rfl
theorem mT_:(Tryz.prog.follows .mixedOrders=true)=True:=eq_true mixed
theorem i_3:Tryz.prog.info? 3=some Tryz.t3:=by kernel_rfl
theorem ty_3:TyIs ai 3 false 1:=bi Tryz.underlying3 i_3 rfl rfl
theorem zc_3:zcv ai 8 3=.pv (.lit (.int .i64 0)):=by kernel_rfl
theorem z_3:ZeroIs ai 3 (.pv (.lit (.int .i64 0))):=bu i_3 rfl rfl rfl rfl rfl
theorem i_4:Tryz.prog.info? 4=some Tryz.t4:=by kernel_rfl
theorem ty_4:TyIs ai 4 false 1:=bi Tryz.underlying4 i_4 rfl rfl
theorem zc_4:zcv ai 8 4=.pv (.lit (.bool false)):=by kernel_rfl
theorem z_4:ZeroIs ai 4 (.pv (.lit (.bool false))):=bu i_4 rfl rfl rfl rfl rfl
theorem u_4:(Tryz.prog.underlying 4=some .bool)=True:=eq_true Tryz.underlying4
theorem i_5:Tryz.prog.info? 5=some Tryz.t5:=by kernel_rfl
theorem ty_5:TyIs ai 5 false 1:=bi Tryz.underlying5 i_5 rfl rfl
theorem zc_5:zcv ai 8 5=.pv (.lit (.int .u8 0)):=by kernel_rfl
theorem z_5:ZeroIs ai 5 (.pv (.lit (.int .u8 0))):=bu i_5 rfl rfl rfl rfl rfl
theorem i_9:Tryz.prog.info? 9=some Tryz.t9:=by kernel_rfl
theorem ty_9:TyIs ai 9 false 1:=bi Tryz.underlying9 i_9 rfl rfl
theorem zc_9:zcv ai 8 9=.pv (.lit (.string ⟨#[]⟩)):=by kernel_rfl
theorem z_9:ZeroIs ai 9 (.pv (.lit (.string ⟨#[]⟩))):=bu i_9 rfl rfl rfl rfl rfl
theorem u_9:(Tryz.prog.underlying 9=some .string)=True:=eq_true Tryz.underlying9
theorem i_22:Tryz.prog.info? 22=some Tryz.t22:=by kernel_rfl
theorem t2_4:TyIs ai 22 false 1:=bi Tryz.underlying22 i_22 rfl rfl
theorem z2_7:zcv ai 8 22=.pv (.sl true 1 []):=by kernel_rfl
theorem z_22:ZeroIs ai 22 (.pv (.sl true 1 [])):=bu i_22 rfl rfl rfl rfl rfl
theorem e2_5:eS_ ai 22=1:=by kernel_rfl
theorem eb_22:eB_ ai 22=1:=by kernel_rfl
theorem s2_2:SlIs ai 22 1 1:=SlIs.mk' Tryz.underlying22 i_5 rfl rfl rfl rfl (by decide)
theorem b2_:IB_ ai 22:=⟨_,Tryz.underlying22,Tryz.underlying5⟩
theorem i2_2:IsSl ai 22:=⟨_,Tryz.underlying22⟩
theorem e2_8:eOT_ ai 22=5:=by kernel_rfl
theorem z2_2:zel ai 22=(.lit (.int .u8 0)):=by kernel_rfl
theorem e2_2:ElemZero ai 22 ((.lit (.int .u8 0))):=ElemZero.mk' Tryz.underlying22 (bu i_5 rfl rfl rfl rfl rfl)
theorem i_24:Tryz.prog.info? 24=some Tryz.t24:=by kernel_rfl
theorem t2_3:TyIs ai 24 false 1:=bi Tryz.underlying24 i_24 rfl rfl
theorem z2_6:zcv ai 8 24=.pv (.sl true 2 []):=by kernel_rfl
theorem z_24:ZeroIs ai 24 (.pv (.sl true 2 [])):=bu i_24 rfl rfl rfl rfl rfl
theorem i_26:Tryz.prog.info? 26=some Tryz.t26:=by kernel_rfl
theorem e2_4:eS_ ai 24=2:=by kernel_rfl
theorem eb_24:eB_ ai 24=40:=by kernel_rfl
theorem s2_1:SlIs ai 24 2 40:=SlIs.mk' Tryz.underlying24 i_26 rfl rfl rfl rfl (by decide)
theorem i2_1:IsSl ai 24:=⟨_,Tryz.underlying24⟩
theorem e2_7:eOT_ ai 24=26:=by kernel_rfl
theorem z2_1:zel ai 24=.agg [(.lit (.string ⟨#[]⟩)),(.sl true 2 [])]:=by kernel_rfl
theorem e2_1:ElemZero ai 24 (.agg [(.lit (.string ⟨#[]⟩)),(.sl true 2 [])]):=ElemZero.mk' Tryz.underlying24 (ZeroIs.agg i_26 rfl rfl rfl)
theorem t2_2:TyIs ai 26 true 2:=bi Tryz.underlying26 i_26 rfl rfl
theorem z2_5:zcv ai 8 26=.node [.pv (.lit (.string ⟨#[]⟩)),.pv (.sl true 2 [])]:=by kernel_rfl
theorem z_26:ZeroIs ai 26 (.node [.pv (.lit (.string ⟨#[]⟩)),.pv (.sl true 2 [])]):=ZeroIs.agg i_26 rfl rfl rfl
theorem f20_3:fOff ai 26 0=0:=by kernel_rfl
theorem f20_5:FieldIs ai 26 0 0:=bD Tryz.underlying26 rfl rfl i_9 (by decide)
theorem f20_1:fldT ai 26 0=9:=by kernel_rfl
theorem f21_3:fOff ai 26 1=1:=by kernel_rfl
theorem f21_5:FieldIs ai 26 1 1:=bD Tryz.underlying26 rfl rfl i_24 (by decide)
theorem f21_1:fldT ai 26 1=24:=by kernel_rfl
theorem l2_1:LO_ ai 26 [.pv (.lit (.string ⟨#[]⟩)),.pv (.sl true 2 [])]:=.inr ⟨_,Tryz.underlying26,rfl,fun k f hk=>by match k,hk with | 0,hk=>(obtain rfl:=Option.some.inj hk; exact⟨rfl,_,i_9,rfl⟩) | 1,hk=>(obtain rfl:=Option.some.inj hk; exact⟨rfl,_,i_24,rfl⟩) | k+2,hk=>simp at hk⟩
theorem i_27:Tryz.prog.info? 27=some Tryz.t27:=by kernel_rfl
theorem t2_1:TyIs ai 27 false 1:=bi Tryz.underlying27 i_27 rfl rfl
theorem z2_4:zcv ai 8 27=.pv (.sl true 5 []):=by kernel_rfl
theorem z_27:ZeroIs ai 27 (.pv (.sl true 5 [])):=bu i_27 rfl rfl rfl rfl rfl
theorem i_29:Tryz.prog.info? 29=some Tryz.t29:=by kernel_rfl
theorem e2_3:eS_ ai 27=5:=by kernel_rfl
theorem e2_9:eB_ ai 27=88:=by kernel_rfl
theorem s2_:SlIs ai 27 5 88:=SlIs.mk' Tryz.underlying27 i_29 rfl rfl rfl rfl (by decide)
theorem i2_:IsSl ai 27:=⟨_,Tryz.underlying27⟩
theorem e2_6:eOT_ ai 27=29:=by kernel_rfl
theorem z2_:zel ai 27=.agg [(.lit (.int .i64 0)),.agg [(.lit (.string ⟨#[]⟩)),(.sl true 2 [])],(.lit (.string ⟨#[]⟩)),(.sl true 5 [])]:=by kernel_rfl
theorem e2_:ElemZero ai 27 (.agg [(.lit (.int .i64 0)),.agg [(.lit (.string ⟨#[]⟩)),(.sl true 2 [])],(.lit (.string ⟨#[]⟩)),(.sl true 5 [])]):=ElemZero.mk' Tryz.underlying27 (ZeroIs.agg i_29 rfl rfl rfl)
theorem t2_:TyIs ai 29 true 5:=bi Tryz.underlying29 i_29 rfl rfl
theorem z2_3:zcv ai 8 29=.node [.pv (.lit (.int .i64 0)),.node [.pv (.lit (.string ⟨#[]⟩)),.pv (.sl true 2 [])],.pv (.lit (.string ⟨#[]⟩)),.pv (.sl true 5 [])]:=by kernel_rfl
theorem z_29:ZeroIs ai 29 (.node [.pv (.lit (.int .i64 0)),.node [.pv (.lit (.string ⟨#[]⟩)),.pv (.sl true 2 [])],.pv (.lit (.string ⟨#[]⟩)),.pv (.sl true 5 [])]):=ZeroIs.agg i_29 rfl rfl rfl
theorem f20_2:fOff ai 29 0=0:=by kernel_rfl
theorem f20_4:FieldIs ai 29 0 0:=bD Tryz.underlying29 rfl rfl i_3 (by decide)
theorem f20_:fldT ai 29 0=3:=by kernel_rfl
theorem f21_2:fOff ai 29 1=1:=by kernel_rfl
theorem f21_4:FieldIs ai 29 1 1:=bD Tryz.underlying29 rfl rfl i_26 (by decide)
theorem f21_:fldT ai 29 1=26:=by kernel_rfl
theorem f22_1:fOff ai 29 2=3:=by kernel_rfl
theorem f22_2:FieldIs ai 29 2 3:=bD Tryz.underlying29 rfl rfl i_9 (by decide)
theorem f22_:fldT ai 29 2=9:=by kernel_rfl
theorem f23_1:fOff ai 29 3=4:=by kernel_rfl
theorem f23_2:FieldIs ai 29 3 4:=bD Tryz.underlying29 rfl rfl i_27 (by decide)
theorem f23_:fldT ai 29 3=27:=by kernel_rfl
theorem l2_:LO_ ai 29 [.pv (.lit (.int .i64 0)),.node [.pv (.lit (.string ⟨#[]⟩)),.pv (.sl true 2 [])],.pv (.lit (.string ⟨#[]⟩)),.pv (.sl true 5 [])]:=.inr ⟨_,Tryz.underlying29,rfl,fun k f hk=>by match k,hk with | 0,hk=>(obtain rfl:=Option.some.inj hk; exact⟨rfl,_,i_3,rfl⟩) | 1,hk=>(obtain rfl:=Option.some.inj hk; exact⟨rfl,_,i_26,rfl⟩) | 2,hk=>(obtain rfl:=Option.some.inj hk; exact⟨rfl,_,i_9,rfl⟩) | 3,hk=>(obtain rfl:=Option.some.inj hk; exact⟨rfl,_,i_27,rfl⟩) | k+4,hk=>simp at hk⟩
theorem i_31:Tryz.prog.info? 31=some Tryz.t31:=by kernel_rfl
theorem t3_:TyIs ai 31 true 2:=bi Tryz.underlying31 i_31 rfl rfl
theorem z3_:zcv ai 8 31=.node [.pv (.sl true 2 []),.pv (.sl true 2 [])]:=by kernel_rfl
theorem z_31:ZeroIs ai 31 (.node [.pv (.sl true 2 []),.pv (.sl true 2 [])]):=ZeroIs.agg i_31 rfl rfl rfl
theorem f30_1:fOff ai 31 0=0:=by kernel_rfl
theorem f30_2:FieldIs ai 31 0 0:=bD Tryz.underlying31 rfl rfl i_24 (by decide)
theorem f30_:fldT ai 31 0=24:=by kernel_rfl
theorem f31_1:fOff ai 31 1=1:=by kernel_rfl
theorem f31_2:FieldIs ai 31 1 1:=bD Tryz.underlying31 rfl rfl i_24 (by decide)
theorem f31_:fldT ai 31 1=24:=by kernel_rfl
theorem l3_:LO_ ai 31 [.pv (.sl true 2 []),.pv (.sl true 2 [])]:=.inr ⟨_,Tryz.underlying31,rfl,fun k f hk=>by match k,hk with | 0,hk=>(obtain rfl:=Option.some.inj hk; exact⟨rfl,_,i_24,rfl⟩) | 1,hk=>(obtain rfl:=Option.some.inj hk; exact⟨rfl,_,i_24,rfl⟩) | k+2,hk=>simp at hk⟩
theorem i_40:Tryz.prog.info? 40=some Tryz.t40:=by kernel_rfl
theorem t4_4:TyIs ai 40 true 2:=bi Tryz.underlying40 i_40 rfl rfl
theorem z4_4:zcv ai 8 40=.node [.pv (.sl true 5 []),.pv (.sl true 5 [])]:=by kernel_rfl
theorem z_40:ZeroIs ai 40 (.node [.pv (.sl true 5 []),.pv (.sl true 5 [])]):=ZeroIs.agg i_40 rfl rfl rfl
theorem f40_3:fOff ai 40 0=0:=by kernel_rfl
theorem f40_5:FieldIs ai 40 0 0:=bD Tryz.underlying40 rfl rfl i_27 (by decide)
theorem f40_1:fldT ai 40 0=27:=by kernel_rfl
theorem f41_3:fOff ai 40 1=1:=by kernel_rfl
theorem f41_5:FieldIs ai 40 1 1:=bD Tryz.underlying40 rfl rfl i_27 (by decide)
theorem f41_1:fldT ai 40 1=27:=by kernel_rfl
theorem l4_1:LO_ ai 40 [.pv (.sl true 5 []),.pv (.sl true 5 [])]:=.inr ⟨_,Tryz.underlying40,rfl,fun k f hk=>by match k,hk with | 0,hk=>(obtain rfl:=Option.some.inj hk; exact⟨rfl,_,i_27,rfl⟩) | 1,hk=>(obtain rfl:=Option.some.inj hk; exact⟨rfl,_,i_27,rfl⟩) | k+2,hk=>simp at hk⟩
theorem i_44:Tryz.prog.info? 44=some Tryz.t44:=by kernel_rfl
theorem t4_3:TyIs ai 44 false 1:=bi Tryz.underlying44 i_44 rfl rfl
theorem i_45:Tryz.prog.info? 45=some Tryz.t45:=by kernel_rfl
theorem t4_2:TyIs ai 45 false 1:=bi Tryz.underlying45 i_45 rfl rfl
theorem z4_3:zcv ai 8 45=.pv (.lit (.int .u64 0)):=by kernel_rfl
theorem z_45:ZeroIs ai 45 (.pv (.lit (.int .u64 0))):=bu i_45 rfl rfl rfl rfl rfl
theorem i_47:Tryz.prog.info? 47=some Tryz.t47:=by kernel_rfl
theorem t4_1:TyIs ai 47 true 3:=bi Tryz.underlying47 i_47 rfl rfl
theorem z4_2:zcv ai 8 47=.node [.pv (.sl true 1 []),.pv (.lit (.int .i64 0)),.pv (.lit (.int .u64 0))]:=by kernel_rfl
theorem z_47:ZeroIs ai 47 (.node [.pv (.sl true 1 []),.pv (.lit (.int .i64 0)),.pv (.lit (.int .u64 0))]):=ZeroIs.agg i_47 rfl rfl rfl
theorem f40_2:fOff ai 47 0=0:=by kernel_rfl
theorem f40_4:FieldIs ai 47 0 0:=bD Tryz.underlying47 rfl rfl i_22 (by decide)
theorem f40_:fldT ai 47 0=22:=by kernel_rfl
theorem f41_2:fOff ai 47 1=1:=by kernel_rfl
theorem f41_4:FieldIs ai 47 1 1:=bD Tryz.underlying47 rfl rfl i_3 (by decide)
theorem f41_:fldT ai 47 1=3:=by kernel_rfl
theorem f42_1:fOff ai 47 2=2:=by kernel_rfl
theorem f42_2:FieldIs ai 47 2 2:=bD Tryz.underlying47 rfl rfl i_45 (by decide)
theorem f42_:fldT ai 47 2=45:=by kernel_rfl
theorem l4_:LO_ ai 47 [.pv (.sl true 1 []),.pv (.lit (.int .i64 0)),.pv (.lit (.int .u64 0))]:=.inr ⟨_,Tryz.underlying47,rfl,fun k f hk=>by match k,hk with | 0,hk=>(obtain rfl:=Option.some.inj hk; exact⟨rfl,_,i_22,rfl⟩) | 1,hk=>(obtain rfl:=Option.some.inj hk; exact⟨rfl,_,i_3,rfl⟩) | 2,hk=>(obtain rfl:=Option.some.inj hk; exact⟨rfl,_,i_45,rfl⟩) | k+3,hk=>simp at hk⟩
theorem i_48:Tryz.prog.info? 48=some Tryz.t48:=by kernel_rfl
theorem t4_:TyIs ai 48 false 1:=bi Tryz.underlying48 i_48 rfl rfl
theorem z4_1:zcv ai 8 48=.pv (.sl true 1 []):=by kernel_rfl
theorem z_48:ZeroIs ai 48 (.pv (.sl true 1 [])):=bu i_48 rfl rfl rfl rfl rfl
theorem e4_1:eS_ ai 48=1:=by kernel_rfl
theorem e4_3:eB_ ai 48=16:=by kernel_rfl
theorem s4_:SlIs ai 48 1 16:=SlIs.mk' Tryz.underlying48 i_9 rfl rfl rfl rfl (by decide)
theorem i4_:IsSl ai 48:=⟨_,Tryz.underlying48⟩
theorem e4_2:eOT_ ai 48=9:=by kernel_rfl
theorem z4_:zel ai 48=(.lit (.string ⟨#[]⟩)):=by kernel_rfl
theorem e4_:ElemZero ai 48 ((.lit (.string ⟨#[]⟩))):=ElemZero.mk' Tryz.underlying48 (bu i_9 rfl rfl rfl rfl rfl)
theorem i_54:Tryz.prog.info? 54=some Tryz.t54:=by kernel_rfl
theorem t5_:TyIs ai 54 false 1:=bi Tryz.underlying54 i_54 rfl rfl
theorem z5_:zcv ai 8 54=.pv (.lit .nilFunc):=by kernel_rfl
theorem z_54:ZeroIs ai 54 (.pv (.lit .nilFunc)):=bu i_54 rfl rfl rfl rfl rfl
theorem i_62:Tryz.prog.info? 62=some Tryz.t62:=by kernel_rfl
theorem t6_4:TyIs ai 62 false 1:=bi Tryz.underlying62 i_62 rfl rfl
theorem z6_5:zcv ai 8 62=.pv (.lit .nilFunc):=by kernel_rfl
theorem z_62:ZeroIs ai 62 (.pv (.lit .nilFunc)):=bu i_62 rfl rfl rfl rfl rfl
theorem i_64:Tryz.prog.info? 64=some Tryz.t64:=by kernel_rfl
theorem t6_3:TyIs ai 64 false 1:=bi Tryz.underlying64 i_64 rfl rfl
theorem z6_4:zcv ai 8 64=.pv (.sl true 1 []):=by kernel_rfl
theorem z_64:ZeroIs ai 64 (.pv (.sl true 1 [])):=bu i_64 rfl rfl rfl rfl rfl
theorem e6_1:eS_ ai 64=1:=by kernel_rfl
theorem e6_3:eB_ ai 64=8:=by kernel_rfl
theorem s6_:SlIs ai 64 1 8:=SlIs.mk' Tryz.underlying64 i_3 rfl rfl rfl rfl (by decide)
theorem i6_:IsSl ai 64:=⟨_,Tryz.underlying64⟩
theorem e6_2:eOT_ ai 64=3:=by kernel_rfl
theorem z6_:zel ai 64=(.lit (.int .i64 0)):=by kernel_rfl
theorem e6_:ElemZero ai 64 ((.lit (.int .i64 0))):=ElemZero.mk' Tryz.underlying64 (bu i_3 rfl rfl rfl rfl rfl)
theorem i_66:Tryz.prog.info? 66=some Tryz.t66:=by kernel_rfl
theorem t6_2:TyIs ai 66 true 2:=bi Tryz.underlying66 i_66 rfl rfl
theorem z6_3:zcv ai 8 66=.node [.pv (.sl true 1 []),.pv (.sl true 1 [])]:=by kernel_rfl
theorem z_66:ZeroIs ai 66 (.node [.pv (.sl true 1 []),.pv (.sl true 1 [])]):=ZeroIs.agg i_66 rfl rfl rfl
theorem f60_1:fOff ai 66 0=0:=by kernel_rfl
theorem f60_2:FieldIs ai 66 0 0:=bD Tryz.underlying66 rfl rfl i_48 (by decide)
theorem f60_:fldT ai 66 0=48:=by kernel_rfl
theorem f61_1:fOff ai 66 1=1:=by kernel_rfl
theorem f61_2:FieldIs ai 66 1 1:=bD Tryz.underlying66 rfl rfl i_64 (by decide)
theorem f61_:fldT ai 66 1=64:=by kernel_rfl
theorem l6_:LO_ ai 66 [.pv (.sl true 1 []),.pv (.sl true 1 [])]:=.inr ⟨_,Tryz.underlying66,rfl,fun k f hk=>by match k,hk with | 0,hk=>(obtain rfl:=Option.some.inj hk; exact⟨rfl,_,i_48,rfl⟩) | 1,hk=>(obtain rfl:=Option.some.inj hk; exact⟨rfl,_,i_64,rfl⟩) | k+2,hk=>simp at hk⟩
theorem i_68:Tryz.prog.info? 68=some Tryz.t68:=by kernel_rfl
theorem t6_1:TyIs ai 68 false 1:=bi Tryz.underlying68 i_68 rfl rfl
theorem z6_2:zcv ai 8 68=.pv (.lit .nilFunc):=by kernel_rfl
theorem z_68:ZeroIs ai 68 (.pv (.lit .nilFunc)):=bu i_68 rfl rfl rfl rfl rfl
theorem i_69:Tryz.prog.info? 69=some Tryz.t69:=by kernel_rfl
theorem t6_:TyIs ai 69 false 1:=bi Tryz.underlying69 i_69 rfl rfl
theorem z6_1:zcv ai 8 69=.pv (.lit .nilFunc):=by kernel_rfl
theorem z_69:ZeroIs ai 69 (.pv (.lit .nilFunc)):=bu i_69 rfl rfl rfl rfl rfl
theorem i_95:Tryz.prog.info? 95=some Tryz.t95:=by kernel_rfl
theorem t9_1:TyIs ai 95 false 1:=bi Tryz.underlying95 i_95 rfl rfl
theorem z9_2:zcv ai 8 95=.pv (.sl true 3 []):=by kernel_rfl
theorem z_95:ZeroIs ai 95 (.pv (.sl true 3 [])):=bu i_95 rfl rfl rfl rfl rfl
theorem i1_:Tryz.prog.info? 125=some Tryz.t125:=by kernel_rfl
theorem e9_1:eS_ ai 95=3:=by kernel_rfl
theorem e9_3:eB_ ai 95=56:=by kernel_rfl
theorem s9_:SlIs ai 95 3 56:=SlIs.mk' Tryz.underlying95 i1_ rfl rfl rfl rfl (by decide)
theorem i9_:IsSl ai 95:=⟨_,Tryz.underlying95⟩
theorem e9_2:eOT_ ai 95=125:=by kernel_rfl
theorem z9_:zel ai 95=.agg [(.lit (.string ⟨#[]⟩)),.agg [(.lit (.string ⟨#[]⟩)),(.sl true 2 [])]]:=by kernel_rfl
theorem e9_:ElemZero ai 95 (.agg [(.lit (.string ⟨#[]⟩)),.agg [(.lit (.string ⟨#[]⟩)),(.sl true 2 [])]]):=ElemZero.mk' Tryz.underlying95 (ZeroIs.agg i1_ rfl rfl rfl)
theorem i_97:Tryz.prog.info? 97=some Tryz.t97:=by kernel_rfl
theorem t9_:TyIs ai 97 true 1:=bi Tryz.underlying97 i_97 rfl rfl
theorem z9_1:zcv ai 8 97=.node [.pv (.sl true 3 [])]:=by kernel_rfl
theorem z_97:ZeroIs ai 97 (.node [.pv (.sl true 3 [])]):=ZeroIs.agg i_97 rfl rfl rfl
theorem f90_1:fOff ai 97 0=0:=by kernel_rfl
theorem f90_2:FieldIs ai 97 0 0:=bD Tryz.underlying97 rfl rfl i_95 (by decide)
theorem f90_:fldT ai 97 0=95:=by kernel_rfl
theorem l9_:LO_ ai 97 [.pv (.sl true 3 [])]:=.inr ⟨_,Tryz.underlying97,rfl,fun k f hk=>by match k,hk with | 0,hk=>(obtain rfl:=Option.some.inj hk; exact⟨rfl,_,i_95,rfl⟩) | k+1,hk=>simp at hk⟩
theorem i1_4:Tryz.prog.info? 106=some Tryz.t106:=by kernel_rfl
theorem t1_5:TyIs ai 106 false 1:=bi Tryz.underlying106 i1_4 rfl rfl
theorem z1_4:zcv ai 8 106=.pv (.lit .nilFunc):=by kernel_rfl
theorem z1_9:ZeroIs ai 106 (.pv (.lit .nilFunc)):=bu i1_4 rfl rfl rfl rfl rfl
theorem i1_3:Tryz.prog.info? 112=some Tryz.t112:=by kernel_rfl
theorem t1_4:TyIs ai 112 false 1:=bi Tryz.underlying112 i1_3 rfl rfl
theorem z1_3:zcv ai 8 112=.pv (.lit (.int .u64 0)):=by kernel_rfl
theorem z1_8:ZeroIs ai 112 (.pv (.lit (.int .u64 0))):=bu i1_3 rfl rfl rfl rfl rfl
theorem i1_2:Tryz.prog.info? 114=some Tryz.t114:=by kernel_rfl
theorem t1_3:TyIs ai 114 false 1:=bi Tryz.underlying114 i1_2 rfl rfl
theorem z1_2:zcv ai 8 114=.pv (.lit .nilFunc):=by kernel_rfl
theorem z1_7:ZeroIs ai 114 (.pv (.lit .nilFunc)):=bu i1_2 rfl rfl rfl rfl rfl
theorem t1_2:TyIs ai 125 true 3:=bi Tryz.underlying125 i1_ rfl rfl
theorem z1_1:zcv ai 8 125=.node [.pv (.lit (.string ⟨#[]⟩)),.node [.pv (.lit (.string ⟨#[]⟩)),.pv (.sl true 2 [])]]:=by kernel_rfl
theorem z1_6:ZeroIs ai 125 (.node [.pv (.lit (.string ⟨#[]⟩)),.node [.pv (.lit (.string ⟨#[]⟩)),.pv (.sl true 2 [])]]):=ZeroIs.agg i1_ rfl rfl rfl
theorem f10_1:fOff ai 125 0=0:=by kernel_rfl
theorem f10_2:FieldIs ai 125 0 0:=bD Tryz.underlying125 rfl rfl i_9 (by decide)
theorem f10_:fldT ai 125 0=9:=by kernel_rfl
theorem f11_1:fOff ai 125 1=1:=by kernel_rfl
theorem f11_2:FieldIs ai 125 1 1:=bD Tryz.underlying125 rfl rfl i_26 (by decide)
theorem f11_:fldT ai 125 1=26:=by kernel_rfl
theorem l1_:LO_ ai 125 [.pv (.lit (.string ⟨#[]⟩)),.node [.pv (.lit (.string ⟨#[]⟩)),.pv (.sl true 2 [])]]:=.inr ⟨_,Tryz.underlying125,rfl,fun k f hk=>by match k,hk with | 0,hk=>(obtain rfl:=Option.some.inj hk; exact⟨rfl,_,i_9,rfl⟩) | 1,hk=>(obtain rfl:=Option.some.inj hk; exact⟨rfl,_,i_26,rfl⟩) | k+2,hk=>simp at hk⟩
theorem i1_5:Tryz.prog.info? 133=some Tryz.t133:=by kernel_rfl
theorem t1_1:TyIs ai 133 false 1:=bi Tryz.underlying133 i1_5 rfl rfl
theorem i1_1:Tryz.prog.info? 175=some Tryz.t175:=by kernel_rfl
theorem t1_:TyIs ai 175 false 1:=bi Tryz.underlying175 i1_1 rfl rfl
theorem z1_:zcv ai 8 175=.pv (.lit .nilFunc):=by kernel_rfl
theorem z1_5:ZeroIs ai 175 (.pv (.lit .nilFunc)):=bu i1_1 rfl rfl rfl rfl rfl
theorem m1_:MT_ ai 133 26:=⟨9,Tryz.underlying133,Tryz.underlying9⟩
theorem m2_:∃ i v,Tryz.prog.info? 26=some i∧i.zero=some v∧∀ N w,RepV N w ((Tt.pv false) (Tt.mk (⟨#[]⟩:ByteArray) ([]))) v []:=⟨Tryz.t26,.agg #[.string ⟨#[]⟩,.slice none 0 0],by kernel_rfl,rfl,fun N w=>⟨[.string ⟨#[]⟩,.slice none 0 0],rfl,⟨[.string ⟨#[]⟩],[.slice none 0 0],[],[],rfl,rfl,⟨rfl,rfl,rfl⟩,⟨[.slice none 0 0],[],[],[],rfl,rfl,⟨none,0,rfl,rfl,Nat.le_refl _,Nat.zero_le _,nofun,.inl rfl⟩,⟨rfl,rfl⟩⟩⟩⟩⟩
theorem uk_3:Tryz.prog.underlying 3=some (.int .i64):=Tryz.underlying3
theorem uk_5:Tryz.prog.underlying 5=some (.int .u8):=Tryz.underlying5
theorem u4_:Tryz.prog.underlying 45=some (.int .u64):=Tryz.underlying45
theorem u1_:Tryz.prog.underlying 112=some (.int .u64):=Tryz.underlying112
attribute [push_cast] ty_3 zc_3 z_3 t2_4 z2_7 z_22 e2_5 eb_22 s2_2 b2_ i2_2 e2_8 z2_2 e2_2 ty_5 zc_5 z_5 t4_2 z4_3 z_45 t4_1 z4_2 z_47 f40_2 f40_4 f40_ f41_2 f41_4 f41_ f42_1 f42_2 f42_ l4_ uk_3 uk_5 u4_ mT_ t4_3 ty_9 zc_9 z_9 u_9 t2_3 z2_6 z_24 e2_4 eb_24 s2_1 i2_1 e2_7 z2_1 e2_1 t2_2 z2_5 z_26 f20_3 f20_5 f20_1 f21_3 f21_5 f21_1 l2_1 t2_ z2_3 z_29 f20_2 f20_4 f20_ f21_2 f21_4 f21_ f22_1 f22_2 f22_ f23_1 f23_2 f23_ l2_ t2_1 z2_4 z_27 e2_3 e2_9 s2_ i2_ e2_6 z2_ e2_ ty_4 zc_4 z_4 u_4 t4_ z4_1 z_48 e4_1 e4_3 s4_ i4_ e4_2 z4_ e4_ t6_3 z6_4 z_64 e6_1 e6_3 s6_ i6_ e6_2 z6_ e6_ t3_ z3_ z_31 f30_1 f30_2 f30_ f31_1 f31_2 f31_ l3_ t6_ z6_1 z_69 t5_ z5_ z_54 t1_4 z1_3 z1_8 u1_ t6_1 z6_2 z_68 t1_5 z1_4 z1_9 t6_4 z6_5 z_62 t1_2 z1_1 z1_6 f10_1 f10_2 f10_ f11_1 f11_2 f11_ l1_ t9_1 z9_2 z_95 e9_1 e9_3 s9_ i9_ e9_2 z9_ e9_ t9_ z9_1 z_97 f90_1 f90_2 f90_ l9_ t1_ z1_ z1_5 t6_2 z6_3 z_66 f60_1 f60_2 f60_ f61_1 f61_2 f61_ l6_ t4_4 z4_4 z_40 f40_3 f40_5 f40_1 f41_3 f41_5 f41_1 l4_1 t1_3 z1_2 z1_7 t1_1
end Go.Proofs.YtckabmmondelpaaGreat
