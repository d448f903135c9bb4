/- Lemmas of the proof; each says what it shows. -/
import Derived.Test.YtkoghcphkdecoaaGreatAvF5
import Derived.Test.YtkoghcphkdecoaaGreatChecked
import Derived.KernelRfl
set_option linter.unusedSimpArgs false
set_option linter.unusedVariables false
set_option linter.defProp false
set_option maxRecDepth 4000
namespace Go.Proofs.YtkoghcphkdecoaaGreat
open Go.Av
open ElemZero renaming mk'→bH
open FieldIs renaming mk'→bg
open Tryz renaming prog→aj
open TyIs renaming mk'→ba
open ZeroIs renaming one→bm,agg→bD
theorem mixed:Tryz.prog.follows .mixedOrders=true:=by kernel_rfl
theorem mT_2:(Tryz.prog.follows .mixedOrders=true)=True:=eq_true mixed
theorem i_3:Tryz.prog.info? 3=some Tryz.t3:=by kernel_rfl
theorem ty_3:TyIs aj 3 false 1:=ba Tryz.underlying3 i_3 rfl rfl
theorem zc_3:zcv aj 8 3=.pv (.lit (.int .i64 0)):=by kernel_rfl
theorem z_3:ZeroIs aj 3 (.pv (.lit (.int .i64 0))):=bm i_3 rfl rfl rfl rfl rfl
theorem i_4:Tryz.prog.info? 4=some Tryz.t4:=by kernel_rfl
theorem ty_4:TyIs aj 4 false 1:=ba Tryz.underlying4 i_4 rfl rfl
theorem zc_4:zcv aj 8 4=.pv (.lit (.bool false)):=by kernel_rfl
theorem z_4:ZeroIs aj 4 (.pv (.lit (.bool false))):=bm i_4 rfl rfl rfl rfl rfl
theorem u_4:(Tryz.prog.underlying 4=some .bool)=True:=eq_true Tryz.underlying4
theorem i_5:Tryz.prog.info? 5=some Tryz.t5:=by kernel_rfl
theorem ty_5:TyIs aj 5 false 1:=ba Tryz.underlying5 i_5 rfl rfl
theorem zc_5:zcv aj 8 5=.pv (.lit (.int .u8 0)):=by kernel_rfl
theorem z_5:ZeroIs aj 5 (.pv (.lit (.int .u8 0))):=bm i_5 rfl rfl rfl rfl rfl
theorem i_9:Tryz.prog.info? 9=some Tryz.t9:=by kernel_rfl
theorem ty_9:TyIs aj 9 false 1:=ba Tryz.underlying9 i_9 rfl rfl
theorem zc_9:zcv aj 8 9=.pv (.lit (.string ⟨#[]⟩)):=by kernel_rfl
theorem z_9:ZeroIs aj 9 (.pv (.lit (.string ⟨#[]⟩))):=bm i_9 rfl rfl rfl rfl rfl
theorem u_9:(Tryz.prog.underlying 9=some .string)=True:=eq_true Tryz.underlying9
theorem i_22:Tryz.prog.info? 22=some Tryz.t22:=by kernel_rfl
theorem ty_22:TyIs aj 22 false 1:=ba Tryz.underlying22 i_22 rfl rfl
theorem zc_22:zcv aj 8 22=.pv (.sl true 5 []):=by kernel_rfl
theorem z_22:ZeroIs aj 22 (.pv (.sl true 5 [])):=bm i_22 rfl rfl rfl rfl rfl
theorem i_29:Tryz.prog.info? 29=some Tryz.t29:=by kernel_rfl
theorem es_22:eSize aj 22=5:=by kernel_rfl
theorem eb_22:eB_ aj 22=88:=by kernel_rfl
theorem sl_22:SlIs aj 22 5 88:=SlIs.mk' Tryz.underlying22 i_29 rfl rfl rfl rfl (by decide)
theorem is_22:IsSl aj 22:=⟨_,Tryz.underlying22⟩
theorem el_22:eOT_ aj 22=29:=by kernel_rfl
theorem ze_22:zel aj 22=.agg [(.lit (.int .i64 0)),.agg [(.lit (.string ⟨#[]⟩)),(.sl true 2 [])],(.lit (.string ⟨#[]⟩)),(.sl true 5 [])]:=by kernel_rfl
theorem ez_22:ElemZero aj 22 (.agg [(.lit (.int .i64 0)),.agg [(.lit (.string ⟨#[]⟩)),(.sl true 2 [])],(.lit (.string ⟨#[]⟩)),(.sl true 5 [])]):=bH Tryz.underlying22 (bD i_29 rfl rfl rfl)
theorem i_24:Tryz.prog.info? 24=some Tryz.t24:=by kernel_rfl
theorem ty_24:TyIs aj 24 true 2:=ba Tryz.underlying24 i_24 rfl rfl
theorem zc_24:zcv aj 8 24=.node [.pv (.sl true 5 []),.pv (.sl true 5 [])]:=by kernel_rfl
theorem z_24:ZeroIs aj 24 (.node [.pv (.sl true 5 []),.pv (.sl true 5 [])]):=bD i_24 rfl rfl rfl
theorem f20_5:fOff aj 24 0=0:=by kernel_rfl
theorem f20_8:FieldIs aj 24 0 0:=bg Tryz.underlying24 rfl rfl i_22 (by decide)
theorem f20_2:fldT aj 24 0=22:=by kernel_rfl
theorem f21_5:fOff aj 24 1=1:=by kernel_rfl
theorem f21_8:FieldIs aj 24 1 1:=bg Tryz.underlying24 rfl rfl i_22 (by decide)
theorem f21_2:fldT aj 24 1=22:=by kernel_rfl
theorem l2_2:LO_ aj 24 [.pv (.sl true 5 []),.pv (.sl true 5 [])]:=.inr ⟨_,Tryz.underlying24,rfl,fun k f hk=>by match k,hk with | 0,hk=>(obtain rfl:=Option.some.inj hk; exact⟨rfl,_,i_22,rfl⟩) | 1,hk=>(obtain rfl:=Option.some.inj hk; exact⟨rfl,_,i_22,rfl⟩) | k+2,hk=>simp at hk⟩
theorem i_25:Tryz.prog.info? 25=some Tryz.t25:=by kernel_rfl
theorem ty_25:TyIs aj 25 false 1:=ba Tryz.underlying25 i_25 rfl rfl
theorem zc_25:zcv aj 8 25=.pv (.sl true 2 []):=by kernel_rfl
theorem z_25:ZeroIs aj 25 (.pv (.sl true 2 [])):=bm i_25 rfl rfl rfl rfl rfl
theorem i_27:Tryz.prog.info? 27=some Tryz.t27:=by kernel_rfl
theorem es_25:eSize aj 25=2:=by kernel_rfl
theorem eb_25:eB_ aj 25=40:=by kernel_rfl
theorem sl_25:SlIs aj 25 2 40:=SlIs.mk' Tryz.underlying25 i_27 rfl rfl rfl rfl (by decide)
theorem is_25:IsSl aj 25:=⟨_,Tryz.underlying25⟩
theorem el_25:eOT_ aj 25=27:=by kernel_rfl
theorem ze_25:zel aj 25=.agg [(.lit (.string ⟨#[]⟩)),(.sl true 2 [])]:=by kernel_rfl
theorem ez_25:ElemZero aj 25 (.agg [(.lit (.string ⟨#[]⟩)),(.sl true 2 [])]):=bH Tryz.underlying25 (bD i_27 rfl rfl rfl)
theorem ty_27:TyIs aj 27 true 2:=ba Tryz.underlying27 i_27 rfl rfl
theorem zc_27:zcv aj 8 27=.node [.pv (.lit (.string ⟨#[]⟩)),.pv (.sl true 2 [])]:=by kernel_rfl
theorem z_27:ZeroIs aj 27 (.node [.pv (.lit (.string ⟨#[]⟩)),.pv (.sl true 2 [])]):=bD i_27 rfl rfl rfl
theorem f20_4:fOff aj 27 0=0:=by kernel_rfl
theorem f20_7:FieldIs aj 27 0 0:=bg Tryz.underlying27 rfl rfl i_9 (by decide)
theorem f20_1:fldT aj 27 0=9:=by kernel_rfl
theorem f21_4:fOff aj 27 1=1:=by kernel_rfl
theorem f21_7:FieldIs aj 27 1 1:=bg Tryz.underlying27 rfl rfl i_25 (by decide)
theorem f21_1:fldT aj 27 1=25:=by kernel_rfl
theorem l2_1:LO_ aj 27 [.pv (.lit (.string ⟨#[]⟩)),.pv (.sl true 2 [])]:=.inr ⟨_,Tryz.underlying27,rfl,fun k f hk=>by match k,hk with | 0,hk=>(obtain rfl:=Option.some.inj hk; exact⟨rfl,_,i_9,rfl⟩) | 1,hk=>(obtain rfl:=Option.some.inj hk; exact⟨rfl,_,i_25,rfl⟩) | k+2,hk=>simp at hk⟩
theorem ty_29:TyIs aj 29 true 5:=ba Tryz.underlying29 i_29 rfl rfl
theorem zc_29:zcv aj 8 29=.node [.pv (.lit (.int .i64 0)),.node [.pv (.lit (.string ⟨#[]⟩)),.pv (.sl true 2 [])],.pv (.lit (.string ⟨#[]⟩)),.pv (.sl true 5 [])]:=by kernel_rfl
theorem z_29:ZeroIs aj 29 (.node [.pv (.lit (.int .i64 0)),.node [.pv (.lit (.string ⟨#[]⟩)),.pv (.sl true 2 [])],.pv (.lit (.string ⟨#[]⟩)),.pv (.sl true 5 [])]):=bD i_29 rfl rfl rfl
theorem f20_3:fOff aj 29 0=0:=by kernel_rfl
theorem f20_6:FieldIs aj 29 0 0:=bg Tryz.underlying29 rfl rfl i_3 (by decide)
theorem f20_:fldT aj 29 0=3:=by kernel_rfl
theorem f21_3:fOff aj 29 1=1:=by kernel_rfl
theorem f21_6:FieldIs aj 29 1 1:=bg Tryz.underlying29 rfl rfl i_27 (by decide)
theorem f21_:fldT aj 29 1=27:=by kernel_rfl
theorem f22_1:fOff aj 29 2=3:=by kernel_rfl
theorem f22_2:FieldIs aj 29 2 3:=bg Tryz.underlying29 rfl rfl i_9 (by decide)
theorem f22_:fldT aj 29 2=9:=by kernel_rfl
theorem f23_1:fOff aj 29 3=4:=by kernel_rfl
theorem f23_2:FieldIs aj 29 3 4:=bg Tryz.underlying29 rfl rfl i_22 (by decide)
theorem f23_:fldT aj 29 3=22:=by kernel_rfl
theorem l2_:LO_ aj 29 [.pv (.lit (.int .i64 0)),.node [.pv (.lit (.string ⟨#[]⟩)),.pv (.sl true 2 [])],.pv (.lit (.string ⟨#[]⟩)),.pv (.sl true 5 [])]:=.inr ⟨_,Tryz.underlying29,rfl,fun k f hk=>by match k,hk with | 0,hk=>(obtain rfl:=Option.some.inj hk; exact⟨rfl,_,i_3,rfl⟩) | 1,hk=>(obtain rfl:=Option.some.inj hk; exact⟨rfl,_,i_27,rfl⟩) | 2,hk=>(obtain rfl:=Option.some.inj hk; exact⟨rfl,_,i_9,rfl⟩) | 3,hk=>(obtain rfl:=Option.some.inj hk; exact⟨rfl,_,i_22,rfl⟩) | k+4,hk=>simp at hk⟩
theorem i_30:Tryz.prog.info? 30=some Tryz.t30:=by kernel_rfl
theorem ty_30:TyIs aj 30 false 1:=ba Tryz.underlying30 i_30 rfl rfl
theorem zc_30:zcv aj 8 30=.pv (.sl true 12 []):=by kernel_rfl
theorem z_30:ZeroIs aj 30 (.pv (.sl true 12 [])):=bm i_30 rfl rfl rfl rfl rfl
theorem i_32:Tryz.prog.info? 32=some Tryz.t32:=by kernel_rfl
theorem es_30:eSize aj 30=12:=by kernel_rfl
theorem eb_30:eB_ aj 30=216:=by kernel_rfl
theorem sl_30:SlIs aj 30 12 216:=SlIs.mk' Tryz.underlying30 i_32 rfl rfl rfl rfl (by decide)
theorem is_30:IsSl aj 30:=⟨_,Tryz.underlying30⟩
theorem el_30:eOT_ aj 30=32:=by kernel_rfl
theorem ze_30:zel aj 30=.agg [(.lit (.int .i64 0)),.agg [(.sl true 5 []),(.sl true 5 [])],(.lit (.int .i64 0)),.agg [(.lit (.string ⟨#[]⟩)),(.sl true 2 [])],.agg [(.lit (.int .i64 0)),.agg [(.lit (.string ⟨#[]⟩)),(.sl true 2 [])],(.lit (.string ⟨#[]⟩)),(.sl true 5 [])],(.sl true 12 [])]:=by kernel_rfl
theorem ez_30:ElemZero aj 30 (.agg [(.lit (.int .i64 0)),.agg [(.sl true 5 []),(.sl true 5 [])],(.lit (.int .i64 0)),.agg [(.lit (.string ⟨#[]⟩)),(.sl true 2 [])],.agg [(.lit (.int .i64 0)),.agg [(.lit (.string ⟨#[]⟩)),(.sl true 2 [])],(.lit (.string ⟨#[]⟩)),(.sl true 5 [])],(.sl true 12 [])]):=bH Tryz.underlying30 (bD i_32 rfl rfl rfl)
theorem ty_32:TyIs aj 32 true 12:=ba Tryz.underlying32 i_32 rfl rfl
theorem zc_32:zcv aj 8 32=.node [.pv (.lit (.int .i64 0)),.node [.pv (.sl true 5 []),.pv (.sl true 5 [])],.pv (.lit (.int .i64 0)),.node [.pv (.lit (.string ⟨#[]⟩)),.pv (.sl true 2 [])],.node [.pv (.lit (.int .i64 0)),.node [.pv (.lit (.string ⟨#[]⟩)),.pv (.sl true 2 [])],.pv (.lit (.string ⟨#[]⟩)),.pv (.sl true 5 [])],.pv (.sl true 12 [])]:=by kernel_rfl
theorem z_32:ZeroIs aj 32 (.node [.pv (.lit (.int .i64 0)),.node [.pv (.sl true 5 []),.pv (.sl true 5 [])],.pv (.lit (.int .i64 0)),.node [.pv (.lit (.string ⟨#[]⟩)),.pv (.sl true 2 [])],.node [.pv (.lit (.int .i64 0)),.node [.pv (.lit (.string ⟨#[]⟩)),.pv (.sl true 2 [])],.pv (.lit (.string ⟨#[]⟩)),.pv (.sl true 5 [])],.pv (.sl true 12 [])]):=bD i_32 rfl rfl rfl
theorem f30_3:fOff aj 32 0=0:=by kernel_rfl
theorem f30_5:FieldIs aj 32 0 0:=bg Tryz.underlying32 rfl rfl i_3 (by decide)
theorem f30_1:fldT aj 32 0=3:=by kernel_rfl
theorem f31_3:fOff aj 32 1=1:=by kernel_rfl
theorem f31_5:FieldIs aj 32 1 1:=bg Tryz.underlying32 rfl rfl i_24 (by decide)
theorem f31_1:fldT aj 32 1=24:=by kernel_rfl
theorem f32_1:fOff aj 32 2=3:=by kernel_rfl
theorem f32_2:FieldIs aj 32 2 3:=bg Tryz.underlying32 rfl rfl i_3 (by decide)
theorem f32_:fldT aj 32 2=3:=by kernel_rfl
theorem f33_1:fOff aj 32 3=4:=by kernel_rfl
theorem f33_2:FieldIs aj 32 3 4:=bg Tryz.underlying32 rfl rfl i_27 (by decide)
theorem f33_:fldT aj 32 3=27:=by kernel_rfl
theorem f34_1:fOff aj 32 4=6:=by kernel_rfl
theorem f34_2:FieldIs aj 32 4 6:=bg Tryz.underlying32 rfl rfl i_29 (by decide)
theorem f34_:fldT aj 32 4=29:=by kernel_rfl
theorem f35_1:fOff aj 32 5=11:=by kernel_rfl
theorem f35_2:FieldIs aj 32 5 11:=bg Tryz.underlying32 rfl rfl i_30 (by decide)
theorem f35_:fldT aj 32 5=30:=by kernel_rfl
theorem l3_1:LO_ aj 32 [.pv (.lit (.int .i64 0)),.node [.pv (.sl true 5 []),.pv (.sl true 5 [])],.pv (.lit (.int .i64 0)),.node [.pv (.lit (.string ⟨#[]⟩)),.pv (.sl true 2 [])],.node [.pv (.lit (.int .i64 0)),.node [.pv (.lit (.string ⟨#[]⟩)),.pv (.sl true 2 [])],.pv (.lit (.string ⟨#[]⟩)),.pv (.sl true 5 [])],.pv (.sl true 12 [])]:=.inr ⟨_,Tryz.underlying32,rfl,fun k f hk=>by match k,hk with | 0,hk=>(obtain rfl:=Option.some.inj hk; exact⟨rfl,_,i_3,rfl⟩) | 1,hk=>(obtain rfl:=Option.some.inj hk; exact⟨rfl,_,i_24,rfl⟩) | 2,hk=>(obtain rfl:=Option.some.inj hk; exact⟨rfl,_,i_3,rfl⟩) | 3,hk=>(obtain rfl:=Option.some.inj hk; exact⟨rfl,_,i_27,rfl⟩) | 4,hk=>(obtain rfl:=Option.some.inj hk; exact⟨rfl,_,i_29,rfl⟩) | 5,hk=>(obtain rfl:=Option.some.inj hk; exact⟨rfl,_,i_30,rfl⟩) | k+6,hk=>simp at hk⟩
theorem i_34:Tryz.prog.info? 34=some Tryz.t34:=by kernel_rfl
theorem ty_34:TyIs aj 34 false 1:=ba Tryz.underlying34 i_34 rfl rfl
theorem zc_34:zcv aj 8 34=.pv (.sl true 1 []):=by kernel_rfl
theorem z_34:ZeroIs aj 34 (.pv (.sl true 1 [])):=bm i_34 rfl rfl rfl rfl rfl
theorem es_34:eSize aj 34=1:=by kernel_rfl
theorem eb_34:eB_ aj 34=8:=by kernel_rfl
theorem sl_34:SlIs aj 34 1 8:=SlIs.mk' Tryz.underlying34 i_3 rfl rfl rfl rfl (by decide)
theorem is_34:IsSl aj 34:=⟨_,Tryz.underlying34⟩
theorem el_34:eOT_ aj 34=3:=by kernel_rfl
theorem ze_34:zel aj 34=(.lit (.int .i64 0)):=by kernel_rfl
theorem ez_34:ElemZero aj 34 ((.lit (.int .i64 0))):=bH Tryz.underlying34 (bm i_3 rfl rfl rfl rfl rfl)
theorem i_37:Tryz.prog.info? 37=some Tryz.t37:=by kernel_rfl
theorem ty_37:TyIs aj 37 false 1:=ba Tryz.underlying37 i_37 rfl rfl
theorem zc_37:zcv aj 8 37=.pv (.sl true 5 []):=by kernel_rfl
theorem z_37:ZeroIs aj 37 (.pv (.sl true 5 [])):=bm i_37 rfl rfl rfl rfl rfl
theorem i_44:Tryz.prog.info? 44=some Tryz.t44:=by kernel_rfl
theorem es_37:eSize aj 37=5:=by kernel_rfl
theorem eb_37:eB_ aj 37=88:=by kernel_rfl
theorem sl_37:SlIs aj 37 5 88:=SlIs.mk' Tryz.underlying37 i_44 rfl rfl rfl rfl (by decide)
theorem is_37:IsSl aj 37:=⟨_,Tryz.underlying37⟩
theorem el_37:eOT_ aj 37=44:=by kernel_rfl
theorem ze_37:zel aj 37=.agg [(.lit (.int .i64 0)),.agg [(.lit (.string ⟨#[]⟩)),(.sl true 2 [])],(.lit (.string ⟨#[]⟩)),(.sl true 5 [])]:=by kernel_rfl
theorem ez_37:ElemZero aj 37 (.agg [(.lit (.int .i64 0)),.agg [(.lit (.string ⟨#[]⟩)),(.sl true 2 [])],(.lit (.string ⟨#[]⟩)),(.sl true 5 [])]):=bH Tryz.underlying37 (bD i_44 rfl rfl rfl)
theorem i_39:Tryz.prog.info? 39=some Tryz.t39:=by kernel_rfl
theorem ty_39:TyIs aj 39 true 2:=ba Tryz.underlying39 i_39 rfl rfl
theorem zc_39:zcv aj 8 39=.node [.pv (.sl true 5 []),.pv (.sl true 5 [])]:=by kernel_rfl
theorem z_39:ZeroIs aj 39 (.node [.pv (.sl true 5 []),.pv (.sl true 5 [])]):=bD i_39 rfl rfl rfl
theorem f30_2:fOff aj 39 0=0:=by kernel_rfl
theorem f30_4:FieldIs aj 39 0 0:=bg Tryz.underlying39 rfl rfl i_37 (by decide)
theorem f30_:fldT aj 39 0=37:=by kernel_rfl
theorem f31_2:fOff aj 39 1=1:=by kernel_rfl
theorem f31_4:FieldIs aj 39 1 1:=bg Tryz.underlying39 rfl rfl i_37 (by decide)
theorem f31_:fldT aj 39 1=37:=by kernel_rfl
theorem l3_:LO_ aj 39 [.pv (.sl true 5 []),.pv (.sl true 5 [])]:=.inr ⟨_,Tryz.underlying39,rfl,fun k f hk=>by match k,hk with | 0,hk=>(obtain rfl:=Option.some.inj hk; exact⟨rfl,_,i_37,rfl⟩) | 1,hk=>(obtain rfl:=Option.some.inj hk; exact⟨rfl,_,i_37,rfl⟩) | k+2,hk=>simp at hk⟩
theorem i_40:Tryz.prog.info? 40=some Tryz.t40:=by kernel_rfl
theorem ty_40:TyIs aj 40 false 1:=ba Tryz.underlying40 i_40 rfl rfl
theorem zc_40:zcv aj 8 40=.pv (.sl true 2 []):=by kernel_rfl
theorem z_40:ZeroIs aj 40 (.pv (.sl true 2 [])):=bm i_40 rfl rfl rfl rfl rfl
theorem i_42:Tryz.prog.info? 42=some Tryz.t42:=by kernel_rfl
theorem es_40:eSize aj 40=2:=by kernel_rfl
theorem eb_40:eB_ aj 40=40:=by kernel_rfl
theorem sl_40:SlIs aj 40 2 40:=SlIs.mk' Tryz.underlying40 i_42 rfl rfl rfl rfl (by decide)
theorem is_40:IsSl aj 40:=⟨_,Tryz.underlying40⟩
theorem el_40:eOT_ aj 40=42:=by kernel_rfl
theorem ze_40:zel aj 40=.agg [(.lit (.string ⟨#[]⟩)),(.sl true 2 [])]:=by kernel_rfl
theorem ez_40:ElemZero aj 40 (.agg [(.lit (.string ⟨#[]⟩)),(.sl true 2 [])]):=bH Tryz.underlying40 (bD i_42 rfl rfl rfl)
theorem ty_42:TyIs aj 42 true 2:=ba Tryz.underlying42 i_42 rfl rfl
theorem zc_42:zcv aj 8 42=.node [.pv (.lit (.string ⟨#[]⟩)),.pv (.sl true 2 [])]:=by kernel_rfl
theorem z_42:ZeroIs aj 42 (.node [.pv (.lit (.string ⟨#[]⟩)),.pv (.sl true 2 [])]):=bD i_42 rfl rfl rfl
theorem f40_5:fOff aj 42 0=0:=by kernel_rfl
theorem f40_8:FieldIs aj 42 0 0:=bg Tryz.underlying42 rfl rfl i_9 (by decide)
theorem f40_2:fldT aj 42 0=9:=by kernel_rfl
theorem f41_5:fOff aj 42 1=1:=by kernel_rfl
theorem f41_8:FieldIs aj 42 1 1:=bg Tryz.underlying42 rfl rfl i_40 (by decide)
theorem f41_2:fldT aj 42 1=40:=by kernel_rfl
theorem l4_2:LO_ aj 42 [.pv (.lit (.string ⟨#[]⟩)),.pv (.sl true 2 [])]:=.inr ⟨_,Tryz.underlying42,rfl,fun k f hk=>by match k,hk with | 0,hk=>(obtain rfl:=Option.some.inj hk; exact⟨rfl,_,i_9,rfl⟩) | 1,hk=>(obtain rfl:=Option.some.inj hk; exact⟨rfl,_,i_40,rfl⟩) | k+2,hk=>simp at hk⟩
theorem ty_44:TyIs aj 44 true 5:=ba Tryz.underlying44 i_44 rfl rfl
theorem zc_44:zcv aj 8 44=.node [.pv (.lit (.int .i64 0)),.node [.pv (.lit (.string ⟨#[]⟩)),.pv (.sl true 2 [])],.pv (.lit (.string ⟨#[]⟩)),.pv (.sl true 5 [])]:=by kernel_rfl
theorem z_44:ZeroIs aj 44 (.node [.pv (.lit (.int .i64 0)),.node [.pv (.lit (.string ⟨#[]⟩)),.pv (.sl true 2 [])],.pv (.lit (.string ⟨#[]⟩)),.pv (.sl true 5 [])]):=bD i_44 rfl rfl rfl
theorem f40_4:fOff aj 44 0=0:=by kernel_rfl
theorem f40_7:FieldIs aj 44 0 0:=bg Tryz.underlying44 rfl rfl i_3 (by decide)
theorem f40_1:fldT aj 44 0=3:=by kernel_rfl
theorem f41_4:fOff aj 44 1=1:=by kernel_rfl
theorem f41_7:FieldIs aj 44 1 1:=bg Tryz.underlying44 rfl rfl i_42 (by decide)
theorem f41_1:fldT aj 44 1=42:=by kernel_rfl
theorem f42_3:fOff aj 44 2=3:=by kernel_rfl
theorem f42_5:FieldIs aj 44 2 3:=bg Tryz.underlying44 rfl rfl i_9 (by decide)
theorem f42_1:fldT aj 44 2=9:=by kernel_rfl
theorem f43_3:fOff aj 44 3=4:=by kernel_rfl
theorem f43_5:FieldIs aj 44 3 4:=bg Tryz.underlying44 rfl rfl i_37 (by decide)
theorem f43_1:fldT aj 44 3=37:=by kernel_rfl
theorem l4_1:LO_ aj 44 [.pv (.lit (.int .i64 0)),.node [.pv (.lit (.string ⟨#[]⟩)),.pv (.sl true 2 [])],.pv (.lit (.string ⟨#[]⟩)),.pv (.sl true 5 [])]:=.inr ⟨_,Tryz.underlying44,rfl,fun k f hk=>by match k,hk with | 0,hk=>(obtain rfl:=Option.some.inj hk; exact⟨rfl,_,i_3,rfl⟩) | 1,hk=>(obtain rfl:=Option.some.inj hk; exact⟨rfl,_,i_42,rfl⟩) | 2,hk=>(obtain rfl:=Option.some.inj hk; exact⟨rfl,_,i_9,rfl⟩) | 3,hk=>(obtain rfl:=Option.some.inj hk; exact⟨rfl,_,i_37,rfl⟩) | k+4,hk=>simp at hk⟩
theorem i_45:Tryz.prog.info? 45=some Tryz.t45:=by kernel_rfl
theorem ty_45:TyIs aj 45 false 1:=ba Tryz.underlying45 i_45 rfl rfl
theorem zc_45:zcv aj 8 45=.pv (.sl true 12 []):=by kernel_rfl
theorem z_45:ZeroIs aj 45 (.pv (.sl true 12 [])):=bm i_45 rfl rfl rfl rfl rfl
theorem i_47:Tryz.prog.info? 47=some Tryz.t47:=by kernel_rfl
theorem es_45:eSize aj 45=12:=by kernel_rfl
theorem eb_45:eB_ aj 45=216:=by kernel_rfl
theorem sl_45:SlIs aj 45 12 216:=SlIs.mk' Tryz.underlying45 i_47 rfl rfl rfl rfl (by decide)
theorem is_45:IsSl aj 45:=⟨_,Tryz.underlying45⟩
theorem el_45:eOT_ aj 45=47:=by kernel_rfl
theorem ze_45:zel aj 45=.agg [(.lit (.int .i64 0)),.agg [(.sl true 5 []),(.sl true 5 [])],(.lit (.int .i64 0)),.agg [(.lit (.string ⟨#[]⟩)),(.sl true 2 [])],.agg [(.lit (.int .i64 0)),.agg [(.lit (.string ⟨#[]⟩)),(.sl true 2 [])],(.lit (.string ⟨#[]⟩)),(.sl true 5 [])],(.sl true 12 [])]:=by kernel_rfl
theorem ez_45:ElemZero aj 45 (.agg [(.lit (.int .i64 0)),.agg [(.sl true 5 []),(.sl true 5 [])],(.lit (.int .i64 0)),.agg [(.lit (.string ⟨#[]⟩)),(.sl true 2 [])],.agg [(.lit (.int .i64 0)),.agg [(.lit (.string ⟨#[]⟩)),(.sl true 2 [])],(.lit (.string ⟨#[]⟩)),(.sl true 5 [])],(.sl true 12 [])]):=bH Tryz.underlying45 (bD i_47 rfl rfl rfl)
theorem ty_47:TyIs aj 47 true 12:=ba Tryz.underlying47 i_47 rfl rfl
theorem zc_47:zcv aj 8 47=.node [.pv (.lit (.int .i64 0)),.node [.pv (.sl true 5 []),.pv (.sl true 5 [])],.pv (.lit (.int .i64 0)),.node [.pv (.lit (.string ⟨#[]⟩)),.pv (.sl true 2 [])],.node [.pv (.lit (.int .i64 0)),.node [.pv (.lit (.string ⟨#[]⟩)),.pv (.sl true 2 [])],.pv (.lit (.string ⟨#[]⟩)),.pv (.sl true 5 [])],.pv (.sl true 12 [])]:=by kernel_rfl
theorem z_47:ZeroIs aj 47 (.node [.pv (.lit (.int .i64 0)),.node [.pv (.sl true 5 []),.pv (.sl true 5 [])],.pv (.lit (.int .i64 0)),.node [.pv (.lit (.string ⟨#[]⟩)),.pv (.sl true 2 [])],.node [.pv (.lit (.int .i64 0)),.node [.pv (.lit (.string ⟨#[]⟩)),.pv (.sl true 2 [])],.pv (.lit (.string ⟨#[]⟩)),.pv (.sl true 5 [])],.pv (.sl true 12 [])]):=bD i_47 rfl rfl rfl
theorem f40_3:fOff aj 47 0=0:=by kernel_rfl
theorem f40_6:FieldIs aj 47 0 0:=bg Tryz.underlying47 rfl rfl i_3 (by decide)
theorem f40_:fldT aj 47 0=3:=by kernel_rfl
theorem f41_3:fOff aj 47 1=1:=by kernel_rfl
theorem f41_6:FieldIs aj 47 1 1:=bg Tryz.underlying47 rfl rfl i_39 (by decide)
theorem f41_:fldT aj 47 1=39:=by kernel_rfl
theorem f42_2:fOff aj 47 2=3:=by kernel_rfl
theorem f42_4:FieldIs aj 47 2 3:=bg Tryz.underlying47 rfl rfl i_3 (by decide)
theorem f42_:fldT aj 47 2=3:=by kernel_rfl
theorem f43_2:fOff aj 47 3=4:=by kernel_rfl
theorem f43_4:FieldIs aj 47 3 4:=bg Tryz.underlying47 rfl rfl i_42 (by decide)
theorem f43_:fldT aj 47 3=42:=by kernel_rfl
theorem f44_1:fOff aj 47 4=6:=by kernel_rfl
theorem f44_2:FieldIs aj 47 4 6:=bg Tryz.underlying47 rfl rfl i_44 (by decide)
theorem f44_:fldT aj 47 4=44:=by kernel_rfl
theorem f45_1:fOff aj 47 5=11:=by kernel_rfl
theorem f45_2:FieldIs aj 47 5 11:=bg Tryz.underlying47 rfl rfl i_45 (by decide)
theorem f45_:fldT aj 47 5=45:=by kernel_rfl
theorem l4_:LO_ aj 47 [.pv (.lit (.int .i64 0)),.node [.pv (.sl true 5 []),.pv (.sl true 5 [])],.pv (.lit (.int .i64 0)),.node [.pv (.lit (.string ⟨#[]⟩)),.pv (.sl true 2 [])],.node [.pv (.lit (.int .i64 0)),.node [.pv (.lit (.string ⟨#[]⟩)),.pv (.sl true 2 [])],.pv (.lit (.string ⟨#[]⟩)),.pv (.sl true 5 [])],.pv (.sl true 12 [])]:=.inr ⟨_,Tryz.underlying47,rfl,fun k f hk=>by match k,hk with | 0,hk=>(obtain rfl:=Option.some.inj hk; exact⟨rfl,_,i_3,rfl⟩) | 1,hk=>(obtain rfl:=Option.some.inj hk; exact⟨rfl,_,i_39,rfl⟩) | 2,hk=>(obtain rfl:=Option.some.inj hk; exact⟨rfl,_,i_3,rfl⟩) | 3,hk=>(obtain rfl:=Option.some.inj hk; exact⟨rfl,_,i_42,rfl⟩) | 4,hk=>(obtain rfl:=Option.some.inj hk; exact⟨rfl,_,i_44,rfl⟩) | 5,hk=>(obtain rfl:=Option.some.inj hk; exact⟨rfl,_,i_45,rfl⟩) | k+6,hk=>simp at hk⟩
theorem i_61:Tryz.prog.info? 61=some Tryz.t61:=by kernel_rfl
theorem ty_61:TyIs aj 61 false 1:=ba Tryz.underlying61 i_61 rfl rfl
theorem zc_61:zcv aj 8 61=.pv (.sl true 2 []):=by kernel_rfl
theorem z_61:ZeroIs aj 61 (.pv (.sl true 2 [])):=bm i_61 rfl rfl rfl rfl rfl
theorem es_61:eSize aj 61=2:=by kernel_rfl
theorem eb_61:eB_ aj 61=48:=by kernel_rfl
theorem sl_61:SlIs aj 61 2 48:=SlIs.mk' Tryz.underlying61 i_39 rfl rfl rfl rfl (by decide)
theorem is_61:IsSl aj 61:=⟨_,Tryz.underlying61⟩
theorem el_61:eOT_ aj 61=39:=by kernel_rfl
theorem ze_61:zel aj 61=.agg [(.sl true 5 []),(.sl true 5 [])]:=by kernel_rfl
theorem ez_61:ElemZero aj 61 (.agg [(.sl true 5 []),(.sl true 5 [])]):=bH Tryz.underlying61 (bD i_39 rfl rfl rfl)
theorem i_70:Tryz.prog.info? 70=some Tryz.t70:=by kernel_rfl
theorem ty_70:TyIs aj 70 false 1:=ba Tryz.underlying70 i_70 rfl rfl
theorem zc_70:zcv aj 8 70=.pv (.lit .nilFunc):=by kernel_rfl
theorem z_70:ZeroIs aj 70 (.pv (.lit .nilFunc)):=bm i_70 rfl rfl rfl rfl rfl
theorem i_84:Tryz.prog.info? 84=some Tryz.t84:=by kernel_rfl
theorem ty_84:TyIs aj 84 false 1:=ba Tryz.underlying84 i_84 rfl rfl
theorem zc_84:zcv aj 8 84=.pv (.lit .nilFunc):=by kernel_rfl
theorem z_84:ZeroIs aj 84 (.pv (.lit .nilFunc)):=bm i_84 rfl rfl rfl rfl rfl
theorem i_101:Tryz.prog.info? 101=some Tryz.t101:=by kernel_rfl
theorem t1_9:TyIs aj 101 false 1:=ba Tryz.underlying101 i_101 rfl rfl
theorem z1_13:zcv aj 8 101=.pv (.lit .nilFunc):=by kernel_rfl
theorem z_101:ZeroIs aj 101 (.pv (.lit .nilFunc)):=bm i_101 rfl rfl rfl rfl rfl
theorem i_132:Tryz.prog.info? 132=some Tryz.t132:=by kernel_rfl
theorem t1_8:TyIs aj 132 false 1:=ba Tryz.underlying132 i_132 rfl rfl
theorem z1_12:zcv aj 8 132=.pv (.lit .nilFunc):=by kernel_rfl
theorem z_132:ZeroIs aj 132 (.pv (.lit .nilFunc)):=bm i_132 rfl rfl rfl rfl rfl
theorem i_142:Tryz.prog.info? 142=some Tryz.t142:=by kernel_rfl
theorem t1_7:TyIs aj 142 false 1:=ba Tryz.underlying142 i_142 rfl rfl
theorem z1_11:zcv aj 8 142=.pv (.sl true 1 []):=by kernel_rfl
theorem z_142:ZeroIs aj 142 (.pv (.sl true 1 [])):=bm i_142 rfl rfl rfl rfl rfl
theorem e1_7:eSize aj 142=1:=by kernel_rfl
theorem e1_15:eB_ aj 142=1:=by kernel_rfl
theorem s1_3:SlIs aj 142 1 1:=SlIs.mk' Tryz.underlying142 i_5 rfl rfl rfl rfl (by decide)
theorem b1_:IB_ aj 142:=⟨_,Tryz.underlying142,Tryz.underlying5⟩
theorem i1_3:IsSl aj 142:=⟨_,Tryz.underlying142⟩
theorem e1_11:eOT_ aj 142=5:=by kernel_rfl
theorem z1_3:zel aj 142=(.lit (.int .u8 0)):=by kernel_rfl
theorem e1_3:ElemZero aj 142 ((.lit (.int .u8 0))):=bH Tryz.underlying142 (bm i_5 rfl rfl rfl rfl rfl)
theorem i_146:Tryz.prog.info? 146=some Tryz.t146:=by kernel_rfl
theorem t1_6:TyIs aj 146 false 1:=ba Tryz.underlying146 i_146 rfl rfl
theorem z1_10:zcv aj 8 146=.pv (.sl true 1 []):=by kernel_rfl
theorem z_146:ZeroIs aj 146 (.pv (.sl true 1 [])):=bm i_146 rfl rfl rfl rfl rfl
theorem e1_6:eSize aj 146=1:=by kernel_rfl
theorem e1_14:eB_ aj 146=24:=by kernel_rfl
theorem s1_2:SlIs aj 146 1 24:=SlIs.mk' Tryz.underlying146 i_37 rfl rfl rfl rfl (by decide)
theorem i1_2:IsSl aj 146:=⟨_,Tryz.underlying146⟩
theorem e1_10:eOT_ aj 146=37:=by kernel_rfl
theorem z1_2:zel aj 146=(.sl true 5 []):=by kernel_rfl
theorem e1_2:ElemZero aj 146 ((.sl true 5 [])):=bH Tryz.underlying146 (bm i_37 rfl rfl rfl rfl rfl)
theorem i_151:Tryz.prog.info? 151=some Tryz.t151:=by kernel_rfl
theorem t1_5:TyIs aj 151 false 1:=ba Tryz.underlying151 i_151 rfl rfl
theorem z1_9:zcv aj 8 151=.pv (.lit .nilFunc):=by kernel_rfl
theorem z_151:ZeroIs aj 151 (.pv (.lit .nilFunc)):=bm i_151 rfl rfl rfl rfl rfl
theorem i_159:Tryz.prog.info? 159=some Tryz.t159:=by kernel_rfl
theorem t1_4:TyIs aj 159 false 1:=ba Tryz.underlying159 i_159 rfl rfl
theorem z1_8:zcv aj 8 159=.pv (.lit .nilFunc):=by kernel_rfl
theorem z_159:ZeroIs aj 159 (.pv (.lit .nilFunc)):=bm i_159 rfl rfl rfl rfl rfl
theorem i_164:Tryz.prog.info? 164=some Tryz.t164:=by kernel_rfl
theorem t1_3:TyIs aj 164 false 1:=ba Tryz.underlying164 i_164 rfl rfl
theorem z1_7:zcv aj 8 164=.pv (.sl true 1 []):=by kernel_rfl
theorem z_164:ZeroIs aj 164 (.pv (.sl true 1 [])):=bm i_164 rfl rfl rfl rfl rfl
theorem e1_5:eSize aj 164=1:=by kernel_rfl
theorem e1_13:eB_ aj 164=16:=by kernel_rfl
theorem s1_1:SlIs aj 164 1 16:=SlIs.mk' Tryz.underlying164 i_9 rfl rfl rfl rfl (by decide)
theorem i1_1:IsSl aj 164:=⟨_,Tryz.underlying164⟩
theorem e1_9:eOT_ aj 164=9:=by kernel_rfl
theorem z1_1:zel aj 164=(.lit (.string ⟨#[]⟩)):=by kernel_rfl
theorem e1_1:ElemZero aj 164 ((.lit (.string ⟨#[]⟩))):=bH Tryz.underlying164 (bm i_9 rfl rfl rfl rfl rfl)
theorem i_179:Tryz.prog.info? 179=some Tryz.t179:=by kernel_rfl
theorem t1_2:TyIs aj 179 false 1:=ba Tryz.underlying179 i_179 rfl rfl
theorem z1_6:zcv aj 8 179=.pv (.sl true 3 []):=by kernel_rfl
theorem z_179:ZeroIs aj 179 (.pv (.sl true 3 [])):=bm i_179 rfl rfl rfl rfl rfl
theorem i_191:Tryz.prog.info? 191=some Tryz.t191:=by kernel_rfl
theorem e1_4:eSize aj 179=3:=by kernel_rfl
theorem e1_12:eB_ aj 179=56:=by kernel_rfl
theorem s1_:SlIs aj 179 3 56:=SlIs.mk' Tryz.underlying179 i_191 rfl rfl rfl rfl (by decide)
theorem i1_:IsSl aj 179:=⟨_,Tryz.underlying179⟩
theorem e1_8:eOT_ aj 179=191:=by kernel_rfl
theorem z1_:zel aj 179=.agg [(.lit (.string ⟨#[]⟩)),.agg [(.lit (.string ⟨#[]⟩)),(.sl true 2 [])]]:=by kernel_rfl
theorem e1_:ElemZero aj 179 (.agg [(.lit (.string ⟨#[]⟩)),.agg [(.lit (.string ⟨#[]⟩)),(.sl true 2 [])]]):=bH Tryz.underlying179 (bD i_191 rfl rfl rfl)
theorem i_181:Tryz.prog.info? 181=some Tryz.t181:=by kernel_rfl
theorem t1_1:TyIs aj 181 true 1:=ba Tryz.underlying181 i_181 rfl rfl
theorem z1_5:zcv aj 8 181=.node [.pv (.sl true 3 [])]:=by kernel_rfl
theorem z_181:ZeroIs aj 181 (.node [.pv (.sl true 3 [])]):=bD i_181 rfl rfl rfl
theorem f10_3:fOff aj 181 0=0:=by kernel_rfl
theorem f10_5:FieldIs aj 181 0 0:=bg Tryz.underlying181 rfl rfl i_179 (by decide)
theorem f10_1:fldT aj 181 0=179:=by kernel_rfl
theorem l1_1:LO_ aj 181 [.pv (.sl true 3 [])]:=.inr ⟨_,Tryz.underlying181,rfl,fun k f hk=>by match k,hk with | 0,hk=>(obtain rfl:=Option.some.inj hk; exact⟨rfl,_,i_179,rfl⟩) | k+1,hk=>simp at hk⟩
theorem t1_:TyIs aj 191 true 3:=ba Tryz.underlying191 i_191 rfl rfl
theorem z1_4:zcv aj 8 191=.node [.pv (.lit (.string ⟨#[]⟩)),.node [.pv (.lit (.string ⟨#[]⟩)),.pv (.sl true 2 [])]]:=by kernel_rfl
theorem z_191:ZeroIs aj 191 (.node [.pv (.lit (.string ⟨#[]⟩)),.node [.pv (.lit (.string ⟨#[]⟩)),.pv (.sl true 2 [])]]):=bD i_191 rfl rfl rfl
theorem f10_2:fOff aj 191 0=0:=by kernel_rfl
theorem f10_4:FieldIs aj 191 0 0:=bg Tryz.underlying191 rfl rfl i_9 (by decide)
theorem f10_:fldT aj 191 0=9:=by kernel_rfl
theorem f11_1:fOff aj 191 1=1:=by kernel_rfl
theorem f11_2:FieldIs aj 191 1 1:=bg Tryz.underlying191 rfl rfl i_42 (by decide)
theorem f11_:fldT aj 191 1=42:=by kernel_rfl
theorem l1_:LO_ aj 191 [.pv (.lit (.string ⟨#[]⟩)),.node [.pv (.lit (.string ⟨#[]⟩)),.pv (.sl true 2 [])]]:=.inr ⟨_,Tryz.underlying191,rfl,fun k f hk=>by match k,hk with | 0,hk=>(obtain rfl:=Option.some.inj hk; exact⟨rfl,_,i_9,rfl⟩) | 1,hk=>(obtain rfl:=Option.some.inj hk; exact⟨rfl,_,i_42,rfl⟩) | k+2,hk=>simp at hk⟩
theorem i_201:Tryz.prog.info? 201=some Tryz.t201:=by kernel_rfl
theorem t2_1:TyIs aj 201 false 1:=ba Tryz.underlying201 i_201 rfl rfl
theorem z2_1:zcv aj 8 201=.pv (.lit (.int .u64 0)):=by kernel_rfl
theorem z_201:ZeroIs aj 201 (.pv (.lit (.int .u64 0))):=bm i_201 rfl rfl rfl rfl rfl
theorem i_220:Tryz.prog.info? 220=some Tryz.t220:=by kernel_rfl
theorem t2_:TyIs aj 220 false 1:=ba Tryz.underlying220 i_220 rfl rfl
theorem z2_:zcv aj 8 220=.pv (.lit .nilFunc):=by kernel_rfl
theorem z_220:ZeroIs aj 220 (.pv (.lit .nilFunc)):=bm i_220 rfl rfl rfl rfl rfl
theorem iIB_3:iIB_ (Tryz.prog.underlying 3)=true:=by kernel_rfl
theorem uk_3:Tryz.prog.underlying 3=some (.int .i64):=Tryz.underlying3
theorem uk_5:Tryz.prog.underlying 5=some (.int .u8):=Tryz.underlying5
theorem uk_9:Tryz.prog.underlying 9=some .string:=Tryz.underlying9
theorem u2_:Tryz.prog.underlying 201=some (.int .u64):=Tryz.underlying201
attribute [push_cast] ty_3 zc_3 z_3 ty_9 zc_9 z_9 u_9 ty_25 zc_25 z_25 es_25 eb_25 sl_25 is_25 el_25 ze_25 ez_25 ty_27 zc_27 z_27 f20_4 f20_7 f20_1 f21_4 f21_7 f21_1 l2_1 ty_22 zc_22 z_22 es_22 eb_22 sl_22 is_22 el_22 ze_22 ez_22 ty_29 zc_29 z_29 f20_3 f20_6 f20_ f21_3 f21_6 f21_ f22_1 f22_2 f22_ f23_1 f23_2 f23_ l2_ ty_24 zc_24 z_24 f20_5 f20_8 f20_2 f21_5 f21_8 f21_2 l2_2 ty_30 zc_30 z_30 es_30 eb_30 sl_30 is_30 el_30 ze_30 ez_30 ty_32 zc_32 z_32 f30_3 f30_5 f30_1 f31_3 f31_5 f31_1 f32_1 f32_2 f32_ f33_1 f33_2 f33_ f34_1 f34_2 f34_ f35_1 f35_2 f35_ l3_1 ty_40 zc_40 z_40 es_40 eb_40 sl_40 is_40 el_40 ze_40 ez_40 ty_42 zc_42 z_42 f40_5 f40_8 f40_2 f41_5 f41_8 f41_2 l4_2 ty_37 zc_37 z_37 es_37 eb_37 sl_37 is_37 el_37 ze_37 ez_37 ty_44 zc_44 z_44 f40_4 f40_7 f40_1 f41_4 f41_7 f41_1 f42_3 f42_5 f42_1 f43_3 f43_5 f43_1 l4_1 ty_39 zc_39 z_39 f30_2 f30_4 f30_ f31_2 f31_4 f31_ l3_ ty_45 zc_45 z_45 es_45 eb_45 sl_45 is_45 el_45 ze_45 ez_45 ty_47 zc_47 z_47 f40_3 f40_6 f40_ f41_3 f41_6 f41_ f42_2 f42_4 f42_ f43_2 f43_4 f43_ f44_1 f44_2 f44_ f45_1 f45_2 f45_ l4_ ty_5 zc_5 z_5 ty_4 zc_4 z_4 u_4 mT_2 t1_2 z1_6 z_179 e1_4 e1_12 s1_ i1_ e1_8 z1_ e1_ t1_1 z1_5 z_181 f10_3 f10_5 f10_1 l1_1 t1_ z1_4 z_191 f10_2 f10_4 f10_ f11_1 f11_2 f11_ l1_ t1_3 z1_7 z_164 e1_5 e1_13 s1_1 i1_1 e1_9 z1_1 e1_1 ty_61 zc_61 z_61 es_61 eb_61 sl_61 is_61 el_61 ze_61 ez_61 ty_34 zc_34 z_34 es_34 eb_34 sl_34 is_34 el_34 ze_34 ez_34 t1_5 z1_9 z_151 t1_9 z1_13 z_101 ty_84 zc_84 z_84 ty_70 zc_70 z_70 t2_1 z2_1 z_201 uk_3 u2_ t1_8 z1_12 z_132 t2_ z2_ z_220 iIB_3 t1_6 z1_10 z_146 e1_6 e1_14 s1_2 i1_2 e1_10 z1_2 e1_2 t1_4 z1_8 z_159 t1_7 z1_11 z_142 e1_7 e1_15 s1_3 b1_ i1_3 e1_11 z1_3 e1_3 uk_5 uk_9
end Go.Proofs.YtkoghcphkdecoaaGreat
