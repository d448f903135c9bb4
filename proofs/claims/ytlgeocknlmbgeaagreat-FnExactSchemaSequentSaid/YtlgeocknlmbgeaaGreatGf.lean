/- A part of the proof: lemmas only; nothing is claimed here beyond what each lemma says. -/
import Derived.Test.YtlgeocknlmbgeaaGreatAvF5
import Derived.Test.YtlgeocknlmbgeaaGreatChecked
import Derived.KernelRfl
set_option linter.unusedSimpArgs false
set_option linter.unusedVariables false
set_option linter.defProp false
set_option maxRecDepth 4000
namespace Go.Proofs.YtlgeocknlmbgeaaGreat
open Go.Av
open ElemZero renaming mk'→bD
open FieldIs renaming mk'→aU
open Tryz renaming prog→ah
open TyIs renaming mk'→aY
open ZeroIs renaming one→bj,agg→bw
theorem mixed:Tryz.prog.follows .mixedOrders=true:=by kernel_rfl
theorem mixedT:(Tryz.prog.follows .mixedOrders=true)=True:=eq_true mixed
theorem i_3:Tryz.prog.info? 3=some Tryz.t3:=by kernel_rfl
theorem ty_3:TyIs ah 3 false 1:=aY Tryz.underlying3 i_3 rfl rfl
theorem zc_3:zcv ah 8 3=.pv (.lit (.int .i64 0)):=by kernel_rfl
theorem z_3:ZeroIs ah 3 (.pv (.lit (.int .i64 0))):=bj i_3 rfl rfl rfl rfl rfl
theorem i_4:Tryz.prog.info? 4=some Tryz.t4:=by kernel_rfl
theorem ty_4:TyIs ah 4 false 1:=aY Tryz.underlying4 i_4 rfl rfl
theorem zc_4:zcv ah 8 4=.pv (.lit (.bool false)):=by kernel_rfl
theorem z_4:ZeroIs ah 4 (.pv (.lit (.bool false))):=bj i_4 rfl rfl rfl rfl rfl
theorem u_4:(Tryz.prog.underlying 4=some .bool)=True:=eq_true Tryz.underlying4
theorem i_5:Tryz.prog.info? 5=some Tryz.t5:=by kernel_rfl
theorem ty_5:TyIs ah 5 false 1:=aY Tryz.underlying5 i_5 rfl rfl
theorem zc_5:zcv ah 8 5=.pv (.lit (.int .u8 0)):=by kernel_rfl
theorem z_5:ZeroIs ah 5 (.pv (.lit (.int .u8 0))):=bj i_5 rfl rfl rfl rfl rfl
theorem i_9:Tryz.prog.info? 9=some Tryz.t9:=by kernel_rfl
theorem ty_9:TyIs ah 9 false 1:=aY Tryz.underlying9 i_9 rfl rfl
theorem zc_9:zcv ah 8 9=.pv (.lit (.string ⟨#[]⟩)):=by kernel_rfl
theorem z_9:ZeroIs ah 9 (.pv (.lit (.string ⟨#[]⟩))):=bj i_9 rfl rfl rfl rfl rfl
theorem u_9:(Tryz.prog.underlying 9=some .string)=True:=eq_true Tryz.underlying9
theorem i_22:Tryz.prog.info? 22=some Tryz.t22:=by kernel_rfl
theorem ty_22:TyIs ah 22 false 1:=aY Tryz.underlying22 i_22 rfl rfl
theorem zc_22:zcv ah 8 22=.pv (.sl true 2 []):=by kernel_rfl
theorem z_22:ZeroIs ah 22 (.pv (.sl true 2 [])):=bj i_22 rfl rfl rfl rfl rfl
theorem i_24:Tryz.prog.info? 24=some Tryz.t24:=by kernel_rfl
theorem es_22:eSize ah 22=2:=by kernel_rfl
theorem eb_22:eBytes ah 22=40:=by kernel_rfl
theorem sl_22:SlIs ah 22 2 40:=SlIs.mk' Tryz.underlying22 i_24 rfl rfl rfl rfl (by decide)
theorem is_22:IsSl ah 22:=⟨_,Tryz.underlying22⟩
theorem el_22:eOT_ ah 22=24:=by kernel_rfl
theorem ze_22:zel ah 22=.agg [(.lit (.string ⟨#[]⟩)),(.sl true 2 [])]:=by kernel_rfl
theorem ez_22:ElemZero ah 22 (.agg [(.lit (.string ⟨#[]⟩)),(.sl true 2 [])]):=bD Tryz.underlying22 (bw i_24 rfl rfl rfl)
theorem ty_24:TyIs ah 24 true 2:=aY Tryz.underlying24 i_24 rfl rfl
theorem zc_24:zcv ah 8 24=.node [.pv (.lit (.string ⟨#[]⟩)),.pv (.sl true 2 [])]:=by kernel_rfl
theorem z_24:ZeroIs ah 24 (.node [.pv (.lit (.string ⟨#[]⟩)),.pv (.sl true 2 [])]):=bw i_24 rfl rfl rfl
theorem f20_5:fOff ah 24 0=0:=by kernel_rfl
theorem f20_8:FieldIs ah 24 0 0:=aU Tryz.underlying24 rfl rfl i_9 (by decide)
theorem f20_2:fldT ah 24 0=9:=by kernel_rfl
theorem f21_5:fOff ah 24 1=1:=by kernel_rfl
theorem f21_8:FieldIs ah 24 1 1:=aU Tryz.underlying24 rfl rfl i_22 (by decide)
theorem f21_2:fldT ah 24 1=22:=by kernel_rfl
theorem lay_24:LO_ ah 24 [.pv (.lit (.string ⟨#[]⟩)),.pv (.sl true 2 [])]:=.inr ⟨_,Tryz.underlying24,rfl,fun k f hk=>by match k,hk with | 0,hk=>(obtain rfl:=Option.some.inj hk; exact⟨rfl,_,i_9,rfl⟩) | 1,hk=>(obtain rfl:=Option.some.inj hk; exact⟨rfl,_,i_22,rfl⟩) | k+2,hk=>simp at hk⟩
theorem i_25:Tryz.prog.info? 25=some Tryz.t25:=by kernel_rfl
theorem ty_25:TyIs ah 25 false 1:=aY Tryz.underlying25 i_25 rfl rfl
theorem zc_25:zcv ah 8 25=.pv (.sl true 5 []):=by kernel_rfl
theorem z_25:ZeroIs ah 25 (.pv (.sl true 5 [])):=bj i_25 rfl rfl rfl rfl rfl
theorem i_27:Tryz.prog.info? 27=some Tryz.t27:=by kernel_rfl
theorem es_25:eSize ah 25=5:=by kernel_rfl
theorem eb_25:eBytes ah 25=88:=by kernel_rfl
theorem sl_25:SlIs ah 25 5 88:=SlIs.mk' Tryz.underlying25 i_27 rfl rfl rfl rfl (by decide)
theorem is_25:IsSl ah 25:=⟨_,Tryz.underlying25⟩
theorem el_25:eOT_ ah 25=27:=by kernel_rfl
theorem ze_25:zel ah 25=.agg [(.lit (.int .i64 0)),.agg [(.lit (.string ⟨#[]⟩)),(.sl true 2 [])],(.lit (.string ⟨#[]⟩)),(.sl true 5 [])]:=by kernel_rfl
theorem ez_25:ElemZero ah 25 (.agg [(.lit (.int .i64 0)),.agg [(.lit (.string ⟨#[]⟩)),(.sl true 2 [])],(.lit (.string ⟨#[]⟩)),(.sl true 5 [])]):=bD Tryz.underlying25 (bw i_27 rfl rfl rfl)
theorem ty_27:TyIs ah 27 true 5:=aY Tryz.underlying27 i_27 rfl rfl
theorem zc_27:zcv ah 8 27=.node [.pv (.lit (.int .i64 0)),.node [.pv (.lit (.string ⟨#[]⟩)),.pv (.sl true 2 [])],.pv (.lit (.string ⟨#[]⟩)),.pv (.sl true 5 [])]:=by kernel_rfl
theorem z_27:ZeroIs ah 27 (.node [.pv (.lit (.int .i64 0)),.node [.pv (.lit (.string ⟨#[]⟩)),.pv (.sl true 2 [])],.pv (.lit (.string ⟨#[]⟩)),.pv (.sl true 5 [])]):=bw i_27 rfl rfl rfl
theorem f20_4:fOff ah 27 0=0:=by kernel_rfl
theorem f20_7:FieldIs ah 27 0 0:=aU Tryz.underlying27 rfl rfl i_3 (by decide)
theorem f20_1:fldT ah 27 0=3:=by kernel_rfl
theorem f21_4:fOff ah 27 1=1:=by kernel_rfl
theorem f21_7:FieldIs ah 27 1 1:=aU Tryz.underlying27 rfl rfl i_24 (by decide)
theorem f21_1:fldT ah 27 1=24:=by kernel_rfl
theorem f22_1:fOff ah 27 2=3:=by kernel_rfl
theorem f22_2:FieldIs ah 27 2 3:=aU Tryz.underlying27 rfl rfl i_9 (by decide)
theorem f22_:fldT ah 27 2=9:=by kernel_rfl
theorem f23_1:fOff ah 27 3=4:=by kernel_rfl
theorem f23_2:FieldIs ah 27 3 4:=aU Tryz.underlying27 rfl rfl i_25 (by decide)
theorem f23_:fldT ah 27 3=25:=by kernel_rfl
theorem lay_27:LO_ ah 27 [.pv (.lit (.int .i64 0)),.node [.pv (.lit (.string ⟨#[]⟩)),.pv (.sl true 2 [])],.pv (.lit (.string ⟨#[]⟩)),.pv (.sl true 5 [])]:=.inr ⟨_,Tryz.underlying27,rfl,fun k f hk=>by match k,hk with | 0,hk=>(obtain rfl:=Option.some.inj hk; exact⟨rfl,_,i_3,rfl⟩) | 1,hk=>(obtain rfl:=Option.some.inj hk; exact⟨rfl,_,i_24,rfl⟩) | 2,hk=>(obtain rfl:=Option.some.inj hk; exact⟨rfl,_,i_9,rfl⟩) | 3,hk=>(obtain rfl:=Option.some.inj hk; exact⟨rfl,_,i_25,rfl⟩) | k+4,hk=>simp at hk⟩
theorem i_29:Tryz.prog.info? 29=some Tryz.t29:=by kernel_rfl
theorem ty_29:TyIs ah 29 true 2:=aY Tryz.underlying29 i_29 rfl rfl
theorem zc_29:zcv ah 8 29=.node [.pv (.sl true 5 []),.pv (.sl true 5 [])]:=by kernel_rfl
theorem z_29:ZeroIs ah 29 (.node [.pv (.sl true 5 []),.pv (.sl true 5 [])]):=bw i_29 rfl rfl rfl
theorem f20_3:fOff ah 29 0=0:=by kernel_rfl
theorem f20_6:FieldIs ah 29 0 0:=aU Tryz.underlying29 rfl rfl i_25 (by decide)
theorem f20_:fldT ah 29 0=25:=by kernel_rfl
theorem f21_3:fOff ah 29 1=1:=by kernel_rfl
theorem f21_6:FieldIs ah 29 1 1:=aU Tryz.underlying29 rfl rfl i_25 (by decide)
theorem f21_:fldT ah 29 1=25:=by kernel_rfl
theorem lay_29:LO_ ah 29 [.pv (.sl true 5 []),.pv (.sl true 5 [])]:=.inr ⟨_,Tryz.underlying29,rfl,fun k f hk=>by match k,hk with | 0,hk=>(obtain rfl:=Option.some.inj hk; exact⟨rfl,_,i_25,rfl⟩) | 1,hk=>(obtain rfl:=Option.some.inj hk; exact⟨rfl,_,i_25,rfl⟩) | k+2,hk=>simp at hk⟩
theorem i_30:Tryz.prog.info? 30=some Tryz.t30:=by kernel_rfl
theorem ty_30:TyIs ah 30 false 1:=aY Tryz.underlying30 i_30 rfl rfl
theorem zc_30:zcv ah 8 30=.pv (.sl true 12 []):=by kernel_rfl
theorem z_30:ZeroIs ah 30 (.pv (.sl true 12 [])):=bj i_30 rfl rfl rfl rfl rfl
theorem i_32:Tryz.prog.info? 32=some Tryz.t32:=by kernel_rfl
theorem es_30:eSize ah 30=12:=by kernel_rfl
theorem eb_30:eBytes ah 30=216:=by kernel_rfl
theorem sl_30:SlIs ah 30 12 216:=SlIs.mk' Tryz.underlying30 i_32 rfl rfl rfl rfl (by decide)
theorem is_30:IsSl ah 30:=⟨_,Tryz.underlying30⟩
theorem el_30:eOT_ ah 30=32:=by kernel_rfl
theorem ze_30:zel ah 30=.agg [(.lit (.int .i64 0)),.agg [(.sl true 5 []),(.sl true 5 [])],(.lit (.int .i64 0)),.agg [(.lit (.string ⟨#[]⟩)),(.sl true 2 [])],.agg [(.lit (.int .i64 0)),.agg [(.lit (.string ⟨#[]⟩)),(.sl true 2 [])],(.lit (.string ⟨#[]⟩)),(.sl true 5 [])],(.sl true 12 [])]:=by kernel_rfl
theorem ez_30:ElemZero ah 30 (.agg [(.lit (.int .i64 0)),.agg [(.sl true 5 []),(.sl true 5 [])],(.lit (.int .i64 0)),.agg [(.lit (.string ⟨#[]⟩)),(.sl true 2 [])],.agg [(.lit (.int .i64 0)),.agg [(.lit (.string ⟨#[]⟩)),(.sl true 2 [])],(.lit (.string ⟨#[]⟩)),(.sl true 5 [])],(.sl true 12 [])]):=bD Tryz.underlying30 (bw i_32 rfl rfl rfl)
theorem ty_32:TyIs ah 32 true 12:=aY Tryz.underlying32 i_32 rfl rfl
theorem zc_32:zcv ah 8 32=.node [.pv (.lit (.int .i64 0)),.node [.pv (.sl true 5 []),.pv (.sl true 5 [])],.pv (.lit (.int .i64 0)),.node [.pv (.lit (.string ⟨#[]⟩)),.pv (.sl true 2 [])],.node [.pv (.lit (.int .i64 0)),.node [.pv (.lit (.string ⟨#[]⟩)),.pv (.sl true 2 [])],.pv (.lit (.string ⟨#[]⟩)),.pv (.sl true 5 [])],.pv (.sl true 12 [])]:=by kernel_rfl
theorem z_32:ZeroIs ah 32 (.node [.pv (.lit (.int .i64 0)),.node [.pv (.sl true 5 []),.pv (.sl true 5 [])],.pv (.lit (.int .i64 0)),.node [.pv (.lit (.string ⟨#[]⟩)),.pv (.sl true 2 [])],.node [.pv (.lit (.int .i64 0)),.node [.pv (.lit (.string ⟨#[]⟩)),.pv (.sl true 2 [])],.pv (.lit (.string ⟨#[]⟩)),.pv (.sl true 5 [])],.pv (.sl true 12 [])]):=bw i_32 rfl rfl rfl
theorem f30_5:fOff ah 32 0=0:=by kernel_rfl
theorem f30_8:FieldIs ah 32 0 0:=aU Tryz.underlying32 rfl rfl i_3 (by decide)
theorem f30_2:fldT ah 32 0=3:=by kernel_rfl
theorem f31_5:fOff ah 32 1=1:=by kernel_rfl
theorem f31_8:FieldIs ah 32 1 1:=aU Tryz.underlying32 rfl rfl i_29 (by decide)
theorem f31_2:fldT ah 32 1=29:=by kernel_rfl
theorem f32_3:fOff ah 32 2=3:=by kernel_rfl
theorem f32_5:FieldIs ah 32 2 3:=aU Tryz.underlying32 rfl rfl i_3 (by decide)
theorem f32_1:fldT ah 32 2=3:=by kernel_rfl
theorem f33_3:fOff ah 32 3=4:=by kernel_rfl
theorem f33_5:FieldIs ah 32 3 4:=aU Tryz.underlying32 rfl rfl i_24 (by decide)
theorem f33_1:fldT ah 32 3=24:=by kernel_rfl
theorem f34_1:fOff ah 32 4=6:=by kernel_rfl
theorem f34_2:FieldIs ah 32 4 6:=aU Tryz.underlying32 rfl rfl i_27 (by decide)
theorem f34_:fldT ah 32 4=27:=by kernel_rfl
theorem f35_1:fOff ah 32 5=11:=by kernel_rfl
theorem f35_2:FieldIs ah 32 5 11:=aU Tryz.underlying32 rfl rfl i_30 (by decide)
theorem f35_:fldT ah 32 5=30:=by kernel_rfl
theorem lay_32:LO_ ah 32 [.pv (.lit (.int .i64 0)),.node [.pv (.sl true 5 []),.pv (.sl true 5 [])],.pv (.lit (.int .i64 0)),.node [.pv (.lit (.string ⟨#[]⟩)),.pv (.sl true 2 [])],.node [.pv (.lit (.int .i64 0)),.node [.pv (.lit (.string ⟨#[]⟩)),.pv (.sl true 2 [])],.pv (.lit (.string ⟨#[]⟩)),.pv (.sl true 5 [])],.pv (.sl true 12 [])]:=.inr ⟨_,Tryz.underlying32,rfl,fun k f hk=>by match k,hk with | 0,hk=>(obtain rfl:=Option.some.inj hk; exact⟨rfl,_,i_3,rfl⟩) | 1,hk=>(obtain rfl:=Option.some.inj hk; exact⟨rfl,_,i_29,rfl⟩) | 2,hk=>(obtain rfl:=Option.some.inj hk; exact⟨rfl,_,i_3,rfl⟩) | 3,hk=>(obtain rfl:=Option.some.inj hk; exact⟨rfl,_,i_24,rfl⟩) | 4,hk=>(obtain rfl:=Option.some.inj hk; exact⟨rfl,_,i_27,rfl⟩) | 5,hk=>(obtain rfl:=Option.some.inj hk; exact⟨rfl,_,i_30,rfl⟩) | k+6,hk=>simp at hk⟩
theorem i_34:Tryz.prog.info? 34=some Tryz.t34:=by kernel_rfl
theorem ty_34:TyIs ah 34 true 30:=aY Tryz.underlying34 i_34 rfl rfl
theorem zc_34:zcv ah 8 34=.node [.pv (.lit (.string ⟨#[]⟩)),.node [.pv (.lit (.int .i64 0)),.node [.pv (.lit (.string ⟨#[]⟩)),.pv (.sl true 2 [])],.pv (.lit (.string ⟨#[]⟩)),.pv (.sl true 5 [])],.node [.pv (.lit (.int .i64 0)),.node [.pv (.sl true 5 []),.pv (.sl true 5 [])],.pv (.lit (.int .i64 0)),.node [.pv (.lit (.string ⟨#[]⟩)),.pv (.sl true 2 [])],.node [.pv (.lit (.int .i64 0)),.node [.pv (.lit (.string ⟨#[]⟩)),.pv (.sl true 2 [])],.pv (.lit (.string ⟨#[]⟩)),.pv (.sl true 5 [])],.pv (.sl true 12 [])],.node [.pv (.lit (.int .i64 0)),.node [.pv (.sl true 5 []),.pv (.sl true 5 [])],.pv (.lit (.int .i64 0)),.node [.pv (.lit (.string ⟨#[]⟩)),.pv (.sl true 2 [])],.node [.pv (.lit (.int .i64 0)),.node [.pv (.lit (.string ⟨#[]⟩)),.pv (.sl true 2 [])],.pv (.lit (.string ⟨#[]⟩)),.pv (.sl true 5 [])],.pv (.sl true 12 [])]]:=by kernel_rfl
theorem z_34:ZeroIs ah 34 (.node [.pv (.lit (.string ⟨#[]⟩)),.node [.pv (.lit (.int .i64 0)),.node [.pv (.lit (.string ⟨#[]⟩)),.pv (.sl true 2 [])],.pv (.lit (.string ⟨#[]⟩)),.pv (.sl true 5 [])],.node [.pv (.lit (.int .i64 0)),.node [.pv (.sl true 5 []),.pv (.sl true 5 [])],.pv (.lit (.int .i64 0)),.node [.pv (.lit (.string ⟨#[]⟩)),.pv (.sl true 2 [])],.node [.pv (.lit (.int .i64 0)),.node [.pv (.lit (.string ⟨#[]⟩)),.pv (.sl true 2 [])],.pv (.lit (.string ⟨#[]⟩)),.pv (.sl true 5 [])],.pv (.sl true 12 [])],.node [.pv (.lit (.int .i64 0)),.node [.pv (.sl true 5 []),.pv (.sl true 5 [])],.pv (.lit (.int .i64 0)),.node [.pv (.lit (.string ⟨#[]⟩)),.pv (.sl true 2 [])],.node [.pv (.lit (.int .i64 0)),.node [.pv (.lit (.string ⟨#[]⟩)),.pv (.sl true 2 [])],.pv (.lit (.string ⟨#[]⟩)),.pv (.sl true 5 [])],.pv (.sl true 12 [])]]):=bw i_34 rfl rfl rfl
theorem f30_4:fOff ah 34 0=0:=by kernel_rfl
theorem f30_7:FieldIs ah 34 0 0:=aU Tryz.underlying34 rfl rfl i_9 (by decide)
theorem f30_1:fldT ah 34 0=9:=by kernel_rfl
theorem f31_4:fOff ah 34 1=1:=by kernel_rfl
theorem f31_7:FieldIs ah 34 1 1:=aU Tryz.underlying34 rfl rfl i_27 (by decide)
theorem f31_1:fldT ah 34 1=27:=by kernel_rfl
theorem f32_2:fOff ah 34 2=6:=by kernel_rfl
theorem f32_4:FieldIs ah 34 2 6:=aU Tryz.underlying34 rfl rfl i_32 (by decide)
theorem f32_:fldT ah 34 2=32:=by kernel_rfl
theorem f33_2:fOff ah 34 3=18:=by kernel_rfl
theorem f33_4:FieldIs ah 34 3 18:=aU Tryz.underlying34 rfl rfl i_32 (by decide)
theorem f33_:fldT ah 34 3=32:=by kernel_rfl
theorem lay_34:LO_ ah 34 [.pv (.lit (.string ⟨#[]⟩)),.node [.pv (.lit (.int .i64 0)),.node [.pv (.lit (.string ⟨#[]⟩)),.pv (.sl true 2 [])],.pv (.lit (.string ⟨#[]⟩)),.pv (.sl true 5 [])],.node [.pv (.lit (.int .i64 0)),.node [.pv (.sl true 5 []),.pv (.sl true 5 [])],.pv (.lit (.int .i64 0)),.node [.pv (.lit (.string ⟨#[]⟩)),.pv (.sl true 2 [])],.node [.pv (.lit (.int .i64 0)),.node [.pv (.lit (.string ⟨#[]⟩)),.pv (.sl true 2 [])],.pv (.lit (.string ⟨#[]⟩)),.pv (.sl true 5 [])],.pv (.sl true 12 [])],.node [.pv (.lit (.int .i64 0)),.node [.pv (.sl true 5 []),.pv (.sl true 5 [])],.pv (.lit (.int .i64 0)),.node [.pv (.lit (.string ⟨#[]⟩)),.pv (.sl true 2 [])],.node [.pv (.lit (.int .i64 0)),.node [.pv (.lit (.string ⟨#[]⟩)),.pv (.sl true 2 [])],.pv (.lit (.string ⟨#[]⟩)),.pv (.sl true 5 [])],.pv (.sl true 12 [])]]:=.inr ⟨_,Tryz.underlying34,rfl,fun k f hk=>by match k,hk with | 0,hk=>(obtain rfl:=Option.some.inj hk; exact⟨rfl,_,i_9,rfl⟩) | 1,hk=>(obtain rfl:=Option.some.inj hk; exact⟨rfl,_,i_27,rfl⟩) | 2,hk=>(obtain rfl:=Option.some.inj hk; exact⟨rfl,_,i_32,rfl⟩) | 3,hk=>(obtain rfl:=Option.some.inj hk; exact⟨rfl,_,i_32,rfl⟩) | k+4,hk=>simp at hk⟩
theorem i_37:Tryz.prog.info? 37=some Tryz.t37:=by kernel_rfl
theorem ty_37:TyIs ah 37 false 1:=aY Tryz.underlying37 i_37 rfl rfl
theorem zc_37:zcv ah 8 37=.pv (.sl true 2 []):=by kernel_rfl
theorem z_37:ZeroIs ah 37 (.pv (.sl true 2 [])):=bj i_37 rfl rfl rfl rfl rfl
theorem i_39:Tryz.prog.info? 39=some Tryz.t39:=by kernel_rfl
theorem es_37:eSize ah 37=2:=by kernel_rfl
theorem eb_37:eBytes ah 37=40:=by kernel_rfl
theorem sl_37:SlIs ah 37 2 40:=SlIs.mk' Tryz.underlying37 i_39 rfl rfl rfl rfl (by decide)
theorem is_37:IsSl ah 37:=⟨_,Tryz.underlying37⟩
theorem el_37:eOT_ ah 37=39:=by kernel_rfl
theorem ze_37:zel ah 37=.agg [(.lit (.string ⟨#[]⟩)),(.sl true 2 [])]:=by kernel_rfl
theorem ez_37:ElemZero ah 37 (.agg [(.lit (.string ⟨#[]⟩)),(.sl true 2 [])]):=bD Tryz.underlying37 (bw i_39 rfl rfl rfl)
theorem ty_39:TyIs ah 39 true 2:=aY Tryz.underlying39 i_39 rfl rfl
theorem zc_39:zcv ah 8 39=.node [.pv (.lit (.string ⟨#[]⟩)),.pv (.sl true 2 [])]:=by kernel_rfl
theorem z_39:ZeroIs ah 39 (.node [.pv (.lit (.string ⟨#[]⟩)),.pv (.sl true 2 [])]):=bw i_39 rfl rfl rfl
theorem f30_3:fOff ah 39 0=0:=by kernel_rfl
theorem f30_6:FieldIs ah 39 0 0:=aU Tryz.underlying39 rfl rfl i_9 (by decide)
theorem f30_:fldT ah 39 0=9:=by kernel_rfl
theorem f31_3:fOff ah 39 1=1:=by kernel_rfl
theorem f31_6:FieldIs ah 39 1 1:=aU Tryz.underlying39 rfl rfl i_37 (by decide)
theorem f31_:fldT ah 39 1=37:=by kernel_rfl
theorem lay_39:LO_ ah 39 [.pv (.lit (.string ⟨#[]⟩)),.pv (.sl true 2 [])]:=.inr ⟨_,Tryz.underlying39,rfl,fun k f hk=>by match k,hk with | 0,hk=>(obtain rfl:=Option.some.inj hk; exact⟨rfl,_,i_9,rfl⟩) | 1,hk=>(obtain rfl:=Option.some.inj hk; exact⟨rfl,_,i_37,rfl⟩) | k+2,hk=>simp at hk⟩
theorem i_40:Tryz.prog.info? 40=some Tryz.t40:=by kernel_rfl
theorem ty_40:TyIs ah 40 false 1:=aY Tryz.underlying40 i_40 rfl rfl
theorem zc_40:zcv ah 8 40=.pv (.sl true 5 []):=by kernel_rfl
theorem z_40:ZeroIs ah 40 (.pv (.sl true 5 [])):=bj i_40 rfl rfl rfl rfl rfl
theorem i_42:Tryz.prog.info? 42=some Tryz.t42:=by kernel_rfl
theorem es_40:eSize ah 40=5:=by kernel_rfl
theorem eb_40:eBytes ah 40=88:=by kernel_rfl
theorem sl_40:SlIs ah 40 5 88:=SlIs.mk' Tryz.underlying40 i_42 rfl rfl rfl rfl (by decide)
theorem is_40:IsSl ah 40:=⟨_,Tryz.underlying40⟩
theorem el_40:eOT_ ah 40=42:=by kernel_rfl
theorem ze_40:zel ah 40=.agg [(.lit (.int .i64 0)),.agg [(.lit (.string ⟨#[]⟩)),(.sl true 2 [])],(.lit (.string ⟨#[]⟩)),(.sl true 5 [])]:=by kernel_rfl
theorem ez_40:ElemZero ah 40 (.agg [(.lit (.int .i64 0)),.agg [(.lit (.string ⟨#[]⟩)),(.sl true 2 [])],(.lit (.string ⟨#[]⟩)),(.sl true 5 [])]):=bD Tryz.underlying40 (bw i_42 rfl rfl rfl)
theorem ty_42:TyIs ah 42 true 5:=aY Tryz.underlying42 i_42 rfl rfl
theorem zc_42:zcv ah 8 42=.node [.pv (.lit (.int .i64 0)),.node [.pv (.lit (.string ⟨#[]⟩)),.pv (.sl true 2 [])],.pv (.lit (.string ⟨#[]⟩)),.pv (.sl true 5 [])]:=by kernel_rfl
theorem z_42:ZeroIs ah 42 (.node [.pv (.lit (.int .i64 0)),.node [.pv (.lit (.string ⟨#[]⟩)),.pv (.sl true 2 [])],.pv (.lit (.string ⟨#[]⟩)),.pv (.sl true 5 [])]):=bw i_42 rfl rfl rfl
theorem f40_7:fOff ah 42 0=0:=by kernel_rfl
theorem f40_11:FieldIs ah 42 0 0:=aU Tryz.underlying42 rfl rfl i_3 (by decide)
theorem f40_3:fldT ah 42 0=3:=by kernel_rfl
theorem f41_7:fOff ah 42 1=1:=by kernel_rfl
theorem f41_11:FieldIs ah 42 1 1:=aU Tryz.underlying42 rfl rfl i_39 (by decide)
theorem f41_3:fldT ah 42 1=39:=by kernel_rfl
theorem f42_5:fOff ah 42 2=3:=by kernel_rfl
theorem f42_8:FieldIs ah 42 2 3:=aU Tryz.underlying42 rfl rfl i_9 (by decide)
theorem f42_2:fldT ah 42 2=9:=by kernel_rfl
theorem f43_5:fOff ah 42 3=4:=by kernel_rfl
theorem f43_8:FieldIs ah 42 3 4:=aU Tryz.underlying42 rfl rfl i_40 (by decide)
theorem f43_2:fldT ah 42 3=40:=by kernel_rfl
theorem lay_42:LO_ ah 42 [.pv (.lit (.int .i64 0)),.node [.pv (.lit (.string ⟨#[]⟩)),.pv (.sl true 2 [])],.pv (.lit (.string ⟨#[]⟩)),.pv (.sl true 5 [])]:=.inr ⟨_,Tryz.underlying42,rfl,fun k f hk=>by match k,hk with | 0,hk=>(obtain rfl:=Option.some.inj hk; exact⟨rfl,_,i_3,rfl⟩) | 1,hk=>(obtain rfl:=Option.some.inj hk; exact⟨rfl,_,i_39,rfl⟩) | 2,hk=>(obtain rfl:=Option.some.inj hk; exact⟨rfl,_,i_9,rfl⟩) | 3,hk=>(obtain rfl:=Option.some.inj hk; exact⟨rfl,_,i_40,rfl⟩) | k+4,hk=>simp at hk⟩
theorem i_44:Tryz.prog.info? 44=some Tryz.t44:=by kernel_rfl
theorem ty_44:TyIs ah 44 true 2:=aY Tryz.underlying44 i_44 rfl rfl
theorem zc_44:zcv ah 8 44=.node [.pv (.sl true 5 []),.pv (.sl true 5 [])]:=by kernel_rfl
theorem z_44:ZeroIs ah 44 (.node [.pv (.sl true 5 []),.pv (.sl true 5 [])]):=bw i_44 rfl rfl rfl
theorem f40_6:fOff ah 44 0=0:=by kernel_rfl
theorem f40_10:FieldIs ah 44 0 0:=aU Tryz.underlying44 rfl rfl i_40 (by decide)
theorem f40_2:fldT ah 44 0=40:=by kernel_rfl
theorem f41_6:fOff ah 44 1=1:=by kernel_rfl
theorem f41_10:FieldIs ah 44 1 1:=aU Tryz.underlying44 rfl rfl i_40 (by decide)
theorem f41_2:fldT ah 44 1=40:=by kernel_rfl
theorem lay_44:LO_ ah 44 [.pv (.sl true 5 []),.pv (.sl true 5 [])]:=.inr ⟨_,Tryz.underlying44,rfl,fun k f hk=>by match k,hk with | 0,hk=>(obtain rfl:=Option.some.inj hk; exact⟨rfl,_,i_40,rfl⟩) | 1,hk=>(obtain rfl:=Option.some.inj hk; exact⟨rfl,_,i_40,rfl⟩) | k+2,hk=>simp at hk⟩
theorem i_45:Tryz.prog.info? 45=some Tryz.t45:=by kernel_rfl
theorem ty_45:TyIs ah 45 false 1:=aY Tryz.underlying45 i_45 rfl rfl
theorem zc_45:zcv ah 8 45=.pv (.sl true 12 []):=by kernel_rfl
theorem z_45:ZeroIs ah 45 (.pv (.sl true 12 [])):=bj i_45 rfl rfl rfl rfl rfl
theorem i_47:Tryz.prog.info? 47=some Tryz.t47:=by kernel_rfl
theorem es_45:eSize ah 45=12:=by kernel_rfl
theorem eb_45:eBytes ah 45=216:=by kernel_rfl
theorem sl_45:SlIs ah 45 12 216:=SlIs.mk' Tryz.underlying45 i_47 rfl rfl rfl rfl (by decide)
theorem is_45:IsSl ah 45:=⟨_,Tryz.underlying45⟩
theorem el_45:eOT_ ah 45=47:=by kernel_rfl
theorem ze_45:zel ah 45=.agg [(.lit (.int .i64 0)),.agg [(.sl true 5 []),(.sl true 5 [])],(.lit (.int .i64 0)),.agg [(.lit (.string ⟨#[]⟩)),(.sl true 2 [])],.agg [(.lit (.int .i64 0)),.agg [(.lit (.string ⟨#[]⟩)),(.sl true 2 [])],(.lit (.string ⟨#[]⟩)),(.sl true 5 [])],(.sl true 12 [])]:=by kernel_rfl
theorem ez_45:ElemZero ah 45 (.agg [(.lit (.int .i64 0)),.agg [(.sl true 5 []),(.sl true 5 [])],(.lit (.int .i64 0)),.agg [(.lit (.string ⟨#[]⟩)),(.sl true 2 [])],.agg [(.lit (.int .i64 0)),.agg [(.lit (.string ⟨#[]⟩)),(.sl true 2 [])],(.lit (.string ⟨#[]⟩)),(.sl true 5 [])],(.sl true 12 [])]):=bD Tryz.underlying45 (bw i_47 rfl rfl rfl)
theorem ty_47:TyIs ah 47 true 12:=aY Tryz.underlying47 i_47 rfl rfl
theorem zc_47:zcv ah 8 47=.node [.pv (.lit (.int .i64 0)),.node [.pv (.sl true 5 []),.pv (.sl true 5 [])],.pv (.lit (.int .i64 0)),.node [.pv (.lit (.string ⟨#[]⟩)),.pv (.sl true 2 [])],.node [.pv (.lit (.int .i64 0)),.node [.pv (.lit (.string ⟨#[]⟩)),.pv (.sl true 2 [])],.pv (.lit (.string ⟨#[]⟩)),.pv (.sl true 5 [])],.pv (.sl true 12 [])]:=by kernel_rfl
theorem z_47:ZeroIs ah 47 (.node [.pv (.lit (.int .i64 0)),.node [.pv (.sl true 5 []),.pv (.sl true 5 [])],.pv (.lit (.int .i64 0)),.node [.pv (.lit (.string ⟨#[]⟩)),.pv (.sl true 2 [])],.node [.pv (.lit (.int .i64 0)),.node [.pv (.lit (.string ⟨#[]⟩)),.pv (.sl true 2 [])],.pv (.lit (.string ⟨#[]⟩)),.pv (.sl true 5 [])],.pv (.sl true 12 [])]):=bw i_47 rfl rfl rfl
theorem f40_5:fOff ah 47 0=0:=by kernel_rfl
theorem f40_9:FieldIs ah 47 0 0:=aU Tryz.underlying47 rfl rfl i_3 (by decide)
theorem f40_1:fldT ah 47 0=3:=by kernel_rfl
theorem f41_5:fOff ah 47 1=1:=by kernel_rfl
theorem f41_9:FieldIs ah 47 1 1:=aU Tryz.underlying47 rfl rfl i_44 (by decide)
theorem f41_1:fldT ah 47 1=44:=by kernel_rfl
theorem f42_4:fOff ah 47 2=3:=by kernel_rfl
theorem f42_7:FieldIs ah 47 2 3:=aU Tryz.underlying47 rfl rfl i_3 (by decide)
theorem f42_1:fldT ah 47 2=3:=by kernel_rfl
theorem f43_4:fOff ah 47 3=4:=by kernel_rfl
theorem f43_7:FieldIs ah 47 3 4:=aU Tryz.underlying47 rfl rfl i_39 (by decide)
theorem f43_1:fldT ah 47 3=39:=by kernel_rfl
theorem f44_1:fOff ah 47 4=6:=by kernel_rfl
theorem f44_2:FieldIs ah 47 4 6:=aU Tryz.underlying47 rfl rfl i_42 (by decide)
theorem f44_:fldT ah 47 4=42:=by kernel_rfl
theorem f45_1:fOff ah 47 5=11:=by kernel_rfl
theorem f45_2:FieldIs ah 47 5 11:=aU Tryz.underlying47 rfl rfl i_45 (by decide)
theorem f45_:fldT ah 47 5=45:=by kernel_rfl
theorem lay_47:LO_ ah 47 [.pv (.lit (.int .i64 0)),.node [.pv (.sl true 5 []),.pv (.sl true 5 [])],.pv (.lit (.int .i64 0)),.node [.pv (.lit (.string ⟨#[]⟩)),.pv (.sl true 2 [])],.node [.pv (.lit (.int .i64 0)),.node [.pv (.lit (.string ⟨#[]⟩)),.pv (.sl true 2 [])],.pv (.lit (.string ⟨#[]⟩)),.pv (.sl true 5 [])],.pv (.sl true 12 [])]:=.inr ⟨_,Tryz.underlying47,rfl,fun k f hk=>by match k,hk with | 0,hk=>(obtain rfl:=Option.some.inj hk; exact⟨rfl,_,i_3,rfl⟩) | 1,hk=>(obtain rfl:=Option.some.inj hk; exact⟨rfl,_,i_44,rfl⟩) | 2,hk=>(obtain rfl:=Option.some.inj hk; exact⟨rfl,_,i_3,rfl⟩) | 3,hk=>(obtain rfl:=Option.some.inj hk; exact⟨rfl,_,i_39,rfl⟩) | 4,hk=>(obtain rfl:=Option.some.inj hk; exact⟨rfl,_,i_42,rfl⟩) | 5,hk=>(obtain rfl:=Option.some.inj hk; exact⟨rfl,_,i_45,rfl⟩) | k+6,hk=>simp at hk⟩
theorem i_49:Tryz.prog.info? 49=some Tryz.t49:=by kernel_rfl
theorem ty_49:TyIs ah 49 true 30:=aY Tryz.underlying49 i_49 rfl rfl
theorem zc_49:zcv ah 8 49=.node [.pv (.lit (.string ⟨#[]⟩)),.node [.pv (.lit (.int .i64 0)),.node [.pv (.lit (.string ⟨#[]⟩)),.pv (.sl true 2 [])],.pv (.lit (.string ⟨#[]⟩)),.pv (.sl true 5 [])],.node [.pv (.lit (.int .i64 0)),.node [.pv (.sl true 5 []),.pv (.sl true 5 [])],.pv (.lit (.int .i64 0)),.node [.pv (.lit (.string ⟨#[]⟩)),.pv (.sl true 2 [])],.node [.pv (.lit (.int .i64 0)),.node [.pv (.lit (.string ⟨#[]⟩)),.pv (.sl true 2 [])],.pv (.lit (.string ⟨#[]⟩)),.pv (.sl true 5 [])],.pv (.sl true 12 [])],.node [.pv (.lit (.int .i64 0)),.node [.pv (.sl true 5 []),.pv (.sl true 5 [])],.pv (.lit (.int .i64 0)),.node [.pv (.lit (.string ⟨#[]⟩)),.pv (.sl true 2 [])],.node [.pv (.lit (.int .i64 0)),.node [.pv (.lit (.string ⟨#[]⟩)),.pv (.sl true 2 [])],.pv (.lit (.string ⟨#[]⟩)),.pv (.sl true 5 [])],.pv (.sl true 12 [])]]:=by kernel_rfl
theorem z_49:ZeroIs ah 49 (.node [.pv (.lit (.string ⟨#[]⟩)),.node [.pv (.lit (.int .i64 0)),.node [.pv (.lit (.string ⟨#[]⟩)),.pv (.sl true 2 [])],.pv (.lit (.string ⟨#[]⟩)),.pv (.sl true 5 [])],.node [.pv (.lit (.int .i64 0)),.node [.pv (.sl true 5 []),.pv (.sl true 5 [])],.pv (.lit (.int .i64 0)),.node [.pv (.lit (.string ⟨#[]⟩)),.pv (.sl true 2 [])],.node [.pv (.lit (.int .i64 0)),.node [.pv (.lit (.string ⟨#[]⟩)),.pv (.sl true 2 [])],.pv (.lit (.string ⟨#[]⟩)),.pv (.sl true 5 [])],.pv (.sl true 12 [])],.node [.pv (.lit (.int .i64 0)),.node [.pv (.sl true 5 []),.pv (.sl true 5 [])],.pv (.lit (.int .i64 0)),.node [.pv (.lit (.string ⟨#[]⟩)),.pv (.sl true 2 [])],.node [.pv (.lit (.int .i64 0)),.node [.pv (.lit (.string ⟨#[]⟩)),.pv (.sl true 2 [])],.pv (.lit (.string ⟨#[]⟩)),.pv (.sl true 5 [])],.pv (.sl true 12 [])]]):=bw i_49 rfl rfl rfl
theorem f40_4:fOff ah 49 0=0:=by kernel_rfl
theorem f40_8:FieldIs ah 49 0 0:=aU Tryz.underlying49 rfl rfl i_9 (by decide)
theorem f40_:fldT ah 49 0=9:=by kernel_rfl
theorem f41_4:fOff ah 49 1=1:=by kernel_rfl
theorem f41_8:FieldIs ah 49 1 1:=aU Tryz.underlying49 rfl rfl i_42 (by decide)
theorem f41_:fldT ah 49 1=42:=by kernel_rfl
theorem f42_3:fOff ah 49 2=6:=by kernel_rfl
theorem f42_6:FieldIs ah 49 2 6:=aU Tryz.underlying49 rfl rfl i_47 (by decide)
theorem f42_:fldT ah 49 2=47:=by kernel_rfl
theorem f43_3:fOff ah 49 3=18:=by kernel_rfl
theorem f43_6:FieldIs ah 49 3 18:=aU Tryz.underlying49 rfl rfl i_47 (by decide)
theorem f43_:fldT ah 49 3=47:=by kernel_rfl
theorem lay_49:LO_ ah 49 [.pv (.lit (.string ⟨#[]⟩)),.node [.pv (.lit (.int .i64 0)),.node [.pv (.lit (.string ⟨#[]⟩)),.pv (.sl true 2 [])],.pv (.lit (.string ⟨#[]⟩)),.pv (.sl true 5 [])],.node [.pv (.lit (.int .i64 0)),.node [.pv (.sl true 5 []),.pv (.sl true 5 [])],.pv (.lit (.int .i64 0)),.node [.pv (.lit (.string ⟨#[]⟩)),.pv (.sl true 2 [])],.node [.pv (.lit (.int .i64 0)),.node [.pv (.lit (.string ⟨#[]⟩)),.pv (.sl true 2 [])],.pv (.lit (.string ⟨#[]⟩)),.pv (.sl true 5 [])],.pv (.sl true 12 [])],.node [.pv (.lit (.int .i64 0)),.node [.pv (.sl true 5 []),.pv (.sl true 5 [])],.pv (.lit (.int .i64 0)),.node [.pv (.lit (.string ⟨#[]⟩)),.pv (.sl true 2 [])],.node [.pv (.lit (.int .i64 0)),.node [.pv (.lit (.string ⟨#[]⟩)),.pv (.sl true 2 [])],.pv (.lit (.string ⟨#[]⟩)),.pv (.sl true 5 [])],.pv (.sl true 12 [])]]:=.inr ⟨_,Tryz.underlying49,rfl,fun k f hk=>by match k,hk with | 0,hk=>(obtain rfl:=Option.some.inj hk; exact⟨rfl,_,i_9,rfl⟩) | 1,hk=>(obtain rfl:=Option.some.inj hk; exact⟨rfl,_,i_42,rfl⟩) | 2,hk=>(obtain rfl:=Option.some.inj hk; exact⟨rfl,_,i_47,rfl⟩) | 3,hk=>(obtain rfl:=Option.some.inj hk; exact⟨rfl,_,i_47,rfl⟩) | k+4,hk=>simp at hk⟩
theorem i_65:Tryz.prog.info? 65=some Tryz.t65:=by kernel_rfl
theorem ty_65:TyIs ah 65 false 1:=aY Tryz.underlying65 i_65 rfl rfl
theorem zc_65:zcv ah 8 65=.pv (.lit .nilFunc):=by kernel_rfl
theorem z_65:ZeroIs ah 65 (.pv (.lit .nilFunc)):=bj i_65 rfl rfl rfl rfl rfl
theorem i_72:Tryz.prog.info? 72=some Tryz.t72:=by kernel_rfl
theorem ty_72:TyIs ah 72 false 1:=aY Tryz.underlying72 i_72 rfl rfl
theorem zc_72:zcv ah 8 72=.pv (.lit .nilFunc):=by kernel_rfl
theorem z_72:ZeroIs ah 72 (.pv (.lit .nilFunc)):=bj i_72 rfl rfl rfl rfl rfl
theorem i_80:Tryz.prog.info? 80=some Tryz.t80:=by kernel_rfl
theorem ty_80:TyIs ah 80 false 1:=aY Tryz.underlying80 i_80 rfl rfl
theorem zc_80:zcv ah 8 80=.pv (.lit .nilFunc):=by kernel_rfl
theorem z_80:ZeroIs ah 80 (.pv (.lit .nilFunc)):=bj i_80 rfl rfl rfl rfl rfl
theorem i_81:Tryz.prog.info? 81=some Tryz.t81:=by kernel_rfl
theorem ty_81:TyIs ah 81 false 1:=aY Tryz.underlying81 i_81 rfl rfl
theorem zc_81:zcv ah 8 81=.pv (.lit .nilFunc):=by kernel_rfl
theorem z_81:ZeroIs ah 81 (.pv (.lit .nilFunc)):=bj i_81 rfl rfl rfl rfl rfl
theorem i_90:Tryz.prog.info? 90=some Tryz.t90:=by kernel_rfl
theorem ty_90:TyIs ah 90 false 1:=aY Tryz.underlying90 i_90 rfl rfl
theorem zc_90:zcv ah 8 90=.pv (.lit .nilFunc):=by kernel_rfl
theorem z_90:ZeroIs ah 90 (.pv (.lit .nilFunc)):=bj i_90 rfl rfl rfl rfl rfl
theorem i_106:Tryz.prog.info? 106=some Tryz.t106:=by kernel_rfl
theorem ty_106:TyIs ah 106 false 1:=aY Tryz.underlying106 i_106 rfl rfl
theorem zc_106:zcv ah 8 106=.pv (.sl true 1 []):=by kernel_rfl
theorem z_106:ZeroIs ah 106 (.pv (.sl true 1 [])):=bj i_106 rfl rfl rfl rfl rfl
theorem es_106:eSize ah 106=1:=by kernel_rfl
theorem eb_106:eBytes ah 106=16:=by kernel_rfl
theorem sl_106:SlIs ah 106 1 16:=SlIs.mk' Tryz.underlying106 i_9 rfl rfl rfl rfl (by decide)
theorem is_106:IsSl ah 106:=⟨_,Tryz.underlying106⟩
theorem el_106:eOT_ ah 106=9:=by kernel_rfl
theorem ze_106:zel ah 106=(.lit (.string ⟨#[]⟩)):=by kernel_rfl
theorem ez_106:ElemZero ah 106 ((.lit (.string ⟨#[]⟩))):=bD Tryz.underlying106 (bj i_9 rfl rfl rfl rfl rfl)
theorem i_112:Tryz.prog.info? 112=some Tryz.t112:=by kernel_rfl
theorem ty_112:TyIs ah 112 false 1:=aY Tryz.underlying112 i_112 rfl rfl
theorem zc_112:zcv ah 8 112=.pv (.sl true 1 []):=by kernel_rfl
theorem z_112:ZeroIs ah 112 (.pv (.sl true 1 [])):=bj i_112 rfl rfl rfl rfl rfl
theorem es_112:eSize ah 112=1:=by kernel_rfl
theorem eb_112:eBytes ah 112=8:=by kernel_rfl
theorem sl_112:SlIs ah 112 1 8:=SlIs.mk' Tryz.underlying112 i_3 rfl rfl rfl rfl (by decide)
theorem is_112:IsSl ah 112:=⟨_,Tryz.underlying112⟩
theorem el_112:eOT_ ah 112=3:=by kernel_rfl
theorem ze_112:zel ah 112=(.lit (.int .i64 0)):=by kernel_rfl
theorem ez_112:ElemZero ah 112 ((.lit (.int .i64 0))):=bD Tryz.underlying112 (bj i_3 rfl rfl rfl rfl rfl)
theorem i_126:Tryz.prog.info? 126=some Tryz.t126:=by kernel_rfl
theorem ty_126:TyIs ah 126 false 1:=aY Tryz.underlying126 i_126 rfl rfl
theorem zc_126:zcv ah 8 126=.pv (.sl true 3 []):=by kernel_rfl
theorem z_126:ZeroIs ah 126 (.pv (.sl true 3 [])):=bj i_126 rfl rfl rfl rfl rfl
theorem i_147:Tryz.prog.info? 147=some Tryz.t147:=by kernel_rfl
theorem es_126:eSize ah 126=3:=by kernel_rfl
theorem eb_126:eBytes ah 126=56:=by kernel_rfl
theorem sl_126:SlIs ah 126 3 56:=SlIs.mk' Tryz.underlying126 i_147 rfl rfl rfl rfl (by decide)
theorem is_126:IsSl ah 126:=⟨_,Tryz.underlying126⟩
theorem el_126:eOT_ ah 126=147:=by kernel_rfl
theorem ze_126:zel ah 126=.agg [(.lit (.string ⟨#[]⟩)),.agg [(.lit (.string ⟨#[]⟩)),(.sl true 2 [])]]:=by kernel_rfl
theorem ez_126:ElemZero ah 126 (.agg [(.lit (.string ⟨#[]⟩)),.agg [(.lit (.string ⟨#[]⟩)),(.sl true 2 [])]]):=bD Tryz.underlying126 (bw i_147 rfl rfl rfl)
theorem i_128:Tryz.prog.info? 128=some Tryz.t128:=by kernel_rfl
theorem ty_128:TyIs ah 128 true 1:=aY Tryz.underlying128 i_128 rfl rfl
theorem zc_128:zcv ah 8 128=.node [.pv (.sl true 3 [])]:=by kernel_rfl
theorem z_128:ZeroIs ah 128 (.node [.pv (.sl true 3 [])]):=bw i_128 rfl rfl rfl
theorem f10_3:fOff ah 128 0=0:=by kernel_rfl
theorem f10_5:FieldIs ah 128 0 0:=aU Tryz.underlying128 rfl rfl i_126 (by decide)
theorem f10_1:fldT ah 128 0=126:=by kernel_rfl
theorem l1_1:LO_ ah 128 [.pv (.sl true 3 [])]:=.inr ⟨_,Tryz.underlying128,rfl,fun k f hk=>by match k,hk with | 0,hk=>(obtain rfl:=Option.some.inj hk; exact⟨rfl,_,i_126,rfl⟩) | k+1,hk=>simp at hk⟩
theorem i_142:Tryz.prog.info? 142=some Tryz.t142:=by kernel_rfl
theorem ty_142:TyIs ah 142 false 1:=aY Tryz.underlying142 i_142 rfl rfl
theorem zc_142:zcv ah 8 142=.pv (.sl true 1 []):=by kernel_rfl
theorem z_142:ZeroIs ah 142 (.pv (.sl true 1 [])):=bj i_142 rfl rfl rfl rfl rfl
theorem es_142:eSize ah 142=1:=by kernel_rfl
theorem eb_142:eBytes ah 142=1:=by kernel_rfl
theorem sl_142:SlIs ah 142 1 1:=SlIs.mk' Tryz.underlying142 i_5 rfl rfl rfl rfl (by decide)
theorem by_142:IB_ ah 142:=⟨_,Tryz.underlying142,Tryz.underlying5⟩
theorem is_142:IsSl ah 142:=⟨_,Tryz.underlying142⟩
theorem el_142:eOT_ ah 142=5:=by kernel_rfl
theorem ze_142:zel ah 142=(.lit (.int .u8 0)):=by kernel_rfl
theorem ez_142:ElemZero ah 142 ((.lit (.int .u8 0))):=bD Tryz.underlying142 (bj i_5 rfl rfl rfl rfl rfl)
theorem ty_147:TyIs ah 147 true 3:=aY Tryz.underlying147 i_147 rfl rfl
theorem zc_147:zcv ah 8 147=.node [.pv (.lit (.string ⟨#[]⟩)),.node [.pv (.lit (.string ⟨#[]⟩)),.pv (.sl true 2 [])]]:=by kernel_rfl
theorem z_147:ZeroIs ah 147 (.node [.pv (.lit (.string ⟨#[]⟩)),.node [.pv (.lit (.string ⟨#[]⟩)),.pv (.sl true 2 [])]]):=bw i_147 rfl rfl rfl
theorem f10_2:fOff ah 147 0=0:=by kernel_rfl
theorem f10_4:FieldIs ah 147 0 0:=aU Tryz.underlying147 rfl rfl i_9 (by decide)
theorem f10_:fldT ah 147 0=9:=by kernel_rfl
theorem f11_1:fOff ah 147 1=1:=by kernel_rfl
theorem f11_2:FieldIs ah 147 1 1:=aU Tryz.underlying147 rfl rfl i_39 (by decide)
theorem f11_:fldT ah 147 1=39:=by kernel_rfl
theorem l1_:LO_ ah 147 [.pv (.lit (.string ⟨#[]⟩)),.node [.pv (.lit (.string ⟨#[]⟩)),.pv (.sl true 2 [])]]:=.inr ⟨_,Tryz.underlying147,rfl,fun k f hk=>by match k,hk with | 0,hk=>(obtain rfl:=Option.some.inj hk; exact⟨rfl,_,i_9,rfl⟩) | 1,hk=>(obtain rfl:=Option.some.inj hk; exact⟨rfl,_,i_39,rfl⟩) | k+2,hk=>simp at hk⟩
theorem i_157:Tryz.prog.info? 157=some Tryz.t157:=by kernel_rfl
theorem ty_157:TyIs ah 157 false 1:=aY Tryz.underlying157 i_157 rfl rfl
theorem zc_157:zcv ah 8 157=.pv (.lit (.int .u64 0)):=by kernel_rfl
theorem z_157:ZeroIs ah 157 (.pv (.lit (.int .u64 0))):=bj i_157 rfl rfl rfl rfl rfl
theorem i_159:Tryz.prog.info? 159=some Tryz.t159:=by kernel_rfl
theorem ty_159:TyIs ah 159 false 1:=aY Tryz.underlying159 i_159 rfl rfl
theorem zc_159:zcv ah 8 159=.pv (.sl true 2 []):=by kernel_rfl
theorem z_159:ZeroIs ah 159 (.pv (.sl true 2 [])):=bj i_159 rfl rfl rfl rfl rfl
theorem es_159:eSize ah 159=2:=by kernel_rfl
theorem eb_159:eBytes ah 159=48:=by kernel_rfl
theorem sl_159:SlIs ah 159 2 48:=SlIs.mk' Tryz.underlying159 i_44 rfl rfl rfl rfl (by decide)
theorem is_159:IsSl ah 159:=⟨_,Tryz.underlying159⟩
theorem el_159:eOT_ ah 159=44:=by kernel_rfl
theorem ze_159:zel ah 159=.agg [(.sl true 5 []),(.sl true 5 [])]:=by kernel_rfl
theorem ez_159:ElemZero ah 159 (.agg [(.sl true 5 []),(.sl true 5 [])]):=bD Tryz.underlying159 (bw i_44 rfl rfl rfl)
theorem i_166:Tryz.prog.info? 166=some Tryz.t166:=by kernel_rfl
theorem ty_166:TyIs ah 166 false 1:=aY Tryz.underlying166 i_166 rfl rfl
theorem zc_166:zcv ah 8 166=.pv (.lit .nilFunc):=by kernel_rfl
theorem z_166:ZeroIs ah 166 (.pv (.lit .nilFunc)):=bj i_166 rfl rfl rfl rfl rfl
theorem i_184:Tryz.prog.info? 184=some Tryz.t184:=by kernel_rfl
theorem ty_184:TyIs ah 184 false 1:=aY Tryz.underlying184 i_184 rfl rfl
theorem zc_184:zcv ah 8 184=.pv (.lit .nilFunc):=by kernel_rfl
theorem z_184:ZeroIs ah 184 (.pv (.lit .nilFunc)):=bj i_184 rfl rfl rfl rfl rfl
theorem i_204:Tryz.prog.info? 204=some Tryz.t204:=by kernel_rfl
theorem ty_204:TyIs ah 204 false 1:=aY Tryz.underlying204 i_204 rfl rfl
theorem zc_204:zcv ah 8 204=.pv (.sl true 1 []):=by kernel_rfl
theorem z_204:ZeroIs ah 204 (.pv (.sl true 1 [])):=bj i_204 rfl rfl rfl rfl rfl
theorem es_204:eSize ah 204=1:=by kernel_rfl
theorem eb_204:eBytes ah 204=24:=by kernel_rfl
theorem sl_204:SlIs ah 204 1 24:=SlIs.mk' Tryz.underlying204 i_40 rfl rfl rfl rfl (by decide)
theorem is_204:IsSl ah 204:=⟨_,Tryz.underlying204⟩
theorem el_204:eOT_ ah 204=40:=by kernel_rfl
theorem ze_204:zel ah 204=(.sl true 5 []):=by kernel_rfl
theorem ez_204:ElemZero ah 204 ((.sl true 5 [])):=bD Tryz.underlying204 (bj i_40 rfl rfl rfl rfl rfl)
theorem iIB_2:isIntB (Tryz.prog.underlying 3)=true:=by kernel_rfl
theorem uk_3:Tryz.prog.underlying 3=some (.int .i64):=Tryz.underlying3
theorem uk_5:Tryz.prog.underlying 5=some (.int .u8):=Tryz.underlying5
theorem uk_9:Tryz.prog.underlying 9=some .string:=Tryz.underlying9
theorem uk_157:Tryz.prog.underlying 157=some (.int .u64):=Tryz.underlying157
attribute [push_cast] ty_3 zc_3 z_3 ty_9 zc_9 z_9 u_9 ty_22 zc_22 z_22 es_22 eb_22 sl_22 is_22 el_22 ze_22 ez_22 ty_24 zc_24 z_24 f20_5 f20_8 f20_2 f21_5 f21_8 f21_2 lay_24 ty_25 zc_25 z_25 es_25 eb_25 sl_25 is_25 el_25 ze_25 ez_25 ty_27 zc_27 z_27 f20_4 f20_7 f20_1 f21_4 f21_7 f21_1 f22_1 f22_2 f22_ f23_1 f23_2 f23_ lay_27 ty_29 zc_29 z_29 f20_3 f20_6 f20_ f21_3 f21_6 f21_ lay_29 ty_30 zc_30 z_30 es_30 eb_30 sl_30 is_30 el_30 ze_30 ez_30 ty_32 zc_32 z_32 f30_5 f30_8 f30_2 f31_5 f31_8 f31_2 f32_3 f32_5 f32_1 f33_3 f33_5 f33_1 f34_1 f34_2 f34_ f35_1 f35_2 f35_ lay_32 ty_34 zc_34 z_34 f30_4 f30_7 f30_1 f31_4 f31_7 f31_1 f32_2 f32_4 f32_ f33_2 f33_4 f33_ lay_34 ty_37 zc_37 z_37 es_37 eb_37 sl_37 is_37 el_37 ze_37 ez_37 ty_39 zc_39 z_39 f30_3 f30_6 f30_ f31_3 f31_6 f31_ lay_39 ty_40 zc_40 z_40 es_40 eb_40 sl_40 is_40 el_40 ze_40 ez_40 ty_42 zc_42 z_42 f40_7 f40_11 f40_3 f41_7 f41_11 f41_3 f42_5 f42_8 f42_2 f43_5 f43_8 f43_2 lay_42 ty_44 zc_44 z_44 f40_6 f40_10 f40_2 f41_6 f41_10 f41_2 lay_44 ty_45 zc_45 z_45 es_45 eb_45 sl_45 is_45 el_45 ze_45 ez_45 ty_47 zc_47 z_47 f40_5 f40_9 f40_1 f41_5 f41_9 f41_1 f42_4 f42_7 f42_1 f43_4 f43_7 f43_1 f44_1 f44_2 f44_ f45_1 f45_2 f45_ lay_47 ty_49 zc_49 z_49 f40_4 f40_8 f40_ f41_4 f41_8 f41_ f42_3 f42_6 f42_ f43_3 f43_6 f43_ lay_49 ty_5 zc_5 z_5 ty_4 zc_4 z_4 u_4 mixedT ty_126 zc_126 z_126 es_126 eb_126 sl_126 is_126 el_126 ze_126 ez_126 ty_128 zc_128 z_128 f10_3 f10_5 f10_1 l1_1 ty_147 zc_147 z_147 f10_2 f10_4 f10_ f11_1 f11_2 f11_ l1_ ty_106 zc_106 z_106 es_106 eb_106 sl_106 is_106 el_106 ze_106 ez_106 ty_159 zc_159 z_159 es_159 eb_159 sl_159 is_159 el_159 ze_159 ez_159 ty_112 zc_112 z_112 es_112 eb_112 sl_112 is_112 el_112 ze_112 ez_112 ty_90 zc_90 z_90 ty_72 zc_72 z_72 ty_65 zc_65 z_65 ty_80 zc_80 z_80 ty_157 zc_157 z_157 uk_3 uk_157 ty_81 zc_81 z_81 ty_184 zc_184 z_184 iIB_2 ty_204 zc_204 z_204 es_204 eb_204 sl_204 is_204 el_204 ze_204 ez_204 ty_166 zc_166 z_166 ty_142 zc_142 z_142 es_142 eb_142 sl_142 by_142 is_142 el_142 ze_142 ez_142 uk_5 uk_9
end Go.Proofs.YtlgeocknlmbgeaaGreat
