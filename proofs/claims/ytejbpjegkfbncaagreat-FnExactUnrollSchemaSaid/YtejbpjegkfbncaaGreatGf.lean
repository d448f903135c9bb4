/- Lemmas of the proof; each says what it shows. -/
import Derived.Test.YtejbpjegkfbncaaGreatGty
import Derived.Test.YtejbpjegkfbncaaGreatChecked
import Derived.KernelRfl
set_option linter.unusedSimpArgs false
set_option linter.unusedVariables false
set_option linter.defProp false
set_option maxRecDepth 4000
namespace Go.Proofs.YtejbpjegkfbncaaGreat
open Go.Av
open ElemZero renaming mk'→bL
open FieldIs renaming mk'→aZ
open Tryz renaming prog→ag
open TyIs renaming mk'→ba
open ZeroIs renaming one→bn,agg→bD
theorem mixed:Tryz.prog.follows .mixedOrders=true:=by kernel_rfl
theorem mT_2:(Tryz.prog.follows .mixedOrders=true)=True:=eq_true mixed
theorem i_3:Tryz.prog.info? 3=some Tryz.t3:=by kernel_rfl
theorem ty_3:TyIs ag 3 false 1:=ba Tryz.underlying3 i_3 rfl rfl
theorem zc_3:zcv ag 8 3=.pv (.lit (.int .i64 0)):=by kernel_rfl
theorem z_3:ZeroIs ag 3 (.pv (.lit (.int .i64 0))):=bn i_3 rfl rfl rfl rfl rfl
theorem i_4:Tryz.prog.info? 4=some Tryz.t4:=by kernel_rfl
theorem ty_4:TyIs ag 4 false 1:=ba Tryz.underlying4 i_4 rfl rfl
theorem zc_4:zcv ag 8 4=.pv (.lit (.bool false)):=by kernel_rfl
theorem z_4:ZeroIs ag 4 (.pv (.lit (.bool false))):=bn i_4 rfl rfl rfl rfl rfl
theorem u_4:(Tryz.prog.underlying 4=some .bool)=True:=eq_true Tryz.underlying4
theorem i_5:Tryz.prog.info? 5=some Tryz.t5:=by kernel_rfl
theorem ty_5:TyIs ag 5 false 1:=ba Tryz.underlying5 i_5 rfl rfl
theorem zc_5:zcv ag 8 5=.pv (.lit (.int .u8 0)):=by kernel_rfl
theorem z_5:ZeroIs ag 5 (.pv (.lit (.int .u8 0))):=bn i_5 rfl rfl rfl rfl rfl
theorem i_9:Tryz.prog.info? 9=some Tryz.t9:=by kernel_rfl
theorem ty_9:TyIs ag 9 false 1:=ba Tryz.underlying9 i_9 rfl rfl
theorem zc_9:zcv ag 8 9=.pv (.lit (.string ⟨#[]⟩)):=by kernel_rfl
theorem z_9:ZeroIs ag 9 (.pv (.lit (.string ⟨#[]⟩))):=bn i_9 rfl rfl rfl rfl rfl
theorem u_9:(Tryz.prog.underlying 9=some .string)=True:=eq_true Tryz.underlying9
theorem i_22:Tryz.prog.info? 22=some Tryz.t22:=by kernel_rfl
theorem t2_5:TyIs ag 22 false 1:=ba Tryz.underlying22 i_22 rfl rfl
theorem z2_8:zcv ag 8 22=.pv (.sl true 2 []):=by kernel_rfl
theorem z_22:ZeroIs ag 22 (.pv (.sl true 2 [])):=bn i_22 rfl rfl rfl rfl rfl
theorem i_24:Tryz.prog.info? 24=some Tryz.t24:=by kernel_rfl
theorem e2_7:eS_ ag 22=2:=by kernel_rfl
theorem eb_22:eB_ ag 22=40:=by kernel_rfl
theorem s2_2:SlIs ag 22 2 40:=SlIs.mk' Tryz.underlying22 i_24 rfl rfl rfl rfl (by decide)
theorem i2_3:IsSl ag 22:=⟨_,Tryz.underlying22⟩
theorem e2_9:eOT_ ag 22=24:=by kernel_rfl
theorem z2_3:zel ag 22=.agg [(.lit (.string ⟨#[]⟩)),(.sl true 2 [])]:=by kernel_rfl
theorem e2_5:ElemZero ag 22 (.agg [(.lit (.string ⟨#[]⟩)),(.sl true 2 [])]):=bL Tryz.underlying22 (bD i_24 rfl rfl rfl)
theorem t2_4:TyIs ag 24 true 2:=ba Tryz.underlying24 i_24 rfl rfl
theorem z2_7:zcv ag 8 24=.node [.pv (.lit (.string ⟨#[]⟩)),.pv (.sl true 2 [])]:=by kernel_rfl
theorem z_24:ZeroIs ag 24 (.node [.pv (.lit (.string ⟨#[]⟩)),.pv (.sl true 2 [])]):=bD i_24 rfl rfl rfl
theorem f20_5:fOff ag 24 0=0:=by kernel_rfl
theorem f20_8:FieldIs ag 24 0 0:=aZ Tryz.underlying24 rfl rfl i_9 (by decide)
theorem f20_2:fldT ag 24 0=9:=by kernel_rfl
theorem f21_5:fOff ag 24 1=1:=by kernel_rfl
theorem f21_8:FieldIs ag 24 1 1:=aZ Tryz.underlying24 rfl rfl i_22 (by decide)
theorem f21_2:fldT ag 24 1=22:=by kernel_rfl
theorem l2_2:LO_ ag 24 [.pv (.lit (.string ⟨#[]⟩)),.pv (.sl true 2 [])]:=.inr ⟨_,Tryz.underlying24,rfl,fun k f hk=>by match k,hk with | 0,hk=>(obtain rfl:=Option.some.inj hk; exact⟨rfl,_,i_9,rfl⟩) | 1,hk=>(obtain rfl:=Option.some.inj hk; exact⟨rfl,_,i_22,rfl⟩) | k+2,hk=>simp at hk⟩
theorem i_25:Tryz.prog.info? 25=some Tryz.t25:=by kernel_rfl
theorem t2_3:TyIs ag 25 false 1:=ba Tryz.underlying25 i_25 rfl rfl
theorem z2_6:zcv ag 8 25=.pv (.sl true 5 []):=by kernel_rfl
theorem z_25:ZeroIs ag 25 (.pv (.sl true 5 [])):=bn i_25 rfl rfl rfl rfl rfl
theorem i_27:Tryz.prog.info? 27=some Tryz.t27:=by kernel_rfl
theorem e2_6:eS_ ag 25=5:=by kernel_rfl
theorem eb_25:eB_ ag 25=88:=by kernel_rfl
theorem s2_1:SlIs ag 25 5 88:=SlIs.mk' Tryz.underlying25 i_27 rfl rfl rfl rfl (by decide)
theorem i2_2:IsSl ag 25:=⟨_,Tryz.underlying25⟩
theorem e2_8:eOT_ ag 25=27:=by kernel_rfl
theorem z2_2:zel ag 25=.agg [(.lit (.int .i64 0)),.agg [(.lit (.string ⟨#[]⟩)),(.sl true 2 [])],(.lit (.string ⟨#[]⟩)),(.sl true 5 [])]:=by kernel_rfl
theorem e2_4:ElemZero ag 25 (.agg [(.lit (.int .i64 0)),.agg [(.lit (.string ⟨#[]⟩)),(.sl true 2 [])],(.lit (.string ⟨#[]⟩)),(.sl true 5 [])]):=bL Tryz.underlying25 (bD i_27 rfl rfl rfl)
theorem t2_2:TyIs ag 27 true 5:=ba Tryz.underlying27 i_27 rfl rfl
theorem z2_5:zcv ag 8 27=.node [.pv (.lit (.int .i64 0)),.node [.pv (.lit (.string ⟨#[]⟩)),.pv (.sl true 2 [])],.pv (.lit (.string ⟨#[]⟩)),.pv (.sl true 5 [])]:=by kernel_rfl
theorem z_27:ZeroIs ag 27 (.node [.pv (.lit (.int .i64 0)),.node [.pv (.lit (.string ⟨#[]⟩)),.pv (.sl true 2 [])],.pv (.lit (.string ⟨#[]⟩)),.pv (.sl true 5 [])]):=bD i_27 rfl rfl rfl
theorem f20_4:fOff ag 27 0=0:=by kernel_rfl
theorem f20_7:FieldIs ag 27 0 0:=aZ Tryz.underlying27 rfl rfl i_3 (by decide)
theorem f20_1:fldT ag 27 0=3:=by kernel_rfl
theorem f21_4:fOff ag 27 1=1:=by kernel_rfl
theorem f21_7:FieldIs ag 27 1 1:=aZ Tryz.underlying27 rfl rfl i_24 (by decide)
theorem f21_1:fldT ag 27 1=24:=by kernel_rfl
theorem f22_1:fOff ag 27 2=3:=by kernel_rfl
theorem f22_2:FieldIs ag 27 2 3:=aZ Tryz.underlying27 rfl rfl i_9 (by decide)
theorem f22_:fldT ag 27 2=9:=by kernel_rfl
theorem f23_1:fOff ag 27 3=4:=by kernel_rfl
theorem f23_2:FieldIs ag 27 3 4:=aZ Tryz.underlying27 rfl rfl i_25 (by decide)
theorem f23_:fldT ag 27 3=25:=by kernel_rfl
theorem l2_1:LO_ ag 27 [.pv (.lit (.int .i64 0)),.node [.pv (.lit (.string ⟨#[]⟩)),.pv (.sl true 2 [])],.pv (.lit (.string ⟨#[]⟩)),.pv (.sl true 5 [])]:=.inr ⟨_,Tryz.underlying27,rfl,fun k f hk=>by match k,hk with | 0,hk=>(obtain rfl:=Option.some.inj hk; exact⟨rfl,_,i_3,rfl⟩) | 1,hk=>(obtain rfl:=Option.some.inj hk; exact⟨rfl,_,i_24,rfl⟩) | 2,hk=>(obtain rfl:=Option.some.inj hk; exact⟨rfl,_,i_9,rfl⟩) | 3,hk=>(obtain rfl:=Option.some.inj hk; exact⟨rfl,_,i_25,rfl⟩) | k+4,hk=>simp at hk⟩
theorem i_29:Tryz.prog.info? 29=some Tryz.t29:=by kernel_rfl
theorem t2_1:TyIs ag 29 true 2:=ba Tryz.underlying29 i_29 rfl rfl
theorem z2_4:zcv ag 8 29=.node [.pv (.sl true 5 []),.pv (.sl true 5 [])]:=by kernel_rfl
theorem z_29:ZeroIs ag 29 (.node [.pv (.sl true 5 []),.pv (.sl true 5 [])]):=bD i_29 rfl rfl rfl
theorem f20_3:fOff ag 29 0=0:=by kernel_rfl
theorem f20_6:FieldIs ag 29 0 0:=aZ Tryz.underlying29 rfl rfl i_25 (by decide)
theorem f20_:fldT ag 29 0=25:=by kernel_rfl
theorem f21_3:fOff ag 29 1=1:=by kernel_rfl
theorem f21_6:FieldIs ag 29 1 1:=aZ Tryz.underlying29 rfl rfl i_25 (by decide)
theorem f21_:fldT ag 29 1=25:=by kernel_rfl
theorem l2_:LO_ ag 29 [.pv (.sl true 5 []),.pv (.sl true 5 [])]:=.inr ⟨_,Tryz.underlying29,rfl,fun k f hk=>by match k,hk with | 0,hk=>(obtain rfl:=Option.some.inj hk; exact⟨rfl,_,i_25,rfl⟩) | 1,hk=>(obtain rfl:=Option.some.inj hk; exact⟨rfl,_,i_25,rfl⟩) | k+2,hk=>simp at hk⟩
theorem i_30:Tryz.prog.info? 30=some Tryz.t30:=by kernel_rfl
theorem t3_5:TyIs ag 30 false 1:=ba Tryz.underlying30 i_30 rfl rfl
theorem z3_8:zcv ag 8 30=.pv (.sl true 12 []):=by kernel_rfl
theorem z_30:ZeroIs ag 30 (.pv (.sl true 12 [])):=bn i_30 rfl rfl rfl rfl rfl
theorem i_32:Tryz.prog.info? 32=some Tryz.t32:=by kernel_rfl
theorem e3_5:eS_ ag 30=12:=by kernel_rfl
theorem eb_30:eB_ ag 30=216:=by kernel_rfl
theorem s3_2:SlIs ag 30 12 216:=SlIs.mk' Tryz.underlying30 i_32 rfl rfl rfl rfl (by decide)
theorem i3_2:IsSl ag 30:=⟨_,Tryz.underlying30⟩
theorem e3_8:eOT_ ag 30=32:=by kernel_rfl
theorem z3_2:zel ag 30=.agg [(.lit (.int .i64 0)),.agg [(.sl true 5 []),(.sl true 5 [])],(.lit (.int .i64 0)),.agg [(.lit (.string ⟨#[]⟩)),(.sl true 2 [])],.agg [(.lit (.int .i64 0)),.agg [(.lit (.string ⟨#[]⟩)),(.sl true 2 [])],(.lit (.string ⟨#[]⟩)),(.sl true 5 [])],(.sl true 12 [])]:=by kernel_rfl
theorem e3_2:ElemZero ag 30 (.agg [(.lit (.int .i64 0)),.agg [(.sl true 5 []),(.sl true 5 [])],(.lit (.int .i64 0)),.agg [(.lit (.string ⟨#[]⟩)),(.sl true 2 [])],.agg [(.lit (.int .i64 0)),.agg [(.lit (.string ⟨#[]⟩)),(.sl true 2 [])],(.lit (.string ⟨#[]⟩)),(.sl true 5 [])],(.sl true 12 [])]):=bL Tryz.underlying30 (bD i_32 rfl rfl rfl)
theorem t3_4:TyIs ag 32 true 12:=ba Tryz.underlying32 i_32 rfl rfl
theorem z3_7:zcv ag 8 32=.node [.pv (.lit (.int .i64 0)),.node [.pv (.sl true 5 []),.pv (.sl true 5 [])],.pv (.lit (.int .i64 0)),.node [.pv (.lit (.string ⟨#[]⟩)),.pv (.sl true 2 [])],.node [.pv (.lit (.int .i64 0)),.node [.pv (.lit (.string ⟨#[]⟩)),.pv (.sl true 2 [])],.pv (.lit (.string ⟨#[]⟩)),.pv (.sl true 5 [])],.pv (.sl true 12 [])]:=by kernel_rfl
theorem z_32:ZeroIs ag 32 (.node [.pv (.lit (.int .i64 0)),.node [.pv (.sl true 5 []),.pv (.sl true 5 [])],.pv (.lit (.int .i64 0)),.node [.pv (.lit (.string ⟨#[]⟩)),.pv (.sl true 2 [])],.node [.pv (.lit (.int .i64 0)),.node [.pv (.lit (.string ⟨#[]⟩)),.pv (.sl true 2 [])],.pv (.lit (.string ⟨#[]⟩)),.pv (.sl true 5 [])],.pv (.sl true 12 [])]):=bD i_32 rfl rfl rfl
theorem f30_5:fOff ag 32 0=0:=by kernel_rfl
theorem f30_8:FieldIs ag 32 0 0:=aZ Tryz.underlying32 rfl rfl i_3 (by decide)
theorem f30_2:fldT ag 32 0=3:=by kernel_rfl
theorem f31_5:fOff ag 32 1=1:=by kernel_rfl
theorem f31_8:FieldIs ag 32 1 1:=aZ Tryz.underlying32 rfl rfl i_29 (by decide)
theorem f31_2:fldT ag 32 1=29:=by kernel_rfl
theorem f32_3:fOff ag 32 2=3:=by kernel_rfl
theorem f32_5:FieldIs ag 32 2 3:=aZ Tryz.underlying32 rfl rfl i_3 (by decide)
theorem f32_1:fldT ag 32 2=3:=by kernel_rfl
theorem f33_3:fOff ag 32 3=4:=by kernel_rfl
theorem f33_5:FieldIs ag 32 3 4:=aZ Tryz.underlying32 rfl rfl i_24 (by decide)
theorem f33_1:fldT ag 32 3=24:=by kernel_rfl
theorem f34_1:fOff ag 32 4=6:=by kernel_rfl
theorem f34_2:FieldIs ag 32 4 6:=aZ Tryz.underlying32 rfl rfl i_27 (by decide)
theorem f34_:fldT ag 32 4=27:=by kernel_rfl
theorem f35_1:fOff ag 32 5=11:=by kernel_rfl
theorem f35_2:FieldIs ag 32 5 11:=aZ Tryz.underlying32 rfl rfl i_30 (by decide)
theorem f35_:fldT ag 32 5=30:=by kernel_rfl
theorem l3_2:LO_ ag 32 [.pv (.lit (.int .i64 0)),.node [.pv (.sl true 5 []),.pv (.sl true 5 [])],.pv (.lit (.int .i64 0)),.node [.pv (.lit (.string ⟨#[]⟩)),.pv (.sl true 2 [])],.node [.pv (.lit (.int .i64 0)),.node [.pv (.lit (.string ⟨#[]⟩)),.pv (.sl true 2 [])],.pv (.lit (.string ⟨#[]⟩)),.pv (.sl true 5 [])],.pv (.sl true 12 [])]:=.inr ⟨_,Tryz.underlying32,rfl,fun k f hk=>by match k,hk with | 0,hk=>(obtain rfl:=Option.some.inj hk; exact⟨rfl,_,i_3,rfl⟩) | 1,hk=>(obtain rfl:=Option.some.inj hk; exact⟨rfl,_,i_29,rfl⟩) | 2,hk=>(obtain rfl:=Option.some.inj hk; exact⟨rfl,_,i_3,rfl⟩) | 3,hk=>(obtain rfl:=Option.some.inj hk; exact⟨rfl,_,i_24,rfl⟩) | 4,hk=>(obtain rfl:=Option.some.inj hk; exact⟨rfl,_,i_27,rfl⟩) | 5,hk=>(obtain rfl:=Option.some.inj hk; exact⟨rfl,_,i_30,rfl⟩) | k+6,hk=>simp at hk⟩
theorem i_34:Tryz.prog.info? 34=some Tryz.t34:=by kernel_rfl
theorem t3_3:TyIs ag 34 true 30:=ba Tryz.underlying34 i_34 rfl rfl
theorem z3_6:zcv ag 8 34=.node [.pv (.lit (.string ⟨#[]⟩)),.node [.pv (.lit (.int .i64 0)),.node [.pv (.lit (.string ⟨#[]⟩)),.pv (.sl true 2 [])],.pv (.lit (.string ⟨#[]⟩)),.pv (.sl true 5 [])],.node [.pv (.lit (.int .i64 0)),.node [.pv (.sl true 5 []),.pv (.sl true 5 [])],.pv (.lit (.int .i64 0)),.node [.pv (.lit (.string ⟨#[]⟩)),.pv (.sl true 2 [])],.node [.pv (.lit (.int .i64 0)),.node [.pv (.lit (.string ⟨#[]⟩)),.pv (.sl true 2 [])],.pv (.lit (.string ⟨#[]⟩)),.pv (.sl true 5 [])],.pv (.sl true 12 [])],.node [.pv (.lit (.int .i64 0)),.node [.pv (.sl true 5 []),.pv (.sl true 5 [])],.pv (.lit (.int .i64 0)),.node [.pv (.lit (.string ⟨#[]⟩)),.pv (.sl true 2 [])],.node [.pv (.lit (.int .i64 0)),.node [.pv (.lit (.string ⟨#[]⟩)),.pv (.sl true 2 [])],.pv (.lit (.string ⟨#[]⟩)),.pv (.sl true 5 [])],.pv (.sl true 12 [])]]:=by kernel_rfl
theorem z_34:ZeroIs ag 34 (.node [.pv (.lit (.string ⟨#[]⟩)),.node [.pv (.lit (.int .i64 0)),.node [.pv (.lit (.string ⟨#[]⟩)),.pv (.sl true 2 [])],.pv (.lit (.string ⟨#[]⟩)),.pv (.sl true 5 [])],.node [.pv (.lit (.int .i64 0)),.node [.pv (.sl true 5 []),.pv (.sl true 5 [])],.pv (.lit (.int .i64 0)),.node [.pv (.lit (.string ⟨#[]⟩)),.pv (.sl true 2 [])],.node [.pv (.lit (.int .i64 0)),.node [.pv (.lit (.string ⟨#[]⟩)),.pv (.sl true 2 [])],.pv (.lit (.string ⟨#[]⟩)),.pv (.sl true 5 [])],.pv (.sl true 12 [])],.node [.pv (.lit (.int .i64 0)),.node [.pv (.sl true 5 []),.pv (.sl true 5 [])],.pv (.lit (.int .i64 0)),.node [.pv (.lit (.string ⟨#[]⟩)),.pv (.sl true 2 [])],.node [.pv (.lit (.int .i64 0)),.node [.pv (.lit (.string ⟨#[]⟩)),.pv (.sl true 2 [])],.pv (.lit (.string ⟨#[]⟩)),.pv (.sl true 5 [])],.pv (.sl true 12 [])]]):=bD i_34 rfl rfl rfl
theorem f30_4:fOff ag 34 0=0:=by kernel_rfl
theorem f30_7:FieldIs ag 34 0 0:=aZ Tryz.underlying34 rfl rfl i_9 (by decide)
theorem f30_1:fldT ag 34 0=9:=by kernel_rfl
theorem f31_4:fOff ag 34 1=1:=by kernel_rfl
theorem f31_7:FieldIs ag 34 1 1:=aZ Tryz.underlying34 rfl rfl i_27 (by decide)
theorem f31_1:fldT ag 34 1=27:=by kernel_rfl
theorem f32_2:fOff ag 34 2=6:=by kernel_rfl
theorem f32_4:FieldIs ag 34 2 6:=aZ Tryz.underlying34 rfl rfl i_32 (by decide)
theorem f32_:fldT ag 34 2=32:=by kernel_rfl
theorem f33_2:fOff ag 34 3=18:=by kernel_rfl
theorem f33_4:FieldIs ag 34 3 18:=aZ Tryz.underlying34 rfl rfl i_32 (by decide)
theorem f33_:fldT ag 34 3=32:=by kernel_rfl
theorem l3_1:LO_ ag 34 [.pv (.lit (.string ⟨#[]⟩)),.node [.pv (.lit (.int .i64 0)),.node [.pv (.lit (.string ⟨#[]⟩)),.pv (.sl true 2 [])],.pv (.lit (.string ⟨#[]⟩)),.pv (.sl true 5 [])],.node [.pv (.lit (.int .i64 0)),.node [.pv (.sl true 5 []),.pv (.sl true 5 [])],.pv (.lit (.int .i64 0)),.node [.pv (.lit (.string ⟨#[]⟩)),.pv (.sl true 2 [])],.node [.pv (.lit (.int .i64 0)),.node [.pv (.lit (.string ⟨#[]⟩)),.pv (.sl true 2 [])],.pv (.lit (.string ⟨#[]⟩)),.pv (.sl true 5 [])],.pv (.sl true 12 [])],.node [.pv (.lit (.int .i64 0)),.node [.pv (.sl true 5 []),.pv (.sl true 5 [])],.pv (.lit (.int .i64 0)),.node [.pv (.lit (.string ⟨#[]⟩)),.pv (.sl true 2 [])],.node [.pv (.lit (.int .i64 0)),.node [.pv (.lit (.string ⟨#[]⟩)),.pv (.sl true 2 [])],.pv (.lit (.string ⟨#[]⟩)),.pv (.sl true 5 [])],.pv (.sl true 12 [])]]:=.inr ⟨_,Tryz.underlying34,rfl,fun k f hk=>by match k,hk with | 0,hk=>(obtain rfl:=Option.some.inj hk; exact⟨rfl,_,i_9,rfl⟩) | 1,hk=>(obtain rfl:=Option.some.inj hk; exact⟨rfl,_,i_27,rfl⟩) | 2,hk=>(obtain rfl:=Option.some.inj hk; exact⟨rfl,_,i_32,rfl⟩) | 3,hk=>(obtain rfl:=Option.some.inj hk; exact⟨rfl,_,i_32,rfl⟩) | k+4,hk=>simp at hk⟩
theorem i_36:Tryz.prog.info? 36=some Tryz.t36:=by kernel_rfl
theorem t3_2:TyIs ag 36 false 1:=ba Tryz.underlying36 i_36 rfl rfl
theorem z3_5:zcv ag 8 36=.pv (.sl true 5 []):=by kernel_rfl
theorem z_36:ZeroIs ag 36 (.pv (.sl true 5 [])):=bn i_36 rfl rfl rfl rfl rfl
theorem i_43:Tryz.prog.info? 43=some Tryz.t43:=by kernel_rfl
theorem e3_4:eS_ ag 36=5:=by kernel_rfl
theorem eb_36:eB_ ag 36=88:=by kernel_rfl
theorem s3_1:SlIs ag 36 5 88:=SlIs.mk' Tryz.underlying36 i_43 rfl rfl rfl rfl (by decide)
theorem i3_1:IsSl ag 36:=⟨_,Tryz.underlying36⟩
theorem e3_7:eOT_ ag 36=43:=by kernel_rfl
theorem z3_1:zel ag 36=.agg [(.lit (.int .i64 0)),.agg [(.lit (.string ⟨#[]⟩)),(.sl true 2 [])],(.lit (.string ⟨#[]⟩)),(.sl true 5 [])]:=by kernel_rfl
theorem e3_1:ElemZero ag 36 (.agg [(.lit (.int .i64 0)),.agg [(.lit (.string ⟨#[]⟩)),(.sl true 2 [])],(.lit (.string ⟨#[]⟩)),(.sl true 5 [])]):=bL Tryz.underlying36 (bD i_43 rfl rfl rfl)
theorem i_38:Tryz.prog.info? 38=some Tryz.t38:=by kernel_rfl
theorem t3_1:TyIs ag 38 true 2:=ba Tryz.underlying38 i_38 rfl rfl
theorem z3_4:zcv ag 8 38=.node [.pv (.sl true 5 []),.pv (.sl true 5 [])]:=by kernel_rfl
theorem z_38:ZeroIs ag 38 (.node [.pv (.sl true 5 []),.pv (.sl true 5 [])]):=bD i_38 rfl rfl rfl
theorem f30_3:fOff ag 38 0=0:=by kernel_rfl
theorem f30_6:FieldIs ag 38 0 0:=aZ Tryz.underlying38 rfl rfl i_36 (by decide)
theorem f30_:fldT ag 38 0=36:=by kernel_rfl
theorem f31_3:fOff ag 38 1=1:=by kernel_rfl
theorem f31_6:FieldIs ag 38 1 1:=aZ Tryz.underlying38 rfl rfl i_36 (by decide)
theorem f31_:fldT ag 38 1=36:=by kernel_rfl
theorem l3_:LO_ ag 38 [.pv (.sl true 5 []),.pv (.sl true 5 [])]:=.inr ⟨_,Tryz.underlying38,rfl,fun k f hk=>by match k,hk with | 0,hk=>(obtain rfl:=Option.some.inj hk; exact⟨rfl,_,i_36,rfl⟩) | 1,hk=>(obtain rfl:=Option.some.inj hk; exact⟨rfl,_,i_36,rfl⟩) | k+2,hk=>simp at hk⟩
theorem i_39:Tryz.prog.info? 39=some Tryz.t39:=by kernel_rfl
theorem t3_:TyIs ag 39 false 1:=ba Tryz.underlying39 i_39 rfl rfl
theorem z3_3:zcv ag 8 39=.pv (.sl true 2 []):=by kernel_rfl
theorem z_39:ZeroIs ag 39 (.pv (.sl true 2 [])):=bn i_39 rfl rfl rfl rfl rfl
theorem i_41:Tryz.prog.info? 41=some Tryz.t41:=by kernel_rfl
theorem e3_3:eS_ ag 39=2:=by kernel_rfl
theorem e3_9:eB_ ag 39=40:=by kernel_rfl
theorem s3_:SlIs ag 39 2 40:=SlIs.mk' Tryz.underlying39 i_41 rfl rfl rfl rfl (by decide)
theorem i3_:IsSl ag 39:=⟨_,Tryz.underlying39⟩
theorem e3_6:eOT_ ag 39=41:=by kernel_rfl
theorem z3_:zel ag 39=.agg [(.lit (.string ⟨#[]⟩)),(.sl true 2 [])]:=by kernel_rfl
theorem e3_:ElemZero ag 39 (.agg [(.lit (.string ⟨#[]⟩)),(.sl true 2 [])]):=bL Tryz.underlying39 (bD i_41 rfl rfl rfl)
theorem t4_3:TyIs ag 41 true 2:=ba Tryz.underlying41 i_41 rfl rfl
theorem z4_4:zcv ag 8 41=.node [.pv (.lit (.string ⟨#[]⟩)),.pv (.sl true 2 [])]:=by kernel_rfl
theorem z_41:ZeroIs ag 41 (.node [.pv (.lit (.string ⟨#[]⟩)),.pv (.sl true 2 [])]):=bD i_41 rfl rfl rfl
theorem f40_5:fOff ag 41 0=0:=by kernel_rfl
theorem f40_8:FieldIs ag 41 0 0:=aZ Tryz.underlying41 rfl rfl i_9 (by decide)
theorem f40_2:fldT ag 41 0=9:=by kernel_rfl
theorem f41_5:fOff ag 41 1=1:=by kernel_rfl
theorem f41_8:FieldIs ag 41 1 1:=aZ Tryz.underlying41 rfl rfl i_39 (by decide)
theorem f41_2:fldT ag 41 1=39:=by kernel_rfl
theorem l4_2:LO_ ag 41 [.pv (.lit (.string ⟨#[]⟩)),.pv (.sl true 2 [])]:=.inr ⟨_,Tryz.underlying41,rfl,fun k f hk=>by match k,hk with | 0,hk=>(obtain rfl:=Option.some.inj hk; exact⟨rfl,_,i_9,rfl⟩) | 1,hk=>(obtain rfl:=Option.some.inj hk; exact⟨rfl,_,i_39,rfl⟩) | k+2,hk=>simp at hk⟩
theorem t4_2:TyIs ag 43 true 5:=ba Tryz.underlying43 i_43 rfl rfl
theorem z4_3:zcv ag 8 43=.node [.pv (.lit (.int .i64 0)),.node [.pv (.lit (.string ⟨#[]⟩)),.pv (.sl true 2 [])],.pv (.lit (.string ⟨#[]⟩)),.pv (.sl true 5 [])]:=by kernel_rfl
theorem z_43:ZeroIs ag 43 (.node [.pv (.lit (.int .i64 0)),.node [.pv (.lit (.string ⟨#[]⟩)),.pv (.sl true 2 [])],.pv (.lit (.string ⟨#[]⟩)),.pv (.sl true 5 [])]):=bD i_43 rfl rfl rfl
theorem f40_4:fOff ag 43 0=0:=by kernel_rfl
theorem f40_7:FieldIs ag 43 0 0:=aZ Tryz.underlying43 rfl rfl i_3 (by decide)
theorem f40_1:fldT ag 43 0=3:=by kernel_rfl
theorem f41_4:fOff ag 43 1=1:=by kernel_rfl
theorem f41_7:FieldIs ag 43 1 1:=aZ Tryz.underlying43 rfl rfl i_41 (by decide)
theorem f41_1:fldT ag 43 1=41:=by kernel_rfl
theorem f42_3:fOff ag 43 2=3:=by kernel_rfl
theorem f42_5:FieldIs ag 43 2 3:=aZ Tryz.underlying43 rfl rfl i_9 (by decide)
theorem f42_1:fldT ag 43 2=9:=by kernel_rfl
theorem f43_3:fOff ag 43 3=4:=by kernel_rfl
theorem f43_5:FieldIs ag 43 3 4:=aZ Tryz.underlying43 rfl rfl i_36 (by decide)
theorem f43_1:fldT ag 43 3=36:=by kernel_rfl
theorem l4_1:LO_ ag 43 [.pv (.lit (.int .i64 0)),.node [.pv (.lit (.string ⟨#[]⟩)),.pv (.sl true 2 [])],.pv (.lit (.string ⟨#[]⟩)),.pv (.sl true 5 [])]:=.inr ⟨_,Tryz.underlying43,rfl,fun k f hk=>by match k,hk with | 0,hk=>(obtain rfl:=Option.some.inj hk; exact⟨rfl,_,i_3,rfl⟩) | 1,hk=>(obtain rfl:=Option.some.inj hk; exact⟨rfl,_,i_41,rfl⟩) | 2,hk=>(obtain rfl:=Option.some.inj hk; exact⟨rfl,_,i_9,rfl⟩) | 3,hk=>(obtain rfl:=Option.some.inj hk; exact⟨rfl,_,i_36,rfl⟩) | k+4,hk=>simp at hk⟩
theorem i_44:Tryz.prog.info? 44=some Tryz.t44:=by kernel_rfl
theorem t4_1:TyIs ag 44 false 1:=ba Tryz.underlying44 i_44 rfl rfl
theorem z4_2:zcv ag 8 44=.pv (.sl true 12 []):=by kernel_rfl
theorem z_44:ZeroIs ag 44 (.pv (.sl true 12 [])):=bn i_44 rfl rfl rfl rfl rfl
theorem i_46:Tryz.prog.info? 46=some Tryz.t46:=by kernel_rfl
theorem e4_1:eS_ ag 44=12:=by kernel_rfl
theorem e4_3:eB_ ag 44=216:=by kernel_rfl
theorem s4_:SlIs ag 44 12 216:=SlIs.mk' Tryz.underlying44 i_46 rfl rfl rfl rfl (by decide)
theorem i4_:IsSl ag 44:=⟨_,Tryz.underlying44⟩
theorem e4_2:eOT_ ag 44=46:=by kernel_rfl
theorem z4_:zel ag 44=.agg [(.lit (.int .i64 0)),.agg [(.sl true 5 []),(.sl true 5 [])],(.lit (.int .i64 0)),.agg [(.lit (.string ⟨#[]⟩)),(.sl true 2 [])],.agg [(.lit (.int .i64 0)),.agg [(.lit (.string ⟨#[]⟩)),(.sl true 2 [])],(.lit (.string ⟨#[]⟩)),(.sl true 5 [])],(.sl true 12 [])]:=by kernel_rfl
theorem e4_:ElemZero ag 44 (.agg [(.lit (.int .i64 0)),.agg [(.sl true 5 []),(.sl true 5 [])],(.lit (.int .i64 0)),.agg [(.lit (.string ⟨#[]⟩)),(.sl true 2 [])],.agg [(.lit (.int .i64 0)),.agg [(.lit (.string ⟨#[]⟩)),(.sl true 2 [])],(.lit (.string ⟨#[]⟩)),(.sl true 5 [])],(.sl true 12 [])]):=bL Tryz.underlying44 (bD i_46 rfl rfl rfl)
theorem t4_:TyIs ag 46 true 12:=ba Tryz.underlying46 i_46 rfl rfl
theorem z4_1:zcv ag 8 46=.node [.pv (.lit (.int .i64 0)),.node [.pv (.sl true 5 []),.pv (.sl true 5 [])],.pv (.lit (.int .i64 0)),.node [.pv (.lit (.string ⟨#[]⟩)),.pv (.sl true 2 [])],.node [.pv (.lit (.int .i64 0)),.node [.pv (.lit (.string ⟨#[]⟩)),.pv (.sl true 2 [])],.pv (.lit (.string ⟨#[]⟩)),.pv (.sl true 5 [])],.pv (.sl true 12 [])]:=by kernel_rfl
theorem z_46:ZeroIs ag 46 (.node [.pv (.lit (.int .i64 0)),.node [.pv (.sl true 5 []),.pv (.sl true 5 [])],.pv (.lit (.int .i64 0)),.node [.pv (.lit (.string ⟨#[]⟩)),.pv (.sl true 2 [])],.node [.pv (.lit (.int .i64 0)),.node [.pv (.lit (.string ⟨#[]⟩)),.pv (.sl true 2 [])],.pv (.lit (.string ⟨#[]⟩)),.pv (.sl true 5 [])],.pv (.sl true 12 [])]):=bD i_46 rfl rfl rfl
theorem f40_3:fOff ag 46 0=0:=by kernel_rfl
theorem f40_6:FieldIs ag 46 0 0:=aZ Tryz.underlying46 rfl rfl i_3 (by decide)
theorem f40_:fldT ag 46 0=3:=by kernel_rfl
theorem f41_3:fOff ag 46 1=1:=by kernel_rfl
theorem f41_6:FieldIs ag 46 1 1:=aZ Tryz.underlying46 rfl rfl i_38 (by decide)
theorem f41_:fldT ag 46 1=38:=by kernel_rfl
theorem f42_2:fOff ag 46 2=3:=by kernel_rfl
theorem f42_4:FieldIs ag 46 2 3:=aZ Tryz.underlying46 rfl rfl i_3 (by decide)
theorem f42_:fldT ag 46 2=3:=by kernel_rfl
theorem f43_2:fOff ag 46 3=4:=by kernel_rfl
theorem f43_4:FieldIs ag 46 3 4:=aZ Tryz.underlying46 rfl rfl i_41 (by decide)
theorem f43_:fldT ag 46 3=41:=by kernel_rfl
theorem f44_1:fOff ag 46 4=6:=by kernel_rfl
theorem f44_2:FieldIs ag 46 4 6:=aZ Tryz.underlying46 rfl rfl i_43 (by decide)
theorem f44_:fldT ag 46 4=43:=by kernel_rfl
theorem f45_1:fOff ag 46 5=11:=by kernel_rfl
theorem f45_2:FieldIs ag 46 5 11:=aZ Tryz.underlying46 rfl rfl i_44 (by decide)
theorem f45_:fldT ag 46 5=44:=by kernel_rfl
theorem l4_:LO_ ag 46 [.pv (.lit (.int .i64 0)),.node [.pv (.sl true 5 []),.pv (.sl true 5 [])],.pv (.lit (.int .i64 0)),.node [.pv (.lit (.string ⟨#[]⟩)),.pv (.sl true 2 [])],.node [.pv (.lit (.int .i64 0)),.node [.pv (.lit (.string ⟨#[]⟩)),.pv (.sl true 2 [])],.pv (.lit (.string ⟨#[]⟩)),.pv (.sl true 5 [])],.pv (.sl true 12 [])]:=.inr ⟨_,Tryz.underlying46,rfl,fun k f hk=>by match k,hk with | 0,hk=>(obtain rfl:=Option.some.inj hk; exact⟨rfl,_,i_3,rfl⟩) | 1,hk=>(obtain rfl:=Option.some.inj hk; exact⟨rfl,_,i_38,rfl⟩) | 2,hk=>(obtain rfl:=Option.some.inj hk; exact⟨rfl,_,i_3,rfl⟩) | 3,hk=>(obtain rfl:=Option.some.inj hk; exact⟨rfl,_,i_41,rfl⟩) | 4,hk=>(obtain rfl:=Option.some.inj hk; exact⟨rfl,_,i_43,rfl⟩) | 5,hk=>(obtain rfl:=Option.some.inj hk; exact⟨rfl,_,i_44,rfl⟩) | k+6,hk=>simp at hk⟩
theorem i_50:Tryz.prog.info? 50=some Tryz.t50:=by kernel_rfl
theorem t5_:TyIs ag 50 true 30:=ba Tryz.underlying50 i_50 rfl rfl
theorem z5_:zcv ag 8 50=.node [.pv (.lit (.string ⟨#[]⟩)),.node [.pv (.lit (.int .i64 0)),.node [.pv (.lit (.string ⟨#[]⟩)),.pv (.sl true 2 [])],.pv (.lit (.string ⟨#[]⟩)),.pv (.sl true 5 [])],.node [.pv (.lit (.int .i64 0)),.node [.pv (.sl true 5 []),.pv (.sl true 5 [])],.pv (.lit (.int .i64 0)),.node [.pv (.lit (.string ⟨#[]⟩)),.pv (.sl true 2 [])],.node [.pv (.lit (.int .i64 0)),.node [.pv (.lit (.string ⟨#[]⟩)),.pv (.sl true 2 [])],.pv (.lit (.string ⟨#[]⟩)),.pv (.sl true 5 [])],.pv (.sl true 12 [])],.node [.pv (.lit (.int .i64 0)),.node [.pv (.sl true 5 []),.pv (.sl true 5 [])],.pv (.lit (.int .i64 0)),.node [.pv (.lit (.string ⟨#[]⟩)),.pv (.sl true 2 [])],.node [.pv (.lit (.int .i64 0)),.node [.pv (.lit (.string ⟨#[]⟩)),.pv (.sl true 2 [])],.pv (.lit (.string ⟨#[]⟩)),.pv (.sl true 5 [])],.pv (.sl true 12 [])]]:=by kernel_rfl
theorem z_50:ZeroIs ag 50 (.node [.pv (.lit (.string ⟨#[]⟩)),.node [.pv (.lit (.int .i64 0)),.node [.pv (.lit (.string ⟨#[]⟩)),.pv (.sl true 2 [])],.pv (.lit (.string ⟨#[]⟩)),.pv (.sl true 5 [])],.node [.pv (.lit (.int .i64 0)),.node [.pv (.sl true 5 []),.pv (.sl true 5 [])],.pv (.lit (.int .i64 0)),.node [.pv (.lit (.string ⟨#[]⟩)),.pv (.sl true 2 [])],.node [.pv (.lit (.int .i64 0)),.node [.pv (.lit (.string ⟨#[]⟩)),.pv (.sl true 2 [])],.pv (.lit (.string ⟨#[]⟩)),.pv (.sl true 5 [])],.pv (.sl true 12 [])],.node [.pv (.lit (.int .i64 0)),.node [.pv (.sl true 5 []),.pv (.sl true 5 [])],.pv (.lit (.int .i64 0)),.node [.pv (.lit (.string ⟨#[]⟩)),.pv (.sl true 2 [])],.node [.pv (.lit (.int .i64 0)),.node [.pv (.lit (.string ⟨#[]⟩)),.pv (.sl true 2 [])],.pv (.lit (.string ⟨#[]⟩)),.pv (.sl true 5 [])],.pv (.sl true 12 [])]]):=bD i_50 rfl rfl rfl
theorem f50_1:fOff ag 50 0=0:=by kernel_rfl
theorem f50_2:FieldIs ag 50 0 0:=aZ Tryz.underlying50 rfl rfl i_9 (by decide)
theorem f50_:fldT ag 50 0=9:=by kernel_rfl
theorem f51_1:fOff ag 50 1=1:=by kernel_rfl
theorem f51_2:FieldIs ag 50 1 1:=aZ Tryz.underlying50 rfl rfl i_43 (by decide)
theorem f51_:fldT ag 50 1=43:=by kernel_rfl
theorem f52_1:fOff ag 50 2=6:=by kernel_rfl
theorem f52_2:FieldIs ag 50 2 6:=aZ Tryz.underlying50 rfl rfl i_46 (by decide)
theorem f52_:fldT ag 50 2=46:=by kernel_rfl
theorem f53_1:fOff ag 50 3=18:=by kernel_rfl
theorem f53_2:FieldIs ag 50 3 18:=aZ Tryz.underlying50 rfl rfl i_46 (by decide)
theorem f53_:fldT ag 50 3=46:=by kernel_rfl
theorem l5_:LO_ ag 50 [.pv (.lit (.string ⟨#[]⟩)),.node [.pv (.lit (.int .i64 0)),.node [.pv (.lit (.string ⟨#[]⟩)),.pv (.sl true 2 [])],.pv (.lit (.string ⟨#[]⟩)),.pv (.sl true 5 [])],.node [.pv (.lit (.int .i64 0)),.node [.pv (.sl true 5 []),.pv (.sl true 5 [])],.pv (.lit (.int .i64 0)),.node [.pv (.lit (.string ⟨#[]⟩)),.pv (.sl true 2 [])],.node [.pv (.lit (.int .i64 0)),.node [.pv (.lit (.string ⟨#[]⟩)),.pv (.sl true 2 [])],.pv (.lit (.string ⟨#[]⟩)),.pv (.sl true 5 [])],.pv (.sl true 12 [])],.node [.pv (.lit (.int .i64 0)),.node [.pv (.sl true 5 []),.pv (.sl true 5 [])],.pv (.lit (.int .i64 0)),.node [.pv (.lit (.string ⟨#[]⟩)),.pv (.sl true 2 [])],.node [.pv (.lit (.int .i64 0)),.node [.pv (.lit (.string ⟨#[]⟩)),.pv (.sl true 2 [])],.pv (.lit (.string ⟨#[]⟩)),.pv (.sl true 5 [])],.pv (.sl true 12 [])]]:=.inr ⟨_,Tryz.underlying50,rfl,fun k f hk=>by match k,hk with | 0,hk=>(obtain rfl:=Option.some.inj hk; exact⟨rfl,_,i_9,rfl⟩) | 1,hk=>(obtain rfl:=Option.some.inj hk; exact⟨rfl,_,i_43,rfl⟩) | 2,hk=>(obtain rfl:=Option.some.inj hk; exact⟨rfl,_,i_46,rfl⟩) | 3,hk=>(obtain rfl:=Option.some.inj hk; exact⟨rfl,_,i_46,rfl⟩) | k+4,hk=>simp at hk⟩
theorem i_66:Tryz.prog.info? 66=some Tryz.t66:=by kernel_rfl
theorem t6_1:TyIs ag 66 false 1:=ba Tryz.underlying66 i_66 rfl rfl
theorem z6_1:zcv ag 8 66=.pv (.lit .nilFunc):=by kernel_rfl
theorem z_66:ZeroIs ag 66 (.pv (.lit .nilFunc)):=bn i_66 rfl rfl rfl rfl rfl
theorem i_67:Tryz.prog.info? 67=some Tryz.t67:=by kernel_rfl
theorem t6_:TyIs ag 67 false 1:=ba Tryz.underlying67 i_67 rfl rfl
theorem z6_:zcv ag 8 67=.pv (.lit .nilFunc):=by kernel_rfl
theorem z_67:ZeroIs ag 67 (.pv (.lit .nilFunc)):=bn i_67 rfl rfl rfl rfl rfl
theorem i_78:Tryz.prog.info? 78=some Tryz.t78:=by kernel_rfl
theorem t7_:TyIs ag 78 false 1:=ba Tryz.underlying78 i_78 rfl rfl
theorem z7_:zcv ag 8 78=.pv (.lit .nilFunc):=by kernel_rfl
theorem z_78:ZeroIs ag 78 (.pv (.lit .nilFunc)):=bn i_78 rfl rfl rfl rfl rfl
theorem i_85:Tryz.prog.info? 85=some Tryz.t85:=by kernel_rfl
theorem t8_:TyIs ag 85 false 1:=ba Tryz.underlying85 i_85 rfl rfl
theorem z8_1:zcv ag 8 85=.pv (.sl true 1 []):=by kernel_rfl
theorem z_85:ZeroIs ag 85 (.pv (.sl true 1 [])):=bn i_85 rfl rfl rfl rfl rfl
theorem e8_1:eS_ ag 85=1:=by kernel_rfl
theorem e8_3:eB_ ag 85=16:=by kernel_rfl
theorem s8_:SlIs ag 85 1 16:=SlIs.mk' Tryz.underlying85 i_9 rfl rfl rfl rfl (by decide)
theorem i8_:IsSl ag 85:=⟨_,Tryz.underlying85⟩
theorem e8_2:eOT_ ag 85=9:=by kernel_rfl
theorem z8_:zel ag 85=(.lit (.string ⟨#[]⟩)):=by kernel_rfl
theorem e8_:ElemZero ag 85 ((.lit (.string ⟨#[]⟩))):=bL Tryz.underlying85 (bn i_9 rfl rfl rfl rfl rfl)
theorem i_93:Tryz.prog.info? 93=some Tryz.t93:=by kernel_rfl
theorem t9_:TyIs ag 93 false 1:=ba Tryz.underlying93 i_93 rfl rfl
theorem z9_:zcv ag 8 93=.pv (.lit .nilFunc):=by kernel_rfl
theorem z_93:ZeroIs ag 93 (.pv (.lit .nilFunc)):=bn i_93 rfl rfl rfl rfl rfl
theorem i1_9:Tryz.prog.info? 112=some Tryz.t112:=by kernel_rfl
theorem t1_10:TyIs ag 112 false 1:=ba Tryz.underlying112 i1_9 rfl rfl
theorem z1_13:zcv ag 8 112=.pv (.sl true 1 []):=by kernel_rfl
theorem z_112:ZeroIs ag 112 (.pv (.sl true 1 [])):=bn i1_9 rfl rfl rfl rfl rfl
theorem e1_7:eS_ ag 112=1:=by kernel_rfl
theorem e1_15:eB_ ag 112=8:=by kernel_rfl
theorem s1_3:SlIs ag 112 1 8:=SlIs.mk' Tryz.underlying112 i_3 rfl rfl rfl rfl (by decide)
theorem i1_13:IsSl ag 112:=⟨_,Tryz.underlying112⟩
theorem e1_11:eOT_ ag 112=3:=by kernel_rfl
theorem z1_3:zel ag 112=(.lit (.int .i64 0)):=by kernel_rfl
theorem e1_3:ElemZero ag 112 ((.lit (.int .i64 0))):=bL Tryz.underlying112 (bn i_3 rfl rfl rfl rfl rfl)
theorem i1_1:Tryz.prog.info? 116=some Tryz.t116:=by kernel_rfl
theorem t1_9:TyIs ag 116 false 1:=ba Tryz.underlying116 i1_1 rfl rfl
theorem z1_12:zcv ag 8 116=.pv (.sl true 3 []):=by kernel_rfl
theorem z_116:ZeroIs ag 116 (.pv (.sl true 3 [])):=bn i1_1 rfl rfl rfl rfl rfl
theorem i1_:Tryz.prog.info? 141=some Tryz.t141:=by kernel_rfl
theorem e1_6:eS_ ag 116=3:=by kernel_rfl
theorem e1_14:eB_ ag 116=56:=by kernel_rfl
theorem s1_2:SlIs ag 116 3 56:=SlIs.mk' Tryz.underlying116 i1_ rfl rfl rfl rfl (by decide)
theorem i1_12:IsSl ag 116:=⟨_,Tryz.underlying116⟩
theorem e1_10:eOT_ ag 116=141:=by kernel_rfl
theorem z1_2:zel ag 116=.agg [(.lit (.string ⟨#[]⟩)),.agg [(.lit (.string ⟨#[]⟩)),(.sl true 2 [])]]:=by kernel_rfl
theorem e1_2:ElemZero ag 116 (.agg [(.lit (.string ⟨#[]⟩)),.agg [(.lit (.string ⟨#[]⟩)),(.sl true 2 [])]]):=bL Tryz.underlying116 (bD i1_ rfl rfl rfl)
theorem i1_8:Tryz.prog.info? 118=some Tryz.t118:=by kernel_rfl
theorem t1_8:TyIs ag 118 true 1:=ba Tryz.underlying118 i1_8 rfl rfl
theorem z1_11:zcv ag 8 118=.node [.pv (.sl true 3 [])]:=by kernel_rfl
theorem z_118:ZeroIs ag 118 (.node [.pv (.sl true 3 [])]):=bD i1_8 rfl rfl rfl
theorem f10_3:fOff ag 118 0=0:=by kernel_rfl
theorem f10_5:FieldIs ag 118 0 0:=aZ Tryz.underlying118 rfl rfl i1_1 (by decide)
theorem f10_1:fldT ag 118 0=116:=by kernel_rfl
theorem l1_1:LO_ ag 118 [.pv (.sl true 3 [])]:=.inr ⟨_,Tryz.underlying118,rfl,fun k f hk=>by match k,hk with | 0,hk=>(obtain rfl:=Option.some.inj hk; exact⟨rfl,_,i1_1,rfl⟩) | k+1,hk=>simp at hk⟩
theorem i1_7:Tryz.prog.info? 120=some Tryz.t120:=by kernel_rfl
theorem t1_7:TyIs ag 120 false 1:=ba Tryz.underlying120 i1_7 rfl rfl
theorem z1_10:zcv ag 8 120=.pv (.lit .nilFunc):=by kernel_rfl
theorem z_120:ZeroIs ag 120 (.pv (.lit .nilFunc)):=bn i1_7 rfl rfl rfl rfl rfl
theorem i1_6:Tryz.prog.info? 137=some Tryz.t137:=by kernel_rfl
theorem t1_6:TyIs ag 137 false 1:=ba Tryz.underlying137 i1_6 rfl rfl
theorem z1_9:zcv ag 8 137=.pv (.sl true 1 []):=by kernel_rfl
theorem z_137:ZeroIs ag 137 (.pv (.sl true 1 [])):=bn i1_6 rfl rfl rfl rfl rfl
theorem e1_5:eS_ ag 137=1:=by kernel_rfl
theorem e1_13:eB_ ag 137=1:=by kernel_rfl
theorem s1_1:SlIs ag 137 1 1:=SlIs.mk' Tryz.underlying137 i_5 rfl rfl rfl rfl (by decide)
theorem b1_:IB_ ag 137:=⟨_,Tryz.underlying137,Tryz.underlying5⟩
theorem i1_11:IsSl ag 137:=⟨_,Tryz.underlying137⟩
theorem e1_9:eOT_ ag 137=5:=by kernel_rfl
theorem z1_1:zel ag 137=(.lit (.int .u8 0)):=by kernel_rfl
theorem e1_1:ElemZero ag 137 ((.lit (.int .u8 0))):=bL Tryz.underlying137 (bn i_5 rfl rfl rfl rfl rfl)
theorem t1_5:TyIs ag 141 true 3:=ba Tryz.underlying141 i1_ rfl rfl
theorem z1_8:zcv ag 8 141=.node [.pv (.lit (.string ⟨#[]⟩)),.node [.pv (.lit (.string ⟨#[]⟩)),.pv (.sl true 2 [])]]:=by kernel_rfl
theorem z_141:ZeroIs ag 141 (.node [.pv (.lit (.string ⟨#[]⟩)),.node [.pv (.lit (.string ⟨#[]⟩)),.pv (.sl true 2 [])]]):=bD i1_ rfl rfl rfl
theorem f10_2:fOff ag 141 0=0:=by kernel_rfl
theorem f10_4:FieldIs ag 141 0 0:=aZ Tryz.underlying141 rfl rfl i_9 (by decide)
theorem f10_:fldT ag 141 0=9:=by kernel_rfl
theorem f11_1:fOff ag 141 1=1:=by kernel_rfl
theorem f11_2:FieldIs ag 141 1 1:=aZ Tryz.underlying141 rfl rfl i_41 (by decide)
theorem f11_:fldT ag 141 1=41:=by kernel_rfl
theorem l1_:LO_ ag 141 [.pv (.lit (.string ⟨#[]⟩)),.node [.pv (.lit (.string ⟨#[]⟩)),.pv (.sl true 2 [])]]:=.inr ⟨_,Tryz.underlying141,rfl,fun k f hk=>by match k,hk with | 0,hk=>(obtain rfl:=Option.some.inj hk; exact⟨rfl,_,i_9,rfl⟩) | 1,hk=>(obtain rfl:=Option.some.inj hk; exact⟨rfl,_,i_41,rfl⟩) | k+2,hk=>simp at hk⟩
theorem i_156:Tryz.prog.info? 156=some Tryz.t156:=by kernel_rfl
theorem t1_4:TyIs ag 156 false 1:=ba Tryz.underlying156 i_156 rfl rfl
theorem i1_5:Tryz.prog.info? 158=some Tryz.t158:=by kernel_rfl
theorem t1_3:TyIs ag 158 false 1:=ba Tryz.underlying158 i1_5 rfl rfl
theorem z1_7:zcv ag 8 158=.pv (.sl true 2 []):=by kernel_rfl
theorem z_158:ZeroIs ag 158 (.pv (.sl true 2 [])):=bn i1_5 rfl rfl rfl rfl rfl
theorem e1_4:eS_ ag 158=2:=by kernel_rfl
theorem e1_12:eB_ ag 158=48:=by kernel_rfl
theorem s1_:SlIs ag 158 2 48:=SlIs.mk' Tryz.underlying158 i_38 rfl rfl rfl rfl (by decide)
theorem i1_10:IsSl ag 158:=⟨_,Tryz.underlying158⟩
theorem e1_8:eOT_ ag 158=38:=by kernel_rfl
theorem z1_:zel ag 158=.agg [(.sl true 5 []),(.sl true 5 [])]:=by kernel_rfl
theorem e1_:ElemZero ag 158 (.agg [(.sl true 5 []),(.sl true 5 [])]):=bL Tryz.underlying158 (bD i_38 rfl rfl rfl)
theorem i1_4:Tryz.prog.info? 166=some Tryz.t166:=by kernel_rfl
theorem t1_2:TyIs ag 166 false 1:=ba Tryz.underlying166 i1_4 rfl rfl
theorem z1_6:zcv ag 8 166=.pv (.lit (.int .u64 0)):=by kernel_rfl
theorem z_166:ZeroIs ag 166 (.pv (.lit (.int .u64 0))):=bn i1_4 rfl rfl rfl rfl rfl
theorem i1_3:Tryz.prog.info? 176=some Tryz.t176:=by kernel_rfl
theorem t1_1:TyIs ag 176 false 1:=ba Tryz.underlying176 i1_3 rfl rfl
theorem z1_5:zcv ag 8 176=.pv (.lit .nilFunc):=by kernel_rfl
theorem z_176:ZeroIs ag 176 (.pv (.lit .nilFunc)):=bn i1_3 rfl rfl rfl rfl rfl
theorem i1_2:Tryz.prog.info? 193=some Tryz.t193:=by kernel_rfl
theorem t1_:TyIs ag 193 false 1:=ba Tryz.underlying193 i1_2 rfl rfl
theorem z1_4:zcv ag 8 193=.pv (.lit .nilFunc):=by kernel_rfl
theorem z_193:ZeroIs ag 193 (.pv (.lit .nilFunc)):=bn i1_2 rfl rfl rfl rfl rfl
theorem i2_:Tryz.prog.info? 213=some Tryz.t213:=by kernel_rfl
theorem t2_:TyIs ag 213 false 1:=ba Tryz.underlying213 i2_ rfl rfl
theorem z2_1:zcv ag 8 213=.pv (.sl true 1 []):=by kernel_rfl
theorem z2_9:ZeroIs ag 213 (.pv (.sl true 1 [])):=bn i2_ rfl rfl rfl rfl rfl
theorem e2_1:eS_ ag 213=1:=by kernel_rfl
theorem e2_3:eB_ ag 213=24:=by kernel_rfl
theorem s2_:SlIs ag 213 1 24:=SlIs.mk' Tryz.underlying213 i_36 rfl rfl rfl rfl (by decide)
theorem i2_1:IsSl ag 213:=⟨_,Tryz.underlying213⟩
theorem e2_2:eOT_ ag 213=36:=by kernel_rfl
theorem z2_:zel ag 213=(.sl true 5 []):=by kernel_rfl
theorem e2_:ElemZero ag 213 ((.sl true 5 [])):=bL Tryz.underlying213 (bn i_36 rfl rfl rfl rfl rfl)
theorem iIB_3:iIB_ (Tryz.prog.underlying 3)=true:=by kernel_rfl
theorem m1_:MT_ ag 156 41:=⟨9,Tryz.underlying156,Tryz.underlying9⟩
theorem m4_:∃ i v,Tryz.prog.info? 41=some i∧i.zero=some v∧∀ N w,RepV N w ((Tt.pv false) (Tt.mk (⟨#[]⟩:ByteArray) ([]))) v []:=⟨Tryz.t41,.agg #[.string ⟨#[]⟩,.slice none 0 0],by kernel_rfl,rfl,fun N w=>⟨[.string ⟨#[]⟩,.slice none 0 0],rfl,⟨[.string ⟨#[]⟩],[.slice none 0 0],[],[],rfl,rfl,⟨rfl,rfl,rfl⟩,⟨[.slice none 0 0],[],[],[],rfl,rfl,⟨none,0,rfl,rfl,Nat.le_refl _,Nat.zero_le _,nofun,.inl rfl⟩,⟨rfl,rfl⟩⟩⟩⟩⟩
theorem uk_3:Tryz.prog.underlying 3=some (.int .i64):=Tryz.underlying3
theorem uk_5:Tryz.prog.underlying 5=some (.int .u8):=Tryz.underlying5
theorem uk_9:Tryz.prog.underlying 9=some .string:=Tryz.underlying9
theorem u1_:Tryz.prog.underlying 166=some (.int .u64):=Tryz.underlying166
attribute [push_cast] ty_3 zc_3 z_3 ty_9 zc_9 z_9 u_9 t2_5 z2_8 z_22 e2_7 eb_22 s2_2 i2_3 e2_9 z2_3 e2_5 t2_4 z2_7 z_24 f20_5 f20_8 f20_2 f21_5 f21_8 f21_2 l2_2 t2_3 z2_6 z_25 e2_6 eb_25 s2_1 i2_2 e2_8 z2_2 e2_4 t2_2 z2_5 z_27 f20_4 f20_7 f20_1 f21_4 f21_7 f21_1 f22_1 f22_2 f22_ f23_1 f23_2 f23_ l2_1 t2_1 z2_4 z_29 f20_3 f20_6 f20_ f21_3 f21_6 f21_ l2_ t3_5 z3_8 z_30 e3_5 eb_30 s3_2 i3_2 e3_8 z3_2 e3_2 t3_4 z3_7 z_32 f30_5 f30_8 f30_2 f31_5 f31_8 f31_2 f32_3 f32_5 f32_1 f33_3 f33_5 f33_1 f34_1 f34_2 f34_ f35_1 f35_2 f35_ l3_2 t3_3 z3_6 z_34 f30_4 f30_7 f30_1 f31_4 f31_7 f31_1 f32_2 f32_4 f32_ f33_2 f33_4 f33_ l3_1 t3_ z3_3 z_39 e3_3 e3_9 s3_ i3_ e3_6 z3_ e3_ t4_3 z4_4 z_41 f40_5 f40_8 f40_2 f41_5 f41_8 f41_2 l4_2 t3_2 z3_5 z_36 e3_4 eb_36 s3_1 i3_1 e3_7 z3_1 e3_1 t4_2 z4_3 z_43 f40_4 f40_7 f40_1 f41_4 f41_7 f41_1 f42_3 f42_5 f42_1 f43_3 f43_5 f43_1 l4_1 t3_1 z3_4 z_38 f30_3 f30_6 f30_ f31_3 f31_6 f31_ l3_ t4_1 z4_2 z_44 e4_1 e4_3 s4_ i4_ e4_2 z4_ e4_ t4_ z4_1 z_46 f40_3 f40_6 f40_ f41_3 f41_6 f41_ f42_2 f42_4 f42_ f43_2 f43_4 f43_ f44_1 f44_2 f44_ f45_1 f45_2 f45_ l4_ t5_ z5_ z_50 f50_1 f50_2 f50_ f51_1 f51_2 f51_ f52_1 f52_2 f52_ f53_1 f53_2 f53_ l5_ ty_5 zc_5 z_5 ty_4 zc_4 z_4 u_4 mT_2 t1_9 z1_12 z_116 e1_6 e1_14 s1_2 i1_12 e1_10 z1_2 e1_2 t1_8 z1_11 z_118 f10_3 f10_5 f10_1 l1_1 t1_5 z1_8 z_141 f10_2 f10_4 f10_ f11_1 f11_2 f11_ l1_ t8_ z8_1 z_85 e8_1 e8_3 s8_ i8_ e8_2 z8_ e8_ t1_3 z1_7 z_158 e1_4 e1_12 s1_ i1_10 e1_8 z1_ e1_ t1_10 z1_13 z_112 e1_7 e1_15 s1_3 i1_13 e1_11 z1_3 e1_3 t1_7 z1_10 z_120 t7_ z7_ z_78 t6_1 z6_1 z_66 t6_ z6_ z_67 t1_2 z1_6 z_166 uk_3 u1_ t9_ z9_ z_93 t1_ z1_4 z_193 iIB_3 t2_ z2_1 z2_9 e2_1 e2_3 s2_ i2_1 e2_2 z2_ e2_ t1_1 z1_5 z_176 t1_4 t1_6 z1_9 z_137 e1_5 e1_13 s1_1 b1_ i1_11 e1_9 z1_1 e1_1 uk_5 uk_9
end Go.Proofs.YtejbpjegkfbncaaGreat
