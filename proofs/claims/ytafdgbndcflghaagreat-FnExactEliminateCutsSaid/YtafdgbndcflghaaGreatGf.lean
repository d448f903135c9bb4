/- Lemmas of the proof; each says what it shows. -/
import Derived.Test.YtafdgbndcflghaaGreatAvTn
import Derived.Test.YtafdgbndcflghaaGreatChecked
import Derived.KernelRfl
set_option linter.unusedSimpArgs false
set_option linter.unusedVariables false
set_option linter.defProp false
set_option maxRecDepth 4000
namespace Go.Proofs.YtafdgbndcflghaaGreat
open Go.Av
open ElemZero renaming mk'→bF
open FieldIs renaming mk'→bh
open Tryz renaming prog→ah
open TyIs renaming mk'→a8
open ZeroIs renaming one→bm,agg→bA
theorem mixed:Tryz.prog.follows .mixedOrders=true:=by kernel_rfl
theorem mT_2:(Tryz.prog.follows .mixedOrders=true)=True:=eq_true mixed
theorem i_3:Tryz.prog.info? 3=some Tryz.t3:=by kernel_rfl
theorem ty_3:TyIs ah 3 false 1:=a8 Tryz.underlying3 i_3 rfl rfl
theorem zc_3:zcv ah 8 3=.pv (.lit (.int .i64 0)):=by kernel_rfl
theorem z_3:ZeroIs ah 3 (.pv (.lit (.int .i64 0))):=bm i_3 rfl rfl rfl rfl rfl
theorem i_4:Tryz.prog.info? 4=some Tryz.t4:=by kernel_rfl
theorem ty_4:TyIs ah 4 false 1:=a8 Tryz.underlying4 i_4 rfl rfl
theorem zc_4:zcv ah 8 4=.pv (.lit (.bool false)):=by kernel_rfl
theorem z_4:ZeroIs ah 4 (.pv (.lit (.bool false))):=bm i_4 rfl rfl rfl rfl rfl
theorem u_4:(Tryz.prog.underlying 4=some .bool)=True:=eq_true Tryz.underlying4
theorem i_5:Tryz.prog.info? 5=some Tryz.t5:=by kernel_rfl
theorem ty_5:TyIs ah 5 false 1:=a8 Tryz.underlying5 i_5 rfl rfl
theorem zc_5:zcv ah 8 5=.pv (.lit (.int .u8 0)):=by kernel_rfl
theorem z_5:ZeroIs ah 5 (.pv (.lit (.int .u8 0))):=bm i_5 rfl rfl rfl rfl rfl
theorem i_9:Tryz.prog.info? 9=some Tryz.t9:=by kernel_rfl
theorem ty_9:TyIs ah 9 false 1:=a8 Tryz.underlying9 i_9 rfl rfl
theorem zc_9:zcv ah 8 9=.pv (.lit (.string ⟨#[]⟩)):=by kernel_rfl
theorem z_9:ZeroIs ah 9 (.pv (.lit (.string ⟨#[]⟩))):=bm i_9 rfl rfl rfl rfl rfl
theorem u_9:(Tryz.prog.underlying 9=some .string)=True:=eq_true Tryz.underlying9
theorem i_22:Tryz.prog.info? 22=some Tryz.t22:=by kernel_rfl
theorem t2_4:TyIs ah 22 false 1:=a8 Tryz.underlying22 i_22 rfl rfl
theorem z2_6:zcv ah 8 22=.pv (.sl true 5 []):=by kernel_rfl
theorem z_22:ZeroIs ah 22 (.pv (.sl true 5 [])):=bm i_22 rfl rfl rfl rfl rfl
theorem i_29:Tryz.prog.info? 29=some Tryz.t29:=by kernel_rfl
theorem e2_3:eS_ ah 22=5:=by kernel_rfl
theorem e2_7:eB_ ah 22=88:=by kernel_rfl
theorem s2_1:SlIs ah 22 5 88:=SlIs.mk' Tryz.underlying22 i_29 rfl rfl rfl rfl (by decide)
theorem i2_1:IsSl ah 22:=⟨_,Tryz.underlying22⟩
theorem e2_5:eOT_ ah 22=29:=by kernel_rfl
theorem z2_1:zel ah 22=.agg [(.lit (.int .i64 0)),.agg [(.lit (.string ⟨#[]⟩)),(.sl true 2 [])],(.lit (.string ⟨#[]⟩)),(.sl true 5 [])]:=by kernel_rfl
theorem e2_1:ElemZero ah 22 (.agg [(.lit (.int .i64 0)),.agg [(.lit (.string ⟨#[]⟩)),(.sl true 2 [])],(.lit (.string ⟨#[]⟩)),(.sl true 5 [])]):=bF Tryz.underlying22 (bA i_29 rfl rfl rfl)
theorem i_24:Tryz.prog.info? 24=some Tryz.t24:=by kernel_rfl
theorem t2_3:TyIs ah 24 true 2:=a8 Tryz.underlying24 i_24 rfl rfl
theorem z2_5:zcv ah 8 24=.node [.pv (.sl true 5 []),.pv (.sl true 5 [])]:=by kernel_rfl
theorem z_24:ZeroIs ah 24 (.node [.pv (.sl true 5 []),.pv (.sl true 5 [])]):=bA i_24 rfl rfl rfl
theorem f20_5:fOff ah 24 0=0:=by kernel_rfl
theorem f20_8:FieldIs ah 24 0 0:=bh Tryz.underlying24 rfl rfl i_22 (by decide)
theorem f20_2:fldT ah 24 0=22:=by kernel_rfl
theorem f21_5:fOff ah 24 1=1:=by kernel_rfl
theorem f21_8:FieldIs ah 24 1 1:=bh Tryz.underlying24 rfl rfl i_22 (by decide)
theorem f21_2:fldT ah 24 1=22:=by kernel_rfl
theorem l2_2:LO_ ah 24 [.pv (.sl true 5 []),.pv (.sl true 5 [])]:=.inr ⟨_,Tryz.underlying24,rfl,fun k f hk=>by match k,hk with | 0,hk=>(obtain rfl:=Option.some.inj hk; exact⟨rfl,_,i_22,rfl⟩) | 1,hk=>(obtain rfl:=Option.some.inj hk; exact⟨rfl,_,i_22,rfl⟩) | k+2,hk=>simp at hk⟩
theorem i_25:Tryz.prog.info? 25=some Tryz.t25:=by kernel_rfl
theorem t2_2:TyIs ah 25 false 1:=a8 Tryz.underlying25 i_25 rfl rfl
theorem z2_4:zcv ah 8 25=.pv (.sl true 2 []):=by kernel_rfl
theorem z_25:ZeroIs ah 25 (.pv (.sl true 2 [])):=bm i_25 rfl rfl rfl rfl rfl
theorem i_27:Tryz.prog.info? 27=some Tryz.t27:=by kernel_rfl
theorem e2_2:eS_ ah 25=2:=by kernel_rfl
theorem e2_6:eB_ ah 25=40:=by kernel_rfl
theorem s2_:SlIs ah 25 2 40:=SlIs.mk' Tryz.underlying25 i_27 rfl rfl rfl rfl (by decide)
theorem i2_:IsSl ah 25:=⟨_,Tryz.underlying25⟩
theorem e2_4:eOT_ ah 25=27:=by kernel_rfl
theorem z2_:zel ah 25=.agg [(.lit (.string ⟨#[]⟩)),(.sl true 2 [])]:=by kernel_rfl
theorem e2_:ElemZero ah 25 (.agg [(.lit (.string ⟨#[]⟩)),(.sl true 2 [])]):=bF Tryz.underlying25 (bA i_27 rfl rfl rfl)
theorem t2_1:TyIs ah 27 true 2:=a8 Tryz.underlying27 i_27 rfl rfl
theorem z2_3:zcv ah 8 27=.node [.pv (.lit (.string ⟨#[]⟩)),.pv (.sl true 2 [])]:=by kernel_rfl
theorem z_27:ZeroIs ah 27 (.node [.pv (.lit (.string ⟨#[]⟩)),.pv (.sl true 2 [])]):=bA i_27 rfl rfl rfl
theorem f20_4:fOff ah 27 0=0:=by kernel_rfl
theorem f20_7:FieldIs ah 27 0 0:=bh Tryz.underlying27 rfl rfl i_9 (by decide)
theorem f20_1:fldT ah 27 0=9:=by kernel_rfl
theorem f21_4:fOff ah 27 1=1:=by kernel_rfl
theorem f21_7:FieldIs ah 27 1 1:=bh Tryz.underlying27 rfl rfl i_25 (by decide)
theorem f21_1:fldT ah 27 1=25:=by kernel_rfl
theorem l2_1:LO_ ah 27 [.pv (.lit (.string ⟨#[]⟩)),.pv (.sl true 2 [])]:=.inr ⟨_,Tryz.underlying27,rfl,fun k f hk=>by match k,hk with | 0,hk=>(obtain rfl:=Option.some.inj hk; exact⟨rfl,_,i_9,rfl⟩) | 1,hk=>(obtain rfl:=Option.some.inj hk; exact⟨rfl,_,i_25,rfl⟩) | k+2,hk=>simp at hk⟩
theorem t2_:TyIs ah 29 true 5:=a8 Tryz.underlying29 i_29 rfl rfl
theorem z2_2:zcv ah 8 29=.node [.pv (.lit (.int .i64 0)),.node [.pv (.lit (.string ⟨#[]⟩)),.pv (.sl true 2 [])],.pv (.lit (.string ⟨#[]⟩)),.pv (.sl true 5 [])]:=by kernel_rfl
theorem z_29:ZeroIs ah 29 (.node [.pv (.lit (.int .i64 0)),.node [.pv (.lit (.string ⟨#[]⟩)),.pv (.sl true 2 [])],.pv (.lit (.string ⟨#[]⟩)),.pv (.sl true 5 [])]):=bA i_29 rfl rfl rfl
theorem f20_3:fOff ah 29 0=0:=by kernel_rfl
theorem f20_6:FieldIs ah 29 0 0:=bh Tryz.underlying29 rfl rfl i_3 (by decide)
theorem f20_:fldT ah 29 0=3:=by kernel_rfl
theorem f21_3:fOff ah 29 1=1:=by kernel_rfl
theorem f21_6:FieldIs ah 29 1 1:=bh Tryz.underlying29 rfl rfl i_27 (by decide)
theorem f21_:fldT ah 29 1=27:=by kernel_rfl
theorem f22_1:fOff ah 29 2=3:=by kernel_rfl
theorem f22_2:FieldIs ah 29 2 3:=bh Tryz.underlying29 rfl rfl i_9 (by decide)
theorem f22_:fldT ah 29 2=9:=by kernel_rfl
theorem f23_1:fOff ah 29 3=4:=by kernel_rfl
theorem f23_2:FieldIs ah 29 3 4:=bh Tryz.underlying29 rfl rfl i_22 (by decide)
theorem f23_:fldT ah 29 3=22:=by kernel_rfl
theorem l2_:LO_ ah 29 [.pv (.lit (.int .i64 0)),.node [.pv (.lit (.string ⟨#[]⟩)),.pv (.sl true 2 [])],.pv (.lit (.string ⟨#[]⟩)),.pv (.sl true 5 [])]:=.inr ⟨_,Tryz.underlying29,rfl,fun k f hk=>by match k,hk with | 0,hk=>(obtain rfl:=Option.some.inj hk; exact⟨rfl,_,i_3,rfl⟩) | 1,hk=>(obtain rfl:=Option.some.inj hk; exact⟨rfl,_,i_27,rfl⟩) | 2,hk=>(obtain rfl:=Option.some.inj hk; exact⟨rfl,_,i_9,rfl⟩) | 3,hk=>(obtain rfl:=Option.some.inj hk; exact⟨rfl,_,i_22,rfl⟩) | k+4,hk=>simp at hk⟩
theorem i_30:Tryz.prog.info? 30=some Tryz.t30:=by kernel_rfl
theorem t3_5:TyIs ah 30 false 1:=a8 Tryz.underlying30 i_30 rfl rfl
theorem z3_8:zcv ah 8 30=.pv (.sl true 12 []):=by kernel_rfl
theorem z_30:ZeroIs ah 30 (.pv (.sl true 12 [])):=bm i_30 rfl rfl rfl rfl rfl
theorem i_32:Tryz.prog.info? 32=some Tryz.t32:=by kernel_rfl
theorem e3_5:eS_ ah 30=12:=by kernel_rfl
theorem eb_30:eB_ ah 30=216:=by kernel_rfl
theorem s3_2:SlIs ah 30 12 216:=SlIs.mk' Tryz.underlying30 i_32 rfl rfl rfl rfl (by decide)
theorem i3_2:IsSl ah 30:=⟨_,Tryz.underlying30⟩
theorem e3_8:eOT_ ah 30=32:=by kernel_rfl
theorem z3_2:zel ah 30=.agg [(.lit (.int .i64 0)),.agg [(.sl true 5 []),(.sl true 5 [])],(.lit (.int .i64 0)),.agg [(.lit (.string ⟨#[]⟩)),(.sl true 2 [])],.agg [(.lit (.int .i64 0)),.agg [(.lit (.string ⟨#[]⟩)),(.sl true 2 [])],(.lit (.string ⟨#[]⟩)),(.sl true 5 [])],(.sl true 12 [])]:=by kernel_rfl
theorem e3_2:ElemZero ah 30 (.agg [(.lit (.int .i64 0)),.agg [(.sl true 5 []),(.sl true 5 [])],(.lit (.int .i64 0)),.agg [(.lit (.string ⟨#[]⟩)),(.sl true 2 [])],.agg [(.lit (.int .i64 0)),.agg [(.lit (.string ⟨#[]⟩)),(.sl true 2 [])],(.lit (.string ⟨#[]⟩)),(.sl true 5 [])],(.sl true 12 [])]):=bF Tryz.underlying30 (bA i_32 rfl rfl rfl)
theorem t3_4:TyIs ah 32 true 12:=a8 Tryz.underlying32 i_32 rfl rfl
theorem z3_7:zcv ah 8 32=.node [.pv (.lit (.int .i64 0)),.node [.pv (.sl true 5 []),.pv (.sl true 5 [])],.pv (.lit (.int .i64 0)),.node [.pv (.lit (.string ⟨#[]⟩)),.pv (.sl true 2 [])],.node [.pv (.lit (.int .i64 0)),.node [.pv (.lit (.string ⟨#[]⟩)),.pv (.sl true 2 [])],.pv (.lit (.string ⟨#[]⟩)),.pv (.sl true 5 [])],.pv (.sl true 12 [])]:=by kernel_rfl
theorem z_32:ZeroIs ah 32 (.node [.pv (.lit (.int .i64 0)),.node [.pv (.sl true 5 []),.pv (.sl true 5 [])],.pv (.lit (.int .i64 0)),.node [.pv (.lit (.string ⟨#[]⟩)),.pv (.sl true 2 [])],.node [.pv (.lit (.int .i64 0)),.node [.pv (.lit (.string ⟨#[]⟩)),.pv (.sl true 2 [])],.pv (.lit (.string ⟨#[]⟩)),.pv (.sl true 5 [])],.pv (.sl true 12 [])]):=bA i_32 rfl rfl rfl
theorem f30_5:fOff ah 32 0=0:=by kernel_rfl
theorem f30_8:FieldIs ah 32 0 0:=bh Tryz.underlying32 rfl rfl i_3 (by decide)
theorem f30_2:fldT ah 32 0=3:=by kernel_rfl
theorem f31_5:fOff ah 32 1=1:=by kernel_rfl
theorem f31_8:FieldIs ah 32 1 1:=bh Tryz.underlying32 rfl rfl i_24 (by decide)
theorem f31_2:fldT ah 32 1=24:=by kernel_rfl
theorem f32_1:fOff ah 32 2=3:=by kernel_rfl
theorem f32_2:FieldIs ah 32 2 3:=bh Tryz.underlying32 rfl rfl i_3 (by decide)
theorem f32_:fldT ah 32 2=3:=by kernel_rfl
theorem f33_1:fOff ah 32 3=4:=by kernel_rfl
theorem f33_2:FieldIs ah 32 3 4:=bh Tryz.underlying32 rfl rfl i_27 (by decide)
theorem f33_:fldT ah 32 3=27:=by kernel_rfl
theorem f34_1:fOff ah 32 4=6:=by kernel_rfl
theorem f34_2:FieldIs ah 32 4 6:=bh Tryz.underlying32 rfl rfl i_29 (by decide)
theorem f34_:fldT ah 32 4=29:=by kernel_rfl
theorem f35_1:fOff ah 32 5=11:=by kernel_rfl
theorem f35_2:FieldIs ah 32 5 11:=bh Tryz.underlying32 rfl rfl i_30 (by decide)
theorem f35_:fldT ah 32 5=30:=by kernel_rfl
theorem l3_2:LO_ ah 32 [.pv (.lit (.int .i64 0)),.node [.pv (.sl true 5 []),.pv (.sl true 5 [])],.pv (.lit (.int .i64 0)),.node [.pv (.lit (.string ⟨#[]⟩)),.pv (.sl true 2 [])],.node [.pv (.lit (.int .i64 0)),.node [.pv (.lit (.string ⟨#[]⟩)),.pv (.sl true 2 [])],.pv (.lit (.string ⟨#[]⟩)),.pv (.sl true 5 [])],.pv (.sl true 12 [])]:=.inr ⟨_,Tryz.underlying32,rfl,fun k f hk=>by match k,hk with | 0,hk=>(obtain rfl:=Option.some.inj hk; exact⟨rfl,_,i_3,rfl⟩) | 1,hk=>(obtain rfl:=Option.some.inj hk; exact⟨rfl,_,i_24,rfl⟩) | 2,hk=>(obtain rfl:=Option.some.inj hk; exact⟨rfl,_,i_3,rfl⟩) | 3,hk=>(obtain rfl:=Option.some.inj hk; exact⟨rfl,_,i_27,rfl⟩) | 4,hk=>(obtain rfl:=Option.some.inj hk; exact⟨rfl,_,i_29,rfl⟩) | 5,hk=>(obtain rfl:=Option.some.inj hk; exact⟨rfl,_,i_30,rfl⟩) | k+6,hk=>simp at hk⟩
theorem i_34:Tryz.prog.info? 34=some Tryz.t34:=by kernel_rfl
theorem t3_3:TyIs ah 34 false 1:=a8 Tryz.underlying34 i_34 rfl rfl
theorem z3_6:zcv ah 8 34=.pv (.sl true 5 []):=by kernel_rfl
theorem z_34:ZeroIs ah 34 (.pv (.sl true 5 [])):=bm i_34 rfl rfl rfl rfl rfl
theorem i_41:Tryz.prog.info? 41=some Tryz.t41:=by kernel_rfl
theorem e3_4:eS_ ah 34=5:=by kernel_rfl
theorem eb_34:eB_ ah 34=88:=by kernel_rfl
theorem s3_1:SlIs ah 34 5 88:=SlIs.mk' Tryz.underlying34 i_41 rfl rfl rfl rfl (by decide)
theorem i3_1:IsSl ah 34:=⟨_,Tryz.underlying34⟩
theorem e3_7:eOT_ ah 34=41:=by kernel_rfl
theorem z3_1:zel ah 34=.agg [(.lit (.int .i64 0)),.agg [(.lit (.string ⟨#[]⟩)),(.sl true 2 [])],(.lit (.string ⟨#[]⟩)),(.sl true 5 [])]:=by kernel_rfl
theorem e3_1:ElemZero ah 34 (.agg [(.lit (.int .i64 0)),.agg [(.lit (.string ⟨#[]⟩)),(.sl true 2 [])],(.lit (.string ⟨#[]⟩)),(.sl true 5 [])]):=bF Tryz.underlying34 (bA i_41 rfl rfl rfl)
theorem i_36:Tryz.prog.info? 36=some Tryz.t36:=by kernel_rfl
theorem t3_2:TyIs ah 36 true 2:=a8 Tryz.underlying36 i_36 rfl rfl
theorem z3_5:zcv ah 8 36=.node [.pv (.sl true 5 []),.pv (.sl true 5 [])]:=by kernel_rfl
theorem z_36:ZeroIs ah 36 (.node [.pv (.sl true 5 []),.pv (.sl true 5 [])]):=bA i_36 rfl rfl rfl
theorem f30_4:fOff ah 36 0=0:=by kernel_rfl
theorem f30_7:FieldIs ah 36 0 0:=bh Tryz.underlying36 rfl rfl i_34 (by decide)
theorem f30_1:fldT ah 36 0=34:=by kernel_rfl
theorem f31_4:fOff ah 36 1=1:=by kernel_rfl
theorem f31_7:FieldIs ah 36 1 1:=bh Tryz.underlying36 rfl rfl i_34 (by decide)
theorem f31_1:fldT ah 36 1=34:=by kernel_rfl
theorem l3_1:LO_ ah 36 [.pv (.sl true 5 []),.pv (.sl true 5 [])]:=.inr ⟨_,Tryz.underlying36,rfl,fun k f hk=>by match k,hk with | 0,hk=>(obtain rfl:=Option.some.inj hk; exact⟨rfl,_,i_34,rfl⟩) | 1,hk=>(obtain rfl:=Option.some.inj hk; exact⟨rfl,_,i_34,rfl⟩) | k+2,hk=>simp at hk⟩
theorem i_37:Tryz.prog.info? 37=some Tryz.t37:=by kernel_rfl
theorem t3_1:TyIs ah 37 false 1:=a8 Tryz.underlying37 i_37 rfl rfl
theorem z3_4:zcv ah 8 37=.pv (.sl true 2 []):=by kernel_rfl
theorem z_37:ZeroIs ah 37 (.pv (.sl true 2 [])):=bm i_37 rfl rfl rfl rfl rfl
theorem i_39:Tryz.prog.info? 39=some Tryz.t39:=by kernel_rfl
theorem e3_3:eS_ ah 37=2:=by kernel_rfl
theorem e3_9:eB_ ah 37=40:=by kernel_rfl
theorem s3_:SlIs ah 37 2 40:=SlIs.mk' Tryz.underlying37 i_39 rfl rfl rfl rfl (by decide)
theorem i3_:IsSl ah 37:=⟨_,Tryz.underlying37⟩
theorem e3_6:eOT_ ah 37=39:=by kernel_rfl
theorem z3_:zel ah 37=.agg [(.lit (.string ⟨#[]⟩)),(.sl true 2 [])]:=by kernel_rfl
theorem e3_:ElemZero ah 37 (.agg [(.lit (.string ⟨#[]⟩)),(.sl true 2 [])]):=bF Tryz.underlying37 (bA i_39 rfl rfl rfl)
theorem t3_:TyIs ah 39 true 2:=a8 Tryz.underlying39 i_39 rfl rfl
theorem z3_3:zcv ah 8 39=.node [.pv (.lit (.string ⟨#[]⟩)),.pv (.sl true 2 [])]:=by kernel_rfl
theorem z_39:ZeroIs ah 39 (.node [.pv (.lit (.string ⟨#[]⟩)),.pv (.sl true 2 [])]):=bA i_39 rfl rfl rfl
theorem f30_3:fOff ah 39 0=0:=by kernel_rfl
theorem f30_6:FieldIs ah 39 0 0:=bh Tryz.underlying39 rfl rfl i_9 (by decide)
theorem f30_:fldT ah 39 0=9:=by kernel_rfl
theorem f31_3:fOff ah 39 1=1:=by kernel_rfl
theorem f31_6:FieldIs ah 39 1 1:=bh Tryz.underlying39 rfl rfl i_37 (by decide)
theorem f31_:fldT ah 39 1=37:=by kernel_rfl
theorem l3_:LO_ ah 39 [.pv (.lit (.string ⟨#[]⟩)),.pv (.sl true 2 [])]:=.inr ⟨_,Tryz.underlying39,rfl,fun k f hk=>by match k,hk with | 0,hk=>(obtain rfl:=Option.some.inj hk; exact⟨rfl,_,i_9,rfl⟩) | 1,hk=>(obtain rfl:=Option.some.inj hk; exact⟨rfl,_,i_37,rfl⟩) | k+2,hk=>simp at hk⟩
theorem t4_2:TyIs ah 41 true 5:=a8 Tryz.underlying41 i_41 rfl rfl
theorem z4_3:zcv ah 8 41=.node [.pv (.lit (.int .i64 0)),.node [.pv (.lit (.string ⟨#[]⟩)),.pv (.sl true 2 [])],.pv (.lit (.string ⟨#[]⟩)),.pv (.sl true 5 [])]:=by kernel_rfl
theorem z_41:ZeroIs ah 41 (.node [.pv (.lit (.int .i64 0)),.node [.pv (.lit (.string ⟨#[]⟩)),.pv (.sl true 2 [])],.pv (.lit (.string ⟨#[]⟩)),.pv (.sl true 5 [])]):=bA i_41 rfl rfl rfl
theorem f40_3:fOff ah 41 0=0:=by kernel_rfl
theorem f40_5:FieldIs ah 41 0 0:=bh Tryz.underlying41 rfl rfl i_3 (by decide)
theorem f40_1:fldT ah 41 0=3:=by kernel_rfl
theorem f41_3:fOff ah 41 1=1:=by kernel_rfl
theorem f41_5:FieldIs ah 41 1 1:=bh Tryz.underlying41 rfl rfl i_39 (by decide)
theorem f41_1:fldT ah 41 1=39:=by kernel_rfl
theorem f42_3:fOff ah 41 2=3:=by kernel_rfl
theorem f42_5:FieldIs ah 41 2 3:=bh Tryz.underlying41 rfl rfl i_9 (by decide)
theorem f42_1:fldT ah 41 2=9:=by kernel_rfl
theorem f43_3:fOff ah 41 3=4:=by kernel_rfl
theorem f43_5:FieldIs ah 41 3 4:=bh Tryz.underlying41 rfl rfl i_34 (by decide)
theorem f43_1:fldT ah 41 3=34:=by kernel_rfl
theorem l4_1:LO_ ah 41 [.pv (.lit (.int .i64 0)),.node [.pv (.lit (.string ⟨#[]⟩)),.pv (.sl true 2 [])],.pv (.lit (.string ⟨#[]⟩)),.pv (.sl true 5 [])]:=.inr ⟨_,Tryz.underlying41,rfl,fun k f hk=>by match k,hk with | 0,hk=>(obtain rfl:=Option.some.inj hk; exact⟨rfl,_,i_3,rfl⟩) | 1,hk=>(obtain rfl:=Option.some.inj hk; exact⟨rfl,_,i_39,rfl⟩) | 2,hk=>(obtain rfl:=Option.some.inj hk; exact⟨rfl,_,i_9,rfl⟩) | 3,hk=>(obtain rfl:=Option.some.inj hk; exact⟨rfl,_,i_34,rfl⟩) | k+4,hk=>simp at hk⟩
theorem i_42:Tryz.prog.info? 42=some Tryz.t42:=by kernel_rfl
theorem t4_1:TyIs ah 42 false 1:=a8 Tryz.underlying42 i_42 rfl rfl
theorem z4_2:zcv ah 8 42=.pv (.sl true 12 []):=by kernel_rfl
theorem z_42:ZeroIs ah 42 (.pv (.sl true 12 [])):=bm i_42 rfl rfl rfl rfl rfl
theorem i_44:Tryz.prog.info? 44=some Tryz.t44:=by kernel_rfl
theorem e4_1:eS_ ah 42=12:=by kernel_rfl
theorem e4_3:eB_ ah 42=216:=by kernel_rfl
theorem s4_:SlIs ah 42 12 216:=SlIs.mk' Tryz.underlying42 i_44 rfl rfl rfl rfl (by decide)
theorem i4_:IsSl ah 42:=⟨_,Tryz.underlying42⟩
theorem e4_2:eOT_ ah 42=44:=by kernel_rfl
theorem z4_:zel ah 42=.agg [(.lit (.int .i64 0)),.agg [(.sl true 5 []),(.sl true 5 [])],(.lit (.int .i64 0)),.agg [(.lit (.string ⟨#[]⟩)),(.sl true 2 [])],.agg [(.lit (.int .i64 0)),.agg [(.lit (.string ⟨#[]⟩)),(.sl true 2 [])],(.lit (.string ⟨#[]⟩)),(.sl true 5 [])],(.sl true 12 [])]:=by kernel_rfl
theorem e4_:ElemZero ah 42 (.agg [(.lit (.int .i64 0)),.agg [(.sl true 5 []),(.sl true 5 [])],(.lit (.int .i64 0)),.agg [(.lit (.string ⟨#[]⟩)),(.sl true 2 [])],.agg [(.lit (.int .i64 0)),.agg [(.lit (.string ⟨#[]⟩)),(.sl true 2 [])],(.lit (.string ⟨#[]⟩)),(.sl true 5 [])],(.sl true 12 [])]):=bF Tryz.underlying42 (bA i_44 rfl rfl rfl)
theorem t4_:TyIs ah 44 true 12:=a8 Tryz.underlying44 i_44 rfl rfl
theorem z4_1:zcv ah 8 44=.node [.pv (.lit (.int .i64 0)),.node [.pv (.sl true 5 []),.pv (.sl true 5 [])],.pv (.lit (.int .i64 0)),.node [.pv (.lit (.string ⟨#[]⟩)),.pv (.sl true 2 [])],.node [.pv (.lit (.int .i64 0)),.node [.pv (.lit (.string ⟨#[]⟩)),.pv (.sl true 2 [])],.pv (.lit (.string ⟨#[]⟩)),.pv (.sl true 5 [])],.pv (.sl true 12 [])]:=by kernel_rfl
theorem z_44:ZeroIs ah 44 (.node [.pv (.lit (.int .i64 0)),.node [.pv (.sl true 5 []),.pv (.sl true 5 [])],.pv (.lit (.int .i64 0)),.node [.pv (.lit (.string ⟨#[]⟩)),.pv (.sl true 2 [])],.node [.pv (.lit (.int .i64 0)),.node [.pv (.lit (.string ⟨#[]⟩)),.pv (.sl true 2 [])],.pv (.lit (.string ⟨#[]⟩)),.pv (.sl true 5 [])],.pv (.sl true 12 [])]):=bA i_44 rfl rfl rfl
theorem f40_2:fOff ah 44 0=0:=by kernel_rfl
theorem f40_4:FieldIs ah 44 0 0:=bh Tryz.underlying44 rfl rfl i_3 (by decide)
theorem f40_:fldT ah 44 0=3:=by kernel_rfl
theorem f41_2:fOff ah 44 1=1:=by kernel_rfl
theorem f41_4:FieldIs ah 44 1 1:=bh Tryz.underlying44 rfl rfl i_36 (by decide)
theorem f41_:fldT ah 44 1=36:=by kernel_rfl
theorem f42_2:fOff ah 44 2=3:=by kernel_rfl
theorem f42_4:FieldIs ah 44 2 3:=bh Tryz.underlying44 rfl rfl i_3 (by decide)
theorem f42_:fldT ah 44 2=3:=by kernel_rfl
theorem f43_2:fOff ah 44 3=4:=by kernel_rfl
theorem f43_4:FieldIs ah 44 3 4:=bh Tryz.underlying44 rfl rfl i_39 (by decide)
theorem f43_:fldT ah 44 3=39:=by kernel_rfl
theorem f44_1:fOff ah 44 4=6:=by kernel_rfl
theorem f44_2:FieldIs ah 44 4 6:=bh Tryz.underlying44 rfl rfl i_41 (by decide)
theorem f44_:fldT ah 44 4=41:=by kernel_rfl
theorem f45_1:fOff ah 44 5=11:=by kernel_rfl
theorem f45_2:FieldIs ah 44 5 11:=bh Tryz.underlying44 rfl rfl i_42 (by decide)
theorem f45_:fldT ah 44 5=42:=by kernel_rfl
theorem l4_:LO_ ah 44 [.pv (.lit (.int .i64 0)),.node [.pv (.sl true 5 []),.pv (.sl true 5 [])],.pv (.lit (.int .i64 0)),.node [.pv (.lit (.string ⟨#[]⟩)),.pv (.sl true 2 [])],.node [.pv (.lit (.int .i64 0)),.node [.pv (.lit (.string ⟨#[]⟩)),.pv (.sl true 2 [])],.pv (.lit (.string ⟨#[]⟩)),.pv (.sl true 5 [])],.pv (.sl true 12 [])]:=.inr ⟨_,Tryz.underlying44,rfl,fun k f hk=>by match k,hk with | 0,hk=>(obtain rfl:=Option.some.inj hk; exact⟨rfl,_,i_3,rfl⟩) | 1,hk=>(obtain rfl:=Option.some.inj hk; exact⟨rfl,_,i_36,rfl⟩) | 2,hk=>(obtain rfl:=Option.some.inj hk; exact⟨rfl,_,i_3,rfl⟩) | 3,hk=>(obtain rfl:=Option.some.inj hk; exact⟨rfl,_,i_39,rfl⟩) | 4,hk=>(obtain rfl:=Option.some.inj hk; exact⟨rfl,_,i_41,rfl⟩) | 5,hk=>(obtain rfl:=Option.some.inj hk; exact⟨rfl,_,i_42,rfl⟩) | k+6,hk=>simp at hk⟩
theorem i_66:Tryz.prog.info? 66=some Tryz.t66:=by kernel_rfl
theorem t6_1:TyIs ah 66 false 1:=a8 Tryz.underlying66 i_66 rfl rfl
theorem z6_1:zcv ah 8 66=.pv (.lit .nilFunc):=by kernel_rfl
theorem z_66:ZeroIs ah 66 (.pv (.lit .nilFunc)):=bm i_66 rfl rfl rfl rfl rfl
theorem i_67:Tryz.prog.info? 67=some Tryz.t67:=by kernel_rfl
theorem t6_:TyIs ah 67 false 1:=a8 Tryz.underlying67 i_67 rfl rfl
theorem z6_:zcv ah 8 67=.pv (.lit .nilFunc):=by kernel_rfl
theorem z_67:ZeroIs ah 67 (.pv (.lit .nilFunc)):=bm i_67 rfl rfl rfl rfl rfl
theorem i_77:Tryz.prog.info? 77=some Tryz.t77:=by kernel_rfl
theorem t7_:TyIs ah 77 false 1:=a8 Tryz.underlying77 i_77 rfl rfl
theorem z7_1:zcv ah 8 77=.pv (.sl true 1 []):=by kernel_rfl
theorem z_77:ZeroIs ah 77 (.pv (.sl true 1 [])):=bm i_77 rfl rfl rfl rfl rfl
theorem e7_1:eS_ ah 77=1:=by kernel_rfl
theorem e7_3:eB_ ah 77=8:=by kernel_rfl
theorem s7_:SlIs ah 77 1 8:=SlIs.mk' Tryz.underlying77 i_3 rfl rfl rfl rfl (by decide)
theorem i7_:IsSl ah 77:=⟨_,Tryz.underlying77⟩
theorem e7_2:eOT_ ah 77=3:=by kernel_rfl
theorem z7_:zel ah 77=(.lit (.int .i64 0)):=by kernel_rfl
theorem e7_:ElemZero ah 77 ((.lit (.int .i64 0))):=bF Tryz.underlying77 (bm i_3 rfl rfl rfl rfl rfl)
theorem i_90:Tryz.prog.info? 90=some Tryz.t90:=by kernel_rfl
theorem t9_:TyIs ah 90 false 1:=a8 Tryz.underlying90 i_90 rfl rfl
theorem z9_:zcv ah 8 90=.pv (.lit .nilFunc):=by kernel_rfl
theorem z_90:ZeroIs ah 90 (.pv (.lit .nilFunc)):=bm i_90 rfl rfl rfl rfl rfl
theorem i_101:Tryz.prog.info? 101=some Tryz.t101:=by kernel_rfl
theorem t1_12:TyIs ah 101 false 1:=a8 Tryz.underlying101 i_101 rfl rfl
theorem z1_16:zcv ah 8 101=.pv (.sl true 1 []):=by kernel_rfl
theorem z_101:ZeroIs ah 101 (.pv (.sl true 1 [])):=bm i_101 rfl rfl rfl rfl rfl
theorem e1_9:eS_ ah 101=1:=by kernel_rfl
theorem e1_19:eB_ ah 101=1:=by kernel_rfl
theorem s1_4:SlIs ah 101 1 1:=SlIs.mk' Tryz.underlying101 i_5 rfl rfl rfl rfl (by decide)
theorem b1_:IB_ ah 101:=⟨_,Tryz.underlying101,Tryz.underlying5⟩
theorem i1_16:IsSl ah 101:=⟨_,Tryz.underlying101⟩
theorem e1_14:eOT_ ah 101=5:=by kernel_rfl
theorem z1_4:zel ah 101=(.lit (.int .u8 0)):=by kernel_rfl
theorem e1_4:ElemZero ah 101 ((.lit (.int .u8 0))):=bF Tryz.underlying101 (bm i_5 rfl rfl rfl rfl rfl)
theorem i_107:Tryz.prog.info? 107=some Tryz.t107:=by kernel_rfl
theorem t1_11:TyIs ah 107 false 1:=a8 Tryz.underlying107 i_107 rfl rfl
theorem z1_15:zcv ah 8 107=.pv (.sl true 2 []):=by kernel_rfl
theorem z_107:ZeroIs ah 107 (.pv (.sl true 2 [])):=bm i_107 rfl rfl rfl rfl rfl
theorem e1_8:eS_ ah 107=2:=by kernel_rfl
theorem e1_18:eB_ ah 107=48:=by kernel_rfl
theorem s1_3:SlIs ah 107 2 48:=SlIs.mk' Tryz.underlying107 i_36 rfl rfl rfl rfl (by decide)
theorem i1_15:IsSl ah 107:=⟨_,Tryz.underlying107⟩
theorem e1_13:eOT_ ah 107=36:=by kernel_rfl
theorem z1_3:zel ah 107=.agg [(.sl true 5 []),(.sl true 5 [])]:=by kernel_rfl
theorem e1_3:ElemZero ah 107 (.agg [(.sl true 5 []),(.sl true 5 [])]):=bF Tryz.underlying107 (bA i_36 rfl rfl rfl)
theorem i1_9:Tryz.prog.info? 113=some Tryz.t113:=by kernel_rfl
theorem t1_10:TyIs ah 113 false 1:=a8 Tryz.underlying113 i1_9 rfl rfl
theorem z1_14:zcv ah 8 113=.pv (.lit .nilFunc):=by kernel_rfl
theorem z_113:ZeroIs ah 113 (.pv (.lit .nilFunc)):=bm i1_9 rfl rfl rfl rfl rfl
theorem i_114:Tryz.prog.info? 114=some Tryz.t114:=by kernel_rfl
theorem t1_9:TyIs ah 114 false 1:=a8 Tryz.underlying114 i_114 rfl rfl
theorem i1_8:Tryz.prog.info? 121=some Tryz.t121:=by kernel_rfl
theorem t1_8:TyIs ah 121 false 1:=a8 Tryz.underlying121 i1_8 rfl rfl
theorem z1_13:zcv ah 8 121=.pv (.lit .nilFunc):=by kernel_rfl
theorem z_121:ZeroIs ah 121 (.pv (.lit .nilFunc)):=bm i1_8 rfl rfl rfl rfl rfl
theorem i1_7:Tryz.prog.info? 135=some Tryz.t135:=by kernel_rfl
theorem t1_7:TyIs ah 135 false 1:=a8 Tryz.underlying135 i1_7 rfl rfl
theorem z1_12:zcv ah 8 135=.pv (.lit .nilFunc):=by kernel_rfl
theorem z_135:ZeroIs ah 135 (.pv (.lit .nilFunc)):=bm i1_7 rfl rfl rfl rfl rfl
theorem i1_6:Tryz.prog.info? 140=some Tryz.t140:=by kernel_rfl
theorem t1_6:TyIs ah 140 false 1:=a8 Tryz.underlying140 i1_6 rfl rfl
theorem z1_11:zcv ah 8 140=.pv (.sl true 1 []):=by kernel_rfl
theorem z_140:ZeroIs ah 140 (.pv (.sl true 1 [])):=bm i1_6 rfl rfl rfl rfl rfl
theorem e1_7:eS_ ah 140=1:=by kernel_rfl
theorem e1_17:eB_ ah 140=16:=by kernel_rfl
theorem s1_2:SlIs ah 140 1 16:=SlIs.mk' Tryz.underlying140 i_9 rfl rfl rfl rfl (by decide)
theorem i1_14:IsSl ah 140:=⟨_,Tryz.underlying140⟩
theorem e1_12:eOT_ ah 140=9:=by kernel_rfl
theorem z1_2:zel ah 140=(.lit (.string ⟨#[]⟩)):=by kernel_rfl
theorem e1_2:ElemZero ah 140 ((.lit (.string ⟨#[]⟩))):=bF Tryz.underlying140 (bm i_9 rfl rfl rfl rfl rfl)
theorem i1_1:Tryz.prog.info? 146=some Tryz.t146:=by kernel_rfl
theorem t1_5:TyIs ah 146 false 1:=a8 Tryz.underlying146 i1_1 rfl rfl
theorem z1_10:zcv ah 8 146=.pv (.sl true 3 []):=by kernel_rfl
theorem z_146:ZeroIs ah 146 (.pv (.sl true 3 [])):=bm i1_1 rfl rfl rfl rfl rfl
theorem i1_:Tryz.prog.info? 164=some Tryz.t164:=by kernel_rfl
theorem e1_6:eS_ ah 146=3:=by kernel_rfl
theorem e1_16:eB_ ah 146=56:=by kernel_rfl
theorem s1_1:SlIs ah 146 3 56:=SlIs.mk' Tryz.underlying146 i1_ rfl rfl rfl rfl (by decide)
theorem i1_13:IsSl ah 146:=⟨_,Tryz.underlying146⟩
theorem e1_11:eOT_ ah 146=164:=by kernel_rfl
theorem z1_1:zel ah 146=.agg [(.lit (.string ⟨#[]⟩)),.agg [(.lit (.string ⟨#[]⟩)),(.sl true 2 [])]]:=by kernel_rfl
theorem e1_1:ElemZero ah 146 (.agg [(.lit (.string ⟨#[]⟩)),.agg [(.lit (.string ⟨#[]⟩)),(.sl true 2 [])]]):=bF Tryz.underlying146 (bA i1_ rfl rfl rfl)
theorem i1_5:Tryz.prog.info? 148=some Tryz.t148:=by kernel_rfl
theorem t1_4:TyIs ah 148 true 1:=a8 Tryz.underlying148 i1_5 rfl rfl
theorem z1_9:zcv ah 8 148=.node [.pv (.sl true 3 [])]:=by kernel_rfl
theorem z_148:ZeroIs ah 148 (.node [.pv (.sl true 3 [])]):=bA i1_5 rfl rfl rfl
theorem f10_3:fOff ah 148 0=0:=by kernel_rfl
theorem f10_5:FieldIs ah 148 0 0:=bh Tryz.underlying148 rfl rfl i1_1 (by decide)
theorem f10_1:fldT ah 148 0=146:=by kernel_rfl
theorem l1_1:LO_ ah 148 [.pv (.sl true 3 [])]:=.inr ⟨_,Tryz.underlying148,rfl,fun k f hk=>by match k,hk with | 0,hk=>(obtain rfl:=Option.some.inj hk; exact⟨rfl,_,i1_1,rfl⟩) | k+1,hk=>simp at hk⟩
theorem i1_4:Tryz.prog.info? 156=some Tryz.t156:=by kernel_rfl
theorem t1_3:TyIs ah 156 false 1:=a8 Tryz.underlying156 i1_4 rfl rfl
theorem z1_8:zcv ah 8 156=.pv (.sl true 1 []):=by kernel_rfl
theorem z_156:ZeroIs ah 156 (.pv (.sl true 1 [])):=bm i1_4 rfl rfl rfl rfl rfl
theorem e1_5:eS_ ah 156=1:=by kernel_rfl
theorem e1_15:eB_ ah 156=24:=by kernel_rfl
theorem s1_:SlIs ah 156 1 24:=SlIs.mk' Tryz.underlying156 i_34 rfl rfl rfl rfl (by decide)
theorem i1_12:IsSl ah 156:=⟨_,Tryz.underlying156⟩
theorem e1_10:eOT_ ah 156=34:=by kernel_rfl
theorem z1_:zel ah 156=(.sl true 5 []):=by kernel_rfl
theorem e1_:ElemZero ah 156 ((.sl true 5 [])):=bF Tryz.underlying156 (bm i_34 rfl rfl rfl rfl rfl)
theorem t1_2:TyIs ah 164 true 3:=a8 Tryz.underlying164 i1_ rfl rfl
theorem z1_7:zcv ah 8 164=.node [.pv (.lit (.string ⟨#[]⟩)),.node [.pv (.lit (.string ⟨#[]⟩)),.pv (.sl true 2 [])]]:=by kernel_rfl
theorem z_164:ZeroIs ah 164 (.node [.pv (.lit (.string ⟨#[]⟩)),.node [.pv (.lit (.string ⟨#[]⟩)),.pv (.sl true 2 [])]]):=bA i1_ rfl rfl rfl
theorem f10_2:fOff ah 164 0=0:=by kernel_rfl
theorem f10_4:FieldIs ah 164 0 0:=bh Tryz.underlying164 rfl rfl i_9 (by decide)
theorem f10_:fldT ah 164 0=9:=by kernel_rfl
theorem f11_1:fOff ah 164 1=1:=by kernel_rfl
theorem f11_2:FieldIs ah 164 1 1:=bh Tryz.underlying164 rfl rfl i_39 (by decide)
theorem f11_:fldT ah 164 1=39:=by kernel_rfl
theorem l1_:LO_ ah 164 [.pv (.lit (.string ⟨#[]⟩)),.node [.pv (.lit (.string ⟨#[]⟩)),.pv (.sl true 2 [])]]:=.inr ⟨_,Tryz.underlying164,rfl,fun k f hk=>by match k,hk with | 0,hk=>(obtain rfl:=Option.some.inj hk; exact⟨rfl,_,i_9,rfl⟩) | 1,hk=>(obtain rfl:=Option.some.inj hk; exact⟨rfl,_,i_39,rfl⟩) | k+2,hk=>simp at hk⟩
theorem i1_3:Tryz.prog.info? 177=some Tryz.t177:=by kernel_rfl
theorem t1_1:TyIs ah 177 false 1:=a8 Tryz.underlying177 i1_3 rfl rfl
theorem z1_6:zcv ah 8 177=.pv (.lit (.int .u64 0)):=by kernel_rfl
theorem z_177:ZeroIs ah 177 (.pv (.lit (.int .u64 0))):=bm i1_3 rfl rfl rfl rfl rfl
theorem i1_2:Tryz.prog.info? 195=some Tryz.t195:=by kernel_rfl
theorem t1_:TyIs ah 195 false 1:=a8 Tryz.underlying195 i1_2 rfl rfl
theorem z1_5:zcv ah 8 195=.pv (.lit .nilFunc):=by kernel_rfl
theorem z_195:ZeroIs ah 195 (.pv (.lit .nilFunc)):=bm i1_2 rfl rfl rfl rfl rfl
theorem iIB_3:iIB_ (Tryz.prog.underlying 3)=true:=by kernel_rfl
theorem uk_3:Tryz.prog.underlying 3=some (.int .i64):=Tryz.underlying3
theorem uk_5:Tryz.prog.underlying 5=some (.int .u8):=Tryz.underlying5
theorem uk_9:Tryz.prog.underlying 9=some .string:=Tryz.underlying9
theorem u1_:Tryz.prog.underlying 177=some (.int .u64):=Tryz.underlying177
attribute [push_cast] ty_3 zc_3 z_3 ty_9 zc_9 z_9 u_9 t2_2 z2_4 z_25 e2_2 e2_6 s2_ i2_ e2_4 z2_ e2_ t2_1 z2_3 z_27 f20_4 f20_7 f20_1 f21_4 f21_7 f21_1 l2_1 t2_4 z2_6 z_22 e2_3 e2_7 s2_1 i2_1 e2_5 z2_1 e2_1 t2_ z2_2 z_29 f20_3 f20_6 f20_ f21_3 f21_6 f21_ f22_1 f22_2 f22_ f23_1 f23_2 f23_ l2_ t2_3 z2_5 z_24 f20_5 f20_8 f20_2 f21_5 f21_8 f21_2 l2_2 t3_5 z3_8 z_30 e3_5 eb_30 s3_2 i3_2 e3_8 z3_2 e3_2 t3_4 z3_7 z_32 f30_5 f30_8 f30_2 f31_5 f31_8 f31_2 f32_1 f32_2 f32_ f33_1 f33_2 f33_ f34_1 f34_2 f34_ f35_1 f35_2 f35_ l3_2 t3_1 z3_4 z_37 e3_3 e3_9 s3_ i3_ e3_6 z3_ e3_ t3_ z3_3 z_39 f30_3 f30_6 f30_ f31_3 f31_6 f31_ l3_ t3_3 z3_6 z_34 e3_4 eb_34 s3_1 i3_1 e3_7 z3_1 e3_1 t4_2 z4_3 z_41 f40_3 f40_5 f40_1 f41_3 f41_5 f41_1 f42_3 f42_5 f42_1 f43_3 f43_5 f43_1 l4_1 t3_2 z3_5 z_36 f30_4 f30_7 f30_1 f31_4 f31_7 f31_1 l3_1 t4_1 z4_2 z_42 e4_1 e4_3 s4_ i4_ e4_2 z4_ e4_ t4_ z4_1 z_44 f40_2 f40_4 f40_ f41_2 f41_4 f41_ f42_2 f42_4 f42_ f43_2 f43_4 f43_ f44_1 f44_2 f44_ f45_1 f45_2 f45_ l4_ ty_5 zc_5 z_5 ty_4 zc_4 z_4 u_4 mT_2 t1_5 z1_10 z_146 e1_6 e1_16 s1_1 i1_13 e1_11 z1_1 e1_1 t1_4 z1_9 z_148 f10_3 f10_5 f10_1 l1_1 t1_2 z1_7 z_164 f10_2 f10_4 f10_ f11_1 f11_2 f11_ l1_ t1_6 z1_11 z_140 e1_7 e1_17 s1_2 i1_14 e1_12 z1_2 e1_2 t1_11 z1_15 z_107 e1_8 e1_18 s1_3 i1_15 e1_13 z1_3 e1_3 t7_ z7_1 z_77 e7_1 e7_3 s7_ i7_ e7_2 z7_ e7_ t1_7 z1_12 z_135 t1_10 z1_14 z_113 t6_1 z6_1 z_66 t6_ z6_ z_67 t1_1 z1_6 z_177 uk_3 u1_ t9_ z9_ z_90 t1_ z1_5 z_195 iIB_3 t1_3 z1_8 z_156 e1_5 e1_15 s1_ i1_12 e1_10 z1_ e1_ t1_8 z1_13 z_121 t1_9 t1_12 z1_16 z_101 e1_9 e1_19 s1_4 b1_ i1_16 e1_14 z1_4 e1_4 uk_5 uk_9
end Go.Proofs.YtafdgbndcflghaaGreat
