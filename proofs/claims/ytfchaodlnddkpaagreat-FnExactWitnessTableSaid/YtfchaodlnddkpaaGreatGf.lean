/- Lemmas of the proof; each says what it shows. -/
import Derived.Test.YtfchaodlnddkpaaGreatGty
import Derived.Test.YtfchaodlnddkpaaGreatChecked
import Derived.KernelRfl
set_option linter.unusedSimpArgs false
set_option linter.unusedVariables false
set_option linter.defProp false
set_option maxRecDepth 4000
namespace Go.Proofs.YtfchaodlnddkpaaGreat
open Go.Av
open FieldIs renaming mk'→bB
open Tryz renaming prog→ag
open TyIs renaming mk'→bf
open ZeroIs renaming one→bi
theorem mixed:Tryz.prog.follows .mixedOrders=true:=by kernel_rfl
theorem mixedT:(Tryz.prog.follows .mixedOrders=true)=True:=eq_true mixed
theorem i_3:Tryz.prog.info? 3=some Tryz.t3:=by kernel_rfl
theorem ty_3:TyIs ag 3 false 1:=bf Tryz.underlying3 i_3 rfl rfl
theorem zc_3:zcv ag 8 3=.pv (.lit (.int .i64 0)):=by kernel_rfl
theorem z_3:ZeroIs ag 3 (.pv (.lit (.int .i64 0))):=bi i_3 rfl rfl rfl rfl rfl
theorem i_4:Tryz.prog.info? 4=some Tryz.t4:=by kernel_rfl
theorem ty_4:TyIs ag 4 false 1:=bf Tryz.underlying4 i_4 rfl rfl
theorem zc_4:zcv ag 8 4=.pv (.lit (.bool false)):=by kernel_rfl
theorem z_4:ZeroIs ag 4 (.pv (.lit (.bool false))):=bi i_4 rfl rfl rfl rfl rfl
theorem u_4:(Tryz.prog.underlying 4=some .bool)=True:=eq_true Tryz.underlying4
theorem i_5:Tryz.prog.info? 5=some Tryz.t5:=by kernel_rfl
theorem ty_5:TyIs ag 5 false 1:=bf Tryz.underlying5 i_5 rfl rfl
theorem zc_5:zcv ag 8 5=.pv (.lit (.int .u8 0)):=by kernel_rfl
theorem z_5:ZeroIs ag 5 (.pv (.lit (.int .u8 0))):=bi i_5 rfl rfl rfl rfl rfl
theorem i_9:Tryz.prog.info? 9=some Tryz.t9:=by kernel_rfl
theorem ty_9:TyIs ag 9 false 1:=bf Tryz.underlying9 i_9 rfl rfl
theorem zc_9:zcv ag 8 9=.pv (.lit (.string ⟨#[]⟩)):=by kernel_rfl
theorem z_9:ZeroIs ag 9 (.pv (.lit (.string ⟨#[]⟩))):=bi i_9 rfl rfl rfl rfl rfl
theorem u_9:(Tryz.prog.underlying 9=some .string)=True:=eq_true Tryz.underlying9
theorem i_22:Tryz.prog.info? 22=some Tryz.t22:=by kernel_rfl
theorem ty_22:TyIs ag 22 false 1:=bf Tryz.underlying22 i_22 rfl rfl
theorem zc_22:zcv ag 8 22=.pv (.sl true 2 []):=by kernel_rfl
theorem z_22:ZeroIs ag 22 (.pv (.sl true 2 [])):=bi i_22 rfl rfl rfl rfl rfl
theorem i_24:Tryz.prog.info? 24=some Tryz.t24:=by kernel_rfl
theorem es_22:eSize ag 22=2:=by kernel_rfl
theorem eb_22:eBytes ag 22=40:=by kernel_rfl
theorem sl_22:SlIs ag 22 2 40:=SlIs.mk' Tryz.underlying22 i_24 rfl rfl rfl rfl (by decide)
theorem is_22:IsSl ag 22:=⟨_,Tryz.underlying22⟩
theorem el_22:elemOfT ag 22=24:=by kernel_rfl
theorem ze_22:zel ag 22=.agg [(.lit (.string ⟨#[]⟩)),(.sl true 2 [])]:=by kernel_rfl
theorem ez_22:ElemZero ag 22 (.agg [(.lit (.string ⟨#[]⟩)),(.sl true 2 [])]):=ElemZero.mk' Tryz.underlying22 (ZeroIs.agg i_24 rfl rfl rfl)
theorem ty_24:TyIs ag 24 true 2:=bf Tryz.underlying24 i_24 rfl rfl
theorem zc_24:zcv ag 8 24=.node [.pv (.lit (.string ⟨#[]⟩)),.pv (.sl true 2 [])]:=by kernel_rfl
theorem z_24:ZeroIs ag 24 (.node [.pv (.lit (.string ⟨#[]⟩)),.pv (.sl true 2 [])]):=ZeroIs.agg i_24 rfl rfl rfl
theorem fo_24_0:fOff ag 24 0=0:=by kernel_rfl
theorem fi_24_0:FieldIs ag 24 0 0:=bB Tryz.underlying24 rfl rfl i_9 (by decide)
theorem ft_24_0:fldT ag 24 0=9:=by kernel_rfl
theorem fo_24_1:fOff ag 24 1=1:=by kernel_rfl
theorem fi_24_1:FieldIs ag 24 1 1:=bB Tryz.underlying24 rfl rfl i_22 (by decide)
theorem ft_24_1:fldT ag 24 1=22:=by kernel_rfl
theorem lay_24:LayoutOk ag 24 [.pv (.lit (.string ⟨#[]⟩)),.pv (.sl true 2 [])]:=.inr ⟨_,Tryz.underlying24,rfl,fun k f hk=>by match k,hk with | 0,hk=>(obtain rfl:=Option.some.inj hk; exact⟨rfl,_,i_9,rfl⟩) | 1,hk=>(obtain rfl:=Option.some.inj hk; exact⟨rfl,_,i_22,rfl⟩) | k+2,hk=>simp at hk⟩
theorem i_25:Tryz.prog.info? 25=some Tryz.t25:=by kernel_rfl
theorem ty_25:TyIs ag 25 false 1:=bf Tryz.underlying25 i_25 rfl rfl
theorem zc_25:zcv ag 8 25=.pv (.sl true 5 []):=by kernel_rfl
theorem z_25:ZeroIs ag 25 (.pv (.sl true 5 [])):=bi i_25 rfl rfl rfl rfl rfl
theorem i_27:Tryz.prog.info? 27=some Tryz.t27:=by kernel_rfl
theorem es_25:eSize ag 25=5:=by kernel_rfl
theorem eb_25:eBytes ag 25=88:=by kernel_rfl
theorem sl_25:SlIs ag 25 5 88:=SlIs.mk' Tryz.underlying25 i_27 rfl rfl rfl rfl (by decide)
theorem is_25:IsSl ag 25:=⟨_,Tryz.underlying25⟩
theorem el_25:elemOfT ag 25=27:=by kernel_rfl
theorem ze_25:zel ag 25=.agg [(.lit (.int .i64 0)),.agg [(.lit (.string ⟨#[]⟩)),(.sl true 2 [])],(.lit (.string ⟨#[]⟩)),(.sl true 5 [])]:=by kernel_rfl
theorem ez_25:ElemZero ag 25 (.agg [(.lit (.int .i64 0)),.agg [(.lit (.string ⟨#[]⟩)),(.sl true 2 [])],(.lit (.string ⟨#[]⟩)),(.sl true 5 [])]):=ElemZero.mk' Tryz.underlying25 (ZeroIs.agg i_27 rfl rfl rfl)
theorem ty_27:TyIs ag 27 true 5:=bf Tryz.underlying27 i_27 rfl rfl
theorem zc_27:zcv ag 8 27=.node [.pv (.lit (.int .i64 0)),.node [.pv (.lit (.string ⟨#[]⟩)),.pv (.sl true 2 [])],.pv (.lit (.string ⟨#[]⟩)),.pv (.sl true 5 [])]:=by kernel_rfl
theorem z_27:ZeroIs ag 27 (.node [.pv (.lit (.int .i64 0)),.node [.pv (.lit (.string ⟨#[]⟩)),.pv (.sl true 2 [])],.pv (.lit (.string ⟨#[]⟩)),.pv (.sl true 5 [])]):=ZeroIs.agg i_27 rfl rfl rfl
theorem fo_27_0:fOff ag 27 0=0:=by kernel_rfl
theorem fi_27_0:FieldIs ag 27 0 0:=bB Tryz.underlying27 rfl rfl i_3 (by decide)
theorem ft_27_0:fldT ag 27 0=3:=by kernel_rfl
theorem fo_27_1:fOff ag 27 1=1:=by kernel_rfl
theorem fi_27_1:FieldIs ag 27 1 1:=bB Tryz.underlying27 rfl rfl i_24 (by decide)
theorem ft_27_1:fldT ag 27 1=24:=by kernel_rfl
theorem fo_27_2:fOff ag 27 2=3:=by kernel_rfl
theorem fi_27_2:FieldIs ag 27 2 3:=bB Tryz.underlying27 rfl rfl i_9 (by decide)
theorem ft_27_2:fldT ag 27 2=9:=by kernel_rfl
theorem fo_27_3:fOff ag 27 3=4:=by kernel_rfl
theorem fi_27_3:FieldIs ag 27 3 4:=bB Tryz.underlying27 rfl rfl i_25 (by decide)
theorem ft_27_3:fldT ag 27 3=25:=by kernel_rfl
theorem lay_27:LayoutOk ag 27 [.pv (.lit (.int .i64 0)),.node [.pv (.lit (.string ⟨#[]⟩)),.pv (.sl true 2 [])],.pv (.lit (.string ⟨#[]⟩)),.pv (.sl true 5 [])]:=.inr ⟨_,Tryz.underlying27,rfl,fun k f hk=>by match k,hk with | 0,hk=>(obtain rfl:=Option.some.inj hk; exact⟨rfl,_,i_3,rfl⟩) | 1,hk=>(obtain rfl:=Option.some.inj hk; exact⟨rfl,_,i_24,rfl⟩) | 2,hk=>(obtain rfl:=Option.some.inj hk; exact⟨rfl,_,i_9,rfl⟩) | 3,hk=>(obtain rfl:=Option.some.inj hk; exact⟨rfl,_,i_25,rfl⟩) | k+4,hk=>simp at hk⟩
theorem i_28:Tryz.prog.info? 28=some Tryz.t28:=by kernel_rfl
theorem ty_28:TyIs ag 28 false 1:=bf Tryz.underlying28 i_28 rfl rfl
theorem zc_28:zcv ag 8 28=.pv (.sl true 1 []):=by kernel_rfl
theorem z_28:ZeroIs ag 28 (.pv (.sl true 1 [])):=bi i_28 rfl rfl rfl rfl rfl
theorem es_28:eSize ag 28=1:=by kernel_rfl
theorem eb_28:eBytes ag 28=24:=by kernel_rfl
theorem sl_28:SlIs ag 28 1 24:=SlIs.mk' Tryz.underlying28 i_22 rfl rfl rfl rfl (by decide)
theorem is_28:IsSl ag 28:=⟨_,Tryz.underlying28⟩
theorem el_28:elemOfT ag 28=22:=by kernel_rfl
theorem ze_28:zel ag 28=(.sl true 2 []):=by kernel_rfl
theorem ez_28:ElemZero ag 28 ((.sl true 2 [])):=ElemZero.mk' Tryz.underlying28 (bi i_22 rfl rfl rfl rfl rfl)
theorem i_31:Tryz.prog.info? 31=some Tryz.t31:=by kernel_rfl
theorem ty_31:TyIs ag 31 false 1:=bf Tryz.underlying31 i_31 rfl rfl
theorem zc_31:zcv ag 8 31=.pv (.sl true 1 []):=by kernel_rfl
theorem z_31:ZeroIs ag 31 (.pv (.sl true 1 [])):=bi i_31 rfl rfl rfl rfl rfl
theorem es_31:eSize ag 31=1:=by kernel_rfl
theorem eb_31:eBytes ag 31=8:=by kernel_rfl
theorem sl_31:SlIs ag 31 1 8:=SlIs.mk' Tryz.underlying31 i_3 rfl rfl rfl rfl (by decide)
theorem is_31:IsSl ag 31:=⟨_,Tryz.underlying31⟩
theorem el_31:elemOfT ag 31=3:=by kernel_rfl
theorem ze_31:zel ag 31=(.lit (.int .i64 0)):=by kernel_rfl
theorem ez_31:ElemZero ag 31 ((.lit (.int .i64 0))):=ElemZero.mk' Tryz.underlying31 (bi i_3 rfl rfl rfl rfl rfl)
theorem i_34:Tryz.prog.info? 34=some Tryz.t34:=by kernel_rfl
theorem ty_34:TyIs ag 34 false 1:=bf Tryz.underlying34 i_34 rfl rfl
theorem zc_34:zcv ag 8 34=.pv (.sl true 2 []):=by kernel_rfl
theorem z_34:ZeroIs ag 34 (.pv (.sl true 2 [])):=bi i_34 rfl rfl rfl rfl rfl
theorem i_36:Tryz.prog.info? 36=some Tryz.t36:=by kernel_rfl
theorem es_34:eSize ag 34=2:=by kernel_rfl
theorem eb_34:eBytes ag 34=40:=by kernel_rfl
theorem sl_34:SlIs ag 34 2 40:=SlIs.mk' Tryz.underlying34 i_36 rfl rfl rfl rfl (by decide)
theorem is_34:IsSl ag 34:=⟨_,Tryz.underlying34⟩
theorem el_34:elemOfT ag 34=36:=by kernel_rfl
theorem ze_34:zel ag 34=.agg [(.lit (.string ⟨#[]⟩)),(.sl true 2 [])]:=by kernel_rfl
theorem ez_34:ElemZero ag 34 (.agg [(.lit (.string ⟨#[]⟩)),(.sl true 2 [])]):=ElemZero.mk' Tryz.underlying34 (ZeroIs.agg i_36 rfl rfl rfl)
theorem ty_36:TyIs ag 36 true 2:=bf Tryz.underlying36 i_36 rfl rfl
theorem zc_36:zcv ag 8 36=.node [.pv (.lit (.string ⟨#[]⟩)),.pv (.sl true 2 [])]:=by kernel_rfl
theorem z_36:ZeroIs ag 36 (.node [.pv (.lit (.string ⟨#[]⟩)),.pv (.sl true 2 [])]):=ZeroIs.agg i_36 rfl rfl rfl
theorem fo_36_0:fOff ag 36 0=0:=by kernel_rfl
theorem fi_36_0:FieldIs ag 36 0 0:=bB Tryz.underlying36 rfl rfl i_9 (by decide)
theorem ft_36_0:fldT ag 36 0=9:=by kernel_rfl
theorem fo_36_1:fOff ag 36 1=1:=by kernel_rfl
theorem fi_36_1:FieldIs ag 36 1 1:=bB Tryz.underlying36 rfl rfl i_34 (by decide)
theorem ft_36_1:fldT ag 36 1=34:=by kernel_rfl
theorem lay_36:LayoutOk ag 36 [.pv (.lit (.string ⟨#[]⟩)),.pv (.sl true 2 [])]:=.inr ⟨_,Tryz.underlying36,rfl,fun k f hk=>by match k,hk with | 0,hk=>(obtain rfl:=Option.some.inj hk; exact⟨rfl,_,i_9,rfl⟩) | 1,hk=>(obtain rfl:=Option.some.inj hk; exact⟨rfl,_,i_34,rfl⟩) | k+2,hk=>simp at hk⟩
theorem i_37:Tryz.prog.info? 37=some Tryz.t37:=by kernel_rfl
theorem ty_37:TyIs ag 37 false 1:=bf Tryz.underlying37 i_37 rfl rfl
theorem zc_37:zcv ag 8 37=.pv (.sl true 5 []):=by kernel_rfl
theorem z_37:ZeroIs ag 37 (.pv (.sl true 5 [])):=bi i_37 rfl rfl rfl rfl rfl
theorem i_39:Tryz.prog.info? 39=some Tryz.t39:=by kernel_rfl
theorem es_37:eSize ag 37=5:=by kernel_rfl
theorem eb_37:eBytes ag 37=88:=by kernel_rfl
theorem sl_37:SlIs ag 37 5 88:=SlIs.mk' Tryz.underlying37 i_39 rfl rfl rfl rfl (by decide)
theorem is_37:IsSl ag 37:=⟨_,Tryz.underlying37⟩
theorem el_37:elemOfT ag 37=39:=by kernel_rfl
theorem ze_37:zel ag 37=.agg [(.lit (.int .i64 0)),.agg [(.lit (.string ⟨#[]⟩)),(.sl true 2 [])],(.lit (.string ⟨#[]⟩)),(.sl true 5 [])]:=by kernel_rfl
theorem ez_37:ElemZero ag 37 (.agg [(.lit (.int .i64 0)),.agg [(.lit (.string ⟨#[]⟩)),(.sl true 2 [])],(.lit (.string ⟨#[]⟩)),(.sl true 5 [])]):=ElemZero.mk' Tryz.underlying37 (ZeroIs.agg i_39 rfl rfl rfl)
theorem ty_39:TyIs ag 39 true 5:=bf Tryz.underlying39 i_39 rfl rfl
theorem zc_39:zcv ag 8 39=.node [.pv (.lit (.int .i64 0)),.node [.pv (.lit (.string ⟨#[]⟩)),.pv (.sl true 2 [])],.pv (.lit (.string ⟨#[]⟩)),.pv (.sl true 5 [])]:=by kernel_rfl
theorem z_39:ZeroIs ag 39 (.node [.pv (.lit (.int .i64 0)),.node [.pv (.lit (.string ⟨#[]⟩)),.pv (.sl true 2 [])],.pv (.lit (.string ⟨#[]⟩)),.pv (.sl true 5 [])]):=ZeroIs.agg i_39 rfl rfl rfl
theorem fo_39_0:fOff ag 39 0=0:=by kernel_rfl
theorem fi_39_0:FieldIs ag 39 0 0:=bB Tryz.underlying39 rfl rfl i_3 (by decide)
theorem ft_39_0:fldT ag 39 0=3:=by kernel_rfl
theorem fo_39_1:fOff ag 39 1=1:=by kernel_rfl
theorem fi_39_1:FieldIs ag 39 1 1:=bB Tryz.underlying39 rfl rfl i_36 (by decide)
theorem ft_39_1:fldT ag 39 1=36:=by kernel_rfl
theorem fo_39_2:fOff ag 39 2=3:=by kernel_rfl
theorem fi_39_2:FieldIs ag 39 2 3:=bB Tryz.underlying39 rfl rfl i_9 (by decide)
theorem ft_39_2:fldT ag 39 2=9:=by kernel_rfl
theorem fo_39_3:fOff ag 39 3=4:=by kernel_rfl
theorem fi_39_3:FieldIs ag 39 3 4:=bB Tryz.underlying39 rfl rfl i_37 (by decide)
theorem ft_39_3:fldT ag 39 3=37:=by kernel_rfl
theorem lay_39:LayoutOk ag 39 [.pv (.lit (.int .i64 0)),.node [.pv (.lit (.string ⟨#[]⟩)),.pv (.sl true 2 [])],.pv (.lit (.string ⟨#[]⟩)),.pv (.sl true 5 [])]:=.inr ⟨_,Tryz.underlying39,rfl,fun k f hk=>by match k,hk with | 0,hk=>(obtain rfl:=Option.some.inj hk; exact⟨rfl,_,i_3,rfl⟩) | 1,hk=>(obtain rfl:=Option.some.inj hk; exact⟨rfl,_,i_36,rfl⟩) | 2,hk=>(obtain rfl:=Option.some.inj hk; exact⟨rfl,_,i_9,rfl⟩) | 3,hk=>(obtain rfl:=Option.some.inj hk; exact⟨rfl,_,i_37,rfl⟩) | k+4,hk=>simp at hk⟩
theorem i_41:Tryz.prog.info? 41=some Tryz.t41:=by kernel_rfl
theorem ty_41:TyIs ag 41 false 1:=bf Tryz.underlying41 i_41 rfl rfl
theorem zc_41:zcv ag 8 41=.pv (.sl true 1 []):=by kernel_rfl
theorem z_41:ZeroIs ag 41 (.pv (.sl true 1 [])):=bi i_41 rfl rfl rfl rfl rfl
theorem es_41:eSize ag 41=1:=by kernel_rfl
theorem eb_41:eBytes ag 41=24:=by kernel_rfl
theorem sl_41:SlIs ag 41 1 24:=SlIs.mk' Tryz.underlying41 i_34 rfl rfl rfl rfl (by decide)
theorem is_41:IsSl ag 41:=⟨_,Tryz.underlying41⟩
theorem el_41:elemOfT ag 41=34:=by kernel_rfl
theorem ze_41:zel ag 41=(.sl true 2 []):=by kernel_rfl
theorem ez_41:ElemZero ag 41 ((.sl true 2 [])):=ElemZero.mk' Tryz.underlying41 (bi i_34 rfl rfl rfl rfl rfl)
theorem i_58:Tryz.prog.info? 58=some Tryz.t58:=by kernel_rfl
theorem ty_58:TyIs ag 58 false 1:=bf Tryz.underlying58 i_58 rfl rfl
theorem zc_58:zcv ag 8 58=.pv (.lit (.int .u64 0)):=by kernel_rfl
theorem z_58:ZeroIs ag 58 (.pv (.lit (.int .u64 0))):=bi i_58 rfl rfl rfl rfl rfl
theorem i_65:Tryz.prog.info? 65=some Tryz.t65:=by kernel_rfl
theorem ty_65:TyIs ag 65 false 1:=bf Tryz.underlying65 i_65 rfl rfl
theorem zc_65:zcv ag 8 65=.pv (.lit .nilFunc):=by kernel_rfl
theorem z_65:ZeroIs ag 65 (.pv (.lit .nilFunc)):=bi i_65 rfl rfl rfl rfl rfl
theorem i_67:Tryz.prog.info? 67=some Tryz.t67:=by kernel_rfl
theorem ty_67:TyIs ag 67 false 1:=bf Tryz.underlying67 i_67 rfl rfl
theorem zc_67:zcv ag 8 67=.pv (.lit .nilFunc):=by kernel_rfl
theorem z_67:ZeroIs ag 67 (.pv (.lit .nilFunc)):=bi i_67 rfl rfl rfl rfl rfl
theorem i_68:Tryz.prog.info? 68=some Tryz.t68:=by kernel_rfl
theorem ty_68:TyIs ag 68 false 1:=bf Tryz.underlying68 i_68 rfl rfl
theorem zc_68:zcv ag 8 68=.pv (.lit .nilFunc):=by kernel_rfl
theorem z_68:ZeroIs ag 68 (.pv (.lit .nilFunc)):=bi i_68 rfl rfl rfl rfl rfl
theorem i_75:Tryz.prog.info? 75=some Tryz.t75:=by kernel_rfl
theorem ty_75:TyIs ag 75 false 1:=bf Tryz.underlying75 i_75 rfl rfl
theorem zc_75:zcv ag 8 75=.pv (.sl true 1 []):=by kernel_rfl
theorem z_75:ZeroIs ag 75 (.pv (.sl true 1 [])):=bi i_75 rfl rfl rfl rfl rfl
theorem es_75:eSize ag 75=1:=by kernel_rfl
theorem eb_75:eBytes ag 75=16:=by kernel_rfl
theorem sl_75:SlIs ag 75 1 16:=SlIs.mk' Tryz.underlying75 i_9 rfl rfl rfl rfl (by decide)
theorem is_75:IsSl ag 75:=⟨_,Tryz.underlying75⟩
theorem el_75:elemOfT ag 75=9:=by kernel_rfl
theorem ze_75:zel ag 75=(.lit (.string ⟨#[]⟩)):=by kernel_rfl
theorem ez_75:ElemZero ag 75 ((.lit (.string ⟨#[]⟩))):=ElemZero.mk' Tryz.underlying75 (bi i_9 rfl rfl rfl rfl rfl)
theorem i_84:Tryz.prog.info? 84=some Tryz.t84:=by kernel_rfl
theorem ty_84:TyIs ag 84 false 1:=bf Tryz.underlying84 i_84 rfl rfl
theorem zc_84:zcv ag 8 84=.pv (.lit .nilFunc):=by kernel_rfl
theorem z_84:ZeroIs ag 84 (.pv (.lit .nilFunc)):=bi i_84 rfl rfl rfl rfl rfl
theorem i_85:Tryz.prog.info? 85=some Tryz.t85:=by kernel_rfl
theorem ty_85:TyIs ag 85 false 1:=bf Tryz.underlying85 i_85 rfl rfl
theorem i_99:Tryz.prog.info? 99=some Tryz.t99:=by kernel_rfl
theorem ty_99:TyIs ag 99 false 1:=bf Tryz.underlying99 i_99 rfl rfl
theorem zc_99:zcv ag 8 99=.pv (.sl true 3 []):=by kernel_rfl
theorem z_99:ZeroIs ag 99 (.pv (.sl true 3 [])):=bi i_99 rfl rfl rfl rfl rfl
theorem i_137:Tryz.prog.info? 137=some Tryz.t137:=by kernel_rfl
theorem es_99:eSize ag 99=3:=by kernel_rfl
theorem eb_99:eBytes ag 99=56:=by kernel_rfl
theorem sl_99:SlIs ag 99 3 56:=SlIs.mk' Tryz.underlying99 i_137 rfl rfl rfl rfl (by decide)
theorem is_99:IsSl ag 99:=⟨_,Tryz.underlying99⟩
theorem el_99:elemOfT ag 99=137:=by kernel_rfl
theorem ze_99:zel ag 99=.agg [(.lit (.string ⟨#[]⟩)),.agg [(.lit (.string ⟨#[]⟩)),(.sl true 2 [])]]:=by kernel_rfl
theorem ez_99:ElemZero ag 99 (.agg [(.lit (.string ⟨#[]⟩)),.agg [(.lit (.string ⟨#[]⟩)),(.sl true 2 [])]]):=ElemZero.mk' Tryz.underlying99 (ZeroIs.agg i_137 rfl rfl rfl)
theorem i_101:Tryz.prog.info? 101=some Tryz.t101:=by kernel_rfl
theorem ty_101:TyIs ag 101 true 1:=bf Tryz.underlying101 i_101 rfl rfl
theorem zc_101:zcv ag 8 101=.node [.pv (.sl true 3 [])]:=by kernel_rfl
theorem z_101:ZeroIs ag 101 (.node [.pv (.sl true 3 [])]):=ZeroIs.agg i_101 rfl rfl rfl
theorem fo_101_0:fOff ag 101 0=0:=by kernel_rfl
theorem fi_101_0:FieldIs ag 101 0 0:=bB Tryz.underlying101 rfl rfl i_99 (by decide)
theorem ft_101_0:fldT ag 101 0=99:=by kernel_rfl
theorem lay_101:LayoutOk ag 101 [.pv (.sl true 3 [])]:=.inr ⟨_,Tryz.underlying101,rfl,fun k f hk=>by match k,hk with | 0,hk=>(obtain rfl:=Option.some.inj hk; exact⟨rfl,_,i_99,rfl⟩) | k+1,hk=>simp at hk⟩
theorem i_103:Tryz.prog.info? 103=some Tryz.t103:=by kernel_rfl
theorem ty_103:TyIs ag 103 false 1:=bf Tryz.underlying103 i_103 rfl rfl
theorem zc_103:zcv ag 8 103=.pv (.lit .nilFunc):=by kernel_rfl
theorem z_103:ZeroIs ag 103 (.pv (.lit .nilFunc)):=bi i_103 rfl rfl rfl rfl rfl
theorem i_133:Tryz.prog.info? 133=some Tryz.t133:=by kernel_rfl
theorem ty_133:TyIs ag 133 false 1:=bf Tryz.underlying133 i_133 rfl rfl
theorem zc_133:zcv ag 8 133=.pv (.sl true 1 []):=by kernel_rfl
theorem z_133:ZeroIs ag 133 (.pv (.sl true 1 [])):=bi i_133 rfl rfl rfl rfl rfl
theorem es_133:eSize ag 133=1:=by kernel_rfl
theorem eb_133:eBytes ag 133=1:=by kernel_rfl
theorem sl_133:SlIs ag 133 1 1:=SlIs.mk' Tryz.underlying133 i_5 rfl rfl rfl rfl (by decide)
theorem by_133:IsBytes ag 133:=⟨_,Tryz.underlying133,Tryz.underlying5⟩
theorem is_133:IsSl ag 133:=⟨_,Tryz.underlying133⟩
theorem el_133:elemOfT ag 133=5:=by kernel_rfl
theorem ze_133:zel ag 133=(.lit (.int .u8 0)):=by kernel_rfl
theorem ez_133:ElemZero ag 133 ((.lit (.int .u8 0))):=ElemZero.mk' Tryz.underlying133 (bi i_5 rfl rfl rfl rfl rfl)
theorem ty_137:TyIs ag 137 true 3:=bf Tryz.underlying137 i_137 rfl rfl
theorem zc_137:zcv ag 8 137=.node [.pv (.lit (.string ⟨#[]⟩)),.node [.pv (.lit (.string ⟨#[]⟩)),.pv (.sl true 2 [])]]:=by kernel_rfl
theorem z_137:ZeroIs ag 137 (.node [.pv (.lit (.string ⟨#[]⟩)),.node [.pv (.lit (.string ⟨#[]⟩)),.pv (.sl true 2 [])]]):=ZeroIs.agg i_137 rfl rfl rfl
theorem fo_137_0:fOff ag 137 0=0:=by kernel_rfl
theorem fi_137_0:FieldIs ag 137 0 0:=bB Tryz.underlying137 rfl rfl i_9 (by decide)
theorem ft_137_0:fldT ag 137 0=9:=by kernel_rfl
theorem fo_137_1:fOff ag 137 1=1:=by kernel_rfl
theorem fi_137_1:FieldIs ag 137 1 1:=bB Tryz.underlying137 rfl rfl i_36 (by decide)
theorem ft_137_1:fldT ag 137 1=36:=by kernel_rfl
theorem lay_137:LayoutOk ag 137 [.pv (.lit (.string ⟨#[]⟩)),.node [.pv (.lit (.string ⟨#[]⟩)),.pv (.sl true 2 [])]]:=.inr ⟨_,Tryz.underlying137,rfl,fun k f hk=>by match k,hk with | 0,hk=>(obtain rfl:=Option.some.inj hk; exact⟨rfl,_,i_9,rfl⟩) | 1,hk=>(obtain rfl:=Option.some.inj hk; exact⟨rfl,_,i_36,rfl⟩) | k+2,hk=>simp at hk⟩
theorem mt_85:MapTy ag 85 36:=⟨9,Tryz.underlying85,Tryz.underlying9⟩
theorem mz_36:∃ i v,Tryz.prog.info? 36=some i∧i.zero=some v∧∀ N w,RepV N w ((Tt.pv false) (Tt.mk (⟨#[]⟩:ByteArray) ([]))) v []:=⟨Tryz.t36,.agg #[.string ⟨#[]⟩,.slice none 0 0],by kernel_rfl,rfl,fun N w=>⟨[.string ⟨#[]⟩,.slice none 0 0],rfl,⟨[.string ⟨#[]⟩],[.slice none 0 0],[],[],rfl,rfl,⟨rfl,rfl,rfl⟩,⟨[.slice none 0 0],[],[],[],rfl,rfl,⟨none,0,rfl,rfl,Nat.le_refl _,Nat.zero_le _,nofun,.inl rfl⟩,⟨rfl,rfl⟩⟩⟩⟩⟩
theorem uk_3:Tryz.prog.underlying 3=some (.int .i64):=Tryz.underlying3
theorem uk_5:Tryz.prog.underlying 5=some (.int .u8):=Tryz.underlying5
theorem uk_9:Tryz.prog.underlying 9=some .string:=Tryz.underlying9
theorem uk_58:Tryz.prog.underlying 58=some (.int .u64):=Tryz.underlying58
attribute [push_cast] ty_3 zc_3 z_3 ty_9 zc_9 z_9 u_9 ty_22 zc_22 z_22 es_22 eb_22 sl_22 is_22 el_22 ze_22 ez_22 ty_24 zc_24 z_24 fo_24_0 fi_24_0 ft_24_0 fo_24_1 fi_24_1 ft_24_1 lay_24 ty_25 zc_25 z_25 es_25 eb_25 sl_25 is_25 el_25 ze_25 ez_25 ty_27 zc_27 z_27 fo_27_0 fi_27_0 ft_27_0 fo_27_1 fi_27_1 ft_27_1 fo_27_2 fi_27_2 ft_27_2 fo_27_3 fi_27_3 ft_27_3 lay_27 ty_28 zc_28 z_28 es_28 eb_28 sl_28 is_28 el_28 ze_28 ez_28 ty_34 zc_34 z_34 es_34 eb_34 sl_34 is_34 el_34 ze_34 ez_34 ty_36 zc_36 z_36 fo_36_0 fi_36_0 ft_36_0 fo_36_1 fi_36_1 ft_36_1 lay_36 ty_37 zc_37 z_37 es_37 eb_37 sl_37 is_37 el_37 ze_37 ez_37 ty_39 zc_39 z_39 fo_39_0 fi_39_0 ft_39_0 fo_39_1 fi_39_1 ft_39_1 fo_39_2 fi_39_2 ft_39_2 fo_39_3 fi_39_3 ft_39_3 lay_39 ty_41 zc_41 z_41 es_41 eb_41 sl_41 is_41 el_41 ze_41 ez_41 ty_5 zc_5 z_5 ty_4 zc_4 z_4 u_4 ty_75 zc_75 z_75 es_75 eb_75 sl_75 is_75 el_75 ze_75 ez_75 mixedT ty_99 zc_99 z_99 es_99 eb_99 sl_99 is_99 el_99 ze_99 ez_99 ty_101 zc_101 z_101 fo_101_0 fi_101_0 ft_101_0 lay_101 ty_137 zc_137 z_137 fo_137_0 fi_137_0 ft_137_0 fo_137_1 fi_137_1 ft_137_1 lay_137 ty_58 zc_58 z_58 uk_3 uk_58 ty_31 zc_31 z_31 es_31 eb_31 sl_31 is_31 el_31 ze_31 ez_31 ty_84 zc_84 z_84 ty_67 zc_67 z_67 ty_85 ty_103 zc_103 z_103 ty_68 zc_68 z_68 ty_65 zc_65 z_65 ty_133 zc_133 z_133 es_133 eb_133 sl_133 by_133 is_133 el_133 ze_133 ez_133 uk_5 uk_9
end Go.Proofs.YtfchaodlnddkpaaGreat
