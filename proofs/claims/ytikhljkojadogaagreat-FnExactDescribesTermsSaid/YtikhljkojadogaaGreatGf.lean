/- Lemmas of the proof; each says what it shows. -/
import Derived.Test.YtikhljkojadogaaGreatGty
import Derived.Test.YtikhljkojadogaaGreatChecked
import Derived.KernelRfl
set_option linter.unusedSimpArgs false
set_option linter.unusedVariables false
set_option linter.defProp false
set_option maxRecDepth 4000
namespace Go.Proofs.YtikhljkojadogaaGreat
open Go.Av
open Tryz renaming prog→ah
open TyIs renaming mk'→aZ
open ZeroIs renaming one→ba
theorem mixed:Tryz.prog.follows .mixedOrders=true:=by kernel_rfl
theorem mT_:(Tryz.prog.follows .mixedOrders=true)=True:=eq_true mixed
theorem i_3:Tryz.prog.info? 3=some Tryz.t3:=by kernel_rfl
theorem ty_3:TyIs ah 3 false 1:=aZ Tryz.underlying3 i_3 rfl rfl
theorem zc_3:zcv ah 8 3=.pv (.lit (.int .i64 0)):=by kernel_rfl
theorem z_3:ZeroIs ah 3 (.pv (.lit (.int .i64 0))):=ba i_3 rfl rfl rfl rfl rfl
theorem i_4:Tryz.prog.info? 4=some Tryz.t4:=by kernel_rfl
theorem ty_4:TyIs ah 4 false 1:=aZ Tryz.underlying4 i_4 rfl rfl
theorem zc_4:zcv ah 8 4=.pv (.lit (.bool false)):=by kernel_rfl
theorem z_4:ZeroIs ah 4 (.pv (.lit (.bool false))):=ba i_4 rfl rfl rfl rfl rfl
theorem u_4:(Tryz.prog.underlying 4=some .bool)=True:=eq_true Tryz.underlying4
theorem i_5:Tryz.prog.info? 5=some Tryz.t5:=by kernel_rfl
theorem ty_5:TyIs ah 5 false 1:=aZ Tryz.underlying5 i_5 rfl rfl
theorem zc_5:zcv ah 8 5=.pv (.lit (.int .u8 0)):=by kernel_rfl
theorem z_5:ZeroIs ah 5 (.pv (.lit (.int .u8 0))):=ba i_5 rfl rfl rfl rfl rfl
theorem i_9:Tryz.prog.info? 9=some Tryz.t9:=by kernel_rfl
theorem ty_9:TyIs ah 9 false 1:=aZ Tryz.underlying9 i_9 rfl rfl
theorem zc_9:zcv ah 8 9=.pv (.lit (.string ⟨#[]⟩)):=by kernel_rfl
theorem z_9:ZeroIs ah 9 (.pv (.lit (.string ⟨#[]⟩))):=ba i_9 rfl rfl rfl rfl rfl
theorem u_9:(Tryz.prog.underlying 9=some .string)=True:=eq_true Tryz.underlying9
theorem i_22:Tryz.prog.info? 22=some Tryz.t22:=by kernel_rfl
theorem ty_22:TyIs ah 22 false 1:=aZ Tryz.underlying22 i_22 rfl rfl
theorem zc_22:zcv ah 8 22=.pv (.sl true 2 []):=by kernel_rfl
theorem z_22:ZeroIs ah 22 (.pv (.sl true 2 [])):=ba i_22 rfl rfl rfl rfl rfl
theorem i_44:Tryz.prog.info? 44=some Tryz.t44:=by kernel_rfl
theorem es_22:eSize ah 22=2:=by kernel_rfl
theorem eb_22:eB_ ah 22=40:=by kernel_rfl
theorem sl_22:SlIs ah 22 2 40:=SlIs.mk' Tryz.underlying22 i_44 rfl rfl rfl rfl (by decide)
theorem is_22:IsSl ah 22:=⟨_,Tryz.underlying22⟩
theorem el_22:eOT_ ah 22=44:=by kernel_rfl
theorem ze_22:zel ah 22=.agg [(.lit (.string ⟨#[]⟩)),(.sl true 2 [])]:=by kernel_rfl
theorem ez_22:ElemZero ah 22 (.agg [(.lit (.string ⟨#[]⟩)),(.sl true 2 [])]):=ElemZero.mk' Tryz.underlying22 (ZeroIs.agg i_44 rfl rfl rfl)
theorem i_24:Tryz.prog.info? 24=some Tryz.t24:=by kernel_rfl
theorem ty_24:TyIs ah 24 true 2:=aZ Tryz.underlying24 i_24 rfl rfl
theorem zc_24:zcv ah 8 24=.node [.pv (.sl true 2 []),.pv (.sl true 2 [])]:=by kernel_rfl
theorem z_24:ZeroIs ah 24 (.node [.pv (.sl true 2 []),.pv (.sl true 2 [])]):=ZeroIs.agg i_24 rfl rfl rfl
theorem f20_1:fOff ah 24 0=0:=by kernel_rfl
theorem f20_2:FieldIs ah 24 0 0:=FieldIs.mk' Tryz.underlying24 rfl rfl i_22 (by decide)
theorem f20_:fldT ah 24 0=22:=by kernel_rfl
theorem f21_1:fOff ah 24 1=1:=by kernel_rfl
theorem f21_2:FieldIs ah 24 1 1:=FieldIs.mk' Tryz.underlying24 rfl rfl i_22 (by decide)
theorem f21_:fldT ah 24 1=22:=by kernel_rfl
theorem l2_:LO_ ah 24 [.pv (.sl true 2 []),.pv (.sl true 2 [])]:=.inr ⟨_,Tryz.underlying24,rfl,fun k f hk=>by match k,hk with | 0,hk=>(obtain rfl:=Option.some.inj hk; exact⟨rfl,_,i_22,rfl⟩) | 1,hk=>(obtain rfl:=Option.some.inj hk; exact⟨rfl,_,i_22,rfl⟩) | k+2,hk=>simp at hk⟩
theorem i_29:Tryz.prog.info? 29=some Tryz.t29:=by kernel_rfl
theorem ty_29:TyIs ah 29 false 1:=aZ Tryz.underlying29 i_29 rfl rfl
theorem zc_29:zcv ah 8 29=.pv (.sl true 2 []):=by kernel_rfl
theorem z_29:ZeroIs ah 29 (.pv (.sl true 2 [])):=ba i_29 rfl rfl rfl rfl rfl
theorem i_49:Tryz.prog.info? 49=some Tryz.t49:=by kernel_rfl
theorem es_29:eSize ah 29=2:=by kernel_rfl
theorem eb_29:eB_ ah 29=40:=by kernel_rfl
theorem sl_29:SlIs ah 29 2 40:=SlIs.mk' Tryz.underlying29 i_49 rfl rfl rfl rfl (by decide)
theorem is_29:IsSl ah 29:=⟨_,Tryz.underlying29⟩
theorem el_29:eOT_ ah 29=49:=by kernel_rfl
theorem ze_29:zel ah 29=.agg [(.lit (.string ⟨#[]⟩)),(.sl true 2 [])]:=by kernel_rfl
theorem ez_29:ElemZero ah 29 (.agg [(.lit (.string ⟨#[]⟩)),(.sl true 2 [])]):=ElemZero.mk' Tryz.underlying29 (ZeroIs.agg i_49 rfl rfl rfl)
theorem i_31:Tryz.prog.info? 31=some Tryz.t31:=by kernel_rfl
theorem ty_31:TyIs ah 31 true 2:=aZ Tryz.underlying31 i_31 rfl rfl
theorem zc_31:zcv ah 8 31=.node [.pv (.sl true 2 []),.pv (.sl true 2 [])]:=by kernel_rfl
theorem z_31:ZeroIs ah 31 (.node [.pv (.sl true 2 []),.pv (.sl true 2 [])]):=ZeroIs.agg i_31 rfl rfl rfl
theorem f30_1:fOff ah 31 0=0:=by kernel_rfl
theorem f30_2:FieldIs ah 31 0 0:=FieldIs.mk' Tryz.underlying31 rfl rfl i_29 (by decide)
theorem f30_:fldT ah 31 0=29:=by kernel_rfl
theorem f31_1:fOff ah 31 1=1:=by kernel_rfl
theorem f31_2:FieldIs ah 31 1 1:=FieldIs.mk' Tryz.underlying31 rfl rfl i_29 (by decide)
theorem f31_:fldT ah 31 1=29:=by kernel_rfl
theorem l3_:LO_ ah 31 [.pv (.sl true 2 []),.pv (.sl true 2 [])]:=.inr ⟨_,Tryz.underlying31,rfl,fun k f hk=>by match k,hk with | 0,hk=>(obtain rfl:=Option.some.inj hk; exact⟨rfl,_,i_29,rfl⟩) | 1,hk=>(obtain rfl:=Option.some.inj hk; exact⟨rfl,_,i_29,rfl⟩) | k+2,hk=>simp at hk⟩
theorem ty_44:TyIs ah 44 true 2:=aZ Tryz.underlying44 i_44 rfl rfl
theorem zc_44:zcv ah 8 44=.node [.pv (.lit (.string ⟨#[]⟩)),.pv (.sl true 2 [])]:=by kernel_rfl
theorem z_44:ZeroIs ah 44 (.node [.pv (.lit (.string ⟨#[]⟩)),.pv (.sl true 2 [])]):=ZeroIs.agg i_44 rfl rfl rfl
theorem f40_3:fOff ah 44 0=0:=by kernel_rfl
theorem f40_5:FieldIs ah 44 0 0:=FieldIs.mk' Tryz.underlying44 rfl rfl i_9 (by decide)
theorem f40_1:fldT ah 44 0=9:=by kernel_rfl
theorem f41_3:fOff ah 44 1=1:=by kernel_rfl
theorem f41_5:FieldIs ah 44 1 1:=FieldIs.mk' Tryz.underlying44 rfl rfl i_22 (by decide)
theorem f41_1:fldT ah 44 1=22:=by kernel_rfl
theorem l4_1:LO_ ah 44 [.pv (.lit (.string ⟨#[]⟩)),.pv (.sl true 2 [])]:=.inr ⟨_,Tryz.underlying44,rfl,fun k f hk=>by match k,hk with | 0,hk=>(obtain rfl:=Option.some.inj hk; exact⟨rfl,_,i_9,rfl⟩) | 1,hk=>(obtain rfl:=Option.some.inj hk; exact⟨rfl,_,i_22,rfl⟩) | k+2,hk=>simp at hk⟩
theorem ty_49:TyIs ah 49 true 2:=aZ Tryz.underlying49 i_49 rfl rfl
theorem zc_49:zcv ah 8 49=.node [.pv (.lit (.string ⟨#[]⟩)),.pv (.sl true 2 [])]:=by kernel_rfl
theorem z_49:ZeroIs ah 49 (.node [.pv (.lit (.string ⟨#[]⟩)),.pv (.sl true 2 [])]):=ZeroIs.agg i_49 rfl rfl rfl
theorem f40_2:fOff ah 49 0=0:=by kernel_rfl
theorem f40_4:FieldIs ah 49 0 0:=FieldIs.mk' Tryz.underlying49 rfl rfl i_9 (by decide)
theorem f40_:fldT ah 49 0=9:=by kernel_rfl
theorem f41_2:fOff ah 49 1=1:=by kernel_rfl
theorem f41_4:FieldIs ah 49 1 1:=FieldIs.mk' Tryz.underlying49 rfl rfl i_29 (by decide)
theorem f41_:fldT ah 49 1=29:=by kernel_rfl
theorem l4_:LO_ ah 49 [.pv (.lit (.string ⟨#[]⟩)),.pv (.sl true 2 [])]:=.inr ⟨_,Tryz.underlying49,rfl,fun k f hk=>by match k,hk with | 0,hk=>(obtain rfl:=Option.some.inj hk; exact⟨rfl,_,i_9,rfl⟩) | 1,hk=>(obtain rfl:=Option.some.inj hk; exact⟨rfl,_,i_29,rfl⟩) | k+2,hk=>simp at hk⟩
theorem i_52:Tryz.prog.info? 52=some Tryz.t52:=by kernel_rfl
theorem ty_52:TyIs ah 52 false 1:=aZ Tryz.underlying52 i_52 rfl rfl
theorem zc_52:zcv ah 8 52=.pv (.lit .nilFunc):=by kernel_rfl
theorem z_52:ZeroIs ah 52 (.pv (.lit .nilFunc)):=ba i_52 rfl rfl rfl rfl rfl
theorem i_54:Tryz.prog.info? 54=some Tryz.t54:=by kernel_rfl
theorem ty_54:TyIs ah 54 false 1:=aZ Tryz.underlying54 i_54 rfl rfl
theorem zc_54:zcv ah 8 54=.pv (.lit .nilFunc):=by kernel_rfl
theorem z_54:ZeroIs ah 54 (.pv (.lit .nilFunc)):=ba i_54 rfl rfl rfl rfl rfl
theorem i_56:Tryz.prog.info? 56=some Tryz.t56:=by kernel_rfl
theorem ty_56:TyIs ah 56 false 1:=aZ Tryz.underlying56 i_56 rfl rfl
theorem zc_56:zcv ah 8 56=.pv (.lit .nilFunc):=by kernel_rfl
theorem z_56:ZeroIs ah 56 (.pv (.lit .nilFunc)):=ba i_56 rfl rfl rfl rfl rfl
theorem i_58:Tryz.prog.info? 58=some Tryz.t58:=by kernel_rfl
theorem ty_58:TyIs ah 58 false 1:=aZ Tryz.underlying58 i_58 rfl rfl
theorem zc_58:zcv ah 8 58=.pv (.sl true 1 []):=by kernel_rfl
theorem z_58:ZeroIs ah 58 (.pv (.sl true 1 [])):=ba i_58 rfl rfl rfl rfl rfl
theorem es_58:eSize ah 58=1:=by kernel_rfl
theorem eb_58:eB_ ah 58=16:=by kernel_rfl
theorem sl_58:SlIs ah 58 1 16:=SlIs.mk' Tryz.underlying58 i_9 rfl rfl rfl rfl (by decide)
theorem is_58:IsSl ah 58:=⟨_,Tryz.underlying58⟩
theorem el_58:eOT_ ah 58=9:=by kernel_rfl
theorem ze_58:zel ah 58=(.lit (.string ⟨#[]⟩)):=by kernel_rfl
theorem ez_58:ElemZero ah 58 ((.lit (.string ⟨#[]⟩))):=ElemZero.mk' Tryz.underlying58 (ba i_9 rfl rfl rfl rfl rfl)
theorem i_65:Tryz.prog.info? 65=some Tryz.t65:=by kernel_rfl
theorem ty_65:TyIs ah 65 false 1:=aZ Tryz.underlying65 i_65 rfl rfl
theorem zc_65:zcv ah 8 65=.pv (.lit (.int .u64 0)):=by kernel_rfl
theorem z_65:ZeroIs ah 65 (.pv (.lit (.int .u64 0))):=ba i_65 rfl rfl rfl rfl rfl
theorem i_74:Tryz.prog.info? 74=some Tryz.t74:=by kernel_rfl
theorem ty_74:TyIs ah 74 false 1:=aZ Tryz.underlying74 i_74 rfl rfl
theorem zc_74:zcv ah 8 74=.pv (.sl true 3 []):=by kernel_rfl
theorem z_74:ZeroIs ah 74 (.pv (.sl true 3 [])):=ba i_74 rfl rfl rfl rfl rfl
theorem i_104:Tryz.prog.info? 104=some Tryz.t104:=by kernel_rfl
theorem es_74:eSize ah 74=3:=by kernel_rfl
theorem eb_74:eB_ ah 74=56:=by kernel_rfl
theorem sl_74:SlIs ah 74 3 56:=SlIs.mk' Tryz.underlying74 i_104 rfl rfl rfl rfl (by decide)
theorem is_74:IsSl ah 74:=⟨_,Tryz.underlying74⟩
theorem el_74:eOT_ ah 74=104:=by kernel_rfl
theorem ze_74:zel ah 74=.agg [(.lit (.string ⟨#[]⟩)),.agg [(.lit (.string ⟨#[]⟩)),(.sl true 2 [])]]:=by kernel_rfl
theorem ez_74:ElemZero ah 74 (.agg [(.lit (.string ⟨#[]⟩)),.agg [(.lit (.string ⟨#[]⟩)),(.sl true 2 [])]]):=ElemZero.mk' Tryz.underlying74 (ZeroIs.agg i_104 rfl rfl rfl)
theorem i_76:Tryz.prog.info? 76=some Tryz.t76:=by kernel_rfl
theorem ty_76:TyIs ah 76 true 1:=aZ Tryz.underlying76 i_76 rfl rfl
theorem zc_76:zcv ah 8 76=.node [.pv (.sl true 3 [])]:=by kernel_rfl
theorem z_76:ZeroIs ah 76 (.node [.pv (.sl true 3 [])]):=ZeroIs.agg i_76 rfl rfl rfl
theorem f70_1:fOff ah 76 0=0:=by kernel_rfl
theorem f70_2:FieldIs ah 76 0 0:=FieldIs.mk' Tryz.underlying76 rfl rfl i_74 (by decide)
theorem f70_:fldT ah 76 0=74:=by kernel_rfl
theorem l7_:LO_ ah 76 [.pv (.sl true 3 [])]:=.inr ⟨_,Tryz.underlying76,rfl,fun k f hk=>by match k,hk with | 0,hk=>(obtain rfl:=Option.some.inj hk; exact⟨rfl,_,i_74,rfl⟩) | k+1,hk=>simp at hk⟩
theorem i_78:Tryz.prog.info? 78=some Tryz.t78:=by kernel_rfl
theorem ty_78:TyIs ah 78 false 1:=aZ Tryz.underlying78 i_78 rfl rfl
theorem zc_78:zcv ah 8 78=.pv (.lit .nilFunc):=by kernel_rfl
theorem z_78:ZeroIs ah 78 (.pv (.lit .nilFunc)):=ba i_78 rfl rfl rfl rfl rfl
theorem i_93:Tryz.prog.info? 93=some Tryz.t93:=by kernel_rfl
theorem ty_93:TyIs ah 93 false 1:=aZ Tryz.underlying93 i_93 rfl rfl
theorem zc_93:zcv ah 8 93=.pv (.sl true 1 []):=by kernel_rfl
theorem z_93:ZeroIs ah 93 (.pv (.sl true 1 [])):=ba i_93 rfl rfl rfl rfl rfl
theorem es_93:eSize ah 93=1:=by kernel_rfl
theorem eb_93:eB_ ah 93=8:=by kernel_rfl
theorem sl_93:SlIs ah 93 1 8:=SlIs.mk' Tryz.underlying93 i_3 rfl rfl rfl rfl (by decide)
theorem is_93:IsSl ah 93:=⟨_,Tryz.underlying93⟩
theorem el_93:eOT_ ah 93=3:=by kernel_rfl
theorem ze_93:zel ah 93=(.lit (.int .i64 0)):=by kernel_rfl
theorem ez_93:ElemZero ah 93 ((.lit (.int .i64 0))):=ElemZero.mk' Tryz.underlying93 (ba i_3 rfl rfl rfl rfl rfl)
theorem i_98:Tryz.prog.info? 98=some Tryz.t98:=by kernel_rfl
theorem ty_98:TyIs ah 98 false 1:=aZ Tryz.underlying98 i_98 rfl rfl
theorem t1_:TyIs ah 104 true 3:=aZ Tryz.underlying104 i_104 rfl rfl
theorem z1_:zcv ah 8 104=.node [.pv (.lit (.string ⟨#[]⟩)),.node [.pv (.lit (.string ⟨#[]⟩)),.pv (.sl true 2 [])]]:=by kernel_rfl
theorem z_104:ZeroIs ah 104 (.node [.pv (.lit (.string ⟨#[]⟩)),.node [.pv (.lit (.string ⟨#[]⟩)),.pv (.sl true 2 [])]]):=ZeroIs.agg i_104 rfl rfl rfl
theorem f10_1:fOff ah 104 0=0:=by kernel_rfl
theorem f10_2:FieldIs ah 104 0 0:=FieldIs.mk' Tryz.underlying104 rfl rfl i_9 (by decide)
theorem f10_:fldT ah 104 0=9:=by kernel_rfl
theorem f11_1:fOff ah 104 1=1:=by kernel_rfl
theorem f11_2:FieldIs ah 104 1 1:=FieldIs.mk' Tryz.underlying104 rfl rfl i_49 (by decide)
theorem f11_:fldT ah 104 1=49:=by kernel_rfl
theorem l1_:LO_ ah 104 [.pv (.lit (.string ⟨#[]⟩)),.node [.pv (.lit (.string ⟨#[]⟩)),.pv (.sl true 2 [])]]:=.inr ⟨_,Tryz.underlying104,rfl,fun k f hk=>by match k,hk with | 0,hk=>(obtain rfl:=Option.some.inj hk; exact⟨rfl,_,i_9,rfl⟩) | 1,hk=>(obtain rfl:=Option.some.inj hk; exact⟨rfl,_,i_49,rfl⟩) | k+2,hk=>simp at hk⟩
theorem mt_98:MapTy ah 98 49:=⟨9,Tryz.underlying98,Tryz.underlying9⟩
theorem mz_49:∃ i v,Tryz.prog.info? 49=some i∧i.zero=some v∧∀ N w,RepV N w ((Tt.pv false) (Tt.mk (⟨#[]⟩:ByteArray) ([]))) v []:=⟨Tryz.t49,.agg #[.string ⟨#[]⟩,.slice none 0 0],by kernel_rfl,rfl,fun N w=>⟨[.string ⟨#[]⟩,.slice none 0 0],rfl,⟨[.string ⟨#[]⟩],[.slice none 0 0],[],[],rfl,rfl,⟨rfl,rfl,rfl⟩,⟨[.slice none 0 0],[],[],[],rfl,rfl,⟨none,0,rfl,rfl,Nat.le_refl _,Nat.zero_le _,nofun,.inl rfl⟩,⟨rfl,rfl⟩⟩⟩⟩⟩
theorem uk_3:Tryz.prog.underlying 3=some (.int .i64):=Tryz.underlying3
theorem uk_65:Tryz.prog.underlying 65=some (.int .u64):=Tryz.underlying65
attribute [push_cast] ty_3 zc_3 z_3 ty_22 zc_22 z_22 es_22 eb_22 sl_22 is_22 el_22 ze_22 ez_22 ty_44 zc_44 z_44 f40_3 f40_5 f40_1 f41_3 f41_5 f41_1 l4_1 ty_9 zc_9 z_9 u_9 ty_24 zc_24 z_24 f20_1 f20_2 f20_ f21_1 f21_2 f21_ l2_ ty_29 zc_29 z_29 es_29 eb_29 sl_29 is_29 el_29 ze_29 ez_29 ty_49 zc_49 z_49 f40_2 f40_4 f40_ f41_2 f41_4 f41_ l4_ ty_31 zc_31 z_31 f30_1 f30_2 f30_ f31_1 f31_2 f31_ l3_ ty_5 zc_5 z_5 ty_4 zc_4 z_4 u_4 ty_58 zc_58 z_58 es_58 eb_58 sl_58 is_58 el_58 ze_58 ez_58 mT_ ty_74 zc_74 z_74 es_74 eb_74 sl_74 is_74 el_74 ze_74 ez_74 ty_76 zc_76 z_76 f70_1 f70_2 f70_ l7_ t1_ z1_ z_104 f10_1 f10_2 f10_ f11_1 f11_2 f11_ l1_ ty_52 zc_52 z_52 ty_78 zc_78 z_78 ty_93 zc_93 z_93 es_93 eb_93 sl_93 is_93 el_93 ze_93 ez_93 ty_54 zc_54 z_54 ty_56 zc_56 z_56 ty_98 ty_65 zc_65 z_65 uk_3 uk_65
end Go.Proofs.YtikhljkojadogaaGreat
