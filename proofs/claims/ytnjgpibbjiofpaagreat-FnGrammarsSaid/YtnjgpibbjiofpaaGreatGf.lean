/- Lemmas of the proof; each says what it shows. -/
import Derived.Test.YtnjgpibbjiofpaaGreatGty
import Derived.Test.YtnjgpibbjiofpaaGreatChecked
import Derived.KernelRfl
set_option linter.unusedSimpArgs false
set_option linter.unusedVariables false
set_option linter.defProp false
set_option maxRecDepth 4000
namespace Go.Proofs.YtnjgpibbjiofpaaGreat
open Go.Av
open FieldIs renaming mk'→bG
open Tryz renaming prog→ah
open TyIs renaming mk'→bm
open ZeroIs renaming one→bB,agg→bN
theorem mixed:Tryz.prog.follows .mixedOrders=true:=by kernel_rfl
theorem mixedT:(Tryz.prog.follows .mixedOrders=true)=True:=eq_true mixed
theorem i_3:Tryz.prog.info? 3=some Tryz.t3:=by kernel_rfl
theorem ty_3:TyIs ah 3 false 1:=bm Tryz.underlying3 i_3 rfl rfl
theorem zc_3:zcv ah 8 3=.pv (.lit (.int .i64 0)):=by kernel_rfl
theorem z_3:ZeroIs ah 3 (.pv (.lit (.int .i64 0))):=bB i_3 rfl rfl rfl rfl rfl
theorem i_4:Tryz.prog.info? 4=some Tryz.t4:=by kernel_rfl
theorem ty_4:TyIs ah 4 false 1:=bm Tryz.underlying4 i_4 rfl rfl
theorem zc_4:zcv ah 8 4=.pv (.lit (.bool false)):=by kernel_rfl
theorem z_4:ZeroIs ah 4 (.pv (.lit (.bool false))):=bB i_4 rfl rfl rfl rfl rfl
theorem u_4:(Tryz.prog.underlying 4=some .bool)=True:=eq_true Tryz.underlying4
theorem i_5:Tryz.prog.info? 5=some Tryz.t5:=by kernel_rfl
theorem ty_5:TyIs ah 5 false 1:=bm Tryz.underlying5 i_5 rfl rfl
theorem zc_5:zcv ah 8 5=.pv (.lit (.int .u8 0)):=by kernel_rfl
theorem z_5:ZeroIs ah 5 (.pv (.lit (.int .u8 0))):=bB i_5 rfl rfl rfl rfl rfl
theorem i_9:Tryz.prog.info? 9=some Tryz.t9:=by kernel_rfl
theorem ty_9:TyIs ah 9 false 1:=bm Tryz.underlying9 i_9 rfl rfl
theorem zc_9:zcv ah 8 9=.pv (.lit (.string ⟨#[]⟩)):=by kernel_rfl
theorem z_9:ZeroIs ah 9 (.pv (.lit (.string ⟨#[]⟩))):=bB i_9 rfl rfl rfl rfl rfl
theorem u_9:(Tryz.prog.underlying 9=some .string)=True:=eq_true Tryz.underlying9
theorem i_26:Tryz.prog.info? 26=some Tryz.t26:=by kernel_rfl
theorem ty_26:TyIs ah 26 false 1:=bm Tryz.underlying26 i_26 rfl rfl
theorem zc_26:zcv ah 8 26=.pv (.sl true 2 []):=by kernel_rfl
theorem z_26:ZeroIs ah 26 (.pv (.sl true 2 [])):=bB i_26 rfl rfl rfl rfl rfl
theorem i_43:Tryz.prog.info? 43=some Tryz.t43:=by kernel_rfl
theorem es_26:eSize ah 26=2:=by kernel_rfl
theorem eb_26:eBytes ah 26=40:=by kernel_rfl
theorem sl_26:SlIs ah 26 2 40:=SlIs.mk' Tryz.underlying26 i_43 rfl rfl rfl rfl (by decide)
theorem is_26:IsSl ah 26:=⟨_,Tryz.underlying26⟩
theorem el_26:elemOfT ah 26=43:=by kernel_rfl
theorem ze_26:zel ah 26=.agg [(.lit (.string ⟨#[]⟩)),(.sl true 2 [])]:=by kernel_rfl
theorem ez_26:ElemZero ah 26 (.agg [(.lit (.string ⟨#[]⟩)),(.sl true 2 [])]):=ElemZero.mk' Tryz.underlying26 (bN i_43 rfl rfl rfl)
theorem i_31:Tryz.prog.info? 31=some Tryz.t31:=by kernel_rfl
theorem ty_31:TyIs ah 31 true 2:=bm Tryz.underlying31 i_31 rfl rfl
theorem zc_31:zcv ah 8 31=.node [.pv (.sl true 2 []),.pv (.sl true 2 [])]:=by kernel_rfl
theorem z_31:ZeroIs ah 31 (.node [.pv (.sl true 2 []),.pv (.sl true 2 [])]):=bN i_31 rfl rfl rfl
theorem fo_31_0:fOff ah 31 0=0:=by kernel_rfl
theorem fi_31_0:FieldIs ah 31 0 0:=bG Tryz.underlying31 rfl rfl i_26 (by decide)
theorem ft_31_0:fldT ah 31 0=26:=by kernel_rfl
theorem fo_31_1:fOff ah 31 1=1:=by kernel_rfl
theorem fi_31_1:FieldIs ah 31 1 1:=bG Tryz.underlying31 rfl rfl i_26 (by decide)
theorem ft_31_1:fldT ah 31 1=26:=by kernel_rfl
theorem lay_31:LayoutOk ah 31 [.pv (.sl true 2 []),.pv (.sl true 2 [])]:=.inr ⟨_,Tryz.underlying31,rfl,fun k f hk=>by match k,hk with | 0,hk=>(obtain rfl:=Option.some.inj hk; exact⟨rfl,_,i_26,rfl⟩) | 1,hk=>(obtain rfl:=Option.some.inj hk; exact⟨rfl,_,i_26,rfl⟩) | k+2,hk=>simp at hk⟩
theorem i_37:Tryz.prog.info? 37=some Tryz.t37:=by kernel_rfl
theorem ty_37:TyIs ah 37 false 1:=bm Tryz.underlying37 i_37 rfl rfl
theorem zc_37:zcv ah 8 37=.pv (.sl true 1 []):=by kernel_rfl
theorem z_37:ZeroIs ah 37 (.pv (.sl true 1 [])):=bB i_37 rfl rfl rfl rfl rfl
theorem es_37:eSize ah 37=1:=by kernel_rfl
theorem eb_37:eBytes ah 37=1:=by kernel_rfl
theorem sl_37:SlIs ah 37 1 1:=SlIs.mk' Tryz.underlying37 i_5 rfl rfl rfl rfl (by decide)
theorem by_37:IsBytes ah 37:=⟨_,Tryz.underlying37,Tryz.underlying5⟩
theorem is_37:IsSl ah 37:=⟨_,Tryz.underlying37⟩
theorem el_37:elemOfT ah 37=5:=by kernel_rfl
theorem ze_37:zel ah 37=(.lit (.int .u8 0)):=by kernel_rfl
theorem ez_37:ElemZero ah 37 ((.lit (.int .u8 0))):=ElemZero.mk' Tryz.underlying37 (bB i_5 rfl rfl rfl rfl rfl)
theorem ty_43:TyIs ah 43 true 2:=bm Tryz.underlying43 i_43 rfl rfl
theorem zc_43:zcv ah 8 43=.node [.pv (.lit (.string ⟨#[]⟩)),.pv (.sl true 2 [])]:=by kernel_rfl
theorem z_43:ZeroIs ah 43 (.node [.pv (.lit (.string ⟨#[]⟩)),.pv (.sl true 2 [])]):=bN i_43 rfl rfl rfl
theorem fo_43_0:fOff ah 43 0=0:=by kernel_rfl
theorem fi_43_0:FieldIs ah 43 0 0:=bG Tryz.underlying43 rfl rfl i_9 (by decide)
theorem ft_43_0:fldT ah 43 0=9:=by kernel_rfl
theorem fo_43_1:fOff ah 43 1=1:=by kernel_rfl
theorem fi_43_1:FieldIs ah 43 1 1:=bG Tryz.underlying43 rfl rfl i_26 (by decide)
theorem ft_43_1:fldT ah 43 1=26:=by kernel_rfl
theorem lay_43:LayoutOk ah 43 [.pv (.lit (.string ⟨#[]⟩)),.pv (.sl true 2 [])]:=.inr ⟨_,Tryz.underlying43,rfl,fun k f hk=>by match k,hk with | 0,hk=>(obtain rfl:=Option.some.inj hk; exact⟨rfl,_,i_9,rfl⟩) | 1,hk=>(obtain rfl:=Option.some.inj hk; exact⟨rfl,_,i_26,rfl⟩) | k+2,hk=>simp at hk⟩
theorem i_50:Tryz.prog.info? 50=some Tryz.t50:=by kernel_rfl
theorem ty_50:TyIs ah 50 true 3:=bm Tryz.underlying50 i_50 rfl rfl
theorem zc_50:zcv ah 8 50=.node [.pv (.lit (.string ⟨#[]⟩)),.node [.pv (.lit (.string ⟨#[]⟩)),.pv (.sl true 2 [])]]:=by kernel_rfl
theorem z_50:ZeroIs ah 50 (.node [.pv (.lit (.string ⟨#[]⟩)),.node [.pv (.lit (.string ⟨#[]⟩)),.pv (.sl true 2 [])]]):=bN i_50 rfl rfl rfl
theorem fo_50_0:fOff ah 50 0=0:=by kernel_rfl
theorem fi_50_0:FieldIs ah 50 0 0:=bG Tryz.underlying50 rfl rfl i_9 (by decide)
theorem ft_50_0:fldT ah 50 0=9:=by kernel_rfl
theorem fo_50_1:fOff ah 50 1=1:=by kernel_rfl
theorem fi_50_1:FieldIs ah 50 1 1:=bG Tryz.underlying50 rfl rfl i_43 (by decide)
theorem ft_50_1:fldT ah 50 1=43:=by kernel_rfl
theorem lay_50:LayoutOk ah 50 [.pv (.lit (.string ⟨#[]⟩)),.node [.pv (.lit (.string ⟨#[]⟩)),.pv (.sl true 2 [])]]:=.inr ⟨_,Tryz.underlying50,rfl,fun k f hk=>by match k,hk with | 0,hk=>(obtain rfl:=Option.some.inj hk; exact⟨rfl,_,i_9,rfl⟩) | 1,hk=>(obtain rfl:=Option.some.inj hk; exact⟨rfl,_,i_43,rfl⟩) | k+2,hk=>simp at hk⟩
theorem i_51:Tryz.prog.info? 51=some Tryz.t51:=by kernel_rfl
theorem ty_51:TyIs ah 51 false 1:=bm Tryz.underlying51 i_51 rfl rfl
theorem zc_51:zcv ah 8 51=.pv (.sl true 3 []):=by kernel_rfl
theorem z_51:ZeroIs ah 51 (.pv (.sl true 3 [])):=bB i_51 rfl rfl rfl rfl rfl
theorem es_51:eSize ah 51=3:=by kernel_rfl
theorem eb_51:eBytes ah 51=56:=by kernel_rfl
theorem sl_51:SlIs ah 51 3 56:=SlIs.mk' Tryz.underlying51 i_50 rfl rfl rfl rfl (by decide)
theorem is_51:IsSl ah 51:=⟨_,Tryz.underlying51⟩
theorem el_51:elemOfT ah 51=50:=by kernel_rfl
theorem ze_51:zel ah 51=.agg [(.lit (.string ⟨#[]⟩)),.agg [(.lit (.string ⟨#[]⟩)),(.sl true 2 [])]]:=by kernel_rfl
theorem ez_51:ElemZero ah 51 (.agg [(.lit (.string ⟨#[]⟩)),.agg [(.lit (.string ⟨#[]⟩)),(.sl true 2 [])]]):=ElemZero.mk' Tryz.underlying51 (bN i_50 rfl rfl rfl)
theorem i_53:Tryz.prog.info? 53=some Tryz.t53:=by kernel_rfl
theorem ty_53:TyIs ah 53 true 1:=bm Tryz.underlying53 i_53 rfl rfl
theorem zc_53:zcv ah 8 53=.node [.pv (.sl true 3 [])]:=by kernel_rfl
theorem z_53:ZeroIs ah 53 (.node [.pv (.sl true 3 [])]):=bN i_53 rfl rfl rfl
theorem fo_53_0:fOff ah 53 0=0:=by kernel_rfl
theorem fi_53_0:FieldIs ah 53 0 0:=bG Tryz.underlying53 rfl rfl i_51 (by decide)
theorem ft_53_0:fldT ah 53 0=51:=by kernel_rfl
theorem lay_53:LayoutOk ah 53 [.pv (.sl true 3 [])]:=.inr ⟨_,Tryz.underlying53,rfl,fun k f hk=>by match k,hk with | 0,hk=>(obtain rfl:=Option.some.inj hk; exact⟨rfl,_,i_51,rfl⟩) | k+1,hk=>simp at hk⟩
theorem i_54:Tryz.prog.info? 54=some Tryz.t54:=by kernel_rfl
theorem ty_54:TyIs ah 54 false 1:=bm Tryz.underlying54 i_54 rfl rfl
theorem zc_54:zcv ah 8 54=.pv (.lit .nilFunc):=by kernel_rfl
theorem z_54:ZeroIs ah 54 (.pv (.lit .nilFunc)):=bB i_54 rfl rfl rfl rfl rfl
theorem i_61:Tryz.prog.info? 61=some Tryz.t61:=by kernel_rfl
theorem ty_61:TyIs ah 61 false 1:=bm Tryz.underlying61 i_61 rfl rfl
theorem zc_61:zcv ah 8 61=.pv (.lit .nilFunc):=by kernel_rfl
theorem z_61:ZeroIs ah 61 (.pv (.lit .nilFunc)):=bB i_61 rfl rfl rfl rfl rfl
theorem i_65:Tryz.prog.info? 65=some Tryz.t65:=by kernel_rfl
theorem ty_65:TyIs ah 65 false 1:=bm Tryz.underlying65 i_65 rfl rfl
theorem zc_65:zcv ah 8 65=.pv (.sl true 4 []):=by kernel_rfl
theorem z_65:ZeroIs ah 65 (.pv (.sl true 4 [])):=bB i_65 rfl rfl rfl rfl rfl
theorem i_68:Tryz.prog.info? 68=some Tryz.t68:=by kernel_rfl
theorem es_65:eSize ah 65=4:=by kernel_rfl
theorem eb_65:eBytes ah 65=72:=by kernel_rfl
theorem sl_65:SlIs ah 65 4 72:=SlIs.mk' Tryz.underlying65 i_68 rfl rfl rfl rfl (by decide)
theorem is_65:IsSl ah 65:=⟨_,Tryz.underlying65⟩
theorem el_65:elemOfT ah 65=68:=by kernel_rfl
theorem ze_65:zel ah 65=.agg [(.lit (.int .i64 0)),.agg [(.lit (.string ⟨#[]⟩)),(.sl true 2 [])],(.sl true 2 [])]:=by kernel_rfl
theorem ez_65:ElemZero ah 65 (.agg [(.lit (.int .i64 0)),.agg [(.lit (.string ⟨#[]⟩)),(.sl true 2 [])],(.sl true 2 [])]):=ElemZero.mk' Tryz.underlying65 (bN i_68 rfl rfl rfl)
theorem ty_68:TyIs ah 68 true 4:=bm Tryz.underlying68 i_68 rfl rfl
theorem zc_68:zcv ah 8 68=.node [.pv (.lit (.int .i64 0)),.node [.pv (.lit (.string ⟨#[]⟩)),.pv (.sl true 2 [])],.pv (.sl true 2 [])]:=by kernel_rfl
theorem z_68:ZeroIs ah 68 (.node [.pv (.lit (.int .i64 0)),.node [.pv (.lit (.string ⟨#[]⟩)),.pv (.sl true 2 [])],.pv (.sl true 2 [])]):=bN i_68 rfl rfl rfl
theorem fo_68_0:fOff ah 68 0=0:=by kernel_rfl
theorem fi_68_0:FieldIs ah 68 0 0:=bG Tryz.underlying68 rfl rfl i_3 (by decide)
theorem ft_68_0:fldT ah 68 0=3:=by kernel_rfl
theorem fo_68_1:fOff ah 68 1=1:=by kernel_rfl
theorem fi_68_1:FieldIs ah 68 1 1:=bG Tryz.underlying68 rfl rfl i_43 (by decide)
theorem ft_68_1:fldT ah 68 1=43:=by kernel_rfl
theorem fo_68_2:fOff ah 68 2=3:=by kernel_rfl
theorem fi_68_2:FieldIs ah 68 2 3:=bG Tryz.underlying68 rfl rfl i_26 (by decide)
theorem ft_68_2:fldT ah 68 2=26:=by kernel_rfl
theorem lay_68:LayoutOk ah 68 [.pv (.lit (.int .i64 0)),.node [.pv (.lit (.string ⟨#[]⟩)),.pv (.sl true 2 [])],.pv (.sl true 2 [])]:=.inr ⟨_,Tryz.underlying68,rfl,fun k f hk=>by match k,hk with | 0,hk=>(obtain rfl:=Option.some.inj hk; exact⟨rfl,_,i_3,rfl⟩) | 1,hk=>(obtain rfl:=Option.some.inj hk; exact⟨rfl,_,i_43,rfl⟩) | 2,hk=>(obtain rfl:=Option.some.inj hk; exact⟨rfl,_,i_26,rfl⟩) | k+3,hk=>simp at hk⟩
theorem i_70:Tryz.prog.info? 70=some Tryz.t70:=by kernel_rfl
theorem ty_70:TyIs ah 70 false 1:=bm Tryz.underlying70 i_70 rfl rfl
theorem zc_70:zcv ah 8 70=.pv (.lit .nilFunc):=by kernel_rfl
theorem z_70:ZeroIs ah 70 (.pv (.lit .nilFunc)):=bB i_70 rfl rfl rfl rfl rfl
theorem i_72:Tryz.prog.info? 72=some Tryz.t72:=by kernel_rfl
theorem ty_72:TyIs ah 72 false 1:=bm Tryz.underlying72 i_72 rfl rfl
theorem zc_72:zcv ah 8 72=.pv (.sl true 3 []):=by kernel_rfl
theorem z_72:ZeroIs ah 72 (.pv (.sl true 3 [])):=bB i_72 rfl rfl rfl rfl rfl
theorem i_74:Tryz.prog.info? 74=some Tryz.t74:=by kernel_rfl
theorem es_72:eSize ah 72=3:=by kernel_rfl
theorem eb_72:eBytes ah 72=48:=by kernel_rfl
theorem sl_72:SlIs ah 72 3 48:=SlIs.mk' Tryz.underlying72 i_74 rfl rfl rfl rfl (by decide)
theorem is_72:IsSl ah 72:=⟨_,Tryz.underlying72⟩
theorem el_72:elemOfT ah 72=74:=by kernel_rfl
theorem ze_72:zel ah 72=.agg [.agg [(.lit (.string ⟨#[]⟩)),(.sl true 2 [])],(.lit (.int .i64 0))]:=by kernel_rfl
theorem ez_72:ElemZero ah 72 (.agg [.agg [(.lit (.string ⟨#[]⟩)),(.sl true 2 [])],(.lit (.int .i64 0))]):=ElemZero.mk' Tryz.underlying72 (bN i_74 rfl rfl rfl)
theorem ty_74:TyIs ah 74 true 3:=bm Tryz.underlying74 i_74 rfl rfl
theorem zc_74:zcv ah 8 74=.node [.node [.pv (.lit (.string ⟨#[]⟩)),.pv (.sl true 2 [])],.pv (.lit (.int .i64 0))]:=by kernel_rfl
theorem z_74:ZeroIs ah 74 (.node [.node [.pv (.lit (.string ⟨#[]⟩)),.pv (.sl true 2 [])],.pv (.lit (.int .i64 0))]):=bN i_74 rfl rfl rfl
theorem fo_74_0:fOff ah 74 0=0:=by kernel_rfl
theorem fi_74_0:FieldIs ah 74 0 0:=bG Tryz.underlying74 rfl rfl i_43 (by decide)
theorem ft_74_0:fldT ah 74 0=43:=by kernel_rfl
theorem fo_74_1:fOff ah 74 1=2:=by kernel_rfl
theorem fi_74_1:FieldIs ah 74 1 2:=bG Tryz.underlying74 rfl rfl i_3 (by decide)
theorem ft_74_1:fldT ah 74 1=3:=by kernel_rfl
theorem lay_74:LayoutOk ah 74 [.node [.pv (.lit (.string ⟨#[]⟩)),.pv (.sl true 2 [])],.pv (.lit (.int .i64 0))]:=.inr ⟨_,Tryz.underlying74,rfl,fun k f hk=>by match k,hk with | 0,hk=>(obtain rfl:=Option.some.inj hk; exact⟨rfl,_,i_43,rfl⟩) | 1,hk=>(obtain rfl:=Option.some.inj hk; exact⟨rfl,_,i_3,rfl⟩) | k+2,hk=>simp at hk⟩
theorem i_75:Tryz.prog.info? 75=some Tryz.t75:=by kernel_rfl
theorem ty_75:TyIs ah 75 false 1:=bm Tryz.underlying75 i_75 rfl rfl
theorem zc_75:zcv ah 8 75=.pv (.sl true 1 []):=by kernel_rfl
theorem z_75:ZeroIs ah 75 (.pv (.sl true 1 [])):=bB i_75 rfl rfl rfl rfl rfl
theorem es_75:eSize ah 75=1:=by kernel_rfl
theorem eb_75:eBytes ah 75=8:=by kernel_rfl
theorem sl_75:SlIs ah 75 1 8:=SlIs.mk' Tryz.underlying75 i_3 rfl rfl rfl rfl (by decide)
theorem is_75:IsSl ah 75:=⟨_,Tryz.underlying75⟩
theorem el_75:elemOfT ah 75=3:=by kernel_rfl
theorem ze_75:zel ah 75=(.lit (.int .i64 0)):=by kernel_rfl
theorem ez_75:ElemZero ah 75 ((.lit (.int .i64 0))):=ElemZero.mk' Tryz.underlying75 (bB i_3 rfl rfl rfl rfl rfl)
theorem i_79:Tryz.prog.info? 79=some Tryz.t79:=by kernel_rfl
theorem ty_79:TyIs ah 79 false 1:=bm Tryz.underlying79 i_79 rfl rfl
theorem zc_79:zcv ah 8 79=.pv (.lit .nilFunc):=by kernel_rfl
theorem z_79:ZeroIs ah 79 (.pv (.lit .nilFunc)):=bB i_79 rfl rfl rfl rfl rfl
theorem i_89:Tryz.prog.info? 89=some Tryz.t89:=by kernel_rfl
theorem ty_89:TyIs ah 89 false 1:=bm Tryz.underlying89 i_89 rfl rfl
theorem zc_89:zcv ah 8 89=.pv (.sl true 2 []):=by kernel_rfl
theorem z_89:ZeroIs ah 89 (.pv (.sl true 2 [])):=bB i_89 rfl rfl rfl rfl rfl
theorem i_94:Tryz.prog.info? 94=some Tryz.t94:=by kernel_rfl
theorem es_89:eSize ah 89=2:=by kernel_rfl
theorem eb_89:eBytes ah 89=48:=by kernel_rfl
theorem sl_89:SlIs ah 89 2 48:=SlIs.mk' Tryz.underlying89 i_94 rfl rfl rfl rfl (by decide)
theorem is_89:IsSl ah 89:=⟨_,Tryz.underlying89⟩
theorem el_89:elemOfT ah 89=94:=by kernel_rfl
theorem ze_89:zel ah 89=.agg [(.sl true 2 []),(.sl true 3 [])]:=by kernel_rfl
theorem ez_89:ElemZero ah 89 (.agg [(.sl true 2 []),(.sl true 3 [])]):=ElemZero.mk' Tryz.underlying89 (bN i_94 rfl rfl rfl)
theorem i_92:Tryz.prog.info? 92=some Tryz.t92:=by kernel_rfl
theorem ty_92:TyIs ah 92 false 1:=bm Tryz.underlying92 i_92 rfl rfl
theorem zc_92:zcv ah 8 92=.pv (.sl true 3 []):=by kernel_rfl
theorem z_92:ZeroIs ah 92 (.pv (.sl true 3 [])):=bB i_92 rfl rfl rfl rfl rfl
theorem i_118:Tryz.prog.info? 118=some Tryz.t118:=by kernel_rfl
theorem es_92:eSize ah 92=3:=by kernel_rfl
theorem eb_92:eBytes ah 92=48:=by kernel_rfl
theorem sl_92:SlIs ah 92 3 48:=SlIs.mk' Tryz.underlying92 i_118 rfl rfl rfl rfl (by decide)
theorem is_92:IsSl ah 92:=⟨_,Tryz.underlying92⟩
theorem el_92:elemOfT ah 92=118:=by kernel_rfl
theorem ze_92:zel ah 92=.agg [.agg [(.lit (.string ⟨#[]⟩)),(.sl true 2 [])],(.lit (.int .i64 0))]:=by kernel_rfl
theorem ez_92:ElemZero ah 92 (.agg [.agg [(.lit (.string ⟨#[]⟩)),(.sl true 2 [])],(.lit (.int .i64 0))]):=ElemZero.mk' Tryz.underlying92 (bN i_118 rfl rfl rfl)
theorem ty_94:TyIs ah 94 true 2:=bm Tryz.underlying94 i_94 rfl rfl
theorem zc_94:zcv ah 8 94=.node [.pv (.sl true 2 []),.pv (.sl true 3 [])]:=by kernel_rfl
theorem z_94:ZeroIs ah 94 (.node [.pv (.sl true 2 []),.pv (.sl true 3 [])]):=bN i_94 rfl rfl rfl
theorem fo_94_0:fOff ah 94 0=0:=by kernel_rfl
theorem fi_94_0:FieldIs ah 94 0 0:=bG Tryz.underlying94 rfl rfl i_26 (by decide)
theorem ft_94_0:fldT ah 94 0=26:=by kernel_rfl
theorem fo_94_1:fOff ah 94 1=1:=by kernel_rfl
theorem fi_94_1:FieldIs ah 94 1 1:=bG Tryz.underlying94 rfl rfl i_92 (by decide)
theorem ft_94_1:fldT ah 94 1=92:=by kernel_rfl
theorem lay_94:LayoutOk ah 94 [.pv (.sl true 2 []),.pv (.sl true 3 [])]:=.inr ⟨_,Tryz.underlying94,rfl,fun k f hk=>by match k,hk with | 0,hk=>(obtain rfl:=Option.some.inj hk; exact⟨rfl,_,i_26,rfl⟩) | 1,hk=>(obtain rfl:=Option.some.inj hk; exact⟨rfl,_,i_92,rfl⟩) | k+2,hk=>simp at hk⟩
theorem i_95:Tryz.prog.info? 95=some Tryz.t95:=by kernel_rfl
theorem ty_95:TyIs ah 95 false 1:=bm Tryz.underlying95 i_95 rfl rfl
theorem zc_95:zcv ah 8 95=.pv (.lit (.int .u64 0)):=by kernel_rfl
theorem z_95:ZeroIs ah 95 (.pv (.lit (.int .u64 0))):=bB i_95 rfl rfl rfl rfl rfl
theorem i_96:Tryz.prog.info? 96=some Tryz.t96:=by kernel_rfl
theorem ty_96:TyIs ah 96 false 1:=bm Tryz.underlying96 i_96 rfl rfl
theorem zc_96:zcv ah 8 96=.pv (.sl true 1 []):=by kernel_rfl
theorem z_96:ZeroIs ah 96 (.pv (.sl true 1 [])):=bB i_96 rfl rfl rfl rfl rfl
theorem es_96:eSize ah 96=1:=by kernel_rfl
theorem eb_96:eBytes ah 96=16:=by kernel_rfl
theorem sl_96:SlIs ah 96 1 16:=SlIs.mk' Tryz.underlying96 i_9 rfl rfl rfl rfl (by decide)
theorem is_96:IsSl ah 96:=⟨_,Tryz.underlying96⟩
theorem el_96:elemOfT ah 96=9:=by kernel_rfl
theorem ze_96:zel ah 96=(.lit (.string ⟨#[]⟩)):=by kernel_rfl
theorem ez_96:ElemZero ah 96 ((.lit (.string ⟨#[]⟩))):=ElemZero.mk' Tryz.underlying96 (bB i_9 rfl rfl rfl rfl rfl)
theorem i_109:Tryz.prog.info? 109=some Tryz.t109:=by kernel_rfl
theorem ty_109:TyIs ah 109 false 1:=bm Tryz.underlying109 i_109 rfl rfl
theorem i_110:Tryz.prog.info? 110=some Tryz.t110:=by kernel_rfl
theorem ty_110:TyIs ah 110 false 1:=bm Tryz.underlying110 i_110 rfl rfl
theorem zc_110:zcv ah 8 110=.pv (.lit (.int .u64 0)):=by kernel_rfl
theorem z_110:ZeroIs ah 110 (.pv (.lit (.int .u64 0))):=bB i_110 rfl rfl rfl rfl rfl
theorem i_112:Tryz.prog.info? 112=some Tryz.t112:=by kernel_rfl
theorem ty_112:TyIs ah 112 true 3:=bm Tryz.underlying112 i_112 rfl rfl
theorem zc_112:zcv ah 8 112=.node [.pv (.sl true 1 []),.pv (.lit (.int .i64 0)),.pv (.lit (.int .u64 0))]:=by kernel_rfl
theorem z_112:ZeroIs ah 112 (.node [.pv (.sl true 1 []),.pv (.lit (.int .i64 0)),.pv (.lit (.int .u64 0))]):=bN i_112 rfl rfl rfl
theorem fo_112_0:fOff ah 112 0=0:=by kernel_rfl
theorem fi_112_0:FieldIs ah 112 0 0:=bG Tryz.underlying112 rfl rfl i_37 (by decide)
theorem ft_112_0:fldT ah 112 0=37:=by kernel_rfl
theorem fo_112_1:fOff ah 112 1=1:=by kernel_rfl
theorem fi_112_1:FieldIs ah 112 1 1:=bG Tryz.underlying112 rfl rfl i_3 (by decide)
theorem ft_112_1:fldT ah 112 1=3:=by kernel_rfl
theorem fo_112_2:fOff ah 112 2=2:=by kernel_rfl
theorem fi_112_2:FieldIs ah 112 2 2:=bG Tryz.underlying112 rfl rfl i_110 (by decide)
theorem ft_112_2:fldT ah 112 2=110:=by kernel_rfl
theorem lay_112:LayoutOk ah 112 [.pv (.sl true 1 []),.pv (.lit (.int .i64 0)),.pv (.lit (.int .u64 0))]:=.inr ⟨_,Tryz.underlying112,rfl,fun k f hk=>by match k,hk with | 0,hk=>(obtain rfl:=Option.some.inj hk; exact⟨rfl,_,i_37,rfl⟩) | 1,hk=>(obtain rfl:=Option.some.inj hk; exact⟨rfl,_,i_3,rfl⟩) | 2,hk=>(obtain rfl:=Option.some.inj hk; exact⟨rfl,_,i_110,rfl⟩) | k+3,hk=>simp at hk⟩
theorem i_115:Tryz.prog.info? 115=some Tryz.t115:=by kernel_rfl
theorem ty_115:TyIs ah 115 false 1:=bm Tryz.underlying115 i_115 rfl rfl
theorem zc_115:zcv ah 8 115=.pv (.lit .nilFunc):=by kernel_rfl
theorem z_115:ZeroIs ah 115 (.pv (.lit .nilFunc)):=bB i_115 rfl rfl rfl rfl rfl
theorem ty_118:TyIs ah 118 true 3:=bm Tryz.underlying118 i_118 rfl rfl
theorem zc_118:zcv ah 8 118=.node [.node [.pv (.lit (.string ⟨#[]⟩)),.pv (.sl true 2 [])],.pv (.lit (.int .i64 0))]:=by kernel_rfl
theorem z_118:ZeroIs ah 118 (.node [.node [.pv (.lit (.string ⟨#[]⟩)),.pv (.sl true 2 [])],.pv (.lit (.int .i64 0))]):=bN i_118 rfl rfl rfl
theorem fo_118_0:fOff ah 118 0=0:=by kernel_rfl
theorem fi_118_0:FieldIs ah 118 0 0:=bG Tryz.underlying118 rfl rfl i_43 (by decide)
theorem ft_118_0:fldT ah 118 0=43:=by kernel_rfl
theorem fo_118_1:fOff ah 118 1=2:=by kernel_rfl
theorem fi_118_1:FieldIs ah 118 1 2:=bG Tryz.underlying118 rfl rfl i_3 (by decide)
theorem ft_118_1:fldT ah 118 1=3:=by kernel_rfl
theorem lay_118:LayoutOk ah 118 [.node [.pv (.lit (.string ⟨#[]⟩)),.pv (.sl true 2 [])],.pv (.lit (.int .i64 0))]:=.inr ⟨_,Tryz.underlying118,rfl,fun k f hk=>by match k,hk with | 0,hk=>(obtain rfl:=Option.some.inj hk; exact⟨rfl,_,i_43,rfl⟩) | 1,hk=>(obtain rfl:=Option.some.inj hk; exact⟨rfl,_,i_3,rfl⟩) | k+2,hk=>simp at hk⟩
theorem i_119:Tryz.prog.info? 119=some Tryz.t119:=by kernel_rfl
theorem ty_119:TyIs ah 119 false 1:=bm Tryz.underlying119 i_119 rfl rfl
theorem zc_119:zcv ah 8 119=.pv (.sl true 1 []):=by kernel_rfl
theorem z_119:ZeroIs ah 119 (.pv (.sl true 1 [])):=bB i_119 rfl rfl rfl rfl rfl
theorem es_119:eSize ah 119=1:=by kernel_rfl
theorem eb_119:eBytes ah 119=24:=by kernel_rfl
theorem sl_119:SlIs ah 119 1 24:=SlIs.mk' Tryz.underlying119 i_75 rfl rfl rfl rfl (by decide)
theorem is_119:IsSl ah 119:=⟨_,Tryz.underlying119⟩
theorem el_119:elemOfT ah 119=75:=by kernel_rfl
theorem ze_119:zel ah 119=(.sl true 1 []):=by kernel_rfl
theorem ez_119:ElemZero ah 119 ((.sl true 1 [])):=ElemZero.mk' Tryz.underlying119 (bB i_75 rfl rfl rfl rfl rfl)
theorem i_154:Tryz.prog.info? 154=some Tryz.t154:=by kernel_rfl
theorem ty_154:TyIs ah 154 false 1:=bm Tryz.underlying154 i_154 rfl rfl
theorem mt_154:MapTy ah 154 43:=⟨9,Tryz.underlying154,Tryz.underlying9⟩
theorem mz_43:∃ i v,Tryz.prog.info? 43=some i∧i.zero=some v∧∀ N w,RepV N w ((Tt.pv false) (Tt.mk (⟨#[]⟩:ByteArray) ([]))) v []:=⟨Tryz.t43,.agg #[.string ⟨#[]⟩,.slice none 0 0],by kernel_rfl,rfl,fun N w=>⟨[.string ⟨#[]⟩,.slice none 0 0],rfl,⟨[.string ⟨#[]⟩],[.slice none 0 0],[],[],rfl,rfl,⟨rfl,rfl,rfl⟩,⟨[.slice none 0 0],[],[],[],rfl,rfl,⟨none,0,rfl,rfl,Nat.le_refl _,Nat.zero_le _,nofun,.inl rfl⟩,⟨rfl,rfl⟩⟩⟩⟩⟩
theorem uk_3:Tryz.prog.underlying 3=some (.int .i64):=Tryz.underlying3
theorem uk_5:Tryz.prog.underlying 5=some (.int .u8):=Tryz.underlying5
theorem uk_95:Tryz.prog.underlying 95=some (.int .u64):=Tryz.underlying95
theorem uk_110:Tryz.prog.underlying 110=some (.int .u64):=Tryz.underlying110
attribute [push_cast] ty_3 zc_3 z_3 ty_37 zc_37 z_37 es_37 eb_37 sl_37 by_37 is_37 el_37 ze_37 ez_37 ty_5 zc_5 z_5 ty_110 zc_110 z_110 ty_112 zc_112 z_112 fo_112_0 fi_112_0 ft_112_0 fo_112_1 fi_112_1 ft_112_1 fo_112_2 fi_112_2 ft_112_2 lay_112 uk_3 uk_5 uk_110 mixedT ty_109 ty_9 zc_9 z_9 u_9 ty_96 zc_96 z_96 es_96 eb_96 sl_96 is_96 el_96 ze_96 ez_96 ty_26 zc_26 z_26 es_26 eb_26 sl_26 is_26 el_26 ze_26 ez_26 ty_43 zc_43 z_43 fo_43_0 fi_43_0 ft_43_0 fo_43_1 fi_43_1 ft_43_1 lay_43 ty_4 zc_4 z_4 u_4 ty_50 zc_50 z_50 fo_50_0 fi_50_0 ft_50_0 fo_50_1 fi_50_1 ft_50_1 lay_50 ty_51 zc_51 z_51 es_51 eb_51 sl_51 is_51 el_51 ze_51 ez_51 ty_53 zc_53 z_53 fo_53_0 fi_53_0 ft_53_0 lay_53 ty_61 zc_61 z_61 ty_54 zc_54 z_54 ty_75 zc_75 z_75 es_75 eb_75 sl_75 is_75 el_75 ze_75 ez_75 ty_79 zc_79 z_79 ty_95 zc_95 z_95 uk_95 ty_65 zc_65 z_65 es_65 eb_65 sl_65 is_65 el_65 ze_65 ez_65 ty_68 zc_68 z_68 fo_68_0 fi_68_0 ft_68_0 fo_68_1 fi_68_1 ft_68_1 fo_68_2 fi_68_2 ft_68_2 lay_68 ty_70 zc_70 z_70 ty_72 zc_72 z_72 es_72 eb_72 sl_72 is_72 el_72 ze_72 ez_72 ty_74 zc_74 z_74 fo_74_0 fi_74_0 ft_74_0 fo_74_1 fi_74_1 ft_74_1 lay_74 ty_31 zc_31 z_31 fo_31_0 fi_31_0 ft_31_0 fo_31_1 fi_31_1 ft_31_1 lay_31 ty_89 zc_89 z_89 es_89 eb_89 sl_89 is_89 el_89 ze_89 ez_89 ty_92 zc_92 z_92 es_92 eb_92 sl_92 is_92 el_92 ze_92 ez_92 ty_94 zc_94 z_94 fo_94_0 fi_94_0 ft_94_0 fo_94_1 fi_94_1 ft_94_1 lay_94 ty_118 zc_118 z_118 fo_118_0 fi_118_0 ft_118_0 fo_118_1 fi_118_1 ft_118_1 lay_118 ty_119 zc_119 z_119 es_119 eb_119 sl_119 is_119 el_119 ze_119 ez_119 ty_115 zc_115 z_115 ty_154
end Go.Proofs.YtnjgpibbjiofpaaGreat
