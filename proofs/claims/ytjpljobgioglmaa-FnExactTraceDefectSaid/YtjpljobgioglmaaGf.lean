/- Lemmas of the proof; each says what it shows. -/
import Derived.Test.YtjpljobgioglmaaAvFt
import Derived.Test.YtjpljobgioglmaaChecked
import Derived.KernelRfl
set_option linter.unusedSimpArgs false
set_option linter.unusedVariables false
set_option linter.defProp false
set_option maxRecDepth 4000
namespace Go.Proofs.Ytjpljobgioglmaa
open Go.Av
open FieldIs renaming mk'→bf
open Try renaming prog→ag
open TyIs renaming mk'→a9
open ZeroIs renaming one→bh
theorem mixed:Try.prog.follows .mixedOrders=true:=by kernel_rfl
theorem mixedT:(Try.prog.follows .mixedOrders=true)=True:=eq_true mixed
theorem i_3:Try.prog.info? 3=some Try.t3:=by kernel_rfl
theorem ty_3:TyIs ag 3 false 1:=a9 Try.underlying3 i_3 rfl rfl
theorem zc_3:zcv ag 8 3=.pv (.lit (.int .i64 0)):=by kernel_rfl
theorem z_3:ZeroIs ag 3 (.pv (.lit (.int .i64 0))):=bh i_3 rfl rfl rfl rfl rfl
theorem i_4:Try.prog.info? 4=some Try.t4:=by kernel_rfl
theorem ty_4:TyIs ag 4 false 1:=a9 Try.underlying4 i_4 rfl rfl
theorem zc_4:zcv ag 8 4=.pv (.lit (.bool false)):=by kernel_rfl
theorem z_4:ZeroIs ag 4 (.pv (.lit (.bool false))):=bh i_4 rfl rfl rfl rfl rfl
theorem u_4:(Try.prog.underlying 4=some .bool)=True:=eq_true Try.underlying4
theorem i_24:Try.prog.info? 24=some Try.t24:=by kernel_rfl
theorem ty_24:TyIs ag 24 false 1:=a9 Try.underlying24 i_24 rfl rfl
theorem zc_24:zcv ag 8 24=.pv (.sl true 3 []):=by kernel_rfl
theorem z_24:ZeroIs ag 24 (.pv (.sl true 3 [])):=bh i_24 rfl rfl rfl rfl rfl
theorem i_72:Try.prog.info? 72=some Try.t72:=by kernel_rfl
theorem es_24:eSize ag 24=3:=by kernel_rfl
theorem eb_24:eBytes ag 24=24:=by kernel_rfl
theorem sl_24:SlIs ag 24 3 24:=SlIs.mk' Try.underlying24 i_72 rfl rfl rfl rfl (by decide)
theorem is_24:IsSl ag 24:=⟨_,Try.underlying24⟩
theorem el_24:elemOfT ag 24=72:=by kernel_rfl
theorem ze_24:zel ag 24=.agg [(.lit (.int .i64 0)),(.lit (.int .i64 0)),(.lit (.bool false))]:=by kernel_rfl
theorem ez_24:ElemZero ag 24 (.agg [(.lit (.int .i64 0)),(.lit (.int .i64 0)),(.lit (.bool false))]):=ElemZero.mk' Try.underlying24 (ZeroIs.agg i_72 rfl rfl rfl)
theorem i_26:Try.prog.info? 26=some Try.t26:=by kernel_rfl
theorem ty_26:TyIs ag 26 true 3:=a9 Try.underlying26 i_26 rfl rfl
theorem zc_26:zcv ag 8 26=.node [.pv (.lit (.int .i64 0)),.pv (.lit (.int .i64 0)),.pv (.sl true 3 [])]:=by kernel_rfl
theorem z_26:ZeroIs ag 26 (.node [.pv (.lit (.int .i64 0)),.pv (.lit (.int .i64 0)),.pv (.sl true 3 [])]):=ZeroIs.agg i_26 rfl rfl rfl
theorem fo_26_0:fOff ag 26 0=0:=by kernel_rfl
theorem fi_26_0:FieldIs ag 26 0 0:=bf Try.underlying26 rfl rfl i_3 (by decide)
theorem ft_26_0:fldT ag 26 0=3:=by kernel_rfl
theorem fo_26_1:fOff ag 26 1=1:=by kernel_rfl
theorem fi_26_1:FieldIs ag 26 1 1:=bf Try.underlying26 rfl rfl i_3 (by decide)
theorem ft_26_1:fldT ag 26 1=3:=by kernel_rfl
theorem fo_26_2:fOff ag 26 2=2:=by kernel_rfl
theorem fi_26_2:FieldIs ag 26 2 2:=bf Try.underlying26 rfl rfl i_24 (by decide)
theorem ft_26_2:fldT ag 26 2=24:=by kernel_rfl
theorem lay_26:LayoutOk ag 26 [.pv (.lit (.int .i64 0)),.pv (.lit (.int .i64 0)),.pv (.sl true 3 [])]:=.inr ⟨_,Try.underlying26,rfl,fun k f hk=>by match k,hk with | 0,hk=>(obtain rfl:=Option.some.inj hk; exact⟨rfl,_,i_3,rfl⟩) | 1,hk=>(obtain rfl:=Option.some.inj hk; exact⟨rfl,_,i_3,rfl⟩) | 2,hk=>(obtain rfl:=Option.some.inj hk; exact⟨rfl,_,i_24,rfl⟩) | k+3,hk=>simp at hk⟩
theorem i_33:Try.prog.info? 33=some Try.t33:=by kernel_rfl
theorem ty_33:TyIs ag 33 false 1:=a9 Try.underlying33 i_33 rfl rfl
theorem zc_33:zcv ag 8 33=.pv (.sl true 1 []):=by kernel_rfl
theorem z_33:ZeroIs ag 33 (.pv (.sl true 1 [])):=bh i_33 rfl rfl rfl rfl rfl
theorem es_33:eSize ag 33=1:=by kernel_rfl
theorem eb_33:eBytes ag 33=8:=by kernel_rfl
theorem sl_33:SlIs ag 33 1 8:=SlIs.mk' Try.underlying33 i_3 rfl rfl rfl rfl (by decide)
theorem is_33:IsSl ag 33:=⟨_,Try.underlying33⟩
theorem el_33:elemOfT ag 33=3:=by kernel_rfl
theorem ze_33:zel ag 33=(.lit (.int .i64 0)):=by kernel_rfl
theorem ez_33:ElemZero ag 33 ((.lit (.int .i64 0))):=ElemZero.mk' Try.underlying33 (bh i_3 rfl rfl rfl rfl rfl)
theorem i_34:Try.prog.info? 34=some Try.t34:=by kernel_rfl
theorem ty_34:TyIs ag 34 false 1:=a9 Try.underlying34 i_34 rfl rfl
theorem zc_34:zcv ag 8 34=.pv (.sl true 3 []):=by kernel_rfl
theorem z_34:ZeroIs ag 34 (.pv (.sl true 3 [])):=bh i_34 rfl rfl rfl rfl rfl
theorem es_34:eSize ag 34=3:=by kernel_rfl
theorem eb_34:eBytes ag 34=40:=by kernel_rfl
theorem sl_34:SlIs ag 34 3 40:=SlIs.mk' Try.underlying34 i_26 rfl rfl rfl rfl (by decide)
theorem is_34:IsSl ag 34:=⟨_,Try.underlying34⟩
theorem el_34:elemOfT ag 34=26:=by kernel_rfl
theorem ze_34:zel ag 34=.agg [(.lit (.int .i64 0)),(.lit (.int .i64 0)),(.sl true 3 [])]:=by kernel_rfl
theorem ez_34:ElemZero ag 34 (.agg [(.lit (.int .i64 0)),(.lit (.int .i64 0)),(.sl true 3 [])]):=ElemZero.mk' Try.underlying34 (ZeroIs.agg i_26 rfl rfl rfl)
theorem i_36:Try.prog.info? 36=some Try.t36:=by kernel_rfl
theorem ty_36:TyIs ag 36 true 2:=a9 Try.underlying36 i_36 rfl rfl
theorem zc_36:zcv ag 8 36=.node [.pv (.sl true 1 []),.pv (.sl true 3 [])]:=by kernel_rfl
theorem z_36:ZeroIs ag 36 (.node [.pv (.sl true 1 []),.pv (.sl true 3 [])]):=ZeroIs.agg i_36 rfl rfl rfl
theorem fo_36_0:fOff ag 36 0=0:=by kernel_rfl
theorem fi_36_0:FieldIs ag 36 0 0:=bf Try.underlying36 rfl rfl i_33 (by decide)
theorem ft_36_0:fldT ag 36 0=33:=by kernel_rfl
theorem fo_36_1:fOff ag 36 1=1:=by kernel_rfl
theorem fi_36_1:FieldIs ag 36 1 1:=bf Try.underlying36 rfl rfl i_34 (by decide)
theorem ft_36_1:fldT ag 36 1=34:=by kernel_rfl
theorem lay_36:LayoutOk ag 36 [.pv (.sl true 1 []),.pv (.sl true 3 [])]:=.inr ⟨_,Try.underlying36,rfl,fun k f hk=>by match k,hk with | 0,hk=>(obtain rfl:=Option.some.inj hk; exact⟨rfl,_,i_33,rfl⟩) | 1,hk=>(obtain rfl:=Option.some.inj hk; exact⟨rfl,_,i_34,rfl⟩) | k+2,hk=>simp at hk⟩
theorem i_40:Try.prog.info? 40=some Try.t40:=by kernel_rfl
theorem ty_40:TyIs ag 40 false 1:=a9 Try.underlying40 i_40 rfl rfl
theorem zc_40:zcv ag 8 40=.pv (.sl true 3 []):=by kernel_rfl
theorem z_40:ZeroIs ag 40 (.pv (.sl true 3 [])):=bh i_40 rfl rfl rfl rfl rfl
theorem i_113:Try.prog.info? 113=some Try.t113:=by kernel_rfl
theorem es_40:eSize ag 40=3:=by kernel_rfl
theorem eb_40:eBytes ag 40=40:=by kernel_rfl
theorem sl_40:SlIs ag 40 3 40:=SlIs.mk' Try.underlying40 i_113 rfl rfl rfl rfl (by decide)
theorem is_40:IsSl ag 40:=⟨_,Try.underlying40⟩
theorem el_40:elemOfT ag 40=113:=by kernel_rfl
theorem ze_40:zel ag 40=.agg [(.lit (.int .i64 0)),(.lit (.int .i64 0)),(.sl true 3 [])]:=by kernel_rfl
theorem ez_40:ElemZero ag 40 (.agg [(.lit (.int .i64 0)),(.lit (.int .i64 0)),(.sl true 3 [])]):=ElemZero.mk' Try.underlying40 (ZeroIs.agg i_113 rfl rfl rfl)
theorem i_42:Try.prog.info? 42=some Try.t42:=by kernel_rfl
theorem ty_42:TyIs ag 42 true 2:=a9 Try.underlying42 i_42 rfl rfl
theorem zc_42:zcv ag 8 42=.node [.pv (.sl true 1 []),.pv (.sl true 3 [])]:=by kernel_rfl
theorem z_42:ZeroIs ag 42 (.node [.pv (.sl true 1 []),.pv (.sl true 3 [])]):=ZeroIs.agg i_42 rfl rfl rfl
theorem fo_42_0:fOff ag 42 0=0:=by kernel_rfl
theorem fi_42_0:FieldIs ag 42 0 0:=bf Try.underlying42 rfl rfl i_33 (by decide)
theorem ft_42_0:fldT ag 42 0=33:=by kernel_rfl
theorem fo_42_1:fOff ag 42 1=1:=by kernel_rfl
theorem fi_42_1:FieldIs ag 42 1 1:=bf Try.underlying42 rfl rfl i_40 (by decide)
theorem ft_42_1:fldT ag 42 1=40:=by kernel_rfl
theorem lay_42:LayoutOk ag 42 [.pv (.sl true 1 []),.pv (.sl true 3 [])]:=.inr ⟨_,Try.underlying42,rfl,fun k f hk=>by match k,hk with | 0,hk=>(obtain rfl:=Option.some.inj hk; exact⟨rfl,_,i_33,rfl⟩) | 1,hk=>(obtain rfl:=Option.some.inj hk; exact⟨rfl,_,i_40,rfl⟩) | k+2,hk=>simp at hk⟩
theorem i_68:Try.prog.info? 68=some Try.t68:=by kernel_rfl
theorem ty_68:TyIs ag 68 false 1:=a9 Try.underlying68 i_68 rfl rfl
theorem zc_68:zcv ag 8 68=.pv (.lit .nilFunc):=by kernel_rfl
theorem z_68:ZeroIs ag 68 (.pv (.lit .nilFunc)):=bh i_68 rfl rfl rfl rfl rfl
theorem i_69:Try.prog.info? 69=some Try.t69:=by kernel_rfl
theorem ty_69:TyIs ag 69 false 1:=a9 Try.underlying69 i_69 rfl rfl
theorem zc_69:zcv ag 8 69=.pv (.lit .nilFunc):=by kernel_rfl
theorem z_69:ZeroIs ag 69 (.pv (.lit .nilFunc)):=bh i_69 rfl rfl rfl rfl rfl
theorem ty_72:TyIs ag 72 true 3:=a9 Try.underlying72 i_72 rfl rfl
theorem zc_72:zcv ag 8 72=.node [.pv (.lit (.int .i64 0)),.pv (.lit (.int .i64 0)),.pv (.lit (.bool false))]:=by kernel_rfl
theorem z_72:ZeroIs ag 72 (.node [.pv (.lit (.int .i64 0)),.pv (.lit (.int .i64 0)),.pv (.lit (.bool false))]):=ZeroIs.agg i_72 rfl rfl rfl
theorem fo_72_0:fOff ag 72 0=0:=by kernel_rfl
theorem fi_72_0:FieldIs ag 72 0 0:=bf Try.underlying72 rfl rfl i_3 (by decide)
theorem ft_72_0:fldT ag 72 0=3:=by kernel_rfl
theorem fo_72_1:fOff ag 72 1=1:=by kernel_rfl
theorem fi_72_1:FieldIs ag 72 1 1:=bf Try.underlying72 rfl rfl i_3 (by decide)
theorem ft_72_1:fldT ag 72 1=3:=by kernel_rfl
theorem fo_72_2:fOff ag 72 2=2:=by kernel_rfl
theorem fi_72_2:FieldIs ag 72 2 2:=bf Try.underlying72 rfl rfl i_4 (by decide)
theorem ft_72_2:fldT ag 72 2=4:=by kernel_rfl
theorem eqs_72:EqS ag 72 [some (.int .i64),some (.int .i64),some .bool]:=(by kernel_rfl:eqSB ag 72 [some (.int .i64),some (.int .i64),some .bool]=true)
theorem lay_72:LayoutOk ag 72 [.pv (.lit (.int .i64 0)),.pv (.lit (.int .i64 0)),.pv (.lit (.bool false))]:=.inr ⟨_,Try.underlying72,rfl,fun k f hk=>by match k,hk with | 0,hk=>(obtain rfl:=Option.some.inj hk; exact⟨rfl,_,i_3,rfl⟩) | 1,hk=>(obtain rfl:=Option.some.inj hk; exact⟨rfl,_,i_3,rfl⟩) | 2,hk=>(obtain rfl:=Option.some.inj hk; exact⟨rfl,_,i_4,rfl⟩) | k+3,hk=>simp at hk⟩
theorem i_74:Try.prog.info? 74=some Try.t74:=by kernel_rfl
theorem ty_74:TyIs ag 74 false 1:=a9 Try.underlying74 i_74 rfl rfl
theorem zc_74:zcv ag 8 74=.pv (.sl true 4 []):=by kernel_rfl
theorem z_74:ZeroIs ag 74 (.pv (.sl true 4 [])):=bh i_74 rfl rfl rfl rfl rfl
theorem i_78:Try.prog.info? 78=some Try.t78:=by kernel_rfl
theorem es_74:eSize ag 74=4:=by kernel_rfl
theorem eb_74:eBytes ag 74=64:=by kernel_rfl
theorem sl_74:SlIs ag 74 4 64:=SlIs.mk' Try.underlying74 i_78 rfl rfl rfl rfl (by decide)
theorem is_74:IsSl ag 74:=⟨_,Try.underlying74⟩
theorem el_74:elemOfT ag 74=78:=by kernel_rfl
theorem ze_74:zel ag 74=.agg [.agg [(.lit (.int .i64 0)),(.lit (.int .i64 0)),(.sl true 3 [])],(.sl true 1 [])]:=by kernel_rfl
theorem ez_74:ElemZero ag 74 (.agg [.agg [(.lit (.int .i64 0)),(.lit (.int .i64 0)),(.sl true 3 [])],(.sl true 1 [])]):=ElemZero.mk' Try.underlying74 (ZeroIs.agg i_78 rfl rfl rfl)
theorem ty_78:TyIs ag 78 true 4:=a9 Try.underlying78 i_78 rfl rfl
theorem zc_78:zcv ag 8 78=.node [.node [.pv (.lit (.int .i64 0)),.pv (.lit (.int .i64 0)),.pv (.sl true 3 [])],.pv (.sl true 1 [])]:=by kernel_rfl
theorem z_78:ZeroIs ag 78 (.node [.node [.pv (.lit (.int .i64 0)),.pv (.lit (.int .i64 0)),.pv (.sl true 3 [])],.pv (.sl true 1 [])]):=ZeroIs.agg i_78 rfl rfl rfl
theorem fo_78_0:fOff ag 78 0=0:=by kernel_rfl
theorem fi_78_0:FieldIs ag 78 0 0:=bf Try.underlying78 rfl rfl i_26 (by decide)
theorem ft_78_0:fldT ag 78 0=26:=by kernel_rfl
theorem fo_78_1:fOff ag 78 1=3:=by kernel_rfl
theorem fi_78_1:FieldIs ag 78 1 3:=bf Try.underlying78 rfl rfl i_33 (by decide)
theorem ft_78_1:fldT ag 78 1=33:=by kernel_rfl
theorem lay_78:LayoutOk ag 78 [.node [.pv (.lit (.int .i64 0)),.pv (.lit (.int .i64 0)),.pv (.sl true 3 [])],.pv (.sl true 1 [])]:=.inr ⟨_,Try.underlying78,rfl,fun k f hk=>by match k,hk with | 0,hk=>(obtain rfl:=Option.some.inj hk; exact⟨rfl,_,i_26,rfl⟩) | 1,hk=>(obtain rfl:=Option.some.inj hk; exact⟨rfl,_,i_33,rfl⟩) | k+2,hk=>simp at hk⟩
theorem i_79:Try.prog.info? 79=some Try.t79:=by kernel_rfl
theorem ty_79:TyIs ag 79 false 1:=a9 Try.underlying79 i_79 rfl rfl
theorem zc_79:zcv ag 8 79=.pv (.sl true 1 []):=by kernel_rfl
theorem z_79:ZeroIs ag 79 (.pv (.sl true 1 [])):=bh i_79 rfl rfl rfl rfl rfl
theorem es_79:eSize ag 79=1:=by kernel_rfl
theorem eb_79:eBytes ag 79=24:=by kernel_rfl
theorem sl_79:SlIs ag 79 1 24:=SlIs.mk' Try.underlying79 i_33 rfl rfl rfl rfl (by decide)
theorem is_79:IsSl ag 79:=⟨_,Try.underlying79⟩
theorem el_79:elemOfT ag 79=33:=by kernel_rfl
theorem ze_79:zel ag 79=(.sl true 1 []):=by kernel_rfl
theorem ez_79:ElemZero ag 79 ((.sl true 1 [])):=ElemZero.mk' Try.underlying79 (bh i_33 rfl rfl rfl rfl rfl)
theorem i_86:Try.prog.info? 86=some Try.t86:=by kernel_rfl
theorem ty_86:TyIs ag 86 false 1:=a9 Try.underlying86 i_86 rfl rfl
theorem zc_86:zcv ag 8 86=.pv (.lit .nilFunc):=by kernel_rfl
theorem z_86:ZeroIs ag 86 (.pv (.lit .nilFunc)):=bh i_86 rfl rfl rfl rfl rfl
theorem i_99:Try.prog.info? 99=some Try.t99:=by kernel_rfl
theorem ty_99:TyIs ag 99 false 1:=a9 Try.underlying99 i_99 rfl rfl
theorem zc_99:zcv ag 8 99=.pv (.lit .nilFunc):=by kernel_rfl
theorem z_99:ZeroIs ag 99 (.pv (.lit .nilFunc)):=bh i_99 rfl rfl rfl rfl rfl
theorem i_107:Try.prog.info? 107=some Try.t107:=by kernel_rfl
theorem ty_107:TyIs ag 107 false 1:=a9 Try.underlying107 i_107 rfl rfl
theorem zc_107:zcv ag 8 107=.pv (.lit .nilFunc):=by kernel_rfl
theorem z_107:ZeroIs ag 107 (.pv (.lit .nilFunc)):=bh i_107 rfl rfl rfl rfl rfl
theorem i_111:Try.prog.info? 111=some Try.t111:=by kernel_rfl
theorem ty_111:TyIs ag 111 false 1:=a9 Try.underlying111 i_111 rfl rfl
theorem zc_111:zcv ag 8 111=.pv (.sl true 3 []):=by kernel_rfl
theorem z_111:ZeroIs ag 111 (.pv (.sl true 3 [])):=bh i_111 rfl rfl rfl rfl rfl
theorem i_135:Try.prog.info? 135=some Try.t135:=by kernel_rfl
theorem es_111:eSize ag 111=3:=by kernel_rfl
theorem eb_111:eBytes ag 111=24:=by kernel_rfl
theorem sl_111:SlIs ag 111 3 24:=SlIs.mk' Try.underlying111 i_135 rfl rfl rfl rfl (by decide)
theorem is_111:IsSl ag 111:=⟨_,Try.underlying111⟩
theorem el_111:elemOfT ag 111=135:=by kernel_rfl
theorem ze_111:zel ag 111=.agg [(.lit (.int .i64 0)),(.lit (.int .i64 0)),(.lit (.bool false))]:=by kernel_rfl
theorem ez_111:ElemZero ag 111 (.agg [(.lit (.int .i64 0)),(.lit (.int .i64 0)),(.lit (.bool false))]):=ElemZero.mk' Try.underlying111 (ZeroIs.agg i_135 rfl rfl rfl)
theorem ty_113:TyIs ag 113 true 3:=a9 Try.underlying113 i_113 rfl rfl
theorem zc_113:zcv ag 8 113=.node [.pv (.lit (.int .i64 0)),.pv (.lit (.int .i64 0)),.pv (.sl true 3 [])]:=by kernel_rfl
theorem z_113:ZeroIs ag 113 (.node [.pv (.lit (.int .i64 0)),.pv (.lit (.int .i64 0)),.pv (.sl true 3 [])]):=ZeroIs.agg i_113 rfl rfl rfl
theorem fo_113_0:fOff ag 113 0=0:=by kernel_rfl
theorem fi_113_0:FieldIs ag 113 0 0:=bf Try.underlying113 rfl rfl i_3 (by decide)
theorem ft_113_0:fldT ag 113 0=3:=by kernel_rfl
theorem fo_113_1:fOff ag 113 1=1:=by kernel_rfl
theorem fi_113_1:FieldIs ag 113 1 1:=bf Try.underlying113 rfl rfl i_3 (by decide)
theorem ft_113_1:fldT ag 113 1=3:=by kernel_rfl
theorem fo_113_2:fOff ag 113 2=2:=by kernel_rfl
theorem fi_113_2:FieldIs ag 113 2 2:=bf Try.underlying113 rfl rfl i_111 (by decide)
theorem ft_113_2:fldT ag 113 2=111:=by kernel_rfl
theorem lay_113:LayoutOk ag 113 [.pv (.lit (.int .i64 0)),.pv (.lit (.int .i64 0)),.pv (.sl true 3 [])]:=.inr ⟨_,Try.underlying113,rfl,fun k f hk=>by match k,hk with | 0,hk=>(obtain rfl:=Option.some.inj hk; exact⟨rfl,_,i_3,rfl⟩) | 1,hk=>(obtain rfl:=Option.some.inj hk; exact⟨rfl,_,i_3,rfl⟩) | 2,hk=>(obtain rfl:=Option.some.inj hk; exact⟨rfl,_,i_111,rfl⟩) | k+3,hk=>simp at hk⟩
theorem i_118:Try.prog.info? 118=some Try.t118:=by kernel_rfl
theorem ty_118:TyIs ag 118 false 1:=a9 Try.underlying118 i_118 rfl rfl
theorem zc_118:zcv ag 8 118=.pv (.lit (.int .u64 0)):=by kernel_rfl
theorem z_118:ZeroIs ag 118 (.pv (.lit (.int .u64 0))):=bh i_118 rfl rfl rfl rfl rfl
theorem ty_135:TyIs ag 135 true 3:=a9 Try.underlying135 i_135 rfl rfl
theorem zc_135:zcv ag 8 135=.node [.pv (.lit (.int .i64 0)),.pv (.lit (.int .i64 0)),.pv (.lit (.bool false))]:=by kernel_rfl
theorem z_135:ZeroIs ag 135 (.node [.pv (.lit (.int .i64 0)),.pv (.lit (.int .i64 0)),.pv (.lit (.bool false))]):=ZeroIs.agg i_135 rfl rfl rfl
theorem fo_135_0:fOff ag 135 0=0:=by kernel_rfl
theorem fi_135_0:FieldIs ag 135 0 0:=bf Try.underlying135 rfl rfl i_3 (by decide)
theorem ft_135_0:fldT ag 135 0=3:=by kernel_rfl
theorem fo_135_1:fOff ag 135 1=1:=by kernel_rfl
theorem fi_135_1:FieldIs ag 135 1 1:=bf Try.underlying135 rfl rfl i_3 (by decide)
theorem ft_135_1:fldT ag 135 1=3:=by kernel_rfl
theorem fo_135_2:fOff ag 135 2=2:=by kernel_rfl
theorem fi_135_2:FieldIs ag 135 2 2:=bf Try.underlying135 rfl rfl i_4 (by decide)
theorem ft_135_2:fldT ag 135 2=4:=by kernel_rfl
theorem lay_135:LayoutOk ag 135 [.pv (.lit (.int .i64 0)),.pv (.lit (.int .i64 0)),.pv (.lit (.bool false))]:=.inr ⟨_,Try.underlying135,rfl,fun k f hk=>by match k,hk with | 0,hk=>(obtain rfl:=Option.some.inj hk; exact⟨rfl,_,i_3,rfl⟩) | 1,hk=>(obtain rfl:=Option.some.inj hk; exact⟨rfl,_,i_3,rfl⟩) | 2,hk=>(obtain rfl:=Option.some.inj hk; exact⟨rfl,_,i_4,rfl⟩) | k+3,hk=>simp at hk⟩
theorem isIntB_i:isIntB (Try.prog.underlying 3)=true:=by kernel_rfl
theorem uk_3:Try.prog.underlying 3=some (.int .i64):=Try.underlying3
theorem uk_118:Try.prog.underlying 118=some (.int .u64):=Try.underlying118
attribute [push_cast] ty_3 zc_3 z_3 ty_33 zc_33 z_33 es_33 eb_33 sl_33 is_33 el_33 ze_33 ez_33 ty_111 zc_111 z_111 es_111 eb_111 sl_111 is_111 el_111 ze_111 ez_111 ty_113 zc_113 z_113 fo_113_0 fi_113_0 ft_113_0 fo_113_1 fi_113_1 ft_113_1 fo_113_2 fi_113_2 ft_113_2 lay_113 ty_40 zc_40 z_40 es_40 eb_40 sl_40 is_40 el_40 ze_40 ez_40 ty_42 zc_42 z_42 fo_42_0 fi_42_0 ft_42_0 fo_42_1 fi_42_1 ft_42_1 lay_42 ty_4 zc_4 z_4 u_4 ty_72 zc_72 z_72 fo_72_0 fi_72_0 ft_72_0 fo_72_1 fi_72_1 ft_72_1 fo_72_2 fi_72_2 ft_72_2 lay_72 ty_135 zc_135 z_135 fo_135_0 fi_135_0 ft_135_0 fo_135_1 fi_135_1 ft_135_1 fo_135_2 fi_135_2 ft_135_2 lay_135 ty_24 zc_24 z_24 es_24 eb_24 sl_24 is_24 el_24 ze_24 ez_24 ty_26 zc_26 z_26 fo_26_0 fi_26_0 ft_26_0 fo_26_1 fi_26_1 ft_26_1 fo_26_2 fi_26_2 ft_26_2 lay_26 ty_34 zc_34 z_34 es_34 eb_34 sl_34 is_34 el_34 ze_34 ez_34 ty_36 zc_36 z_36 fo_36_0 fi_36_0 ft_36_0 fo_36_1 fi_36_1 ft_36_1 lay_36 mixedT eqs_72 ty_79 zc_79 z_79 es_79 eb_79 sl_79 is_79 el_79 ze_79 ez_79 ty_68 zc_68 z_68 ty_86 zc_86 z_86 ty_69 zc_69 z_69 ty_78 zc_78 z_78 fo_78_0 fi_78_0 ft_78_0 fo_78_1 fi_78_1 ft_78_1 lay_78 ty_74 zc_74 z_74 es_74 eb_74 sl_74 is_74 el_74 ze_74 ez_74 ty_107 zc_107 z_107 ty_118 zc_118 z_118 uk_3 uk_118 isIntB_i ty_99 zc_99 z_99
end Go.Proofs.Ytjpljobgioglmaa
