/- A part of the proof: lemmas only; nothing is claimed here beyond what each lemma says. -/
import Derived.Test.YtlgeocknlmbgeaaGreatGmd
import Derived.Test.YtlgeocknlmbgeaaGreatGsc
set_option linter.unusedSimpArgs false
set_option linter.unusedVariables false
set_option linter.defProp false
set_option maxRecDepth 4000
namespace Go.Proofs.YtlgeocknlmbgeaaGreat
open Go.Av
open Option renaming bind_some→al
theorem SSb_(s:Sb)(hok:s.Ok)(ht:s.tot≤1048576):∃ r:Sa×Bool,iSS_ s=some r∧sSS_ s=some r∧r.1.tot≤1048576:=by
 obtain⟨g1,g2⟩:=sb_ s hok ht
 unfold iSS_ sSS_
 rw[g1,g2,al,al]
 obtain⟨o1,o2,o3,o4⟩:=hok
 unfold Sb.tot at ht
 cases hb:schB s
 ·exact⟨_,rfl,rfl,by show Sa.tot ⟨[],[]⟩≤_; unfold Sa.tot; simp[ltot]⟩
 unfold schB at hb
 simp only[Bool.and_eq_true] at hb
 obtain⟨hn,hv,hd,_⟩:=hb
 obtain⟨bl,_⟩:=vDV_ o3 (by omega) hd
 have ml:=bl.mod (by omega)
 have t1:=vFt_ hv
 have ed:dropI s.Base.Sequent.Left (-1)=s.Base.Sequent.Left:=dIn_ _ _ (by omega)
 have q1:=qt_ s.Var s.Formula
 have q2:=qua_Ok o1 o2
 have hvs:s.Var.size≤1048576:=by omega
 have hsum:=bl.sum
 have hso:Sa.Ok ⟨s.Base.Sequent.Left,[qua s.Var s.Formula]⟩:=⟨⟨by have:=bl.len; simp only[Big]; show s.Base.Sequent.Left.length≤_; omega,fun f hf=>vFO_ (bl.val f hf)⟩,⟨by simp[Big],fun f hf=>by rw[List.mem_singleton.1 hf]; exact q2⟩⟩
 have hst:Sa.tot ⟨s.Base.Sequent.Left,[qua s.Var s.Formula]⟩≤1048576:=by
  unfold Sa.tot
  show ltot Ft.tot s.Base.Sequent.Left+ltot Ft.tot [qua s.Var s.Formula]≤_
  have hvz:=vs_1 hn
  have:ltot Ft.tot [qua s.Var s.Formula]=(qua s.Var s.Formula).tot+1:=by simp[ltot]; omega
  omega
 have i1:iIV_2 (Sa.mk s.Base.Sequent.Left [Ft.mk 8 (Tt.mk ⟨#[]⟩ []) s.Var [s.Formula]])=some (validS ⟨s.Base.Sequent.Left,[qua s.Var s.Formula]⟩):=vSi_ ⟨s.Base.Sequent.Left,[qua s.Var s.Formula]⟩ hso hst
 have i2:slG_ (Sa.mk s.Base.Sequent.Left [Ft.mk 8 (Tt.mk ⟨#[]⟩ []) s.Var [s.Formula]])=some (validS ⟨s.Base.Sequent.Left,[qua s.Var s.Formula]⟩):=vSs_ ⟨s.Base.Sequent.Left,[qua s.Var s.Formula]⟩ hso hst
 simp only[cond_true,copyFs ml,copyF s.Formula (by omega),ownF s.Formula (by omega),sc_ (-1) ml ((Vl.nil 0).mod (by omega)),ed,List.append_nil,al,iq_,i1,i2]
 cases validS ⟨s.Base.Sequent.Left,[qua s.Var s.Formula]⟩
 ·exact⟨_,rfl,rfl,by show Sa.tot ⟨[],[]⟩≤_; unfold Sa.tot; simp[ltot]⟩
 ·exact⟨_,rfl,rfl,hst⟩
theorem FnExactSchemaSequent_true(s:Sb)(hok:s.Ok):FnExactSchemaSequent s=some true:=by
 unfold FnExactSchemaSequent
 rw[sSe_1 s hok _ (by omega) (by omega),al]
 by_cases e:szR s.tot 1048576<0
 ·rw[decide_eq_true e]; rfl
 have ht:=szR_ok e
 obtain⟨r,g1,g2,g3⟩:=SSb_ s hok ht
 have n1:=s.Formula.marks_tot
 have n2:=s.Base.marks_tot
 have n3:=s.Step.marks_tot
 have n4:=r.1.marks_tot
 have ht':=ht
 unfold Sb.tot at ht'
 obtain⟨y0,y1,y2,y3,y4,y5,y6,y7,y8,y9,y10,y11,y12,y13,m1⟩:=mSm_ s (k:=1) (by omega) (by omega)
 obtain⟨z0,z1,k1,k2⟩:=mSh_ r.1 (k:=1) (by omega) (by omega)
 generalize hA:(lcn Tt.cn s.Formula.Atom.Args+lcn Ft.cn s.Formula.Parts+lcn Ft.cn s.Base.Sequent.Left+lcn Ft.cn s.Base.Sequent.Right+lcn Tt.cn s.Base.Term.Args+lcn Tt.cn s.Base.Cut.Atom.Args+lcn Ft.cn s.Base.Cut.Parts+lcn Dt.cn s.Base.Parts+lcn Ft.cn s.Step.Sequent.Left+lcn Ft.cn s.Step.Sequent.Right+lcn Tt.cn s.Step.Term.Args+lcn Tt.cn s.Step.Cut.Atom.Args+lcn Ft.cn s.Step.Cut.Parts+lcn Dt.cn s.Step.Parts)=A at m1
 generalize hB:lcn Ft.cn r.1.Left+lcn Ft.cn r.1.Right=B at k1 k2
 have d1:decide ((1:Int)+(A:Int)<0)=false:=decide_eq_false (by omega)
 have d2:decide ((1:Int)+(B:Int)<0)=false:=decide_eq_false (by omega)
 rw[decide_eq_false e,cond_false]
 simp only[tSe_1 s ht,al,g1,g2,eSr_1,eSr_,cond_true,beq_self_eq_true,m1,k1,k2,d1,d2,cond_false,decide_true]
end Go.Proofs.YtlgeocknlmbgeaaGreat
