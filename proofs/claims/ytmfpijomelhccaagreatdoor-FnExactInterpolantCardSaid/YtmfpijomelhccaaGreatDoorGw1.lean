/- Lemmas of the proof; each says what it shows. -/
import Derived.Test.YtmfpijomelhccaaGreatDoorGw0
set_option linter.unusedSimpArgs false
set_option linter.unusedVariables false
set_option linter.defProp false
set_option maxRecDepth 4000
namespace Go.Proofs.YtmfpijomelhccaaGreatDoor
open Go.Av
open And renaming intro→ae
open CallH renaming c→aj
open CondH renaming t3→aF,f3→aG,run→ah
open DrawH renaming ak→aX
open FinH renaming zl→ai
open Ft renaming pv→am
open IdxH renaming c→au
open List renaming length_map→aD
open Mg renaming know_sl→aP,forN→aJ
open Pt renaming pv→aE
open Run renaming of0→ap
open Sat renaming go→ar
open St renaming le_mk2→az
open Tryz renaming prog→ag
open Tt renaming pv→aq
open VSeq renaming step→ao,nil→aH
set_option maxHeartbeats 4000000
theorem impl_mapParts_sat{a0:Ft}{a1:Ft→Option Ft}{a1_id:FuncId}{a1_cs:List PV}(a1_ok:∀ y0 r,a1 y0=some r→Sat ag a1_id (((am false) y0)::a1_cs) ((am true) r))(a1_cz:CapsOk a1_cs=True){r:Ft}(h:impl_mapParts a0 a1=some r):Sat ag 128 [((am false) a0),.clo a1_id a1_cs] ((am true) r):=by
 obtain⟨h,cs⟩:=ap h
 unfold impl_mapParts at h
 have cs:=ae a1_cz cs
 refine ar 33 [.cell 4 42] Tryz.func128 (h:=S ?_)
 refine run_bk h fun v12 q h=>aj [false] (impl_copyTerm_sat q) (S ?_)
 refine ae (aX [5] [192]) (S ?_)
 refine aP (b:=false) (sz:=5) (es:=a0.Parts.map (am false)) 17 SC fun hl17=>?_; rw[aD] at hl17
 refine aJ (run_loop h) (fun i3 s3=>[(1,.val (.pv (.clo a1_id a1_cs))),(4,.box zab0),(5,.box (.node [(.pv (I a0.Op)),(.node [(.pv (Sx v12.Name)),(.own 192)]),(.pv (Sx a0.Var)),(.own 9309)])),(17,.val (.pv (.sl false 5 (a0.Parts.map (am false))))),(18,.val (.pv (I (a0.Parts.length:Int)))),(19,.val (.pv (I (i3:Int))))]) (fun i3 s3=>[(192,(2,v12.Args.map (aq true))),(9309,(5,s3.map (am true)))]) (St.le_trans (St.le_nilB (x:=(.node [(.pv (I a0.Op)),(.node [(.pv (Sx v12.Name)),(.own 192)]),(.pv (Sx a0.Var)),(.pv (.sl true 5 []))])) 5 [3] 9309 5 NM SC SC SC) (az SC)) (fun i3 s3 hi h=>?_) (fun s3 h=>?_)
 ·have w:=wrap_s2 i3
  refine S ?_
  refine aF cs fun cs=>S ?_
  refine run_bk h fun v21 q h=>au (am false) q (S ?_)
  refine run_bk h fun v27 q h=>aj [false] (a1_ok _ _ q) (S ?_)
  refine run_bk h fun v29 q h=>AppH.c (am true) (fun a=>Ft.psize _ a) q (S ?_)
  refine ae (aX [] [432,433,448,464]) (S ?_)
  have h:=run_some h
  refine RdH.mk ⟨_,h,?_⟩
  refine St.le_rt 464 9309 ?_
  exact az SWx
 ·refine S ?_
  refine aG cs fun cs=>S ?_
  exact ai h

theorem impl_copyFormulaN_sat(n:Nat):(∀ (a0:Ft) (r:Ft),impl_copyFormulaN n a0=some r→Sat ag 86 [((am false) a0)] ((am true) r)):=by
 induction n with
 | zero=>exact fun _ _ h=>by simp[impl_copyFormulaN] at h
 | succ n ih=>
  refine fun a0 r h=>?_
  obtain⟨h,cs⟩:=ap h
  rw[impl_copyFormulaN] at h
  refine ar 5 [.cell 2 42] Tryz.func86 (h:=S ?_)
  refine run_bk h fun v4 q h=>aj [false,false] (impl_mapParts_sat (fun _ _ hh=>ih _ _ hh) (by simp only[CapsOk_nil,CapsOk_cons]) q) (S ?_)
  exact ai h
theorem impl_copyFormula_sat{a0:Ft}{r:Ft}(h:impl_copyFormula a0=some r):Sat ag 86 [((am false) a0)] ((am true) r):=by
 obtain⟨n,hn⟩:=lim_some h
 exact(impl_copyFormulaN_sat n) _ _ hn

theorem impl_copyFormulas_sat{a0:List Ft}  {r:List Ft}(h:impl_copyFormulas a0=some r):Sat ag 44 [(.sl false 5 (a0.map (am false)))] (.sl true 5 (r.map (am true))):=by
 obtain⟨h,cs⟩:=ap h
 unfold impl_copyFormulas at h
 refine ar 20 [.tmp 2] Tryz.func44 (h:=S ?_)
 refine aP (b:=false) (sz:=5) (es:=a0.map (am false)) 0 SC fun hl0=>?_; rw[aD] at hl0
 refine aJ (run_loop h) (fun i3 s3=>[(3,.val (.own 96)),(7,.val (.pv (.sl false 5 (a0.map (am false))))),(8,.val (.pv (I (a0.length:Int)))),(9,.val (.pv (I (i3:Int))))]) (fun i3 s3=>[(96,(5,s3.map (am true)))]) (az SC) (fun i3 s3 hi h=>?_) (fun s3 h=>?_)
 ·have w:=wrap_s2 i3
  refine S ?_
  refine aF cs fun cs=>S ?_
  refine run_bk h fun v11 q h=>au (am false) q (S ?_)
  refine run_bk h fun v15 q h=>aj [false] (impl_copyFormula_sat q) (S ?_)
  refine run_bk h fun v17 q h=>AppH.c (am true) (fun a=>Ft.psize _ a) q (S ?_)
  have h:=run_some h
  refine RdH.mk ⟨_,h,?_⟩
  refine St.le_rt 272 96 ?_
  exact az SWx
 ·refine S ?_
  refine aG cs fun cs=>S ?_
  exact ai h

theorem impl_StepInterpolants_sat{a0:List (List Int)}{a1:List Pt}{a2:Int}{a3:Int}  {r:(List Ft)×Bool}(h:impl_StepInterpolants a0 a1 a2 a3=some r):Sat ag 11 [(.sl false 1 (a0.map (Lv false 1 I))),(.sl false 4 (a1.map (aE false))),(I a2),(I a3)] (.tup [(.sl true 5 (r.1.map (am true))),(B r.2)]):=by
 obtain⟨h,cs⟩:=ap h
 unfold impl_StepInterpolants at h
 refine Sat.of_mi (nt:=85) (rs:=[.tmp 8,.tmp 9]) (n:=100000) Tryz.func11 rfl rfl rfl rfl (by simp) (S ?_)
 refine ao (S ?_)
 refine ao (S ?_)
 refine aH (Nat.le_of_eq rfl) (S ?_)
 refine ao (S ?_)
 refine ao (S ?_)
 refine ao (S ?_)
 refine run_bk h fun v18 q h=>aj [false,false] (impl_isPropRefutation_sat q) (S ?_)
 refine ao (S ?_)
 refine ao (S ?_)
 refine ao (S ?_)
 refine ah cs h (fun cs h=>S ?_) fun cs h=>S ?_
 ·refine ao (S ?_)
  refine ao (S ?_)
  refine run_bk h fun v23 q h=>aj [false,false] (impl_isSplit_sat q) (S ?_)
  refine ao (S ?_)
  refine ao (S ?_)
  refine ao (S ?_)
  refine ao (S ?_)
  refine ah cs h (fun cs h=>S ?_) fun cs h=>S ?_
  ·refine ao (S ?_)
   refine run_bk h fun v28 q h=>aj [false,false,false] (impl_within_sat q) (S ?_)
   refine ao (S ?_)
   refine ao (S ?_)
   refine aH (Nat.le_of_eq rfl) (S ?_)
   refine ah cs h (fun cs h=>S ?_) fun cs h=>S ?_
   ·refine ao (S ?_)
    refine ao (S ?_)
    refine ao (S ?_)
    refine ao (S ?_)
    refine ao (S ?_)
    refine ao (S ?_)
    refine run_bk h fun v36 q h=>aj [false,false] (Sat.vwOf (res':=(.sl false 1 (v36.map I))) (impl_colors_sat q) (by simp only[view_tup,view_sl,view_agg,view_lit,PV.views,RB,RS])) (S ?_)
    refine ao (S ?_)
    refine ao (S ?_)
    refine VSeq.weaken (St.le_frz (x:=(.node [(.pv (.sl false 1 (a0.map (Lv false 1 I)))),(.pv (I a2)),(.pv (I a3)),(.pv (.sl false 1 (v36.map I)))])) 38 SC) (S ?_)
    refine ao (S ?_)
    refine aH (Nat.le_of_eq rfl) (S ?_)
    refine ao (S ?_)
    refine ao (S ?_)
    refine aH (Nat.le_of_eq rfl) (S ?_)
    refine ao (S ?_)
    refine ao (S ?_)
    refine ao (S ?_)
    refine aH (Nat.le_of_eq rfl) (S ?_)
    refine MgI.know_sl (b:=false) (sz:=1) (es:=a0.map (Lv false 1 I)) 0 SC fun hl0=>?_; rw[aD] at hl0
    replace h:=run_loop h
    refine MgI.forN h (fun i6 s6=>[(0,.val (.pv (.sl false 1 (a0.map (Lv false 1 I))))),(1,.val (.pv (.sl false 4 (a1.map (aE false))))),(10,.val (.pv (.ptr (.agg [(.sl false 1 (a0.map (Lv false 1 I))),(I a2),(I a3),(.sl false 1 (v36.map I))])))),(11,.val (.own 624)),(41,.val (.pv (I (a0.length:Int)))),(42,.val (.pv (I (i6:Int))))]) (fun i6 s6=>[(624,(5,s6.map (am false)))]) (az SC) (fun i6 s6 hi h=>?_) (fun s6 h=>?_)
    ·have w:=wrap_s2 i6
     refine S ?_
     refine ao (S ?_)
     refine aH (Nat.le_of_eq rfl) (S ?_)
     refine aF cs fun cs=>S ?_
     refine ao (S ?_)
     refine ao (S ?_)
     refine aH (Nat.le_of_eq rfl) (S ?_)
     refine ao (S ?_)
     refine ao (S ?_)
     refine ao (S ?_)
     refine ao (S ?_)
     refine run_bk h fun v48 q h=>aj [false,false] (impl_interpolation__ofClause_sat q) (S ?_)
     refine ao (S ?_)
     refine ao (S ?_)
     refine run_bk h fun v50 q h=>AppH.c (am false) (fun a=>Ft.psize _ a) q (S ?_)
     refine ao (S ?_)
     refine aH (Nat.le_of_eq rfl) (S ?_)
     refine ao (S ?_)
     refine ao (S ?_)
     refine aH (Nat.le_of_eq rfl) (S ?_)
     have h:=run_some h
     refine RdH.mk ⟨_,h,?_⟩
     refine St.le_rt 800 624 ?_
     exact az SWx
    ·refine S ?_
     refine ao (S ?_)
     refine aH (Nat.le_of_eq rfl) (S ?_)
     refine aG cs fun cs=>S ?_
     refine ao (S ?_)
     refine ao (S ?_)
     refine ao (S ?_)
     refine aH (Nat.le_of_eq rfl) (S ?_)
     refine MgI.know_sl (b:=false) (sz:=4) (es:=a1.map (aE false)) 1 SC fun hl1=>?_; rw[aD] at hl1
     replace h:=run_loop h
     refine MgI.forN h (fun i11 s11=>[(0,.val (.pv (.sl false 1 (a0.map (Lv false 1 I))))),(10,.val (.pv (.ptr (.agg [(.sl false 1 (a0.map (Lv false 1 I))),(I a2),(I a3),(.sl false 1 (v36.map I))])))),(11,.val (.own 624)),(52,.val (.pv (.sl false 4 (a1.map (aE false))))),(53,.val (.pv (I (a1.length:Int)))),(54,.val (.pv (I (i11:Int))))]) (fun i11 s11=>[(624,(5,s11.map (am false)))]) (az SC) (fun i11 s11 hi h=>?_) (fun s11 h=>?_)
     ·have w:=wrap_s2 i11
      refine S ?_
      refine ao (S ?_)
      refine aH (Nat.le_of_eq rfl) (S ?_)
      refine aF cs fun cs=>S ?_
      refine ao (S ?_)
      refine run_bk h fun v56 q h=>au (aE false) q (S ?_)
      refine ao (S ?_)
      refine ao (S ?_)
      refine ao (S ?_)
      refine aH (Nat.le_of_eq rfl) (S ?_)
      refine run_bk h fun v64 q h=>au (am false) q (S ?_)
      refine run_bk h fun v65 q h=>EldH.c (am false) q (S ?_)
      refine run_bk h fun v69 q h=>au (am false) q (S ?_)
      refine run_bk h fun v70 q h=>EldH.c (am false) q (S ?_)
      refine run_bk h fun v71 q h=>aj [false,false,false,false] (impl_interpolation__ofStep_sat q) (S ?_)
      refine ae (aX [15] []) (S ?_)
      refine ao (S ?_)
      refine ao (S ?_)
      refine run_bk h fun v73 q h=>aj [false] (impl_IsValidFormula_sat q) (S ?_)
      refine ao (S ?_)
      refine aH (Nat.le_of_eq rfl) (S ?_)
      refine ah cs h (fun cs h=>S ?_) fun cs h=>S ?_
      ·refine ao (S ?_)
       refine ao (S ?_)
       refine ao (S ?_)
       refine ao (S ?_)
       refine run_bk h fun v78 q h=>AppH.c (am false) (fun a=>Ft.psize _ a) q (S ?_)
       refine ao (S ?_)
       refine aH (Nat.le_of_eq rfl) (S ?_)
       refine ao (S ?_)
       refine ao (S ?_)
       refine aH (Nat.le_of_eq rfl) (S ?_)
       have h:=run_some h
       refine RdH.mk ⟨_,h,?_⟩
       refine St.le_rt 1248 624 ?_
       exact az SWx
      ·refine ao (S ?_)
       refine ao (S ?_)
       refine aH (Nat.le_of_eq rfl) (S ?_)
       exact ai h
     ·refine S ?_
      refine ao (S ?_)
      refine aH (Nat.le_of_eq rfl) (S ?_)
      refine aG cs fun cs=>S ?_
      refine ao (S ?_)
      refine ao (S ?_)
      refine ao (S ?_)
      refine VSeq.demV (x:=(.own 624)) (sz:=5) (es:=s11.map (am false)) 80 [] 624 SC (S ?_)
      refine ao (S ?_)
      refine run_bk h fun v83 q h=>SlcH.mk (f:=(am false)) q SC (S ?_)
      refine ao (S ?_)
      refine run_bk h fun v84 q h=>aj [false] (impl_copyFormulas_sat q) (S ?_)
      refine ao (S ?_)
      refine ao (S ?_)
      refine aH (Nat.le_of_eq rfl) (S ?_)
      exact ai h
   ·refine ao (S ?_)
    refine ao (S ?_)
    refine aH (Nat.le_of_eq rfl) (S ?_)
    exact ai h
  ·refine ao (S ?_)
   refine ao (S ?_)
   refine ao (S ?_)
   refine aH (Nat.le_of_eq rfl) (S ?_)
   refine ao (S ?_)
   refine ao (S ?_)
   refine aH (Nat.le_of_eq rfl) (S ?_)
   exact ai h
 ·refine ao (S ?_)
  refine ao (S ?_)
  refine ao (S ?_)
  refine ao (S ?_)
  refine ao (S ?_)
  refine ao (S ?_)
  refine ao (S ?_)
  refine ao (S ?_)
  refine ao (S ?_)
  refine aH (Nat.le_of_eq rfl) (S ?_)
  refine ao (S ?_)
  refine ao (S ?_)
  refine aH (Nat.le_of_eq rfl) (S ?_)
  exact ai h

theorem impl_Interpolant_sat{a0:List (List Int)}{a1:List Pt}{a2:Int}{a3:Int}  {r:Ft×Bool}(h:impl_Interpolant a0 a1 a2 a3=some r):Sat ag 20 [(.sl false 1 (a0.map (Lv false 1 I))),(.sl false 4 (a1.map (aE false))),(I a2),(I a3)] (.tup [((am true) r.1),(B r.2)]):=by
 obtain⟨h,cs⟩:=ap h
 unfold impl_Interpolant at h
 refine Sat.of_mf (nt:=29) (rs:=[.cell 8 42,.tmp 9]) (n:=100000) Tryz.func20 rfl rfl rfl rfl (by simp) (S ?_)
 refine MgF.reg (S ?_)
 refine MgF.reg (S ?_)
 refine run_bk h fun v17 q h=>aj [false,false,false,false] (impl_StepInterpolants_sat q) (S ?_)
 refine MgF.reg (S ?_)
 refine ah cs h (fun cs h=>S ?_) fun cs h=>S ?_
 ·refine MgF.vseq (S ?_)
  refine ao (S ?_)
  refine ao (S ?_)
  refine ao (S ?_)
  refine ao (S ?_)
  refine ao (S ?_)
  refine run_bk h fun v27 q h=>au (am true) q (S ?_)
  obtain⟨v28,hv28,h⟩:=run_bind h
  refine VSeq.takeX (c:=272) (sz:=5) (fx:=(am true)) (row:=.agg [(I v28.Op),.agg [(Sx v28.Atom.Name),.sl true 2 (v28.Atom.Args.map (aq true))],(Sx v28.Var),.sl true 5 (v28.Parts.map (am true))]) hv28 rfl rfl rfl rfl (by simp only[Ft.pv_u,Tt.pv_u]) rfl SC (fun _ e=>nomatch e) (S ?_)
  intro q28 hq28
  refine ao (S ?_)
  refine ao (S ?_)
  refine aH (Nat.le_of_eq rfl) (S ?_)
  exact ai h
 ·refine MgF.reg (S ?_)
  exact ai h

theorem eqTermN_sat(n:Nat):(∀ (a0:Tt) (a1:Tt) (r:Bool),eqTermN n a0 a1=some r→Sat ag 51 [((aq false) a0),((aq false) a1)] (B r))∧(∀ (a0:List Tt) (a1:List Tt) (r:Bool),eqTermSN n a0 a1=some r→Sat ag 87 [(.sl false 2 (a0.map (aq false))),(.sl false 2 (a1.map (aq false)))] (B r)):=by
 induction n with
 | zero=>exact⟨fun _ _ _ h=>by simp[eqTermN] at h,fun _ _ _ h=>by simp[eqTermSN] at h⟩
 | succ n ih=>
  refine⟨fun a0 a1 r h=>?_,fun a0 a1 r h=>?_⟩
  ·obtain⟨h,cs⟩:=ap h
   rw[eqTermN] at h
   refine ar 16 [.tmp 4] Tryz.func51 (h:=S ?_)
   refine ah cs h (fun cs h=>S ?_) fun cs h=>S ?_
   refine run_bk h fun v14 q h=>aj [false,false] (ih.2 _ _ _ q) (S ?_)
   refine ah cs h (fun cs h=>S ?_) fun cs h=>S ?_
   all_goals
    exact ai h
  ·obtain⟨h,cs⟩:=ap h
   rw[eqTermSN] at h
   refine ar 27 [.tmp 4] Tryz.func87 (h:=S ?_)
   refine ah cs h (fun cs h=>S ?_) fun cs h=>S ?_
   ·refine aP (b:=false) (sz:=2) (es:=a0.map (aq false)) 0 SC fun hl0=>?_; rw[aD] at hl0
    refine aJ (run_loop h) (fun i4 s4=>[(0,.val (.pv (.sl false 2 (a0.map (aq false))))),(1,.val (.pv (.sl false 2 (a1.map (aq false))))),(5,.val (.pv (I (i4:Int))))]) (fun i4 s4=>[]) (az SC) (fun i4 s4 hi h=>?_) (fun s4 h=>?_)
    ·have w:=wrap_s2 i4
     refine S ?_
     refine aF cs fun cs=>S ?_
     refine run_bk h fun v19 q h=>au (aq false) q (S ?_)
     refine run_bk h fun v23 q h=>au (aq false) q (S ?_)
     refine run_bk h fun v25 q h=>aj [false,false] (ih.1 _ _ _ q) (S ?_)
     refine ae (aX [] []) (S ?_)
     refine ah cs h (fun cs h=>S ?_) fun cs h=>S ?_
     ·exact RdH.z h
     ·exact ai h
    ·refine S ?_
     refine aG cs fun cs=>S ?_
     exact ai h
   ·exact ai h
theorem eqTerm_sat{a0:Tt}{a1:Tt}{r:Bool}(h:eqTerm a0 a1=some r):Sat ag 51 [((aq false) a0),((aq false) a1)] (B r):=by
 obtain⟨n,hn⟩:=lim_some h
 exact(eqTermN_sat n).1 _ _ _ hn
theorem eqTermS_sat{a0:List Tt}{a1:List Tt}{r:Bool}(h:eqTermS a0 a1=some r):Sat ag 87 [(.sl false 2 (a0.map (aq false))),(.sl false 2 (a1.map (aq false)))] (B r):=by
 obtain⟨n,hn⟩:=lim_some h
 exact(eqTermN_sat n).2 _ _ _ hn

theorem eqFormulaSN_sat(n:Nat):(∀ (a0:List Ft) (a1:List Ft) (r:Bool),eqFormulaSN n a0 a1=some r→Sat ag 12 [(.sl false 5 (a0.map (am false))),(.sl false 5 (a1.map (am false)))] (B r))∧(∀ (a0:Ft) (a1:Ft) (r:Bool),eqFormulaN n a0 a1=some r→Sat ag 21 [((am false) a0),((am false) a1)] (B r)):=by
 induction n with
 | zero=>exact⟨fun _ _ _ h=>by simp[eqFormulaSN] at h,fun _ _ _ h=>by simp[eqFormulaN] at h⟩
 | succ n ih=>
  refine⟨fun a0 a1 r h=>?_,fun a0 a1 r h=>?_⟩
  ·obtain⟨h,cs⟩:=ap h
   rw[eqFormulaSN] at h
   refine ar 27 [.tmp 4] Tryz.func12 (h:=S ?_)
   refine ah cs h (fun cs h=>S ?_) fun cs h=>S ?_
   ·refine aP (b:=false) (sz:=5) (es:=a0.map (am false)) 0 SC fun hl0=>?_; rw[aD] at hl0
    refine aJ (run_loop h) (fun i4 s4=>[(0,.val (.pv (.sl false 5 (a0.map (am false))))),(1,.val (.pv (.sl false 5 (a1.map (am false))))),(5,.val (.pv (I (i4:Int))))]) (fun i4 s4=>[]) (az SC) (fun i4 s4 hi h=>?_) (fun s4 h=>?_)
    ·have w:=wrap_s2 i4
     refine S ?_
     refine aF cs fun cs=>S ?_
     refine run_bk h fun v19 q h=>au (am false) q (S ?_)
     refine run_bk h fun v23 q h=>au (am false) q (S ?_)
     refine run_bk h fun v25 q h=>aj [false,false] (ih.2 _ _ _ q) (S ?_)
     refine ae (aX [] []) (S ?_)
     refine ah cs h (fun cs h=>S ?_) fun cs h=>S ?_
     ·exact RdH.z h
     ·exact ai h
    ·refine S ?_
     refine aG cs fun cs=>S ?_
     exact ai h
   ·exact ai h
  ·obtain⟨h,cs⟩:=ap h
   rw[eqFormulaN] at h
   refine ar 27 [.tmp 4] Tryz.func21 (h:=S ?_)
   refine ah cs h (fun cs h=>S ?_) fun cs h=>S ?_
   refine run_bk h fun v14 q h=>aj [false,false] (eqTerm_sat q) (S ?_)
   refine ah cs h (fun cs h=>S ?_) fun cs h=>S ?_
   refine ah cs h (fun cs h=>S ?_) fun cs h=>S ?_
   refine run_bk h fun v25 q h=>aj [false,false] (ih.1 _ _ _ q) (S ?_)
   refine ah cs h (fun cs h=>S ?_) fun cs h=>S ?_
   all_goals
    exact ai h
theorem eqFormulaS_sat{a0:List Ft}{a1:List Ft}{r:Bool}(h:eqFormulaS a0 a1=some r):Sat ag 12 [(.sl false 5 (a0.map (am false))),(.sl false 5 (a1.map (am false)))] (B r):=by
 obtain⟨n,hn⟩:=lim_some h
 exact(eqFormulaSN_sat n).1 _ _ _ hn
theorem eqFormula_sat{a0:Ft}{a1:Ft}{r:Bool}(h:eqFormula a0 a1=some r):Sat ag 21 [((am false) a0),((am false) a1)] (B r):=by
 obtain⟨n,hn⟩:=lim_some h
 exact(eqFormulaSN_sat n).2 _ _ _ hn

theorem eqIntS_sat{a0:List Int}{a1:List Int}  {r:Bool}(h:eqIntS a0 a1=some r):Sat ag 45 [(.sl false 1 (a0.map I)),(.sl false 1 (a1.map I))] (B r):=by
 obtain⟨h,cs⟩:=ap h
 unfold eqIntS at h
 refine ar 26 [.tmp 4] Tryz.func45 (h:=S ?_)
 refine ah cs h (fun cs h=>S ?_) fun cs h=>S ?_
 ·refine aP (b:=false) (sz:=1) (es:=a0.map I) 0 SC fun hl0=>?_; rw[aD] at hl0
  refine aJ (run_loop h) (fun i4 s4=>[(0,.val (.pv (.sl false 1 (a0.map I)))),(1,.val (.pv (.sl false 1 (a1.map I)))),(5,.val (.pv (I (i4:Int))))]) (fun i4 s4=>[]) (az SC) (fun i4 s4 hi h=>?_) (fun s4 h=>?_)
  ·have w:=wrap_s2 i4
   refine S ?_
   refine aF cs fun cs=>S ?_
   refine run_bk h fun v19 q h=>au I q (S ?_)
   refine run_bk h fun v23 q h=>au I q (S ?_)
   refine ae (aX [] []) (S ?_)
   refine ah cs h (fun cs h=>S ?_) fun cs h=>S ?_
   ·exact RdH.z h
   ·exact ai h
  ·refine S ?_
   refine aG cs fun cs=>S ?_
   exact ai h
 ·exact ai h

theorem eqIntSS_sat{a0:List (List Int)}{a1:List (List Int)}  {r:Bool}(h:eqIntSS a0 a1=some r):Sat ag 13 [(.sl false 1 (a0.map (Lv false 1 I))),(.sl false 1 (a1.map (Lv false 1 I)))] (B r):=by
 obtain⟨h,cs⟩:=ap h
 unfold eqIntSS at h
 refine ar 27 [.tmp 4] Tryz.func13 (h:=S ?_)
 refine ah cs h (fun cs h=>S ?_) fun cs h=>S ?_
 ·refine aP (b:=false) (sz:=1) (es:=a0.map (Lv false 1 I)) 0 SC fun hl0=>?_; rw[aD] at hl0
  refine aJ (run_loop h) (fun i4 s4=>[(0,.val (.pv (.sl false 1 (a0.map (Lv false 1 I))))),(1,.val (.pv (.sl false 1 (a1.map (Lv false 1 I))))),(5,.val (.pv (I (i4:Int))))]) (fun i4 s4=>[]) (az SC) (fun i4 s4 hi h=>?_) (fun s4 h=>?_)
  ·have w:=wrap_s2 i4
   refine S ?_
   refine aF cs fun cs=>S ?_
   refine run_bk h fun v19 q h=>au (Lv false 1 I) q (S ?_)
   refine run_bk h fun v23 q h=>au (Lv false 1 I) q (S ?_)
   refine run_bk h fun v25 q h=>aj [false,false] (eqIntS_sat q) (S ?_)
   refine ae (aX [] []) (S ?_)
   refine ah cs h (fun cs h=>S ?_) fun cs h=>S ?_
   ·exact RdH.z h
   ·exact ai h
  ·refine S ?_
   refine aG cs fun cs=>S ?_
   exact ai h
 ·exact ai h

theorem eqPropStep_sat{a0:Pt}{a1:Pt}  {r:Bool}(h:eqPropStep a0 a1=some r):Sat ag 46 [((aE false) a0),((aE false) a1)] (B r):=by
 obtain⟨h,cs⟩:=ap h
 unfold eqPropStep at h
 refine ar 26 [.tmp 4] Tryz.func46 (h:=S ?_)
 refine ah cs h (fun cs h=>S ?_) fun cs h=>S ?_
 refine ah cs h (fun cs h=>S ?_) fun cs h=>S ?_
 refine ah cs h (fun cs h=>S ?_) fun cs h=>S ?_
 refine run_bk h fun v24 q h=>aj [false,false] (eqIntS_sat q) (S ?_)
 refine ah cs h (fun cs h=>S ?_) fun cs h=>S ?_
 all_goals
  exact ai h

theorem eqPropStepS_sat{a0:List Pt}{a1:List Pt}  {r:Bool}(h:eqPropStepS a0 a1=some r):Sat ag 14 [(.sl false 4 (a0.map (aE false))),(.sl false 4 (a1.map (aE false)))] (B r):=by
 obtain⟨h,cs⟩:=ap h
 unfold eqPropStepS at h
 refine ar 27 [.tmp 4] Tryz.func14 (h:=S ?_)
 refine ah cs h (fun cs h=>S ?_) fun cs h=>S ?_
 ·refine aP (b:=false) (sz:=4) (es:=a0.map (aE false)) 0 SC fun hl0=>?_; rw[aD] at hl0
  refine aJ (run_loop h) (fun i4 s4=>[(0,.val (.pv (.sl false 4 (a0.map (aE false))))),(1,.val (.pv (.sl false 4 (a1.map (aE false))))),(5,.val (.pv (I (i4:Int))))]) (fun i4 s4=>[]) (az SC) (fun i4 s4 hi h=>?_) (fun s4 h=>?_)
  ·have w:=wrap_s2 i4
   refine S ?_
   refine aF cs fun cs=>S ?_
   refine run_bk h fun v19 q h=>au (aE false) q (S ?_)
   refine run_bk h fun v23 q h=>au (aE false) q (S ?_)
   refine run_bk h fun v25 q h=>aj [false,false] (eqPropStep_sat q) (S ?_)
   refine ae (aX [] []) (S ?_)
   refine ah cs h (fun cs h=>S ?_) fun cs h=>S ?_
   ·exact RdH.z h
   ·exact ai h
  ·refine S ?_
   refine aG cs fun cs=>S ?_
   exact ai h
 ·exact ai h

theorem markIntS_sat{a0:List Int}{a1:Int}  {r:Int×(List Int)}(h:markIntS a0 a1=some r):SatIO ag 47 [(.sl true 1 (a0.map I)),(I a1)] [(.sl true 1 (r.2.map I)),(I a1)] (I r.1):=by
 obtain⟨h,cs⟩:=ap h
 unfold markIntS at h
 refine SatIO.of_m (nt:=19) (rs:=[.tmp 4]) (n:=100000) Tryz.func47 rfl rfl rfl rfl (by simp) (S ?_)
 replace h:=run_loop h
 refine Mg.whileN h (fun s2=>[(0,.val (.own 10000)),(1,.val (.pv (I s2.2.1))),(5,.val (.pv (I s2.2.2)))]) (fun s2=>[(10000,(1,s2.1.map I))]) (az SC) (fun n2 s2 h=>?_)
 refine S ?_
 refine ah cs h (fun cs h=>S ?_) fun cs h=>S ?_
 ·refine run_bk h fun v15 q h=>au I q (S ?_)
  refine run_bk h fun w2 q h=>EldH.c I q (S ?_)
  have h:=run_some h
  refine RdH.mk ⟨_,h,?_⟩
  exact az SC
 ·have h:=run_some h
  cases run_some h
  exact FinIO.mk SC

theorem markIntSS_sat{a0:List (List Int)}{a1:Int}  {r:Int×(List (List Int))}(h:markIntSS a0 a1=some r):SatIO ag 15 [(.sl true 1 (a0.map (Lv true 1 I))),(I a1)] [(.sl true 1 (r.2.map (Lv true 1 I))),(I a1)] (I r.1):=by
 obtain⟨h,cs⟩:=ap h
 unfold markIntSS at h
 refine SatIO.of_mi (nt:=19) (rs:=[.tmp 4]) (n:=100000) Tryz.func15 rfl rfl rfl rfl (by simp) (S ?_)
 refine ao (S ?_)
 refine aH (Nat.le_of_eq rfl) (S ?_)
 refine ao (S ?_)
 refine aH (Nat.le_of_eq rfl) (S ?_)
 replace h:=run_loop h
 refine MgI.whileN h (fun s2=>[(0,.val (.own 10000)),(1,.val (.pv (I s2.2.1))),(5,.val (.pv (I s2.2.2)))]) (fun s2=>[(10000,(1,s2.1.map (Lv true 1 I)))]) (az SC) (fun n2 s2 h=>?_)
 refine S ?_
 refine ao (S ?_)
 refine ao (S ?_)
 refine ao (S ?_)
 refine ao (S ?_)
 refine aH (Nat.le_of_eq rfl) (S ?_)
 refine ah cs h (fun cs h=>S ?_) fun cs h=>S ?_
 ·refine ao (S ?_)
  refine ao (S ?_)
  refine ao (S ?_)
  refine run_bk h fun v14 q h=>au (Lv true 1 I) q (S ?_)
  obtain⟨w2,hw2,h⟩:=run_bind h
  obtain⟨v17,hv17,h⟩:=run_bind h
  refine VSeq.innerM (fx:=(Lv true 1 I)) (c:=10000) (sz:=1) (p:=[]) (off:=0) (h1:=rfl) (h3:=rfl) (h2:=rfl) rfl rfl rfl rfl rfl rfl rfl rfl rfl hw2 (markIntS_sat hv17) SC SC (S ?_)
  refine ao (S ?_)
  refine aH (Nat.le_of_eq rfl) (S ?_)
  refine ao (S ?_)
  refine ao (S ?_)
  refine ao (S ?_)
  refine aH (Nat.le_of_eq rfl) (S ?_)
  have h:=run_some h
  refine RdH.mk ⟨_,h,?_⟩
  exact az SC
 ·have h:=run_some h
  refine ao (S ?_)
  refine ao (S ?_)
  refine aH (Nat.le_of_eq rfl) (S ?_)
  cases run_some h
  exact FinIO.mk SC

theorem markPropStepS_sat{a0:List Pt}{a1:Int}  {r:Int×(List Pt)}(h:markPropStepS a0 a1=some r):SatIO ag 16 [(.sl true 4 (a0.map (aE true))),(I a1)] [(.sl true 4 (r.2.map (aE true))),(I a1)] (I r.1):=by
 obtain⟨h,cs⟩:=ap h
 unfold markPropStepS at h
 refine SatIO.of_mi (nt:=41) (rs:=[.tmp 4]) (n:=100000) Tryz.func16 rfl rfl rfl rfl (by simp) (S ?_)
 refine ao (S ?_)
 refine aH (Nat.le_of_eq rfl) (S ?_)
 refine ao (S ?_)
 refine aH (Nat.le_of_eq rfl) (S ?_)
 replace h:=run_loop h
 refine MgI.whileN h (fun s2=>[(0,.val (.own 10000)),(1,.val (.pv (I s2.2.1))),(5,.val (.pv (I s2.2.2)))]) (fun s2=>[(10000,(4,s2.1.map (aE true)))]) (az SC) (fun n2 s2 h=>?_)
 refine S ?_
 refine ao (S ?_)
 refine ao (S ?_)
 refine ao (S ?_)
 refine ao (S ?_)
 refine aH (Nat.le_of_eq rfl) (S ?_)
 refine ah cs h (fun cs h=>S ?_) fun cs h=>S ?_
 ·refine ao (S ?_)
  refine ao (S ?_)
  refine ao (S ?_)
  refine ao (S ?_)
  refine run_bk h fun v15 q h=>au (aE true) q (S ?_)
  refine ao (S ?_)
  refine ao (S ?_)
  refine run_bk h fun w2 q h=>EldH.c (aE true) q (S ?_)
  refine aH (Nat.le_of_eq rfl) (S ?_)
  refine ao (S ?_)
  refine ao (S ?_)
  refine ao (S ?_)
  refine aH (Nat.le_of_eq rfl) (S ?_)
  refine ao (S ?_)
  refine ao (S ?_)
  refine ao (S ?_)
  refine ao (S ?_)
  refine run_bk h fun v22 q h=>au (aE true) q (S ?_)
  refine ao (S ?_)
  refine ao (S ?_)
  refine run_bk h fun w3 q h=>EldH.c (aE true) q (S ?_)
  refine aH (Nat.le_of_eq rfl) (S ?_)
  refine ao (S ?_)
  refine ao (S ?_)
  refine ao (S ?_)
  refine aH (Nat.le_of_eq rfl) (S ?_)
  refine ao (S ?_)
  refine ao (S ?_)
  refine ao (S ?_)
  refine ao (S ?_)
  refine run_bk h fun v29 q h=>au (aE true) q (S ?_)
  refine ao (S ?_)
  refine ao (S ?_)
  refine run_bk h fun w4 q h=>EldH.c (aE true) q (S ?_)
  refine aH (Nat.le_of_eq rfl) (S ?_)
  refine ao (S ?_)
  refine ao (S ?_)
  refine ao (S ?_)
  refine aH (Nat.le_of_eq rfl) (S ?_)
  refine ao (S ?_)
  refine ao (S ?_)
  refine ao (S ?_)
  refine run_bk h fun v35 q h=>au (aE true) q (S ?_)
  refine ao (S ?_)
  obtain⟨w5,hw5,h⟩:=run_bind h
  obtain⟨v39,hv39,h⟩:=run_bind h
  refine VSeq.innerM (fx:=(aE true)) (c:=10000) (sz:=4) (p:=[3]) (off:=3) (h1:=rfl) (h3:=rfl) (h2:=rfl) rfl rfl rfl rfl rfl rfl rfl rfl rfl hw5 (markIntS_sat hv39) SC SC (S ?_)
  refine ao (S ?_)
  refine aH (Nat.le_of_eq rfl) (S ?_)
  refine ao (S ?_)
  refine ao (S ?_)
  refine ao (S ?_)
  refine aH (Nat.le_of_eq rfl) (S ?_)
  have h:=run_some h
  refine RdH.mk ⟨_,h,?_⟩
  exact az SC
 ·have h:=run_some h
  refine ao (S ?_)
  refine ao (S ?_)
  refine aH (Nat.le_of_eq rfl) (S ?_)
  cases run_some h
  exact FinIO.mk SC

theorem markText_sat{a0:Int}  {r:ByteArray}(h:markText a0=some r):Sat ag 48 [(I a0)] (Sx r):=by
 obtain⟨h,cs⟩:=ap h
 unfold markText at h
 refine ar 20 [.tmp 2] Tryz.func48 (h:=S ?_)
 refine ah cs h (fun cs h=>S ?_) fun cs h=>S ?_
 ·exact ai h
 ·replace h:=run_loop h
  refine Mg.whileN h (fun s4=>[(0,.val (.pv (I s4.1))),(3,.val (.pv (Sx s4.2)))]) (fun s4=>[]) (az SC) (fun n4 s4 h=>?_)
  refine S ?_
  refine ah cs h (fun cs h=>S ?_) fun cs h=>S ?_
  ·refine run_bk h fun v9 q h=>remH.mk q (S ?_)
   refine run_bk h fun v13 q h=>BstrH.mk q SC (S ?_)
   refine run_bk h fun v15 q h=>SappH.mk q (S ?_)
   refine run_bk h fun v17 q h=>quoH.mk q (S ?_)
   have h:=run_some h
   refine RdH.mk ⟨_,h,?_⟩
   exact az SC
  ·have h:=run_some h
   refine run_bk h fun v19 q h=>SappH.mk q (S ?_)
   exact ai h

theorem markTermSN_sat(n:Nat):(∀ (a0:List Tt) (a1:Int) (r:Int×(List Tt)),markTermSN n a0 a1=some r→SatIO ag 49 [(.sl true 2 (a0.map (aq true))),(I a1)] [(.sl true 2 (r.2.map (aq true))),(I a1)] (I r.1)):=by
 induction n with
 | zero=>exact fun _ _ _ h=>by simp[markTermSN] at h
 | succ n ih=>
  refine fun a0 a1 r h=>?_
  obtain⟨h,cs⟩:=ap h
  rw[markTermSN] at h
  refine SatIO.of_mi (nt:=28) (rs:=[.tmp 4]) (n:=100000) Tryz.func49 rfl rfl rfl rfl (by simp) (S ?_)
  refine ao (S ?_)
  refine aH (Nat.le_of_eq rfl) (S ?_)
  refine ao (S ?_)
  refine aH (Nat.le_of_eq rfl) (S ?_)
  replace h:=run_loop h
  refine MgI.whileN h (fun s2=>[(0,.val (.own 10000)),(1,.val (.pv (I s2.2.1))),(5,.val (.pv (I s2.2.2)))]) (fun s2=>[(10000,(2,s2.1.map (aq true)))]) (az SC) (fun n2 s2 h=>?_)
  refine S ?_
  refine ao (S ?_)
  refine ao (S ?_)
  refine ao (S ?_)
  refine ao (S ?_)
  refine aH (Nat.le_of_eq rfl) (S ?_)
  refine ah cs h (fun cs h=>S ?_) fun cs h=>S ?_
  ·refine ao (S ?_)
   refine ao (S ?_)
   refine ao (S ?_)
   refine ao (S ?_)
   refine run_bk h fun v15 q h=>aj [false] (markText_sat q) (S ?_)
   refine ao (S ?_)
   refine run_bk h fun v16 q h=>au (aq true) q (S ?_)
   refine ao (S ?_)
   refine ao (S ?_)
   refine run_bk h fun w2 q h=>EldH.c (aq true) q (S ?_)
   refine aH (Nat.le_of_eq rfl) (S ?_)
   refine ao (S ?_)
   refine ao (S ?_)
   refine ao (S ?_)
   refine aH (Nat.le_of_eq rfl) (S ?_)
   refine ao (S ?_)
   refine ao (S ?_)
   refine ao (S ?_)
   refine run_bk h fun v22 q h=>au (aq true) q (S ?_)
   refine ao (S ?_)
   obtain⟨w3,hw3,h⟩:=run_bind h
   obtain⟨v26,hv26,h⟩:=run_bind h
   refine VSeq.innerM (fx:=(aq true)) (c:=10000) (sz:=2) (p:=[1]) (off:=1) (h1:=rfl) (h3:=rfl) (h2:=rfl) rfl rfl rfl rfl rfl rfl rfl rfl rfl hw3 (ih _ _ _ hv26) SC SC (S ?_)
   refine ao (S ?_)
   refine aH (Nat.le_of_eq rfl) (S ?_)
   refine ao (S ?_)
   refine ao (S ?_)
   refine ao (S ?_)
   refine aH (Nat.le_of_eq rfl) (S ?_)
   have h:=run_some h
   refine RdH.mk ⟨_,h,?_⟩
   exact az SC
  ·have h:=run_some h
   refine ao (S ?_)
   refine ao (S ?_)
   refine aH (Nat.le_of_eq rfl) (S ?_)
   cases run_some h
   exact FinIO.mk SC
theorem markTermS_sat{a0:List Tt}{a1:Int}{r:Int×(List Tt)}(h:markTermS a0 a1=some r):SatIO ag 49 [(.sl true 2 (a0.map (aq true))),(I a1)] [(.sl true 2 (r.2.map (aq true))),(I a1)] (I r.1):=by
 obtain⟨n,hn⟩:=lim_some h
 exact(markTermSN_sat n) _ _ _ hn

theorem markTerm_sat{a0:Tt}{a1:Int}  {r:Int×(List Tt)}(h:markTerm a0 a1=some r):SatIO ag 52 [((aq true) a0),(I a1)] [((aq true) (Tt.mk a0.Name r.2)),(I a1)] (I r.1):=by
 obtain⟨h,cs⟩:=ap h
 unfold markTerm at h
 refine SatIO.of_m (nt:=10) (rs:=[.tmp 4]) (n:=100000) Tryz.func52 rfl rfl rfl rfl (by simp) (S ?_)
 obtain⟨v8,hv8,h⟩:=run_bind h
 refine CallH.io [(.own 10000),(.pv (I a1))] [(10000,(2,v8.2.map (aq true)))] (markTermS_sat hv8) SC (S ?_)
 cases run_some h
 exact FinIO.mk SC

theorem markFormulaSN_sat(n:Nat):(∀ (a0:List Ft) (a1:Int) (r:Int×(List Ft)),markFormulaSN n a0 a1=some r→SatIO ag 17 [(.sl true 5 (a0.map (am true))),(I a1)] [(.sl true 5 (r.2.map (am true))),(I a1)] (I r.1)):=by
 induction n with
 | zero=>exact fun _ _ _ h=>by simp[markFormulaSN] at h
 | succ n ih=>
  refine fun a0 a1 r h=>?_
  obtain⟨h,cs⟩:=ap h
  rw[markFormulaSN] at h
  refine SatIO.of_mi (nt:=52) (rs:=[.tmp 4]) (n:=100000) Tryz.func17 rfl rfl rfl rfl (by simp) (S ?_)
  refine ao (S ?_)
  refine aH (Nat.le_of_eq rfl) (S ?_)
  refine ao (S ?_)
  refine aH (Nat.le_of_eq rfl) (S ?_)
  replace h:=run_loop h
  refine MgI.whileN h (fun s2=>[(0,.val (.own 10000)),(1,.val (.pv (I s2.2.1))),(5,.val (.pv (I s2.2.2)))]) (fun s2=>[(10000,(5,s2.1.map (am true)))]) (az SC) (fun n2 s2 h=>?_)
  refine S ?_
  refine ao (S ?_)
  refine ao (S ?_)
  refine ao (S ?_)
  refine ao (S ?_)
  refine aH (Nat.le_of_eq rfl) (S ?_)
  refine ah cs h (fun cs h=>S ?_) fun cs h=>S ?_
  ·refine ao (S ?_)
   refine ao (S ?_)
   refine ao (S ?_)
   refine ao (S ?_)
   refine run_bk h fun v15 q h=>au (am true) q (S ?_)
   refine ao (S ?_)
   refine ao (S ?_)
   refine run_bk h fun w2 q h=>EldH.c (am true) q (S ?_)
   refine aH (Nat.le_of_eq rfl) (S ?_)
   refine ao (S ?_)
   refine ao (S ?_)
   refine ao (S ?_)
   refine aH (Nat.le_of_eq rfl) (S ?_)
   refine ao (S ?_)
   refine ao (S ?_)
   refine ao (S ?_)
   refine ao (S ?_)
   refine run_bk h fun v22 q h=>aj [false] (markText_sat q) (S ?_)
   refine ao (S ?_)
   refine run_bk h fun v23 q h=>au (am true) q (S ?_)
   refine ao (S ?_)
   refine ao (S ?_)
   refine ao (S ?_)
   refine run_bk h fun w3 q h=>EldH.c (am true) q (S ?_)
   refine aH (Nat.le_of_eq rfl) (S ?_)
   refine ao (S ?_)
   refine ao (S ?_)
   refine ao (S ?_)
   refine aH (Nat.le_of_eq rfl) (S ?_)
   refine ao (S ?_)
   refine ao (S ?_)
   refine ao (S ?_)
   refine run_bk h fun v30 q h=>au (am true) q (S ?_)
   refine ao (S ?_)
   refine ao (S ?_)
   obtain⟨w4,hw4,h⟩:=run_bind h
   obtain⟨v35,hv35,h⟩:=run_bind h
   refine VSeq.innerM (fx:=(am true)) (c:=10000) (sz:=5) (p:=[1,1]) (off:=2) (h1:=rfl) (h3:=rfl) (h2:=rfl) rfl rfl rfl rfl rfl rfl rfl rfl rfl hw4 (markTermS_sat hv35) SC SC (S ?_)
   refine ao (S ?_)
   refine aH (Nat.le_of_eq rfl) (S ?_)
   refine ao (S ?_)
   refine ao (S ?_)
   refine ao (S ?_)
   refine ao (S ?_)
   refine run_bk h fun v39 q h=>aj [false] (markText_sat q) (S ?_)
   refine ao (S ?_)
   refine run_bk h fun v40 q h=>au (am true) q (S ?_)
   refine ao (S ?_)
   refine ao (S ?_)
   refine run_bk h fun w5 q h=>EldH.c (am true) q (S ?_)
   refine aH (Nat.le_of_eq rfl) (S ?_)
   refine ao (S ?_)
   refine ao (S ?_)
   refine ao (S ?_)
   refine aH (Nat.le_of_eq rfl) (S ?_)
   refine ao (S ?_)
   refine ao (S ?_)
   refine ao (S ?_)
   refine run_bk h fun v46 q h=>au (am true) q (S ?_)
   refine ao (S ?_)
   obtain⟨w6,hw6,h⟩:=run_bind h
   obtain⟨v50,hv50,h⟩:=run_bind h
   refine VSeq.innerM (fx:=(am true)) (c:=10000) (sz:=5) (p:=[3]) (off:=4) (h1:=rfl) (h3:=rfl) (h2:=rfl) rfl rfl rfl rfl rfl rfl rfl rfl rfl hw6 (ih _ _ _ hv50) SC SC (S ?_)
   refine ao (S ?_)
   refine aH (Nat.le_of_eq rfl) (S ?_)
   refine ao (S ?_)
   refine ao (S ?_)
   refine ao (S ?_)
   refine aH (Nat.le_of_eq rfl) (S ?_)
   have h:=run_some h
   refine RdH.mk ⟨_,h,?_⟩
   exact az SC
  ·have h:=run_some h
   refine ao (S ?_)
   refine ao (S ?_)
   refine aH (Nat.le_of_eq rfl) (S ?_)
   cases run_some h
   exact FinIO.mk SC
theorem markFormulaS_sat{a0:List Ft}{a1:Int}{r:Int×(List Ft)}(h:markFormulaS a0 a1=some r):SatIO ag 17 [(.sl true 5 (a0.map (am true))),(I a1)] [(.sl true 5 (r.2.map (am true))),(I a1)] (I r.1):=by
 obtain⟨n,hn⟩:=lim_some h
 exact(markFormulaSN_sat n) _ _ _ hn

theorem markFormula_sat{a0:Ft}{a1:Int}  {r:Int×(List Tt)×(List Ft)}(h:markFormula a0 a1=some r):SatIO ag 22 [((am true) a0),(I a1)] [((am true) (Ft.mk a0.Op (Tt.mk a0.Atom.Name r.2.1) a0.Var r.2.2)),(I a1)] (I r.1):=by
 obtain⟨h,cs⟩:=ap h
 unfold markFormula at h
 refine SatIO.of_m (nt:=14) (rs:=[.tmp 4]) (n:=100000) Tryz.func22 rfl rfl rfl rfl (by simp) (S ?_)
 obtain⟨v8,hv8,h⟩:=run_bind h
 refine CallH.io [(.node [(.pv (Sx a0.Atom.Name)),(.own 10000)]),(.pv (I a1))] [(10000,(2,v8.2.map (aq true)))] (markTerm_sat hv8) SC (S ?_)
 obtain⟨v12,hv12,h⟩:=run_bind h
 refine CallH.io [(.own 10001),(.pv (I v8.1))] [(10001,(5,v12.2.map (am true)))] (markFormulaS_sat hv12) SC (S ?_)
 cases run_some h
 exact FinIO.mk SC

theorem heldTermSN_sat(n:Nat):(∀ (a0:List Tt) (a1:Int) (r:Int),heldTermSN n a0 a1=some r→Sat ag 50 [(.sl false 2 (a0.map (aq false))),(I a1)] (I r)):=by
 induction n with
 | zero=>exact fun _ _ _ h=>by simp[heldTermSN] at h
 | succ n ih=>
  refine fun a0 a1 r h=>?_
  obtain⟨h,cs⟩:=ap h
  rw[heldTermSN] at h
  refine ar 32 [.tmp 4] Tryz.func50 (h:=S ?_)
  refine aP (b:=false) (sz:=2) (es:=a0.map (aq false)) 0 SC fun hl0=>?_; rw[aD] at hl0
  refine aJ (run_loop h) (fun i2 s2=>[(0,.val (.pv (.sl false 2 (a0.map (aq false))))),(1,.val (.pv (I s2))),(5,.val (.pv (I (i2:Int))))]) (fun i2 s2=>[]) (az SC) (fun i2 s2 hi h=>?_) (fun s2 h=>?_)
  ·have w:=wrap_s2 i2
   refine S ?_
   refine aF cs fun cs=>S ?_
   refine run_bk h fun v14 q h=>au (aq false) q (S ?_)
   refine run_bk h fun v18 q h=>aj [false] (markText_sat q) (S ?_)
   refine ae (aX [] []) (S ?_)
   refine ah cs h (fun cs h=>S ?_) fun cs h=>S ?_
   ·refine run_bk h fun v24 q h=>au (aq false) q (S ?_)
    refine run_bk h fun v28 q h=>aj [false,false] (ih _ _ _ q) (S ?_)
    refine ah cs h (fun cs h=>S ?_) fun cs h=>S ?_
    ·exact ai h
    ·exact RdH.z h
   ·exact ai h
  ·refine S ?_
   refine aG cs fun cs=>S ?_
   exact ai h
theorem heldTermS_sat{a0:List Tt}{a1:Int}{r:Int}(h:heldTermS a0 a1=some r):Sat ag 50 [(.sl false 2 (a0.map (aq false))),(I a1)] (I r):=by
 obtain⟨n,hn⟩:=lim_some h
 exact(heldTermSN_sat n) _ _ _ hn

theorem heldTerm_sat{a0:Tt}{a1:Int}  {r:Int}(h:heldTerm a0 a1=some r):Sat ag 53 [((aq false) a0),(I a1)] (I r):=by
 obtain⟨h,cs⟩:=ap h
 unfold heldTerm at h
 refine ar 12 [.tmp 4] Tryz.func53 (h:=S ?_)
 refine run_bk h fun v8 q h=>aj [false,false] (heldTermS_sat q) (S ?_)
 refine ah cs h (fun cs h=>S ?_) fun cs h=>S ?_
 ·exact ai h
 ·exact ai h

theorem heldFormulaSN_sat(n:Nat):(∀ (a0:List Ft) (a1:Int) (r:Int),heldFormulaSN n a0 a1=some r→Sat ag 18 [(.sl false 5 (a0.map (am false))),(I a1)] (I r)):=by
 induction n with
 | zero=>exact fun _ _ _ h=>by simp[heldFormulaSN] at h
 | succ n ih=>
  refine fun a0 a1 r h=>?_
  obtain⟨h,cs⟩:=ap h
  rw[heldFormulaSN] at h
  refine ar 62 [.tmp 4] Tryz.func18 (h:=S ?_)
  refine aP (b:=false) (sz:=5) (es:=a0.map (am false)) 0 SC fun hl0=>?_; rw[aD] at hl0
  refine aJ (run_loop h) (fun i2 s2=>[(0,.val (.pv (.sl false 5 (a0.map (am false))))),(1,.val (.pv (I s2))),(5,.val (.pv (I (i2:Int))))]) (fun i2 s2=>[]) (az SC) (fun i2 s2 hi h=>?_) (fun s2 h=>?_)
  ·have w:=wrap_s2 i2
   refine S ?_
   refine aF cs fun cs=>S ?_
   refine run_bk h fun v14 q h=>au (am false) q (S ?_)
   refine ah cs h (fun cs h=>S ?_) fun cs h=>S ?_
   refine run_bk h fun v23 q h=>au (am false) q (S ?_)
   refine run_bk h fun v28 q h=>aj [false] (markText_sat q) (S ?_)
   refine ae (aX [] []) (S ?_)
   refine ah cs h (fun cs h=>S ?_) fun cs h=>S ?_
   refine run_bk h fun v34 q h=>au (am false) q (S ?_)
   refine run_bk h fun v39 q h=>aj [false,false] (heldTermS_sat q) (S ?_)
   refine ah cs h (fun cs h=>S ?_) fun cs h=>S ?_
   rotate_left
   refine run_bk h fun v44 q h=>au (am false) q (S ?_)
   refine run_bk h fun v48 q h=>aj [false] (markText_sat q) (S ?_)
   refine ae (aX [] []) (S ?_)
   refine ah cs h (fun cs h=>S ?_) fun cs h=>S ?_
   refine run_bk h fun v54 q h=>au (am false) q (S ?_)
   refine run_bk h fun v58 q h=>aj [false,false] (ih _ _ _ q) (S ?_)
   refine ah cs h (fun cs h=>S ?_) fun cs h=>S ?_
   rotate_left
   ·exact RdH.z h
   all_goals
    exact ai h
  ·refine S ?_
   refine aG cs fun cs=>S ?_
   exact ai h
theorem heldFormulaS_sat{a0:List Ft}{a1:Int}{r:Int}(h:heldFormulaS a0 a1=some r):Sat ag 18 [(.sl false 5 (a0.map (am false))),(I a1)] (I r):=by
 obtain⟨n,hn⟩:=lim_some h
 exact(heldFormulaSN_sat n) _ _ _ hn

theorem heldFormula_sat{a0:Ft}{a1:Int}  {r:Int}(h:heldFormula a0 a1=some r):Sat ag 23 [((am false) a0),(I a1)] (I r):=by
 obtain⟨h,cs⟩:=ap h
 unfold heldFormula at h
 refine ar 18 [.tmp 4] Tryz.func23 (h:=S ?_)
 refine run_bk h fun v8 q h=>aj [false,false] (heldTerm_sat q) (S ?_)
 refine ah cs h (fun cs h=>S ?_) fun cs h=>S ?_
 ·exact ai h
 ·refine run_bk h fun v14 q h=>aj [false,false] (heldFormulaS_sat q) (S ?_)
  refine ah cs h (fun cs h=>S ?_) fun cs h=>S ?_
  ·exact ai h
  ·exact ai h

theorem FnExactInterpolant_sat{a0:List (List Int)}{a1:List Pt}{a2:Int}{a3:Int}  {r:Bool}(h:FnExactInterpolant a0 a1 a2 a3=some r):Sat ag 4 [(.sl false 1 (a0.map (Lv false 1 I))),(.sl false 4 (a1.map (aE false))),(I a2),(I a3)] (B r):=by
 obtain⟨h,cs⟩:=ap h
 unfold FnExactInterpolant at h
 refine ar 129 [.tmp 8] Tryz.func4 (h:=S ?_)
 refine run_bk h fun v23 q h=>aj [false,false] (szIntSS_sat q) (S ?_)
 refine ah cs h (fun cs h=>S ?_) fun cs h=>S ?_
 rotate_left
 refine run_bk h fun v28 q h=>aj [false,false] (szPropStepS_sat q) (S ?_)
 refine ah cs h (fun cs h=>S ?_) fun cs h=>S ?_
 rotate_left
 refine run_bk h fun v33 q h=>aj [false] (toIntSS_sat q) (S ?_)
 refine run_bk h fun v35 q h=>aj [false] (toPropStepS_sat q) (S ?_)
 refine run_bk h fun v38 q h=>aj [true,true,false,false] (Sat.give (args:=[(.sl true 1 (v33.map (Lv true 1 I))),(.sl true 4 (v35.map (aE true))),(I a2),(I a3)]) [true,true,false,false] (by have gg:=spec_Interpolant_sat q; simp only[gv_t,gv_f,gv_n,view_sl,view_agg,view_lit,views_repB,views_repI,PV.views,RB,RS] at gg ⊢; exact gg)) (S ?_)
 refine run_bk h fun v42 q h=>aj [false] (toIntSS_sat q) (S ?_)
 refine run_bk h fun v44 q h=>aj [false] (toPropStepS_sat q) (S ?_)
 refine run_bk h fun v50 q h=>aj [false,false,false,false] (impl_Interpolant_sat q) (S ?_)
 refine run_bk h fun v55 q h=>aj [false,false] (eqFormula_sat q) (S ?_)
 refine ah cs h (fun cs h=>S ?_) fun cs h=>S ?_
 refine ah cs h (fun cs h=>S ?_) fun cs h=>S ?_
 refine run_bk h fun v64 q h=>aj [false] (toIntSS_sat q) (S ?_)
 refine run_bk h fun v65 q h=>aj [false,false] (eqIntSS_sat q) (S ?_)
 refine ah cs h (fun cs h=>S ?_) fun cs h=>S ?_
 refine run_bk h fun v69 q h=>aj [false] (toPropStepS_sat q) (S ?_)
 refine run_bk h fun v70 q h=>aj [false,false] (eqPropStepS_sat q) (S ?_)
 refine ah cs h (fun cs h=>S ?_) fun cs h=>S ?_
 obtain⟨v74,hv74,h⟩:=run_bind h
 refine CallH.io [(.own 672),(.pv (I 1))] [(672,(1,v74.2.map (Lv true 1 I)))] (markIntSS_sat hv74) SC (S ?_)
 obtain⟨v77,hv77,h⟩:=run_bind h
 refine CallH.io [(.own 704),(.pv (I v74.1))] [(704,(4,v77.2.map (aE true)))] (markPropStepS_sat hv77) SC (S ?_)
 refine ah cs h (fun cs h=>S ?_) fun cs h=>S ?_
 rotate_left
 refine run_bk h fun v83 q h=>aj [false,false] (eqFormula_sat q) (S ?_)
 refine ah cs h (fun cs h=>S ?_) fun cs h=>S ?_
 obtain⟨v93,hv93,h⟩:=run_bind h
 refine CallH.io [(.node [(.pv (I v50.1.Op)),(.node [(.pv (Sx v50.1.Atom.Name)),(.own 800)]),(.pv (Sx v50.1.Var)),(.own 801)]),(.pv (I 1))] [(800,(2,v93.2.1.map (aq true))),(801,(5,v93.2.2.map (am true)))] (markFormula_sat hv93) SC (S ?_)
 refine run_bk h fun v96 q h=>aj [false,false] (heldFormula_sat q) (S ?_)
 refine ah cs h (fun cs h=>S ?_) fun cs h=>S ?_
 rotate_left
 refine ah cs h (fun cs h=>S ?_) fun cs h=>S ?_
 refine run_bk h fun v104 q h=>aj [false] (toIntSS_sat q) (S ?_)
 refine run_bk h fun v106 q h=>aj [false] (toPropStepS_sat q) (S ?_)
 refine run_bk h fun v109 q h=>aj [false,false,false,false] (impl_Interpolant_sat q) (S ?_)
 refine run_bk h fun v114 q h=>aj [false,false] (eqFormula_sat q) (S ?_)
 refine ah cs h (fun cs h=>S ?_) fun cs h=>S ?_
 refine ah cs h (fun cs h=>S ?_) fun cs h=>S ?_
 refine run_bk h fun v123 q h=>aj [false,false] (heldFormula_sat q) (S ?_)
 refine ah cs h (fun cs h=>S ?_) fun cs h=>S ?_
 rotate_left
 refine ah cs h (fun cs h=>S ?_) fun cs h=>S ?_
 all_goals
  exact ai h

end Go.Proofs.YtmfpijomelhccaaGreatDoor
