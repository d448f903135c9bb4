/- Lemmas of the proof; each says what it shows. -/
import Derived.Test.YtmfpijomelhccaaGreatDoorGw0
set_option linter.unusedSimpArgs false
set_option linter.unusedVariables false
set_option linter.defProp false
set_option maxRecDepth 4000
namespace Go.Proofs.YtmfpijomelhccaaGreatDoor
open Go.Av
open And renaming intro→ae
open AppH renaming c→aU
open CallH renaming c→aj
open CondH renaming run→ah,t3→aG,f3→aH
open DrawH renaming ak→aY
open FinH renaming zl→al
open Ft renaming pv→am
open IdxH renaming c→au
open List renaming length_map→aF
open Mg renaming know_sl→aS,forN→aJ
open PV renaming views→aA
open RdH renaming mk→aX,z→aK
open Run renaming of0→ao
open Sat renaming go→aq
open SidxH renaming mk→bk
open St renaming le_mk2→aw,le_rt→bd
open Tryz renaming prog→ag
open Tt renaming pv→ar
set_option maxHeartbeats 4000000
theorem spec_l18Joined_sat{a0:List Ft}{a1:Int}{a2:Int}  {r:Ft}(h:spec_l18Joined a0 a1 a2=some r):Sat ag 106 [(.sl false 5 (a0.map (am false))),(I a1),(I a2)] ((am true) r):=by
 obtain⟨h,cs⟩:=ao h
 unfold spec_l18Joined at h
 refine aq 38 [.cell 6 42] Tryz.func106 (h:=S ?_)
 refine ah cs h (fun cs h=>S ?_) fun cs h=>S ?_
 ·exact al h
 ·refine run_bk h fun v18 q h=>au (am false) q (S ?_)
  refine run_bk h fun v20 q h=>aj [false] (spec_l8Own_sat q) (S ?_)
  replace h:=run_loop h
  refine Mg.whileN h (fun s5=>[(0,.val (.pv (.sl false 5 (a0.map (am false))))),(1,.val (.pv (I a1))),(6,.box zab0),(7,.box (.node [(.pv (I s5.1)),(.node [(.pv (Sx s5.2.1)),(.own 320)]),(.pv (Sx s5.2.2.2.1)),(.own 321)])),(8,.val (.pv (I s5.2.2.2.2.2)))]) (fun s5=>[(320,(2,s5.2.2.1.map (ar true))),(321,(5,s5.2.2.2.2.1.map (am true)))]) (aw SC) (fun n5 s5 h=>?_)
  refine S ?_
  refine ah cs h (fun cs h=>S ?_) fun cs h=>S ?_
  ·refine run_bk h fun v31 q h=>au (am false) q (S ?_)
   refine run_bk h fun v33 q h=>aj [false] (spec_l8Own_sat q) (S ?_)
   refine ae (aY [] [528,529,560]) (S ?_)
   have h:=run_some h
   refine aX ⟨_,h,?_⟩
   refine St.le_trans (St.le_mk (S:=[(0,.val (.pv (.sl false 5 (a0.map (am false))))),(1,.val (.pv (I a1))),(6,.box zab0),(7,.box (.node [(.pv (I a1)),zab1,(.pv (Sx ⟨#[]⟩)),(.own 560)])),(8,.val (.pv (I (IntKind.i64.wrap (s5.2.2.2.2.2-1)))))]) (O:=[(560,(5,([v33,(Ft.mk s5.1 (Tt.mk s5.2.1 s5.2.2.1) s5.2.2.2.1 s5.2.2.2.2.1)]).map (am true)))]) SC SC) ?_
   refine St.le_trans (St.le_nilB (x:=(.node [(.pv (I a1)),zab1,(.pv (Sx ⟨#[]⟩)),(.own 560)])) 7 [1,1] 9726 2 NM SC SC SC) (S ?_)
   refine bd 560 321 ?_
   refine bd 9726 320 ?_
   exact aw SC
  ·have h:=run_some h
   exact al h

theorem spec_l20Clause_sat{a0:List Int}  {r:Ft}(h:spec_l20Clause a0=some r):Sat ag 68 [(.sl false 1 (a0.map I))] ((am true) r):=by
 obtain⟨h,cs⟩:=ao h
 unfold spec_l20Clause at h
 refine aq 22 [.cell 2 42] Tryz.func68 (h:=S ?_)
 refine aS (b:=false) (sz:=1) (es:=a0.map I) 0 SC fun hl0=>?_; rw[aF] at hl0
 refine aJ (run_loop h) (fun i3 s3=>[(0,.val (.pv (.sl false 1 (a0.map I)))),(2,.box zab0),(3,.val (.own 80)),(4,.val (.pv (I (i3:Int))))]) (fun i3 s3=>[(80,(5,s3.map (am true)))]) (aw SC) (fun i3 s3 hi h=>?_) (fun s3 h=>?_)
 ·have w:=wrap_s2 i3
  refine S ?_
  refine aG cs fun cs=>S ?_
  refine run_bk h fun v15 q h=>au I q (S ?_)
  refine run_bk h fun v17 q h=>aj [false] (spec_l20Literal_sat q) (S ?_)
  refine run_bk h fun v19 q h=>aU (am true) (fun a=>Ft.psize _ a) q (S ?_)
  have h:=run_some h
  refine aX ⟨_,h,?_⟩
  refine bd 304 80 ?_
  exact aw SWx
 ·refine S ?_
  refine aH cs fun cs=>S ?_
  refine run_bk h fun v21 q h=>aj [false,false,false] (spec_l18Joined_sat q) (S ?_)
  exact al h

theorem spec_l2SameN_sat(n:Nat):(∀ (a0:Tt) (a1:Tt) (r:Bool),spec_l2SameN n a0 a1=some r→Sat ag 140 [((ar false) a0),((ar false) a1)] (B r)):=by
 induction n with
 | zero=>exact fun _ _ _ h=>by simp[spec_l2SameN] at h
 | succ n ih=>
  refine fun a0 a1 r h=>?_
  obtain⟨h,cs⟩:=ao h
  rw[spec_l2SameN] at h
  refine aq 39 [.tmp 4] Tryz.func140 (h:=S ?_)
  refine ah cs h (fun cs h=>S ?_) fun cs h=>S ?_
  refine ah cs h (fun cs h=>S ?_) fun cs h=>S ?_
  ·refine aS (b:=false) (sz:=2) (es:=a0.Args.map (ar false)) 13 SC fun hl13=>?_; rw[aF] at hl13
   refine aJ (run_loop h) (fun i4 s4=>[(2,.box (.pv ((ar false) a0))),(3,.box (.pv ((ar false) a1))),(5,.val (.pv (I (i4:Int))))]) (fun i4 s4=>[]) (aw SC) (fun i4 s4 hi h=>?_) (fun s4 h=>?_)
   ·have w:=wrap_s2 i4
    refine S ?_
    refine aG cs fun cs=>S ?_
    refine run_bk h fun v30 q h=>au (ar false) q (S ?_)
    refine run_bk h fun v35 q h=>au (ar false) q (S ?_)
    refine run_bk h fun v37 q h=>aj [false,false] (ih _ _ _ q) (S ?_)
    refine ae (aY [] []) (S ?_)
    refine ah cs h (fun cs h=>S ?_) fun cs h=>S ?_
    ·exact aK h
    ·exact al h
   ·refine S ?_
    refine aH cs fun cs=>S ?_
    exact al h
  all_goals
   exact al h
theorem spec_l2Same_sat{a0:Tt}{a1:Tt}{r:Bool}(h:spec_l2Same a0 a1=some r):Sat ag 140 [((ar false) a0),((ar false) a1)] (B r):=by
 obtain⟨n,hn⟩:=lim_some h
 exact(spec_l2SameN_sat n) _ _ _ hn

theorem spec_l8SameN_sat(n:Nat):(∀ (a0:Ft) (a1:Ft) (r:Bool),spec_l8SameN n a0 a1=some r→Sat ag 107 [((am false) a0),((am false) a1)] (B r)):=by
 induction n with
 | zero=>exact fun _ _ _ h=>by simp[spec_l8SameN] at h
 | succ n ih=>
  refine fun a0 a1 r h=>?_
  obtain⟨h,cs⟩:=ao h
  rw[spec_l8SameN] at h
  refine aq 54 [.tmp 4] Tryz.func107 (h:=S ?_)
  refine ah cs h (fun cs h=>S ?_) fun cs h=>S ?_
  refine ah cs h (fun cs h=>S ?_) fun cs h=>S ?_
  refine run_bk h fun v23 q h=>aj [false,false] (spec_l2Same_sat q) (S ?_)
  refine ah cs h (fun cs h=>S ?_) fun cs h=>S ?_
  refine ah cs h (fun cs h=>S ?_) fun cs h=>S ?_
  ·refine aS (b:=false) (sz:=5) (es:=a0.Parts.map (am false)) 28 SC fun hl28=>?_; rw[aF] at hl28
   refine aJ (run_loop h) (fun i4 s4=>[(2,.box (.pv ((am false) a0))),(3,.box (.pv ((am false) a1))),(5,.val (.pv (I (i4:Int))))]) (fun i4 s4=>[]) (aw SC) (fun i4 s4 hi h=>?_) (fun s4 h=>?_)
   ·have w:=wrap_s2 i4
    refine S ?_
    refine aG cs fun cs=>S ?_
    refine run_bk h fun v45 q h=>au (am false) q (S ?_)
    refine run_bk h fun v50 q h=>au (am false) q (S ?_)
    refine run_bk h fun v52 q h=>aj [false,false] (ih _ _ _ q) (S ?_)
    refine ae (aY [] []) (S ?_)
    refine ah cs h (fun cs h=>S ?_) fun cs h=>S ?_
    ·exact aK h
    ·exact al h
   ·refine S ?_
    refine aH cs fun cs=>S ?_
    exact al h
  all_goals
   exact al h
theorem spec_l8Same_sat{a0:Ft}{a1:Ft}{r:Bool}(h:spec_l8Same a0 a1=some r):Sat ag 107 [((am false) a0),((am false) a1)] (B r):=by
 obtain⟨n,hn⟩:=lim_some h
 exact(spec_l8SameN_sat n) _ _ _ hn

theorem spec_l20Two_sat{a0:Int}{a1:Ft}{a2:Ft}  {r:Ft}(h:spec_l20Two a0 a1 a2=some r):Sat ag 69 [(I a0),((am false) a1),((am false) a2)] ((am true) r):=by
 obtain⟨h,cs⟩:=ao h
 unfold spec_l20Two at h
 refine aq 50 [.cell 6 42] Tryz.func69 (h:=S ?_)
 refine ah cs h (fun cs h=>S ?_) fun cs h=>S ?_
 refine ah cs h (fun cs h=>S ?_) fun cs h=>S ?_
 rotate_left
 refine ah cs h (fun cs h=>S ?_) fun cs h=>S ?_
 rotate_left
 refine ah cs h (fun cs h=>S ?_) fun cs h=>S ?_
 rotate_left
 refine ah cs h (fun cs h=>S ?_) fun cs h=>S ?_
 rotate_left
 refine run_bk h fun v39 q h=>aj [false,false] (spec_l8Same_sat q) (S ?_)
 refine ah cs h (fun cs h=>S ?_) fun cs h=>S ?_
 rotate_left 2
 refine ah cs h (fun cs h=>S ?_) fun cs h=>S ?_
 rotate_left
 refine ah cs h (fun cs h=>S ?_) fun cs h=>S ?_
 rotate_left
 refine ah cs h (fun cs h=>S ?_) fun cs h=>S ?_
 rotate_left
 refine ah cs h (fun cs h=>S ?_) fun cs h=>S ?_
 rotate_left
 refine run_bk h fun v39 q h=>aj [false,false] (spec_l8Same_sat q) (S ?_)
 refine ah cs h (fun cs h=>S ?_) fun cs h=>S ?_
 rotate_left
 ·refine run_bk h fun v45 q h=>aj [false] (spec_l8Own_sat q) (S ?_)
  refine run_bk h fun v47 q h=>aj [false] (spec_l8Own_sat q) (S ?_)
  refine ae (aY [] [720,721,752,753,768]) (S ?_)
  exact al h
 ·exact al h
 ·exact al h
 ·refine run_bk h fun v30 q h=>aj [false] (spec_l8Own_sat q) (S ?_)
  exact al h
 rotate_left 2
 ·refine run_bk h fun v45 q h=>aj [false] (spec_l8Own_sat q) (S ?_)
  refine run_bk h fun v47 q h=>aj [false] (spec_l8Own_sat q) (S ?_)
  refine ae (aY [] [720,721,752,753,768]) (S ?_)
  exact al h
 ·exact al h
 ·exact al h
 ·refine run_bk h fun v30 q h=>aj [false] (spec_l8Own_sat q) (S ?_)
  exact al h
 all_goals
  refine run_bk h fun v42 q h=>aj [false] (spec_l8Own_sat q) (S ?_)
  exact al h

theorem spec_l8ManyN_sat(n:Nat):(∀ (a0:Ft) (a1:Int) (r:Int),spec_l8ManyN n a0 a1=some r→Sat ag 109 [((am false) a0),(I a1)] (I r)):=by
 induction n with
 | zero=>exact fun _ _ _ h=>by simp[spec_l8ManyN] at h
 | succ n ih=>
  refine fun a0 a1 r h=>?_
  obtain⟨h,cs⟩:=ao h
  rw[spec_l8ManyN] at h
  refine aq 31 [.tmp 4] Tryz.func109 (h:=S ?_)
  refine Mg.know_val2 (b:=false) (sz:=5) (es:=a0.Parts.map (am false)) (x:=(.pv ((am false) a0))) 0 [3] SC fun hl0=>?_; rw[aF] at hl0
  refine aJ (run_loop h) (fun i3 s3=>[(1,.val (.pv (I a1))),(2,.box (.pv ((am false) a0))),(5,.val (.pv (I s3))),(6,.val (.pv (I (i3:Int))))]) (fun i3 s3=>[]) (aw SC) (fun i3 s3 hi h=>?_) (fun s3 h=>?_)
  ·have w:=wrap_s2 i3
   refine S ?_
   refine aG cs fun cs=>S ?_
   refine ah cs h (fun cs h=>S ?_) fun cs h=>S ?_
   ·refine run_bk h fun v23 q h=>au (am false) q (S ?_)
    refine run_bk h fun v28 q h=>aj [false,false] (ih _ _ _ q) (S ?_)
    exact aK h
   ·exact al h
  ·refine S ?_
   refine aH cs fun cs=>S ?_
   exact al h
theorem spec_l8Many_sat{a0:Ft}{a1:Int}{r:Int}(h:spec_l8Many a0 a1=some r):Sat ag 109 [((am false) a0),(I a1)] (I r):=by
 obtain⟨n,hn⟩:=lim_some h
 exact(spec_l8ManyN_sat n) _ _ _ hn

theorem spec_l8None_sat{a0:Tt}  {r:Bool}(h:spec_l8None a0=some r):Sat ag 168 [((ar false) a0)] (B r):=by
 obtain⟨h,cs⟩:=ao h
 unfold spec_l8None at h
 refine aq 12 [.tmp 2] Tryz.func168 (h:=S ?_)
 refine ah cs h (fun cs h=>S ?_) fun cs h=>S ?_
 ·exact al h
 ·exact al h

theorem spec_l2ManyN_sat(n:Nat):(∀ (a0:Tt) (a1:Int) (r:Int),spec_l2ManyN n a0 a1=some r→Sat ag 208 [((ar false) a0),(I a1)] (I r)):=by
 induction n with
 | zero=>exact fun _ _ _ h=>by simp[spec_l2ManyN] at h
 | succ n ih=>
  refine fun a0 a1 r h=>?_
  obtain⟨h,cs⟩:=ao h
  rw[spec_l2ManyN] at h
  refine aq 31 [.tmp 4] Tryz.func208 (h:=S ?_)
  refine Mg.know_val2 (b:=false) (sz:=2) (es:=a0.Args.map (ar false)) (x:=(.pv ((ar false) a0))) 0 [1] SC fun hl0=>?_; rw[aF] at hl0
  refine aJ (run_loop h) (fun i3 s3=>[(1,.val (.pv (I a1))),(2,.box (.pv ((ar false) a0))),(5,.val (.pv (I s3))),(6,.val (.pv (I (i3:Int))))]) (fun i3 s3=>[]) (aw SC) (fun i3 s3 hi h=>?_) (fun s3 h=>?_)
  ·have w:=wrap_s2 i3
   refine S ?_
   refine aG cs fun cs=>S ?_
   refine ah cs h (fun cs h=>S ?_) fun cs h=>S ?_
   ·refine run_bk h fun v23 q h=>au (ar false) q (S ?_)
    refine run_bk h fun v28 q h=>aj [false,false] (ih _ _ _ q) (S ?_)
    exact aK h
   ·exact al h
  ·refine S ?_
   refine aH cs fun cs=>S ?_
   exact al h
theorem spec_l2Many_sat{a0:Tt}{a1:Int}{r:Int}(h:spec_l2Many a0 a1=some r):Sat ag 208 [((ar false) a0),(I a1)] (I r):=by
 obtain⟨n,hn⟩:=lim_some h
 exact(spec_l2ManyN_sat n) _ _ _ hn

theorem spec_l2DepthN_sat(n:Nat):(∀ (a0:Tt) (r:Int),spec_l2DepthN n a0=some r→Sat ag 209 [((ar false) a0)] (I r)):=by
 induction n with
 | zero=>exact fun _ _ h=>by simp[spec_l2DepthN] at h
 | succ n ih=>
  refine fun a0 r h=>?_
  obtain⟨h,cs⟩:=ao h
  rw[spec_l2DepthN] at h
  refine aq 22 [.tmp 2] Tryz.func209 (h:=S ?_)
  refine Mg.know_val2 (b:=false) (sz:=2) (es:=a0.Args.map (ar false)) (x:=(.pv ((ar false) a0))) 0 [1] SC fun hl0=>?_; rw[aF] at hl0
  refine aJ (run_loop h) (fun i3 s3=>[(1,.box (.pv ((ar false) a0))),(3,.val (.pv (I s3))),(4,.val (.pv (I (i3:Int))))]) (fun i3 s3=>[]) (aw SC) (fun i3 s3 hi h=>?_) (fun s3 h=>?_)
  ·have w:=wrap_s2 i3
   refine S ?_
   refine aG cs fun cs=>S ?_
   refine run_bk h fun v16 q h=>au (ar false) q (S ?_)
   refine run_bk h fun v18 q h=>aj [false] (ih _ _ q) (S ?_)
   refine run_bk h fun v19 q h=>aj [false,false] (spec_l1Most_sat q) (S ?_)
   exact aK h
  ·refine S ?_
   refine aH cs fun cs=>S ?_
   exact al h
theorem spec_l2Depth_sat{a0:Tt}{r:Int}(h:spec_l2Depth a0=some r):Sat ag 209 [((ar false) a0)] (I r):=by
 obtain⟨n,hn⟩:=lim_some h
 exact(spec_l2DepthN_sat n) _ _ hn

theorem spec_l2Fits_sat{a0:Tt}  {r:Bool}(h:spec_l2Fits a0=some r):Sat ag 187 [((ar false) a0)] (B r):=by
 obtain⟨h,cs⟩:=ao h
 unfold spec_l2Fits at h
 refine aq 11 [.tmp 2] Tryz.func187 (h:=S ?_)
 refine run_bk h fun v4 q h=>aj [false,false] (spec_l2Many_sat q) (S ?_)
 refine ah cs h (fun cs h=>S ?_) fun cs h=>S ?_
 ·refine run_bk h fun v8 q h=>aj [false] (spec_l2Depth_sat q) (S ?_)
  exact al h
 ·exact al h

theorem spec_l2Small_sat{a0:Int}  {r:Bool}(h:spec_l2Small a0=some r):Sat ag 191 [((Ik .u8) a0)] (B r):=by
 obtain⟨h,cs⟩:=ao h
 unfold spec_l2Small at h
 refine aq 17 [.tmp 2] Tryz.func191 (h:=S ?_)
 refine ah cs h (fun cs h=>S ?_) fun cs h=>S ?_
 refine ah cs h (fun cs h=>S ?_) fun cs h=>S ?_
 rotate_left
 refine ah cs h (fun cs h=>S ?_) fun cs h=>S ?_
 rotate_left 2
 refine ah cs h (fun cs h=>S ?_) fun cs h=>S ?_
 all_goals
  exact al h

theorem spec_l2Var_sat{a0:ByteArray}  {r:Bool}(h:spec_l2Var a0=some r):Sat ag 170 [(Sx a0)] (B r):=by
 obtain⟨h,cs⟩:=ao h
 unfold spec_l2Var at h
 refine aq 29 [.tmp 2] Tryz.func170 (h:=S ?_)
 refine run_bk h fun v6 q h=>aj [false,false,false] (spec_l1In_sat q) (S ?_)
 refine ah cs h (fun cs h=>S ?_) fun cs h=>S ?_
 refine run_bk h fun v10 q h=>bk q (S ?_)
 refine ah cs h (fun cs h=>S ?_) fun cs h=>S ?_
 rotate_left
 refine run_bk h fun v15 q h=>bk q (S ?_)
 refine ah cs h (fun cs h=>S ?_) fun cs h=>S ?_
 rotate_left
 ·obtain⟨N4,hN4,h⟩:=run_bind h
  obtain⟨hN4a,hN4b⟩:=bnd_some hN4
  replace h:=run_loop h
  refine Mg.forA (N:=N4) (a:=1) h (fun i4 s4=>[(0,.val (.pv (Sx a0))),(3,.val (.pv (I (i4:Int))))]) (fun i4 s4=>[]) (aw SC) (fun i4 s4 hi hj h=>?_) (fun j4 s4 hj h=>?_)
  ·have w:=wrap_s2 i4
   refine S ?_
   refine aG cs fun cs=>S ?_
   refine run_bk h fun v26 q h=>bk q (S ?_)
   refine run_bk h fun v27 q h=>aj [false] (spec_l2Small_sat q) (S ?_)
   refine ah cs h (fun cs h=>S ?_) fun cs h=>S ?_
   ·exact aK h
   ·exact al h
  ·refine S ?_
   refine aH cs fun cs=>S ?_
   exact al h
 all_goals
  exact al h

theorem spec_l2Symbol_sat{a0:ByteArray}  {r:Bool}(h:spec_l2Symbol a0=some r):Sat ag 189 [(Sx a0)] (B r):=by
 obtain⟨h,cs⟩:=ao h
 unfold spec_l2Symbol at h
 refine aq 45 [.tmp 2] Tryz.func189 (h:=S ?_)
 refine run_bk h fun v6 q h=>aj [false,false,false] (spec_l1In_sat q) (S ?_)
 refine ah cs h (fun cs h=>S ?_) fun cs h=>S ?_
 refine run_bk h fun v10 q h=>bk q (S ?_)
 refine ah cs h (fun cs h=>S ?_) fun cs h=>S ?_
 rotate_left
 refine run_bk h fun v15 q h=>bk q (S ?_)
 refine ah cs h (fun cs h=>S ?_) fun cs h=>S ?_
 rotate_left
 refine ah cs h (fun cs h=>S ?_) fun cs h=>S ?_
 rotate_left
 refine ah cs h (fun cs h=>S ?_) fun cs h=>S ?_
 rotate_left
 refine ah cs h (fun cs h=>S ?_) fun cs h=>S ?_
 rotate_left
 refine ah cs h (fun cs h=>S ?_) fun cs h=>S ?_
 rotate_left
 refine ah cs h (fun cs h=>S ?_) fun cs h=>S ?_
 rotate_left
 refine ah cs h (fun cs h=>S ?_) fun cs h=>S ?_
 rotate_left
 refine ah cs h (fun cs h=>S ?_) fun cs h=>S ?_
 rotate_left
 refine ah cs h (fun cs h=>S ?_) fun cs h=>S ?_
 rotate_left
 ·obtain⟨N14,hN14,h⟩:=run_bind h
  obtain⟨hN14a,hN14b⟩:=bnd_some hN14
  replace h:=run_loop h
  refine Mg.forA (N:=N14) (a:=1) h (fun i14 s14=>[(0,.val (.pv (Sx a0))),(3,.val (.pv (I (i14:Int))))]) (fun i14 s14=>[]) (aw SC) (fun i14 s14 hi hj h=>?_) (fun j14 s14 hj h=>?_)
  ·have w:=wrap_s2 i14
   refine S ?_
   refine aG cs fun cs=>S ?_
   refine run_bk h fun v36 q h=>bk q (S ?_)
   refine run_bk h fun v37 q h=>aj [false] (spec_l2Small_sat q) (S ?_)
   refine ah cs h (fun cs h=>S ?_) fun cs h=>S ?_
   ·exact aK h
   ·refine run_bk h fun v42 q h=>bk q (S ?_)
    refine ah cs h (fun cs h=>S ?_) fun cs h=>S ?_
    ·exact aK h
    ·exact al h
  ·refine S ?_
   refine aH cs fun cs=>S ?_
   exact al h
 all_goals
  exact al h

theorem spec_l2NodesN_sat(n:Nat):(∀ (a0:Tt) (r:Bool),spec_l2NodesN n a0=some r→Sat ag 188 [((ar false) a0)] (B r)):=by
 induction n with
 | zero=>exact fun _ _ h=>by simp[spec_l2NodesN] at h
 | succ n ih=>
  refine fun a0 r h=>?_
  obtain⟨h,cs⟩:=ao h
  rw[spec_l2NodesN] at h
  refine aq 35 [.tmp 2] Tryz.func188 (h:=S ?_)
  refine run_bk h fun v6 q h=>aj [false] (spec_l2Var_sat q) (S ?_)
  refine ah cs h (fun cs h=>S ?_) fun cs h=>S ?_
  rotate_left
  refine run_bk h fun v13 q h=>aj [false] (spec_l2Symbol_sat q) (S ?_)
  refine ah cs h (fun cs h=>S ?_) fun cs h=>S ?_
  refine ah cs h (fun cs h=>S ?_) fun cs h=>S ?_
  rotate_left
  ·refine aS (b:=false) (sz:=2) (es:=a0.Args.map (ar false)) 17 SC fun hl17=>?_; rw[aF] at hl17
   refine aJ (run_loop h) (fun i6 s6=>[(1,.box (.pv ((ar false) a0))),(3,.val (.pv (I (i6:Int))))]) (fun i6 s6=>[]) (aw SC) (fun i6 s6 hi h=>?_) (fun s6 h=>?_)
   ·have w:=wrap_s2 i6
    refine S ?_
    refine aG cs fun cs=>S ?_
    refine run_bk h fun v31 q h=>au (ar false) q (S ?_)
    refine run_bk h fun v33 q h=>aj [false] (ih _ _ q) (S ?_)
    refine ah cs h (fun cs h=>S ?_) fun cs h=>S ?_
    ·exact aK h
    ·exact al h
   ·refine S ?_
    refine aH cs fun cs=>S ?_
    exact al h
  all_goals
   exact al h
theorem spec_l2Nodes_sat{a0:Tt}{r:Bool}(h:spec_l2Nodes a0=some r):Sat ag 188 [((ar false) a0)] (B r):=by
 obtain⟨n,hn⟩:=lim_some h
 exact(spec_l2NodesN_sat n) _ _ hn

theorem spec_l2Good_sat{a0:Tt}  {r:Bool}(h:spec_l2Good a0=some r):Sat ag 190 [((ar false) a0)] (B r):=by
 obtain⟨h,cs⟩:=ao h
 unfold spec_l2Good at h
 refine aq 9 [.tmp 2] Tryz.func190 (h:=S ?_)
 refine run_bk h fun v4 q h=>aj [false] (spec_l2Fits_sat q) (S ?_)
 refine ah cs h (fun cs h=>S ?_) fun cs h=>S ?_
 ·refine run_bk h fun v7 q h=>aj [false] (spec_l2Nodes_sat q) (S ?_)
  exact al h
 ·exact al h

theorem spec_l2Atom_sat{a0:Tt}  {r:Bool}(h:spec_l2Atom a0=some r):Sat ag 169 [((ar false) a0)] (B r):=by
 obtain⟨h,cs⟩:=ao h
 unfold spec_l2Atom at h
 refine aq 35 [.tmp 2] Tryz.func169 (h:=S ?_)
 refine ah cs h (fun cs h=>S ?_) fun cs h=>S ?_
 ·refine ah cs h (fun cs h=>S ?_) fun cs h=>S ?_
  refine run_bk h fun v12 q h=>aj [false] (spec_l2Fits_sat q) (S ?_)
  refine ah cs h (fun cs h=>S ?_) fun cs h=>S ?_
  refine run_bk h fun v17 q h=>au (ar false) q (S ?_)
  refine run_bk h fun v19 q h=>aj [false] (spec_l2Nodes_sat q) (S ?_)
  refine ah cs h (fun cs h=>S ?_) fun cs h=>S ?_
  ·refine run_bk h fun v24 q h=>au (ar false) q (S ?_)
   refine run_bk h fun v26 q h=>aj [false] (spec_l2Nodes_sat q) (S ?_)
   exact al h
  all_goals
   exact al h
 ·refine run_bk h fun v30 q h=>aj [false] (spec_l2Symbol_sat q) (S ?_)
  refine ah cs h (fun cs h=>S ?_) fun cs h=>S ?_
  ·refine run_bk h fun v33 q h=>aj [false] (spec_l2Good_sat q) (S ?_)
   exact al h
  ·exact al h

theorem spec_l8Form_sat{a0:Ft}  {r:Bool}(h:spec_l8Form a0=some r):Sat ag 141 [((am false) a0)] (B r):=by
 obtain⟨h,cs⟩:=ao h
 unfold spec_l8Form at h
 refine aq 83 [.tmp 2] Tryz.func141 (h:=S ?_)
 refine ah cs h (fun cs h=>S ?_) fun cs h=>S ?_
 refine ah cs h (fun cs h=>S ?_) fun cs h=>S ?_
 refine run_bk h fun v17 q h=>aj [false] (spec_l8None_sat q) (S ?_)
 refine ah cs h (fun cs h=>S ?_) fun cs h=>S ?_
 rotate_left 3
 refine ah cs h (fun cs h=>S ?_) fun cs h=>S ?_
 refine ah cs h (fun cs h=>S ?_) fun cs h=>S ?_
 refine run_bk h fun v17 q h=>aj [false] (spec_l8None_sat q) (S ?_)
 refine ah cs h (fun cs h=>S ?_) fun cs h=>S ?_
 rotate_left 3
 refine ah cs h (fun cs h=>S ?_) fun cs h=>S ?_
 refine ah cs h (fun cs h=>S ?_) fun cs h=>S ?_
 refine run_bk h fun v31 q h=>aj [false] (spec_l2Atom_sat q) (S ?_)
 refine ah cs h (fun cs h=>S ?_) fun cs h=>S ?_
 rotate_left 3
 refine ah cs h (fun cs h=>S ?_) fun cs h=>S ?_
 refine ah cs h (fun cs h=>S ?_) fun cs h=>S ?_
 refine run_bk h fun v45 q h=>aj [false] (spec_l8None_sat q) (S ?_)
 refine ah cs h (fun cs h=>S ?_) fun cs h=>S ?_
 rotate_left 3
 refine ah cs h (fun cs h=>S ?_) fun cs h=>S ?_
 refine ah cs h (fun cs h=>S ?_) fun cs h=>S ?_
 refine run_bk h fun v61 q h=>aj [false] (spec_l8None_sat q) (S ?_)
 refine ah cs h (fun cs h=>S ?_) fun cs h=>S ?_
 rotate_left 3
 refine ah cs h (fun cs h=>S ?_) fun cs h=>S ?_
 refine ah cs h (fun cs h=>S ?_) fun cs h=>S ?_
 refine run_bk h fun v61 q h=>aj [false] (spec_l8None_sat q) (S ?_)
 refine ah cs h (fun cs h=>S ?_) fun cs h=>S ?_
 rotate_left 3
 refine ah cs h (fun cs h=>S ?_) fun cs h=>S ?_
 refine ah cs h (fun cs h=>S ?_) fun cs h=>S ?_
 refine run_bk h fun v61 q h=>aj [false] (spec_l8None_sat q) (S ?_)
 refine ah cs h (fun cs h=>S ?_) fun cs h=>S ?_
 rotate_left 3
 refine ah cs h (fun cs h=>S ?_) fun cs h=>S ?_
 refine ah cs h (fun cs h=>S ?_) fun cs h=>S ?_
 refine run_bk h fun v76 q h=>aj [false] (spec_l8None_sat q) (S ?_)
 refine ah cs h (fun cs h=>S ?_) fun cs h=>S ?_
 rotate_left 3
 refine ah cs h (fun cs h=>S ?_) fun cs h=>S ?_
 refine ah cs h (fun cs h=>S ?_) fun cs h=>S ?_
 refine run_bk h fun v76 q h=>aj [false] (spec_l8None_sat q) (S ?_)
 refine ah cs h (fun cs h=>S ?_) fun cs h=>S ?_
 ·refine run_bk h fun v81 q h=>aj [false] (spec_l2Var_sat q) (S ?_)
  exact al h
 rotate_left 24
 ·refine run_bk h fun v81 q h=>aj [false] (spec_l2Var_sat q) (S ?_)
  exact al h
 all_goals
  exact al h

theorem spec_l8FormsN_sat(n:Nat):(∀ (a0:Ft) (r:Bool),spec_l8FormsN n a0=some r→Sat ag 110 [((am false) a0)] (B r)):=by
 induction n with
 | zero=>exact fun _ _ h=>by simp[spec_l8FormsN] at h
 | succ n ih=>
  refine fun a0 r h=>?_
  obtain⟨h,cs⟩:=ao h
  rw[spec_l8FormsN] at h
  refine aq 21 [.tmp 2] Tryz.func110 (h:=S ?_)
  refine run_bk h fun v5 q h=>aj [false] (spec_l8Form_sat q) (S ?_)
  refine ah cs h (fun cs h=>S ?_) fun cs h=>S ?_
  ·refine Mg.know_val2 (b:=false) (sz:=5) (es:=a0.Parts.map (am false)) (x:=(.pv ((am false) a0))) 0 [3] SC fun hl0=>?_; rw[aF] at hl0
   refine aJ (run_loop h) (fun i4 s4=>[(1,.box (.pv ((am false) a0))),(3,.val (.pv (I (i4:Int))))]) (fun i4 s4=>[]) (aw SC) (fun i4 s4 hi h=>?_) (fun s4 h=>?_)
   ·have w:=wrap_s2 i4
    refine S ?_
    refine aG cs fun cs=>S ?_
    refine run_bk h fun v17 q h=>au (am false) q (S ?_)
    refine run_bk h fun v19 q h=>aj [false] (ih _ _ q) (S ?_)
    refine ah cs h (fun cs h=>S ?_) fun cs h=>S ?_
    ·exact aK h
    ·exact al h
   ·refine S ?_
    refine aH cs fun cs=>S ?_
    exact al h
  ·exact al h
theorem spec_l8Forms_sat{a0:Ft}{r:Bool}(h:spec_l8Forms a0=some r):Sat ag 110 [((am false) a0)] (B r):=by
 obtain⟨n,hn⟩:=lim_some h
 exact(spec_l8FormsN_sat n) _ _ hn

theorem spec_l8Good_sat{a0:Ft}  {r:Bool}(h:spec_l8Good a0=some r):Sat ag 71 [((am false) a0)] (B r):=by
 obtain⟨h,cs⟩:=ao h
 unfold spec_l8Good at h
 refine aq 10 [.tmp 2] Tryz.func71 (h:=S ?_)
 refine run_bk h fun v4 q h=>aj [false,false] (spec_l8Many_sat q) (S ?_)
 refine ah cs h (fun cs h=>S ?_) fun cs h=>S ?_
 ·refine run_bk h fun v8 q h=>aj [false] (spec_l8Forms_sat q) (S ?_)
  exact al h
 ·exact al h

theorem spec_l20Partial_sat{a0:List (List Int)}{a1:List Pt}{a2:Int}{a3:Int}  {r:(List Ft)×Bool}(h:spec_l20Partial a0 a1 a2 a3=some r):Sat ag 33 [(.sl false 1 (a0.map (Lv false 1 I))),(.sl false 4 (a1.map (Pt.pv false))),(I a2),(I a3)] (.tup [(.sl true 5 (r.1.map (am false))),(B r.2)]):=by
 obtain⟨h,cs⟩:=ao h
 unfold spec_l20Partial at h
 refine aq 148 [.tmp 8,.tmp 9] Tryz.func33 (h:=SB ?_)
 refine OrR.l (SB ?_)
 refine aS (b:=false) (sz:=1) (es:=a0.map (Lv false 1 I)) 0 SC fun hl0=>?_; rw[aF] at hl0
 refine aJ (run_loop h) (fun i3 s3=>[(0,.val (.pv (.sl false 1 (a0.map (Lv false 1 I))))),(1,.val (.pv (.sl false 4 (a1.map (Pt.pv false))))),(2,.val (.pv (I a2))),(3,.val (.pv (I a3))),(10,.val (.own 352)),(11,.val (.pv (I (i3:Int))))]) (fun i3 s3=>[(352,(5,s3.map (am false)))]) (aw SC) (fun i3 s3 hi h=>?_) (fun s3 h=>?_)
 ·have w:=wrap_s2 i3
  refine SB ?_
  refine aG cs fun cs=>SB ?_
  refine ah cs h (fun cs h=>SB ?_) fun cs h=>asZ ( 1:Int ) cs fun z0 cs=>SB ?_
  refine OrR.l (SB ?_)
  replace h:=run_loop h
  refine Mg.whileN h (fun s10=>[(0,.val (.pv (.sl false 1 (a0.map (Lv false 1 I))))),(1,.val (.pv (.sl false 4 (a1.map (Pt.pv false))))),(2,.val (.pv (I a2))),(3,.val (.pv (I a3))),(10,.val (.own 352)),(11,.val (.pv (I (i3:Int)))),(12,.box (.node [(.pv (I 2)),zab1,(.pv (Sx ⟨#[]⟩)),(.pv (.sl true 5 []))])),(13,.val (.own 544)),(14,.val (.pv (I s10.2)))]) (fun s10=>[(352,(5,s3.map (am false))),(544,(1,s10.1.map I))]) (aw SC) (fun n10 s10 h=>?_)
  refine SB ?_
  refine run_bk h fun v38 q h=>au (Lv false 1 I) q (SB ?_)
  refine ah cs h (fun cs h=>SB ?_) fun cs h=>SB ?_
  refine ah cs h (fun cs h=>SB ?_) fun cs h=>SB ?_
  refine run_bk h fun v50 q h=>SlcH.mk (f:=(Lv false 1 I)) q SC (SB ?_)
  refine run_bk h fun v53 q h=>au (Lv false 1 I) q (SB ?_)
  refine run_bk h fun v56 q h=>au I q (SB ?_)
  refine run_bk h fun v58 q h=>aj [false] (spec_l15Abs_sat q) (SB ?_)
  refine run_bk h fun v59 q h=>aj [false,false] (spec_l20Occurs_sat q) (SB ?_)
  refine ae (aY [] []) (SB ?_)
  refine ah cs h (fun cs h=>SB ?_) fun cs h=>SB ?_
  rotate_left 3
  have h:=run_some h
  refine ah cs h (fun cs h=>SB ?_) fun cs h=>asZ ( 2:Int ) cs fun z0 cs=>SB ?_
  ·refine run_bk h fun v73 q h=>aj [true] (Sat.give (args:=[(.sl true 1 (s10.1.map I))]) [true] (by have gg:=Sat.vwOf (res':=((am false) v73)) (spec_l20Clause_sat q) (by simp only[view_tup,view_sl,view_agg,view_lit,aA,RB,RS]); simp only[gv_t,gv_f,gv_n,view_sl,view_agg,view_lit,views_repB,views_repI,aA,RB,RS] at gg ⊢; exact gg)) (SB ?_)
   refine OrR.v [((am false) v73)] (SB ?_)
   refine run_bk h fun v77 q h=>aU (am false) (fun a=>Ft.psize _ a) q (SB ?_)
   have h:=run_some h
   refine aX ⟨_,h,?_⟩
   refine bd 1232 352 ?_
   exact aw SWx
  rotate_left 2
  ·refine run_bk h fun v63 q h=>au (Lv false 1 I) q (SB ?_)
   refine run_bk h fun v66 q h=>au I q (SB ?_)
   refine OrR.l (SB ?_)
   refine run_bk h fun v69 q h=>aU I (fun _=>rfl) q (SB ?_)
   have h:=run_some h
   refine aX ⟨_,h,?_⟩
   refine bd 1104 544 ?_
   exact aw SC
  ·have h:=run_some h
   refine aX ⟨_,h,?_⟩
   exact aw SC
  ·have h:=run_some h
   replace h:=run_f (by simp only[cs]) h
   refine OrR.v [(.agg [(I 2),(.agg [(Sx ⟨#[]⟩),(.sl false 2 [])]),(Sx ⟨#[]⟩),(.sl false 5 [])])] (SB ?_)
   refine run_bk h fun v77 q h=>aU (am false) (fun a=>Ft.psize _ a) q (SB ?_)
   have h:=run_some h
   refine aX ⟨_,h,?_⟩
   refine bd 1232 352 ?_
   exact aw SWx
  all_goals
   refine OrR.v [(.agg [(I z0),(.agg [(Sx ⟨#[]⟩),(.sl false 2 [])]),(Sx ⟨#[]⟩),(.sl false 5 [])])] (SB ?_)
   refine run_bk h fun v77 q h=>aU (am false) (fun a=>Ft.psize _ a) q (SB ?_)
   have h:=run_some h
   refine aX ⟨_,h,?_⟩
   refine bd 1232 352 ?_
   exact aw SWx
 ·refine SB ?_
  refine aH cs fun cs=>SB ?_
  refine aS (b:=false) (sz:=4) (es:=a1.map (Pt.pv false)) 1 SC fun hl1=>?_; rw[aF] at hl1
  refine aJ (run_loop h) (fun i18 s18=>[(0,.val (.pv (.sl false 1 (a0.map (Lv false 1 I))))),(1,.val (.pv (.sl false 4 (a1.map (Pt.pv false))))),(2,.val (.pv (I a2))),(3,.val (.pv (I a3))),(10,.val (.own 352)),(15,.val (.pv (I (i18:Int))))]) (fun i18 s18=>[(352,(5,s18.map (am false)))]) (aw SC) (fun i18 s18 hi h=>?_) (fun s18 h=>?_)
  ·have w:=wrap_s2 i18
   refine SB ?_
   refine aG cs fun cs=>SB ?_
   refine run_bk h fun v86 q h=>au (Pt.pv false) q (SB ?_)
   refine run_bk h fun v91 q h=>au (am false) q (SB ?_)
   refine run_bk h fun v92 q h=>EldH.c (am false) q (SB ?_)
   refine run_bk h fun v96 q h=>au (am false) q (SB ?_)
   refine run_bk h fun v97 q h=>EldH.c (am false) q (SB ?_)
   refine ae (aY [17,18] []) (SB ?_)
   refine run_bk h fun v100 q h=>SlcH.mk (f:=(Lv false 1 I)) q SC (SB ?_)
   refine run_bk h fun v103 q h=>aj [false,false] (spec_l20Occurs_sat q) (SB ?_)
   refine run_bk h fun v106 q h=>SlcH.mk (f:=(Lv false 1 I)) q SC (SB ?_)
   refine run_bk h fun v109 q h=>aj [false,false] (spec_l20Occurs_sat q) (SB ?_)
   refine ae (aY [] []) (SB ?_)
   refine ah cs h (fun cs h=>SB ?_) fun cs h=>SB ?_
   refine ah cs h (fun cs h=>SB ?_) fun cs h=>SB ?_
   refine ah cs h (fun cs h=>SB ?_) fun cs h=>SB ?_
   refine run_bk h fun v138 q h=>aj [false,false,false] (Sat.vwOf (res':=((am false) v138)) (spec_l20Two_sat q) (by simp only[view_tup,view_sl,view_agg,view_lit,aA,RB,RS])) (SB ?_)
   refine run_bk h fun v140 q h=>aj [false] (spec_l8Good_sat q) (SB ?_)
   refine ah cs h (fun cs h=>SB ?_) fun cs h=>SB ?_
   rotate_left 2
   refine run_bk h fun v113 q h=>aj [false] (spec_l20Literal_sat q) (SB ?_)
   refine run_bk h fun v115 q h=>aj [false,false,false] (spec_l20Two_sat q) (SB ?_)
   refine run_bk h fun v119 q h=>aj [false] (spec_l20Literal_sat q) (SB ?_)
   refine run_bk h fun v121 q h=>aj [false,false,false] (spec_l20Two_sat q) (SB ?_)
   refine run_bk h fun v122 q h=>aj [false,true,true] (Sat.give (args:=[(I 5),(.agg [(I v115.Op),(.agg [(Sx v115.Atom.Name),(.sl true 2 (v115.Atom.Args.map (ar true)))]),(Sx v115.Var),(.sl true 5 (v115.Parts.map (am true)))]),(.agg [(I v121.Op),(.agg [(Sx v121.Atom.Name),(.sl true 2 (v121.Atom.Args.map (ar true)))]),(Sx v121.Var),(.sl true 5 (v121.Parts.map (am true)))])]) [false,true,true] (by have gg:=Sat.vwOf (res':=((am false) v122)) (spec_l20Two_sat q) (by simp only[view_tup,view_sl,view_agg,view_lit,aA,RB,RS]); simp only[gv_t,gv_f,gv_n,view_sl,view_agg,view_lit,views_repB,views_repI,aA,RB,RS] at gg ⊢; exact gg)) (SB ?_)
   refine ae (aY [] [1808,1809,1840,1841,1904,1905,1936,1937]) (SB ?_)
   refine run_bk h fun v140 q h=>aj [false] (spec_l8Good_sat q) (SB ?_)
   refine ah cs h (fun cs h=>SB ?_) fun cs h=>SB ?_
   rotate_left 2
   refine run_bk h fun v138 q h=>aj [false,false,false] (Sat.vwOf (res':=((am false) v138)) (spec_l20Two_sat q) (by simp only[view_tup,view_sl,view_agg,view_lit,aA,RB,RS])) (SB ?_)
   refine run_bk h fun v140 q h=>aj [false] (spec_l8Good_sat q) (SB ?_)
   refine ah cs h (fun cs h=>SB ?_) fun cs h=>SB ?_
   rotate_left 2
   refine run_bk h fun v128 q h=>aj [false,false,false] (Sat.vwOf (res':=((am false) v128)) (spec_l20Two_sat q) (by simp only[view_tup,view_sl,view_agg,view_lit,aA,RB,RS])) (SB ?_)
   refine run_bk h fun v140 q h=>aj [false] (spec_l8Good_sat q) (SB ?_)
   refine ah cs h (fun cs h=>SB ?_) fun cs h=>SB ?_
   rotate_left
   ·exact al h
   rotate_left
   ·exact al h
   rotate_left
   ·exact al h
   rotate_left
   ·exact al h
   all_goals
    refine OrR.l (SB ?_)
    refine run_bk h fun v146 q h=>aU (am false) (fun a=>Ft.psize _ a) q (SB ?_)
    have h:=run_some h
    refine aX ⟨_,h,?_⟩
    refine bd 2336 352 ?_
    exact aw SWx
  ·refine SB ?_
   refine aH cs fun cs=>SB ?_
   exact al h

theorem spec_StepInterpolants_sat{a0:List (List Int)}{a1:List Pt}{a2:Int}{a3:Int}  {r:(List Ft)×Bool}(h:spec_StepInterpolants a0 a1 a2 a3=some r):Sat ag 8 [(.sl false 1 (a0.map (Lv false 1 I))),(.sl false 4 (a1.map (Pt.pv false))),(I a2),(I a3)] (.tup [(.sl true 5 (r.1.map (am true))),(B r.2)]):=by
 obtain⟨h,cs⟩:=ao h
 unfold spec_StepInterpolants at h
 refine aq 66 [.tmp 8,.tmp 9] Tryz.func8 (h:=S ?_)
 refine run_bk h fun v16 q h=>aj [false,false] (spec_l15Steps_sat q) (S ?_)
 refine ah cs h (fun cs h=>S ?_) fun cs h=>S ?_
 refine run_bk h fun v21 q h=>aj [false,false] (spec_l15Check_sat q) (S ?_)
 refine ah cs h (fun cs h=>S ?_) fun cs h=>S ?_
 rotate_left
 refine run_bk h fun v28 q h=>aj [false,false,false] (spec_l1In_sat q) (S ?_)
 refine ah cs h (fun cs h=>S ?_) fun cs h=>S ?_
 refine run_bk h fun v33 q h=>aj [false,false,false] (spec_l1In_sat q) (S ?_)
 refine ah cs h (fun cs h=>S ?_) fun cs h=>S ?_
 refine run_bk h fun v42 q h=>aj [false,false,false,false] (spec_l20Partial_sat q) (S ?_)
 refine ah cs h (fun cs h=>S ?_) fun cs h=>S ?_
 replace h:=run_loop h
 refine Mg.whileN h (fun s8=>[(10,.val (.own 672)),(12,.val (.own 768)),(13,.val (.pv (I s8.2)))]) (fun s8=>[(672,(5,v42.1.map (am false))),(768,(5,s8.1.map (am true)))]) (aw SC) (fun n8 s8 h=>?_)
 refine S ?_
 refine ah cs h (fun cs h=>S ?_) fun cs h=>S ?_
 ·refine run_bk h fun v60 q h=>au (am false) q (S ?_)
  refine run_bk h fun v61 q h=>EldH.c (am false) q (S ?_)
  refine run_bk h fun v62 q h=>aj [false] (spec_l8Own_sat q) (S ?_)
  refine run_bk h fun v64 q h=>aU (am true) (fun a=>Ft.psize _ a) q (S ?_)
  have h:=run_some h
  refine aX ⟨_,h,?_⟩
  refine bd 1024 768 ?_
  exact aw SC
 ·have h:=run_some h
  exact al h
 all_goals
  exact al h

theorem spec_Interpolant_sat{a0:List (List Int)}{a1:List Pt}{a2:Int}{a3:Int}  {r:Ft×Bool}(h:spec_Interpolant a0 a1 a2 a3=some r):Sat ag 19 [(.sl false 1 (a0.map (Lv false 1 I))),(.sl false 4 (a1.map (Pt.pv false))),(I a2),(I a3)] (.tup [((am false) r.1),(B r.2)]):=by
 obtain⟨h,cs⟩:=ao h
 unfold spec_Interpolant at h
 refine aq 29 [.cell 8 42,.tmp 9] Tryz.func19 (h:=S ?_)
 refine run_bk h fun v17 q h=>aj [false,false,false,false] (Sat.vwOf (res':=(.tup [(.sl false 5 (v17.1.map (am false))),(B v17.2)])) (spec_StepInterpolants_sat q) (by simp only[view_tup,view_sl,view_agg,view_lit,aA,RB,RS])) (S ?_)
 refine ah cs h (fun cs h=>S ?_) fun cs h=>S ?_
 ·refine run_bk h fun v27 q h=>au (am false) q (S ?_)
  exact FinH.zr h
 ·exact FinH.zr h

theorem impl_hasOpN_sat(n:Nat):(∀ (a0:Ft) (a1:List Int) (r:Bool),impl_hasOpN n a0 a1=some r→Sat ag 91 [((am false) a0),(.sl false 1 (a1.map I))] (B r))∧(∀ (a0:Ft) (b0:List Int) (r:Bool),impl_hasOp_1N n a0 b0=some r→Sat ag 134 [((am false) a0),.ptr (.sl false 1 (b0.map I))] (B r)):=by
 induction n with
 | zero=>exact⟨fun _ _ _ h=>by simp[impl_hasOpN] at h,fun _ _ _ h=>by simp[impl_hasOp_1N] at h⟩
 | succ n ih=>
  refine⟨fun a0 a1 r h=>?_,fun a0 b0 r h=>?_⟩
  ·obtain⟨h,cs⟩:=ao h
   rw[impl_hasOpN] at h
   refine aq 15 [.tmp 4] Tryz.func91 (h:=S ?_)
   refine run_bk h fun v8 q h=>aj [false,false] (slices_Contains_Sint_int_sat q) (S ?_)
   refine ah cs h (fun cs h=>S ?_) fun cs h=>S ?_
   ·exact al h
   ·refine MfH.fr (S ?_)
    refine run_bk h fun v13 q h=>aj [false,false] (slices_ContainsFunc_Simpl_Formula_impl_Formula_sat (fun _ _ hh=>ih.2 _ _ _ hh) (by simp only[CapsOk_nil,CapsOk_cons]) q) (S ?_)
    exact al h
  ·obtain⟨h,cs⟩:=ao h
   rw[impl_hasOp_1N] at h
   refine aq 7 [.tmp 3] Tryz.func134 (h:=S ?_)
   refine run_bk h fun v6 q h=>aj [false,false] (ih.1 _ _ _ q) (S ?_)
   exact al h
theorem impl_hasOp_sat{a0:Ft}{a1:List Int}{r:Bool}(h:impl_hasOp a0 a1=some r):Sat ag 91 [((am false) a0),(.sl false 1 (a1.map I))] (B r):=by
 obtain⟨n,hn⟩:=lim_some h
 exact(impl_hasOpN_sat n).1 _ _ _ hn
theorem impl_hasOp_1_sat{a0:Ft}{b0:List Int}{r:Bool}(h:impl_hasOp_1 a0 b0=some r):Sat ag 134 [((am false) a0),.ptr (.sl false 1 (b0.map I))] (B r):=by
 obtain⟨n,hn⟩:=lim_some h
 exact(impl_hasOpN_sat n).2 _ _ _ hn

theorem impl_atomsOfN_sat(n:Nat):(∀ (a0:Ft) (r:List Tt),impl_atomsOfN n a0=some r→Sat ag 92 [((am false) a0)] (.sl true 2 (r.map (ar false)))):=by
 induction n with
 | zero=>exact fun _ _ h=>by simp[impl_atomsOfN] at h
 | succ n ih=>
  refine fun a0 r h=>?_
  obtain⟨h,cs⟩:=ao h
  rw[impl_atomsOfN] at h
  refine aq 26 [.tmp 2] Tryz.func92 (h:=S ?_)
  refine ah cs h (fun cs h=>S ?_) fun cs h=>S ?_
  ·exact al h
  ·refine aS (b:=false) (sz:=5) (es:=a0.Parts.map (am false)) 14 SC fun hl14=>?_; rw[aF] at hl14
   refine aJ (run_loop h) (fun i5 s5=>[(3,.val (.own 192)),(14,.val (.pv (.sl false 5 (a0.Parts.map (am false))))),(15,.val (.pv (I (a0.Parts.length:Int)))),(16,.val (.pv (I (i5:Int))))]) (fun i5 s5=>[(192,(2,s5.map (ar false)))]) (aw SC) (fun i5 s5 hi h=>?_) (fun s5 h=>?_)
   ·have w:=wrap_s2 i5
    refine S ?_
    refine aG cs fun cs=>S ?_
    refine run_bk h fun v18 q h=>au (am false) q (S ?_)
    refine run_bk h fun v22 q h=>aj [false] (ih _ _ q) (S ?_)
    refine run_bk h fun v23 q h=>aU (ar false) (fun a=>Tt.psize _ a) q (S ?_)
    have h:=run_some h
    refine aX ⟨_,h,?_⟩
    refine bd 368 192 ?_
    exact aw SWx
   ·refine S ?_
    refine aH cs fun cs=>S ?_
    exact al h
theorem impl_atomsOf_sat{a0:Ft}{r:List Tt}(h:impl_atomsOf a0=some r):Sat ag 92 [((am false) a0)] (.sl true 2 (r.map (ar false))):=by
 obtain⟨n,hn⟩:=lim_some h
 exact(impl_atomsOfN_sat n) _ _ hn

theorem impl_variableOf_sat{a0:Tt}  {r:Int}(h:impl_variableOf a0=some r):Sat ag 93 [((ar false) a0)] (I r):=by
 obtain⟨h,cs⟩:=ao h
 unfold impl_variableOf at h
 refine aq 21 [.tmp 2] Tryz.func93 (h:=S ?_)
 replace h:=run_loop h
 refine Mg.whileN h (fun s2=>[(1,.box (.pv ((ar false) a0))),(3,.val (.pv (I s2)))]) (fun s2=>[]) (aw SC) (fun n2 s2 h=>?_)
 refine S ?_
 refine ah cs h (fun cs h=>S ?_) fun cs h=>S ?_
 ·refine ah cs h (fun cs h=>S ?_) fun cs h=>S ?_
  ·refine run_bk h fun v16 q h=>aj [false] (strconv_Itoa_sat q) (S ?_)
   refine run_bk h fun v17 q h=>SappH.mk q (S ?_)
   refine ae (aY [] []) (S ?_)
   refine ah cs h (fun cs h=>S ?_) fun cs h=>S ?_
   ·exact al h
   ·have h:=run_some h
    refine aX ⟨_,h,?_⟩
    exact aw SC
  ·refine ae (aY [] []) (S ?_)
   have h:=run_some h
   refine aX ⟨_,h,?_⟩
   exact aw SC
 ·have h:=run_some h
  exact al h

theorem impl_variablesOf_sat{a0:Ft}  {r:(List Int)×Bool}(h:impl_variablesOf a0=some r):Sat ag 55 [((am false) a0)] (.tup [(.sl true 1 (r.1.map I)),(B r.2)]):=by
 obtain⟨h,cs⟩:=ao h
 unfold impl_variablesOf at h
 refine aq 34 [.tmp 2,.tmp 3] Tryz.func55 (h:=S ?_)
 refine run_bk h fun v9 q h=>aj [false] (impl_IsValidFormula_sat q) (S ?_)
 refine ah cs h (fun cs h=>S ?_) fun cs h=>S ?_
 ·refine run_bk h fun v14 q h=>aj [false,false] (impl_hasOp_sat q) (S ?_)
  refine ah cs h (fun cs h=>S ?_) fun cs h=>S ?_
  ·exact al h
  ·refine run_bk h fun v18 q h=>aj [false] (impl_atomsOf_sat q) (S ?_)
   refine Mg.know_own (sz:=2) (es:=v18.map (ar false)) 288 SC fun hl288=>?_; rw[aF] at hl288
   refine aJ (run_loop h) (fun i5 s5=>[(4,.val (.own 256)),(18,.val (.own 288)),(19,.val (.pv (I (v18.length:Int)))),(20,.val (.pv (I (i5:Int))))]) (fun i5 s5=>[(256,(1,s5.map I)),(288,(2,v18.map (ar false)))]) (aw SC) (fun i5 s5 hi h=>?_) (fun s5 h=>?_)
   ·have w:=wrap_s2 i5
    refine S ?_
    refine aG cs fun cs=>S ?_
    refine run_bk h fun v22 q h=>au (ar false) q (S ?_)
    refine run_bk h fun v23 q h=>EldH.c (ar false) q (S ?_)
    refine run_bk h fun v25 q h=>aj [false] (impl_variableOf_sat q) (S ?_)
    refine ah cs h (fun cs h=>S ?_) fun cs h=>S ?_
    ·exact al h
    ·refine run_bk h fun v31 q h=>aU I (fun _=>rfl) q (S ?_)
     have h:=run_some h
     refine aX ⟨_,h,?_⟩
     refine bd 496 256 ?_
     exact aw SWx
   ·refine S ?_
    refine aH cs fun cs=>S ?_
    exact al h
 ·exact al h

theorem impl_IsInterpolant_1_sat{a0:Int}{b0:List Int}  {r:Bool}(h:impl_IsInterpolant_1 a0 b0=some r):Sat ag 57 [(I a0),.ptr (.sl false 1 (b0.map I))] (B r):=by
 obtain⟨h,cs⟩:=ao h
 unfold impl_IsInterpolant_1 at h
 refine aq 16 [.tmp 3] Tryz.func57 (h:=S ?_)
 refine ah cs h (fun cs h=>S ?_) fun cs h=>S ?_
 ·exact al h
 ·refine run_bk h fun v12 q h=>au I q (S ?_)
  exact al h

theorem slices_ContainsFunc_Sint_int_sat{a0:List Int}{a1:Int→Option Bool}{a1_id:FuncId}{a1_cs:List PV}(a1_ok:∀ y0 r,a1 y0=some r→Sat ag a1_id ((I y0)::a1_cs) (B r))(a1_cz:CapsOk a1_cs=True){r:Bool}(h:slices_ContainsFunc_Sint_int a0 a1=some r):Sat ag 56 [(.sl false 1 (a0.map I)),.clo a1_id a1_cs] (B r):=by
 obtain⟨h,cs⟩:=ao h
 unfold slices_ContainsFunc_Sint_int at h
 have cs:=ae a1_cz cs
 refine aq 9 [.tmp 4] Tryz.func56 (h:=S ?_)
 refine run_bk h fun v7 q h=>aj [false,false] (slices_IndexFunc_Sint_int_sat a1_ok a1_cz q) (S ?_)
 exact al h

theorem impl_assignmentOf_sat{a0:Int}{a1:Int}  {r:List Int}(h:impl_assignmentOf a0 a1=some r):Sat ag 58 [(I a0),(I a1)] (.sl true 1 (r.map I)):=by
 obtain⟨h,cs⟩:=ao h
 unfold impl_assignmentOf at h
 refine aq 31 [.tmp 4] Tryz.func58 (h:=S ?_)
 refine run_bk h fun n8 q h=>MknH.mk q (S ?_)
 replace h:=run_loop h
 refine Mg.whileN h (fun s3=>[(0,.val (.pv (I s3.1))),(5,.val (.own 128)),(6,.val (.pv (I s3.2.2)))]) (fun s3=>[(128,(1,s3.2.1.map I))]) (aw SC) (fun n3 s3 h=>?_)
 refine S ?_
 refine ah cs h (fun cs h=>S ?_) fun cs h=>S ?_
 ·refine run_bk h fun v18 q h=>au I q (S ?_)
  refine run_bk h fun w2 q h=>EldH.c I q (S ?_)
  refine ah cs h (fun cs h=>S ?_) fun cs h=>S ?_
  ·refine run_bk h fun v27 q h=>au I q (S ?_)
   refine run_bk h fun w4 q h=>EldH.c I q (S ?_)
   refine run_bk h fun v29 q h=>ShrH.mk q (S ?_)
   have h:=run_some h
   refine aX ⟨_,h,?_⟩
   exact aw SC
  ·refine run_bk h fun v29 q h=>ShrH.mk q (S ?_)
   have h:=run_some h
   refine aX ⟨_,h,?_⟩
   exact aw SC
 ·have h:=run_some h
  exact al h

theorem impl_addAtom_1_sat{a0:Tt}{b0:Tt}  {r:Bool}(h:impl_addAtom_1 a0 b0=some r):Sat ag 164 [((ar false) a0),.ptr ((ar false) b0)] (B r):=by
 obtain⟨h,cs⟩:=ao h
 unfold impl_addAtom_1 at h
 refine aq 7 [.tmp 3] Tryz.func164 (h:=S ?_)
 refine run_bk h fun v6 q h=>aj [false,false] (impl_EqualTerms_sat q) (S ?_)
 exact al h

theorem impl_addAtom_sat{a0:List Tt}{a1:Tt}  {r:List Tt}(h:impl_addAtom a0 a1=some r):Sat ag 135 [(.sl true 2 (a0.map (ar true))),((ar false) a1)] (.sl true 2 (r.map (ar true))):=by
 obtain⟨h,cs⟩:=ao h
 unfold impl_addAtom at h
 refine aq 14 [.tmp 4] Tryz.func135 (h:=S ?_)
 refine MfH.fr (S ?_)
 refine run_bk h fun v7 q h=>aj [false,false] (slices_ContainsFunc_Simpl_Term_impl_Term_sat (fun _ _ hh=>impl_addAtom_1_sat hh) (by simp only[CapsOk_nil,CapsOk_cons]) q) (S ?_)
 refine ah cs h (fun cs h=>S ?_) fun cs h=>S ?_
 ·exact al h
 ·refine run_bk h fun v11 q h=>aj [false] (impl_copyTerm_sat q) (S ?_)
  refine run_bk h fun v13 q h=>aU (ar true) (fun a=>Tt.psize _ a) q (S ?_)
  exact al h

theorem impl_differentAtoms_sat{a0:Ft}  {r:List Tt}(h:impl_differentAtoms a0=some r):Sat ag 95 [((am false) a0)] (.sl true 2 (r.map (ar true))):=by
 obtain⟨h,cs⟩:=ao h
 unfold impl_differentAtoms at h
 refine aq 19 [.tmp 2] Tryz.func95 (h:=S ?_)
 refine run_bk h fun v8 q h=>aj [false] (impl_atomsOf_sat q) (S ?_)
 refine Mg.know_own (sz:=2) (es:=v8.map (ar false)) 128 SC fun hl128=>?_; rw[aF] at hl128
 refine aJ (run_loop h) (fun i3 s3=>[(3,.val (.own 96)),(8,.val (.own 128)),(9,.val (.pv (I (v8.length:Int)))),(10,.val (.pv (I (i3:Int))))]) (fun i3 s3=>[(96,(2,s3.map (ar true))),(128,(2,v8.map (ar false)))]) (aw SC) (fun i3 s3 hi h=>?_) (fun s3 h=>?_)
 ·have w:=wrap_s2 i3
  refine S ?_
  refine aG cs fun cs=>S ?_
  refine run_bk h fun v12 q h=>au (ar false) q (S ?_)
  refine run_bk h fun v13 q h=>EldH.c (ar false) q (S ?_)
  refine run_bk h fun v16 q h=>aj [true,false] (impl_addAtom_sat q) (S ?_)
  have h:=run_some h
  refine aX ⟨_,h,?_⟩
  refine bd 256 96 ?_
  exact aw SWx
 ·refine S ?_
  refine aH cs fun cs=>S ?_
  exact al h

theorem impl_flag_sat{a0:Bool}  {r:Int}(h:impl_flag a0=some r):Sat ag 96 [(B a0)] (I r):=by
 obtain⟨h,cs⟩:=ao h
 unfold impl_flag at h
 refine aq 4 [.tmp 2] Tryz.func96 (h:=S ?_)
 refine ah cs h (fun cs h=>S ?_) fun cs h=>S ?_
 ·exact al h
 ·exact al h

theorem impl_indexOfAtom_1_sat{a0:Tt}{b0:Tt}  {r:Bool}(h:impl_indexOfAtom_1 a0 b0=some r):Sat ag 167 [((ar false) a0),.ptr ((ar false) b0)] (B r):=by
 obtain⟨h,cs⟩:=ao h
 unfold impl_indexOfAtom_1 at h
 refine aq 7 [.tmp 3] Tryz.func167 (h:=S ?_)
 refine run_bk h fun v6 q h=>aj [false,false] (impl_EqualTerms_sat q) (S ?_)
 exact al h

theorem impl_indexOfAtom_sat{a0:List Tt}{a1:Tt}  {r:Int}(h:impl_indexOfAtom a0 a1=some r):Sat ag 137 [(.sl false 2 (a0.map (ar false))),((ar false) a1)] (I r):=by
 obtain⟨h,cs⟩:=ao h
 unfold impl_indexOfAtom at h
 refine aq 8 [.tmp 4] Tryz.func137 (h:=S ?_)
 refine MfH.fr (S ?_)
 refine run_bk h fun v7 q h=>aj [false,false] (slices_IndexFunc_Simpl_Term_impl_Term_sat (fun _ _ hh=>impl_indexOfAtom_1_sat hh) (by simp only[CapsOk_nil,CapsOk_cons]) q) (S ?_)
 exact al h

theorem impl_truthOfN_sat(n:Nat):(∀ (a0:Ft) (a1:List Tt) (a2:Int) (r:Bool),impl_truthOfN n a0 a1 a2=some r→Sat ag 98 [((am false) a0),(.sl false 2 (a1.map (ar false))),(I a2)] (B r)):=by
 induction n with
 | zero=>exact fun _ _ _ _ h=>by simp[impl_truthOfN] at h
 | succ n ih=>
  refine fun a0 a1 a2 r h=>?_
  obtain⟨h,cs⟩:=ao h
  rw[impl_truthOfN] at h
  refine aq 86 [.tmp 6] Tryz.func98 (h:=S ?_)
  refine ah cs h (fun cs h=>S ?_) fun cs h=>S ?_
  rotate_left
  refine ah cs h (fun cs h=>S ?_) fun cs h=>S ?_
  rotate_left
  refine ah cs h (fun cs h=>S ?_) fun cs h=>S ?_
  rotate_left
  refine ah cs h (fun cs h=>S ?_) fun cs h=>S ?_
  refine run_bk h fun v35 q h=>au (am false) q (S ?_)
  refine run_bk h fun v39 q h=>aj [false,false,false] (ih _ _ _ _ q) (S ?_)
  refine ah cs h (fun cs h=>S ?_) fun cs h=>S ?_
  rotate_left 2
  refine ah cs h (fun cs h=>S ?_) fun cs h=>S ?_
  refine run_bk h fun v53 q h=>au (am false) q (S ?_)
  refine run_bk h fun v57 q h=>aj [false,false,false] (ih _ _ _ _ q) (S ?_)
  refine ah cs h (fun cs h=>S ?_) fun cs h=>S ?_
  rotate_left 2
  refine ah cs h (fun cs h=>S ?_) fun cs h=>S ?_
  refine run_bk h fun v71 q h=>au (am false) q (S ?_)
  refine run_bk h fun v75 q h=>aj [false,false,false] (ih _ _ _ _ q) (S ?_)
  refine ah cs h (fun cs h=>S ?_) fun cs h=>S ?_
  ·refine run_bk h fun v80 q h=>au (am false) q (S ?_)
   refine run_bk h fun v84 q h=>aj [false,false,false] (ih _ _ _ _ q) (S ?_)
   exact al h
  rotate_left 3
  ·refine run_bk h fun v17 q h=>aj [false,false] (impl_indexOfAtom_sat q) (S ?_)
   refine run_bk h fun v18 q h=>ShrH.mk q (S ?_)
   exact al h
  ·refine run_bk h fun v25 q h=>au (am false) q (S ?_)
   refine run_bk h fun v29 q h=>aj [false,false,false] (ih _ _ _ _ q) (S ?_)
   exact al h
  ·refine run_bk h fun v43 q h=>au (am false) q (S ?_)
   refine run_bk h fun v47 q h=>aj [false,false,false] (ih _ _ _ _ q) (S ?_)
   exact al h
  rotate_left 2
  ·refine run_bk h fun v61 q h=>au (am false) q (S ?_)
   refine run_bk h fun v65 q h=>aj [false,false,false] (ih _ _ _ _ q) (S ?_)
   exact al h
  all_goals
   exact al h
theorem impl_truthOf_sat{a0:Ft}{a1:List Tt}{a2:Int}{r:Bool}(h:impl_truthOf a0 a1 a2=some r):Sat ag 98 [((am false) a0),(.sl false 2 (a1.map (ar false))),(I a2)] (B r):=by
 obtain⟨n,hn⟩:=lim_some h
 exact(impl_truthOfN_sat n) _ _ _ _ hn

theorem impl_evaluateOn_sat{a0:Ft}{a1:List Int}  {r:Bool}(h:impl_evaluateOn a0 a1=some r):Sat ag 59 [((am false) a0),(.sl false 1 (a1.map I))] (B r):=by
 obtain⟨h,cs⟩:=ao h
 unfold impl_evaluateOn at h
 refine aq 32 [.tmp 4] Tryz.func59 (h:=S ?_)
 refine run_bk h fun v10 q h=>aj [false] (Sat.vwOf (res':=(.sl false 2 (v10.map (ar false)))) (impl_differentAtoms_sat q) (by simp only[view_tup,view_sl,view_agg,view_lit,aA,RB,RS])) (S ?_)
 refine aS (b:=false) (sz:=2) (es:=v10.map (ar false)) 5 SC fun hl5=>?_; rw[aF] at hl5
 refine aJ (run_loop h) (fun i4 s4=>[(1,.val (.pv (.sl false 1 (a1.map I)))),(2,.box (.pv ((am false) a0))),(5,.val (.pv (.sl false 2 (v10.map (ar false))))),(6,.val (.pv (I s4))),(11,.val (.pv (.sl false 2 (v10.map (ar false))))),(12,.val (.pv (I (v10.length:Int)))),(13,.val (.pv (I (i4:Int))))]) (fun i4 s4=>[]) (aw SC) (fun i4 s4 hi h=>?_) (fun s4 h=>?_)
 ·have w:=wrap_s2 i4
  refine S ?_
  refine aG cs fun cs=>S ?_
  refine run_bk h fun v16 q h=>au (ar false) q (S ?_)
  refine run_bk h fun v21 q h=>aj [false] (impl_variableOf_sat q) (S ?_)
  refine run_bk h fun v22 q h=>aj [false,false] (slices_Contains_Sint_int_sat q) (S ?_)
  refine run_bk h fun v23 q h=>aj [false] (impl_flag_sat q) (S ?_)
  refine run_bk h fun v25 q h=>ShlH.mk q (S ?_)
  exact aK h
 ·refine S ?_
  refine aH cs fun cs=>S ?_
  refine run_bk h fun v31 q h=>aj [false,false,false] (impl_truthOf_sat q) (S ?_)
  exact al h

theorem impl_isSatisfied_1_sat{a0:Int}{b0:List Int}  {r:Bool}(h:impl_isSatisfied_1 a0 b0=some r):Sat ag 139 [(I a0),.ptr (.sl false 1 (b0.map I))] (B r):=by
 obtain⟨h,cs⟩:=ao h
 unfold impl_isSatisfied_1 at h
 refine aq 7 [.tmp 3] Tryz.func139 (h:=S ?_)
 refine run_bk h fun v6 q h=>aj [false,false] (slices_Contains_Sint_int_sat q) (S ?_)
 exact al h

theorem impl_isSatisfied_sat{a0:List Int}{a1:List Int}  {r:Bool}(h:impl_isSatisfied a0 a1=some r):Sat ag 101 [(.sl false 1 (a0.map I)),(.sl false 1 (a1.map I))] (B r):=by
 obtain⟨h,cs⟩:=ao h
 unfold impl_isSatisfied at h
 refine aq 8 [.tmp 4] Tryz.func101 (h:=S ?_)
 refine MfH.fr (S ?_)
 refine run_bk h fun v7 q h=>aj [false,false] (slices_ContainsFunc_Sint_int_sat (fun _ _ hh=>impl_isSatisfied_1_sat hh) (by simp only[CapsOk_nil,CapsOk_cons]) q) (S ?_)
 exact al h

theorem impl_isModel_1_sat{a0:List Int}{b0:List Int}  {r:Bool}(h:impl_isModel_1 a0 b0=some r):Sat ag 100 [(.sl false 1 (a0.map I)),.ptr (.sl false 1 (b0.map I))] (B r):=by
 obtain⟨h,cs⟩:=ao h
 unfold impl_isModel_1 at h
 refine aq 8 [.tmp 3] Tryz.func100 (h:=S ?_)
 refine run_bk h fun v6 q h=>aj [false,false] (impl_isSatisfied_sat q) (S ?_)
 exact al h

theorem impl_isModel_sat{a0:List (List Int)}{a1:List Int}  {r:Bool}(h:impl_isModel a0 a1=some r):Sat ag 60 [(.sl false 1 (a0.map (Lv false 1 I))),(.sl false 1 (a1.map I))] (B r):=by
 obtain⟨h,cs⟩:=ao h
 unfold impl_isModel at h
 refine aq 9 [.tmp 4] Tryz.func60 (h:=S ?_)
 refine MfH.fr (S ?_)
 refine run_bk h fun v7 q h=>aj [false,false] (slices_ContainsFunc_SSint_Sint_sat (fun _ _ hh=>impl_isModel_1_sat hh) (by simp only[CapsOk_nil,CapsOk_cons]) q) (S ?_)
 exact al h

theorem impl_IsInterpolant_sat{a0:List (List Int)}{a1:Int}{a2:Ft}  {r:Bool×Bool}(h:impl_IsInterpolant a0 a1 a2=some r):Sat ag 26 [(.sl false 1 (a0.map (Lv false 1 I))),(I a1),((am false) a2)] (.tup [(B r.1),(B r.2)]):=by
 obtain⟨h,cs⟩:=ao h
 unfold impl_IsInterpolant at h
 refine aq 66 [.tmp 6,.tmp 7] Tryz.func26 (h:=S ?_)
 refine run_bk h fun v16 q h=>aj [false] (impl_variablesOf_sat q) (S ?_)
 refine ah cs h (fun cs h=>S ?_) fun cs h=>S ?_
 refine run_bk h fun v24 q h=>aj [false,false] (impl_isSplit_sat q) (S ?_)
 refine ah cs h (fun cs h=>S ?_) fun cs h=>S ?_
 refine run_bk h fun v29 q h=>aj [false,false] (Sat.vwOf (res':=(.sl false 1 (v29.map I))) (impl_colors_sat q) (by simp only[view_tup,view_sl,view_agg,view_lit,aA,RB,RS])) (S ?_)
 refine MfH.fr (S ?_)
 refine run_bk h fun v32 q h=>aj [false,false] (slices_ContainsFunc_Sint_int_sat (fun _ _ hh=>impl_IsInterpolant_1_sat hh) (by simp only[CapsOk_nil,CapsOk_cons]) q) (S ?_)
 refine ah cs h (fun cs h=>S ?_) fun cs h=>S ?_
 rotate_left
 ·refine run_bk h fun v35 q h=>ShlH.mk q (S ?_)
  obtain⟨N8,hN8,h⟩:=run_bind h
  obtain⟨hN8a,hN8b⟩:=bnd_some hN8
  refine aJ (run_loop h) (fun i8 s8=>[(0,.val (.pv (.sl false 1 (a0.map (Lv false 1 I))))),(1,.val (.pv (I a1))),(5,.box (.pv ((am false) a2))),(10,.val (.pv (.ptr (.sl false 1 (v29.map I))))),(35,.val (.pv (I v35))),(36,.val (.pv (I (i8:Int))))]) (fun i8 s8=>[]) (aw SC) (fun i8 s8 hi h=>?_) (fun s8 h=>?_)
  ·have w:=wrap_s2 i8
   refine S ?_
   refine aG cs fun cs=>S ?_
   refine run_bk h fun v42 q h=>aj [false,false] (impl_assignmentOf_sat q) (S ?_)
   refine run_bk h fun v45 q h=>aj [false,false] (impl_evaluateOn_sat q) (S ?_)
   refine ah cs h (fun cs h=>S ?_) fun cs h=>S ?_
   ·refine run_bk h fun v60 q h=>SlcH.mk (f:=(Lv false 1 I)) q SC (S ?_)
    refine run_bk h fun v62 q h=>aj [false,false] (impl_isModel_sat q) (S ?_)
    refine ah cs h (fun cs h=>S ?_) fun cs h=>S ?_
    ·exact al h
    ·exact aK h
   ·refine run_bk h fun v51 q h=>SlcH.mk (f:=(Lv false 1 I)) q SC (S ?_)
    refine run_bk h fun v53 q h=>aj [false,false] (impl_isModel_sat q) (S ?_)
    refine ah cs h (fun cs h=>S ?_) fun cs h=>S ?_
    ·exact al h
    ·exact aK h
  ·refine S ?_
   refine aH cs fun cs=>S ?_
   exact al h
 all_goals
  exact al h

theorem impl_ImpliesFormula_sat{a0:Ft}{a1:Ft}  {r:Bool×Bool}(h:impl_ImpliesFormula a0 a1=some r):Sat ag 27 [((am false) a0),((am false) a1)] (.tup [(B r.1),(B r.2)]):=by
 obtain⟨h,cs⟩:=ao h
 unfold impl_ImpliesFormula at h
 refine aq 62 [.tmp 4,.tmp 5] Tryz.func27 (h:=S ?_)
 refine run_bk h fun v17 q h=>aj [false] (impl_variablesOf_sat q) (S ?_)
 refine run_bk h fun v22 q h=>aj [false] (impl_variablesOf_sat q) (S ?_)
 refine ah cs h (fun cs h=>S ?_) fun cs h=>S ?_
 refine ah cs h (fun cs h=>S ?_) fun cs h=>S ?_
 ·refine run_bk h fun v34 q h=>aj [false] (slices_Concat_Sint_int_sat q) (S ?_)
  refine Mg.know_own (sz:=1) (es:=v34.map I) 544 SC fun hl544=>?_; rw[aF] at hl544
  refine aJ (run_loop h) (fun i7 s7=>[(2,.box (.pv ((am false) a0))),(3,.box (.pv ((am false) a1))),(10,.val (.pv (I s7))),(34,.val (.own 544)),(35,.val (.pv (I (v34.length:Int)))),(36,.val (.pv (I (i7:Int))))]) (fun i7 s7=>[(544,(1,v34.map I))]) (aw SC) (fun i7 s7 hi h=>?_) (fun s7 h=>?_)
  ·have w:=wrap_s2 i7
   refine S ?_
   refine aG cs fun cs=>S ?_
   refine run_bk h fun v38 q h=>au I q (S ?_)
   refine run_bk h fun v39 q h=>EldH.c I q (S ?_)
   exact aK h
  ·refine S ?_
   refine aH cs fun cs=>S ?_
   refine run_bk h fun v45 q h=>ShlH.mk q (S ?_)
   obtain⟨N12,hN12,h⟩:=run_bind h
   obtain⟨hN12a,hN12b⟩:=bnd_some hN12
   refine aJ (run_loop h) (fun i12 s12=>[(2,.box (.pv ((am false) a0))),(3,.box (.pv ((am false) a1))),(10,.val (.pv (I s7))),(45,.val (.pv (I v45))),(46,.val (.pv (I (i12:Int))))]) (fun i12 s12=>[]) (aw SC) (fun i12 s12 hi h=>?_) (fun s12 h=>?_)
   ·have w:=wrap_s2 i12
    refine S ?_
    refine aG cs fun cs=>S ?_
    refine run_bk h fun v51 q h=>aj [false,false] (impl_assignmentOf_sat q) (S ?_)
    refine run_bk h fun v54 q h=>aj [false,false] (impl_evaluateOn_sat q) (S ?_)
    refine ah cs h (fun cs h=>S ?_) fun cs h=>S ?_
    ·refine run_bk h fun v58 q h=>aj [false,false] (impl_evaluateOn_sat q) (S ?_)
     refine ah cs h (fun cs h=>S ?_) fun cs h=>S ?_
     ·exact aK h
     ·exact al h
    ·exact aK h
   ·refine S ?_
    refine aH cs fun cs=>S ?_
    exact al h
 all_goals
  exact al h

theorem FnInterpolants_sat{a0:List Int}  {r:Bool}(h:FnInterpolants a0=some r):Sat ag 5 [(.sl false 1 (a0.map (Ik .u8)))] (B r):=by
 obtain⟨h,cs⟩:=ao h
 unfold FnInterpolants at h
 refine aq 110 [.tmp 2] Tryz.func5 (h:=S ?_)
 refine run_bk h fun v22 q h=>aj [false] (vBig_sat q) (S ?_)
 refine ah cs h (fun cs h=>S ?_) fun cs h=>S ?_
 rotate_left
 refine run_bk h fun v25 q h=>aj [false] (spec_DrawInterpolant_sat q) (S ?_)
 refine run_bk h fun v34 q h=>aj [false,false,false,false] (impl_Interpolant_sat q) (S ?_)
 refine run_bk h fun v41 q h=>aj [false,false,false,false] (impl_Interpolant_sat q) (S ?_)
 refine run_bk h fun v48 q h=>aj [false,false,false,false] (spec_Interpolant_sat q) (S ?_)
 refine run_bk h fun v55 q h=>aj [false,false,false,false] (spec_Interpolant_sat q) (S ?_)
 refine ah cs h (fun cs h=>S ?_) fun cs h=>S ?_
 refine ah cs h (fun cs h=>S ?_) fun cs h=>S ?_
 refine ah cs h (fun cs h=>S ?_) fun cs h=>S ?_
 refine run_bk h fun v71 q h=>aj [false,false,false] (impl_IsInterpolant_sat q) (S ?_)
 refine ah cs h (fun cs h=>S ?_) fun cs h=>S ?_
 refine ah cs h (fun cs h=>S ?_) fun cs h=>S ?_
 refine ah cs h (fun cs h=>S ?_) fun cs h=>S ?_
 refine run_bk h fun v85 q h=>aj [false,false,false] (impl_IsInterpolant_sat q) (S ?_)
 refine ah cs h (fun cs h=>S ?_) fun cs h=>S ?_
 refine ah cs h (fun cs h=>S ?_) fun cs h=>S ?_
 refine run_bk h fun v103 q h=>aj [false,false] (impl_ImpliesFormula_sat q) (S ?_)
 refine ah cs h (fun cs h=>S ?_) fun cs h=>S ?_
 rotate_left 7
 refine ah cs h (fun cs h=>S ?_) fun cs h=>S ?_
 refine run_bk h fun v85 q h=>aj [false,false,false] (impl_IsInterpolant_sat q) (S ?_)
 refine ah cs h (fun cs h=>S ?_) fun cs h=>S ?_
 refine ah cs h (fun cs h=>S ?_) fun cs h=>S ?_
 all_goals
  exact al h

end Go.Proofs.YtmfpijomelhccaaGreatDoor
