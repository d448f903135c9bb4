/- Lemmas of the proof; each says what it shows. -/
import Derived.Test.YtmfpijomelhccaaGreatDoorGm
import Derived.Test.YtmfpijomelhccaaGreatDoorGf
import Derived.Test.YtmfpijomelhccaaGreatDoorGsi
import Derived.Test.YtmfpijomelhccaaGreatDoorGbk
set_option linter.unusedSimpArgs false
set_option linter.unusedVariables false
set_option linter.defProp false
set_option maxRecDepth 4000
namespace Go.Proofs.YtmfpijomelhccaaGreatDoor
open Go.Av
open And renaming intro→ae
open AppH renaming c→aU
open CallH renaming c→aj
open CondH renaming run→ah,t3→aG,f3→aH
open DrawH renaming ak→aY
open FinH renaming zl→al,zr→bi
open Ft renaming pv→am
open HandH renaming call→aQ
open IdxH renaming c→au
open List renaming length_map→aF,nil_append→bn
open Mg renaming know_sl→aS,forN→aJ
open Nat renaming le_of_ble_eq_true→bt
open Option renaming bind_some→ai
open PV renaming views→aA
open Pt renaming pv→aN
open RdH renaming mk→aX,z→aK
open Run renaming of0→ao
open Sat renaming go→aq
open SidxH renaming mk→bk
open St renaming le_mk2→aw,le_rt→bd,le_demV→bp
open Tryz renaming prog→ag
open Tt renaming pv→ar
open VSeq renaming step→aC,nil→bj
open ld renaming pv→aI
set_option maxHeartbeats 4000000
theorem vBig_sat{a0:List Int}  {r:Bool}(h:vBig a0=some r):Sat ag 24 [(.sl false 1 (a0.map (Ik .u8)))] (B r):=by
 obtain⟨h,cs⟩:=ao h
 unfold vBig at h
 refine aq 6 [.tmp 2] Tryz.func24 (h:=S ?_)
 exact al h

theorem spec_l1Cur__next_sat{a0:ld}  {r:Int×ld}(h:spec_l1Cur__next a0=some r):SatH ag 133 [] [] .ptr [] (.pv ((aI false) a0)) (.pv ((aI false) r.2)) (I r.1):=by
 obtain⟨h,cs⟩:=ao h
 unfold spec_l1Cur__next at h
 refine SatH.of_k (nt:=62) (rs:=[.tmp 2]) (n:=100000) 0 Tryz.func133 rfl rfl rfl rfl rfl (bt rfl) (by decide) (by first | exact bt rfl | exact SC) (S ?_)
 refine ae (aY [] []) (S ?_)
 refine ah cs h (fun cs h=>S ?_) fun cs h=>S ?_
 refine run_bk h fun v22 q h=>au (Ik .u8) q (S ?_)
 refine ae (aY [] []) (S ?_)
 refine ae (aY [] []) (S ?_)
 refine ah cs h (fun cs h=>S ?_) fun cs h=>S ?_
 rotate_left 2
 refine ae (aY [] []) (S ?_)
 refine ah cs h (fun cs h=>S ?_) fun cs h=>S ?_
 ·cases run_some h
  exact RetHB.l SC
 rotate_left
 ·cases run_some h
  exact RetHB.l SC
 all_goals
  refine run_bk h fun v59 q h=>ShrH.mk q (S ?_)
  cases run_some h
  exact RetHB.l SC

theorem spec_l1Cur__pick_sat{a0:ld}{a1:Int}  {r:Int×ld}(h:spec_l1Cur__pick a0 a1=some r):SatH ag 89 [] [(I a1)] .ptr [] (.pv ((aI false) a0)) (.pv ((aI false) r.2)) (I r.1):=by
 obtain⟨h,cs⟩:=ao h
 unfold spec_l1Cur__pick at h
 refine SatH.of_k (nt:=20) (rs:=[.tmp 4]) (n:=100000) 0 Tryz.func89 rfl rfl rfl rfl rfl (bt rfl) (by decide) (by first | exact bt rfl | exact SC) (S ?_)
 refine ah cs h (fun cs h=>S ?_) fun cs h=>S ?_
 ·cases run_some h
  exact RetHB.l SC
 ·obtain⟨v9,hv9,h⟩:=run_bind h
  refine aQ (r:=0) (hc:=.cv (.pv ((aI false) a0))) 0 [] [] [] [] [] (spec_l1Cur__next_sat hv9) rfl rfl rfl SC (S ?_)
  refine ah cs h (fun cs h=>S ?_) fun cs h=>S ?_
  ·obtain⟨v15,hv15,h⟩:=run_bind h
   refine aQ (r:=0) (hc:=.cv (.pv ((aI false) v9.2))) 0 [] [] [] [] [] (spec_l1Cur__next_sat hv15) rfl rfl rfl SC (S ?_)
   refine run_bk h fun v19 q h=>remH.mk q (S ?_)
   cases run_some h
   exact RetHB.l SC
  ·refine run_bk h fun v19 q h=>remH.mk q (S ?_)
   cases run_some h
   exact RetHB.l SC

theorem spec_l1Cur__one_sat{a0:ld}{a1:Int}  {r:Bool×ld}(h:spec_l1Cur__one a0 a1=some r):SatH ag 132 [] [(I a1)] .ptr [] (.pv ((aI false) a0)) (.pv ((aI false) r.2)) (B r.1):=by
 obtain⟨h,cs⟩:=ao h
 unfold spec_l1Cur__one at h
 refine SatH.of_k (nt:=9) (rs:=[.tmp 4]) (n:=100000) 0 Tryz.func132 rfl rfl rfl rfl rfl (bt rfl) (by decide) (by first | exact bt rfl | exact SC) (S ?_)
 obtain⟨v7,hv7,h⟩:=run_bind h
 refine aQ (r:=0) (hc:=.cv (.pv ((aI false) a0))) 0 [] [_] [] [(.pv (I a1))] [false] (spec_l1Cur__pick_sat hv7) rfl rfl rfl SC (S ?_)
 cases run_some h
 exact RetHB.l SC

theorem spec_l1Cur__propClause_sat{a0:ld}{a1:Int}  {r:(List Int)×ld}(h:spec_l1Cur__propClause a0 a1=some r):SatH ag 131 [] [(I a1)] .ptr [] (.pv ((aI false) a0)) (.pv ((aI false) r.2)) (.sl true 1 (r.1.map I)):=by
 obtain⟨h,cs⟩:=ao h
 unfold spec_l1Cur__propClause at h
 refine SatH.of_k (nt:=54) (rs:=[.tmp 4]) (n:=100000) 0 Tryz.func131 rfl rfl rfl rfl rfl (bt rfl) (by decide) (by first | exact bt rfl | exact SC) (S ?_)
 replace h:=run_loop h
 refine Mg.whileN h (fun s3=>[(0,.box (.pv ((aI false) s3.1))),(1,.val (.pv (I a1))),(5,.val (.own 128)),(6,.val (.pv (I s3.2.2))),(20000,gh 0)]) (fun s3=>[(128,(1,s3.2.1.map I))]) (aw SC) (fun n3 s3 h=>?_)
 refine S ?_
 refine ah cs h (fun cs h=>S ?_) fun cs h=>S ?_
 obtain⟨v15,hv15,h⟩:=run_bind h
 refine aQ (r:=0) (hc:=.cv (.pv ((aI false) s3.1))) 0 [] [_] [] [(.pv (I 3))] [false] (spec_l1Cur__one_sat hv15) rfl rfl rfl SC (S ?_)
 refine ah cs h (fun cs h=>S ?_) fun cs h=>S ?_
 rotate_left 2
 have h:=run_some h
 refine ah cs h (fun cs h=>S ?_) fun cs h=>S ?_
 refine run_bk h fun v30 q h=>SlcOH.mk (f:=I) q SC (S ?_)
 refine ah cs h (fun cs h=>S ?_) fun cs h=>S ?_
 obtain⟨v36,hv36,h⟩:=run_bind h
 refine aQ (r:=0) (hc:=.cv (.pv ((aI false) s3.1))) 0 [] [_] [] [(.pv (I 20))] [false] (spec_l1Cur__one_sat hv36) rfl rfl rfl SC (S ?_)
 refine ah cs h (fun cs h=>S ?_) fun cs h=>S ?_
 rotate_left 3
 refine ah cs h (fun cs h=>S ?_) fun cs h=>S ?_
 obtain⟨v36,hv36,h⟩:=run_bind h
 refine aQ (r:=0) (hc:=.cv (.pv ((aI false) s3.1))) 0 [] [_] [] [(.pv (I 20))] [false] (spec_l1Cur__one_sat hv36) rfl rfl rfl SC (S ?_)
 refine ah cs h (fun cs h=>S ?_) fun cs h=>S ?_
 ·cases run_some h
  exact RetHB.l SC
 rotate_left
 ·cases run_some h
  exact RetHB.l SC
 ·obtain⟨v21,hv21,h⟩:=run_bind h
  refine aQ (r:=0) (hc:=.cv (.pv ((aI false) v15.2))) 0 [] [_] [] [(.pv (I 2))] [false] (spec_l1Cur__pick_sat hv21) rfl rfl rfl SC (S ?_)
  refine run_bk h fun v25 q h=>aU I (fun _=>rfl) q (S ?_)
  have h:=run_some h
  refine aX ⟨_,h,?_⟩
  refine bd 400 128 ?_
  exact aw SC
 ·have h:=run_some h
  refine aX ⟨_,h,?_⟩
  exact aw SC
 ·cases run_some h
  exact RetHB.l SC
 rotate_left
 ·cases run_some h
  exact RetHB.l SC
 all_goals
  obtain⟨v41,hv41,h⟩:=run_bind h
  refine aQ (r:=0) (hc:=.cv (.pv ((aI false) v36.2))) 0 [] [_] [] [(.pv (I a1))] [false] (spec_l1Cur__pick_sat hv41) rfl rfl rfl SC (S ?_)
  obtain⟨v48,hv48,h⟩:=run_bind h
  refine aQ (r:=0) (hc:=.cv (.pv ((aI false) v41.2))) 0 [] [_] [] [(.pv (I 2))] [false] (spec_l1Cur__pick_sat hv48) rfl rfl rfl SC (S ?_)
  refine run_bk h fun v52 q h=>aU I (fun _=>rfl) q (S ?_)
  cases run_some h
  exact RetHB.l SC

theorem spec_l1Cur__propSet_sat{a0:ld}  {r:(List (List Int))×ld}(h:spec_l1Cur__propSet a0=some r):SatH ag 129 [] [] .ptr [] (.pv ((aI false) a0)) (.pv ((aI false) r.2)) (.sl true 1 (r.1.map (Lv true 1 I))):=by
 obtain⟨h,cs⟩:=ao h
 unfold spec_l1Cur__propSet at h
 refine SatH.of_k (nt:=46) (rs:=[.tmp 2]) (n:=100000) 0 Tryz.func129 rfl rfl rfl rfl rfl (bt rfl) (by decide) (by first | exact bt rfl | exact SC) (S ?_)
 obtain⟨v9,hv9,h⟩:=run_bind h
 refine aQ (r:=0) (hc:=.cv (.pv ((aI false) a0))) 0 [] [_] [] [(.pv (I 4))] [false] (spec_l1Cur__pick_sat hv9) rfl rfl rfl SC (S ?_)
 obtain⟨v12,hv12,h⟩:=run_bind h
 refine aQ (r:=0) (hc:=.cv (.pv ((aI false) v9.2))) 0 [] [_] [] [(.pv (I 7))] [false] (spec_l1Cur__pick_sat hv12) rfl rfl rfl SC (S ?_)
 replace h:=run_loop h
 refine Mg.whileN h (fun s4=>[(0,.box (.pv ((aI false) s4.1))),(3,.val (.own 112)),(4,.val (.pv (I (IntKind.i64.wrap ((2:Int)+v9.1))))),(5,.val (.pv (I s4.2.2))),(20000,gh 0)]) (fun s4=>[(112,(1,s4.2.1.map (Lv true 1 I)))]) (aw SC) (fun n4 s4 h=>?_)
 refine S ?_
 refine ah cs h (fun cs h=>S ?_) fun cs h=>S ?_
 ·obtain⟨v21,hv21,h⟩:=run_bind h
  refine aQ (r:=0) (hc:=.cv (.pv ((aI false) s4.1))) 0 [] [_] [] [(.pv (I (IntKind.i64.wrap ((2:Int)+v9.1))))] [false] (spec_l1Cur__propClause_sat hv21) rfl rfl rfl SC (S ?_)
  refine run_bk h fun v23 q h=>aU (Lv true 1 I) (fun _=>rfl) q (S ?_)
  have h:=run_some h
  refine aX ⟨_,h,?_⟩
  refine bd 368 112 ?_
  exact aw SC
 ·have h:=run_some h
  obtain⟨v25,hv25,h⟩:=run_bind h
  refine aQ (r:=0) (hc:=.cv (.pv ((aI false) s4.1))) 0 [] [_] [] [(.pv (I 14))] [false] (spec_l1Cur__pick_sat hv25) rfl rfl rfl SC (S ?_)
  replace h:=run_loop h
  refine Mg.whileN h (fun s8=>[(0,.box (.pv ((aI false) s8.1))),(3,.val (.own 112)),(4,.val (.pv (I (IntKind.i64.wrap ((2:Int)+v9.1))))),(6,.val (.pv (I s8.2.2))),(20000,gh 0)]) (fun s8=>[(112,(1,s8.2.1.map (Lv true 1 I)))]) (aw SC) (fun n8 s8 h=>?_)
  refine S ?_
  refine ah cs h (fun cs h=>S ?_) fun cs h=>S ?_
  ·obtain⟨v30,hv30,h⟩:=run_bind h
   refine aQ (r:=0) (hc:=.cv (.pv ((aI false) s8.1))) 0 [] [_] [] [(.pv (I 2))] [false] (spec_l1Cur__one_sat hv30) rfl rfl rfl SC (S ?_)
   refine ah cs h (fun cs h=>S ?_) fun cs h=>S ?_
   ·obtain⟨v37,hv37,h⟩:=run_bind h
    refine aQ (r:=0) (hc:=.cv (.pv ((aI false) v30.2))) 0 [] [_] [] [(.pv (I (IntKind.i64.wrap ((2:Int)+v9.1))))] [false] (spec_l1Cur__propClause_sat hv37) rfl rfl rfl SC (S ?_)
    refine run_bk h fun v39 q h=>aU (Lv true 1 I) (fun _=>rfl) q (S ?_)
    obtain⟨v42,hv42,h⟩:=run_bind h
    refine aQ (r:=0) (hc:=.cv (.pv ((aI false) v37.2))) 0 [] [_] [] [(.pv (I 2))] [false] (spec_l1Cur__propClause_sat hv42) rfl rfl rfl SC (S ?_)
    refine run_bk h fun v44 q h=>aU (Lv true 1 I) (fun _=>rfl) q (S ?_)
    have h:=run_some h
    refine aX ⟨_,h,?_⟩
    refine bd 704 112 ?_
    exact aw SC
   ·cases run_some h
    exact RetHB.l SC
  ·have h:=run_some h
   cases run_some h
   exact RetHB.l SC

theorem spec_l15Abs_sat{a0:Int}  {r:Int}(h:spec_l15Abs a0=some r):Sat ag 67 [(I a0)] (I r):=by
 obtain⟨h,cs⟩:=ao h
 unfold spec_l15Abs at h
 refine aq 8 [.tmp 2] Tryz.func67 (h:=S ?_)
 refine ah cs h (fun cs h=>S ?_) fun cs h=>S ?_
 ·exact al h
 ·exact al h

theorem spec_l1In_sat{a0:Int}{a1:Int}{a2:Int}  {r:Bool}(h:spec_l1In a0 a1 a2=some r):Sat ag 32 [(I a0),(I a1),(I a2)] (B r):=by
 obtain⟨h,cs⟩:=ao h
 unfold spec_l1In at h
 refine aq 15 [.tmp 6] Tryz.func32 (h:=S ?_)
 refine ah cs h (fun cs h=>S ?_) fun cs h=>S ?_
 ·exact al h
 ·exact al h

theorem spec_l15Clause_sat{a0:List Int}  {r:Bool}(h:spec_l15Clause a0=some r):Sat ag 103 [(.sl false 1 (a0.map I))] (B r):=by
 obtain⟨h,cs⟩:=ao h
 unfold spec_l15Clause at h
 refine aq 35 [.tmp 2] Tryz.func103 (h:=S ?_)
 refine aS (b:=false) (sz:=1) (es:=a0.map I) 0 SC fun hl0=>?_; rw[aF] at hl0
 refine aJ (run_loop h) (fun i2 s2=>[(0,.val (.pv (.sl false 1 (a0.map I)))),(3,.val (.pv (I (i2:Int))))]) (fun i2 s2=>[]) (aw SC) (fun i2 s2 hi h=>?_) (fun s2 h=>?_)
 ·have w:=wrap_s2 i2
  refine S ?_
  refine aG cs fun cs=>S ?_
  refine run_bk h fun v12 q h=>au I q (S ?_)
  refine run_bk h fun v14 q h=>aj [false] (spec_l15Abs_sat q) (S ?_)
  refine run_bk h fun v15 q h=>aj [false,false,false] (spec_l1In_sat q) (S ?_)
  refine ah cs h (fun cs h=>S ?_) fun cs h=>S ?_
  ·refine ah cs h (fun cs h=>S ?_) fun cs h=>S ?_
   ·refine run_bk h fun v24 q h=>au I q (S ?_)
    refine run_bk h fun v26 q h=>aj [false] (spec_l15Abs_sat q) (S ?_)
    refine run_bk h fun v29 q h=>au I q (S ?_)
    refine run_bk h fun v31 q h=>aj [false] (spec_l15Abs_sat q) (S ?_)
    refine ae (aY [] []) (S ?_)
    refine ah cs h (fun cs h=>S ?_) fun cs h=>S ?_
    ·exact al h
    ·exact aK h
   ·refine ae (aY [] []) (S ?_)
    exact aK h
  ·refine ae (aY [] []) (S ?_)
   exact al h
 ·refine S ?_
  refine aH cs fun cs=>S ?_
  exact al h

theorem spec_l15Set_sat{a0:List (List Int)}  {r:Bool}(h:spec_l15Set a0=some r):Sat ag 62 [(.sl false 1 (a0.map (Lv false 1 I)))] (B r):=by
 obtain⟨h,cs⟩:=ao h
 unfold spec_l15Set at h
 refine aq 23 [.tmp 2] Tryz.func62 (h:=S ?_)
 refine aS (b:=false) (sz:=1) (es:=a0.map (Lv false 1 I)) 0 SC fun hl0=>?_; rw[aF] at hl0
 refine aJ (run_loop h) (fun i2 s2=>[(0,.val (.pv (.sl false 1 (a0.map (Lv false 1 I))))),(3,.val (.pv (I (i2:Int))))]) (fun i2 s2=>[]) (aw SC) (fun i2 s2 hi h=>?_) (fun s2 h=>?_)
 ·have w:=wrap_s2 i2
  refine S ?_
  refine aG cs fun cs=>S ?_
  refine ah cs h (fun cs h=>S ?_) fun cs h=>S ?_
  ·refine run_bk h fun v16 q h=>au (Lv false 1 I) q (S ?_)
   refine run_bk h fun v18 q h=>aj [false] (spec_l15Clause_sat q) (S ?_)
   refine ah cs h (fun cs h=>S ?_) fun cs h=>S ?_
   ·exact aK h
   ·exact al h
  ·exact al h
 ·refine S ?_
  refine aH cs fun cs=>S ?_
  exact al h

theorem spec_l1Has_sat{a0:List Int}{a1:Int}  {r:Bool}(h:spec_l1Has a0 a1=some r):Sat ag 104 [(.sl false 1 (a0.map I)),(I a1)] (B r):=by
 obtain⟨h,cs⟩:=ao h
 unfold spec_l1Has at h
 refine aq 18 [.tmp 4] Tryz.func104 (h:=S ?_)
 refine aS (b:=false) (sz:=1) (es:=a0.map I) 0 SC fun hl0=>?_; rw[aF] at hl0
 refine aJ (run_loop h) (fun i2 s2=>[(0,.val (.pv (.sl false 1 (a0.map I)))),(1,.val (.pv (I a1))),(5,.val (.pv (I (i2:Int))))]) (fun i2 s2=>[]) (aw SC) (fun i2 s2 hi h=>?_) (fun s2 h=>?_)
 ·have w:=wrap_s2 i2
  refine S ?_
  refine aG cs fun cs=>S ?_
  refine run_bk h fun v14 q h=>au I q (S ?_)
  refine ah cs h (fun cs h=>S ?_) fun cs h=>S ?_
  ·exact al h
  ·exact aK h
 ·refine S ?_
  refine aH cs fun cs=>S ?_
  exact al h

theorem spec_l15Status_sat{a0:List Int}{a1:List Int}  {r:Int×Int}(h:spec_l15Status a0 a1=some r):Sat ag 183 [(.sl false 1 (a0.map I)),(.sl false 1 (a1.map I))] (.tup [(I r.1),(I r.2)]):=by
 obtain⟨h,cs⟩:=ao h
 unfold spec_l15Status at h
 refine aq 37 [.tmp 4,.tmp 5] Tryz.func183 (h:=S ?_)
 refine aS (b:=false) (sz:=1) (es:=a0.map I) 0 SC fun hl0=>?_; rw[aF] at hl0
 refine aJ (run_loop h) (fun i3 s3=>[(0,.val (.pv (.sl false 1 (a0.map I)))),(1,.val (.pv (.sl false 1 (a1.map I)))),(6,.val (.pv (I s3.1))),(7,.val (.pv (I s3.2))),(8,.val (.pv (I (i3:Int))))]) (fun i3 s3=>[]) (aw SC) (fun i3 s3 hi h=>?_) (fun s3 h=>?_)
 ·have w:=wrap_s2 i3
  refine S ?_
  refine aG cs fun cs=>S ?_
  refine run_bk h fun v18 q h=>au I q (S ?_)
  refine run_bk h fun v20 q h=>aj [false,false] (spec_l1Has_sat q) (S ?_)
  refine ah cs h (fun cs h=>S ?_) fun cs h=>S ?_
  ·exact al h
  ·refine run_bk h fun v24 q h=>au I q (S ?_)
   refine run_bk h fun v27 q h=>aj [false,false] (spec_l1Has_sat q) (S ?_)
   refine ah cs h (fun cs h=>S ?_) fun cs h=>S ?_
   ·exact aK h
   ·refine run_bk h fun v33 q h=>au I q (S ?_)
    exact aK h
 ·refine S ?_
  refine aH cs fun cs=>S ?_
  exact al h

theorem spec_l15False_sat{a0:List (List Int)}{a1:List Int}  {r:Int}(h:spec_l15False a0 a1=some r):Sat ag 159 [(.sl false 1 (a0.map (Lv false 1 I))),(.sl false 1 (a1.map I))] (I r):=by
 obtain⟨h,cs⟩:=ao h
 unfold spec_l15False at h
 refine aq 26 [.tmp 4] Tryz.func159 (h:=S ?_)
 refine aS (b:=false) (sz:=1) (es:=a0.map (Lv false 1 I)) 0 SC fun hl0=>?_; rw[aF] at hl0
 refine aJ (run_loop h) (fun i2 s2=>[(0,.val (.pv (.sl false 1 (a0.map (Lv false 1 I))))),(1,.val (.pv (.sl false 1 (a1.map I)))),(5,.val (.pv (I (i2:Int))))]) (fun i2 s2=>[]) (aw SC) (fun i2 s2 hi h=>?_) (fun s2 h=>?_)
 ·have w:=wrap_s2 i2
  refine S ?_
  refine aG cs fun cs=>S ?_
  refine run_bk h fun v17 q h=>au (Lv false 1 I) q (S ?_)
  refine run_bk h fun v20 q h=>aj [false,false] (spec_l15Status_sat q) (S ?_)
  refine ah cs h (fun cs h=>S ?_) fun cs h=>S ?_
  ·exact al h
  ·exact aK h
 ·refine S ?_
  refine aH cs fun cs=>S ?_
  exact al h

theorem spec_l1Most_sat{a0:Int}{a1:Int}  {r:Int}(h:spec_l1Most a0 a1=some r):Sat ag 185 [(I a0),(I a1)] (I r):=by
 obtain⟨h,cs⟩:=ao h
 unfold spec_l1Most at h
 refine aq 10 [.tmp 4] Tryz.func185 (h:=S ?_)
 refine ah cs h (fun cs h=>S ?_) fun cs h=>S ?_
 ·exact al h
 ·exact al h

theorem spec_l15Most_sat{a0:List (List Int)}  {r:Int}(h:spec_l15Most a0=some r):Sat ag 161 [(.sl false 1 (a0.map (Lv false 1 I)))] (I r):=by
 obtain⟨h,cs⟩:=ao h
 unfold spec_l15Most at h
 refine aq 32 [.tmp 2] Tryz.func161 (h:=S ?_)
 refine aS (b:=false) (sz:=1) (es:=a0.map (Lv false 1 I)) 0 SC fun hl0=>?_; rw[aF] at hl0
 refine aJ (run_loop h) (fun i3 s3=>[(0,.val (.pv (.sl false 1 (a0.map (Lv false 1 I))))),(3,.val (.pv (I s3))),(4,.val (.pv (I (i3:Int))))]) (fun i3 s3=>[]) (aw SC) (fun i3 s3 hi h=>?_) (fun s3 h=>?_)
 ·have w:=wrap_s2 i3
  refine S ?_
  refine aG cs fun cs=>S ?_
  replace h:=run_loop h
  refine Mg.whileN h (fun s6=>[(0,.val (.pv (.sl false 1 (a0.map (Lv false 1 I))))),(3,.val (.pv (I s6.1))),(4,.val (.pv (I (i3:Int)))),(5,.val (.pv (I s6.2)))]) (fun s6=>[]) (aw SC) (fun n6 s6 h=>?_)
  refine S ?_
  refine run_bk h fun v15 q h=>au (Lv false 1 I) q (S ?_)
  refine ah cs h (fun cs h=>S ?_) fun cs h=>S ?_
  ·refine run_bk h fun v24 q h=>au (Lv false 1 I) q (S ?_)
   refine run_bk h fun v27 q h=>au I q (S ?_)
   refine run_bk h fun v29 q h=>aj [false] (spec_l15Abs_sat q) (S ?_)
   refine run_bk h fun v30 q h=>aj [false,false] (spec_l1Most_sat q) (S ?_)
   have h:=run_some h
   refine aX ⟨_,h,?_⟩
   exact aw SC
  ·have h:=run_some h
   exact aK h
 ·refine S ?_
  refine aH cs fun cs=>S ?_
  exact al h

theorem spec_l1Own_sat{a0:List Int}  {r:List Int}(h:spec_l1Own a0=some r):Sat ag 184 [(.sl false 1 (a0.map I))] (.sl true 1 (r.map I)):=by
 obtain⟨h,cs⟩:=ao h
 unfold spec_l1Own at h
 refine aq 6 [.tmp 2] Tryz.func184 (h:=S ?_)
 refine run_bk h fun v5 q h=>aU I (fun _=>rfl) q (S ?_)
 exact al h

theorem spec_l15SearchN_sat(n:Nat):(∀ (a0:List (List Int)) (a1:List Int) (a2:Int) (a3:Int) (r:(List Int)×Bool),spec_l15SearchN n a0 a1 a2 a3=some r→Sat ag 160 [(.sl false 1 (a0.map (Lv false 1 I))),(.sl false 1 (a1.map I)),(I a2),(I a3)] (.tup [(.sl true 1 (r.1.map I)),(B r.2)])):=by
 induction n with
 | zero=>exact fun _ _ _ _ _ h=>by simp[spec_l15SearchN] at h
 | succ n ih=>
  refine fun a0 a1 a2 a3 r h=>?_
  obtain⟨h,cs⟩:=ao h
  rw[spec_l15SearchN] at h
  refine aq 50 [.tmp 8,.tmp 9] Tryz.func160 (h:=S ?_)
  refine run_bk h fun v14 q h=>aj [false,false] (spec_l15False_sat q) (S ?_)
  refine ah cs h (fun cs h=>S ?_) fun cs h=>S ?_
  ·exact al h
  ·refine ah cs h (fun cs h=>S ?_) fun cs h=>S ?_
   ·refine run_bk h fun v21 q h=>aj [false] (spec_l1Own_sat q) (S ?_)
    exact al h
   ·refine run_bk h fun v25 q h=>aj [false] (spec_l1Own_sat q) (S ?_)
    refine run_bk h fun v28 q h=>aU I (fun _=>rfl) q (S ?_)
    refine run_bk h fun v32 q h=>aj [false,false,false,false] (ih _ _ _ _ _ q) (S ?_)
    refine ah cs h (fun cs h=>S ?_) fun cs h=>S ?_
    ·exact al h
    ·refine run_bk h fun v39 q h=>aj [false] (spec_l1Own_sat q) (S ?_)
     refine run_bk h fun v43 q h=>aU I (fun _=>rfl) q (S ?_)
     refine run_bk h fun v47 q h=>aj [false,false,false,false] (ih _ _ _ _ _ q) (S ?_)
     exact al h
theorem spec_l15Search_sat{a0:List (List Int)}{a1:List Int}{a2:Int}{a3:Int}{r:(List Int)×Bool}(h:spec_l15Search a0 a1 a2 a3=some r):Sat ag 160 [(.sl false 1 (a0.map (Lv false 1 I))),(.sl false 1 (a1.map I)),(I a2),(I a3)] (.tup [(.sl true 1 (r.1.map I)),(B r.2)]):=by
 obtain⟨n,hn⟩:=lim_some h
 exact(spec_l15SearchN_sat n) _ _ _ _ _ hn

theorem spec_l15Proof__clause_sat{a0:lc}{a1:Int}  {r:(List Int)×lc}(h:spec_l15Proof__clause a0 a1=some r):SatH ag 64 [] [(I a1)] .ptr [] (.pv ((lc.pv false) a0)) (.pv ((lc.pv false) r.2)) (.sl false 1 (r.1.map I)):=by
 obtain⟨h,cs⟩:=ao h
 unfold spec_l15Proof__clause at h
 refine SatH.of_k (nt:=33) (rs:=[.tmp 4]) (n:=100000) 0 Tryz.func64 rfl rfl rfl rfl rfl (bt rfl) (by decide) (by first | exact bt rfl | exact SC) (S ?_)
 refine ah cs h (fun cs h=>S ?_) fun cs h=>S ?_
 ·refine run_bk h fun v17 q h=>au (Lv false 1 I) q (S ?_)
  cases run_some h
  exact RetHB.r SC
 ·refine run_bk h fun v30 q h=>au (aN false) q (S ?_)
  refine ae (aY [] []) (S ?_)
  cases run_some h
  exact RetHB.r SC

theorem spec_l15Put_sat{a0:List Int}{a1:Int}  {r:List Int}(h:spec_l15Put a0 a1=some r):Sat ag 105 [(.sl false 1 (a0.map I)),(I a1)] (.sl true 1 (r.map I)):=by
 obtain⟨h,cs⟩:=ao h
 unfold spec_l15Put at h
 refine aq 34 [.tmp 4] Tryz.func105 (h:=S ?_)
 refine aS (b:=false) (sz:=1) (es:=a0.map I) 0 SC fun hl0=>?_; rw[aF] at hl0
 refine aJ (run_loop h) (fun i2 s2=>[(0,.val (.pv (.sl false 1 (a0.map I)))),(1,.val (.pv (I a1))),(5,.val (.pv (I (i2:Int))))]) (fun i2 s2=>[]) (aw SC) (fun i2 s2 hi h=>?_) (fun s2 h=>?_)
 ·have w:=wrap_s2 i2
  refine S ?_
  refine aG cs fun cs=>S ?_
  refine run_bk h fun v13 q h=>au I q (S ?_)
  refine run_bk h fun v15 q h=>aj [false] (spec_l15Abs_sat q) (S ?_)
  refine run_bk h fun v17 q h=>aj [false] (spec_l15Abs_sat q) (S ?_)
  refine ah cs h (fun cs h=>S ?_) fun cs h=>S ?_
  ·exact aK h
  ·refine run_bk h fun v25 q h=>SlcH.mk (f:=I) q SC (S ?_)
   refine run_bk h fun v26 q h=>aU I (fun _=>rfl) q (S ?_)
   refine run_bk h fun v29 q h=>aU I (fun _=>rfl) q (S ?_)
   refine run_bk h fun v32 q h=>SlcH.mk (f:=I) q SC (S ?_)
   refine run_bk h fun v33 q h=>aU I (fun _=>rfl) q (S ?_)
   refine ae (aY [] [352,416,448,464,528]) (S ?_)
   exact al h
 ·refine S ?_
  refine aH cs fun cs=>S ?_
  refine run_bk h fun v25 q h=>SlcH.mk (f:=I) q SC (S ?_)
  refine run_bk h fun v26 q h=>aU I (fun _=>rfl) q (S ?_)
  refine run_bk h fun v29 q h=>aU I (fun _=>rfl) q (S ?_)
  refine run_bk h fun v32 q h=>SlcH.mk (f:=I) q SC (S ?_)
  refine run_bk h fun v33 q h=>aU I (fun _=>rfl) q (S ?_)
  refine ae (aY [] [352,416,448,464,528]) (S ?_)
  exact al h

theorem spec_l15Resolve_sat{a0:List Int}{a1:List Int}{a2:Int}  {r:(List Int)×Bool}(h:spec_l15Resolve a0 a1 a2=some r):Sat ag 63 [(.sl false 1 (a0.map I)),(.sl false 1 (a1.map I)),(I a2)] (.tup [(.sl true 1 (r.1.map I)),(B r.2)]):=by
 obtain⟨h,cs⟩:=ao h
 unfold spec_l15Resolve at h
 refine aq 79 [.tmp 6,.tmp 7] Tryz.func63 (h:=S ?_)
 refine run_bk h fun v13 q h=>aj [false,false] (spec_l1Has_sat q) (S ?_)
 refine ah cs h (fun cs h=>S ?_) fun cs h=>S ?_
 refine run_bk h fun v19 q h=>aj [false,false] (spec_l1Has_sat q) (S ?_)
 refine ah cs h (fun cs h=>S ?_) fun cs h=>S ?_
 ·refine aS (b:=false) (sz:=1) (es:=a0.map I) 0 SC fun hl0=>?_; rw[aF] at hl0
  refine aJ (run_loop h) (fun i5 s5=>[(0,.val (.pv (.sl false 1 (a0.map I)))),(1,.val (.pv (.sl false 1 (a1.map I)))),(2,.val (.pv (I a2))),(8,.val (.own 368)),(9,.val (.pv (I (i5:Int))))]) (fun i5 s5=>[(368,(1,s5.map I))]) (aw SC) (fun i5 s5 hi h=>?_) (fun s5 h=>?_)
  ·have w:=wrap_s2 i5
   refine S ?_
   refine aG cs fun cs=>S ?_
   refine run_bk h fun v32 q h=>au I q (S ?_)
   refine ah cs h (fun cs h=>S ?_) fun cs h=>S ?_
   ·exact aK h
   ·refine run_bk h fun v39 q h=>au I q (S ?_)
    refine run_bk h fun v42 q h=>aU I (fun _=>rfl) q (S ?_)
    have h:=run_some h
    refine aX ⟨_,h,?_⟩
    refine bd 672 368 ?_
    exact aw SWx
  ·refine S ?_
   refine aH cs fun cs=>S ?_
   refine aS (b:=false) (sz:=1) (es:=a1.map I) 1 SC fun hl1=>?_; rw[aF] at hl1
   refine aJ (run_loop h) (fun i10 s10=>[(1,.val (.pv (.sl false 1 (a1.map I)))),(2,.val (.pv (I a2))),(8,.val (.own 368)),(10,.val (.pv (I (i10:Int))))]) (fun i10 s10=>[(368,(1,s10.map I))]) (aw SC) (fun i10 s10 hi h=>?_) (fun s10 h=>?_)
   ·have w:=wrap_s2 i10
    refine S ?_
    refine aG cs fun cs=>S ?_
    refine run_bk h fun v51 q h=>au I q (S ?_)
    refine ah cs h (fun cs h=>S ?_) fun cs h=>S ?_
    ·exact aK h
    ·refine run_bk h fun v60 q h=>au I q (S ?_)
     refine run_bk h fun v62 q h=>aj [false,false] (spec_l1Has_sat q) (S ?_)
     refine ah cs h (fun cs h=>S ?_) fun cs h=>S ?_
     ·exact aK h
     ·refine run_bk h fun v67 q h=>au I q (S ?_)
      refine run_bk h fun v70 q h=>aj [false,false] (spec_l1Has_sat q) (S ?_)
      refine ah cs h (fun cs h=>S ?_) fun cs h=>S ?_
      ·exact al h
      ·refine run_bk h fun v75 q h=>au I q (S ?_)
       refine run_bk h fun v77 q h=>aj [false,false] (spec_l15Put_sat q) (S ?_)
       have h:=run_some h
       refine aX ⟨_,h,?_⟩
       refine bd 1232 368 ?_
       exact aw SWx
   ·refine S ?_
    refine aH cs fun cs=>S ?_
    exact al h
 all_goals
  exact al h

theorem spec_l15Proof__clause_ht0_sat{a0:lc}{a1:Int}  {r:(List Int)×lc}(h:spec_l15Proof__clause_ht0 a0 a1=some r):SatH ag 64 [] [(I a1)] .ptr [] (.pv (lc.pvt a0)) (.pv (lc.pvt r.2)) (.sl false 1 (r.1.map I)):=by
 obtain⟨h,cs⟩:=ao h
 unfold spec_l15Proof__clause_ht0 at h
 refine SatH.of_k (nt:=33) (rs:=[.tmp 4]) (n:=100000) 0 Tryz.func64 rfl rfl rfl rfl rfl (bt rfl) (by decide) (by first | exact bt rfl | exact SC) (S ?_)
 refine ah cs h (fun cs h=>S ?_) fun cs h=>S ?_
 ·refine run_bk h fun v17 q h=>au (Lv false 1 I) q (S ?_)
  cases run_some h
  exact RetHB.r SC
 ·refine run_bk h fun v30 q h=>au (aN false) q (S ?_)
  refine run_bk h fun v32 q h=>EldH.c (aN false) q (S ?_)
  refine ae (aY [] []) (S ?_)
  cases run_some h
  exact RetHB.r SC

theorem spec_l15Proof__searchN_sat(n:Nat):(∀ (a0:lc) (a1:List Int) (a2:Int) (r:Int×lc),spec_l15Proof__searchN n a0 a1 a2=some r→SatH ag 162 [] [(.sl false 1 (a1.map I)),(I a2)] .ptr [] (.pv (lc.pvt a0)) (.pv (lc.pvt r.2)) (I r.1)):=by
 induction n with
 | zero=>exact fun _ _ _ _ h=>by simp[spec_l15Proof__searchN] at h
 | succ n ih=>
  refine fun a0 a1 a2 r h=>?_
  obtain⟨h,cs⟩:=ao h
  rw[spec_l15Proof__searchN] at h
  refine SatH.of_k (nt:=92) (rs:=[.tmp 6]) (n:=100000) 0 Tryz.func162 rfl rfl rfl rfl rfl (bt rfl) (by decide) (by first | exact bt rfl | exact SC) (S ?_)
  refine run_bk h fun v17 q h=>aj [false,false] (spec_l15False_sat q) (S ?_)
  refine ah cs h (fun cs h=>S ?_) fun cs h=>S ?_
  rotate_left
  refine run_bk h fun v23 q h=>aj [false] (spec_l1Own_sat q) (S ?_)
  refine run_bk h fun v26 q h=>aU I (fun _=>rfl) q (S ?_)
  obtain⟨v29,hv29,h⟩:=run_bind h
  refine aQ (r:=0) (hc:=.cv (.node [(.pv (.sl false 1 (a0.set.map (Lv false 1 I)))),(.own 9000)])) (pre:=[]) (post:=[(.sl true 1 (v26.map I)),(I (IntKind.i64.wrap (a2+1)))]) 0 [] [_,_] [] [(.own 416),(.pv (I (IntKind.i64.wrap (a2+1))))] [true,false] (SatH.give [true,false] (ih _ _ _ _ hv29) (by first | rfl | simp only[gv_t,gv_f,gv_n,view_sl,view_agg,view_lit,views_I,views_Sx,views_repB,views_repI,aA,bn,List.cons_append]) rfl) rfl rfl rfl SC (S ?_)
  obtain⟨v32,hv32,h⟩:=run_bind h
  refine aQ (r:=0) (hc:=.cv (.node [(.pv (.sl false 1 (v29.2.set.map (Lv false 1 I)))),(.own 464)])) 0 [] [_] [] [(.pv (I v29.1))] [false] (spec_l15Proof__clause_ht0_sat hv32) rfl rfl rfl SC (S ?_)
  refine run_bk h fun v35 q h=>aj [false,false] (spec_l1Has_sat q) (S ?_)
  refine ah cs h (fun cs h=>S ?_) fun cs h=>S ?_
  refine run_bk h fun v40 q h=>aj [false] (spec_l1Own_sat q) (S ?_)
  refine run_bk h fun v44 q h=>aU I (fun _=>rfl) q (S ?_)
  obtain⟨v47,hv47,h⟩:=run_bind h
  refine aQ (r:=0) (hc:=.cv (.node [(.pv (.sl false 1 (v32.2.set.map (Lv false 1 I)))),(.own 512)])) (pre:=[]) (post:=[(.sl true 1 (v44.map I)),(I (IntKind.i64.wrap (a2+1)))]) 0 [] [_,_] [] [(.own 704),(.pv (I (IntKind.i64.wrap (a2+1))))] [true,false] (SatH.give [true,false] (ih _ _ _ _ hv47) (by first | rfl | simp only[gv_t,gv_f,gv_n,view_sl,view_agg,view_lit,views_I,views_Sx,views_repB,views_repI,aA,bn,List.cons_append]) rfl) rfl rfl rfl SC (S ?_)
  obtain⟨v50,hv50,h⟩:=run_bind h
  refine aQ (r:=0) (hc:=.cv (.node [(.pv (.sl false 1 (v47.2.set.map (Lv false 1 I)))),(.own 752)])) 0 [] [_] [] [(.pv (I v47.1))] [false] (spec_l15Proof__clause_ht0_sat hv50) rfl rfl rfl SC (S ?_)
  refine run_bk h fun v52 q h=>aj [false,false] (spec_l1Has_sat q) (S ?_)
  refine ah cs h (fun cs h=>S ?_) fun cs h=>S ?_
  ·obtain⟨v58,hv58,h⟩:=run_bind h
   refine aQ (r:=0) (hc:=.cv (.node [(.pv (.sl false 1 (v50.2.set.map (Lv false 1 I)))),(.own 800)])) 0 [] [_] [] [(.pv (I v47.1))] [false] (spec_l15Proof__clause_ht0_sat hv58) rfl rfl rfl SC (S ?_)
   obtain⟨v61,hv61,h⟩:=run_bind h
   refine aQ (r:=0) (hc:=.cv (.node [(.pv (.sl false 1 (v58.2.set.map (Lv false 1 I)))),(.own 928)])) 0 [] [_] [] [(.pv (I v29.1))] [false] (spec_l15Proof__clause_ht0_sat hv61) rfl rfl rfl SC (S ?_)
   refine run_bk h fun v63 q h=>aj [false,false,false] (Sat.vwOf (res':=(.tup [(.sl false 1 (v63.1.map I)),(B v63.2)])) (spec_l15Resolve_sat q) (by simp only[view_tup,view_sl,view_agg,view_lit,aA,RB,RS])) (S ?_)
   refine run_bk h fun v77 q h=>aU (aN false) (fun a=>Pt.psize _ a) q (S ?_)
   refine ae (aY [] []) (S ?_)
   cases run_some h
   exact RetHB.l SC
  all_goals
   cases run_some h
   exact RetHB.l SC
theorem spec_l15Proof__search_sat{a0:lc}{a1:List Int}{a2:Int}{r:Int×lc}(h:spec_l15Proof__search a0 a1 a2=some r):SatH ag 162 [] [(.sl false 1 (a1.map I)),(I a2)] .ptr [] (.pv (lc.pvt a0)) (.pv (lc.pvt r.2)) (I r.1):=by
 obtain⟨n,hn⟩:=lim_some h
 exact(spec_l15Proof__searchN_sat n) _ _ _ _ hn

theorem spec_RefuteClauses_sat{a0:List (List Int)}  {r:(List Pt)×Bool}(h:spec_RefuteClauses a0=some r):Sat ag 130 [(.sl false 1 (a0.map (Lv false 1 I)))] (.tup [(.sl true 4 (r.1.map (aN false))),(B r.2)]):=by
 obtain⟨h,cs⟩:=ao h
 unfold spec_RefuteClauses at h
 refine aq 44 [.tmp 2,.tmp 3] Tryz.func130 (h:=S ?_)
 refine run_bk h fun v8 q h=>aj [false] (spec_l15Set_sat q) (S ?_)
 refine ah cs h (fun cs h=>S ?_) fun cs h=>S ?_
 refine run_bk h fun v13 q h=>aj [false,false] (spec_l15False_sat q) (S ?_)
 refine ah cs h (fun cs h=>S ?_) fun cs h=>S ?_
 rotate_left
 refine run_bk h fun v21 q h=>aj [false] (spec_l15Most_sat q) (S ?_)
 refine run_bk h fun v22 q h=>aj [false,false,false,false] (spec_l15Search_sat q) (S ?_)
 refine ah cs h (fun cs h=>S ?_) fun cs h=>S ?_
 rotate_left
 obtain⟨v32,hv32,h⟩:=run_bind h
 refine aQ (r:=29) (hc:=.cv (.node [(.pv (.sl false 1 (a0.map (Lv false 1 I)))),(.pv (.sl true 4 []))])) (pre:=[]) (post:=[(.sl true 1 (([]).map I)),(I 1)]) 0 [] [_,_] [] [(.own 496),(.pv (I 1))] [true,false] (SatH.give [true,false] (spec_l15Proof__search_sat hv32) (by first | rfl | simp only[gv_t,gv_f,gv_n,view_sl,view_agg,view_lit,views_I,views_Sx,views_repB,views_repI,aA,bn,List.cons_append]) rfl) rfl rfl rfl SC (S ?_)
 refine ah cs h (fun cs h=>S ?_) fun cs h=>S ?_
 all_goals
  exact al h

theorem refute_no{a0:List (List Int)}{r:List Pt×Bool}(h:spec_RefuteClauses a0=some r)(hf:r.2=false):r.1=[]:=by
 unfold spec_RefuteClauses at h
 cases e1:spec_l15Set a0 with
 | none=>rw[e1] at h; cases h
 | some v8=>
  rw[e1,ai] at h
  cases v8
  ·cases h; rfl
  ·rw[cond_true] at h
   cases e2:spec_l15False a0 [] with
   | none=>rw[e2] at h; cases h
   | some v13=>
    rw[e2,ai] at h
    by_cases b:0≤v13
    ·rw[decide_eq_true b] at h; cases h; rfl
    ·rw[decide_eq_false b,cond_false] at h
     cases e3:spec_l15Most a0 with
     | none=>rw[e3] at h; cases h
     | some v21=>
      rw[e3,ai] at h
      cases e4:spec_l15Search a0 [] 1 v21 with
      | none=>rw[e4] at h; cases h
      | some v22=>
       rw[e4,ai] at h
       cases e5:v22.2
       ·rw[e5,cond_false] at h
        cases e6:spec_l15Proof__search (lc.mk a0 []) [] 1 with
        | none=>rw[e6] at h; cases h
        | some v32=>
         rw[e6,ai] at h
         by_cases c:200<(v32.2.steps.length:Int)
         ·rw[decide_eq_true c] at h; cases h; rfl
         ·rw[decide_eq_false c] at h; cases h; cases hf
       ·rw[e5] at h; cases h; rfl
theorem MgF.weak{P:Program}{nt n:Nat}{F:St→Prop}{k:List Fr}{st st':St}{id:Nat}{l:Array Oper}{b:Bool}(hle:st.le st')(h:MgF P nt F (n+1) (.code (.region id l b)) st' k):MgF P nt F (n+1) (.code (.region id l b)) st k:=VC.weaken (Q:=popQ P nt F k) hle h
theorem spec_l1Cur__refutation_sat{a0:ld}  {r:((List (List Int))×(List Pt))×ld}(h:spec_l1Cur__refutation a0=some r):SatH ag 88 [] [] .ptr [] (.pv ((aI false) a0)) (.pv ((aI false) r.2)) (.tup [(.sl false 1 (r.1.1.map (Lv false 1 I))),(.sl false 4 (r.1.2.map (aN false)))]):=by
 obtain⟨h,cs⟩:=ao h
 unfold spec_l1Cur__refutation at h
 refine SatH.of_kf (nt:=64) (rs:=[.tmp 2,.tmp 3]) (n:=100000) 0 Tryz.func88 rfl rfl rfl rfl rfl (bt rfl) (by decide) (by first | exact bt rfl | exact SC) (S ?_)
 refine MgF.reg (S ?_)
 refine MgF.reg (S ?_)
 obtain⟨v9,hv9,h⟩:=run_bind h
 refine aQ (r:=0) (hc:=.cv (.pv ((aI false) a0))) 0 [] [] [] [] [] (spec_l1Cur__propSet_sat hv9) rfl rfl rfl SC (S ?_)
 obtain⟨⟨p12,b12⟩,hv12,h⟩:=run_bind h
 cases b12
 ·cases refute_no hv12 rfl
  refine MgF.reg (S ?_)
  refine aj [false] (spec_RefuteClauses_sat hv12) (S ?_)
  replace h:=run_loop h
  refine MgF.reg (S ?_)
  refine MgF.forN h (fun i4 s4=>bif s4.2.2.2 then [(0,.box (.pv ((aI false) s4.1))),(4,.val (.pv (.sl false 1 (s4.2.1.map (Lv false 1 I))))),(5,.val (.own 192)),(6,.val (.pv (B true))),(7,.val (.pv (I (i4:Int)))),(20000,gh 0)] else [(0,.box (.pv ((aI false) s4.1))),(4,.val (.own 144)),(5,.val (.own 192)),(6,.val (.pv (B false))),(7,.val (.pv (I (i4:Int)))),(20000,gh 0)]) (fun i4 s4=>bif s4.2.2.2 then [(192,(4,s4.2.2.1.map (aN false)))] else [(144,(1,s4.2.1.map (Lv true 1 I))),(192,(4,s4.2.2.1.map (aN true)))]) (by dsimp only[cond_true,cond_false]; exact aw SC) (fun i4 s4 hi h=>?_) (fun s4 h=>?_)
  ·obtain⟨c4,t4,p4,b4⟩:=s4
   have w:=wrap_s2 i4
   cases b4
   ·dsimp only[cond_true,cond_false] at h ⊢
    refine S ?_
    refine MgF.reg (S ?_)
    refine aG cs fun cs=>S ?_
    refine MgF.reg (S ?_)
    obtain⟨v25,hv25,h⟩:=run_bind h
    refine aQ (r:=0) (hc:=.cv (.pv ((aI false) c4))) 0 [] [_] [] [(.pv (I 2))] [false] (spec_l1Cur__propClause_sat hv25) rfl rfl rfl SC (S ?_)
    obtain⟨v27,hv27,h⟩:=run_bind h
    refine aQ (r:=0) (hc:=.cv (.pv ((aI false) v25.2))) 0 [] [_] [] [(.pv (I 2))] [false] (spec_l1Cur__pick_sat hv27) rfl rfl rfl SC (S ?_)
    obtain⟨v32,hv32,h⟩:=run_bind h
    refine aQ (r:=0) (hc:=.cv (.pv ((aI false) v27.2))) 0 [] [_] [] [(.pv (I 2))] [false] (spec_l1Cur__pick_sat hv32) rfl rfl rfl SC (S ?_)
    refine run_bk h fun v37 q h=>aU (Lv true 1 I) (fun _=>rfl) q (S ?_)
    obtain⟨⟨p40,b40⟩,hv40,h⟩:=run_bind h
    cases b40
    ·cases refute_no hv40 rfl
     refine MgF.reg (S ?_)
     refine aj [false] (spec_RefuteClauses_sat hv40) (S ?_)
     refine MgF.reg (S ?_)
     have h:=run_some h
     refine aX ⟨_,h,?_⟩
     dsimp only[cond_true,cond_false]
     refine bd 640 192 ?_
     refine bd 592 144 ?_
     exact aw SWx
    ·refine MgF.weak (bp (x:=.own 592) (sz:=1) (es:=v37.map (Lv true 1 I)) 4 [] 592 SC) (S ?_)
     refine MgF.reg (S ?_)
     refine aj [false] (spec_RefuteClauses_sat hv40) (S ?_)
     refine MgF.reg (S ?_)
     have h:=run_some h
     refine aX ⟨_,h,?_⟩
     dsimp only[cond_true,cond_false]
     refine bd 640 192 ?_
     exact aw SWx
   ·dsimp only[cond_true,cond_false] at h ⊢
    refine S ?_
    refine MgF.reg (S ?_)
    refine aG cs fun cs=>S ?_
    refine MgF.reg (S ?_)
    obtain⟨v47,hv47,h⟩:=run_bind h
    refine aQ (r:=0) (hc:=.cv (.pv ((aI false) c4))) 0 [] [_] [] [(.pv (I 8))] [false] (spec_l1Cur__one_sat hv47) rfl rfl rfl SC (S ?_)
    refine ah cs h (fun cs h=>S ?_) fun cs h=>S ?_
    ·refine MgF.reg (S ?_)
     refine MgF.reg (S ?_)
     refine MgF.weak (bp 4 [] 848 ⟨rfl,rfl,rfl,rfl⟩) (S ?_)
     refine MgF.weak (bp 5 [] 976 ⟨rfl,rfl,rfl,rfl⟩) (S ?_)
     refine MgF.reg (S ?_)
     cases run_some h
     exact RetHB.r SC
    ·refine MgF.weak (bp 5 [] 192 ⟨rfl,rfl,rfl,rfl⟩) (S ?_)
     refine MgF.reg (S ?_)
     cases run_some h
     exact RetHB.r SC
  ·obtain⟨c4,t4,p4,b4⟩:=s4
   cases b4
   ·dsimp only[cond_true,cond_false] at h ⊢
    refine S ?_
    refine MgF.reg (S ?_)
    refine aH cs fun cs=>S ?_
    refine MgF.reg (S ?_)
    refine MgF.reg (S ?_)
    refine MgF.reg (S ?_)
    refine MgF.weak (bp 4 [] 848 ⟨rfl,rfl,rfl,rfl⟩) (S ?_)
    refine MgF.weak (bp 5 [] 976 ⟨rfl,rfl,rfl,rfl⟩) (S ?_)
    refine MgF.reg (S ?_)
    cases run_some h
    exact RetHB.r SC
   ·dsimp only[cond_true,cond_false] at h ⊢
    refine S ?_
    refine MgF.reg (S ?_)
    refine aH cs fun cs=>S ?_
    refine MgF.reg (S ?_)
    obtain⟨v47,hv47,h⟩:=run_bind h
    refine aQ (r:=0) (hc:=.cv (.pv ((aI false) c4))) 0 [] [_] [] [(.pv (I 8))] [false] (spec_l1Cur__one_sat hv47) rfl rfl rfl SC (S ?_)
    refine ah cs h (fun cs h=>S ?_) fun cs h=>S ?_
    ·refine MgF.reg (S ?_)
     refine MgF.reg (S ?_)
     refine MgF.weak (bp 4 [] 848 ⟨rfl,rfl,rfl,rfl⟩) (S ?_)
     refine MgF.weak (bp 5 [] 976 ⟨rfl,rfl,rfl,rfl⟩) (S ?_)
     refine MgF.reg (S ?_)
     cases run_some h
     exact RetHB.r SC
    ·refine MgF.weak (bp 5 [] 192 ⟨rfl,rfl,rfl,rfl⟩) (S ?_)
     refine MgF.reg (S ?_)
     cases run_some h
     exact RetHB.r SC
 ·refine MgF.weak (bp (x:=.own 144) (sz:=1) (es:=v9.1.map (Lv true 1 I)) 4 [] 144 SC) (S ?_)
  refine MgF.reg (S ?_)
  refine aj [false] (spec_RefuteClauses_sat hv12) (S ?_)
  replace h:=run_loop h
  refine MgF.reg (S ?_)
  refine MgF.forN h (fun i4 s4=>bif s4.2.2.2 then [(0,.box (.pv ((aI false) s4.1))),(4,.val (.pv (.sl false 1 (s4.2.1.map (Lv false 1 I))))),(5,.val (.own 192)),(6,.val (.pv (B true))),(7,.val (.pv (I (i4:Int)))),(20000,gh 0)] else [(0,.box (.pv ((aI false) s4.1))),(4,.val (.own 144)),(5,.val (.own 192)),(6,.val (.pv (B false))),(7,.val (.pv (I (i4:Int)))),(20000,gh 0)]) (fun i4 s4=>bif s4.2.2.2 then [(192,(4,s4.2.2.1.map (aN false)))] else [(144,(1,s4.2.1.map (Lv true 1 I))),(192,(4,s4.2.2.1.map (aN true)))]) (by dsimp only[cond_true,cond_false]; exact aw SC) (fun i4 s4 hi h=>?_) (fun s4 h=>?_)
  ·obtain⟨c4,t4,p4,b4⟩:=s4
   have w:=wrap_s2 i4
   cases b4
   ·dsimp only[cond_true,cond_false] at h ⊢
    refine S ?_
    refine MgF.reg (S ?_)
    refine aG cs fun cs=>S ?_
    refine MgF.reg (S ?_)
    obtain⟨v25,hv25,h⟩:=run_bind h
    refine aQ (r:=0) (hc:=.cv (.pv ((aI false) c4))) 0 [] [_] [] [(.pv (I 2))] [false] (spec_l1Cur__propClause_sat hv25) rfl rfl rfl SC (S ?_)
    obtain⟨v27,hv27,h⟩:=run_bind h
    refine aQ (r:=0) (hc:=.cv (.pv ((aI false) v25.2))) 0 [] [_] [] [(.pv (I 2))] [false] (spec_l1Cur__pick_sat hv27) rfl rfl rfl SC (S ?_)
    obtain⟨v32,hv32,h⟩:=run_bind h
    refine aQ (r:=0) (hc:=.cv (.pv ((aI false) v27.2))) 0 [] [_] [] [(.pv (I 2))] [false] (spec_l1Cur__pick_sat hv32) rfl rfl rfl SC (S ?_)
    refine run_bk h fun v37 q h=>aU (Lv true 1 I) (fun _=>rfl) q (S ?_)
    obtain⟨⟨p40,b40⟩,hv40,h⟩:=run_bind h
    cases b40
    ·cases refute_no hv40 rfl
     refine MgF.reg (S ?_)
     refine aj [false] (spec_RefuteClauses_sat hv40) (S ?_)
     refine MgF.reg (S ?_)
     have h:=run_some h
     refine aX ⟨_,h,?_⟩
     dsimp only[cond_true,cond_false]
     refine bd 640 192 ?_
     refine bd 592 144 ?_
     exact aw SWx
    ·refine MgF.weak (bp (x:=.own 592) (sz:=1) (es:=v37.map (Lv true 1 I)) 4 [] 592 SC) (S ?_)
     refine MgF.reg (S ?_)
     refine aj [false] (spec_RefuteClauses_sat hv40) (S ?_)
     refine MgF.reg (S ?_)
     have h:=run_some h
     refine aX ⟨_,h,?_⟩
     dsimp only[cond_true,cond_false]
     refine bd 640 192 ?_
     exact aw SWx
   ·dsimp only[cond_true,cond_false] at h ⊢
    refine S ?_
    refine MgF.reg (S ?_)
    refine aG cs fun cs=>S ?_
    refine MgF.reg (S ?_)
    obtain⟨v47,hv47,h⟩:=run_bind h
    refine aQ (r:=0) (hc:=.cv (.pv ((aI false) c4))) 0 [] [_] [] [(.pv (I 8))] [false] (spec_l1Cur__one_sat hv47) rfl rfl rfl SC (S ?_)
    refine ah cs h (fun cs h=>S ?_) fun cs h=>S ?_
    ·refine MgF.reg (S ?_)
     refine MgF.reg (S ?_)
     refine MgF.weak (bp 4 [] 848 ⟨rfl,rfl,rfl,rfl⟩) (S ?_)
     refine MgF.weak (bp 5 [] 976 ⟨rfl,rfl,rfl,rfl⟩) (S ?_)
     refine MgF.reg (S ?_)
     cases run_some h
     exact RetHB.r SC
    ·refine MgF.weak (bp 5 [] 192 ⟨rfl,rfl,rfl,rfl⟩) (S ?_)
     refine MgF.reg (S ?_)
     cases run_some h
     exact RetHB.r SC
  ·obtain⟨c4,t4,p4,b4⟩:=s4
   cases b4
   ·dsimp only[cond_true,cond_false] at h ⊢
    refine S ?_
    refine MgF.reg (S ?_)
    refine aH cs fun cs=>S ?_
    refine MgF.reg (S ?_)
    refine MgF.reg (S ?_)
    refine MgF.reg (S ?_)
    refine MgF.weak (bp 4 [] 848 ⟨rfl,rfl,rfl,rfl⟩) (S ?_)
    refine MgF.weak (bp 5 [] 976 ⟨rfl,rfl,rfl,rfl⟩) (S ?_)
    refine MgF.reg (S ?_)
    cases run_some h
    exact RetHB.r SC
   ·dsimp only[cond_true,cond_false] at h ⊢
    refine S ?_
    refine MgF.reg (S ?_)
    refine aH cs fun cs=>S ?_
    refine MgF.reg (S ?_)
    obtain⟨v47,hv47,h⟩:=run_bind h
    refine aQ (r:=0) (hc:=.cv (.pv ((aI false) c4))) 0 [] [_] [] [(.pv (I 8))] [false] (spec_l1Cur__one_sat hv47) rfl rfl rfl SC (S ?_)
    refine ah cs h (fun cs h=>S ?_) fun cs h=>S ?_
    ·refine MgF.reg (S ?_)
     refine MgF.reg (S ?_)
     refine MgF.weak (bp 4 [] 848 ⟨rfl,rfl,rfl,rfl⟩) (S ?_)
     refine MgF.weak (bp 5 [] 976 ⟨rfl,rfl,rfl,rfl⟩) (S ?_)
     refine MgF.reg (S ?_)
     cases run_some h
     exact RetHB.r SC
    ·refine MgF.weak (bp 5 [] 192 ⟨rfl,rfl,rfl,rfl⟩) (S ?_)
     refine MgF.reg (S ?_)
     cases run_some h
     exact RetHB.r SC

theorem spec_l1Cur__among_sat{a0:ld}{a1:List Int}  {r:Int×ld}(h:spec_l1Cur__among a0 a1=some r):SatH ag 90 [] [(.sl false 1 (a1.map I))] .ptr [] (.pv ((aI false) a0)) (.pv ((aI false) r.2)) (I r.1):=by
 obtain⟨h,cs⟩:=ao h
 unfold spec_l1Cur__among at h
 refine SatH.of_k (nt:=12) (rs:=[.tmp 4]) (n:=100000) 0 Tryz.func90 rfl rfl rfl rfl rfl (bt rfl) (by decide) (by first | exact bt rfl | exact SC) (S ?_)
 obtain⟨v9,hv9,h⟩:=run_bind h
 refine aQ (r:=0) (hc:=.cv (.pv ((aI false) a0))) 0 [] [_] [] [(.pv (I (a1.length:Int)))] [false] (spec_l1Cur__pick_sat hv9) rfl rfl rfl SC (S ?_)
 refine run_bk h fun v10 q h=>au I q (S ?_)
 cases run_some h
 exact RetHB.l SC

theorem spec_DrawStepInterpolants_sat{a0:List Int}  {r:(List (List Int))×(List Pt)×Int×Int}(h:spec_DrawStepInterpolants a0=some r):Sat ag 54 [(.sl false 1 (a0.map (Ik .u8)))] (.tup [(.sl false 1 (r.1.map (Lv false 1 I))),(.sl false 4 (r.2.1.map (aN false))),(I r.2.2.1),(I r.2.2.2)]):=by
 obtain⟨h,cs⟩:=ao h
 unfold spec_DrawStepInterpolants at h
 refine aq 51 [.tmp 2,.tmp 3,.tmp 4,.tmp 5] Tryz.func54 (h:=S ?_)
 obtain⟨v15,hv15,h⟩:=run_bind h
 refine aQ (r:=12) (hc:=.cv (.node [(.pv (.sl false 1 (a0.map (Ik .u8)))),(.pv (I 0)),(.pv ((Ik .u64) (0:Int)))])) 0 [] [] [] [] [] (spec_l1Cur__refutation_sat hv15) rfl rfl rfl SC (S ?_)
 obtain⟨v22,hv22,h⟩:=run_bind h
 refine aQ (r:=12) (hc:=.cv (.pv ((aI false) v15.2))) 0 [] [_] [] [(.pv (I (IntKind.i64.wrap ((v15.1.1.length:Int)+1))))] [false] (spec_l1Cur__pick_sat hv22) rfl rfl rfl SC (S ?_)
 obtain⟨v24,hv24,h⟩:=run_bind h
 refine aQ (r:=12) (hc:=.cv (.pv ((aI false) v22.2))) 0 [] [_] [] [(.pv (I 20))] [false] (spec_l1Cur__pick_sat hv24) rfl rfl rfl SC (S ?_)
 refine ah cs h (fun cs h=>S ?_) fun cs h=>S ?_
 ·obtain⟨v32,hv32,h⟩:=run_bind h
  refine aQ (r:=12) (hc:=.cv (.pv ((aI false) v24.2))) (pre:=[]) (post:=[(.sl true 1 (([(-1:Int),IntKind.i64.wrap ((v15.1.1.length:Int)+1)]).map I))]) 0 [] [_] [] [(.own 496)] [true] (SatH.give [true] (spec_l1Cur__among_sat hv32) (by first | rfl | simp only[gv_t,gv_f,gv_n,view_sl,view_agg,view_lit,views_I,views_Sx,views_repB,views_repI,aA,bn,List.cons_append]) rfl) rfl rfl rfl SC (S ?_)
  obtain⟨v46,hv46,h⟩:=run_bind h
  refine aQ (r:=12) (hc:=.cv (.pv ((aI false) v32.2))) 0 [] [_] [] [(.pv (I 9))] [false] (spec_l1Cur__pick_sat hv46) rfl rfl rfl SC (S ?_)
  refine run_bk h fun v47 q h=>quoH.mk q (S ?_)
  refine run_bk h fun v49 q h=>SlcOH.mk (f:=I) q SC (S ?_)
  obtain⟨v50,hv50,h⟩:=run_bind h
  refine aQ (r:=12) (hc:=.cv (.pv ((aI false) v46.2))) (pre:=[]) (post:=[(.sl true 1 (v49.map I))]) 0 [] [_] [] [(.own 784)] [true] (SatH.give [true] (spec_l1Cur__among_sat hv50) (by first | rfl | simp only[gv_t,gv_f,gv_n,view_sl,view_agg,view_lit,views_I,views_Sx,views_repB,views_repI,aA,bn,List.cons_append]) rfl) rfl rfl rfl SC (S ?_)
  exact bi h
 ·refine ah cs h (fun cs h=>S ?_) fun cs h=>S ?_
  ·refine run_bk h fun v39 q h=>SlcH.mk (f:=(aN false)) q SC (S ?_)
   obtain⟨v46,hv46,h⟩:=run_bind h
   refine aQ (r:=12) (hc:=.cv (.pv ((aI false) v24.2))) 0 [] [_] [] [(.pv (I 9))] [false] (spec_l1Cur__pick_sat hv46) rfl rfl rfl SC (S ?_)
   refine run_bk h fun v47 q h=>quoH.mk q (S ?_)
   refine run_bk h fun v49 q h=>SlcOH.mk (f:=I) q SC (S ?_)
   obtain⟨v50,hv50,h⟩:=run_bind h
   refine aQ (r:=12) (hc:=.cv (.pv ((aI false) v46.2))) (pre:=[]) (post:=[(.sl true 1 (v49.map I))]) 0 [] [_] [] [(.own 784)] [true] (SatH.give [true] (spec_l1Cur__among_sat hv50) (by first | rfl | simp only[gv_t,gv_f,gv_n,view_sl,view_agg,view_lit,views_I,views_Sx,views_repB,views_repI,aA,bn,List.cons_append]) rfl) rfl rfl rfl SC (S ?_)
   exact bi h
  ·obtain⟨v46,hv46,h⟩:=run_bind h
   refine aQ (r:=12) (hc:=.cv (.pv ((aI false) v24.2))) 0 [] [_] [] [(.pv (I 9))] [false] (spec_l1Cur__pick_sat hv46) rfl rfl rfl SC (S ?_)
   refine run_bk h fun v47 q h=>quoH.mk q (S ?_)
   refine run_bk h fun v49 q h=>SlcOH.mk (f:=I) q SC (S ?_)
   obtain⟨v50,hv50,h⟩:=run_bind h
   refine aQ (r:=12) (hc:=.cv (.pv ((aI false) v46.2))) (pre:=[]) (post:=[(.sl true 1 (v49.map I))]) 0 [] [_] [] [(.own 784)] [true] (SatH.give [true] (spec_l1Cur__among_sat hv50) (by first | rfl | simp only[gv_t,gv_f,gv_n,view_sl,view_agg,view_lit,views_I,views_Sx,views_repB,views_repI,aA,bn,List.cons_append]) rfl) rfl rfl rfl SC (S ?_)
   exact bi h

theorem spec_DrawInterpolant_sat{a0:List Int}  {r:(List (List Int))×(List Pt)×Int×Int}(h:spec_DrawInterpolant a0=some r):Sat ag 25 [(.sl false 1 (a0.map (Ik .u8)))] (.tup [(.sl false 1 (r.1.map (Lv false 1 I))),(.sl false 4 (r.2.1.map (aN false))),(I r.2.2.1),(I r.2.2.2)]):=by
 obtain⟨h,cs⟩:=ao h
 unfold spec_DrawInterpolant at h
 refine aq 12 [.tmp 2,.tmp 3,.tmp 4,.tmp 5] Tryz.func25 (h:=S ?_)
 refine run_bk h fun v7 q h=>aj [false] (spec_DrawStepInterpolants_sat q) (S ?_)
 exact bi h

theorem impl_within_sat{a0:Int}{a1:Int}{a2:Int}  {r:Bool}(h:impl_within a0 a1 a2=some r):Sat ag 39 [(I a0),(I a1),(I a2)] (B r):=by
 obtain⟨h,cs⟩:=ao h
 unfold impl_within at h
 refine aq 15 [.tmp 6] Tryz.func39 (h:=S ?_)
 refine ah cs h (fun cs h=>S ?_) fun cs h=>S ?_
 ·exact al h
 ·exact al h

theorem impl_absolute_sat{a0:Int}  {r:Int}(h:impl_absolute a0=some r):Sat ag 76 [(I a0)] (I r):=by
 obtain⟨h,cs⟩:=ao h
 unfold impl_absolute at h
 refine aq 7 [.tmp 2] Tryz.func76 (h:=S ?_)
 exact al h

theorem impl_isPropClause_sat{a0:List Int}  {r:Bool}(h:impl_isPropClause a0=some r):Sat ag 115 [(.sl false 1 (a0.map I))] (B r):=by
 obtain⟨h,cs⟩:=ao h
 unfold impl_isPropClause at h
 refine aq 35 [.tmp 2] Tryz.func115 (h:=S ?_)
 refine aS (b:=false) (sz:=1) (es:=a0.map I) 0 SC fun hl0=>?_; rw[aF] at hl0
 refine aJ (run_loop h) (fun i2 s2=>[(0,.val (.pv (.sl false 1 (a0.map I)))),(5,.val (.pv (.sl false 1 (a0.map I)))),(6,.val (.pv (I (a0.length:Int)))),(7,.val (.pv (I (i2:Int))))]) (fun i2 s2=>[]) (aw SC) (fun i2 s2 hi h=>?_) (fun s2 h=>?_)
 ·have w:=wrap_s2 i2
  refine S ?_
  refine aG cs fun cs=>S ?_
  refine run_bk h fun v10 q h=>au I q (S ?_)
  refine ah cs h (fun cs h=>S ?_) fun cs h=>S ?_
  rotate_left
  refine run_bk h fun v16 q h=>aj [false,false,false] (impl_within_sat q) (S ?_)
  refine ah cs h (fun cs h=>S ?_) fun cs h=>S ?_
  refine ah cs h (fun cs h=>S ?_) fun cs h=>S ?_
  refine run_bk h fun v26 q h=>au I q (S ?_)
  refine run_bk h fun v28 q h=>aj [false] (impl_absolute_sat q) (S ?_)
  refine run_bk h fun v30 q h=>aj [false] (impl_absolute_sat q) (S ?_)
  refine ah cs h (fun cs h=>S ?_) fun cs h=>S ?_
  rotate_left
  ·exact aK h
  ·exact aK h
  all_goals
   exact al h
 ·refine S ?_
  refine aH cs fun cs=>S ?_
  exact al h

theorem impl_IsValidClauses_1_sat{a0:List Int}  {r:Bool}(h:impl_IsValidClauses_1 a0=some r):Sat ag 114 [(.sl false 1 (a0.map I))] (B r):=by
 obtain⟨h,cs⟩:=ao h
 unfold impl_IsValidClauses_1 at h
 refine aq 6 [.tmp 2] Tryz.func114 (h:=S ?_)
 refine run_bk h fun v4 q h=>aj [false] (impl_isPropClause_sat q) (S ?_)
 exact al h

theorem slices_IndexFunc_SSint_Sint_sat{a0:List (List Int)}{a1:(List Int)→Option Bool}{a1_id:FuncId}{a1_cs:List PV}(a1_ok:∀ y0 r,a1 y0=some r→Sat ag a1_id ((.sl false 1 (y0.map I))::a1_cs) (B r))(a1_cz:CapsOk a1_cs=True){r:Int}(h:slices_IndexFunc_SSint_Sint a0 a1=some r):Sat ag 138 [(.sl false 1 (a0.map (Lv false 1 I))),.clo a1_id a1_cs] (I r):=by
 obtain⟨h,cs⟩:=ao h
 unfold slices_IndexFunc_SSint_Sint at h
 have cs:=ae a1_cz cs
 refine aq 19 [.tmp 4] Tryz.func138 (h:=S ?_)
 refine aS (b:=false) (sz:=1) (es:=a0.map (Lv false 1 I)) 0 SC fun hl0=>?_; rw[aF] at hl0
 refine aJ (run_loop h) (fun i2 s2=>[(0,.val (.pv (.sl false 1 (a0.map (Lv false 1 I))))),(1,.val (.pv (.clo a1_id a1_cs))),(7,.val (.pv (I (a0.length:Int)))),(8,.val (.pv (I (i2:Int))))]) (fun i2 s2=>[]) (aw SC) (fun i2 s2 hi h=>?_) (fun s2 h=>?_)
 ·have w:=wrap_s2 i2
  refine S ?_
  refine aG cs fun cs=>S ?_
  refine run_bk h fun v14 q h=>au (Lv false 1 I) q (S ?_)
  refine run_bk h fun v16 q h=>aj [false] (a1_ok _ _ q) (S ?_)
  refine ah cs h (fun cs h=>S ?_) fun cs h=>S ?_
  ·exact al h
  ·exact aK h
 ·refine S ?_
  refine aH cs fun cs=>S ?_
  exact al h

theorem slices_ContainsFunc_SSint_Sint_sat{a0:List (List Int)}{a1:(List Int)→Option Bool}{a1_id:FuncId}{a1_cs:List PV}(a1_ok:∀ y0 r,a1 y0=some r→Sat ag a1_id ((.sl false 1 (y0.map I))::a1_cs) (B r))(a1_cz:CapsOk a1_cs=True){r:Bool}(h:slices_ContainsFunc_SSint_Sint a0 a1=some r):Sat ag 99 [(.sl false 1 (a0.map (Lv false 1 I))),.clo a1_id a1_cs] (B r):=by
 obtain⟨h,cs⟩:=ao h
 unfold slices_ContainsFunc_SSint_Sint at h
 have cs:=ae a1_cz cs
 refine aq 9 [.tmp 4] Tryz.func99 (h:=S ?_)
 refine run_bk h fun v7 q h=>aj [false,false] (slices_IndexFunc_SSint_Sint_sat a1_ok a1_cz q) (S ?_)
 exact al h

theorem impl_IsValidClauses_sat{a0:List (List Int)}  {r:Bool}(h:impl_IsValidClauses a0=some r):Sat ag 74 [(.sl false 1 (a0.map (Lv false 1 I)))] (B r):=by
 obtain⟨h,cs⟩:=ao h
 unfold impl_IsValidClauses at h
 refine aq 11 [.tmp 2] Tryz.func74 (h:=S ?_)
 refine ah cs h (fun cs h=>S ?_) fun cs h=>S ?_
 ·refine run_bk h fun v8 q h=>aj [false,false] (slices_ContainsFunc_SSint_Sint_sat (fun _ _ hh=>impl_IsValidClauses_1_sat hh) (by simp only[CapsOk_nil,CapsOk_cons]) q) (S ?_)
  exact al h
 ·exact al h

theorem impl_clauseAt_sat{a0:List (List Int)}{a1:List Pt}{a2:Int}  {r:(List Int)×Bool}(h:impl_clauseAt a0 a1 a2=some r):Sat ag 111 [(.sl false 1 (a0.map (Lv false 1 I))),(.sl false 4 (a1.map (aN false))),(I a2)] (.tup [(.sl false 1 (r.1.map I)),(B r.2)]):=by
 obtain⟨h,cs⟩:=ao h
 unfold impl_clauseAt at h
 refine aq 37 [.tmp 6,.tmp 7] Tryz.func111 (h:=S ?_)
 refine run_bk h fun v13 q h=>aj [false,false,false] (impl_within_sat q) (S ?_)
 refine ah cs h (fun cs h=>S ?_) fun cs h=>S ?_
 ·refine run_bk h fun v16 q h=>au (Lv false 1 I) q (S ?_)
  exact bi h
 ·refine run_bk h fun v28 q h=>aj [false,false,false] (impl_within_sat q) (S ?_)
  refine ah cs h (fun cs h=>S ?_) fun cs h=>S ?_
  ·refine run_bk h fun v34 q h=>au (aN false) q (S ?_)
   exact bi h
  ·exact bi h

theorem impl_isPropVariable_sat{a0:Int}  {r:Bool}(h:impl_isPropVariable a0=some r):Sat ag 142 [(I a0)] (B r):=by
 obtain⟨h,cs⟩:=ao h
 unfold impl_isPropVariable at h
 refine aq 5 [.tmp 2] Tryz.func142 (h:=S ?_)
 refine run_bk h fun v4 q h=>aj [false,false,false] (impl_within_sat q) (S ?_)
 exact al h

theorem slices_Index_Sint_int_sat{a0:List Int}{a1:Int}  {r:Int}(h:slices_Index_Sint_int a0 a1=some r):Sat ag 136 [(.sl false 1 (a0.map I)),(I a1)] (I r):=by
 obtain⟨h,cs⟩:=ao h
 unfold slices_Index_Sint_int at h
 refine aq 19 [.tmp 4] Tryz.func136 (h:=S ?_)
 refine aS (b:=false) (sz:=1) (es:=a0.map I) 0 SC fun hl0=>?_; rw[aF] at hl0
 refine aJ (run_loop h) (fun i2 s2=>[(0,.val (.pv (.sl false 1 (a0.map I)))),(1,.val (.pv (I a1))),(7,.val (.pv (I (a0.length:Int)))),(8,.val (.pv (I (i2:Int))))]) (fun i2 s2=>[]) (aw SC) (fun i2 s2 hi h=>?_) (fun s2 h=>?_)
 ·have w:=wrap_s2 i2
  refine S ?_
  refine aG cs fun cs=>S ?_
  refine run_bk h fun v14 q h=>au I q (S ?_)
  refine ah cs h (fun cs h=>S ?_) fun cs h=>S ?_
  ·exact al h
  ·exact aK h
 ·refine S ?_
  refine aH cs fun cs=>S ?_
  exact al h

theorem slices_Contains_Sint_int_sat{a0:List Int}{a1:Int}  {r:Bool}(h:slices_Contains_Sint_int a0 a1=some r):Sat ag 97 [(.sl false 1 (a0.map I)),(I a1)] (B r):=by
 obtain⟨h,cs⟩:=ao h
 unfold slices_Contains_Sint_int at h
 refine aq 9 [.tmp 4] Tryz.func97 (h:=S ?_)
 refine run_bk h fun v7 q h=>aj [false,false] (slices_Index_Sint_int_sat q) (S ?_)
 exact al h

theorem slices_Grow_Sint_int_nil0_sat{a1:Int}  {r:List Int}(h:slices_Grow_Sint_int_nil0 a1=some r):Sat ag 102 [(.lit (.slice none 0 0)),(I a1)] (.sl true 1 (r.map I)):=by
 obtain⟨h,cs⟩:=ao h
 unfold slices_Grow_Sint_int_nil0 at h
 refine Sat.of_nil (sz:=1) (nt:=27) (rs:=[.tmp 4]) (n:=100000) Tryz.func102 rfl rfl rfl rfl (by simp) (S ?_)
 refine ah cs h (fun cs h=>S ?_) fun cs h=>S ?_
 ·exact run_none h
 ·refine ah cs h (fun cs h=>S ?_) fun cs h=>S ?_
  ·refine run_bk h fun n22 q h=>AppzH.mk q (S ?_)
   refine run_bk h fun v25 q h=>SlcOH.mk (f:=I) q SC (S ?_)
   exact al h
  ·exact al h

theorem slices_Concat_Sint_int_sat{a0:List (List Int)}  {r:List Int}(h:slices_Concat_Sint_int a0=some r):Sat ag 61 [(.sl false 1 (a0.map (Lv false 1 I)))] (.sl true 1 (r.map I)):=by
 obtain⟨h,cs⟩:=ao h
 unfold slices_Concat_Sint_int at h
 refine aq 36 [.tmp 2] Tryz.func61 (h:=S ?_)
 refine aS (b:=false) (sz:=1) (es:=a0.map (Lv false 1 I)) 0 SC fun hl0=>?_; rw[aF] at hl0
 refine aJ (run_loop h) (fun i3 s3=>[(0,.val (.pv (.sl false 1 (a0.map (Lv false 1 I))))),(3,.val (.pv (I s3))),(9,.val (.pv (.sl false 1 (a0.map (Lv false 1 I))))),(10,.val (.pv (I (a0.length:Int)))),(11,.val (.pv (I (i3:Int))))]) (fun i3 s3=>[]) (aw SC) (fun i3 s3 hi h=>?_) (fun s3 h=>?_)
 ·have w:=wrap_s2 i3
  refine S ?_
  refine aG cs fun cs=>S ?_
  refine run_bk h fun v13 q h=>au (Lv false 1 I) q (S ?_)
  refine ah cs h (fun cs h=>S ?_) fun cs h=>S ?_
  ·exact run_none h
  ·exact aK h
 ·refine S ?_
  refine aH cs fun cs=>S ?_
  refine run_bk h fun v24 q h=>CallH.nil0 (h:=slices_Grow_Sint_int_nil0_sat q) (by refine S ?_; exact NM) (S ?_)
  refine aS (b:=false) (sz:=1) (es:=a0.map (Lv false 1 I)) 0 SC fun hl0=>?_; rw[aF] at hl0
  refine aJ (run_loop h) (fun i11 s11=>[(6,.val (.own 384)),(25,.val (.pv (.sl false 1 (a0.map (Lv false 1 I))))),(26,.val (.pv (I (a0.length:Int)))),(27,.val (.pv (I (i11:Int))))]) (fun i11 s11=>[(384,(1,s11.map I))]) (aw SC) (fun i11 s11 hi h=>?_) (fun s11 h=>?_)
  ·have w:=wrap_s2 i11
   refine S ?_
   refine aG cs fun cs=>S ?_
   refine run_bk h fun v29 q h=>au (Lv false 1 I) q (S ?_)
   refine run_bk h fun v33 q h=>aU I (fun _=>rfl) q (S ?_)
   have h:=run_some h
   refine aX ⟨_,h,?_⟩
   refine bd 528 384 ?_
   exact aw SWx
  ·refine S ?_
   exact al h

theorem cmp_isNaN_int_sat{a0:Int}  {r:Bool}(h:cmp_isNaN_int a0=some r):Sat ag 202 [(I a0)] (B r):=by
 obtain⟨h,cs⟩:=ao h
 unfold cmp_isNaN_int at h
 refine aq 6 [.tmp 2] Tryz.func202 (h:=S ?_)
 exact al h

theorem cmp_Compare_int_sat{a0:Int}{a1:Int}  {r:Int}(h:cmp_Compare_int a0 a1=some r):Sat ag 173 [(I a0),(I a1)] (I r):=by
 obtain⟨h,cs⟩:=ao h
 unfold cmp_Compare_int at h
 refine aq 20 [.tmp 4] Tryz.func173 (h:=S ?_)
 refine run_bk h fun v8 q h=>aj [false] (cmp_isNaN_int_sat q) (S ?_)
 refine run_bk h fun v10 q h=>aj [false] (cmp_isNaN_int_sat q) (S ?_)
 refine ah cs h (fun cs h=>S ?_) fun cs h=>S ?_
 refine ah cs h (fun cs h=>S ?_) fun cs h=>S ?_
 rotate_left 2
 refine ah cs h (fun cs h=>S ?_) fun cs h=>S ?_
 rotate_left
 refine ah cs h (fun cs h=>S ?_) fun cs h=>S ?_
 rotate_left
 refine ah cs h (fun cs h=>S ?_) fun cs h=>S ?_
 all_goals
  exact al h

theorem impl_byVariable_sat{a0:Int}{a1:Int}  {r:Int}(h:impl_byVariable a0 a1=some r):Sat ag 144 [(I a0),(I a1)] (I r):=by
 obtain⟨h,cs⟩:=ao h
 unfold impl_byVariable at h
 refine aq 10 [.tmp 4] Tryz.func144 (h:=S ?_)
 refine run_bk h fun v6 q h=>aj [false] (impl_absolute_sat q) (S ?_)
 refine run_bk h fun v8 q h=>aj [false] (impl_absolute_sat q) (S ?_)
 refine run_bk h fun v9 q h=>aj [false,false] (cmp_Compare_int_sat q) (S ?_)
 exact al h

theorem slices_SortFuncI_sat{a0:List Int}{r:Unit×List Int}(h:slices_SortFuncI a0=some r):SatIO ag 143 [.sl true 1 (a0.map I),.clo 144 []] [.sl true 1 (r.2.map I),.clo 144 []] (.tup []):=sortI_sat h

theorem impl_ResolveOn_sat{a0:List Int}{a1:List Int}{a2:Int}  {r:(List Int)×Bool}(h:impl_ResolveOn a0 a1 a2=some r):Sat ag 112 [(.sl false 1 (a0.map I)),(.sl false 1 (a1.map I)),(I a2)] (.tup [(.sl true 1 (r.1.map I)),(B r.2)]):=by
 obtain⟨h,cs⟩:=ao h
 unfold impl_ResolveOn at h
 refine aq 73 [.tmp 6,.tmp 7] Tryz.func112 (h:=S ?_)
 refine run_bk h fun v12 q h=>aj [false] (impl_isPropClause_sat q) (S ?_)
 refine ah cs h (fun cs h=>S ?_) fun cs h=>S ?_
 refine run_bk h fun v16 q h=>aj [false] (impl_isPropClause_sat q) (S ?_)
 refine ah cs h (fun cs h=>S ?_) fun cs h=>S ?_
 refine run_bk h fun v21 q h=>aj [false] (impl_isPropVariable_sat q) (S ?_)
 refine ah cs h (fun cs h=>S ?_) fun cs h=>S ?_
 refine run_bk h fun v27 q h=>aj [false,false] (slices_Contains_Sint_int_sat q) (S ?_)
 refine ah cs h (fun cs h=>S ?_) fun cs h=>S ?_
 refine run_bk h fun v34 q h=>aj [false,false] (slices_Contains_Sint_int_sat q) (S ?_)
 refine ah cs h (fun cs h=>S ?_) fun cs h=>S ?_
 ·refine run_bk h fun v41 q h=>aj [false] (slices_Concat_Sint_int_sat q) (S ?_)
  refine Mg.know_own (sz:=1) (es:=v41.map I) 656 SC fun hl656=>?_; rw[aF] at hl656
  refine aJ (run_loop h) (fun i5 s5=>[(2,.val (.pv (I a2))),(8,.val (.own 592)),(41,.val (.own 656)),(42,.val (.pv (I (v41.length:Int)))),(43,.val (.pv (I (i5:Int))))]) (fun i5 s5=>[(592,(1,s5.map I)),(656,(1,v41.map I))]) (aw SC) (fun i5 s5 hi h=>?_) (fun s5 h=>?_)
  ·have w:=wrap_s2 i5
   refine S ?_
   refine aG cs fun cs=>S ?_
   refine run_bk h fun v45 q h=>au I q (S ?_)
   refine run_bk h fun v46 q h=>EldH.c I q (S ?_)
   refine ah cs h (fun cs h=>S ?_) fun cs h=>S ?_
   ·exact aK h
   ·refine ah cs h (fun cs h=>S ?_) fun cs h=>S ?_
    ·exact aK h
    ·refine run_bk h fun v59 q h=>aj [false,false] (slices_Contains_Sint_int_sat q) (S ?_)
     refine ah cs h (fun cs h=>S ?_) fun cs h=>S ?_
     ·exact aK h
     ·refine run_bk h fun v64 q h=>aj [false,false] (slices_Contains_Sint_int_sat q) (S ?_)
      refine ah cs h (fun cs h=>S ?_) fun cs h=>S ?_
      ·exact al h
      ·refine run_bk h fun v68 q h=>aU I (fun _=>rfl) q (S ?_)
       have h:=run_some h
       refine aX ⟨_,h,?_⟩
       refine bd 1088 592 ?_
       exact aw SWx
  ·refine S ?_
   refine aH cs fun cs=>S ?_
   obtain⟨v71,hv71,h⟩:=run_bind h
   refine CallH.io0 [(.own 592),(.pv (.clo 144 []))] [(592,(1,v71.2.map I))] (slices_SortFuncI_sat hv71) SC (S ?_)
   exact al h
 all_goals
  exact al h

theorem slices_Equal_Sint_int_sat{a0:List Int}{a1:List Int}  {r:Bool}(h:slices_Equal_Sint_int a0 a1=some r):Sat ag 113 [(.sl false 1 (a0.map I)),(.sl false 1 (a1.map I))] (B r):=by
 obtain⟨h,cs⟩:=ao h
 unfold slices_Equal_Sint_int at h
 refine aq 26 [.tmp 4] Tryz.func113 (h:=S ?_)
 refine ah cs h (fun cs h=>S ?_) fun cs h=>S ?_
 ·refine aS (b:=false) (sz:=1) (es:=a0.map I) 0 SC fun hl0=>?_; rw[aF] at hl0
  refine aJ (run_loop h) (fun i4 s4=>[(0,.val (.pv (.sl false 1 (a0.map I)))),(1,.val (.pv (.sl false 1 (a1.map I)))),(12,.val (.pv (I (a0.length:Int)))),(13,.val (.pv (I (i4:Int))))]) (fun i4 s4=>[]) (aw SC) (fun i4 s4 hi h=>?_) (fun s4 h=>?_)
  ·have w:=wrap_s2 i4
   refine S ?_
   refine aG cs fun cs=>S ?_
   refine run_bk h fun v18 q h=>au I q (S ?_)
   refine run_bk h fun v22 q h=>au I q (S ?_)
   refine ae (aY [] []) (S ?_)
   refine ah cs h (fun cs h=>S ?_) fun cs h=>S ?_
   ·exact aK h
   ·exact al h
  ·refine S ?_
   refine aH cs fun cs=>S ?_
   exact al h
 ·exact al h

theorem impl_CheckRefutation_sat{a0:List (List Int)}{a1:List Pt}  {r:Int×Bool}(h:impl_CheckRefutation a0 a1=some r):Sat ag 73 [(.sl false 1 (a0.map (Lv false 1 I))),(.sl false 4 (a1.map (aN false)))] (.tup [(I r.1),(B r.2)]):=by
 obtain⟨h,cs⟩:=ao h
 unfold impl_CheckRefutation at h
 refine aq 87 [.tmp 4,.tmp 5] Tryz.func73 (h:=S ?_)
 refine run_bk h fun v15 q h=>aj [false] (impl_IsValidClauses_sat q) (S ?_)
 refine ah cs h (fun cs h=>S ?_) fun cs h=>S ?_
 refine run_bk h fun v20 q h=>aj [false,false,false] (impl_within_sat q) (S ?_)
 refine ah cs h (fun cs h=>S ?_) fun cs h=>S ?_
 ·refine aS (b:=false) (sz:=4) (es:=a1.map (aN false)) 1 SC fun hl1=>?_; rw[aF] at hl1
  refine aJ (run_loop h) (fun i4 s4=>[(0,.val (.pv (.sl false 1 (a0.map (Lv false 1 I))))),(1,.val (.pv (.sl false 4 (a1.map (aN false))))),(23,.val (.pv (.sl false 4 (a1.map (aN false))))),(24,.val (.pv (I (a1.length:Int)))),(25,.val (.pv (I (i4:Int))))]) (fun i4 s4=>[]) (aw SC) (fun i4 s4 hi h=>?_) (fun s4 h=>?_)
  ·have w:=wrap_s2 i4
   refine S ?_
   refine aG cs fun cs=>S ?_
   refine run_bk h fun v28 q h=>au (aN false) q (S ?_)
   refine run_bk h fun v34 q h=>SlcH.mk (f:=(aN false)) q SC (S ?_)
   refine run_bk h fun v37 q h=>aj [false,false,false] (impl_clauseAt_sat q) (S ?_)
   refine ae (aY [] []) (S ?_)
   refine run_bk h fun v44 q h=>SlcH.mk (f:=(aN false)) q SC (S ?_)
   refine run_bk h fun v47 q h=>aj [false,false,false] (impl_clauseAt_sat q) (S ?_)
   refine ae (aY [] []) (S ?_)
   refine ah cs h (fun cs h=>S ?_) fun cs h=>S ?_
   refine ah cs h (fun cs h=>S ?_) fun cs h=>S ?_
   refine run_bk h fun v62 q h=>aj [false,false,false] (impl_ResolveOn_sat q) (S ?_)
   refine ah cs h (fun cs h=>S ?_) fun cs h=>S ?_
   refine run_bk h fun v71 q h=>aj [false,false] (slices_Equal_Sint_int_sat q) (S ?_)
   refine ah cs h (fun cs h=>S ?_) fun cs h=>S ?_
   ·exact aK h
   all_goals
    exact al h
  ·refine S ?_
   refine aH cs fun cs=>S ?_
   refine run_bk h fun v80 q h=>au (aN false) q (S ?_)
   refine ah cs h (fun cs h=>S ?_) fun cs h=>S ?_
   ·exact al h
   ·exact al h
 all_goals
  exact al h

theorem impl_isPropRefutation_sat{a0:List (List Int)}{a1:List Pt}  {r:Bool}(h:impl_isPropRefutation a0 a1=some r):Sat ag 37 [(.sl false 1 (a0.map (Lv false 1 I))),(.sl false 4 (a1.map (aN false)))] (B r):=by
 obtain⟨h,cs⟩:=ao h
 unfold impl_isPropRefutation at h
 refine aq 18 [.tmp 4] Tryz.func37 (h:=S ?_)
 refine run_bk h fun v10 q h=>aj [false,false] (impl_CheckRefutation_sat q) (S ?_)
 refine ah cs h (fun cs h=>S ?_) fun cs h=>S ?_
 ·exact al h
 ·exact al h

theorem impl_isSplit_sat{a0:List (List Int)}{a1:Int}  {r:Bool}(h:impl_isSplit a0 a1=some r):Sat ag 38 [(.sl false 1 (a0.map (Lv false 1 I))),(I a1)] (B r):=by
 obtain⟨h,cs⟩:=ao h
 unfold impl_isSplit at h
 refine aq 13 [.tmp 4] Tryz.func38 (h:=S ?_)
 refine run_bk h fun v6 q h=>aj [false] (impl_IsValidClauses_sat q) (S ?_)
 refine ah cs h (fun cs h=>S ?_) fun cs h=>S ?_
 ·refine run_bk h fun v11 q h=>aj [false,false,false] (impl_within_sat q) (S ?_)
  exact al h
 ·exact al h

theorem impl_greatest_sat{a0:List (List Int)}  {r:Int}(h:impl_greatest a0=some r):Sat ag 75 [(.sl false 1 (a0.map (Lv false 1 I)))] (I r):=by
 obtain⟨h,cs⟩:=ao h
 unfold impl_greatest at h
 refine aq 27 [.tmp 2] Tryz.func75 (h:=S ?_)
 refine aS (b:=false) (sz:=1) (es:=a0.map (Lv false 1 I)) 0 SC fun hl0=>?_; rw[aF] at hl0
 refine aJ (run_loop h) (fun i3 s3=>[(3,.val (.pv (I s3))),(8,.val (.pv (.sl false 1 (a0.map (Lv false 1 I))))),(9,.val (.pv (I (a0.length:Int)))),(10,.val (.pv (I (i3:Int))))]) (fun i3 s3=>[]) (aw SC) (fun i3 s3 hi h=>?_) (fun s3 h=>?_)
 ·have w:=wrap_s2 i3
  refine S ?_
  refine aG cs fun cs=>S ?_
  refine run_bk h fun v12 q h=>au (Lv false 1 I) q (S ?_)
  refine aS (b:=false) (sz:=1) (es:=v12.map I) 5 SC fun hl5=>?_; rw[aF] at hl5
  refine aJ (run_loop h) (fun i6 s6=>[(3,.val (.pv (I s6))),(8,.val (.pv (.sl false 1 (a0.map (Lv false 1 I))))),(9,.val (.pv (I (a0.length:Int)))),(10,.val (.pv (I (i3:Int)))),(14,.val (.pv (.sl false 1 (v12.map I)))),(15,.val (.pv (I (v12.length:Int)))),(16,.val (.pv (I (i6:Int))))]) (fun i6 s6=>[]) (aw SC) (fun i6 s6 hi h=>?_) (fun s6 h=>?_)
  ·have w:=ae (wrap_s2 i6) w
   refine S ?_
   refine aG cs fun cs=>S ?_
   refine run_bk h fun v18 q h=>au I q (S ?_)
   refine run_bk h fun v22 q h=>aj [false] (impl_absolute_sat q) (S ?_)
   exact aK h
  ·refine S ?_
   refine aH cs fun cs=>S ?_
   exact aK h
 ·refine S ?_
  refine aH cs fun cs=>S ?_
  exact al h

theorem impl_colors_sat{a0:List (List Int)}{a1:Int}  {r:List Int}(h:impl_colors a0 a1=some r):Sat ag 40 [(.sl false 1 (a0.map (Lv false 1 I))),(I a1)] (.sl true 1 (r.map I)):=by
 obtain⟨h,cs⟩:=ao h
 unfold impl_colors at h
 refine aq 42 [.tmp 4] Tryz.func40 (h:=S ?_)
 refine run_bk h fun v12 q h=>aj [false] (impl_greatest_sat q) (S ?_)
 refine run_bk h fun n13 q h=>MknH.mk q (S ?_)
 refine aS (b:=false) (sz:=1) (es:=a0.map (Lv false 1 I)) 0 SC fun hl0=>?_; rw[aF] at hl0
 refine aJ (run_loop h) (fun i3 s3=>[(1,.val (.pv (I a1))),(5,.val (.own 208)),(14,.val (.pv (.sl false 1 (a0.map (Lv false 1 I))))),(15,.val (.pv (I (a0.length:Int)))),(16,.val (.pv (I (i3:Int))))]) (fun i3 s3=>[(208,(1,s3.map I))]) (aw SC) (fun i3 s3 hi h=>?_) (fun s3 h=>?_)
 ·have w:=wrap_s2 i3
  refine S ?_
  refine aG cs fun cs=>S ?_
  refine run_bk h fun v19 q h=>au (Lv false 1 I) q (S ?_)
  refine ah cs h (fun cs h=>S ?_) fun cs h=>S ?_
  ·refine aS (b:=false) (sz:=1) (es:=v19.map I) 7 SC fun hl7=>?_; rw[aF] at hl7
   refine aJ (run_loop h) (fun i9 s9=>[(1,.val (.pv (I a1))),(5,.val (.own 208)),(8,.val (.pv (I 2))),(14,.val (.pv (.sl false 1 (a0.map (Lv false 1 I))))),(15,.val (.pv (I (a0.length:Int)))),(16,.val (.pv (I (i3:Int)))),(24,.val (.pv (.sl false 1 (v19.map I)))),(25,.val (.pv (I (v19.length:Int)))),(26,.val (.pv (I (i9:Int))))]) (fun i9 s9=>[(208,(1,s9.map I))]) (aw SC) (fun i9 s9 hi h=>?_) (fun s9 h=>?_)
   ·have w:=ae (wrap_s2 i9) w
    refine S ?_
    refine aG cs fun cs=>S ?_
    refine run_bk h fun v28 q h=>au I q (S ?_)
    refine run_bk h fun v32 q h=>aj [false] (impl_absolute_sat q) (S ?_)
    refine run_bk h fun v34 q h=>au I q (S ?_)
    refine run_bk h fun v35 q h=>EldH.c I q (S ?_)
    refine run_bk h fun v38 q h=>au I q (S ?_)
    refine run_bk h fun w4 q h=>EldH.c I q (S ?_)
    exact aK h
   ·refine S ?_
    refine aH cs fun cs=>S ?_
    exact aK h
  ·refine aS (b:=false) (sz:=1) (es:=v19.map I) 7 SC fun hl7=>?_; rw[aF] at hl7
   refine aJ (run_loop h) (fun i9 s9=>[(1,.val (.pv (I a1))),(5,.val (.own 208)),(8,.val (.pv (I 1))),(14,.val (.pv (.sl false 1 (a0.map (Lv false 1 I))))),(15,.val (.pv (I (a0.length:Int)))),(16,.val (.pv (I (i3:Int)))),(24,.val (.pv (.sl false 1 (v19.map I)))),(25,.val (.pv (I (v19.length:Int)))),(26,.val (.pv (I (i9:Int))))]) (fun i9 s9=>[(208,(1,s9.map I))]) (aw SC) (fun i9 s9 hi h=>?_) (fun s9 h=>?_)
   ·have w:=ae (wrap_s2 i9) w
    refine S ?_
    refine aG cs fun cs=>S ?_
    refine run_bk h fun v28 q h=>au I q (S ?_)
    refine run_bk h fun v32 q h=>aj [false] (impl_absolute_sat q) (S ?_)
    refine run_bk h fun v34 q h=>au I q (S ?_)
    refine run_bk h fun v35 q h=>EldH.c I q (S ?_)
    refine run_bk h fun v38 q h=>au I q (S ?_)
    refine run_bk h fun w7 q h=>EldH.c I q (S ?_)
    exact aK h
   ·refine S ?_
    refine aH cs fun cs=>S ?_
    exact aK h
 ·refine S ?_
  refine aH cs fun cs=>S ?_
  exact al h

theorem slices_Clone_Sint_int_sat{a0:List Int}  {r:List Int}(h:slices_Clone_Sint_int a0=some r):Sat ag 79 [(.sl false 1 (a0.map I))] (.sl true 1 (r.map I)):=by
 obtain⟨h,cs⟩:=ao h
 unfold slices_Clone_Sint_int at h
 refine aq 8 [.tmp 2] Tryz.func79 (h:=S ?_)
 refine NilH.mk (fun e=>?_) ?_
 ·obtain rfl:a0=[]:=List.map_eq_nil_iff.1 e
  simp only[app_nn,ai] at h
  refine S ?_
  exact al h
 ·skip
  refine S ?_
  refine run_bk h fun v7 q h=>aU I (fun _=>rfl) q (S ?_)
  exact al h

theorem impl_interpolation__ofClause_1_sat{a0:Int}{b0:ia}  {r:Bool}(h:impl_interpolation__ofClause_1 a0 b0=some r):Sat ag 80 [(I a0),.ptr (.ptr ((ia.pv false) b0))] (B r):=by
 obtain⟨h,cs⟩:=ao h
 unfold impl_interpolation__ofClause_1 at h
 refine aq 15 [.tmp 3] Tryz.func80 (h:=S ?_)
 refine run_bk h fun v9 q h=>aj [false] (impl_absolute_sat q) (S ?_)
 refine run_bk h fun v11 q h=>au I q (S ?_)
 refine ae (aY [] []) (S ?_)
 exact al h

theorem slices_IndexFunc_Sint_int_sat{a0:List Int}{a1:Int→Option Bool}{a1_id:FuncId}{a1_cs:List PV}(a1_ok:∀ y0 r,a1 y0=some r→Sat ag a1_id ((I y0)::a1_cs) (B r))(a1_cz:CapsOk a1_cs=True){r:Int}(h:slices_IndexFunc_Sint_int a0 a1=some r):Sat ag 94 [(.sl false 1 (a0.map I)),.clo a1_id a1_cs] (I r):=by
 obtain⟨h,cs⟩:=ao h
 unfold slices_IndexFunc_Sint_int at h
 have cs:=ae a1_cz cs
 refine aq 19 [.tmp 4] Tryz.func94 (h:=S ?_)
 refine aS (b:=false) (sz:=1) (es:=a0.map I) 0 SC fun hl0=>?_; rw[aF] at hl0
 refine aJ (run_loop h) (fun i2 s2=>[(0,.val (.pv (.sl false 1 (a0.map I)))),(1,.val (.pv (.clo a1_id a1_cs))),(7,.val (.pv (I (a0.length:Int)))),(8,.val (.pv (I (i2:Int))))]) (fun i2 s2=>[]) (aw SC) (fun i2 s2 hi h=>?_) (fun s2 h=>?_)
 ·have w:=wrap_s2 i2
  refine S ?_
  refine aG cs fun cs=>S ?_
  refine run_bk h fun v14 q h=>au I q (S ?_)
  refine run_bk h fun v16 q h=>aj [false] (a1_ok _ _ q) (S ?_)
  refine ah cs h (fun cs h=>S ?_) fun cs h=>S ?_
  ·exact al h
  ·exact aK h
 ·refine S ?_
  refine aH cs fun cs=>S ?_
  exact al h

theorem slices_DeleteFunc_Sint_int_sat{a0:List Int}{a1:Int→Option Bool}{a1_id:FuncId}{a1_cs:List PV}(a1_ok:∀ y0 r,a1 y0=some r→Sat ag a1_id ((I y0)::a1_cs) (B r))(a1_cz:CapsOk a1_cs=True){r:List Int}(h:slices_DeleteFunc_Sint_int a0 a1=some r):Sat ag 78 [(.sl true 1 (a0.map I)),.clo a1_id a1_cs] (.sl true 1 (r.map I)):=by
 obtain⟨h,cs⟩:=ao h
 unfold slices_DeleteFunc_Sint_int at h
 have cs:=ae a1_cz cs
 refine aq 42 [.tmp 4] Tryz.func78 (h:=S ?_)
 refine run_bk h fun v10 q h=>aj [false,false] (slices_IndexFunc_Sint_int_sat a1_ok a1_cz q) (S ?_)
 refine ah cs h (fun cs h=>S ?_) fun cs h=>S ?_
 ·exact al h
 ·replace h:=run_loop h
  refine Mg.whileN h (fun s5=>[(0,.val (.own 9000)),(1,.val (.pv (.clo a1_id a1_cs))),(5,.val (.pv (I s5.2.2))),(6,.val (.pv (I s5.1)))]) (fun s5=>[(9000,(1,s5.2.1.map I))]) (aw SC) (fun n5 s5 h=>?_)
  refine S ?_
  refine ah cs h (fun cs h=>S ?_) fun cs h=>S ?_
  ·refine run_bk h fun v24 q h=>au I q (S ?_)
   refine run_bk h fun v25 q h=>EldH.c I q (S ?_)
   refine run_bk h fun v28 q h=>aj [false] (a1_ok _ _ q) (S ?_)
   refine ah cs h (fun cs h=>S ?_) fun cs h=>S ?_
   ·have h:=run_some h
    refine aX ⟨_,h,?_⟩
    exact aw SC
   ·refine run_bk h fun v33 q h=>au I q (S ?_)
    refine run_bk h fun w4 q h=>EldH.c I q (S ?_)
    have h:=run_some h
    refine aX ⟨_,h,?_⟩
    exact aw SC
  ·have h:=run_some h
   refine run_bk h fun v38 q h=>SlcOH.sub (f:=I) q SC (S ?_)
   refine run_bk h fun r5 q h=>ClearH.sub (f:=I) (c:=9000) (xs:=s5.2.1) (lo:=s5.2.2) (es:=(s5.2.1).map I) (z0:=0) (z:=.int .i64 0) (l:=Int.toNat (s5.2.2)) (m:=(s5.2.1).length) (fun _=>rfl) q rfl rfl Tryz.underlying55 Tryz.zeroValue3 rfl rfl rfl sl_55 (by first | exact SC | (refine S ?_; rfl)) SC rfl rfl rfl (S ?_)
   refine run_bk h fun v41 q h=>SlcOH.mk (f:=I) q SC (S ?_)
   exact al h

theorem strconv_small_sat{a0:Int}  {r:ByteArray}(h:strconv_small a0=some r):Sat ag 203 [(I a0)] (Sx r):=by
 obtain⟨h,cs⟩:=ao h
 unfold strconv_small at h
 refine aq 15 [.tmp 2] Tryz.func203 (h:=S ?_)
 refine ah cs h (fun cs h=>S ?_) fun cs h=>S ?_
 ·refine run_bk h fun v8 q h=>SslcH.mk q (S ?_)
  exact al h
 ·refine run_bk h fun v14 q h=>SslcH.mk q (S ?_)
  exact al h

theorem bits_Len64_sat{a0:Int}  {r:Int}(h:bits_Len64 a0=some r):Sat ag 201 [((Ik .u64) a0)] (I r):=by
 obtain⟨h,cs⟩:=ao h
 unfold bits_Len64 at h
 refine aq 25 [.tmp 2] Tryz.func201 (h:=S ?_)
 refine ah cs h (fun cs h=>S ?_) fun cs h=>S ?_
 refine run_bk h fun v6 q h=>ShrH.mk q (S ?_)
 refine ah cs h (fun cs h=>S ?_) fun cs h=>S ?_
 refine run_bk h fun v10 q h=>ShrH.mk q (S ?_)
 refine ah cs h (fun cs h=>S ?_) fun cs h=>S ?_
 rotate_left 2
 refine ah cs h (fun cs h=>S ?_) fun cs h=>S ?_
 rotate_left 2
 refine ah cs h (fun cs h=>S ?_) fun cs h=>S ?_
 refine run_bk h fun v10 q h=>ShrH.mk q (S ?_)
 refine ah cs h (fun cs h=>S ?_) fun cs h=>S ?_
 rotate_left 2
 refine ah cs h (fun cs h=>S ?_) fun cs h=>S ?_
 rotate_left
 ·refine run_bk h fun v22 q h=>bk q (S ?_)
  exact al h
 rotate_left
 ·refine run_bk h fun v22 q h=>bk q (S ?_)
  exact al h
 rotate_left
 ·refine run_bk h fun v22 q h=>bk q (S ?_)
  exact al h
 rotate_left
 ·refine run_bk h fun v22 q h=>bk q (S ?_)
  exact al h
 all_goals
  refine run_bk h fun v16 q h=>ShrH.mk q (S ?_)
  refine run_bk h fun v22 q h=>bk q (S ?_)
  exact al h

theorem strconv_log10Pow2_sat{a0:Int}  {r:Int}(h:strconv_log10Pow2 a0=some r):Sat ag 215 [(I a0)] (I r):=by
 obtain⟨h,cs⟩:=ao h
 unfold strconv_log10Pow2 at h
 refine aq 6 [.tmp 2] Tryz.func215 (h:=S ?_)
 refine run_bk h fun v5 q h=>ShrH.mk q (S ?_)
 exact al h

theorem strconv_bool2_int_sat{a0:Bool}  {r:Int}(h:strconv_bool2_int a0=some r):Sat ag 216 [(B a0)] (I r):=by
 obtain⟨h,cs⟩:=ao h
 unfold strconv_bool2_int at h
 refine aq 4 [.tmp 2] Tryz.func216 (h:=S ?_)
 refine ah cs h (fun cs h=>S ?_) fun cs h=>S ?_
 ·exact al h
 ·exact al h

theorem strconv_isPowerOfTwo_sat{a0:Int}  {r:Bool}(h:strconv_isPowerOfTwo a0=some r):Sat ag 217 [(I a0)] (B r):=by
 obtain⟨h,cs⟩:=ao h
 unfold strconv_isPowerOfTwo at h
 refine aq 8 [.tmp 2] Tryz.func217 (h:=S ?_)
 exact al h

theorem strconv_formatBits_sat{a0:List Int}{a1:Int}{a2:Int}{a3:Bool}{a4:Bool}  {r:(List Int)×ByteArray}(h:strconv_formatBits a0 a1 a2 a3 a4=some r):Sat ag 206 [(.sl false 1 (a0.map (Ik .u8))),((Ik .u64) a1),(I a2),(B a3),(B a4)] (.tup [(.sl true 1 (r.1.map (Ik .u8))),(Sx r.2)]):=by
 obtain⟨h,cs⟩:=ao h
 unfold strconv_formatBits at h
 refine aq 102 [.tmp 10,.tmp 11] Tryz.func206 (h:=S ?_)
 refine ah cs h (fun cs h=>S ?_) fun cs h=>S ?_
 rotate_left
 refine ah cs h (fun cs h=>S ?_) fun cs h=>S ?_
 rotate_left
 refine ah cs h (fun cs h=>S ?_) fun cs h=>S ?_
 all_goals
  exact run_none h

theorem strconv_FormatInt_sat{a0:Int}{a1:Int}  {r:ByteArray}(h:strconv_FormatInt a0 a1=some r):Sat ag 176 [(I a0),(I a1)] (Sx r):=by
 obtain⟨h,cs⟩:=ao h
 unfold strconv_FormatInt at h
 refine aq 54 [.tmp 4] Tryz.func176 (h:=S ?_)
 refine ah cs h (fun cs h=>S ?_) fun cs h=>S ?_
 ·refine ah cs h (fun cs h=>S ?_) fun cs h=>S ?_
  ·refine ah cs h (fun cs h=>S ?_) fun cs h=>S ?_
   ·refine run_bk h fun v19 q h=>aj [false] (strconv_small_sat q) (S ?_)
    exact al h
   ·exact run_none h
  ·exact run_none h
 ·refine run_bk h fun v50 q h=>aj [false,false,false,false,false] (strconv_formatBits_sat q) (S ?_)
  exact al h

theorem strconv_Itoa_148_sat{a0:Int}  {r:ByteArray}(h:strconv_Itoa_148 a0=some r):Sat ag 148 [(I a0)] (Sx r):=by
 obtain⟨h,cs⟩:=ao h
 unfold strconv_Itoa_148 at h
 refine aq 5 [.tmp 2] Tryz.func148 (h:=S ?_)
 refine run_bk h fun v4 q h=>aj [false,false] (strconv_FormatInt_sat q) (S ?_)
 exact al h

theorem strconv_Itoa_sat{a0:Int}  {r:ByteArray}(h:strconv_Itoa a0=some r):Sat ag 119 [(I a0)] (Sx r):=by
 obtain⟨h,cs⟩:=ao h
 unfold strconv_Itoa at h
 refine aq 5 [.tmp 2] Tryz.func119 (h:=S ?_)
 refine run_bk h fun v4 q h=>aj [false] (strconv_Itoa_148_sat q) (S ?_)
 exact al h

theorem impl_atomOf_sat{a0:Tt}  {r:Ft}(h:impl_atomOf a0=some r):Sat ag 118 [((ar false) a0)] ((am false) r):=by
 obtain⟨h,cs⟩:=ao h
 unfold impl_atomOf at h
 refine aq 5 [.cell 2 42] Tryz.func118 (h:=S ?_)
 exact bi h

theorem impl_not_sat{a0:Ft}  {r:Ft}(h:impl_not a0=some r):Sat ag 120 [((am false) a0)] ((am false) r):=by
 obtain⟨h,cs⟩:=ao h
 unfold impl_not at h
 refine aq 6 [.cell 2 42] Tryz.func120 (h:=S ?_)
 exact bi h

theorem impl_variableFormula_sat{a0:Int}  {r:Ft}(h:impl_variableFormula a0=some r):Sat ag 83 [(I a0)] ((am false) r):=by
 obtain⟨h,cs⟩:=ao h
 unfold impl_variableFormula at h
 refine aq 15 [.cell 2 42] Tryz.func83 (h:=S ?_)
 refine run_bk h fun v5 q h=>aj [false] (impl_absolute_sat q) (S ?_)
 refine run_bk h fun v6 q h=>aj [false] (strconv_Itoa_sat q) (S ?_)
 refine run_bk h fun v7 q h=>SappH.mk q (S ?_)
 refine run_bk h fun v9 q h=>aj [false] (impl_atomOf_sat q) (S ?_)
 refine ah cs h (fun cs h=>S ?_) fun cs h=>S ?_
 ·refine run_bk h fun v13 q h=>aj [false] (impl_not_sat q) (S ?_)
  exact bi h
 ·exact bi h

theorem impl_binary_sat{a0:Int}{a1:Ft}{a2:Ft}  {r:Ft}(h:impl_binary a0 a1 a2=some r):Sat ag 146 [(I a0),((am false) a1),((am false) a2)] ((am false) r):=by
 obtain⟨h,cs⟩:=ao h
 unfold impl_binary at h
 refine aq 12 [.cell 6 42] Tryz.func146 (h:=S ?_)
 exact bi h

theorem impl_combined_sat{a0:Int}{a1:List Ft}{a2:Ft}{r:Ft}(h:impl_combined a0 a1 a2=some r):Sat ag 116 [I a0,.sl false 5 (a1.map (am false)),am false a2] (am false r):=by
 cases h
 exact comb_sat (fun f o=>(impl_binary a0 f o).getD default) a0 (fun f o=>by obtain⟨r,hr⟩:∃ r,impl_binary a0 f o=some r:=⟨_,rfl⟩; rw[hr]; exact impl_binary_sat hr) a1 a2

theorem impl_clauseFormula_sat{a0:List Int}  {r:Ft}(h:impl_clauseFormula a0=some r):Sat ag 77 [(.sl false 1 (a0.map I))] ((am false) r):=by
 obtain⟨h,cs⟩:=ao h
 unfold impl_clauseFormula at h
 refine aq 22 [.cell 2 42] Tryz.func77 (h:=S ?_)
 refine aS (b:=false) (sz:=1) (es:=a0.map I) 0 SC fun hl0=>?_; rw[aF] at hl0
 refine aJ (run_loop h) (fun i3 s3=>[(2,.box zab0),(3,.val (.own 96)),(7,.val (.pv (.sl false 1 (a0.map I)))),(8,.val (.pv (I (a0.length:Int)))),(9,.val (.pv (I (i3:Int))))]) (fun i3 s3=>[(96,(5,s3.map (am false)))]) (aw SC) (fun i3 s3 hi h=>?_) (fun s3 h=>?_)
 ·have w:=wrap_s2 i3
  refine S ?_
  refine aG cs fun cs=>S ?_
  refine run_bk h fun v11 q h=>au I q (S ?_)
  refine run_bk h fun v15 q h=>aj [false] (impl_variableFormula_sat q) (S ?_)
  refine run_bk h fun v17 q h=>aU (am false) (fun a=>Ft.psize _ a) q (S ?_)
  have h:=run_some h
  refine aX ⟨_,h,?_⟩
  refine bd 272 96 ?_
  exact aw SWx
 ·refine S ?_
  refine aH cs fun cs=>S ?_
  refine run_bk h fun v21 q h=>aj [false,true,true] (Sat.give (args:=[(I 6),(.sl true 5 (s3.map (am false))),(.agg [(I 2),(.agg [(Sx ⟨#[]⟩),(.sl true 2 [])]),(Sx ⟨#[]⟩),(.sl true 5 [])])]) [false,true,true] (by have gg:=impl_combined_sat q; simp only[gv_t,gv_f,gv_n,view_sl,view_agg,view_lit,views_repB,views_repI,aA,RB,RS] at gg ⊢; exact gg)) (S ?_)
  exact bi h

theorem impl_interpolation__ofClause_sat{a0:ia}{a1:Int}  {r:Ft}(h:impl_interpolation__ofClause a0 a1=some r):Sat ag 41 [(.ptr ((ia.pv false) a0)),(I a1)] ((am false) r):=by
 obtain⟨h,cs⟩:=ao h
 unfold impl_interpolation__ofClause at h
 refine aq 31 [.cell 4 42] Tryz.func41 (h:=S ?_)
 refine ah cs h (fun cs h=>S ?_) fun cs h=>S ?_
 ·exact bi h
 ·refine ah cs h (fun cs h=>S ?_) fun cs h=>S ?_
  ·exact bi h
  ·refine run_bk h fun v25 q h=>au (Lv false 1 I) q (S ?_)
   refine run_bk h fun v27 q h=>aj [false] (slices_Clone_Sint_int_sat q) (S ?_)
   refine MfH.fr (S ?_)
   refine run_bk h fun v29 q h=>aj [true,false] (slices_DeleteFunc_Sint_int_sat (fun _ _ hh=>impl_interpolation__ofClause_1_sat hh) (by simp only[CapsOk_nil,CapsOk_cons]) q) (S ?_)
   refine run_bk h fun v30 q h=>aj [true] (Sat.give (args:=[(.sl true 1 (v29.map I))]) [true] (by have gg:=impl_clauseFormula_sat q; simp only[gv_t,gv_f,gv_n,view_sl,view_agg,view_lit,views_repB,views_repI,aA,RB,RS] at gg ⊢; exact gg)) (S ?_)
   exact bi h

theorem slices_EqualFunc_Simpl_Term_Simpl_Term_impl_Term_impl_Term_sat{a0:List Tt}{a1:List Tt}{a2:Tt→Tt→Option Bool}{a2_id:FuncId}{a2_cs:List PV}(a2_ok:∀ y0 y1 r,a2 y0 y1=some r→Sat ag a2_id (((ar false) y0)::((ar false) y1)::a2_cs) (B r))(a2_cz:CapsOk a2_cs=True){r:Bool}(h:slices_EqualFunc_Simpl_Term_Simpl_Term_impl_Term_impl_Term a0 a1 a2=some r):Sat ag 186 [(.sl false 2 (a0.map (ar false))),(.sl false 2 (a1.map (ar false))),.clo a2_id a2_cs] (B r):=by
 obtain⟨h,cs⟩:=ao h
 unfold slices_EqualFunc_Simpl_Term_Simpl_Term_impl_Term_impl_Term at h
 have cs:=ae a2_cz cs
 refine aq 32 [.tmp 6] Tryz.func186 (h:=S ?_)
 refine ah cs h (fun cs h=>S ?_) fun cs h=>S ?_
 ·refine aS (b:=false) (sz:=2) (es:=a0.map (ar false)) 0 SC fun hl0=>?_; rw[aF] at hl0
  refine aJ (run_loop h) (fun i4 s4=>[(1,.val (.pv (.sl false 2 (a1.map (ar false))))),(2,.val (.pv (.clo a2_id a2_cs))),(15,.val (.pv (.sl false 2 (a0.map (ar false))))),(16,.val (.pv (I (a0.length:Int)))),(17,.val (.pv (I (i4:Int))))]) (fun i4 s4=>[]) (aw SC) (fun i4 s4 hi h=>?_) (fun s4 h=>?_)
  ·have w:=wrap_s2 i4
   refine S ?_
   refine aG cs fun cs=>S ?_
   refine run_bk h fun v20 q h=>au (ar false) q (S ?_)
   refine run_bk h fun v24 q h=>au (ar false) q (S ?_)
   refine run_bk h fun v29 q h=>aj [false,false] (a2_ok _ _ _ q) (S ?_)
   refine ah cs h (fun cs h=>S ?_) fun cs h=>S ?_
   ·exact aK h
   ·exact al h
  ·refine S ?_
   refine aH cs fun cs=>S ?_
   exact al h
 ·exact al h

theorem impl_EqualTermsN_sat(n:Nat):(∀ (a0:Tt) (a1:Tt) (r:Bool),impl_EqualTermsN n a0 a1=some r→Sat ag 165 [((ar false) a0),((ar false) a1)] (B r)):=by
 induction n with
 | zero=>exact fun _ _ _ h=>by simp[impl_EqualTermsN] at h
 | succ n ih=>
  refine fun a0 a1 r h=>?_
  obtain⟨h,cs⟩:=ao h
  rw[impl_EqualTermsN] at h
  refine aq 17 [.tmp 4] Tryz.func165 (h:=S ?_)
  refine ah cs h (fun cs h=>S ?_) fun cs h=>S ?_
  ·refine run_bk h fun v15 q h=>aj [false,false,false] (slices_EqualFunc_Simpl_Term_Simpl_Term_impl_Term_impl_Term_sat (fun _ _ _ hh=>ih _ _ _ hh) (by simp only[CapsOk_nil,CapsOk_cons]) q) (S ?_)
   exact al h
  ·exact al h
theorem impl_EqualTerms_sat{a0:Tt}{a1:Tt}{r:Bool}(h:impl_EqualTerms a0 a1=some r):Sat ag 165 [((ar false) a0),((ar false) a1)] (B r):=by
 obtain⟨n,hn⟩:=lim_some h
 exact(impl_EqualTermsN_sat n) _ _ _ hn

theorem slices_EqualFunc_Simpl_Formula_Simpl_Formula_impl_Formula_impl_Formula_sat{a0:List Ft}{a1:List Ft}{a2:Ft→Ft→Option Bool}{a2_id:FuncId}{a2_cs:List PV}(a2_ok:∀ y0 y1 r,a2 y0 y1=some r→Sat ag a2_id (((am false) y0)::((am false) y1)::a2_cs) (B r))(a2_cz:CapsOk a2_cs=True){r:Bool}(h:slices_EqualFunc_Simpl_Formula_Simpl_Formula_impl_Formula_impl_Formula a0 a1 a2=some r):Sat ag 175 [(.sl false 5 (a0.map (am false))),(.sl false 5 (a1.map (am false))),.clo a2_id a2_cs] (B r):=by
 obtain⟨h,cs⟩:=ao h
 unfold slices_EqualFunc_Simpl_Formula_Simpl_Formula_impl_Formula_impl_Formula at h
 have cs:=ae a2_cz cs
 refine aq 32 [.tmp 6] Tryz.func175 (h:=S ?_)
 refine ah cs h (fun cs h=>S ?_) fun cs h=>S ?_
 ·refine aS (b:=false) (sz:=5) (es:=a0.map (am false)) 0 SC fun hl0=>?_; rw[aF] at hl0
  refine aJ (run_loop h) (fun i4 s4=>[(1,.val (.pv (.sl false 5 (a1.map (am false))))),(2,.val (.pv (.clo a2_id a2_cs))),(15,.val (.pv (.sl false 5 (a0.map (am false))))),(16,.val (.pv (I (a0.length:Int)))),(17,.val (.pv (I (i4:Int))))]) (fun i4 s4=>[]) (aw SC) (fun i4 s4 hi h=>?_) (fun s4 h=>?_)
  ·have w:=wrap_s2 i4
   refine S ?_
   refine aG cs fun cs=>S ?_
   refine run_bk h fun v20 q h=>au (am false) q (S ?_)
   refine run_bk h fun v24 q h=>au (am false) q (S ?_)
   refine run_bk h fun v29 q h=>aj [false,false] (a2_ok _ _ _ q) (S ?_)
   refine ah cs h (fun cs h=>S ?_) fun cs h=>S ?_
   ·exact aK h
   ·exact al h
  ·refine S ?_
   refine aH cs fun cs=>S ?_
   exact al h
 ·exact al h

theorem impl_sameFormulaN_sat(n:Nat):(∀ (a0:Ft) (a1:Ft) (r:Bool),impl_sameFormulaN n a0 a1=some r→Sat ag 147 [((am false) a0),((am false) a1)] (B r)):=by
 induction n with
 | zero=>exact fun _ _ _ h=>by simp[impl_sameFormulaN] at h
 | succ n ih=>
  refine fun a0 a1 r h=>?_
  obtain⟨h,cs⟩:=ao h
  rw[impl_sameFormulaN] at h
  refine aq 31 [.tmp 4] Tryz.func147 (h:=S ?_)
  refine ah cs h (fun cs h=>S ?_) fun cs h=>S ?_
  refine run_bk h fun v15 q h=>aj [false,false] (impl_EqualTerms_sat q) (S ?_)
  refine ah cs h (fun cs h=>S ?_) fun cs h=>S ?_
  refine ah cs h (fun cs h=>S ?_) fun cs h=>S ?_
  ·refine run_bk h fun v29 q h=>aj [false,false,false] (slices_EqualFunc_Simpl_Formula_Simpl_Formula_impl_Formula_impl_Formula_sat (fun _ _ _ hh=>ih _ _ _ hh) (by simp only[CapsOk_nil,CapsOk_cons]) q) (S ?_)
   exact al h
  all_goals
   exact al h
theorem impl_sameFormula_sat{a0:Ft}{a1:Ft}{r:Bool}(h:impl_sameFormula a0 a1=some r):Sat ag 147 [((am false) a0),((am false) a1)] (B r):=by
 obtain⟨n,hn⟩:=lim_some h
 exact(impl_sameFormulaN_sat n) _ _ _ hn

theorem impl_simplified_sat{a0:Int}{a1:Int}{a2:Int}{a3:Ft}{a4:Ft}  {r:Ft}(h:impl_simplified a0 a1 a2 a3 a4=some r):Sat ag 117 [(I a0),(I a1),(I a2),((am false) a3),((am false) a4)] ((am false) r):=by
 obtain⟨h,cs⟩:=ao h
 unfold impl_simplified at h
 refine aq 45 [.cell 10 42] Tryz.func117 (h:=S ?_)
 refine ah cs h (fun cs h=>S ?_) fun cs h=>S ?_
 rotate_left
 refine ah cs h (fun cs h=>S ?_) fun cs h=>S ?_
 rotate_left
 refine ah cs h (fun cs h=>S ?_) fun cs h=>S ?_
 rotate_left
 refine ah cs h (fun cs h=>S ?_) fun cs h=>S ?_
 rotate_left
 refine run_bk h fun v38 q h=>aj [false,false] (impl_sameFormula_sat q) (S ?_)
 refine ah cs h (fun cs h=>S ?_) fun cs h=>S ?_
 rotate_left
 ·refine run_bk h fun v44 q h=>aj [false,false,false] (impl_binary_sat q) (S ?_)
  exact bi h
 all_goals
  exact bi h

theorem impl_disjoined_sat{a0:Ft}{a1:Ft}  {r:Ft}(h:impl_disjoined a0 a1=some r):Sat ag 81 [((am false) a0),((am false) a1)] ((am false) r):=by
 obtain⟨h,cs⟩:=ao h
 unfold impl_disjoined at h
 refine aq 8 [.cell 4 42] Tryz.func81 (h:=S ?_)
 refine run_bk h fun v7 q h=>aj [false,false,false,false,false] (impl_simplified_sat q) (S ?_)
 exact bi h

theorem impl_conjunction_sat{a0:Ft}{a1:Ft}  {r:Ft}(h:impl_conjunction a0 a1=some r):Sat ag 82 [((am false) a0),((am false) a1)] ((am false) r):=by
 obtain⟨h,cs⟩:=ao h
 unfold impl_conjunction at h
 refine aq 8 [.cell 4 42] Tryz.func82 (h:=S ?_)
 refine run_bk h fun v7 q h=>aj [false,false,false,false,false] (impl_simplified_sat q) (S ?_)
 exact bi h

theorem impl_interpolation__ofStep_sat{a0:ia}{a1:Int}{a2:Ft}{a3:Ft}  {r:Ft}(h:impl_interpolation__ofStep a0 a1 a2 a3=some r):Sat ag 42 [(.ptr ((ia.pv false) a0)),(I a1),((am false) a2),((am false) a3)] ((am false) r):=by
 obtain⟨h,cs⟩:=ao h
 unfold impl_interpolation__ofStep at h
 refine aq 49 [.cell 8 42] Tryz.func42 (h:=S ?_)
 refine run_bk h fun v16 q h=>au I q (S ?_)
 refine ah cs h (fun cs h=>S ?_) fun cs h=>S ?_
 ·refine run_bk h fun v24 q h=>aj [false,false] (impl_disjoined_sat q) (S ?_)
  exact bi h
 ·refine ah cs h (fun cs h=>S ?_) fun cs h=>S ?_
  rotate_left
  refine ah cs h (fun cs h=>S ?_) fun cs h=>S ?_
  rotate_left
  ·refine run_bk h fun v40 q h=>aj [false] (impl_variableFormula_sat q) (S ?_)
   refine run_bk h fun v42 q h=>aj [false,false] (impl_disjoined_sat q) (S ?_)
   refine run_bk h fun v45 q h=>aj [false] (impl_variableFormula_sat q) (S ?_)
   refine run_bk h fun v47 q h=>aj [false,false] (impl_disjoined_sat q) (S ?_)
   refine run_bk h fun v48 q h=>aj [false,false] (impl_conjunction_sat q) (S ?_)
   refine ae (aY [] []) (S ?_)
   exact bi h
  all_goals
   refine run_bk h fun v38 q h=>aj [false,false] (impl_conjunction_sat q) (S ?_)
   exact bi h

theorem impl_sizeOfN_sat(n:Nat):(∀ (a0:Ft) (r:Int),impl_sizeOfN n a0=some r→Sat ag 84 [((am false) a0)] (I r)):=by
 induction n with
 | zero=>exact fun _ _ h=>by simp[impl_sizeOfN] at h
 | succ n ih=>
  refine fun a0 r h=>?_
  obtain⟨h,cs⟩:=ao h
  rw[impl_sizeOfN] at h
  refine aq 22 [.tmp 2] Tryz.func84 (h:=S ?_)
  refine aS (b:=false) (sz:=5) (es:=a0.Parts.map (am false)) 7 SC fun hl7=>?_; rw[aF] at hl7
  refine aJ (run_loop h) (fun i3 s3=>[(3,.val (.pv (I s3))),(7,.val (.pv (.sl false 5 (a0.Parts.map (am false))))),(8,.val (.pv (I (a0.Parts.length:Int)))),(9,.val (.pv (I (i3:Int))))]) (fun i3 s3=>[]) (aw SC) (fun i3 s3 hi h=>?_) (fun s3 h=>?_)
  ·have w:=wrap_s2 i3
   refine S ?_
   refine aG cs fun cs=>S ?_
   refine run_bk h fun v11 q h=>au (am false) q (S ?_)
   refine ah cs h (fun cs h=>S ?_) fun cs h=>S ?_
   ·exact al h
   ·refine run_bk h fun v18 q h=>aj [false] (ih _ _ q) (S ?_)
    exact aK h
  ·refine S ?_
   refine aH cs fun cs=>S ?_
   exact al h
theorem impl_sizeOf_sat{a0:Ft}{r:Int}(h:impl_sizeOf a0=some r):Sat ag 84 [((am false) a0)] (I r):=by
 obtain⟨n,hn⟩:=lim_some h
 exact(impl_sizeOfN_sat n) _ _ hn

theorem impl_isQuantifier_sat{a0:Int}  {r:Bool}(h:impl_isQuantifier a0=some r):Sat ag 121 [(I a0)] (B r):=by
 obtain⟨h,cs⟩:=ao h
 unfold impl_isQuantifier at h
 refine aq 9 [.tmp 2] Tryz.func121 (h:=S ?_)
 refine ah cs h (fun cs h=>S ?_) fun cs h=>S ?_
 ·exact al h
 ·exact al h

theorem impl_isBinary_sat{a0:Int}  {r:Bool}(h:impl_isBinary a0=some r):Sat ag 122 [(I a0)] (B r):=by
 obtain⟨h,cs⟩:=ao h
 unfold impl_isBinary at h
 refine aq 13 [.tmp 2] Tryz.func122 (h:=S ?_)
 refine ah cs h (fun cs h=>S ?_) fun cs h=>S ?_
 ·exact al h
 ·refine ah cs h (fun cs h=>S ?_) fun cs h=>S ?_
  ·exact al h
  ·exact al h

theorem impl_isUpper_sat{a0:Int}  {r:Bool}(h:impl_isUpper a0=some r):Sat ag 149 [((Ik .u8) a0)] (B r):=by
 obtain⟨h,cs⟩:=ao h
 unfold impl_isUpper at h
 refine aq 9 [.tmp 2] Tryz.func149 (h:=S ?_)
 refine ah cs h (fun cs h=>S ?_) fun cs h=>S ?_
 ·exact al h
 ·exact al h

theorem impl_isLower_sat{a0:Int}  {r:Bool}(h:impl_isLower a0=some r):Sat ag 150 [((Ik .u8) a0)] (B r):=by
 obtain⟨h,cs⟩:=ao h
 unfold impl_isLower at h
 refine aq 9 [.tmp 2] Tryz.func150 (h:=S ?_)
 refine ah cs h (fun cs h=>S ?_) fun cs h=>S ?_
 ·exact al h
 ·exact al h

theorem impl_isDigit_sat{a0:Int}  {r:Bool}(h:impl_isDigit a0=some r):Sat ag 151 [((Ik .u8) a0)] (B r):=by
 obtain⟨h,cs⟩:=ao h
 unfold impl_isDigit at h
 refine aq 9 [.tmp 2] Tryz.func151 (h:=S ?_)
 refine ah cs h (fun cs h=>S ?_) fun cs h=>S ?_
 ·exact al h
 ·exact al h

theorem impl_isVariable_sat{a0:ByteArray}  {r:Bool}(h:impl_isVariable a0=some r):Sat ag 123 [(Sx a0)] (B r):=by
 obtain⟨h,cs⟩:=ao h
 unfold impl_isVariable at h
 refine aq 40 [.tmp 2] Tryz.func123 (h:=S ?_)
 obtain⟨N2,hN2,h⟩:=run_bind h
 obtain⟨hN2a,hN2b⟩:=bnd_some hN2
 refine aJ (run_loop h) (fun i2 s2=>[(0,.val (.pv (Sx a0))),(5,.val (.pv (I (a0.size:Int)))),(6,.val (.pv (I (i2:Int))))]) (fun i2 s2=>[]) (aw SC) (fun i2 s2 hi h=>?_) (fun s2 h=>?_)
 ·have w:=wrap_s2 i2
  refine S ?_
  refine aG cs fun cs=>S ?_
  refine ah cs h (fun cs h=>S ?_) fun cs h=>S ?_
  refine run_bk h fun v14 q h=>bk q (S ?_)
  refine run_bk h fun v15 q h=>aj [false] (impl_isUpper_sat q) (S ?_)
  refine ah cs h (fun cs h=>S ?_) fun cs h=>S ?_
  refine ah cs h (fun cs h=>S ?_) fun cs h=>S ?_
  refine run_bk h fun v24 q h=>bk q (S ?_)
  refine run_bk h fun v25 q h=>aj [false] (impl_isLower_sat q) (S ?_)
  refine ah cs h (fun cs h=>S ?_) fun cs h=>S ?_
  rotate_left
  refine run_bk h fun v31 q h=>bk q (S ?_)
  refine run_bk h fun v32 q h=>aj [false] (impl_isDigit_sat q) (S ?_)
  refine ah cs h (fun cs h=>S ?_) fun cs h=>S ?_
  rotate_left 4
  refine ah cs h (fun cs h=>S ?_) fun cs h=>S ?_
  refine run_bk h fun v24 q h=>bk q (S ?_)
  refine run_bk h fun v25 q h=>aj [false] (impl_isLower_sat q) (S ?_)
  refine ah cs h (fun cs h=>S ?_) fun cs h=>S ?_
  rotate_left
  refine run_bk h fun v31 q h=>bk q (S ?_)
  refine run_bk h fun v32 q h=>aj [false] (impl_isDigit_sat q) (S ?_)
  refine ah cs h (fun cs h=>S ?_) fun cs h=>S ?_
  rotate_left
  ·exact al h
  rotate_left 3
  ·exact al h
  rotate_left
  ·exact al h
  all_goals
   exact aK h
 ·refine S ?_
  refine aH cs fun cs=>S ?_
  refine run_bk h fun v39 q h=>aj [false,false,false] (impl_within_sat q) (S ?_)
  exact al h

theorem impl_isEquality_sat{a0:Tt}  {r:Bool}(h:impl_isEquality a0=some r):Sat ag 152 [((ar false) a0)] (B r):=by
 obtain⟨h,cs⟩:=ao h
 unfold impl_isEquality at h
 refine aq 6 [.tmp 2] Tryz.func152 (h:=S ?_)
 exact al h

theorem impl_sizeN_sat(n:Nat):(∀ (a0:Tt) (r:Int),impl_sizeN n a0=some r→Sat ag 177 [((ar false) a0)] (I r)):=by
 induction n with
 | zero=>exact fun _ _ h=>by simp[impl_sizeN] at h
 | succ n ih=>
  refine fun a0 r h=>?_
  obtain⟨h,cs⟩:=ao h
  rw[impl_sizeN] at h
  refine aq 22 [.tmp 2] Tryz.func177 (h:=S ?_)
  refine aS (b:=false) (sz:=2) (es:=a0.Args.map (ar false)) 7 SC fun hl7=>?_; rw[aF] at hl7
  refine aJ (run_loop h) (fun i3 s3=>[(3,.val (.pv (I s3))),(7,.val (.pv (.sl false 2 (a0.Args.map (ar false))))),(8,.val (.pv (I (a0.Args.length:Int)))),(9,.val (.pv (I (i3:Int))))]) (fun i3 s3=>[]) (aw SC) (fun i3 s3 hi h=>?_) (fun s3 h=>?_)
  ·have w:=wrap_s2 i3
   refine S ?_
   refine aG cs fun cs=>S ?_
   refine run_bk h fun v11 q h=>au (ar false) q (S ?_)
   refine ah cs h (fun cs h=>S ?_) fun cs h=>S ?_
   ·exact al h
   ·refine run_bk h fun v18 q h=>aj [false] (ih _ _ q) (S ?_)
    exact aK h
  ·refine S ?_
   refine aH cs fun cs=>S ?_
   exact al h
theorem impl_size_sat{a0:Tt}{r:Int}(h:impl_size a0=some r):Sat ag 177 [((ar false) a0)] (I r):=by
 obtain⟨n,hn⟩:=lim_some h
 exact(impl_sizeN_sat n) _ _ hn

theorem impl_depthN_sat(n:Nat):(∀ (a0:Tt) (r:Int),impl_depthN n a0=some r→Sat ag 178 [((ar false) a0)] (I r)):=by
 induction n with
 | zero=>exact fun _ _ h=>by simp[impl_depthN] at h
 | succ n ih=>
  refine fun a0 r h=>?_
  obtain⟨h,cs⟩:=ao h
  rw[impl_depthN] at h
  refine aq 20 [.tmp 2] Tryz.func178 (h:=S ?_)
  refine aS (b:=false) (sz:=2) (es:=a0.Args.map (ar false)) 7 SC fun hl7=>?_; rw[aF] at hl7
  refine aJ (run_loop h) (fun i3 s3=>[(3,.val (.pv (I s3))),(7,.val (.pv (.sl false 2 (a0.Args.map (ar false))))),(8,.val (.pv (I (a0.Args.length:Int)))),(9,.val (.pv (I (i3:Int))))]) (fun i3 s3=>[]) (aw SC) (fun i3 s3 hi h=>?_) (fun s3 h=>?_)
  ·have w:=wrap_s2 i3
   refine S ?_
   refine aG cs fun cs=>S ?_
   refine run_bk h fun v11 q h=>au (ar false) q (S ?_)
   refine run_bk h fun v15 q h=>aj [false] (ih _ _ q) (S ?_)
   exact aK h
  ·refine S ?_
   refine aH cs fun cs=>S ?_
   exact al h
theorem impl_depth_sat{a0:Tt}{r:Int}(h:impl_depth a0=some r):Sat ag 178 [((ar false) a0)] (I r):=by
 obtain⟨n,hn⟩:=lim_some h
 exact(impl_depthN_sat n) _ _ hn

theorem impl_isSmall_sat{a0:Tt}  {r:Bool}(h:impl_isSmall a0=some r):Sat ag 153 [((ar false) a0)] (B r):=by
 obtain⟨h,cs⟩:=ao h
 unfold impl_isSmall at h
 refine aq 11 [.tmp 2] Tryz.func153 (h:=S ?_)
 refine run_bk h fun v4 q h=>aj [false] (impl_size_sat q) (S ?_)
 refine ah cs h (fun cs h=>S ?_) fun cs h=>S ?_
 ·refine run_bk h fun v8 q h=>aj [false] (impl_depth_sat q) (S ?_)
  exact al h
 ·exact al h

theorem impl_reserved_sat   {r:List ByteArray}(h:impl_reserved  =some r):Sat ag 181 [] (.sl true 1 (r.map Sx)):=by
 obtain⟨h,cs⟩:=ao h
 unfold impl_reserved at h
 refine aq 2 [.tmp 0] Tryz.func181 (h:=S ?_)
 exact al h

theorem slices_Index_Sstring_string_sat{a0:List ByteArray}{a1:ByteArray}  {r:Int}(h:slices_Index_Sstring_string a0 a1=some r):Sat ag 207 [(.sl false 1 (a0.map Sx)),(Sx a1)] (I r):=by
 obtain⟨h,cs⟩:=ao h
 unfold slices_Index_Sstring_string at h
 refine aq 19 [.tmp 4] Tryz.func207 (h:=S ?_)
 refine aS (b:=false) (sz:=1) (es:=a0.map Sx) 0 SC fun hl0=>?_; rw[aF] at hl0
 refine aJ (run_loop h) (fun i2 s2=>[(0,.val (.pv (.sl false 1 (a0.map Sx)))),(1,.val (.pv (Sx a1))),(7,.val (.pv (I (a0.length:Int)))),(8,.val (.pv (I (i2:Int))))]) (fun i2 s2=>[]) (aw SC) (fun i2 s2 hi h=>?_) (fun s2 h=>?_)
 ·have w:=wrap_s2 i2
  refine S ?_
  refine aG cs fun cs=>S ?_
  refine run_bk h fun v14 q h=>au Sx q (S ?_)
  refine ah cs h (fun cs h=>S ?_) fun cs h=>S ?_
  ·exact al h
  ·exact aK h
 ·refine S ?_
  refine aH cs fun cs=>S ?_
  exact al h

theorem slices_Contains_Sstring_string_sat{a0:List ByteArray}{a1:ByteArray}  {r:Bool}(h:slices_Contains_Sstring_string a0 a1=some r):Sat ag 180 [(.sl false 1 (a0.map Sx)),(Sx a1)] (B r):=by
 obtain⟨h,cs⟩:=ao h
 unfold slices_Contains_Sstring_string at h
 refine aq 9 [.tmp 4] Tryz.func180 (h:=S ?_)
 refine run_bk h fun v7 q h=>aj [false,false] (slices_Index_Sstring_string_sat q) (S ?_)
 exact al h

theorem impl_isSymbol_sat{a0:ByteArray}  {r:Bool}(h:impl_isSymbol a0=some r):Sat ag 155 [(Sx a0)] (B r):=by
 obtain⟨h,cs⟩:=ao h
 unfold impl_isSymbol at h
 refine aq 48 [.tmp 2] Tryz.func155 (h:=S ?_)
 obtain⟨N2,hN2,h⟩:=run_bind h
 obtain⟨hN2a,hN2b⟩:=bnd_some hN2
 refine aJ (run_loop h) (fun i2 s2=>[(0,.val (.pv (Sx a0))),(5,.val (.pv (I (a0.size:Int)))),(6,.val (.pv (I (i2:Int))))]) (fun i2 s2=>[]) (aw SC) (fun i2 s2 hi h=>?_) (fun s2 h=>?_)
 ·have w:=wrap_s2 i2
  refine S ?_
  refine aG cs fun cs=>S ?_
  refine ah cs h (fun cs h=>S ?_) fun cs h=>S ?_
  refine run_bk h fun v14 q h=>bk q (S ?_)
  refine run_bk h fun v15 q h=>aj [false] (impl_isLower_sat q) (S ?_)
  refine ah cs h (fun cs h=>S ?_) fun cs h=>S ?_
  refine run_bk h fun v21 q h=>bk q (S ?_)
  refine run_bk h fun v22 q h=>aj [false] (impl_isLower_sat q) (S ?_)
  refine ah cs h (fun cs h=>S ?_) fun cs h=>S ?_
  rotate_left
  refine run_bk h fun v27 q h=>bk q (S ?_)
  refine run_bk h fun v28 q h=>aj [false] (impl_isDigit_sat q) (S ?_)
  refine ah cs h (fun cs h=>S ?_) fun cs h=>S ?_
  rotate_left
  refine run_bk h fun v34 q h=>bk q (S ?_)
  refine ah cs h (fun cs h=>S ?_) fun cs h=>S ?_
  rotate_left 3
  refine run_bk h fun v21 q h=>bk q (S ?_)
  refine run_bk h fun v22 q h=>aj [false] (impl_isLower_sat q) (S ?_)
  refine ah cs h (fun cs h=>S ?_) fun cs h=>S ?_
  rotate_left
  refine run_bk h fun v27 q h=>bk q (S ?_)
  refine run_bk h fun v28 q h=>aj [false] (impl_isDigit_sat q) (S ?_)
  refine ah cs h (fun cs h=>S ?_) fun cs h=>S ?_
  rotate_left
  refine run_bk h fun v34 q h=>bk q (S ?_)
  refine ah cs h (fun cs h=>S ?_) fun cs h=>S ?_
  rotate_left
  ·exact al h
  rotate_left 3
  ·exact al h
  ·exact al h
  all_goals
   exact aK h
 ·refine S ?_
  refine aH cs fun cs=>S ?_
  refine run_bk h fun v41 q h=>aj [false,false,false] (impl_within_sat q) (S ?_)
  refine ah cs h (fun cs h=>S ?_) fun cs h=>S ?_
  ·refine run_bk h fun v43 q h=>aj [] (impl_reserved_sat q) (S ?_)
   refine run_bk h fun v45 q h=>aj [false,false] (slices_Contains_Sstring_string_sat q) (S ?_)
   exact al h
  ·exact al h

theorem slices_IndexFunc_Simpl_Term_impl_Term_sat{a0:List Tt}{a1:Tt→Option Bool}{a1_id:FuncId}{a1_cs:List PV}(a1_ok:∀ y0 r,a1 y0=some r→Sat ag a1_id (((ar false) y0)::a1_cs) (B r))(a1_cz:CapsOk a1_cs=True){r:Int}(h:slices_IndexFunc_Simpl_Term_impl_Term a0 a1=some r):Sat ag 166 [(.sl false 2 (a0.map (ar false))),.clo a1_id a1_cs] (I r):=by
 obtain⟨h,cs⟩:=ao h
 unfold slices_IndexFunc_Simpl_Term_impl_Term at h
 have cs:=ae a1_cz cs
 refine aq 19 [.tmp 4] Tryz.func166 (h:=S ?_)
 refine aS (b:=false) (sz:=2) (es:=a0.map (ar false)) 0 SC fun hl0=>?_; rw[aF] at hl0
 refine aJ (run_loop h) (fun i2 s2=>[(0,.val (.pv (.sl false 2 (a0.map (ar false))))),(1,.val (.pv (.clo a1_id a1_cs))),(7,.val (.pv (I (a0.length:Int)))),(8,.val (.pv (I (i2:Int))))]) (fun i2 s2=>[]) (aw SC) (fun i2 s2 hi h=>?_) (fun s2 h=>?_)
 ·have w:=wrap_s2 i2
  refine S ?_
  refine aG cs fun cs=>S ?_
  refine run_bk h fun v14 q h=>au (ar false) q (S ?_)
  refine run_bk h fun v16 q h=>aj [false] (a1_ok _ _ q) (S ?_)
  refine ah cs h (fun cs h=>S ?_) fun cs h=>S ?_
  ·exact al h
  ·exact aK h
 ·refine S ?_
  refine aH cs fun cs=>S ?_
  exact al h

theorem slices_ContainsFunc_Simpl_Term_impl_Term_sat{a0:List Tt}{a1:Tt→Option Bool}{a1_id:FuncId}{a1_cs:List PV}(a1_ok:∀ y0 r,a1 y0=some r→Sat ag a1_id (((ar false) y0)::a1_cs) (B r))(a1_cz:CapsOk a1_cs=True){r:Bool}(h:slices_ContainsFunc_Simpl_Term_impl_Term a0 a1=some r):Sat ag 163 [(.sl false 2 (a0.map (ar false))),.clo a1_id a1_cs] (B r):=by
 obtain⟨h,cs⟩:=ao h
 unfold slices_ContainsFunc_Simpl_Term_impl_Term at h
 have cs:=ae a1_cz cs
 refine aq 9 [.tmp 4] Tryz.func163 (h:=S ?_)
 refine run_bk h fun v7 q h=>aj [false,false] (slices_IndexFunc_Simpl_Term_impl_Term_sat a1_ok a1_cz q) (S ?_)
 exact al h

theorem impl_hasNamesN_sat(n:Nat):(∀ (a0:Tt) (r:Bool),impl_hasNamesN n a0=some r→Sat ag 154 [((ar false) a0)] (B r))∧(∀ (a0:Tt) (r:Bool),impl_hasNames_1N n a0=some r→Sat ag 179 [((ar false) a0)] (B r)):=by
 induction n with
 | zero=>exact⟨fun _ _ h=>by simp[impl_hasNamesN] at h,fun _ _ h=>by simp[impl_hasNames_1N] at h⟩
 | succ n ih=>
  refine⟨fun a0 r h=>?_,fun a0 r h=>?_⟩
  ·obtain⟨h,cs⟩:=ao h
   rw[impl_hasNamesN] at h
   refine aq 25 [.tmp 2] Tryz.func154 (h:=S ?_)
   refine run_bk h fun v5 q h=>aj [false] (impl_isVariable_sat q) (S ?_)
   refine ah cs h (fun cs h=>S ?_) fun cs h=>S ?_
   rotate_left
   refine run_bk h fun v12 q h=>aj [false] (impl_isSymbol_sat q) (S ?_)
   refine ah cs h (fun cs h=>S ?_) fun cs h=>S ?_
   refine ah cs h (fun cs h=>S ?_) fun cs h=>S ?_
   ·refine run_bk h fun v22 q h=>aj [false,false] (slices_ContainsFunc_Simpl_Term_impl_Term_sat (fun _ _ hh=>ih.2 _ _ hh) (by simp only[CapsOk_nil,CapsOk_cons]) q) (S ?_)
    exact al h
   all_goals
    exact al h
  ·obtain⟨h,cs⟩:=ao h
   rw[impl_hasNames_1N] at h
   refine aq 6 [.tmp 2] Tryz.func179 (h:=S ?_)
   refine run_bk h fun v4 q h=>aj [false] (ih.1 _ _ q) (S ?_)
   exact al h
theorem impl_hasNames_sat{a0:Tt}{r:Bool}(h:impl_hasNames a0=some r):Sat ag 154 [((ar false) a0)] (B r):=by
 obtain⟨n,hn⟩:=lim_some h
 exact(impl_hasNamesN_sat n).1 _ _ hn
theorem impl_hasNames_1_sat{a0:Tt}{r:Bool}(h:impl_hasNames_1 a0=some r):Sat ag 179 [((ar false) a0)] (B r):=by
 obtain⟨n,hn⟩:=lim_some h
 exact(impl_hasNamesN_sat n).2 _ _ hn

theorem impl_IsValidTerm_sat{a0:Tt}  {r:Bool}(h:impl_IsValidTerm a0=some r):Sat ag 156 [((ar false) a0)] (B r):=by
 obtain⟨h,cs⟩:=ao h
 unfold impl_IsValidTerm at h
 refine aq 9 [.tmp 2] Tryz.func156 (h:=S ?_)
 refine run_bk h fun v4 q h=>aj [false] (impl_isSmall_sat q) (S ?_)
 refine ah cs h (fun cs h=>S ?_) fun cs h=>S ?_
 ·refine run_bk h fun v7 q h=>aj [false] (impl_hasNames_sat q) (S ?_)
  exact al h
 ·exact al h

theorem impl_IsValidAtom_sat{a0:Tt}  {r:Bool}(h:impl_IsValidAtom a0=some r):Sat ag 124 [((ar false) a0)] (B r):=by
 obtain⟨h,cs⟩:=ao h
 unfold impl_IsValidAtom at h
 refine aq 34 [.tmp 2] Tryz.func124 (h:=S ?_)
 refine run_bk h fun v4 q h=>aj [false] (impl_isEquality_sat q) (S ?_)
 refine ah cs h (fun cs h=>S ?_) fun cs h=>S ?_
 ·refine ah cs h (fun cs h=>S ?_) fun cs h=>S ?_
  refine run_bk h fun v11 q h=>aj [false] (impl_isSmall_sat q) (S ?_)
  refine ah cs h (fun cs h=>S ?_) fun cs h=>S ?_
  refine run_bk h fun v16 q h=>au (ar false) q (S ?_)
  refine run_bk h fun v18 q h=>aj [false] (impl_hasNames_sat q) (S ?_)
  refine ah cs h (fun cs h=>S ?_) fun cs h=>S ?_
  ·refine run_bk h fun v23 q h=>au (ar false) q (S ?_)
   refine run_bk h fun v25 q h=>aj [false] (impl_hasNames_sat q) (S ?_)
   exact al h
  all_goals
   exact al h
 ·refine run_bk h fun v29 q h=>aj [false] (impl_isSymbol_sat q) (S ?_)
  refine ah cs h (fun cs h=>S ?_) fun cs h=>S ?_
  ·refine run_bk h fun v32 q h=>aj [false] (impl_IsValidTerm_sat q) (S ?_)
   exact al h
  ·exact al h

theorem impl_isZeroTerm_sat{a0:Tt}  {r:Bool}(h:impl_isZeroTerm a0=some r):Sat ag 125 [((ar false) a0)] (B r):=by
 obtain⟨h,cs⟩:=ao h
 unfold impl_isZeroTerm at h
 refine aq 12 [.tmp 2] Tryz.func125 (h:=S ?_)
 refine ah cs h (fun cs h=>S ?_) fun cs h=>S ?_
 ·exact al h
 ·exact al h

theorem slices_IndexFunc_Simpl_Formula_impl_Formula_sat{a0:List Ft}{a1:Ft→Option Bool}{a1_id:FuncId}{a1_cs:List PV}(a1_ok:∀ y0 r,a1 y0=some r→Sat ag a1_id (((am false) y0)::a1_cs) (B r))(a1_cz:CapsOk a1_cs=True){r:Int}(h:slices_IndexFunc_Simpl_Formula_impl_Formula a0 a1=some r):Sat ag 157 [(.sl false 5 (a0.map (am false))),.clo a1_id a1_cs] (I r):=by
 obtain⟨h,cs⟩:=ao h
 unfold slices_IndexFunc_Simpl_Formula_impl_Formula at h
 have cs:=ae a1_cz cs
 refine aq 19 [.tmp 4] Tryz.func157 (h:=S ?_)
 refine aS (b:=false) (sz:=5) (es:=a0.map (am false)) 0 SC fun hl0=>?_; rw[aF] at hl0
 refine aJ (run_loop h) (fun i2 s2=>[(0,.val (.pv (.sl false 5 (a0.map (am false))))),(1,.val (.pv (.clo a1_id a1_cs))),(7,.val (.pv (I (a0.length:Int)))),(8,.val (.pv (I (i2:Int))))]) (fun i2 s2=>[]) (aw SC) (fun i2 s2 hi h=>?_) (fun s2 h=>?_)
 ·have w:=wrap_s2 i2
  refine S ?_
  refine aG cs fun cs=>S ?_
  refine run_bk h fun v14 q h=>au (am false) q (S ?_)
  refine run_bk h fun v16 q h=>aj [false] (a1_ok _ _ q) (S ?_)
  refine ah cs h (fun cs h=>S ?_) fun cs h=>S ?_
  ·exact al h
  ·exact aK h
 ·refine S ?_
  refine aH cs fun cs=>S ?_
  exact al h

theorem slices_ContainsFunc_Simpl_Formula_impl_Formula_sat{a0:List Ft}{a1:Ft→Option Bool}{a1_id:FuncId}{a1_cs:List PV}(a1_ok:∀ y0 r,a1 y0=some r→Sat ag a1_id (((am false) y0)::a1_cs) (B r))(a1_cz:CapsOk a1_cs=True){r:Bool}(h:slices_ContainsFunc_Simpl_Formula_impl_Formula a0 a1=some r):Sat ag 126 [(.sl false 5 (a0.map (am false))),.clo a1_id a1_cs] (B r):=by
 obtain⟨h,cs⟩:=ao h
 unfold slices_ContainsFunc_Simpl_Formula_impl_Formula at h
 have cs:=ae a1_cz cs
 refine aq 9 [.tmp 4] Tryz.func126 (h:=S ?_)
 refine run_bk h fun v7 q h=>aj [false,false] (slices_IndexFunc_Simpl_Formula_impl_Formula_sat a1_ok a1_cz q) (S ?_)
 exact al h

theorem impl_hasFormN_sat(n:Nat):(∀ (a0:Ft) (r:Bool),impl_hasFormN n a0=some r→Sat ag 85 [((am false) a0)] (B r))∧(∀ (a0:Ft) (r:Bool),impl_hasForm_1N n a0=some r→Sat ag 127 [((am false) a0)] (B r)):=by
 induction n with
 | zero=>exact⟨fun _ _ h=>by simp[impl_hasFormN] at h,fun _ _ h=>by simp[impl_hasForm_1N] at h⟩
 | succ n ih=>
  refine⟨fun a0 r h=>?_,fun a0 r h=>?_⟩
  ·obtain⟨h,cs⟩:=ao h
   rw[impl_hasFormN] at h
   refine aq 76 [.tmp 2] Tryz.func85 (h:=S ?_)
   refine ah cs h (fun cs h=>S ?_) fun cs h=>S ?_
   refine ah cs h (fun cs h=>S ?_) fun cs h=>S ?_
   refine run_bk h fun v33 q h=>aj [false] (impl_isQuantifier_sat q) (S ?_)
   refine ah cs h (fun cs h=>S ?_) fun cs h=>S ?_
   refine run_bk h fun v37 q h=>aj [false] (impl_isVariable_sat q) (S ?_)
   refine ah cs h (fun cs h=>S ?_) fun cs h=>S ?_
   refine run_bk h fun v44 q h=>aj [false] (impl_isQuantifier_sat q) (S ?_)
   refine ah cs h (fun cs h=>S ?_) fun cs h=>S ?_
   refine ah cs h (fun cs h=>S ?_) fun cs h=>S ?_
   refine run_bk h fun v58 q h=>aj [false] (impl_IsValidAtom_sat q) (S ?_)
   refine ah cs h (fun cs h=>S ?_) fun cs h=>S ?_
   rotate_left 2
   refine run_bk h fun v68 q h=>aj [false] (impl_isZeroTerm_sat q) (S ?_)
   refine ah cs h (fun cs h=>S ?_) fun cs h=>S ?_
   rotate_left 2
   refine ah cs h (fun cs h=>S ?_) fun cs h=>S ?_
   refine ah cs h (fun cs h=>S ?_) fun cs h=>S ?_
   refine run_bk h fun v58 q h=>aj [false] (impl_IsValidAtom_sat q) (S ?_)
   refine ah cs h (fun cs h=>S ?_) fun cs h=>S ?_
   rotate_left 2
   refine run_bk h fun v68 q h=>aj [false] (impl_isZeroTerm_sat q) (S ?_)
   refine ah cs h (fun cs h=>S ?_) fun cs h=>S ?_
   rotate_left 4
   refine run_bk h fun v44 q h=>aj [false] (impl_isQuantifier_sat q) (S ?_)
   refine ah cs h (fun cs h=>S ?_) fun cs h=>S ?_
   refine ah cs h (fun cs h=>S ?_) fun cs h=>S ?_
   refine run_bk h fun v58 q h=>aj [false] (impl_IsValidAtom_sat q) (S ?_)
   refine ah cs h (fun cs h=>S ?_) fun cs h=>S ?_
   rotate_left 2
   refine run_bk h fun v68 q h=>aj [false] (impl_isZeroTerm_sat q) (S ?_)
   refine ah cs h (fun cs h=>S ?_) fun cs h=>S ?_
   rotate_left 2
   refine ah cs h (fun cs h=>S ?_) fun cs h=>S ?_
   refine ah cs h (fun cs h=>S ?_) fun cs h=>S ?_
   refine run_bk h fun v58 q h=>aj [false] (impl_IsValidAtom_sat q) (S ?_)
   refine ah cs h (fun cs h=>S ?_) fun cs h=>S ?_
   rotate_left 2
   refine run_bk h fun v68 q h=>aj [false] (impl_isZeroTerm_sat q) (S ?_)
   refine ah cs h (fun cs h=>S ?_) fun cs h=>S ?_
   rotate_left 4
   refine ah cs h (fun cs h=>S ?_) fun cs h=>S ?_
   refine ah cs h (fun cs h=>S ?_) fun cs h=>S ?_
   refine run_bk h fun v33 q h=>aj [false] (impl_isQuantifier_sat q) (S ?_)
   refine ah cs h (fun cs h=>S ?_) fun cs h=>S ?_
   refine run_bk h fun v37 q h=>aj [false] (impl_isVariable_sat q) (S ?_)
   refine ah cs h (fun cs h=>S ?_) fun cs h=>S ?_
   refine run_bk h fun v44 q h=>aj [false] (impl_isQuantifier_sat q) (S ?_)
   refine ah cs h (fun cs h=>S ?_) fun cs h=>S ?_
   refine ah cs h (fun cs h=>S ?_) fun cs h=>S ?_
   refine run_bk h fun v58 q h=>aj [false] (impl_IsValidAtom_sat q) (S ?_)
   refine ah cs h (fun cs h=>S ?_) fun cs h=>S ?_
   rotate_left 2
   refine run_bk h fun v68 q h=>aj [false] (impl_isZeroTerm_sat q) (S ?_)
   refine ah cs h (fun cs h=>S ?_) fun cs h=>S ?_
   rotate_left 2
   refine ah cs h (fun cs h=>S ?_) fun cs h=>S ?_
   refine ah cs h (fun cs h=>S ?_) fun cs h=>S ?_
   refine run_bk h fun v58 q h=>aj [false] (impl_IsValidAtom_sat q) (S ?_)
   refine ah cs h (fun cs h=>S ?_) fun cs h=>S ?_
   rotate_left 2
   refine run_bk h fun v68 q h=>aj [false] (impl_isZeroTerm_sat q) (S ?_)
   refine ah cs h (fun cs h=>S ?_) fun cs h=>S ?_
   rotate_left 4
   refine run_bk h fun v44 q h=>aj [false] (impl_isQuantifier_sat q) (S ?_)
   refine ah cs h (fun cs h=>S ?_) fun cs h=>S ?_
   refine ah cs h (fun cs h=>S ?_) fun cs h=>S ?_
   refine run_bk h fun v58 q h=>aj [false] (impl_IsValidAtom_sat q) (S ?_)
   refine ah cs h (fun cs h=>S ?_) fun cs h=>S ?_
   rotate_left 2
   refine run_bk h fun v68 q h=>aj [false] (impl_isZeroTerm_sat q) (S ?_)
   refine ah cs h (fun cs h=>S ?_) fun cs h=>S ?_
   rotate_left 2
   refine ah cs h (fun cs h=>S ?_) fun cs h=>S ?_
   refine ah cs h (fun cs h=>S ?_) fun cs h=>S ?_
   refine run_bk h fun v58 q h=>aj [false] (impl_IsValidAtom_sat q) (S ?_)
   refine ah cs h (fun cs h=>S ?_) fun cs h=>S ?_
   rotate_left 2
   refine run_bk h fun v68 q h=>aj [false] (impl_isZeroTerm_sat q) (S ?_)
   refine ah cs h (fun cs h=>S ?_) fun cs h=>S ?_
   rotate_left 4
   refine ah cs h (fun cs h=>S ?_) fun cs h=>S ?_
   refine ah cs h (fun cs h=>S ?_) fun cs h=>S ?_
   refine run_bk h fun v33 q h=>aj [false] (impl_isQuantifier_sat q) (S ?_)
   refine ah cs h (fun cs h=>S ?_) fun cs h=>S ?_
   refine run_bk h fun v37 q h=>aj [false] (impl_isVariable_sat q) (S ?_)
   refine ah cs h (fun cs h=>S ?_) fun cs h=>S ?_
   refine run_bk h fun v44 q h=>aj [false] (impl_isQuantifier_sat q) (S ?_)
   refine ah cs h (fun cs h=>S ?_) fun cs h=>S ?_
   refine run_bk h fun v58 q h=>aj [false] (impl_IsValidAtom_sat q) (S ?_)
   refine ah cs h (fun cs h=>S ?_) fun cs h=>S ?_
   rotate_left 2
   refine ah cs h (fun cs h=>S ?_) fun cs h=>S ?_
   refine run_bk h fun v58 q h=>aj [false] (impl_IsValidAtom_sat q) (S ?_)
   refine ah cs h (fun cs h=>S ?_) fun cs h=>S ?_
   rotate_left 4
   refine run_bk h fun v44 q h=>aj [false] (impl_isQuantifier_sat q) (S ?_)
   refine ah cs h (fun cs h=>S ?_) fun cs h=>S ?_
   refine run_bk h fun v58 q h=>aj [false] (impl_IsValidAtom_sat q) (S ?_)
   refine ah cs h (fun cs h=>S ?_) fun cs h=>S ?_
   rotate_left 2
   refine ah cs h (fun cs h=>S ?_) fun cs h=>S ?_
   refine run_bk h fun v58 q h=>aj [false] (impl_IsValidAtom_sat q) (S ?_)
   refine ah cs h (fun cs h=>S ?_) fun cs h=>S ?_
   rotate_left 4
   refine ah cs h (fun cs h=>S ?_) fun cs h=>S ?_
   refine ah cs h (fun cs h=>S ?_) fun cs h=>S ?_
   refine run_bk h fun v33 q h=>aj [false] (impl_isQuantifier_sat q) (S ?_)
   refine ah cs h (fun cs h=>S ?_) fun cs h=>S ?_
   refine run_bk h fun v37 q h=>aj [false] (impl_isVariable_sat q) (S ?_)
   refine ah cs h (fun cs h=>S ?_) fun cs h=>S ?_
   refine run_bk h fun v44 q h=>aj [false] (impl_isQuantifier_sat q) (S ?_)
   refine ah cs h (fun cs h=>S ?_) fun cs h=>S ?_
   refine run_bk h fun v68 q h=>aj [false] (impl_isZeroTerm_sat q) (S ?_)
   refine ah cs h (fun cs h=>S ?_) fun cs h=>S ?_
   rotate_left 2
   refine ah cs h (fun cs h=>S ?_) fun cs h=>S ?_
   refine run_bk h fun v68 q h=>aj [false] (impl_isZeroTerm_sat q) (S ?_)
   refine ah cs h (fun cs h=>S ?_) fun cs h=>S ?_
   rotate_left 4
   refine run_bk h fun v44 q h=>aj [false] (impl_isQuantifier_sat q) (S ?_)
   refine ah cs h (fun cs h=>S ?_) fun cs h=>S ?_
   refine run_bk h fun v68 q h=>aj [false] (impl_isZeroTerm_sat q) (S ?_)
   refine ah cs h (fun cs h=>S ?_) fun cs h=>S ?_
   rotate_left 2
   refine ah cs h (fun cs h=>S ?_) fun cs h=>S ?_
   refine run_bk h fun v68 q h=>aj [false] (impl_isZeroTerm_sat q) (S ?_)
   refine ah cs h (fun cs h=>S ?_) fun cs h=>S ?_
   rotate_left 4
   refine run_bk h fun v20 q h=>aj [false] (impl_isQuantifier_sat q) (S ?_)
   refine ah cs h (fun cs h=>S ?_) fun cs h=>S ?_
   refine ah cs h (fun cs h=>S ?_) fun cs h=>S ?_
   refine run_bk h fun v33 q h=>aj [false] (impl_isQuantifier_sat q) (S ?_)
   refine ah cs h (fun cs h=>S ?_) fun cs h=>S ?_
   refine run_bk h fun v37 q h=>aj [false] (impl_isVariable_sat q) (S ?_)
   refine ah cs h (fun cs h=>S ?_) fun cs h=>S ?_
   refine run_bk h fun v44 q h=>aj [false] (impl_isQuantifier_sat q) (S ?_)
   refine ah cs h (fun cs h=>S ?_) fun cs h=>S ?_
   refine run_bk h fun v68 q h=>aj [false] (impl_isZeroTerm_sat q) (S ?_)
   refine ah cs h (fun cs h=>S ?_) fun cs h=>S ?_
   rotate_left 2
   refine ah cs h (fun cs h=>S ?_) fun cs h=>S ?_
   refine run_bk h fun v68 q h=>aj [false] (impl_isZeroTerm_sat q) (S ?_)
   refine ah cs h (fun cs h=>S ?_) fun cs h=>S ?_
   rotate_left 4
   refine run_bk h fun v44 q h=>aj [false] (impl_isQuantifier_sat q) (S ?_)
   refine ah cs h (fun cs h=>S ?_) fun cs h=>S ?_
   refine run_bk h fun v68 q h=>aj [false] (impl_isZeroTerm_sat q) (S ?_)
   refine ah cs h (fun cs h=>S ?_) fun cs h=>S ?_
   rotate_left 2
   refine ah cs h (fun cs h=>S ?_) fun cs h=>S ?_
   refine run_bk h fun v68 q h=>aj [false] (impl_isZeroTerm_sat q) (S ?_)
   refine ah cs h (fun cs h=>S ?_) fun cs h=>S ?_
   rotate_left 4
   refine run_bk h fun v24 q h=>aj [false] (impl_isBinary_sat q) (S ?_)
   refine ah cs h (fun cs h=>S ?_) fun cs h=>S ?_
   refine ah cs h (fun cs h=>S ?_) fun cs h=>S ?_
   refine run_bk h fun v33 q h=>aj [false] (impl_isQuantifier_sat q) (S ?_)
   refine ah cs h (fun cs h=>S ?_) fun cs h=>S ?_
   refine run_bk h fun v37 q h=>aj [false] (impl_isVariable_sat q) (S ?_)
   refine ah cs h (fun cs h=>S ?_) fun cs h=>S ?_
   refine run_bk h fun v44 q h=>aj [false] (impl_isQuantifier_sat q) (S ?_)
   refine ah cs h (fun cs h=>S ?_) fun cs h=>S ?_
   refine run_bk h fun v68 q h=>aj [false] (impl_isZeroTerm_sat q) (S ?_)
   refine ah cs h (fun cs h=>S ?_) fun cs h=>S ?_
   rotate_left 2
   refine ah cs h (fun cs h=>S ?_) fun cs h=>S ?_
   refine run_bk h fun v68 q h=>aj [false] (impl_isZeroTerm_sat q) (S ?_)
   refine ah cs h (fun cs h=>S ?_) fun cs h=>S ?_
   rotate_left 4
   refine run_bk h fun v44 q h=>aj [false] (impl_isQuantifier_sat q) (S ?_)
   refine ah cs h (fun cs h=>S ?_) fun cs h=>S ?_
   refine run_bk h fun v68 q h=>aj [false] (impl_isZeroTerm_sat q) (S ?_)
   refine ah cs h (fun cs h=>S ?_) fun cs h=>S ?_
   rotate_left 2
   refine ah cs h (fun cs h=>S ?_) fun cs h=>S ?_
   refine run_bk h fun v68 q h=>aj [false] (impl_isZeroTerm_sat q) (S ?_)
   refine ah cs h (fun cs h=>S ?_) fun cs h=>S ?_
   rotate_left
   ·exact al h
   ·exact al h
   ·exact al h
   ·exact al h
   rotate_left
   ·exact al h
   rotate_left
   ·exact al h
   rotate_left
   ·exact al h
   rotate_left
   ·exact al h
   ·exact al h
   ·exact al h
   rotate_left
   ·exact al h
   rotate_left
   ·exact al h
   rotate_left
   ·exact al h
   rotate_left
   ·exact al h
   ·exact al h
   ·exact al h
   rotate_left
   ·exact al h
   rotate_left
   ·exact al h
   rotate_left
   ·exact al h
   rotate_left
   ·exact al h
   ·exact al h
   ·exact al h
   rotate_left
   ·exact al h
   rotate_left
   ·exact al h
   rotate_left
   ·exact al h
   rotate_left
   ·exact al h
   ·exact al h
   ·exact al h
   rotate_left
   ·exact al h
   rotate_left
   ·exact al h
   ·exact al h
   ·exact al h
   rotate_left
   ·exact al h
   rotate_left
   ·exact al h
   ·exact al h
   ·exact al h
   rotate_left
   ·exact al h
   rotate_left
   ·exact al h
   ·exact al h
   ·exact al h
   rotate_left
   ·exact al h
   rotate_left
   ·exact al h
   ·exact al h
   ·exact al h
   rotate_left
   ·exact al h
   rotate_left
   ·exact al h
   ·exact al h
   ·exact al h
   rotate_left
   ·exact al h
   rotate_left
   ·exact al h
   ·exact al h
   ·exact al h
   rotate_left
   ·exact al h
   rotate_left
   ·exact al h
   ·exact al h
   ·exact al h
   rotate_left
   ·exact al h
   all_goals
    refine run_bk h fun v74 q h=>aj [false,false] (slices_ContainsFunc_Simpl_Formula_impl_Formula_sat (fun _ _ hh=>ih.2 _ _ hh) (by simp only[CapsOk_nil,CapsOk_cons]) q) (S ?_)
    exact al h
  ·obtain⟨h,cs⟩:=ao h
   rw[impl_hasForm_1N] at h
   refine aq 6 [.tmp 2] Tryz.func127 (h:=S ?_)
   refine run_bk h fun v4 q h=>aj [false] (ih.1 _ _ q) (S ?_)
   exact al h
theorem impl_hasForm_sat{a0:Ft}{r:Bool}(h:impl_hasForm a0=some r):Sat ag 85 [((am false) a0)] (B r):=by
 obtain⟨n,hn⟩:=lim_some h
 exact(impl_hasFormN_sat n).1 _ _ hn
theorem impl_hasForm_1_sat{a0:Ft}{r:Bool}(h:impl_hasForm_1 a0=some r):Sat ag 127 [((am false) a0)] (B r):=by
 obtain⟨n,hn⟩:=lim_some h
 exact(impl_hasFormN_sat n).2 _ _ hn

theorem impl_IsValidFormula_sat{a0:Ft}  {r:Bool}(h:impl_IsValidFormula a0=some r):Sat ag 43 [((am false) a0)] (B r):=by
 obtain⟨h,cs⟩:=ao h
 unfold impl_IsValidFormula at h
 refine aq 10 [.tmp 2] Tryz.func43 (h:=S ?_)
 refine run_bk h fun v4 q h=>aj [false] (impl_sizeOf_sat q) (S ?_)
 refine ah cs h (fun cs h=>S ?_) fun cs h=>S ?_
 ·refine run_bk h fun v8 q h=>aj [false] (impl_hasForm_sat q) (S ?_)
  exact al h
 ·exact al h

theorem impl_copyTermN_sat(n:Nat):(∀ (a0:Tt) (r:Tt),impl_copyTermN n a0=some r→Sat ag 158 [((ar false) a0)] ((ar true) r))∧(∀ (a0:List Tt) (r:List Tt),impl_copyTermsN n a0=some r→Sat ag 182 [(.sl false 2 (a0.map (ar false)))] (.sl true 2 (r.map (ar true)))):=by
 induction n with
 | zero=>exact⟨fun _ _ h=>by simp[impl_copyTermN] at h,fun _ _ h=>by simp[impl_copyTermsN] at h⟩
 | succ n ih=>
  refine⟨fun a0 r h=>?_,fun a0 r h=>?_⟩
  ·obtain⟨h,cs⟩:=ao h
   rw[impl_copyTermN] at h
   refine aq 9 [.cell 2 40] Tryz.func158 (h:=S ?_)
   refine run_bk h fun v7 q h=>aj [false] (ih.2 _ _ q) (S ?_)
   refine ae (aY [] [112]) (S ?_)
   exact al h
  ·obtain⟨h,cs⟩:=ao h
   rw[impl_copyTermsN] at h
   refine aq 26 [.tmp 2] Tryz.func182 (h:=S ?_)
   refine ah cs h (fun cs h=>S ?_) fun cs h=>S ?_
   ·exact al h
   ·refine run_bk h fun n11 q h=>MknH.mk q (S ?_)
    refine aS (b:=false) (sz:=2) (es:=a0.map (ar false)) 0 SC fun hl0=>?_; rw[aF] at hl0
    refine aJ (run_loop h) (fun i5 s5=>[(3,.val (.own 176)),(12,.val (.pv (.sl false 2 (a0.map (ar false))))),(13,.val (.pv (I (a0.length:Int)))),(14,.val (.pv (I (i5:Int))))]) (fun i5 s5=>[(176,(2,s5.map (ar true)))]) (aw SC) (fun i5 s5 hi h=>?_) (fun s5 h=>?_)
    ·have w:=wrap_s2 i5
     refine S ?_
     refine aG cs fun cs=>S ?_
     refine run_bk h fun v17 q h=>au (ar false) q (S ?_)
     refine run_bk h fun v22 q h=>aj [false] (ih.1 _ _ q) (S ?_)
     refine run_bk h fun v23 q h=>au (ar true) q (S ?_)
     refine run_bk h fun w3 q h=>EldH.c (ar true) q (S ?_)
     exact aK h
    ·refine S ?_
     refine aH cs fun cs=>S ?_
     exact al h
theorem impl_copyTerm_sat{a0:Tt}{r:Tt}(h:impl_copyTerm a0=some r):Sat ag 158 [((ar false) a0)] ((ar true) r):=by
 obtain⟨n,hn⟩:=lim_some h
 exact(impl_copyTermN_sat n).1 _ _ hn
theorem impl_copyTerms_sat{a0:List Tt}{r:List Tt}(h:impl_copyTerms a0=some r):Sat ag 182 [(.sl false 2 (a0.map (ar false)))] (.sl true 2 (r.map (ar true))):=by
 obtain⟨n,hn⟩:=lim_some h
 exact(impl_copyTermN_sat n).2 _ _ hn

theorem impl_mapParts_sat{a0:Ft}{a1:Ft→Option Ft}{a1_id:FuncId}{a1_cs:List PV}(a1_ok:∀ y0 r,a1 y0=some r→Sat ag a1_id (((am false) y0)::a1_cs) ((am true) r))(a1_cz:CapsOk a1_cs=True){r:Ft}(h:impl_mapParts a0 a1=some r):Sat ag 128 [((am false) a0),.clo a1_id a1_cs] ((am true) r):=by
 obtain⟨h,cs⟩:=ao h
 unfold impl_mapParts at h
 have cs:=ae a1_cz cs
 refine aq 33 [.cell 4 42] Tryz.func128 (h:=S ?_)
 refine run_bk h fun v12 q h=>aj [false] (impl_copyTerm_sat q) (S ?_)
 refine ae (aY [5] [192]) (S ?_)
 refine aS (b:=false) (sz:=5) (es:=a0.Parts.map (am false)) 17 SC fun hl17=>?_; rw[aF] at hl17
 refine aJ (run_loop h) (fun i3 s3=>[(1,.val (.pv (.clo a1_id a1_cs))),(4,.box zab0),(5,.box (.node [(.pv (I a0.Op)),(.node [(.pv (Sx v12.Name)),(.own 192)]),(.pv (Sx a0.Var)),(.own 9309)])),(17,.val (.pv (.sl false 5 (a0.Parts.map (am false))))),(18,.val (.pv (I (a0.Parts.length:Int)))),(19,.val (.pv (I (i3:Int))))]) (fun i3 s3=>[(192,(2,v12.Args.map (ar true))),(9309,(5,s3.map (am true)))]) (St.le_trans (St.le_nilB (x:=(.node [(.pv (I a0.Op)),(.node [(.pv (Sx v12.Name)),(.own 192)]),(.pv (Sx a0.Var)),(.pv (.sl true 5 []))])) 5 [3] 9309 5 NM SC SC SC) (aw SC)) (fun i3 s3 hi h=>?_) (fun s3 h=>?_)
 ·have w:=wrap_s2 i3
  refine S ?_
  refine aG cs fun cs=>S ?_
  refine run_bk h fun v21 q h=>au (am false) q (S ?_)
  refine run_bk h fun v27 q h=>aj [false] (a1_ok _ _ q) (S ?_)
  refine run_bk h fun v29 q h=>aU (am true) (fun a=>Ft.psize _ a) q (S ?_)
  refine ae (aY [] [432,433,448,464]) (S ?_)
  have h:=run_some h
  refine aX ⟨_,h,?_⟩
  refine bd 464 9309 ?_
  exact aw SWx
 ·refine S ?_
  refine aH cs fun cs=>S ?_
  exact al h

theorem impl_copyFormulaN_sat(n:Nat):(∀ (a0:Ft) (r:Ft),impl_copyFormulaN n a0=some r→Sat ag 86 [((am false) a0)] ((am true) r)):=by
 induction n with
 | zero=>exact fun _ _ h=>by simp[impl_copyFormulaN] at h
 | succ n ih=>
  refine fun a0 r h=>?_
  obtain⟨h,cs⟩:=ao h
  rw[impl_copyFormulaN] at h
  refine aq 5 [.cell 2 42] Tryz.func86 (h:=S ?_)
  refine run_bk h fun v4 q h=>aj [false,false] (impl_mapParts_sat (fun _ _ hh=>ih _ _ hh) (by simp only[CapsOk_nil,CapsOk_cons]) q) (S ?_)
  exact al h
theorem impl_copyFormula_sat{a0:Ft}{r:Ft}(h:impl_copyFormula a0=some r):Sat ag 86 [((am false) a0)] ((am true) r):=by
 obtain⟨n,hn⟩:=lim_some h
 exact(impl_copyFormulaN_sat n) _ _ hn

theorem impl_copyFormulas_sat{a0:List Ft}  {r:List Ft}(h:impl_copyFormulas a0=some r):Sat ag 44 [(.sl false 5 (a0.map (am false)))] (.sl true 5 (r.map (am true))):=by
 obtain⟨h,cs⟩:=ao h
 unfold impl_copyFormulas at h
 refine aq 20 [.tmp 2] Tryz.func44 (h:=S ?_)
 refine aS (b:=false) (sz:=5) (es:=a0.map (am false)) 0 SC fun hl0=>?_; rw[aF] at hl0
 refine aJ (run_loop h) (fun i3 s3=>[(3,.val (.own 96)),(7,.val (.pv (.sl false 5 (a0.map (am false))))),(8,.val (.pv (I (a0.length:Int)))),(9,.val (.pv (I (i3:Int))))]) (fun i3 s3=>[(96,(5,s3.map (am true)))]) (aw SC) (fun i3 s3 hi h=>?_) (fun s3 h=>?_)
 ·have w:=wrap_s2 i3
  refine S ?_
  refine aG cs fun cs=>S ?_
  refine run_bk h fun v11 q h=>au (am false) q (S ?_)
  refine run_bk h fun v15 q h=>aj [false] (impl_copyFormula_sat q) (S ?_)
  refine run_bk h fun v17 q h=>aU (am true) (fun a=>Ft.psize _ a) q (S ?_)
  have h:=run_some h
  refine aX ⟨_,h,?_⟩
  refine bd 272 96 ?_
  exact aw SWx
 ·refine S ?_
  refine aH cs fun cs=>S ?_
  exact al h

theorem impl_StepInterpolants_sat{a0:List (List Int)}{a1:List Pt}{a2:Int}{a3:Int}  {r:(List Ft)×Bool}(h:impl_StepInterpolants a0 a1 a2 a3=some r):Sat ag 11 [(.sl false 1 (a0.map (Lv false 1 I))),(.sl false 4 (a1.map (aN false))),(I a2),(I a3)] (.tup [(.sl true 5 (r.1.map (am true))),(B r.2)]):=by
 obtain⟨h,cs⟩:=ao h
 unfold impl_StepInterpolants at h
 refine Sat.of_mi (nt:=85) (rs:=[.tmp 8,.tmp 9]) (n:=100000) Tryz.func11 rfl rfl rfl rfl (by simp) (S ?_)
 refine aC (S ?_)
 refine aC (S ?_)
 refine bj (Nat.le_of_eq rfl) (S ?_)
 refine aC (S ?_)
 refine aC (S ?_)
 refine aC (S ?_)
 refine run_bk h fun v18 q h=>aj [false,false] (impl_isPropRefutation_sat q) (S ?_)
 refine aC (S ?_)
 refine aC (S ?_)
 refine aC (S ?_)
 refine ah cs h (fun cs h=>S ?_) fun cs h=>S ?_
 ·refine aC (S ?_)
  refine aC (S ?_)
  refine run_bk h fun v23 q h=>aj [false,false] (impl_isSplit_sat q) (S ?_)
  refine aC (S ?_)
  refine aC (S ?_)
  refine aC (S ?_)
  refine aC (S ?_)
  refine ah cs h (fun cs h=>S ?_) fun cs h=>S ?_
  ·refine aC (S ?_)
   refine run_bk h fun v28 q h=>aj [false,false,false] (impl_within_sat q) (S ?_)
   refine aC (S ?_)
   refine aC (S ?_)
   refine bj (Nat.le_of_eq rfl) (S ?_)
   refine ah cs h (fun cs h=>S ?_) fun cs h=>S ?_
   ·refine aC (S ?_)
    refine aC (S ?_)
    refine aC (S ?_)
    refine aC (S ?_)
    refine aC (S ?_)
    refine aC (S ?_)
    refine run_bk h fun v36 q h=>aj [false,false] (Sat.vwOf (res':=(.sl false 1 (v36.map I))) (impl_colors_sat q) (by simp only[view_tup,view_sl,view_agg,view_lit,aA,RB,RS])) (S ?_)
    refine aC (S ?_)
    refine aC (S ?_)
    refine VSeq.weaken (St.le_frz (x:=(.node [(.pv (.sl false 1 (a0.map (Lv false 1 I)))),(.pv (I a2)),(.pv (I a3)),(.pv (.sl false 1 (v36.map I)))])) 38 SC) (S ?_)
    refine aC (S ?_)
    refine bj (Nat.le_of_eq rfl) (S ?_)
    refine aC (S ?_)
    refine aC (S ?_)
    refine bj (Nat.le_of_eq rfl) (S ?_)
    refine aC (S ?_)
    refine aC (S ?_)
    refine aC (S ?_)
    refine bj (Nat.le_of_eq rfl) (S ?_)
    refine MgI.know_sl (b:=false) (sz:=1) (es:=a0.map (Lv false 1 I)) 0 SC fun hl0=>?_; rw[aF] at hl0
    replace h:=run_loop h
    refine MgI.forN h (fun i6 s6=>[(0,.val (.pv (.sl false 1 (a0.map (Lv false 1 I))))),(1,.val (.pv (.sl false 4 (a1.map (aN false))))),(10,.val (.pv (.ptr (.agg [(.sl false 1 (a0.map (Lv false 1 I))),(I a2),(I a3),(.sl false 1 (v36.map I))])))),(11,.val (.own 624)),(41,.val (.pv (I (a0.length:Int)))),(42,.val (.pv (I (i6:Int))))]) (fun i6 s6=>[(624,(5,s6.map (am false)))]) (aw SC) (fun i6 s6 hi h=>?_) (fun s6 h=>?_)
    ·have w:=wrap_s2 i6
     refine S ?_
     refine aC (S ?_)
     refine bj (Nat.le_of_eq rfl) (S ?_)
     refine aG cs fun cs=>S ?_
     refine aC (S ?_)
     refine aC (S ?_)
     refine bj (Nat.le_of_eq rfl) (S ?_)
     refine aC (S ?_)
     refine aC (S ?_)
     refine aC (S ?_)
     refine aC (S ?_)
     refine run_bk h fun v48 q h=>aj [false,false] (impl_interpolation__ofClause_sat q) (S ?_)
     refine aC (S ?_)
     refine aC (S ?_)
     refine run_bk h fun v50 q h=>aU (am false) (fun a=>Ft.psize _ a) q (S ?_)
     refine aC (S ?_)
     refine bj (Nat.le_of_eq rfl) (S ?_)
     refine aC (S ?_)
     refine aC (S ?_)
     refine bj (Nat.le_of_eq rfl) (S ?_)
     have h:=run_some h
     refine aX ⟨_,h,?_⟩
     refine bd 800 624 ?_
     exact aw SWx
    ·refine S ?_
     refine aC (S ?_)
     refine bj (Nat.le_of_eq rfl) (S ?_)
     refine aH cs fun cs=>S ?_
     refine aC (S ?_)
     refine aC (S ?_)
     refine aC (S ?_)
     refine bj (Nat.le_of_eq rfl) (S ?_)
     refine MgI.know_sl (b:=false) (sz:=4) (es:=a1.map (aN false)) 1 SC fun hl1=>?_; rw[aF] at hl1
     replace h:=run_loop h
     refine MgI.forN h (fun i11 s11=>[(0,.val (.pv (.sl false 1 (a0.map (Lv false 1 I))))),(10,.val (.pv (.ptr (.agg [(.sl false 1 (a0.map (Lv false 1 I))),(I a2),(I a3),(.sl false 1 (v36.map I))])))),(11,.val (.own 624)),(52,.val (.pv (.sl false 4 (a1.map (aN false))))),(53,.val (.pv (I (a1.length:Int)))),(54,.val (.pv (I (i11:Int))))]) (fun i11 s11=>[(624,(5,s11.map (am false)))]) (aw SC) (fun i11 s11 hi h=>?_) (fun s11 h=>?_)
     ·have w:=wrap_s2 i11
      refine S ?_
      refine aC (S ?_)
      refine bj (Nat.le_of_eq rfl) (S ?_)
      refine aG cs fun cs=>S ?_
      refine aC (S ?_)
      refine run_bk h fun v56 q h=>au (aN false) q (S ?_)
      refine aC (S ?_)
      refine aC (S ?_)
      refine aC (S ?_)
      refine bj (Nat.le_of_eq rfl) (S ?_)
      refine run_bk h fun v64 q h=>au (am false) q (S ?_)
      refine run_bk h fun v65 q h=>EldH.c (am false) q (S ?_)
      refine run_bk h fun v69 q h=>au (am false) q (S ?_)
      refine run_bk h fun v70 q h=>EldH.c (am false) q (S ?_)
      refine run_bk h fun v71 q h=>aj [false,false,false,false] (impl_interpolation__ofStep_sat q) (S ?_)
      refine ae (aY [15] []) (S ?_)
      refine aC (S ?_)
      refine aC (S ?_)
      refine run_bk h fun v73 q h=>aj [false] (impl_IsValidFormula_sat q) (S ?_)
      refine aC (S ?_)
      refine bj (Nat.le_of_eq rfl) (S ?_)
      refine ah cs h (fun cs h=>S ?_) fun cs h=>S ?_
      ·refine aC (S ?_)
       refine aC (S ?_)
       refine aC (S ?_)
       refine aC (S ?_)
       refine run_bk h fun v78 q h=>aU (am false) (fun a=>Ft.psize _ a) q (S ?_)
       refine aC (S ?_)
       refine bj (Nat.le_of_eq rfl) (S ?_)
       refine aC (S ?_)
       refine aC (S ?_)
       refine bj (Nat.le_of_eq rfl) (S ?_)
       have h:=run_some h
       refine aX ⟨_,h,?_⟩
       refine bd 1248 624 ?_
       exact aw SWx
      ·refine aC (S ?_)
       refine aC (S ?_)
       refine bj (Nat.le_of_eq rfl) (S ?_)
       exact al h
     ·refine S ?_
      refine aC (S ?_)
      refine bj (Nat.le_of_eq rfl) (S ?_)
      refine aH cs fun cs=>S ?_
      refine aC (S ?_)
      refine aC (S ?_)
      refine aC (S ?_)
      refine VSeq.demV (x:=(.own 624)) (sz:=5) (es:=s11.map (am false)) 80 [] 624 SC (S ?_)
      refine aC (S ?_)
      refine run_bk h fun v83 q h=>SlcH.mk (f:=(am false)) q SC (S ?_)
      refine aC (S ?_)
      refine run_bk h fun v84 q h=>aj [false] (impl_copyFormulas_sat q) (S ?_)
      refine aC (S ?_)
      refine aC (S ?_)
      refine bj (Nat.le_of_eq rfl) (S ?_)
      exact al h
   ·refine aC (S ?_)
    refine aC (S ?_)
    refine bj (Nat.le_of_eq rfl) (S ?_)
    exact al h
  ·refine aC (S ?_)
   refine aC (S ?_)
   refine aC (S ?_)
   refine bj (Nat.le_of_eq rfl) (S ?_)
   refine aC (S ?_)
   refine aC (S ?_)
   refine bj (Nat.le_of_eq rfl) (S ?_)
   exact al h
 ·refine aC (S ?_)
  refine aC (S ?_)
  refine aC (S ?_)
  refine aC (S ?_)
  refine aC (S ?_)
  refine aC (S ?_)
  refine aC (S ?_)
  refine aC (S ?_)
  refine aC (S ?_)
  refine bj (Nat.le_of_eq rfl) (S ?_)
  refine aC (S ?_)
  refine aC (S ?_)
  refine bj (Nat.le_of_eq rfl) (S ?_)
  exact al h

theorem impl_Interpolant_sat{a0:List (List Int)}{a1:List Pt}{a2:Int}{a3:Int}  {r:Ft×Bool}(h:impl_Interpolant a0 a1 a2 a3=some r):Sat ag 20 [(.sl false 1 (a0.map (Lv false 1 I))),(.sl false 4 (a1.map (aN false))),(I a2),(I a3)] (.tup [((am true) r.1),(B r.2)]):=by
 obtain⟨h,cs⟩:=ao h
 unfold impl_Interpolant at h
 refine Sat.of_mf (nt:=29) (rs:=[.cell 8 42,.tmp 9]) (n:=100000) Tryz.func20 rfl rfl rfl rfl (by simp) (S ?_)
 refine MgF.reg (S ?_)
 refine MgF.reg (S ?_)
 refine run_bk h fun v17 q h=>aj [false,false,false,false] (impl_StepInterpolants_sat q) (S ?_)
 refine MgF.reg (S ?_)
 refine ah cs h (fun cs h=>S ?_) fun cs h=>S ?_
 ·refine MgF.vseq (S ?_)
  refine aC (S ?_)
  refine aC (S ?_)
  refine aC (S ?_)
  refine aC (S ?_)
  refine aC (S ?_)
  refine run_bk h fun v27 q h=>au (am true) q (S ?_)
  obtain⟨v28,hv28,h⟩:=run_bind h
  refine VSeq.takeX (c:=272) (sz:=5) (fx:=(am true)) (row:=.agg [(I v28.Op),.agg [(Sx v28.Atom.Name),.sl true 2 (v28.Atom.Args.map (ar true))],(Sx v28.Var),.sl true 5 (v28.Parts.map (am true))]) hv28 rfl rfl rfl rfl (by simp only[Ft.pv_u,Tt.pv_u]) rfl SC (fun _ e=>nomatch e) (S ?_)
  intro q28 hq28
  refine aC (S ?_)
  refine aC (S ?_)
  refine bj (Nat.le_of_eq rfl) (S ?_)
  exact al h
 ·refine MgF.reg (S ?_)
  exact al h

theorem spec_l15Steps_sat{a0:List (List Int)}{a1:List Pt}  {r:Bool}(h:spec_l15Steps a0 a1=some r):Sat ag 30 [(.sl false 1 (a0.map (Lv false 1 I))),(.sl false 4 (a1.map (aN false)))] (B r):=by
 obtain⟨h,cs⟩:=ao h
 unfold spec_l15Steps at h
 refine aq 12 [.tmp 4] Tryz.func30 (h:=S ?_)
 refine run_bk h fun v6 q h=>aj [false] (spec_l15Set_sat q) (S ?_)
 refine ah cs h (fun cs h=>S ?_) fun cs h=>S ?_
 ·refine run_bk h fun v10 q h=>aj [false,false,false] (spec_l1In_sat q) (S ?_)
  exact al h
 ·exact al h

theorem spec_l1Same_sat{a0:List Int}{a1:List Int}  {r:Bool}(h:spec_l1Same a0 a1=some r):Sat ag 65 [(.sl false 1 (a0.map I)),(.sl false 1 (a1.map I))] (B r):=by
 obtain⟨h,cs⟩:=ao h
 unfold spec_l1Same at h
 refine aq 26 [.tmp 4] Tryz.func65 (h:=S ?_)
 refine ah cs h (fun cs h=>S ?_) fun cs h=>S ?_
 ·refine aS (b:=false) (sz:=1) (es:=a0.map I) 0 SC fun hl0=>?_; rw[aF] at hl0
  refine aJ (run_loop h) (fun i4 s4=>[(0,.val (.pv (.sl false 1 (a0.map I)))),(1,.val (.pv (.sl false 1 (a1.map I)))),(5,.val (.pv (I (i4:Int))))]) (fun i4 s4=>[]) (aw SC) (fun i4 s4 hi h=>?_) (fun s4 h=>?_)
  ·have w:=wrap_s2 i4
   refine S ?_
   refine aG cs fun cs=>S ?_
   refine run_bk h fun v19 q h=>au I q (S ?_)
   refine run_bk h fun v23 q h=>au I q (S ?_)
   refine ae (aY [] []) (S ?_)
   refine ah cs h (fun cs h=>S ?_) fun cs h=>S ?_
   ·exact aK h
   ·exact al h
  ·refine S ?_
   refine aH cs fun cs=>S ?_
   exact al h
 ·exact al h

theorem spec_l15Check_sat{a0:List (List Int)}{a1:List Pt}  {r:Int}(h:spec_l15Check a0 a1=some r):Sat ag 31 [(.sl false 1 (a0.map (Lv false 1 I))),(.sl false 4 (a1.map (aN false)))] (I r):=by
 obtain⟨h,cs⟩:=ao h
 unfold spec_l15Check at h
 refine aq 85 [.tmp 4] Tryz.func31 (h:=S ?_)
 refine aS (b:=false) (sz:=4) (es:=a1.map (aN false)) 1 SC fun hl1=>?_; rw[aF] at hl1
 refine aJ (run_loop h) (fun i3 s3=>[(0,.val (.pv (.sl false 1 (a0.map (Lv false 1 I))))),(1,.val (.pv (.sl false 4 (a1.map (aN false))))),(5,.bptr 14 [] 0),(6,.val (.pv (I (i3:Int)))),(14,.box (.pv ((lc.pv false) s3)))]) (fun i3 s3=>[]) (St.le_trans (St.le_pkB (x:=(.node [(.pv (.sl false 1 (a0.map (Lv false 1 I)))),(.pv (.sl false 4 (a1.map (aN false))))])) 14 [] SC) (aw SC)) (fun i3 s3 hi h=>?_) (fun s3 h=>?_)
 ·have w:=wrap_s2 i3
  refine S ?_
  refine aG cs fun cs=>S ?_
  refine run_bk h fun v23 q h=>au (aN false) q (S ?_)
  refine run_bk h fun v33 q h=>aj [false,false,false] (spec_l1In_sat q) (S ?_)
  refine ah cs h (fun cs h=>S ?_) fun cs h=>S ?_
  refine run_bk h fun v40 q h=>aj [false,false,false] (spec_l1In_sat q) (S ?_)
  refine ah cs h (fun cs h=>S ?_) fun cs h=>S ?_
  refine run_bk h fun v46 q h=>aj [false,false,false] (spec_l1In_sat q) (S ?_)
  refine ah cs h (fun cs h=>S ?_) fun cs h=>S ?_
  obtain⟨v54,hv54,h⟩:=run_bind h
  refine aQ (r:=14) (hc:=.cv (.pv ((lc.pv false) s3))) 0 [] [_] [] [(.pv (I v23.Left))] [false] (spec_l15Proof__clause_sat hv54) rfl rfl rfl SC (S ?_)
  obtain⟨v58,hv58,h⟩:=run_bind h
  refine aQ (r:=14) (hc:=.cv (.pv ((lc.pv false) v54.2))) 0 [] [_] [] [(.pv (I v23.Right))] [false] (spec_l15Proof__clause_sat hv58) rfl rfl rfl SC (S ?_)
  refine run_bk h fun v61 q h=>aj [false,false,false] (spec_l15Resolve_sat q) (S ?_)
  refine ae (aY [] [976]) (S ?_)
  refine ah cs h (fun cs h=>S ?_) fun cs h=>S ?_
  refine run_bk h fun v70 q h=>aj [false,false] (spec_l1Same_sat q) (S ?_)
  refine ah cs h (fun cs h=>S ?_) fun cs h=>S ?_
  ·exact aK h
  all_goals
   exact al h
 ·refine S ?_
  refine aH cs fun cs=>S ?_
  refine run_bk h fun v78 q h=>au (aN false) q (S ?_)
  refine ah cs h (fun cs h=>S ?_) fun cs h=>S ?_
  ·exact al h
  ·exact al h

theorem spec_l20Occurs_sat{a0:List (List Int)}{a1:Int}  {r:Bool}(h:spec_l20Occurs a0 a1=some r):Sat ag 66 [(.sl false 1 (a0.map (Lv false 1 I))),(I a1)] (B r):=by
 obtain⟨h,cs⟩:=ao h
 unfold spec_l20Occurs at h
 refine aq 27 [.tmp 4] Tryz.func66 (h:=S ?_)
 refine aS (b:=false) (sz:=1) (es:=a0.map (Lv false 1 I)) 0 SC fun hl0=>?_; rw[aF] at hl0
 refine aJ (run_loop h) (fun i2 s2=>[(0,.val (.pv (.sl false 1 (a0.map (Lv false 1 I))))),(1,.val (.pv (I a1))),(5,.val (.pv (I (i2:Int))))]) (fun i2 s2=>[]) (aw SC) (fun i2 s2 hi h=>?_) (fun s2 h=>?_)
 ·have w:=wrap_s2 i2
  refine S ?_
  refine aG cs fun cs=>S ?_
  refine run_bk h fun v14 q h=>au (Lv false 1 I) q (S ?_)
  refine run_bk h fun v17 q h=>aj [false,false] (spec_l1Has_sat q) (S ?_)
  refine ah cs h (fun cs h=>S ?_) fun cs h=>S ?_
  ·exact al h
  ·refine run_bk h fun v21 q h=>au (Lv false 1 I) q (S ?_)
   refine run_bk h fun v25 q h=>aj [false,false] (spec_l1Has_sat q) (S ?_)
   refine ah cs h (fun cs h=>S ?_) fun cs h=>S ?_
   ·exact al h
   ·exact aK h
 ·refine S ?_
  refine aH cs fun cs=>S ?_
  exact al h

theorem spec_l1NumN_sat(n:Nat):(∀ (a0:Int) (r:ByteArray),spec_l1NumN n a0=some r→Sat ag 108 [(I a0)] (Sx r)):=by
 induction n with
 | zero=>exact fun _ _ h=>by simp[spec_l1NumN] at h
 | succ n ih=>
  refine fun a0 r h=>?_
  obtain⟨h,cs⟩:=ao h
  rw[spec_l1NumN] at h
  refine aq 25 [.tmp 2] Tryz.func108 (h:=S ?_)
  refine ah cs h (fun cs h=>S ?_) fun cs h=>S ?_
  ·refine run_bk h fun v7 q h=>aj [false] (ih _ _ q) (S ?_)
   refine run_bk h fun v8 q h=>SappH.mk q (S ?_)
   exact al h
  ·refine ah cs h (fun cs h=>S ?_) fun cs h=>S ?_
   ·refine run_bk h fun v14 q h=>SslcH.mk q (S ?_)
    exact al h
   ·refine run_bk h fun v16 q h=>quoH.mk q (S ?_)
    refine run_bk h fun v17 q h=>aj [false] (ih _ _ q) (S ?_)
    refine run_bk h fun v19 q h=>remH.mk q (S ?_)
    refine run_bk h fun v21 q h=>remH.mk q (S ?_)
    refine run_bk h fun v23 q h=>SslcH.mk q (S ?_)
    refine run_bk h fun v24 q h=>SappH.mk q (S ?_)
    refine ae (aY [] []) (S ?_)
    exact al h
theorem spec_l1Num_sat{a0:Int}{r:ByteArray}(h:spec_l1Num a0=some r):Sat ag 108 [(I a0)] (Sx r):=by
 obtain⟨n,hn⟩:=lim_some h
 exact(spec_l1NumN_sat n) _ _ hn

theorem spec_l20Literal_sat{a0:Int}  {r:Ft}(h:spec_l20Literal a0=some r):Sat ag 70 [(I a0)] ((am true) r):=by
 obtain⟨h,cs⟩:=ao h
 unfold spec_l20Literal at h
 refine aq 16 [.cell 2 42] Tryz.func70 (h:=S ?_)
 refine run_bk h fun v5 q h=>aj [false] (spec_l15Abs_sat q) (S ?_)
 refine run_bk h fun v6 q h=>aj [false] (spec_l1Num_sat q) (S ?_)
 refine run_bk h fun v7 q h=>SappH.mk q (S ?_)
 refine ah cs h (fun cs h=>S ?_) fun cs h=>S ?_
 ·exact al h
 ·exact al h

theorem spec_l2OwnN_sat(n:Nat):(∀ (a0:Tt) (r:Tt),spec_l2OwnN n a0=some r→Sat ag 72 [((ar false) a0)] ((ar true) r)):=by
 induction n with
 | zero=>exact fun _ _ h=>by simp[spec_l2OwnN] at h
 | succ n ih=>
  refine fun a0 r h=>?_
  obtain⟨h,cs⟩:=ao h
  rw[spec_l2OwnN] at h
  refine aq 27 [.cell 2 40] Tryz.func72 (h:=S ?_)
  refine Mg.know_val2 (b:=false) (sz:=2) (es:=a0.Args.map (ar false)) (x:=(.pv ((ar false) a0))) 0 [1] SC fun hl0=>?_; rw[aF] at hl0
  refine aJ (run_loop h) (fun i3 s3=>[(1,.box (.pv ((ar false) a0))),(2,.box zab1),(3,.box (.node [(.pv (Sx a0.Name)),(.own 9309)])),(4,.val (.pv (I (i3:Int))))]) (fun i3 s3=>[(9309,(2,s3.map (ar true)))]) (St.le_trans (St.le_nilB (x:=(.node [(.pv (Sx a0.Name)),(.pv (.sl true 2 []))])) 3 [1] 9309 2 NM SC SC SC) (aw SC)) (fun i3 s3 hi h=>?_) (fun s3 h=>?_)
  ·have w:=wrap_s2 i3
   refine S ?_
   refine aG cs fun cs=>S ?_
   refine run_bk h fun v20 q h=>au (ar false) q (S ?_)
   refine run_bk h fun v22 q h=>aj [false] (ih _ _ q) (S ?_)
   refine run_bk h fun v24 q h=>aU (ar true) (fun a=>Tt.psize _ a) q (S ?_)
   refine ae (aY [] [352,368,384]) (S ?_)
   have h:=run_some h
   refine aX ⟨_,h,?_⟩
   refine bd 384 9309 ?_
   exact aw SWx
  ·refine S ?_
   refine aH cs fun cs=>S ?_
   exact al h
theorem spec_l2Own_sat{a0:Tt}{r:Tt}(h:spec_l2Own a0=some r):Sat ag 72 [((ar false) a0)] ((ar true) r):=by
 obtain⟨n,hn⟩:=lim_some h
 exact(spec_l2OwnN_sat n) _ _ hn

theorem spec_l8OwnN_sat(n:Nat):(∀ (a0:Ft) (r:Ft),spec_l8OwnN n a0=some r→Sat ag 34 [((am false) a0)] ((am true) r)):=by
 induction n with
 | zero=>exact fun _ _ h=>by simp[spec_l8OwnN] at h
 | succ n ih=>
  refine fun a0 r h=>?_
  obtain⟨h,cs⟩:=ao h
  rw[spec_l8OwnN] at h
  refine aq 32 [.cell 2 42] Tryz.func34 (h:=S ?_)
  refine run_bk h fun v9 q h=>aj [false] (spec_l2Own_sat q) (S ?_)
  refine ae (aY [3] [144]) (S ?_)
  refine Mg.know_val2 (b:=false) (sz:=5) (es:=a0.Parts.map (am false)) (x:=(.pv ((am false) a0))) 0 [3] SC fun hl0=>?_; rw[aF] at hl0
  refine aJ (run_loop h) (fun i3 s3=>[(1,.box (.pv ((am false) a0))),(2,.box zab0),(3,.box (.node [(.pv (I a0.Op)),(.node [(.pv (Sx v9.Name)),(.own 144)]),(.pv (Sx a0.Var)),(.own 9309)])),(4,.val (.pv (I (i3:Int))))]) (fun i3 s3=>[(144,(2,v9.Args.map (ar true))),(9309,(5,s3.map (am true)))]) (St.le_trans (St.le_nilB (x:=(.node [(.pv (I a0.Op)),(.node [(.pv (Sx v9.Name)),(.own 144)]),(.pv (Sx a0.Var)),(.pv (.sl true 5 []))])) 3 [3] 9309 5 NM SC SC SC) (aw SC)) (fun i3 s3 hi h=>?_) (fun s3 h=>?_)
  ·have w:=wrap_s2 i3
   refine S ?_
   refine aG cs fun cs=>S ?_
   refine run_bk h fun v25 q h=>au (am false) q (S ?_)
   refine run_bk h fun v27 q h=>aj [false] (ih _ _ q) (S ?_)
   refine run_bk h fun v29 q h=>aU (am true) (fun a=>Ft.psize _ a) q (S ?_)
   refine ae (aY [] [432,433,448,464]) (S ?_)
   have h:=run_some h
   refine aX ⟨_,h,?_⟩
   refine bd 464 9309 ?_
   exact aw SWx
  ·refine S ?_
   refine aH cs fun cs=>S ?_
   exact al h
theorem spec_l8Own_sat{a0:Ft}{r:Ft}(h:spec_l8Own a0=some r):Sat ag 34 [((am false) a0)] ((am true) r):=by
 obtain⟨n,hn⟩:=lim_some h
 exact(spec_l8OwnN_sat n) _ _ hn

end Go.Proofs.YtmfpijomelhccaaGreatDoor
