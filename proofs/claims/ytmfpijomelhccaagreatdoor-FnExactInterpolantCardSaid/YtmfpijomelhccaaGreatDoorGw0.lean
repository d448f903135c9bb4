/- Lemmas of the proof; each says what it shows. -/
import Derived.Test.YtmfpijomelhccaaGreatDoorGm
import Derived.Test.YtmfpijomelhccaaGreatDoorGf
import Derived.Test.YtmfpijomelhccaaGreatDoorGsi
import Derived.Test.YtmfpijomelhccaaGreatDoorGbk
set_option linter.unusedSimpArgs false
set_option linter.unusedVariables false
set_option linter.defProp false
set_option maxRecDepth 4000
namespace Go.Proofs.YtmfpijomelhccaaGreatDoor
open Go.Av
open And renaming intro→ae
open CallH renaming c→aj
open CondH renaming run→ah,t3→aF,f3→aG
open DrawH renaming ak→aX
open FinH renaming zl→ai
open Ft renaming pv→am
open IdxH renaming c→au
open List renaming length_map→aD
open Mg renaming know_sl→aP,forN→aJ
open PV renaming views→aB
open Pt renaming pv→aE
open RdH renaming z→aK
open Run renaming of0→ap
open Sat renaming go→ar
open SidxH renaming mk→bd
open St renaming le_mk2→az,le_rt→bh
open Tryz renaming prog→ag
open Tt renaming pv→aq
set_option maxHeartbeats 4000000
theorem szIntS_sat{a0:List Int}{a1:Int}  {r:Int}(h:szIntS a0 a1=some r):Sat ag 28 [(.sl false 1 (a0.map I)),(I a1)] (I r):=by
 obtain⟨h,cs⟩:=ap h
 unfold szIntS at h
 refine ar 12 [.tmp 4] Tryz.func28 (h:=S ?_)
 refine ah cs h (fun cs h=>S ?_) fun cs h=>S ?_
 ·exact ai h
 ·exact ai h

theorem szIntSS_sat{a0:List (List Int)}{a1:Int}  {r:Int}(h:szIntSS a0 a1=some r):Sat ag 6 [(.sl false 1 (a0.map (Lv false 1 I))),(I a1)] (I r):=by
 obtain⟨h,cs⟩:=ap h
 unfold szIntSS at h
 refine ar 27 [.tmp 4] Tryz.func6 (h:=S ?_)
 refine ah cs h (fun cs h=>S ?_) fun cs h=>S ?_
 ·exact ai h
 ·refine aP (b:=false) (sz:=1) (es:=a0.map (Lv false 1 I)) 0 SC fun hl0=>?_; rw[aD] at hl0
  refine aJ (run_loop h) (fun i5 s5=>[(0,.val (.pv (.sl false 1 (a0.map (Lv false 1 I))))),(1,.val (.pv (I s5))),(5,.val (.pv (I (i5:Int))))]) (fun i5 s5=>[]) (az SC) (fun i5 s5 hi h=>?_) (fun s5 h=>?_)
  ·have w:=wrap_s2 i5
   refine S ?_
   refine aF cs fun cs=>S ?_
   refine run_bk h fun v20 q h=>au (Lv false 1 I) q (S ?_)
   refine run_bk h fun v23 q h=>aj [false,false] (szIntS_sat q) (S ?_)
   refine ah cs h (fun cs h=>S ?_) fun cs h=>S ?_
   ·exact ai h
   ·exact aK h
  ·refine S ?_
   refine aG cs fun cs=>S ?_
   exact ai h

theorem szPropStep_sat{a0:Pt}{a1:Int}  {r:Int}(h:szPropStep a0 a1=some r):Sat ag 29 [((aE false) a0),(I a1)] (I r):=by
 obtain⟨h,cs⟩:=ap h
 unfold szPropStep at h
 refine ar 12 [.tmp 4] Tryz.func29 (h:=S ?_)
 refine run_bk h fun v8 q h=>aj [false,false] (szIntS_sat q) (S ?_)
 refine ah cs h (fun cs h=>S ?_) fun cs h=>S ?_
 ·exact ai h
 ·exact ai h

theorem szPropStepS_sat{a0:List Pt}{a1:Int}  {r:Int}(h:szPropStepS a0 a1=some r):Sat ag 7 [(.sl false 4 (a0.map (aE false))),(I a1)] (I r):=by
 obtain⟨h,cs⟩:=ap h
 unfold szPropStepS at h
 refine ar 27 [.tmp 4] Tryz.func7 (h:=S ?_)
 refine ah cs h (fun cs h=>S ?_) fun cs h=>S ?_
 ·exact ai h
 ·refine aP (b:=false) (sz:=4) (es:=a0.map (aE false)) 0 SC fun hl0=>?_; rw[aD] at hl0
  refine aJ (run_loop h) (fun i5 s5=>[(0,.val (.pv (.sl false 4 (a0.map (aE false))))),(1,.val (.pv (I s5))),(5,.val (.pv (I (i5:Int))))]) (fun i5 s5=>[]) (az SC) (fun i5 s5 hi h=>?_) (fun s5 h=>?_)
  ·have w:=wrap_s2 i5
   refine S ?_
   refine aF cs fun cs=>S ?_
   refine run_bk h fun v20 q h=>au (aE false) q (S ?_)
   refine run_bk h fun v23 q h=>aj [false,false] (szPropStep_sat q) (S ?_)
   refine ah cs h (fun cs h=>S ?_) fun cs h=>S ?_
   ·exact ai h
   ·exact aK h
  ·refine S ?_
   refine aG cs fun cs=>S ?_
   exact ai h

theorem toIntS_sat{a0:List Int}  {r:List Int}(h:toIntS a0=some r):Sat ag 35 [(.sl false 1 (a0.map I))] (.sl true 1 (r.map I)):=by
 obtain⟨h,cs⟩:=ap h
 unfold toIntS at h
 refine ar 22 [.tmp 2] Tryz.func35 (h:=S ?_)
 refine run_bk h fun n7 q h=>MknH.mk q (S ?_)
 refine aP (b:=false) (sz:=1) (es:=a0.map I) 0 SC fun hl0=>?_; rw[aD] at hl0
 refine aJ (run_loop h) (fun i3 s3=>[(0,.val (.pv (.sl false 1 (a0.map I)))),(3,.val (.own 112)),(4,.val (.pv (I (i3:Int))))]) (fun i3 s3=>[(112,(1,s3.map I))]) (az SC) (fun i3 s3 hi h=>?_) (fun s3 h=>?_)
 ·have w:=wrap_s2 i3
  refine S ?_
  refine aF cs fun cs=>S ?_
  refine run_bk h fun v18 q h=>au I q (S ?_)
  refine run_bk h fun v20 q h=>au I q (S ?_)
  refine run_bk h fun w2 q h=>EldH.c I q (S ?_)
  exact aK h
 ·refine S ?_
  refine aG cs fun cs=>S ?_
  exact ai h

theorem toIntSS_sat{a0:List (List Int)}  {r:List (List Int)}(h:toIntSS a0=some r):Sat ag 9 [(.sl false 1 (a0.map (Lv false 1 I)))] (.sl true 1 (r.map (Lv true 1 I))):=by
 obtain⟨h,cs⟩:=ap h
 unfold toIntSS at h
 refine ar 23 [.tmp 2] Tryz.func9 (h:=S ?_)
 refine run_bk h fun n7 q h=>MknH.mk q (S ?_)
 refine aP (b:=false) (sz:=1) (es:=a0.map (Lv false 1 I)) 0 SC fun hl0=>?_; rw[aD] at hl0
 refine aJ (run_loop h) (fun i3 s3=>[(0,.val (.pv (.sl false 1 (a0.map (Lv false 1 I))))),(3,.val (.own 112)),(4,.val (.pv (I (i3:Int))))]) (fun i3 s3=>[(112,(1,s3.map (Lv true 1 I)))]) (az SC) (fun i3 s3 hi h=>?_) (fun s3 h=>?_)
 ·have w:=wrap_s2 i3
  refine S ?_
  refine aF cs fun cs=>S ?_
  refine run_bk h fun v18 q h=>au (Lv false 1 I) q (S ?_)
  refine run_bk h fun v20 q h=>aj [false] (toIntS_sat q) (S ?_)
  refine run_bk h fun v21 q h=>au (Lv true 1 I) q (S ?_)
  refine run_bk h fun w2 q h=>EldH.c (Lv true 1 I) q (S ?_)
  exact aK h
 ·refine S ?_
  refine aG cs fun cs=>S ?_
  exact ai h

theorem toPropStep_sat{a0:Pt}  {r:Pt}(h:toPropStep a0=some r):Sat ag 36 [((aE false) a0)] ((aE true) r):=by
 obtain⟨h,cs⟩:=ap h
 unfold toPropStep at h
 refine ar 18 [.cell 2 64] Tryz.func36 (h:=S ?_)
 refine run_bk h fun v15 q h=>aj [false] (toIntS_sat q) (S ?_)
 exact ai h

theorem toPropStepS_sat{a0:List Pt}  {r:List Pt}(h:toPropStepS a0=some r):Sat ag 10 [(.sl false 4 (a0.map (aE false)))] (.sl true 4 (r.map (aE true))):=by
 obtain⟨h,cs⟩:=ap h
 unfold toPropStepS at h
 refine ar 23 [.tmp 2] Tryz.func10 (h:=S ?_)
 refine run_bk h fun n7 q h=>MknH.mk q (S ?_)
 refine aP (b:=false) (sz:=4) (es:=a0.map (aE false)) 0 SC fun hl0=>?_; rw[aD] at hl0
 refine aJ (run_loop h) (fun i3 s3=>[(0,.val (.pv (.sl false 4 (a0.map (aE false))))),(3,.val (.own 112)),(4,.val (.pv (I (i3:Int))))]) (fun i3 s3=>[(112,(4,s3.map (aE true)))]) (az SC) (fun i3 s3 hi h=>?_) (fun s3 h=>?_)
 ·have w:=wrap_s2 i3
  refine S ?_
  refine aF cs fun cs=>S ?_
  refine run_bk h fun v18 q h=>au (aE false) q (S ?_)
  refine run_bk h fun v20 q h=>aj [false] (toPropStep_sat q) (S ?_)
  refine run_bk h fun v21 q h=>au (aE true) q (S ?_)
  refine run_bk h fun w2 q h=>EldH.c (aE true) q (S ?_)
  exact aK h
 ·refine S ?_
  refine aG cs fun cs=>S ?_
  exact ai h

theorem spec_l15Abs_sat{a0:Int}  {r:Int}(h:spec_l15Abs a0=some r):Sat ag 67 [(I a0)] (I r):=by
 obtain⟨h,cs⟩:=ap h
 unfold spec_l15Abs at h
 refine ar 8 [.tmp 2] Tryz.func67 (h:=S ?_)
 refine ah cs h (fun cs h=>S ?_) fun cs h=>S ?_
 ·exact ai h
 ·exact ai h

theorem spec_l1In_sat{a0:Int}{a1:Int}{a2:Int}  {r:Bool}(h:spec_l1In a0 a1 a2=some r):Sat ag 32 [(I a0),(I a1),(I a2)] (B r):=by
 obtain⟨h,cs⟩:=ap h
 unfold spec_l1In at h
 refine ar 15 [.tmp 6] Tryz.func32 (h:=S ?_)
 refine ah cs h (fun cs h=>S ?_) fun cs h=>S ?_
 ·exact ai h
 ·exact ai h

theorem spec_l15Clause_sat{a0:List Int}  {r:Bool}(h:spec_l15Clause a0=some r):Sat ag 103 [(.sl false 1 (a0.map I))] (B r):=by
 obtain⟨h,cs⟩:=ap h
 unfold spec_l15Clause at h
 refine ar 35 [.tmp 2] Tryz.func103 (h:=S ?_)
 refine aP (b:=false) (sz:=1) (es:=a0.map I) 0 SC fun hl0=>?_; rw[aD] at hl0
 refine aJ (run_loop h) (fun i2 s2=>[(0,.val (.pv (.sl false 1 (a0.map I)))),(3,.val (.pv (I (i2:Int))))]) (fun i2 s2=>[]) (az SC) (fun i2 s2 hi h=>?_) (fun s2 h=>?_)
 ·have w:=wrap_s2 i2
  refine S ?_
  refine aF cs fun cs=>S ?_
  refine run_bk h fun v12 q h=>au I q (S ?_)
  refine run_bk h fun v14 q h=>aj [false] (spec_l15Abs_sat q) (S ?_)
  refine run_bk h fun v15 q h=>aj [false,false,false] (spec_l1In_sat q) (S ?_)
  refine ah cs h (fun cs h=>S ?_) fun cs h=>S ?_
  ·refine ah cs h (fun cs h=>S ?_) fun cs h=>S ?_
   ·refine run_bk h fun v24 q h=>au I q (S ?_)
    refine run_bk h fun v26 q h=>aj [false] (spec_l15Abs_sat q) (S ?_)
    refine run_bk h fun v29 q h=>au I q (S ?_)
    refine run_bk h fun v31 q h=>aj [false] (spec_l15Abs_sat q) (S ?_)
    refine ae (aX [] []) (S ?_)
    refine ah cs h (fun cs h=>S ?_) fun cs h=>S ?_
    ·exact ai h
    ·exact aK h
   ·refine ae (aX [] []) (S ?_)
    exact aK h
  ·refine ae (aX [] []) (S ?_)
   exact ai h
 ·refine S ?_
  refine aG cs fun cs=>S ?_
  exact ai h

theorem spec_l15Set_sat{a0:List (List Int)}  {r:Bool}(h:spec_l15Set a0=some r):Sat ag 62 [(.sl false 1 (a0.map (Lv false 1 I)))] (B r):=by
 obtain⟨h,cs⟩:=ap h
 unfold spec_l15Set at h
 refine ar 23 [.tmp 2] Tryz.func62 (h:=S ?_)
 refine aP (b:=false) (sz:=1) (es:=a0.map (Lv false 1 I)) 0 SC fun hl0=>?_; rw[aD] at hl0
 refine aJ (run_loop h) (fun i2 s2=>[(0,.val (.pv (.sl false 1 (a0.map (Lv false 1 I))))),(3,.val (.pv (I (i2:Int))))]) (fun i2 s2=>[]) (az SC) (fun i2 s2 hi h=>?_) (fun s2 h=>?_)
 ·have w:=wrap_s2 i2
  refine S ?_
  refine aF cs fun cs=>S ?_
  refine ah cs h (fun cs h=>S ?_) fun cs h=>S ?_
  ·refine run_bk h fun v16 q h=>au (Lv false 1 I) q (S ?_)
   refine run_bk h fun v18 q h=>aj [false] (spec_l15Clause_sat q) (S ?_)
   refine ah cs h (fun cs h=>S ?_) fun cs h=>S ?_
   ·exact aK h
   ·exact ai h
  ·exact ai h
 ·refine S ?_
  refine aG cs fun cs=>S ?_
  exact ai h

theorem spec_l15Steps_sat{a0:List (List Int)}{a1:List Pt}  {r:Bool}(h:spec_l15Steps a0 a1=some r):Sat ag 30 [(.sl false 1 (a0.map (Lv false 1 I))),(.sl false 4 (a1.map (aE false)))] (B r):=by
 obtain⟨h,cs⟩:=ap h
 unfold spec_l15Steps at h
 refine ar 12 [.tmp 4] Tryz.func30 (h:=S ?_)
 refine run_bk h fun v6 q h=>aj [false] (spec_l15Set_sat q) (S ?_)
 refine ah cs h (fun cs h=>S ?_) fun cs h=>S ?_
 ·refine run_bk h fun v10 q h=>aj [false,false,false] (spec_l1In_sat q) (S ?_)
  exact ai h
 ·exact ai h

theorem spec_l15Proof__clause_sat{a0:lc}{a1:Int}  {r:(List Int)×lc}(h:spec_l15Proof__clause a0 a1=some r):SatH ag 64 [] [(I a1)] .ptr [] (.pv ((lc.pv false) a0)) (.pv ((lc.pv false) r.2)) (.sl false 1 (r.1.map I)):=by
 obtain⟨h,cs⟩:=ap h
 unfold spec_l15Proof__clause at h
 refine SatH.of_k (nt:=33) (rs:=[.tmp 4]) (n:=100000) 0 Tryz.func64 rfl rfl rfl rfl rfl (Nat.le_of_ble_eq_true rfl) (by decide) (by first | exact Nat.le_of_ble_eq_true rfl | exact SC) (S ?_)
 refine ah cs h (fun cs h=>S ?_) fun cs h=>S ?_
 ·refine run_bk h fun v17 q h=>au (Lv false 1 I) q (S ?_)
  cases run_some h
  exact RetHB.r SC
 ·refine run_bk h fun v30 q h=>au (aE false) q (S ?_)
  refine ae (aX [] []) (S ?_)
  cases run_some h
  exact RetHB.r SC

theorem spec_l1Has_sat{a0:List Int}{a1:Int}  {r:Bool}(h:spec_l1Has a0 a1=some r):Sat ag 104 [(.sl false 1 (a0.map I)),(I a1)] (B r):=by
 obtain⟨h,cs⟩:=ap h
 unfold spec_l1Has at h
 refine ar 18 [.tmp 4] Tryz.func104 (h:=S ?_)
 refine aP (b:=false) (sz:=1) (es:=a0.map I) 0 SC fun hl0=>?_; rw[aD] at hl0
 refine aJ (run_loop h) (fun i2 s2=>[(0,.val (.pv (.sl false 1 (a0.map I)))),(1,.val (.pv (I a1))),(5,.val (.pv (I (i2:Int))))]) (fun i2 s2=>[]) (az SC) (fun i2 s2 hi h=>?_) (fun s2 h=>?_)
 ·have w:=wrap_s2 i2
  refine S ?_
  refine aF cs fun cs=>S ?_
  refine run_bk h fun v14 q h=>au I q (S ?_)
  refine ah cs h (fun cs h=>S ?_) fun cs h=>S ?_
  ·exact ai h
  ·exact aK h
 ·refine S ?_
  refine aG cs fun cs=>S ?_
  exact ai h

theorem spec_l15Put_sat{a0:List Int}{a1:Int}  {r:List Int}(h:spec_l15Put a0 a1=some r):Sat ag 105 [(.sl false 1 (a0.map I)),(I a1)] (.sl true 1 (r.map I)):=by
 obtain⟨h,cs⟩:=ap h
 unfold spec_l15Put at h
 refine ar 34 [.tmp 4] Tryz.func105 (h:=S ?_)
 refine aP (b:=false) (sz:=1) (es:=a0.map I) 0 SC fun hl0=>?_; rw[aD] at hl0
 refine aJ (run_loop h) (fun i2 s2=>[(0,.val (.pv (.sl false 1 (a0.map I)))),(1,.val (.pv (I a1))),(5,.val (.pv (I (i2:Int))))]) (fun i2 s2=>[]) (az SC) (fun i2 s2 hi h=>?_) (fun s2 h=>?_)
 ·have w:=wrap_s2 i2
  refine S ?_
  refine aF cs fun cs=>S ?_
  refine run_bk h fun v13 q h=>au I q (S ?_)
  refine run_bk h fun v15 q h=>aj [false] (spec_l15Abs_sat q) (S ?_)
  refine run_bk h fun v17 q h=>aj [false] (spec_l15Abs_sat q) (S ?_)
  refine ah cs h (fun cs h=>S ?_) fun cs h=>S ?_
  ·exact aK h
  ·refine run_bk h fun v25 q h=>SlcH.mk (f:=I) q SC (S ?_)
   refine run_bk h fun v26 q h=>AppH.c I (fun _=>rfl) q (S ?_)
   refine run_bk h fun v29 q h=>AppH.c I (fun _=>rfl) q (S ?_)
   refine run_bk h fun v32 q h=>SlcH.mk (f:=I) q SC (S ?_)
   refine run_bk h fun v33 q h=>AppH.c I (fun _=>rfl) q (S ?_)
   refine ae (aX [] [352,416,448,464,528]) (S ?_)
   exact ai h
 ·refine S ?_
  refine aG cs fun cs=>S ?_
  refine run_bk h fun v25 q h=>SlcH.mk (f:=I) q SC (S ?_)
  refine run_bk h fun v26 q h=>AppH.c I (fun _=>rfl) q (S ?_)
  refine run_bk h fun v29 q h=>AppH.c I (fun _=>rfl) q (S ?_)
  refine run_bk h fun v32 q h=>SlcH.mk (f:=I) q SC (S ?_)
  refine run_bk h fun v33 q h=>AppH.c I (fun _=>rfl) q (S ?_)
  refine ae (aX [] [352,416,448,464,528]) (S ?_)
  exact ai h

theorem spec_l15Resolve_sat{a0:List Int}{a1:List Int}{a2:Int}  {r:(List Int)×Bool}(h:spec_l15Resolve a0 a1 a2=some r):Sat ag 63 [(.sl false 1 (a0.map I)),(.sl false 1 (a1.map I)),(I a2)] (.tup [(.sl true 1 (r.1.map I)),(B r.2)]):=by
 obtain⟨h,cs⟩:=ap h
 unfold spec_l15Resolve at h
 refine ar 79 [.tmp 6,.tmp 7] Tryz.func63 (h:=S ?_)
 refine run_bk h fun v13 q h=>aj [false,false] (spec_l1Has_sat q) (S ?_)
 refine ah cs h (fun cs h=>S ?_) fun cs h=>S ?_
 refine run_bk h fun v19 q h=>aj [false,false] (spec_l1Has_sat q) (S ?_)
 refine ah cs h (fun cs h=>S ?_) fun cs h=>S ?_
 ·refine aP (b:=false) (sz:=1) (es:=a0.map I) 0 SC fun hl0=>?_; rw[aD] at hl0
  refine aJ (run_loop h) (fun i5 s5=>[(0,.val (.pv (.sl false 1 (a0.map I)))),(1,.val (.pv (.sl false 1 (a1.map I)))),(2,.val (.pv (I a2))),(8,.val (.own 368)),(9,.val (.pv (I (i5:Int))))]) (fun i5 s5=>[(368,(1,s5.map I))]) (az SC) (fun i5 s5 hi h=>?_) (fun s5 h=>?_)
  ·have w:=wrap_s2 i5
   refine S ?_
   refine aF cs fun cs=>S ?_
   refine run_bk h fun v32 q h=>au I q (S ?_)
   refine ah cs h (fun cs h=>S ?_) fun cs h=>S ?_
   ·exact aK h
   ·refine run_bk h fun v39 q h=>au I q (S ?_)
    refine run_bk h fun v42 q h=>AppH.c I (fun _=>rfl) q (S ?_)
    have h:=run_some h
    refine RdH.mk ⟨_,h,?_⟩
    refine bh 672 368 ?_
    exact az SWx
  ·refine S ?_
   refine aG cs fun cs=>S ?_
   refine aP (b:=false) (sz:=1) (es:=a1.map I) 1 SC fun hl1=>?_; rw[aD] at hl1
   refine aJ (run_loop h) (fun i10 s10=>[(1,.val (.pv (.sl false 1 (a1.map I)))),(2,.val (.pv (I a2))),(8,.val (.own 368)),(10,.val (.pv (I (i10:Int))))]) (fun i10 s10=>[(368,(1,s10.map I))]) (az SC) (fun i10 s10 hi h=>?_) (fun s10 h=>?_)
   ·have w:=wrap_s2 i10
    refine S ?_
    refine aF cs fun cs=>S ?_
    refine run_bk h fun v51 q h=>au I q (S ?_)
    refine ah cs h (fun cs h=>S ?_) fun cs h=>S ?_
    ·exact aK h
    ·refine run_bk h fun v60 q h=>au I q (S ?_)
     refine run_bk h fun v62 q h=>aj [false,false] (spec_l1Has_sat q) (S ?_)
     refine ah cs h (fun cs h=>S ?_) fun cs h=>S ?_
     ·exact aK h
     ·refine run_bk h fun v67 q h=>au I q (S ?_)
      refine run_bk h fun v70 q h=>aj [false,false] (spec_l1Has_sat q) (S ?_)
      refine ah cs h (fun cs h=>S ?_) fun cs h=>S ?_
      ·exact ai h
      ·refine run_bk h fun v75 q h=>au I q (S ?_)
       refine run_bk h fun v77 q h=>aj [false,false] (spec_l15Put_sat q) (S ?_)
       have h:=run_some h
       refine RdH.mk ⟨_,h,?_⟩
       refine bh 1232 368 ?_
       exact az SWx
   ·refine S ?_
    refine aG cs fun cs=>S ?_
    exact ai h
 all_goals
  exact ai h

theorem spec_l1Same_sat{a0:List Int}{a1:List Int}  {r:Bool}(h:spec_l1Same a0 a1=some r):Sat ag 65 [(.sl false 1 (a0.map I)),(.sl false 1 (a1.map I))] (B r):=by
 obtain⟨h,cs⟩:=ap h
 unfold spec_l1Same at h
 refine ar 26 [.tmp 4] Tryz.func65 (h:=S ?_)
 refine ah cs h (fun cs h=>S ?_) fun cs h=>S ?_
 ·refine aP (b:=false) (sz:=1) (es:=a0.map I) 0 SC fun hl0=>?_; rw[aD] at hl0
  refine aJ (run_loop h) (fun i4 s4=>[(0,.val (.pv (.sl false 1 (a0.map I)))),(1,.val (.pv (.sl false 1 (a1.map I)))),(5,.val (.pv (I (i4:Int))))]) (fun i4 s4=>[]) (az SC) (fun i4 s4 hi h=>?_) (fun s4 h=>?_)
  ·have w:=wrap_s2 i4
   refine S ?_
   refine aF cs fun cs=>S ?_
   refine run_bk h fun v19 q h=>au I q (S ?_)
   refine run_bk h fun v23 q h=>au I q (S ?_)
   refine ae (aX [] []) (S ?_)
   refine ah cs h (fun cs h=>S ?_) fun cs h=>S ?_
   ·exact aK h
   ·exact ai h
  ·refine S ?_
   refine aG cs fun cs=>S ?_
   exact ai h
 ·exact ai h

theorem spec_l15Check_sat{a0:List (List Int)}{a1:List Pt}  {r:Int}(h:spec_l15Check a0 a1=some r):Sat ag 31 [(.sl false 1 (a0.map (Lv false 1 I))),(.sl false 4 (a1.map (aE false)))] (I r):=by
 obtain⟨h,cs⟩:=ap h
 unfold spec_l15Check at h
 refine ar 85 [.tmp 4] Tryz.func31 (h:=S ?_)
 refine aP (b:=false) (sz:=4) (es:=a1.map (aE false)) 1 SC fun hl1=>?_; rw[aD] at hl1
 refine aJ (run_loop h) (fun i3 s3=>[(0,.val (.pv (.sl false 1 (a0.map (Lv false 1 I))))),(1,.val (.pv (.sl false 4 (a1.map (aE false))))),(5,.bptr 14 [] 0),(6,.val (.pv (I (i3:Int)))),(14,.box (.pv ((lc.pv false) s3)))]) (fun i3 s3=>[]) (St.le_trans (St.le_pkB (x:=(.node [(.pv (.sl false 1 (a0.map (Lv false 1 I)))),(.pv (.sl false 4 (a1.map (aE false))))])) 14 [] SC) (az SC)) (fun i3 s3 hi h=>?_) (fun s3 h=>?_)
 ·have w:=wrap_s2 i3
  refine S ?_
  refine aF cs fun cs=>S ?_
  refine run_bk h fun v23 q h=>au (aE false) q (S ?_)
  refine run_bk h fun v33 q h=>aj [false,false,false] (spec_l1In_sat q) (S ?_)
  refine ah cs h (fun cs h=>S ?_) fun cs h=>S ?_
  refine run_bk h fun v40 q h=>aj [false,false,false] (spec_l1In_sat q) (S ?_)
  refine ah cs h (fun cs h=>S ?_) fun cs h=>S ?_
  refine run_bk h fun v46 q h=>aj [false,false,false] (spec_l1In_sat q) (S ?_)
  refine ah cs h (fun cs h=>S ?_) fun cs h=>S ?_
  obtain⟨v54,hv54,h⟩:=run_bind h
  refine HandH.call (r:=14) (hc:=.cv (.pv ((lc.pv false) s3))) 0 [] [_] [] [(.pv (I v23.Left))] [false] (spec_l15Proof__clause_sat hv54) rfl rfl rfl SC (S ?_)
  obtain⟨v58,hv58,h⟩:=run_bind h
  refine HandH.call (r:=14) (hc:=.cv (.pv ((lc.pv false) v54.2))) 0 [] [_] [] [(.pv (I v23.Right))] [false] (spec_l15Proof__clause_sat hv58) rfl rfl rfl SC (S ?_)
  refine run_bk h fun v61 q h=>aj [false,false,false] (spec_l15Resolve_sat q) (S ?_)
  refine ae (aX [] [976]) (S ?_)
  refine ah cs h (fun cs h=>S ?_) fun cs h=>S ?_
  refine run_bk h fun v70 q h=>aj [false,false] (spec_l1Same_sat q) (S ?_)
  refine ah cs h (fun cs h=>S ?_) fun cs h=>S ?_
  ·exact aK h
  all_goals
   exact ai h
 ·refine S ?_
  refine aG cs fun cs=>S ?_
  refine run_bk h fun v78 q h=>au (aE false) q (S ?_)
  refine ah cs h (fun cs h=>S ?_) fun cs h=>S ?_
  ·exact ai h
  ·exact ai h

theorem spec_l20Occurs_sat{a0:List (List Int)}{a1:Int}  {r:Bool}(h:spec_l20Occurs a0 a1=some r):Sat ag 66 [(.sl false 1 (a0.map (Lv false 1 I))),(I a1)] (B r):=by
 obtain⟨h,cs⟩:=ap h
 unfold spec_l20Occurs at h
 refine ar 27 [.tmp 4] Tryz.func66 (h:=S ?_)
 refine aP (b:=false) (sz:=1) (es:=a0.map (Lv false 1 I)) 0 SC fun hl0=>?_; rw[aD] at hl0
 refine aJ (run_loop h) (fun i2 s2=>[(0,.val (.pv (.sl false 1 (a0.map (Lv false 1 I))))),(1,.val (.pv (I a1))),(5,.val (.pv (I (i2:Int))))]) (fun i2 s2=>[]) (az SC) (fun i2 s2 hi h=>?_) (fun s2 h=>?_)
 ·have w:=wrap_s2 i2
  refine S ?_
  refine aF cs fun cs=>S ?_
  refine run_bk h fun v14 q h=>au (Lv false 1 I) q (S ?_)
  refine run_bk h fun v17 q h=>aj [false,false] (spec_l1Has_sat q) (S ?_)
  refine ah cs h (fun cs h=>S ?_) fun cs h=>S ?_
  ·exact ai h
  ·refine run_bk h fun v21 q h=>au (Lv false 1 I) q (S ?_)
   refine run_bk h fun v25 q h=>aj [false,false] (spec_l1Has_sat q) (S ?_)
   refine ah cs h (fun cs h=>S ?_) fun cs h=>S ?_
   ·exact ai h
   ·exact aK h
 ·refine S ?_
  refine aG cs fun cs=>S ?_
  exact ai h

theorem spec_l1NumN_sat(n:Nat):(∀ (a0:Int) (r:ByteArray),spec_l1NumN n a0=some r→Sat ag 108 [(I a0)] (Sx r)):=by
 induction n with
 | zero=>exact fun _ _ h=>by simp[spec_l1NumN] at h
 | succ n ih=>
  refine fun a0 r h=>?_
  obtain⟨h,cs⟩:=ap h
  rw[spec_l1NumN] at h
  refine ar 25 [.tmp 2] Tryz.func108 (h:=S ?_)
  refine ah cs h (fun cs h=>S ?_) fun cs h=>S ?_
  ·refine run_bk h fun v7 q h=>aj [false] (ih _ _ q) (S ?_)
   refine run_bk h fun v8 q h=>SappH.mk q (S ?_)
   exact ai h
  ·refine ah cs h (fun cs h=>S ?_) fun cs h=>S ?_
   ·refine run_bk h fun v14 q h=>SslcH.mk q (S ?_)
    exact ai h
   ·refine run_bk h fun v16 q h=>quoH.mk q (S ?_)
    refine run_bk h fun v17 q h=>aj [false] (ih _ _ q) (S ?_)
    refine run_bk h fun v19 q h=>remH.mk q (S ?_)
    refine run_bk h fun v21 q h=>remH.mk q (S ?_)
    refine run_bk h fun v23 q h=>SslcH.mk q (S ?_)
    refine run_bk h fun v24 q h=>SappH.mk q (S ?_)
    refine ae (aX [] []) (S ?_)
    exact ai h
theorem spec_l1Num_sat{a0:Int}{r:ByteArray}(h:spec_l1Num a0=some r):Sat ag 108 [(I a0)] (Sx r):=by
 obtain⟨n,hn⟩:=lim_some h
 exact(spec_l1NumN_sat n) _ _ hn

theorem spec_l20Literal_sat{a0:Int}  {r:Ft}(h:spec_l20Literal a0=some r):Sat ag 70 [(I a0)] ((am true) r):=by
 obtain⟨h,cs⟩:=ap h
 unfold spec_l20Literal at h
 refine ar 16 [.cell 2 42] Tryz.func70 (h:=S ?_)
 refine run_bk h fun v5 q h=>aj [false] (spec_l15Abs_sat q) (S ?_)
 refine run_bk h fun v6 q h=>aj [false] (spec_l1Num_sat q) (S ?_)
 refine run_bk h fun v7 q h=>SappH.mk q (S ?_)
 refine ah cs h (fun cs h=>S ?_) fun cs h=>S ?_
 ·exact ai h
 ·exact ai h

theorem spec_l2OwnN_sat(n:Nat):(∀ (a0:Tt) (r:Tt),spec_l2OwnN n a0=some r→Sat ag 72 [((aq false) a0)] ((aq true) r)):=by
 induction n with
 | zero=>exact fun _ _ h=>by simp[spec_l2OwnN] at h
 | succ n ih=>
  refine fun a0 r h=>?_
  obtain⟨h,cs⟩:=ap h
  rw[spec_l2OwnN] at h
  refine ar 27 [.cell 2 40] Tryz.func72 (h:=S ?_)
  refine Mg.know_val2 (b:=false) (sz:=2) (es:=a0.Args.map (aq false)) (x:=(.pv ((aq false) a0))) 0 [1] SC fun hl0=>?_; rw[aD] at hl0
  refine aJ (run_loop h) (fun i3 s3=>[(1,.box (.pv ((aq false) a0))),(2,.box zab1),(3,.box (.node [(.pv (Sx a0.Name)),(.own 9309)])),(4,.val (.pv (I (i3:Int))))]) (fun i3 s3=>[(9309,(2,s3.map (aq true)))]) (St.le_trans (St.le_nilB (x:=(.node [(.pv (Sx a0.Name)),(.pv (.sl true 2 []))])) 3 [1] 9309 2 NM SC SC SC) (az SC)) (fun i3 s3 hi h=>?_) (fun s3 h=>?_)
  ·have w:=wrap_s2 i3
   refine S ?_
   refine aF cs fun cs=>S ?_
   refine run_bk h fun v20 q h=>au (aq false) q (S ?_)
   refine run_bk h fun v22 q h=>aj [false] (ih _ _ q) (S ?_)
   refine run_bk h fun v24 q h=>AppH.c (aq true) (fun a=>Tt.psize _ a) q (S ?_)
   refine ae (aX [] [352,368,384]) (S ?_)
   have h:=run_some h
   refine RdH.mk ⟨_,h,?_⟩
   refine bh 384 9309 ?_
   exact az SWx
  ·refine S ?_
   refine aG cs fun cs=>S ?_
   exact ai h
theorem spec_l2Own_sat{a0:Tt}{r:Tt}(h:spec_l2Own a0=some r):Sat ag 72 [((aq false) a0)] ((aq true) r):=by
 obtain⟨n,hn⟩:=lim_some h
 exact(spec_l2OwnN_sat n) _ _ hn

theorem spec_l8OwnN_sat(n:Nat):(∀ (a0:Ft) (r:Ft),spec_l8OwnN n a0=some r→Sat ag 34 [((am false) a0)] ((am true) r)):=by
 induction n with
 | zero=>exact fun _ _ h=>by simp[spec_l8OwnN] at h
 | succ n ih=>
  refine fun a0 r h=>?_
  obtain⟨h,cs⟩:=ap h
  rw[spec_l8OwnN] at h
  refine ar 32 [.cell 2 42] Tryz.func34 (h:=S ?_)
  refine run_bk h fun v9 q h=>aj [false] (spec_l2Own_sat q) (S ?_)
  refine ae (aX [3] [144]) (S ?_)
  refine Mg.know_val2 (b:=false) (sz:=5) (es:=a0.Parts.map (am false)) (x:=(.pv ((am false) a0))) 0 [3] SC fun hl0=>?_; rw[aD] at hl0
  refine aJ (run_loop h) (fun i3 s3=>[(1,.box (.pv ((am false) a0))),(2,.box zab0),(3,.box (.node [(.pv (I a0.Op)),(.node [(.pv (Sx v9.Name)),(.own 144)]),(.pv (Sx a0.Var)),(.own 9309)])),(4,.val (.pv (I (i3:Int))))]) (fun i3 s3=>[(144,(2,v9.Args.map (aq true))),(9309,(5,s3.map (am true)))]) (St.le_trans (St.le_nilB (x:=(.node [(.pv (I a0.Op)),(.node [(.pv (Sx v9.Name)),(.own 144)]),(.pv (Sx a0.Var)),(.pv (.sl true 5 []))])) 3 [3] 9309 5 NM SC SC SC) (az SC)) (fun i3 s3 hi h=>?_) (fun s3 h=>?_)
  ·have w:=wrap_s2 i3
   refine S ?_
   refine aF cs fun cs=>S ?_
   refine run_bk h fun v25 q h=>au (am false) q (S ?_)
   refine run_bk h fun v27 q h=>aj [false] (ih _ _ q) (S ?_)
   refine run_bk h fun v29 q h=>AppH.c (am true) (fun a=>Ft.psize _ a) q (S ?_)
   refine ae (aX [] [432,433,448,464]) (S ?_)
   have h:=run_some h
   refine RdH.mk ⟨_,h,?_⟩
   refine bh 464 9309 ?_
   exact az SWx
  ·refine S ?_
   refine aG cs fun cs=>S ?_
   exact ai h
theorem spec_l8Own_sat{a0:Ft}{r:Ft}(h:spec_l8Own a0=some r):Sat ag 34 [((am false) a0)] ((am true) r):=by
 obtain⟨n,hn⟩:=lim_some h
 exact(spec_l8OwnN_sat n) _ _ hn

theorem spec_l18Joined_sat{a0:List Ft}{a1:Int}{a2:Int}  {r:Ft}(h:spec_l18Joined a0 a1 a2=some r):Sat ag 106 [(.sl false 5 (a0.map (am false))),(I a1),(I a2)] ((am true) r):=by
 obtain⟨h,cs⟩:=ap h
 unfold spec_l18Joined at h
 refine ar 38 [.cell 6 42] Tryz.func106 (h:=S ?_)
 refine ah cs h (fun cs h=>S ?_) fun cs h=>S ?_
 ·exact ai h
 ·refine run_bk h fun v18 q h=>au (am false) q (S ?_)
  refine run_bk h fun v20 q h=>aj [false] (spec_l8Own_sat q) (S ?_)
  replace h:=run_loop h
  refine Mg.whileN h (fun s5=>[(0,.val (.pv (.sl false 5 (a0.map (am false))))),(1,.val (.pv (I a1))),(6,.box zab0),(7,.box (.node [(.pv (I s5.1)),(.node [(.pv (Sx s5.2.1)),(.own 320)]),(.pv (Sx s5.2.2.2.1)),(.own 321)])),(8,.val (.pv (I s5.2.2.2.2.2)))]) (fun s5=>[(320,(2,s5.2.2.1.map (aq true))),(321,(5,s5.2.2.2.2.1.map (am true)))]) (az SC) (fun n5 s5 h=>?_)
  refine S ?_
  refine ah cs h (fun cs h=>S ?_) fun cs h=>S ?_
  ·refine run_bk h fun v31 q h=>au (am false) q (S ?_)
   refine run_bk h fun v33 q h=>aj [false] (spec_l8Own_sat q) (S ?_)
   refine ae (aX [] [528,529,560]) (S ?_)
   have h:=run_some h
   refine RdH.mk ⟨_,h,?_⟩
   refine St.le_trans (St.le_mk (S:=[(0,.val (.pv (.sl false 5 (a0.map (am false))))),(1,.val (.pv (I a1))),(6,.box zab0),(7,.box (.node [(.pv (I a1)),zab1,(.pv (Sx ⟨#[]⟩)),(.own 560)])),(8,.val (.pv (I (IntKind.i64.wrap (s5.2.2.2.2.2-1)))))]) (O:=[(560,(5,([v33,(Ft.mk s5.1 (Tt.mk s5.2.1 s5.2.2.1) s5.2.2.2.1 s5.2.2.2.2.1)]).map (am true)))]) SC SC) ?_
   refine St.le_trans (St.le_nilB (x:=(.node [(.pv (I a1)),zab1,(.pv (Sx ⟨#[]⟩)),(.own 560)])) 7 [1,1] 9726 2 NM SC SC SC) (S ?_)
   refine bh 560 321 ?_
   refine bh 9726 320 ?_
   exact az SC
  ·have h:=run_some h
   exact ai h

theorem spec_l20Clause_sat{a0:List Int}  {r:Ft}(h:spec_l20Clause a0=some r):Sat ag 68 [(.sl false 1 (a0.map I))] ((am true) r):=by
 obtain⟨h,cs⟩:=ap h
 unfold spec_l20Clause at h
 refine ar 22 [.cell 2 42] Tryz.func68 (h:=S ?_)
 refine aP (b:=false) (sz:=1) (es:=a0.map I) 0 SC fun hl0=>?_; rw[aD] at hl0
 refine aJ (run_loop h) (fun i3 s3=>[(0,.val (.pv (.sl false 1 (a0.map I)))),(2,.box zab0),(3,.val (.own 80)),(4,.val (.pv (I (i3:Int))))]) (fun i3 s3=>[(80,(5,s3.map (am true)))]) (az SC) (fun i3 s3 hi h=>?_) (fun s3 h=>?_)
 ·have w:=wrap_s2 i3
  refine S ?_
  refine aF cs fun cs=>S ?_
  refine run_bk h fun v15 q h=>au I q (S ?_)
  refine run_bk h fun v17 q h=>aj [false] (spec_l20Literal_sat q) (S ?_)
  refine run_bk h fun v19 q h=>AppH.c (am true) (fun a=>Ft.psize _ a) q (S ?_)
  have h:=run_some h
  refine RdH.mk ⟨_,h,?_⟩
  refine bh 304 80 ?_
  exact az SWx
 ·refine S ?_
  refine aG cs fun cs=>S ?_
  refine run_bk h fun v21 q h=>aj [false,false,false] (spec_l18Joined_sat q) (S ?_)
  exact ai h

theorem spec_l2SameN_sat(n:Nat):(∀ (a0:Tt) (a1:Tt) (r:Bool),spec_l2SameN n a0 a1=some r→Sat ag 140 [((aq false) a0),((aq false) a1)] (B r)):=by
 induction n with
 | zero=>exact fun _ _ _ h=>by simp[spec_l2SameN] at h
 | succ n ih=>
  refine fun a0 a1 r h=>?_
  obtain⟨h,cs⟩:=ap h
  rw[spec_l2SameN] at h
  refine ar 39 [.tmp 4] Tryz.func140 (h:=S ?_)
  refine ah cs h (fun cs h=>S ?_) fun cs h=>S ?_
  refine ah cs h (fun cs h=>S ?_) fun cs h=>S ?_
  ·refine aP (b:=false) (sz:=2) (es:=a0.Args.map (aq false)) 13 SC fun hl13=>?_; rw[aD] at hl13
   refine aJ (run_loop h) (fun i4 s4=>[(2,.box (.pv ((aq false) a0))),(3,.box (.pv ((aq false) a1))),(5,.val (.pv (I (i4:Int))))]) (fun i4 s4=>[]) (az SC) (fun i4 s4 hi h=>?_) (fun s4 h=>?_)
   ·have w:=wrap_s2 i4
    refine S ?_
    refine aF cs fun cs=>S ?_
    refine run_bk h fun v30 q h=>au (aq false) q (S ?_)
    refine run_bk h fun v35 q h=>au (aq false) q (S ?_)
    refine run_bk h fun v37 q h=>aj [false,false] (ih _ _ _ q) (S ?_)
    refine ae (aX [] []) (S ?_)
    refine ah cs h (fun cs h=>S ?_) fun cs h=>S ?_
    ·exact aK h
    ·exact ai h
   ·refine S ?_
    refine aG cs fun cs=>S ?_
    exact ai h
  all_goals
   exact ai h
theorem spec_l2Same_sat{a0:Tt}{a1:Tt}{r:Bool}(h:spec_l2Same a0 a1=some r):Sat ag 140 [((aq false) a0),((aq false) a1)] (B r):=by
 obtain⟨n,hn⟩:=lim_some h
 exact(spec_l2SameN_sat n) _ _ _ hn

theorem spec_l8SameN_sat(n:Nat):(∀ (a0:Ft) (a1:Ft) (r:Bool),spec_l8SameN n a0 a1=some r→Sat ag 107 [((am false) a0),((am false) a1)] (B r)):=by
 induction n with
 | zero=>exact fun _ _ _ h=>by simp[spec_l8SameN] at h
 | succ n ih=>
  refine fun a0 a1 r h=>?_
  obtain⟨h,cs⟩:=ap h
  rw[spec_l8SameN] at h
  refine ar 54 [.tmp 4] Tryz.func107 (h:=S ?_)
  refine ah cs h (fun cs h=>S ?_) fun cs h=>S ?_
  refine ah cs h (fun cs h=>S ?_) fun cs h=>S ?_
  refine run_bk h fun v23 q h=>aj [false,false] (spec_l2Same_sat q) (S ?_)
  refine ah cs h (fun cs h=>S ?_) fun cs h=>S ?_
  refine ah cs h (fun cs h=>S ?_) fun cs h=>S ?_
  ·refine aP (b:=false) (sz:=5) (es:=a0.Parts.map (am false)) 28 SC fun hl28=>?_; rw[aD] at hl28
   refine aJ (run_loop h) (fun i4 s4=>[(2,.box (.pv ((am false) a0))),(3,.box (.pv ((am false) a1))),(5,.val (.pv (I (i4:Int))))]) (fun i4 s4=>[]) (az SC) (fun i4 s4 hi h=>?_) (fun s4 h=>?_)
   ·have w:=wrap_s2 i4
    refine S ?_
    refine aF cs fun cs=>S ?_
    refine run_bk h fun v45 q h=>au (am false) q (S ?_)
    refine run_bk h fun v50 q h=>au (am false) q (S ?_)
    refine run_bk h fun v52 q h=>aj [false,false] (ih _ _ _ q) (S ?_)
    refine ae (aX [] []) (S ?_)
    refine ah cs h (fun cs h=>S ?_) fun cs h=>S ?_
    ·exact aK h
    ·exact ai h
   ·refine S ?_
    refine aG cs fun cs=>S ?_
    exact ai h
  all_goals
   exact ai h
theorem spec_l8Same_sat{a0:Ft}{a1:Ft}{r:Bool}(h:spec_l8Same a0 a1=some r):Sat ag 107 [((am false) a0),((am false) a1)] (B r):=by
 obtain⟨n,hn⟩:=lim_some h
 exact(spec_l8SameN_sat n) _ _ _ hn

theorem spec_l20Two_sat{a0:Int}{a1:Ft}{a2:Ft}  {r:Ft}(h:spec_l20Two a0 a1 a2=some r):Sat ag 69 [(I a0),((am false) a1),((am false) a2)] ((am true) r):=by
 obtain⟨h,cs⟩:=ap h
 unfold spec_l20Two at h
 refine ar 50 [.cell 6 42] Tryz.func69 (h:=S ?_)
 refine ah cs h (fun cs h=>S ?_) fun cs h=>S ?_
 refine ah cs h (fun cs h=>S ?_) fun cs h=>S ?_
 rotate_left
 refine ah cs h (fun cs h=>S ?_) fun cs h=>S ?_
 rotate_left
 refine ah cs h (fun cs h=>S ?_) fun cs h=>S ?_
 rotate_left
 refine ah cs h (fun cs h=>S ?_) fun cs h=>S ?_
 rotate_left
 refine run_bk h fun v39 q h=>aj [false,false] (spec_l8Same_sat q) (S ?_)
 refine ah cs h (fun cs h=>S ?_) fun cs h=>S ?_
 rotate_left 2
 refine ah cs h (fun cs h=>S ?_) fun cs h=>S ?_
 rotate_left
 refine ah cs h (fun cs h=>S ?_) fun cs h=>S ?_
 rotate_left
 refine ah cs h (fun cs h=>S ?_) fun cs h=>S ?_
 rotate_left
 refine ah cs h (fun cs h=>S ?_) fun cs h=>S ?_
 rotate_left
 refine run_bk h fun v39 q h=>aj [false,false] (spec_l8Same_sat q) (S ?_)
 refine ah cs h (fun cs h=>S ?_) fun cs h=>S ?_
 rotate_left
 ·refine run_bk h fun v45 q h=>aj [false] (spec_l8Own_sat q) (S ?_)
  refine run_bk h fun v47 q h=>aj [false] (spec_l8Own_sat q) (S ?_)
  refine ae (aX [] [720,721,752,753,768]) (S ?_)
  exact ai h
 ·exact ai h
 ·exact ai h
 ·refine run_bk h fun v30 q h=>aj [false] (spec_l8Own_sat q) (S ?_)
  exact ai h
 rotate_left 2
 ·refine run_bk h fun v45 q h=>aj [false] (spec_l8Own_sat q) (S ?_)
  refine run_bk h fun v47 q h=>aj [false] (spec_l8Own_sat q) (S ?_)
  refine ae (aX [] [720,721,752,753,768]) (S ?_)
  exact ai h
 ·exact ai h
 ·exact ai h
 ·refine run_bk h fun v30 q h=>aj [false] (spec_l8Own_sat q) (S ?_)
  exact ai h
 all_goals
  refine run_bk h fun v42 q h=>aj [false] (spec_l8Own_sat q) (S ?_)
  exact ai h

theorem spec_l8ManyN_sat(n:Nat):(∀ (a0:Ft) (a1:Int) (r:Int),spec_l8ManyN n a0 a1=some r→Sat ag 109 [((am false) a0),(I a1)] (I r)):=by
 induction n with
 | zero=>exact fun _ _ _ h=>by simp[spec_l8ManyN] at h
 | succ n ih=>
  refine fun a0 a1 r h=>?_
  obtain⟨h,cs⟩:=ap h
  rw[spec_l8ManyN] at h
  refine ar 31 [.tmp 4] Tryz.func109 (h:=S ?_)
  refine Mg.know_val2 (b:=false) (sz:=5) (es:=a0.Parts.map (am false)) (x:=(.pv ((am false) a0))) 0 [3] SC fun hl0=>?_; rw[aD] at hl0
  refine aJ (run_loop h) (fun i3 s3=>[(1,.val (.pv (I a1))),(2,.box (.pv ((am false) a0))),(5,.val (.pv (I s3))),(6,.val (.pv (I (i3:Int))))]) (fun i3 s3=>[]) (az SC) (fun i3 s3 hi h=>?_) (fun s3 h=>?_)
  ·have w:=wrap_s2 i3
   refine S ?_
   refine aF cs fun cs=>S ?_
   refine ah cs h (fun cs h=>S ?_) fun cs h=>S ?_
   ·refine run_bk h fun v23 q h=>au (am false) q (S ?_)
    refine run_bk h fun v28 q h=>aj [false,false] (ih _ _ _ q) (S ?_)
    exact aK h
   ·exact ai h
  ·refine S ?_
   refine aG cs fun cs=>S ?_
   exact ai h
theorem spec_l8Many_sat{a0:Ft}{a1:Int}{r:Int}(h:spec_l8Many a0 a1=some r):Sat ag 109 [((am false) a0),(I a1)] (I r):=by
 obtain⟨n,hn⟩:=lim_some h
 exact(spec_l8ManyN_sat n) _ _ _ hn

theorem spec_l8None_sat{a0:Tt}  {r:Bool}(h:spec_l8None a0=some r):Sat ag 168 [((aq false) a0)] (B r):=by
 obtain⟨h,cs⟩:=ap h
 unfold spec_l8None at h
 refine ar 12 [.tmp 2] Tryz.func168 (h:=S ?_)
 refine ah cs h (fun cs h=>S ?_) fun cs h=>S ?_
 ·exact ai h
 ·exact ai h

theorem spec_l2ManyN_sat(n:Nat):(∀ (a0:Tt) (a1:Int) (r:Int),spec_l2ManyN n a0 a1=some r→Sat ag 208 [((aq false) a0),(I a1)] (I r)):=by
 induction n with
 | zero=>exact fun _ _ _ h=>by simp[spec_l2ManyN] at h
 | succ n ih=>
  refine fun a0 a1 r h=>?_
  obtain⟨h,cs⟩:=ap h
  rw[spec_l2ManyN] at h
  refine ar 31 [.tmp 4] Tryz.func208 (h:=S ?_)
  refine Mg.know_val2 (b:=false) (sz:=2) (es:=a0.Args.map (aq false)) (x:=(.pv ((aq false) a0))) 0 [1] SC fun hl0=>?_; rw[aD] at hl0
  refine aJ (run_loop h) (fun i3 s3=>[(1,.val (.pv (I a1))),(2,.box (.pv ((aq false) a0))),(5,.val (.pv (I s3))),(6,.val (.pv (I (i3:Int))))]) (fun i3 s3=>[]) (az SC) (fun i3 s3 hi h=>?_) (fun s3 h=>?_)
  ·have w:=wrap_s2 i3
   refine S ?_
   refine aF cs fun cs=>S ?_
   refine ah cs h (fun cs h=>S ?_) fun cs h=>S ?_
   ·refine run_bk h fun v23 q h=>au (aq false) q (S ?_)
    refine run_bk h fun v28 q h=>aj [false,false] (ih _ _ _ q) (S ?_)
    exact aK h
   ·exact ai h
  ·refine S ?_
   refine aG cs fun cs=>S ?_
   exact ai h
theorem spec_l2Many_sat{a0:Tt}{a1:Int}{r:Int}(h:spec_l2Many a0 a1=some r):Sat ag 208 [((aq false) a0),(I a1)] (I r):=by
 obtain⟨n,hn⟩:=lim_some h
 exact(spec_l2ManyN_sat n) _ _ _ hn

theorem spec_l1Most_sat{a0:Int}{a1:Int}  {r:Int}(h:spec_l1Most a0 a1=some r):Sat ag 185 [(I a0),(I a1)] (I r):=by
 obtain⟨h,cs⟩:=ap h
 unfold spec_l1Most at h
 refine ar 10 [.tmp 4] Tryz.func185 (h:=S ?_)
 refine ah cs h (fun cs h=>S ?_) fun cs h=>S ?_
 ·exact ai h
 ·exact ai h

theorem spec_l2DepthN_sat(n:Nat):(∀ (a0:Tt) (r:Int),spec_l2DepthN n a0=some r→Sat ag 209 [((aq false) a0)] (I r)):=by
 induction n with
 | zero=>exact fun _ _ h=>by simp[spec_l2DepthN] at h
 | succ n ih=>
  refine fun a0 r h=>?_
  obtain⟨h,cs⟩:=ap h
  rw[spec_l2DepthN] at h
  refine ar 22 [.tmp 2] Tryz.func209 (h:=S ?_)
  refine Mg.know_val2 (b:=false) (sz:=2) (es:=a0.Args.map (aq false)) (x:=(.pv ((aq false) a0))) 0 [1] SC fun hl0=>?_; rw[aD] at hl0
  refine aJ (run_loop h) (fun i3 s3=>[(1,.box (.pv ((aq false) a0))),(3,.val (.pv (I s3))),(4,.val (.pv (I (i3:Int))))]) (fun i3 s3=>[]) (az SC) (fun i3 s3 hi h=>?_) (fun s3 h=>?_)
  ·have w:=wrap_s2 i3
   refine S ?_
   refine aF cs fun cs=>S ?_
   refine run_bk h fun v16 q h=>au (aq false) q (S ?_)
   refine run_bk h fun v18 q h=>aj [false] (ih _ _ q) (S ?_)
   refine run_bk h fun v19 q h=>aj [false,false] (spec_l1Most_sat q) (S ?_)
   exact aK h
  ·refine S ?_
   refine aG cs fun cs=>S ?_
   exact ai h
theorem spec_l2Depth_sat{a0:Tt}{r:Int}(h:spec_l2Depth a0=some r):Sat ag 209 [((aq false) a0)] (I r):=by
 obtain⟨n,hn⟩:=lim_some h
 exact(spec_l2DepthN_sat n) _ _ hn

theorem spec_l2Fits_sat{a0:Tt}  {r:Bool}(h:spec_l2Fits a0=some r):Sat ag 187 [((aq false) a0)] (B r):=by
 obtain⟨h,cs⟩:=ap h
 unfold spec_l2Fits at h
 refine ar 11 [.tmp 2] Tryz.func187 (h:=S ?_)
 refine run_bk h fun v4 q h=>aj [false,false] (spec_l2Many_sat q) (S ?_)
 refine ah cs h (fun cs h=>S ?_) fun cs h=>S ?_
 ·refine run_bk h fun v8 q h=>aj [false] (spec_l2Depth_sat q) (S ?_)
  exact ai h
 ·exact ai h

theorem spec_l2Small_sat{a0:Int}  {r:Bool}(h:spec_l2Small a0=some r):Sat ag 191 [((Ik .u8) a0)] (B r):=by
 obtain⟨h,cs⟩:=ap h
 unfold spec_l2Small at h
 refine ar 17 [.tmp 2] Tryz.func191 (h:=S ?_)
 refine ah cs h (fun cs h=>S ?_) fun cs h=>S ?_
 refine ah cs h (fun cs h=>S ?_) fun cs h=>S ?_
 rotate_left
 refine ah cs h (fun cs h=>S ?_) fun cs h=>S ?_
 rotate_left 2
 refine ah cs h (fun cs h=>S ?_) fun cs h=>S ?_
 all_goals
  exact ai h

theorem spec_l2Var_sat{a0:ByteArray}  {r:Bool}(h:spec_l2Var a0=some r):Sat ag 170 [(Sx a0)] (B r):=by
 obtain⟨h,cs⟩:=ap h
 unfold spec_l2Var at h
 refine ar 29 [.tmp 2] Tryz.func170 (h:=S ?_)
 refine run_bk h fun v6 q h=>aj [false,false,false] (spec_l1In_sat q) (S ?_)
 refine ah cs h (fun cs h=>S ?_) fun cs h=>S ?_
 refine run_bk h fun v10 q h=>bd q (S ?_)
 refine ah cs h (fun cs h=>S ?_) fun cs h=>S ?_
 rotate_left
 refine run_bk h fun v15 q h=>bd q (S ?_)
 refine ah cs h (fun cs h=>S ?_) fun cs h=>S ?_
 rotate_left
 ·obtain⟨N4,hN4,h⟩:=run_bind h
  obtain⟨hN4a,hN4b⟩:=bnd_some hN4
  replace h:=run_loop h
  refine Mg.forA (N:=N4) (a:=1) h (fun i4 s4=>[(0,.val (.pv (Sx a0))),(3,.val (.pv (I (i4:Int))))]) (fun i4 s4=>[]) (az SC) (fun i4 s4 hi hj h=>?_) (fun j4 s4 hj h=>?_)
  ·have w:=wrap_s2 i4
   refine S ?_
   refine aF cs fun cs=>S ?_
   refine run_bk h fun v26 q h=>bd q (S ?_)
   refine run_bk h fun v27 q h=>aj [false] (spec_l2Small_sat q) (S ?_)
   refine ah cs h (fun cs h=>S ?_) fun cs h=>S ?_
   ·exact aK h
   ·exact ai h
  ·refine S ?_
   refine aG cs fun cs=>S ?_
   exact ai h
 all_goals
  exact ai h

theorem spec_l2Symbol_sat{a0:ByteArray}  {r:Bool}(h:spec_l2Symbol a0=some r):Sat ag 189 [(Sx a0)] (B r):=by
 obtain⟨h,cs⟩:=ap h
 unfold spec_l2Symbol at h
 refine ar 45 [.tmp 2] Tryz.func189 (h:=S ?_)
 refine run_bk h fun v6 q h=>aj [false,false,false] (spec_l1In_sat q) (S ?_)
 refine ah cs h (fun cs h=>S ?_) fun cs h=>S ?_
 refine run_bk h fun v10 q h=>bd q (S ?_)
 refine ah cs h (fun cs h=>S ?_) fun cs h=>S ?_
 rotate_left
 refine run_bk h fun v15 q h=>bd q (S ?_)
 refine ah cs h (fun cs h=>S ?_) fun cs h=>S ?_
 rotate_left
 refine ah cs h (fun cs h=>S ?_) fun cs h=>S ?_
 rotate_left
 refine ah cs h (fun cs h=>S ?_) fun cs h=>S ?_
 rotate_left
 refine ah cs h (fun cs h=>S ?_) fun cs h=>S ?_
 rotate_left
 refine ah cs h (fun cs h=>S ?_) fun cs h=>S ?_
 rotate_left
 refine ah cs h (fun cs h=>S ?_) fun cs h=>S ?_
 rotate_left
 refine ah cs h (fun cs h=>S ?_) fun cs h=>S ?_
 rotate_left
 refine ah cs h (fun cs h=>S ?_) fun cs h=>S ?_
 rotate_left
 refine ah cs h (fun cs h=>S ?_) fun cs h=>S ?_
 rotate_left
 ·obtain⟨N14,hN14,h⟩:=run_bind h
  obtain⟨hN14a,hN14b⟩:=bnd_some hN14
  replace h:=run_loop h
  refine Mg.forA (N:=N14) (a:=1) h (fun i14 s14=>[(0,.val (.pv (Sx a0))),(3,.val (.pv (I (i14:Int))))]) (fun i14 s14=>[]) (az SC) (fun i14 s14 hi hj h=>?_) (fun j14 s14 hj h=>?_)
  ·have w:=wrap_s2 i14
   refine S ?_
   refine aF cs fun cs=>S ?_
   refine run_bk h fun v36 q h=>bd q (S ?_)
   refine run_bk h fun v37 q h=>aj [false] (spec_l2Small_sat q) (S ?_)
   refine ah cs h (fun cs h=>S ?_) fun cs h=>S ?_
   ·exact aK h
   ·refine run_bk h fun v42 q h=>bd q (S ?_)
    refine ah cs h (fun cs h=>S ?_) fun cs h=>S ?_
    ·exact aK h
    ·exact ai h
  ·refine S ?_
   refine aG cs fun cs=>S ?_
   exact ai h
 all_goals
  exact ai h

theorem spec_l2NodesN_sat(n:Nat):(∀ (a0:Tt) (r:Bool),spec_l2NodesN n a0=some r→Sat ag 188 [((aq false) a0)] (B r)):=by
 induction n with
 | zero=>exact fun _ _ h=>by simp[spec_l2NodesN] at h
 | succ n ih=>
  refine fun a0 r h=>?_
  obtain⟨h,cs⟩:=ap h
  rw[spec_l2NodesN] at h
  refine ar 35 [.tmp 2] Tryz.func188 (h:=S ?_)
  refine run_bk h fun v6 q h=>aj [false] (spec_l2Var_sat q) (S ?_)
  refine ah cs h (fun cs h=>S ?_) fun cs h=>S ?_
  rotate_left
  refine run_bk h fun v13 q h=>aj [false] (spec_l2Symbol_sat q) (S ?_)
  refine ah cs h (fun cs h=>S ?_) fun cs h=>S ?_
  refine ah cs h (fun cs h=>S ?_) fun cs h=>S ?_
  rotate_left
  ·refine aP (b:=false) (sz:=2) (es:=a0.Args.map (aq false)) 17 SC fun hl17=>?_; rw[aD] at hl17
   refine aJ (run_loop h) (fun i6 s6=>[(1,.box (.pv ((aq false) a0))),(3,.val (.pv (I (i6:Int))))]) (fun i6 s6=>[]) (az SC) (fun i6 s6 hi h=>?_) (fun s6 h=>?_)
   ·have w:=wrap_s2 i6
    refine S ?_
    refine aF cs fun cs=>S ?_
    refine run_bk h fun v31 q h=>au (aq false) q (S ?_)
    refine run_bk h fun v33 q h=>aj [false] (ih _ _ q) (S ?_)
    refine ah cs h (fun cs h=>S ?_) fun cs h=>S ?_
    ·exact aK h
    ·exact ai h
   ·refine S ?_
    refine aG cs fun cs=>S ?_
    exact ai h
  all_goals
   exact ai h
theorem spec_l2Nodes_sat{a0:Tt}{r:Bool}(h:spec_l2Nodes a0=some r):Sat ag 188 [((aq false) a0)] (B r):=by
 obtain⟨n,hn⟩:=lim_some h
 exact(spec_l2NodesN_sat n) _ _ hn

theorem spec_l2Good_sat{a0:Tt}  {r:Bool}(h:spec_l2Good a0=some r):Sat ag 190 [((aq false) a0)] (B r):=by
 obtain⟨h,cs⟩:=ap h
 unfold spec_l2Good at h
 refine ar 9 [.tmp 2] Tryz.func190 (h:=S ?_)
 refine run_bk h fun v4 q h=>aj [false] (spec_l2Fits_sat q) (S ?_)
 refine ah cs h (fun cs h=>S ?_) fun cs h=>S ?_
 ·refine run_bk h fun v7 q h=>aj [false] (spec_l2Nodes_sat q) (S ?_)
  exact ai h
 ·exact ai h

theorem spec_l2Atom_sat{a0:Tt}  {r:Bool}(h:spec_l2Atom a0=some r):Sat ag 169 [((aq false) a0)] (B r):=by
 obtain⟨h,cs⟩:=ap h
 unfold spec_l2Atom at h
 refine ar 35 [.tmp 2] Tryz.func169 (h:=S ?_)
 refine ah cs h (fun cs h=>S ?_) fun cs h=>S ?_
 ·refine ah cs h (fun cs h=>S ?_) fun cs h=>S ?_
  refine run_bk h fun v12 q h=>aj [false] (spec_l2Fits_sat q) (S ?_)
  refine ah cs h (fun cs h=>S ?_) fun cs h=>S ?_
  refine run_bk h fun v17 q h=>au (aq false) q (S ?_)
  refine run_bk h fun v19 q h=>aj [false] (spec_l2Nodes_sat q) (S ?_)
  refine ah cs h (fun cs h=>S ?_) fun cs h=>S ?_
  ·refine run_bk h fun v24 q h=>au (aq false) q (S ?_)
   refine run_bk h fun v26 q h=>aj [false] (spec_l2Nodes_sat q) (S ?_)
   exact ai h
  all_goals
   exact ai h
 ·refine run_bk h fun v30 q h=>aj [false] (spec_l2Symbol_sat q) (S ?_)
  refine ah cs h (fun cs h=>S ?_) fun cs h=>S ?_
  ·refine run_bk h fun v33 q h=>aj [false] (spec_l2Good_sat q) (S ?_)
   exact ai h
  ·exact ai h

theorem spec_l8Form_sat{a0:Ft}  {r:Bool}(h:spec_l8Form a0=some r):Sat ag 141 [((am false) a0)] (B r):=by
 obtain⟨h,cs⟩:=ap h
 unfold spec_l8Form at h
 refine ar 83 [.tmp 2] Tryz.func141 (h:=S ?_)
 refine ah cs h (fun cs h=>S ?_) fun cs h=>S ?_
 refine ah cs h (fun cs h=>S ?_) fun cs h=>S ?_
 refine run_bk h fun v17 q h=>aj [false] (spec_l8None_sat q) (S ?_)
 refine ah cs h (fun cs h=>S ?_) fun cs h=>S ?_
 rotate_left 3
 refine ah cs h (fun cs h=>S ?_) fun cs h=>S ?_
 refine ah cs h (fun cs h=>S ?_) fun cs h=>S ?_
 refine run_bk h fun v17 q h=>aj [false] (spec_l8None_sat q) (S ?_)
 refine ah cs h (fun cs h=>S ?_) fun cs h=>S ?_
 rotate_left 3
 refine ah cs h (fun cs h=>S ?_) fun cs h=>S ?_
 refine ah cs h (fun cs h=>S ?_) fun cs h=>S ?_
 refine run_bk h fun v31 q h=>aj [false] (spec_l2Atom_sat q) (S ?_)
 refine ah cs h (fun cs h=>S ?_) fun cs h=>S ?_
 rotate_left 3
 refine ah cs h (fun cs h=>S ?_) fun cs h=>S ?_
 refine ah cs h (fun cs h=>S ?_) fun cs h=>S ?_
 refine run_bk h fun v45 q h=>aj [false] (spec_l8None_sat q) (S ?_)
 refine ah cs h (fun cs h=>S ?_) fun cs h=>S ?_
 rotate_left 3
 refine ah cs h (fun cs h=>S ?_) fun cs h=>S ?_
 refine ah cs h (fun cs h=>S ?_) fun cs h=>S ?_
 refine run_bk h fun v61 q h=>aj [false] (spec_l8None_sat q) (S ?_)
 refine ah cs h (fun cs h=>S ?_) fun cs h=>S ?_
 rotate_left 3
 refine ah cs h (fun cs h=>S ?_) fun cs h=>S ?_
 refine ah cs h (fun cs h=>S ?_) fun cs h=>S ?_
 refine run_bk h fun v61 q h=>aj [false] (spec_l8None_sat q) (S ?_)
 refine ah cs h (fun cs h=>S ?_) fun cs h=>S ?_
 rotate_left 3
 refine ah cs h (fun cs h=>S ?_) fun cs h=>S ?_
 refine ah cs h (fun cs h=>S ?_) fun cs h=>S ?_
 refine run_bk h fun v61 q h=>aj [false] (spec_l8None_sat q) (S ?_)
 refine ah cs h (fun cs h=>S ?_) fun cs h=>S ?_
 rotate_left 3
 refine ah cs h (fun cs h=>S ?_) fun cs h=>S ?_
 refine ah cs h (fun cs h=>S ?_) fun cs h=>S ?_
 refine run_bk h fun v76 q h=>aj [false] (spec_l8None_sat q) (S ?_)
 refine ah cs h (fun cs h=>S ?_) fun cs h=>S ?_
 rotate_left 3
 refine ah cs h (fun cs h=>S ?_) fun cs h=>S ?_
 refine ah cs h (fun cs h=>S ?_) fun cs h=>S ?_
 refine run_bk h fun v76 q h=>aj [false] (spec_l8None_sat q) (S ?_)
 refine ah cs h (fun cs h=>S ?_) fun cs h=>S ?_
 ·refine run_bk h fun v81 q h=>aj [false] (spec_l2Var_sat q) (S ?_)
  exact ai h
 rotate_left 24
 ·refine run_bk h fun v81 q h=>aj [false] (spec_l2Var_sat q) (S ?_)
  exact ai h
 all_goals
  exact ai h

theorem spec_l8FormsN_sat(n:Nat):(∀ (a0:Ft) (r:Bool),spec_l8FormsN n a0=some r→Sat ag 110 [((am false) a0)] (B r)):=by
 induction n with
 | zero=>exact fun _ _ h=>by simp[spec_l8FormsN] at h
 | succ n ih=>
  refine fun a0 r h=>?_
  obtain⟨h,cs⟩:=ap h
  rw[spec_l8FormsN] at h
  refine ar 21 [.tmp 2] Tryz.func110 (h:=S ?_)
  refine run_bk h fun v5 q h=>aj [false] (spec_l8Form_sat q) (S ?_)
  refine ah cs h (fun cs h=>S ?_) fun cs h=>S ?_
  ·refine Mg.know_val2 (b:=false) (sz:=5) (es:=a0.Parts.map (am false)) (x:=(.pv ((am false) a0))) 0 [3] SC fun hl0=>?_; rw[aD] at hl0
   refine aJ (run_loop h) (fun i4 s4=>[(1,.box (.pv ((am false) a0))),(3,.val (.pv (I (i4:Int))))]) (fun i4 s4=>[]) (az SC) (fun i4 s4 hi h=>?_) (fun s4 h=>?_)
   ·have w:=wrap_s2 i4
    refine S ?_
    refine aF cs fun cs=>S ?_
    refine run_bk h fun v17 q h=>au (am false) q (S ?_)
    refine run_bk h fun v19 q h=>aj [false] (ih _ _ q) (S ?_)
    refine ah cs h (fun cs h=>S ?_) fun cs h=>S ?_
    ·exact aK h
    ·exact ai h
   ·refine S ?_
    refine aG cs fun cs=>S ?_
    exact ai h
  ·exact ai h
theorem spec_l8Forms_sat{a0:Ft}{r:Bool}(h:spec_l8Forms a0=some r):Sat ag 110 [((am false) a0)] (B r):=by
 obtain⟨n,hn⟩:=lim_some h
 exact(spec_l8FormsN_sat n) _ _ hn

theorem spec_l8Good_sat{a0:Ft}  {r:Bool}(h:spec_l8Good a0=some r):Sat ag 71 [((am false) a0)] (B r):=by
 obtain⟨h,cs⟩:=ap h
 unfold spec_l8Good at h
 refine ar 10 [.tmp 2] Tryz.func71 (h:=S ?_)
 refine run_bk h fun v4 q h=>aj [false,false] (spec_l8Many_sat q) (S ?_)
 refine ah cs h (fun cs h=>S ?_) fun cs h=>S ?_
 ·refine run_bk h fun v8 q h=>aj [false] (spec_l8Forms_sat q) (S ?_)
  exact ai h
 ·exact ai h

theorem spec_l20Partial_sat{a0:List (List Int)}{a1:List Pt}{a2:Int}{a3:Int}  {r:(List Ft)×Bool}(h:spec_l20Partial a0 a1 a2 a3=some r):Sat ag 33 [(.sl false 1 (a0.map (Lv false 1 I))),(.sl false 4 (a1.map (aE false))),(I a2),(I a3)] (.tup [(.sl true 5 (r.1.map (am false))),(B r.2)]):=by
 obtain⟨h,cs⟩:=ap h
 unfold spec_l20Partial at h
 refine ar 148 [.tmp 8,.tmp 9] Tryz.func33 (h:=SB ?_)
 refine OrR.l (SB ?_)
 refine aP (b:=false) (sz:=1) (es:=a0.map (Lv false 1 I)) 0 SC fun hl0=>?_; rw[aD] at hl0
 refine aJ (run_loop h) (fun i3 s3=>[(0,.val (.pv (.sl false 1 (a0.map (Lv false 1 I))))),(1,.val (.pv (.sl false 4 (a1.map (aE false))))),(2,.val (.pv (I a2))),(3,.val (.pv (I a3))),(10,.val (.own 352)),(11,.val (.pv (I (i3:Int))))]) (fun i3 s3=>[(352,(5,s3.map (am false)))]) (az SC) (fun i3 s3 hi h=>?_) (fun s3 h=>?_)
 ·have w:=wrap_s2 i3
  refine SB ?_
  refine aF cs fun cs=>SB ?_
  refine ah cs h (fun cs h=>SB ?_) fun cs h=>asZ ( 1:Int ) cs fun z0 cs=>SB ?_
  refine OrR.l (SB ?_)
  replace h:=run_loop h
  refine Mg.whileN h (fun s10=>[(0,.val (.pv (.sl false 1 (a0.map (Lv false 1 I))))),(1,.val (.pv (.sl false 4 (a1.map (aE false))))),(2,.val (.pv (I a2))),(3,.val (.pv (I a3))),(10,.val (.own 352)),(11,.val (.pv (I (i3:Int)))),(12,.box (.node [(.pv (I 2)),zab1,(.pv (Sx ⟨#[]⟩)),(.pv (.sl true 5 []))])),(13,.val (.own 544)),(14,.val (.pv (I s10.2)))]) (fun s10=>[(352,(5,s3.map (am false))),(544,(1,s10.1.map I))]) (az SC) (fun n10 s10 h=>?_)
  refine SB ?_
  refine run_bk h fun v38 q h=>au (Lv false 1 I) q (SB ?_)
  refine ah cs h (fun cs h=>SB ?_) fun cs h=>SB ?_
  refine ah cs h (fun cs h=>SB ?_) fun cs h=>SB ?_
  refine run_bk h fun v50 q h=>SlcH.mk (f:=(Lv false 1 I)) q SC (SB ?_)
  refine run_bk h fun v53 q h=>au (Lv false 1 I) q (SB ?_)
  refine run_bk h fun v56 q h=>au I q (SB ?_)
  refine run_bk h fun v58 q h=>aj [false] (spec_l15Abs_sat q) (SB ?_)
  refine run_bk h fun v59 q h=>aj [false,false] (spec_l20Occurs_sat q) (SB ?_)
  refine ae (aX [] []) (SB ?_)
  refine ah cs h (fun cs h=>SB ?_) fun cs h=>SB ?_
  rotate_left 3
  have h:=run_some h
  refine ah cs h (fun cs h=>SB ?_) fun cs h=>asZ ( 2:Int ) cs fun z0 cs=>SB ?_
  ·refine run_bk h fun v73 q h=>aj [true] (Sat.give (args:=[(.sl true 1 (s10.1.map I))]) [true] (by have gg:=Sat.vwOf (res':=((am false) v73)) (spec_l20Clause_sat q) (by simp only[view_tup,view_sl,view_agg,view_lit,aB,RB,RS]); simp only[gv_t,gv_f,gv_n,view_sl,view_agg,view_lit,views_repB,views_repI,aB,RB,RS] at gg ⊢; exact gg)) (SB ?_)
   refine OrR.v [((am false) v73)] (SB ?_)
   refine run_bk h fun v77 q h=>AppH.c (am false) (fun a=>Ft.psize _ a) q (SB ?_)
   have h:=run_some h
   refine RdH.mk ⟨_,h,?_⟩
   refine bh 1232 352 ?_
   exact az SWx
  rotate_left 2
  ·refine run_bk h fun v63 q h=>au (Lv false 1 I) q (SB ?_)
   refine run_bk h fun v66 q h=>au I q (SB ?_)
   refine OrR.l (SB ?_)
   refine run_bk h fun v69 q h=>AppH.c I (fun _=>rfl) q (SB ?_)
   have h:=run_some h
   refine RdH.mk ⟨_,h,?_⟩
   refine bh 1104 544 ?_
   exact az SC
  ·have h:=run_some h
   refine RdH.mk ⟨_,h,?_⟩
   exact az SC
  ·have h:=run_some h
   replace h:=run_f (by simp only[cs]) h
   refine OrR.v [(.agg [(I 2),(.agg [(Sx ⟨#[]⟩),(.sl false 2 [])]),(Sx ⟨#[]⟩),(.sl false 5 [])])] (SB ?_)
   refine run_bk h fun v77 q h=>AppH.c (am false) (fun a=>Ft.psize _ a) q (SB ?_)
   have h:=run_some h
   refine RdH.mk ⟨_,h,?_⟩
   refine bh 1232 352 ?_
   exact az SWx
  all_goals
   refine OrR.v [(.agg [(I z0),(.agg [(Sx ⟨#[]⟩),(.sl false 2 [])]),(Sx ⟨#[]⟩),(.sl false 5 [])])] (SB ?_)
   refine run_bk h fun v77 q h=>AppH.c (am false) (fun a=>Ft.psize _ a) q (SB ?_)
   have h:=run_some h
   refine RdH.mk ⟨_,h,?_⟩
   refine bh 1232 352 ?_
   exact az SWx
 ·refine SB ?_
  refine aG cs fun cs=>SB ?_
  refine aP (b:=false) (sz:=4) (es:=a1.map (aE false)) 1 SC fun hl1=>?_; rw[aD] at hl1
  refine aJ (run_loop h) (fun i18 s18=>[(0,.val (.pv (.sl false 1 (a0.map (Lv false 1 I))))),(1,.val (.pv (.sl false 4 (a1.map (aE false))))),(2,.val (.pv (I a2))),(3,.val (.pv (I a3))),(10,.val (.own 352)),(15,.val (.pv (I (i18:Int))))]) (fun i18 s18=>[(352,(5,s18.map (am false)))]) (az SC) (fun i18 s18 hi h=>?_) (fun s18 h=>?_)
  ·have w:=wrap_s2 i18
   refine SB ?_
   refine aF cs fun cs=>SB ?_
   refine run_bk h fun v86 q h=>au (aE false) q (SB ?_)
   refine run_bk h fun v91 q h=>au (am false) q (SB ?_)
   refine run_bk h fun v92 q h=>EldH.c (am false) q (SB ?_)
   refine run_bk h fun v96 q h=>au (am false) q (SB ?_)
   refine run_bk h fun v97 q h=>EldH.c (am false) q (SB ?_)
   refine ae (aX [17,18] []) (SB ?_)
   refine run_bk h fun v100 q h=>SlcH.mk (f:=(Lv false 1 I)) q SC (SB ?_)
   refine run_bk h fun v103 q h=>aj [false,false] (spec_l20Occurs_sat q) (SB ?_)
   refine run_bk h fun v106 q h=>SlcH.mk (f:=(Lv false 1 I)) q SC (SB ?_)
   refine run_bk h fun v109 q h=>aj [false,false] (spec_l20Occurs_sat q) (SB ?_)
   refine ae (aX [] []) (SB ?_)
   refine ah cs h (fun cs h=>SB ?_) fun cs h=>SB ?_
   refine ah cs h (fun cs h=>SB ?_) fun cs h=>SB ?_
   refine ah cs h (fun cs h=>SB ?_) fun cs h=>SB ?_
   refine run_bk h fun v138 q h=>aj [false,false,false] (Sat.vwOf (res':=((am false) v138)) (spec_l20Two_sat q) (by simp only[view_tup,view_sl,view_agg,view_lit,aB,RB,RS])) (SB ?_)
   refine run_bk h fun v140 q h=>aj [false] (spec_l8Good_sat q) (SB ?_)
   refine ah cs h (fun cs h=>SB ?_) fun cs h=>SB ?_
   rotate_left 2
   refine run_bk h fun v113 q h=>aj [false] (spec_l20Literal_sat q) (SB ?_)
   refine run_bk h fun v115 q h=>aj [false,false,false] (spec_l20Two_sat q) (SB ?_)
   refine run_bk h fun v119 q h=>aj [false] (spec_l20Literal_sat q) (SB ?_)
   refine run_bk h fun v121 q h=>aj [false,false,false] (spec_l20Two_sat q) (SB ?_)
   refine run_bk h fun v122 q h=>aj [false,true,true] (Sat.give (args:=[(I 5),(.agg [(I v115.Op),(.agg [(Sx v115.Atom.Name),(.sl true 2 (v115.Atom.Args.map (aq true)))]),(Sx v115.Var),(.sl true 5 (v115.Parts.map (am true)))]),(.agg [(I v121.Op),(.agg [(Sx v121.Atom.Name),(.sl true 2 (v121.Atom.Args.map (aq true)))]),(Sx v121.Var),(.sl true 5 (v121.Parts.map (am true)))])]) [false,true,true] (by have gg:=Sat.vwOf (res':=((am false) v122)) (spec_l20Two_sat q) (by simp only[view_tup,view_sl,view_agg,view_lit,aB,RB,RS]); simp only[gv_t,gv_f,gv_n,view_sl,view_agg,view_lit,views_repB,views_repI,aB,RB,RS] at gg ⊢; exact gg)) (SB ?_)
   refine ae (aX [] [1808,1809,1840,1841,1904,1905,1936,1937]) (SB ?_)
   refine run_bk h fun v140 q h=>aj [false] (spec_l8Good_sat q) (SB ?_)
   refine ah cs h (fun cs h=>SB ?_) fun cs h=>SB ?_
   rotate_left 2
   refine run_bk h fun v138 q h=>aj [false,false,false] (Sat.vwOf (res':=((am false) v138)) (spec_l20Two_sat q) (by simp only[view_tup,view_sl,view_agg,view_lit,aB,RB,RS])) (SB ?_)
   refine run_bk h fun v140 q h=>aj [false] (spec_l8Good_sat q) (SB ?_)
   refine ah cs h (fun cs h=>SB ?_) fun cs h=>SB ?_
   rotate_left 2
   refine run_bk h fun v128 q h=>aj [false,false,false] (Sat.vwOf (res':=((am false) v128)) (spec_l20Two_sat q) (by simp only[view_tup,view_sl,view_agg,view_lit,aB,RB,RS])) (SB ?_)
   refine run_bk h fun v140 q h=>aj [false] (spec_l8Good_sat q) (SB ?_)
   refine ah cs h (fun cs h=>SB ?_) fun cs h=>SB ?_
   rotate_left
   ·exact ai h
   rotate_left
   ·exact ai h
   rotate_left
   ·exact ai h
   rotate_left
   ·exact ai h
   all_goals
    refine OrR.l (SB ?_)
    refine run_bk h fun v146 q h=>AppH.c (am false) (fun a=>Ft.psize _ a) q (SB ?_)
    have h:=run_some h
    refine RdH.mk ⟨_,h,?_⟩
    refine bh 2336 352 ?_
    exact az SWx
  ·refine SB ?_
   refine aG cs fun cs=>SB ?_
   exact ai h

theorem spec_StepInterpolants_sat{a0:List (List Int)}{a1:List Pt}{a2:Int}{a3:Int}  {r:(List Ft)×Bool}(h:spec_StepInterpolants a0 a1 a2 a3=some r):Sat ag 8 [(.sl false 1 (a0.map (Lv false 1 I))),(.sl false 4 (a1.map (aE false))),(I a2),(I a3)] (.tup [(.sl true 5 (r.1.map (am true))),(B r.2)]):=by
 obtain⟨h,cs⟩:=ap h
 unfold spec_StepInterpolants at h
 refine ar 66 [.tmp 8,.tmp 9] Tryz.func8 (h:=S ?_)
 refine run_bk h fun v16 q h=>aj [false,false] (spec_l15Steps_sat q) (S ?_)
 refine ah cs h (fun cs h=>S ?_) fun cs h=>S ?_
 refine run_bk h fun v21 q h=>aj [false,false] (spec_l15Check_sat q) (S ?_)
 refine ah cs h (fun cs h=>S ?_) fun cs h=>S ?_
 rotate_left
 refine run_bk h fun v28 q h=>aj [false,false,false] (spec_l1In_sat q) (S ?_)
 refine ah cs h (fun cs h=>S ?_) fun cs h=>S ?_
 refine run_bk h fun v33 q h=>aj [false,false,false] (spec_l1In_sat q) (S ?_)
 refine ah cs h (fun cs h=>S ?_) fun cs h=>S ?_
 refine run_bk h fun v42 q h=>aj [false,false,false,false] (spec_l20Partial_sat q) (S ?_)
 refine ah cs h (fun cs h=>S ?_) fun cs h=>S ?_
 replace h:=run_loop h
 refine Mg.whileN h (fun s8=>[(10,.val (.own 672)),(12,.val (.own 768)),(13,.val (.pv (I s8.2)))]) (fun s8=>[(672,(5,v42.1.map (am false))),(768,(5,s8.1.map (am true)))]) (az SC) (fun n8 s8 h=>?_)
 refine S ?_
 refine ah cs h (fun cs h=>S ?_) fun cs h=>S ?_
 ·refine run_bk h fun v60 q h=>au (am false) q (S ?_)
  refine run_bk h fun v61 q h=>EldH.c (am false) q (S ?_)
  refine run_bk h fun v62 q h=>aj [false] (spec_l8Own_sat q) (S ?_)
  refine run_bk h fun v64 q h=>AppH.c (am true) (fun a=>Ft.psize _ a) q (S ?_)
  have h:=run_some h
  refine RdH.mk ⟨_,h,?_⟩
  refine bh 1024 768 ?_
  exact az SC
 ·have h:=run_some h
  exact ai h
 all_goals
  exact ai h

theorem spec_Interpolant_sat{a0:List (List Int)}{a1:List Pt}{a2:Int}{a3:Int}  {r:Ft×Bool}(h:spec_Interpolant a0 a1 a2 a3=some r):Sat ag 19 [(.sl false 1 (a0.map (Lv false 1 I))),(.sl false 4 (a1.map (aE false))),(I a2),(I a3)] (.tup [((am false) r.1),(B r.2)]):=by
 obtain⟨h,cs⟩:=ap h
 unfold spec_Interpolant at h
 refine ar 29 [.cell 8 42,.tmp 9] Tryz.func19 (h:=S ?_)
 refine run_bk h fun v17 q h=>aj [false,false,false,false] (Sat.vwOf (res':=(.tup [(.sl false 5 (v17.1.map (am false))),(B v17.2)])) (spec_StepInterpolants_sat q) (by simp only[view_tup,view_sl,view_agg,view_lit,aB,RB,RS])) (S ?_)
 refine ah cs h (fun cs h=>S ?_) fun cs h=>S ?_
 ·refine run_bk h fun v27 q h=>au (am false) q (S ?_)
  exact FinH.zr h
 ·exact FinH.zr h

theorem impl_within_sat{a0:Int}{a1:Int}{a2:Int}  {r:Bool}(h:impl_within a0 a1 a2=some r):Sat ag 39 [(I a0),(I a1),(I a2)] (B r):=by
 obtain⟨h,cs⟩:=ap h
 unfold impl_within at h
 refine ar 15 [.tmp 6] Tryz.func39 (h:=S ?_)
 refine ah cs h (fun cs h=>S ?_) fun cs h=>S ?_
 ·exact ai h
 ·exact ai h

theorem impl_absolute_sat{a0:Int}  {r:Int}(h:impl_absolute a0=some r):Sat ag 76 [(I a0)] (I r):=by
 obtain⟨h,cs⟩:=ap h
 unfold impl_absolute at h
 refine ar 7 [.tmp 2] Tryz.func76 (h:=S ?_)
 exact ai h

theorem impl_isPropClause_sat{a0:List Int}  {r:Bool}(h:impl_isPropClause a0=some r):Sat ag 115 [(.sl false 1 (a0.map I))] (B r):=by
 obtain⟨h,cs⟩:=ap h
 unfold impl_isPropClause at h
 refine ar 35 [.tmp 2] Tryz.func115 (h:=S ?_)
 refine aP (b:=false) (sz:=1) (es:=a0.map I) 0 SC fun hl0=>?_; rw[aD] at hl0
 refine aJ (run_loop h) (fun i2 s2=>[(0,.val (.pv (.sl false 1 (a0.map I)))),(5,.val (.pv (.sl false 1 (a0.map I)))),(6,.val (.pv (I (a0.length:Int)))),(7,.val (.pv (I (i2:Int))))]) (fun i2 s2=>[]) (az SC) (fun i2 s2 hi h=>?_) (fun s2 h=>?_)
 ·have w:=wrap_s2 i2
  refine S ?_
  refine aF cs fun cs=>S ?_
  refine run_bk h fun v10 q h=>au I q (S ?_)
  refine ah cs h (fun cs h=>S ?_) fun cs h=>S ?_
  rotate_left
  refine run_bk h fun v16 q h=>aj [false,false,false] (impl_within_sat q) (S ?_)
  refine ah cs h (fun cs h=>S ?_) fun cs h=>S ?_
  refine ah cs h (fun cs h=>S ?_) fun cs h=>S ?_
  refine run_bk h fun v26 q h=>au I q (S ?_)
  refine run_bk h fun v28 q h=>aj [false] (impl_absolute_sat q) (S ?_)
  refine run_bk h fun v30 q h=>aj [false] (impl_absolute_sat q) (S ?_)
  refine ah cs h (fun cs h=>S ?_) fun cs h=>S ?_
  rotate_left
  ·exact aK h
  ·exact aK h
  all_goals
   exact ai h
 ·refine S ?_
  refine aG cs fun cs=>S ?_
  exact ai h

theorem impl_IsValidClauses_1_sat{a0:List Int}  {r:Bool}(h:impl_IsValidClauses_1 a0=some r):Sat ag 114 [(.sl false 1 (a0.map I))] (B r):=by
 obtain⟨h,cs⟩:=ap h
 unfold impl_IsValidClauses_1 at h
 refine ar 6 [.tmp 2] Tryz.func114 (h:=S ?_)
 refine run_bk h fun v4 q h=>aj [false] (impl_isPropClause_sat q) (S ?_)
 exact ai h

theorem slices_IndexFunc_SSint_Sint_sat{a0:List (List Int)}{a1:(List Int)→Option Bool}{a1_id:FuncId}{a1_cs:List PV}(a1_ok:∀ y0 r,a1 y0=some r→Sat ag a1_id ((.sl false 1 (y0.map I))::a1_cs) (B r))(a1_cz:CapsOk a1_cs=True){r:Int}(h:slices_IndexFunc_SSint_Sint a0 a1=some r):Sat ag 138 [(.sl false 1 (a0.map (Lv false 1 I))),.clo a1_id a1_cs] (I r):=by
 obtain⟨h,cs⟩:=ap h
 unfold slices_IndexFunc_SSint_Sint at h
 have cs:=ae a1_cz cs
 refine ar 19 [.tmp 4] Tryz.func138 (h:=S ?_)
 refine aP (b:=false) (sz:=1) (es:=a0.map (Lv false 1 I)) 0 SC fun hl0=>?_; rw[aD] at hl0
 refine aJ (run_loop h) (fun i2 s2=>[(0,.val (.pv (.sl false 1 (a0.map (Lv false 1 I))))),(1,.val (.pv (.clo a1_id a1_cs))),(7,.val (.pv (I (a0.length:Int)))),(8,.val (.pv (I (i2:Int))))]) (fun i2 s2=>[]) (az SC) (fun i2 s2 hi h=>?_) (fun s2 h=>?_)
 ·have w:=wrap_s2 i2
  refine S ?_
  refine aF cs fun cs=>S ?_
  refine run_bk h fun v14 q h=>au (Lv false 1 I) q (S ?_)
  refine run_bk h fun v16 q h=>aj [false] (a1_ok _ _ q) (S ?_)
  refine ah cs h (fun cs h=>S ?_) fun cs h=>S ?_
  ·exact ai h
  ·exact aK h
 ·refine S ?_
  refine aG cs fun cs=>S ?_
  exact ai h

theorem slices_ContainsFunc_SSint_Sint_sat{a0:List (List Int)}{a1:(List Int)→Option Bool}{a1_id:FuncId}{a1_cs:List PV}(a1_ok:∀ y0 r,a1 y0=some r→Sat ag a1_id ((.sl false 1 (y0.map I))::a1_cs) (B r))(a1_cz:CapsOk a1_cs=True){r:Bool}(h:slices_ContainsFunc_SSint_Sint a0 a1=some r):Sat ag 99 [(.sl false 1 (a0.map (Lv false 1 I))),.clo a1_id a1_cs] (B r):=by
 obtain⟨h,cs⟩:=ap h
 unfold slices_ContainsFunc_SSint_Sint at h
 have cs:=ae a1_cz cs
 refine ar 9 [.tmp 4] Tryz.func99 (h:=S ?_)
 refine run_bk h fun v7 q h=>aj [false,false] (slices_IndexFunc_SSint_Sint_sat a1_ok a1_cz q) (S ?_)
 exact ai h

theorem impl_IsValidClauses_sat{a0:List (List Int)}  {r:Bool}(h:impl_IsValidClauses a0=some r):Sat ag 74 [(.sl false 1 (a0.map (Lv false 1 I)))] (B r):=by
 obtain⟨h,cs⟩:=ap h
 unfold impl_IsValidClauses at h
 refine ar 11 [.tmp 2] Tryz.func74 (h:=S ?_)
 refine ah cs h (fun cs h=>S ?_) fun cs h=>S ?_
 ·refine run_bk h fun v8 q h=>aj [false,false] (slices_ContainsFunc_SSint_Sint_sat (fun _ _ hh=>impl_IsValidClauses_1_sat hh) (by simp only[CapsOk_nil,CapsOk_cons]) q) (S ?_)
  exact ai h
 ·exact ai h

theorem impl_clauseAt_sat{a0:List (List Int)}{a1:List Pt}{a2:Int}  {r:(List Int)×Bool}(h:impl_clauseAt a0 a1 a2=some r):Sat ag 111 [(.sl false 1 (a0.map (Lv false 1 I))),(.sl false 4 (a1.map (aE false))),(I a2)] (.tup [(.sl false 1 (r.1.map I)),(B r.2)]):=by
 obtain⟨h,cs⟩:=ap h
 unfold impl_clauseAt at h
 refine ar 37 [.tmp 6,.tmp 7] Tryz.func111 (h:=S ?_)
 refine run_bk h fun v13 q h=>aj [false,false,false] (impl_within_sat q) (S ?_)
 refine ah cs h (fun cs h=>S ?_) fun cs h=>S ?_
 ·refine run_bk h fun v16 q h=>au (Lv false 1 I) q (S ?_)
  exact FinH.zr h
 ·refine run_bk h fun v28 q h=>aj [false,false,false] (impl_within_sat q) (S ?_)
  refine ah cs h (fun cs h=>S ?_) fun cs h=>S ?_
  ·refine run_bk h fun v34 q h=>au (aE false) q (S ?_)
   exact FinH.zr h
  ·exact FinH.zr h

theorem impl_isPropVariable_sat{a0:Int}  {r:Bool}(h:impl_isPropVariable a0=some r):Sat ag 142 [(I a0)] (B r):=by
 obtain⟨h,cs⟩:=ap h
 unfold impl_isPropVariable at h
 refine ar 5 [.tmp 2] Tryz.func142 (h:=S ?_)
 refine run_bk h fun v4 q h=>aj [false,false,false] (impl_within_sat q) (S ?_)
 exact ai h

theorem slices_Index_Sint_int_sat{a0:List Int}{a1:Int}  {r:Int}(h:slices_Index_Sint_int a0 a1=some r):Sat ag 136 [(.sl false 1 (a0.map I)),(I a1)] (I r):=by
 obtain⟨h,cs⟩:=ap h
 unfold slices_Index_Sint_int at h
 refine ar 19 [.tmp 4] Tryz.func136 (h:=S ?_)
 refine aP (b:=false) (sz:=1) (es:=a0.map I) 0 SC fun hl0=>?_; rw[aD] at hl0
 refine aJ (run_loop h) (fun i2 s2=>[(0,.val (.pv (.sl false 1 (a0.map I)))),(1,.val (.pv (I a1))),(7,.val (.pv (I (a0.length:Int)))),(8,.val (.pv (I (i2:Int))))]) (fun i2 s2=>[]) (az SC) (fun i2 s2 hi h=>?_) (fun s2 h=>?_)
 ·have w:=wrap_s2 i2
  refine S ?_
  refine aF cs fun cs=>S ?_
  refine run_bk h fun v14 q h=>au I q (S ?_)
  refine ah cs h (fun cs h=>S ?_) fun cs h=>S ?_
  ·exact ai h
  ·exact aK h
 ·refine S ?_
  refine aG cs fun cs=>S ?_
  exact ai h

theorem slices_Contains_Sint_int_sat{a0:List Int}{a1:Int}  {r:Bool}(h:slices_Contains_Sint_int a0 a1=some r):Sat ag 97 [(.sl false 1 (a0.map I)),(I a1)] (B r):=by
 obtain⟨h,cs⟩:=ap h
 unfold slices_Contains_Sint_int at h
 refine ar 9 [.tmp 4] Tryz.func97 (h:=S ?_)
 refine run_bk h fun v7 q h=>aj [false,false] (slices_Index_Sint_int_sat q) (S ?_)
 exact ai h

theorem slices_Grow_Sint_int_nil0_sat{a1:Int}  {r:List Int}(h:slices_Grow_Sint_int_nil0 a1=some r):Sat ag 102 [(.lit (.slice none 0 0)),(I a1)] (.sl true 1 (r.map I)):=by
 obtain⟨h,cs⟩:=ap h
 unfold slices_Grow_Sint_int_nil0 at h
 refine Sat.of_nil (sz:=1) (nt:=27) (rs:=[.tmp 4]) (n:=100000) Tryz.func102 rfl rfl rfl rfl (by simp) (S ?_)
 refine ah cs h (fun cs h=>S ?_) fun cs h=>S ?_
 ·exact run_none h
 ·refine ah cs h (fun cs h=>S ?_) fun cs h=>S ?_
  ·refine run_bk h fun n22 q h=>AppzH.mk q (S ?_)
   refine run_bk h fun v25 q h=>SlcOH.mk (f:=I) q SC (S ?_)
   exact ai h
  ·exact ai h

theorem slices_Concat_Sint_int_sat{a0:List (List Int)}  {r:List Int}(h:slices_Concat_Sint_int a0=some r):Sat ag 61 [(.sl false 1 (a0.map (Lv false 1 I)))] (.sl true 1 (r.map I)):=by
 obtain⟨h,cs⟩:=ap h
 unfold slices_Concat_Sint_int at h
 refine ar 36 [.tmp 2] Tryz.func61 (h:=S ?_)
 refine aP (b:=false) (sz:=1) (es:=a0.map (Lv false 1 I)) 0 SC fun hl0=>?_; rw[aD] at hl0
 refine aJ (run_loop h) (fun i3 s3=>[(0,.val (.pv (.sl false 1 (a0.map (Lv false 1 I))))),(3,.val (.pv (I s3))),(9,.val (.pv (.sl false 1 (a0.map (Lv false 1 I))))),(10,.val (.pv (I (a0.length:Int)))),(11,.val (.pv (I (i3:Int))))]) (fun i3 s3=>[]) (az SC) (fun i3 s3 hi h=>?_) (fun s3 h=>?_)
 ·have w:=wrap_s2 i3
  refine S ?_
  refine aF cs fun cs=>S ?_
  refine run_bk h fun v13 q h=>au (Lv false 1 I) q (S ?_)
  refine ah cs h (fun cs h=>S ?_) fun cs h=>S ?_
  ·exact run_none h
  ·exact aK h
 ·refine S ?_
  refine aG cs fun cs=>S ?_
  refine run_bk h fun v24 q h=>CallH.nil0 (h:=slices_Grow_Sint_int_nil0_sat q) (by refine S ?_; exact NM) (S ?_)
  refine aP (b:=false) (sz:=1) (es:=a0.map (Lv false 1 I)) 0 SC fun hl0=>?_; rw[aD] at hl0
  refine aJ (run_loop h) (fun i11 s11=>[(6,.val (.own 384)),(25,.val (.pv (.sl false 1 (a0.map (Lv false 1 I))))),(26,.val (.pv (I (a0.length:Int)))),(27,.val (.pv (I (i11:Int))))]) (fun i11 s11=>[(384,(1,s11.map I))]) (az SC) (fun i11 s11 hi h=>?_) (fun s11 h=>?_)
  ·have w:=wrap_s2 i11
   refine S ?_
   refine aF cs fun cs=>S ?_
   refine run_bk h fun v29 q h=>au (Lv false 1 I) q (S ?_)
   refine run_bk h fun v33 q h=>AppH.c I (fun _=>rfl) q (S ?_)
   have h:=run_some h
   refine RdH.mk ⟨_,h,?_⟩
   refine bh 528 384 ?_
   exact az SWx
  ·refine S ?_
   exact ai h

theorem cmp_isNaN_int_sat{a0:Int}  {r:Bool}(h:cmp_isNaN_int a0=some r):Sat ag 202 [(I a0)] (B r):=by
 obtain⟨h,cs⟩:=ap h
 unfold cmp_isNaN_int at h
 refine ar 6 [.tmp 2] Tryz.func202 (h:=S ?_)
 exact ai h

theorem cmp_Compare_int_sat{a0:Int}{a1:Int}  {r:Int}(h:cmp_Compare_int a0 a1=some r):Sat ag 173 [(I a0),(I a1)] (I r):=by
 obtain⟨h,cs⟩:=ap h
 unfold cmp_Compare_int at h
 refine ar 20 [.tmp 4] Tryz.func173 (h:=S ?_)
 refine run_bk h fun v8 q h=>aj [false] (cmp_isNaN_int_sat q) (S ?_)
 refine run_bk h fun v10 q h=>aj [false] (cmp_isNaN_int_sat q) (S ?_)
 refine ah cs h (fun cs h=>S ?_) fun cs h=>S ?_
 refine ah cs h (fun cs h=>S ?_) fun cs h=>S ?_
 rotate_left 2
 refine ah cs h (fun cs h=>S ?_) fun cs h=>S ?_
 rotate_left
 refine ah cs h (fun cs h=>S ?_) fun cs h=>S ?_
 rotate_left
 refine ah cs h (fun cs h=>S ?_) fun cs h=>S ?_
 all_goals
  exact ai h

theorem impl_byVariable_sat{a0:Int}{a1:Int}  {r:Int}(h:impl_byVariable a0 a1=some r):Sat ag 144 [(I a0),(I a1)] (I r):=by
 obtain⟨h,cs⟩:=ap h
 unfold impl_byVariable at h
 refine ar 10 [.tmp 4] Tryz.func144 (h:=S ?_)
 refine run_bk h fun v6 q h=>aj [false] (impl_absolute_sat q) (S ?_)
 refine run_bk h fun v8 q h=>aj [false] (impl_absolute_sat q) (S ?_)
 refine run_bk h fun v9 q h=>aj [false,false] (cmp_Compare_int_sat q) (S ?_)
 exact ai h

theorem slices_SortFuncI_sat{a0:List Int}{r:Unit×List Int}(h:slices_SortFuncI a0=some r):SatIO ag 143 [.sl true 1 (a0.map I),.clo 144 []] [.sl true 1 (r.2.map I),.clo 144 []] (.tup []):=sortI_sat h

theorem impl_ResolveOn_sat{a0:List Int}{a1:List Int}{a2:Int}  {r:(List Int)×Bool}(h:impl_ResolveOn a0 a1 a2=some r):Sat ag 112 [(.sl false 1 (a0.map I)),(.sl false 1 (a1.map I)),(I a2)] (.tup [(.sl true 1 (r.1.map I)),(B r.2)]):=by
 obtain⟨h,cs⟩:=ap h
 unfold impl_ResolveOn at h
 refine ar 73 [.tmp 6,.tmp 7] Tryz.func112 (h:=S ?_)
 refine run_bk h fun v12 q h=>aj [false] (impl_isPropClause_sat q) (S ?_)
 refine ah cs h (fun cs h=>S ?_) fun cs h=>S ?_
 refine run_bk h fun v16 q h=>aj [false] (impl_isPropClause_sat q) (S ?_)
 refine ah cs h (fun cs h=>S ?_) fun cs h=>S ?_
 refine run_bk h fun v21 q h=>aj [false] (impl_isPropVariable_sat q) (S ?_)
 refine ah cs h (fun cs h=>S ?_) fun cs h=>S ?_
 refine run_bk h fun v27 q h=>aj [false,false] (slices_Contains_Sint_int_sat q) (S ?_)
 refine ah cs h (fun cs h=>S ?_) fun cs h=>S ?_
 refine run_bk h fun v34 q h=>aj [false,false] (slices_Contains_Sint_int_sat q) (S ?_)
 refine ah cs h (fun cs h=>S ?_) fun cs h=>S ?_
 ·refine run_bk h fun v41 q h=>aj [false] (slices_Concat_Sint_int_sat q) (S ?_)
  refine Mg.know_own (sz:=1) (es:=v41.map I) 656 SC fun hl656=>?_; rw[aD] at hl656
  refine aJ (run_loop h) (fun i5 s5=>[(2,.val (.pv (I a2))),(8,.val (.own 592)),(41,.val (.own 656)),(42,.val (.pv (I (v41.length:Int)))),(43,.val (.pv (I (i5:Int))))]) (fun i5 s5=>[(592,(1,s5.map I)),(656,(1,v41.map I))]) (az SC) (fun i5 s5 hi h=>?_) (fun s5 h=>?_)
  ·have w:=wrap_s2 i5
   refine S ?_
   refine aF cs fun cs=>S ?_
   refine run_bk h fun v45 q h=>au I q (S ?_)
   refine run_bk h fun v46 q h=>EldH.c I q (S ?_)
   refine ah cs h (fun cs h=>S ?_) fun cs h=>S ?_
   ·exact aK h
   ·refine ah cs h (fun cs h=>S ?_) fun cs h=>S ?_
    ·exact aK h
    ·refine run_bk h fun v59 q h=>aj [false,false] (slices_Contains_Sint_int_sat q) (S ?_)
     refine ah cs h (fun cs h=>S ?_) fun cs h=>S ?_
     ·exact aK h
     ·refine run_bk h fun v64 q h=>aj [false,false] (slices_Contains_Sint_int_sat q) (S ?_)
      refine ah cs h (fun cs h=>S ?_) fun cs h=>S ?_
      ·exact ai h
      ·refine run_bk h fun v68 q h=>AppH.c I (fun _=>rfl) q (S ?_)
       have h:=run_some h
       refine RdH.mk ⟨_,h,?_⟩
       refine bh 1088 592 ?_
       exact az SWx
  ·refine S ?_
   refine aG cs fun cs=>S ?_
   obtain⟨v71,hv71,h⟩:=run_bind h
   refine CallH.io0 [(.own 592),(.pv (.clo 144 []))] [(592,(1,v71.2.map I))] (slices_SortFuncI_sat hv71) SC (S ?_)
   exact ai h
 all_goals
  exact ai h

theorem slices_Equal_Sint_int_sat{a0:List Int}{a1:List Int}  {r:Bool}(h:slices_Equal_Sint_int a0 a1=some r):Sat ag 113 [(.sl false 1 (a0.map I)),(.sl false 1 (a1.map I))] (B r):=by
 obtain⟨h,cs⟩:=ap h
 unfold slices_Equal_Sint_int at h
 refine ar 26 [.tmp 4] Tryz.func113 (h:=S ?_)
 refine ah cs h (fun cs h=>S ?_) fun cs h=>S ?_
 ·refine aP (b:=false) (sz:=1) (es:=a0.map I) 0 SC fun hl0=>?_; rw[aD] at hl0
  refine aJ (run_loop h) (fun i4 s4=>[(0,.val (.pv (.sl false 1 (a0.map I)))),(1,.val (.pv (.sl false 1 (a1.map I)))),(12,.val (.pv (I (a0.length:Int)))),(13,.val (.pv (I (i4:Int))))]) (fun i4 s4=>[]) (az SC) (fun i4 s4 hi h=>?_) (fun s4 h=>?_)
  ·have w:=wrap_s2 i4
   refine S ?_
   refine aF cs fun cs=>S ?_
   refine run_bk h fun v18 q h=>au I q (S ?_)
   refine run_bk h fun v22 q h=>au I q (S ?_)
   refine ae (aX [] []) (S ?_)
   refine ah cs h (fun cs h=>S ?_) fun cs h=>S ?_
   ·exact aK h
   ·exact ai h
  ·refine S ?_
   refine aG cs fun cs=>S ?_
   exact ai h
 ·exact ai h

theorem impl_CheckRefutation_sat{a0:List (List Int)}{a1:List Pt}  {r:Int×Bool}(h:impl_CheckRefutation a0 a1=some r):Sat ag 73 [(.sl false 1 (a0.map (Lv false 1 I))),(.sl false 4 (a1.map (aE false)))] (.tup [(I r.1),(B r.2)]):=by
 obtain⟨h,cs⟩:=ap h
 unfold impl_CheckRefutation at h
 refine ar 87 [.tmp 4,.tmp 5] Tryz.func73 (h:=S ?_)
 refine run_bk h fun v15 q h=>aj [false] (impl_IsValidClauses_sat q) (S ?_)
 refine ah cs h (fun cs h=>S ?_) fun cs h=>S ?_
 refine run_bk h fun v20 q h=>aj [false,false,false] (impl_within_sat q) (S ?_)
 refine ah cs h (fun cs h=>S ?_) fun cs h=>S ?_
 ·refine aP (b:=false) (sz:=4) (es:=a1.map (aE false)) 1 SC fun hl1=>?_; rw[aD] at hl1
  refine aJ (run_loop h) (fun i4 s4=>[(0,.val (.pv (.sl false 1 (a0.map (Lv false 1 I))))),(1,.val (.pv (.sl false 4 (a1.map (aE false))))),(23,.val (.pv (.sl false 4 (a1.map (aE false))))),(24,.val (.pv (I (a1.length:Int)))),(25,.val (.pv (I (i4:Int))))]) (fun i4 s4=>[]) (az SC) (fun i4 s4 hi h=>?_) (fun s4 h=>?_)
  ·have w:=wrap_s2 i4
   refine S ?_
   refine aF cs fun cs=>S ?_
   refine run_bk h fun v28 q h=>au (aE false) q (S ?_)
   refine run_bk h fun v34 q h=>SlcH.mk (f:=(aE false)) q SC (S ?_)
   refine run_bk h fun v37 q h=>aj [false,false,false] (impl_clauseAt_sat q) (S ?_)
   refine ae (aX [] []) (S ?_)
   refine run_bk h fun v44 q h=>SlcH.mk (f:=(aE false)) q SC (S ?_)
   refine run_bk h fun v47 q h=>aj [false,false,false] (impl_clauseAt_sat q) (S ?_)
   refine ae (aX [] []) (S ?_)
   refine ah cs h (fun cs h=>S ?_) fun cs h=>S ?_
   refine ah cs h (fun cs h=>S ?_) fun cs h=>S ?_
   refine run_bk h fun v62 q h=>aj [false,false,false] (impl_ResolveOn_sat q) (S ?_)
   refine ah cs h (fun cs h=>S ?_) fun cs h=>S ?_
   refine run_bk h fun v71 q h=>aj [false,false] (slices_Equal_Sint_int_sat q) (S ?_)
   refine ah cs h (fun cs h=>S ?_) fun cs h=>S ?_
   ·exact aK h
   all_goals
    exact ai h
  ·refine S ?_
   refine aG cs fun cs=>S ?_
   refine run_bk h fun v80 q h=>au (aE false) q (S ?_)
   refine ah cs h (fun cs h=>S ?_) fun cs h=>S ?_
   ·exact ai h
   ·exact ai h
 all_goals
  exact ai h

theorem impl_isPropRefutation_sat{a0:List (List Int)}{a1:List Pt}  {r:Bool}(h:impl_isPropRefutation a0 a1=some r):Sat ag 37 [(.sl false 1 (a0.map (Lv false 1 I))),(.sl false 4 (a1.map (aE false)))] (B r):=by
 obtain⟨h,cs⟩:=ap h
 unfold impl_isPropRefutation at h
 refine ar 18 [.tmp 4] Tryz.func37 (h:=S ?_)
 refine run_bk h fun v10 q h=>aj [false,false] (impl_CheckRefutation_sat q) (S ?_)
 refine ah cs h (fun cs h=>S ?_) fun cs h=>S ?_
 ·exact ai h
 ·exact ai h

theorem impl_isSplit_sat{a0:List (List Int)}{a1:Int}  {r:Bool}(h:impl_isSplit a0 a1=some r):Sat ag 38 [(.sl false 1 (a0.map (Lv false 1 I))),(I a1)] (B r):=by
 obtain⟨h,cs⟩:=ap h
 unfold impl_isSplit at h
 refine ar 13 [.tmp 4] Tryz.func38 (h:=S ?_)
 refine run_bk h fun v6 q h=>aj [false] (impl_IsValidClauses_sat q) (S ?_)
 refine ah cs h (fun cs h=>S ?_) fun cs h=>S ?_
 ·refine run_bk h fun v11 q h=>aj [false,false,false] (impl_within_sat q) (S ?_)
  exact ai h
 ·exact ai h

theorem impl_greatest_sat{a0:List (List Int)}  {r:Int}(h:impl_greatest a0=some r):Sat ag 75 [(.sl false 1 (a0.map (Lv false 1 I)))] (I r):=by
 obtain⟨h,cs⟩:=ap h
 unfold impl_greatest at h
 refine ar 27 [.tmp 2] Tryz.func75 (h:=S ?_)
 refine aP (b:=false) (sz:=1) (es:=a0.map (Lv false 1 I)) 0 SC fun hl0=>?_; rw[aD] at hl0
 refine aJ (run_loop h) (fun i3 s3=>[(3,.val (.pv (I s3))),(8,.val (.pv (.sl false 1 (a0.map (Lv false 1 I))))),(9,.val (.pv (I (a0.length:Int)))),(10,.val (.pv (I (i3:Int))))]) (fun i3 s3=>[]) (az SC) (fun i3 s3 hi h=>?_) (fun s3 h=>?_)
 ·have w:=wrap_s2 i3
  refine S ?_
  refine aF cs fun cs=>S ?_
  refine run_bk h fun v12 q h=>au (Lv false 1 I) q (S ?_)
  refine aP (b:=false) (sz:=1) (es:=v12.map I) 5 SC fun hl5=>?_; rw[aD] at hl5
  refine aJ (run_loop h) (fun i6 s6=>[(3,.val (.pv (I s6))),(8,.val (.pv (.sl false 1 (a0.map (Lv false 1 I))))),(9,.val (.pv (I (a0.length:Int)))),(10,.val (.pv (I (i3:Int)))),(14,.val (.pv (.sl false 1 (v12.map I)))),(15,.val (.pv (I (v12.length:Int)))),(16,.val (.pv (I (i6:Int))))]) (fun i6 s6=>[]) (az SC) (fun i6 s6 hi h=>?_) (fun s6 h=>?_)
  ·have w:=ae (wrap_s2 i6) w
   refine S ?_
   refine aF cs fun cs=>S ?_
   refine run_bk h fun v18 q h=>au I q (S ?_)
   refine run_bk h fun v22 q h=>aj [false] (impl_absolute_sat q) (S ?_)
   exact aK h
  ·refine S ?_
   refine aG cs fun cs=>S ?_
   exact aK h
 ·refine S ?_
  refine aG cs fun cs=>S ?_
  exact ai h

theorem impl_colors_sat{a0:List (List Int)}{a1:Int}  {r:List Int}(h:impl_colors a0 a1=some r):Sat ag 40 [(.sl false 1 (a0.map (Lv false 1 I))),(I a1)] (.sl true 1 (r.map I)):=by
 obtain⟨h,cs⟩:=ap h
 unfold impl_colors at h
 refine ar 42 [.tmp 4] Tryz.func40 (h:=S ?_)
 refine run_bk h fun v12 q h=>aj [false] (impl_greatest_sat q) (S ?_)
 refine run_bk h fun n13 q h=>MknH.mk q (S ?_)
 refine aP (b:=false) (sz:=1) (es:=a0.map (Lv false 1 I)) 0 SC fun hl0=>?_; rw[aD] at hl0
 refine aJ (run_loop h) (fun i3 s3=>[(1,.val (.pv (I a1))),(5,.val (.own 208)),(14,.val (.pv (.sl false 1 (a0.map (Lv false 1 I))))),(15,.val (.pv (I (a0.length:Int)))),(16,.val (.pv (I (i3:Int))))]) (fun i3 s3=>[(208,(1,s3.map I))]) (az SC) (fun i3 s3 hi h=>?_) (fun s3 h=>?_)
 ·have w:=wrap_s2 i3
  refine S ?_
  refine aF cs fun cs=>S ?_
  refine run_bk h fun v19 q h=>au (Lv false 1 I) q (S ?_)
  refine ah cs h (fun cs h=>S ?_) fun cs h=>S ?_
  ·refine aP (b:=false) (sz:=1) (es:=v19.map I) 7 SC fun hl7=>?_; rw[aD] at hl7
   refine aJ (run_loop h) (fun i9 s9=>[(1,.val (.pv (I a1))),(5,.val (.own 208)),(8,.val (.pv (I 2))),(14,.val (.pv (.sl false 1 (a0.map (Lv false 1 I))))),(15,.val (.pv (I (a0.length:Int)))),(16,.val (.pv (I (i3:Int)))),(24,.val (.pv (.sl false 1 (v19.map I)))),(25,.val (.pv (I (v19.length:Int)))),(26,.val (.pv (I (i9:Int))))]) (fun i9 s9=>[(208,(1,s9.map I))]) (az SC) (fun i9 s9 hi h=>?_) (fun s9 h=>?_)
   ·have w:=ae (wrap_s2 i9) w
    refine S ?_
    refine aF cs fun cs=>S ?_
    refine run_bk h fun v28 q h=>au I q (S ?_)
    refine run_bk h fun v32 q h=>aj [false] (impl_absolute_sat q) (S ?_)
    refine run_bk h fun v34 q h=>au I q (S ?_)
    refine run_bk h fun v35 q h=>EldH.c I q (S ?_)
    refine run_bk h fun v38 q h=>au I q (S ?_)
    refine run_bk h fun w4 q h=>EldH.c I q (S ?_)
    exact aK h
   ·refine S ?_
    refine aG cs fun cs=>S ?_
    exact aK h
  ·refine aP (b:=false) (sz:=1) (es:=v19.map I) 7 SC fun hl7=>?_; rw[aD] at hl7
   refine aJ (run_loop h) (fun i9 s9=>[(1,.val (.pv (I a1))),(5,.val (.own 208)),(8,.val (.pv (I 1))),(14,.val (.pv (.sl false 1 (a0.map (Lv false 1 I))))),(15,.val (.pv (I (a0.length:Int)))),(16,.val (.pv (I (i3:Int)))),(24,.val (.pv (.sl false 1 (v19.map I)))),(25,.val (.pv (I (v19.length:Int)))),(26,.val (.pv (I (i9:Int))))]) (fun i9 s9=>[(208,(1,s9.map I))]) (az SC) (fun i9 s9 hi h=>?_) (fun s9 h=>?_)
   ·have w:=ae (wrap_s2 i9) w
    refine S ?_
    refine aF cs fun cs=>S ?_
    refine run_bk h fun v28 q h=>au I q (S ?_)
    refine run_bk h fun v32 q h=>aj [false] (impl_absolute_sat q) (S ?_)
    refine run_bk h fun v34 q h=>au I q (S ?_)
    refine run_bk h fun v35 q h=>EldH.c I q (S ?_)
    refine run_bk h fun v38 q h=>au I q (S ?_)
    refine run_bk h fun w7 q h=>EldH.c I q (S ?_)
    exact aK h
   ·refine S ?_
    refine aG cs fun cs=>S ?_
    exact aK h
 ·refine S ?_
  refine aG cs fun cs=>S ?_
  exact ai h

theorem slices_Clone_Sint_int_sat{a0:List Int}  {r:List Int}(h:slices_Clone_Sint_int a0=some r):Sat ag 79 [(.sl false 1 (a0.map I))] (.sl true 1 (r.map I)):=by
 obtain⟨h,cs⟩:=ap h
 unfold slices_Clone_Sint_int at h
 refine ar 8 [.tmp 2] Tryz.func79 (h:=S ?_)
 refine NilH.mk (fun e=>?_) ?_
 ·obtain rfl:a0=[]:=List.map_eq_nil_iff.1 e
  simp only[app_nn,Option.bind_some] at h
  refine S ?_
  exact ai h
 ·skip
  refine S ?_
  refine run_bk h fun v7 q h=>AppH.c I (fun _=>rfl) q (S ?_)
  exact ai h

theorem impl_interpolation__ofClause_1_sat{a0:Int}{b0:ia}  {r:Bool}(h:impl_interpolation__ofClause_1 a0 b0=some r):Sat ag 80 [(I a0),.ptr (.ptr ((ia.pv false) b0))] (B r):=by
 obtain⟨h,cs⟩:=ap h
 unfold impl_interpolation__ofClause_1 at h
 refine ar 15 [.tmp 3] Tryz.func80 (h:=S ?_)
 refine run_bk h fun v9 q h=>aj [false] (impl_absolute_sat q) (S ?_)
 refine run_bk h fun v11 q h=>au I q (S ?_)
 refine ae (aX [] []) (S ?_)
 exact ai h

theorem slices_IndexFunc_Sint_int_sat{a0:List Int}{a1:Int→Option Bool}{a1_id:FuncId}{a1_cs:List PV}(a1_ok:∀ y0 r,a1 y0=some r→Sat ag a1_id ((I y0)::a1_cs) (B r))(a1_cz:CapsOk a1_cs=True){r:Int}(h:slices_IndexFunc_Sint_int a0 a1=some r):Sat ag 94 [(.sl false 1 (a0.map I)),.clo a1_id a1_cs] (I r):=by
 obtain⟨h,cs⟩:=ap h
 unfold slices_IndexFunc_Sint_int at h
 have cs:=ae a1_cz cs
 refine ar 19 [.tmp 4] Tryz.func94 (h:=S ?_)
 refine aP (b:=false) (sz:=1) (es:=a0.map I) 0 SC fun hl0=>?_; rw[aD] at hl0
 refine aJ (run_loop h) (fun i2 s2=>[(0,.val (.pv (.sl false 1 (a0.map I)))),(1,.val (.pv (.clo a1_id a1_cs))),(7,.val (.pv (I (a0.length:Int)))),(8,.val (.pv (I (i2:Int))))]) (fun i2 s2=>[]) (az SC) (fun i2 s2 hi h=>?_) (fun s2 h=>?_)
 ·have w:=wrap_s2 i2
  refine S ?_
  refine aF cs fun cs=>S ?_
  refine run_bk h fun v14 q h=>au I q (S ?_)
  refine run_bk h fun v16 q h=>aj [false] (a1_ok _ _ q) (S ?_)
  refine ah cs h (fun cs h=>S ?_) fun cs h=>S ?_
  ·exact ai h
  ·exact aK h
 ·refine S ?_
  refine aG cs fun cs=>S ?_
  exact ai h

theorem slices_DeleteFunc_Sint_int_sat{a0:List Int}{a1:Int→Option Bool}{a1_id:FuncId}{a1_cs:List PV}(a1_ok:∀ y0 r,a1 y0=some r→Sat ag a1_id ((I y0)::a1_cs) (B r))(a1_cz:CapsOk a1_cs=True){r:List Int}(h:slices_DeleteFunc_Sint_int a0 a1=some r):Sat ag 78 [(.sl true 1 (a0.map I)),.clo a1_id a1_cs] (.sl true 1 (r.map I)):=by
 obtain⟨h,cs⟩:=ap h
 unfold slices_DeleteFunc_Sint_int at h
 have cs:=ae a1_cz cs
 refine ar 42 [.tmp 4] Tryz.func78 (h:=S ?_)
 refine run_bk h fun v10 q h=>aj [false,false] (slices_IndexFunc_Sint_int_sat a1_ok a1_cz q) (S ?_)
 refine ah cs h (fun cs h=>S ?_) fun cs h=>S ?_
 ·exact ai h
 ·replace h:=run_loop h
  refine Mg.whileN h (fun s5=>[(0,.val (.own 9000)),(1,.val (.pv (.clo a1_id a1_cs))),(5,.val (.pv (I s5.2.2))),(6,.val (.pv (I s5.1)))]) (fun s5=>[(9000,(1,s5.2.1.map I))]) (az SC) (fun n5 s5 h=>?_)
  refine S ?_
  refine ah cs h (fun cs h=>S ?_) fun cs h=>S ?_
  ·refine run_bk h fun v24 q h=>au I q (S ?_)
   refine run_bk h fun v25 q h=>EldH.c I q (S ?_)
   refine run_bk h fun v28 q h=>aj [false] (a1_ok _ _ q) (S ?_)
   refine ah cs h (fun cs h=>S ?_) fun cs h=>S ?_
   ·have h:=run_some h
    refine RdH.mk ⟨_,h,?_⟩
    exact az SC
   ·refine run_bk h fun v33 q h=>au I q (S ?_)
    refine run_bk h fun w4 q h=>EldH.c I q (S ?_)
    have h:=run_some h
    refine RdH.mk ⟨_,h,?_⟩
    exact az SC
  ·have h:=run_some h
   refine run_bk h fun v38 q h=>SlcOH.sub (f:=I) q SC (S ?_)
   refine run_bk h fun r5 q h=>ClearH.sub (f:=I) (c:=9000) (xs:=s5.2.1) (lo:=s5.2.2) (es:=(s5.2.1).map I) (z0:=0) (z:=.int .i64 0) (l:=Int.toNat (s5.2.2)) (m:=(s5.2.1).length) (fun _=>rfl) q rfl rfl Tryz.underlying55 Tryz.zeroValue3 rfl rfl rfl sl_55 (by first | exact SC | (refine S ?_; rfl)) SC rfl rfl rfl (S ?_)
   refine run_bk h fun v41 q h=>SlcOH.mk (f:=I) q SC (S ?_)
   exact ai h

theorem strconv_small_sat{a0:Int}  {r:ByteArray}(h:strconv_small a0=some r):Sat ag 203 [(I a0)] (Sx r):=by
 obtain⟨h,cs⟩:=ap h
 unfold strconv_small at h
 refine ar 15 [.tmp 2] Tryz.func203 (h:=S ?_)
 refine ah cs h (fun cs h=>S ?_) fun cs h=>S ?_
 ·refine run_bk h fun v8 q h=>SslcH.mk q (S ?_)
  exact ai h
 ·refine run_bk h fun v14 q h=>SslcH.mk q (S ?_)
  exact ai h

theorem bits_Len64_sat{a0:Int}  {r:Int}(h:bits_Len64 a0=some r):Sat ag 201 [((Ik .u64) a0)] (I r):=by
 obtain⟨h,cs⟩:=ap h
 unfold bits_Len64 at h
 refine ar 25 [.tmp 2] Tryz.func201 (h:=S ?_)
 refine ah cs h (fun cs h=>S ?_) fun cs h=>S ?_
 refine run_bk h fun v6 q h=>ShrH.mk q (S ?_)
 refine ah cs h (fun cs h=>S ?_) fun cs h=>S ?_
 refine run_bk h fun v10 q h=>ShrH.mk q (S ?_)
 refine ah cs h (fun cs h=>S ?_) fun cs h=>S ?_
 rotate_left 2
 refine ah cs h (fun cs h=>S ?_) fun cs h=>S ?_
 rotate_left 2
 refine ah cs h (fun cs h=>S ?_) fun cs h=>S ?_
 refine run_bk h fun v10 q h=>ShrH.mk q (S ?_)
 refine ah cs h (fun cs h=>S ?_) fun cs h=>S ?_
 rotate_left 2
 refine ah cs h (fun cs h=>S ?_) fun cs h=>S ?_
 rotate_left
 ·refine run_bk h fun v22 q h=>bd q (S ?_)
  exact ai h
 rotate_left
 ·refine run_bk h fun v22 q h=>bd q (S ?_)
  exact ai h
 rotate_left
 ·refine run_bk h fun v22 q h=>bd q (S ?_)
  exact ai h
 rotate_left
 ·refine run_bk h fun v22 q h=>bd q (S ?_)
  exact ai h
 all_goals
  refine run_bk h fun v16 q h=>ShrH.mk q (S ?_)
  refine run_bk h fun v22 q h=>bd q (S ?_)
  exact ai h

theorem strconv_log10Pow2_sat{a0:Int}  {r:Int}(h:strconv_log10Pow2 a0=some r):Sat ag 215 [(I a0)] (I r):=by
 obtain⟨h,cs⟩:=ap h
 unfold strconv_log10Pow2 at h
 refine ar 6 [.tmp 2] Tryz.func215 (h:=S ?_)
 refine run_bk h fun v5 q h=>ShrH.mk q (S ?_)
 exact ai h

theorem strconv_bool2_int_sat{a0:Bool}  {r:Int}(h:strconv_bool2_int a0=some r):Sat ag 216 [(B a0)] (I r):=by
 obtain⟨h,cs⟩:=ap h
 unfold strconv_bool2_int at h
 refine ar 4 [.tmp 2] Tryz.func216 (h:=S ?_)
 refine ah cs h (fun cs h=>S ?_) fun cs h=>S ?_
 ·exact ai h
 ·exact ai h

theorem strconv_isPowerOfTwo_sat{a0:Int}  {r:Bool}(h:strconv_isPowerOfTwo a0=some r):Sat ag 217 [(I a0)] (B r):=by
 obtain⟨h,cs⟩:=ap h
 unfold strconv_isPowerOfTwo at h
 refine ar 8 [.tmp 2] Tryz.func217 (h:=S ?_)
 exact ai h

theorem strconv_formatBits_sat{a0:List Int}{a1:Int}{a2:Int}{a3:Bool}{a4:Bool}  {r:(List Int)×ByteArray}(h:strconv_formatBits a0 a1 a2 a3 a4=some r):Sat ag 206 [(.sl false 1 (a0.map (Ik .u8))),((Ik .u64) a1),(I a2),(B a3),(B a4)] (.tup [(.sl true 1 (r.1.map (Ik .u8))),(Sx r.2)]):=by
 obtain⟨h,cs⟩:=ap h
 unfold strconv_formatBits at h
 refine ar 102 [.tmp 10,.tmp 11] Tryz.func206 (h:=S ?_)
 refine ah cs h (fun cs h=>S ?_) fun cs h=>S ?_
 rotate_left
 refine ah cs h (fun cs h=>S ?_) fun cs h=>S ?_
 rotate_left
 refine ah cs h (fun cs h=>S ?_) fun cs h=>S ?_
 all_goals
  exact run_none h

theorem strconv_FormatInt_sat{a0:Int}{a1:Int}  {r:ByteArray}(h:strconv_FormatInt a0 a1=some r):Sat ag 176 [(I a0),(I a1)] (Sx r):=by
 obtain⟨h,cs⟩:=ap h
 unfold strconv_FormatInt at h
 refine ar 54 [.tmp 4] Tryz.func176 (h:=S ?_)
 refine ah cs h (fun cs h=>S ?_) fun cs h=>S ?_
 ·refine ah cs h (fun cs h=>S ?_) fun cs h=>S ?_
  ·refine ah cs h (fun cs h=>S ?_) fun cs h=>S ?_
   ·refine run_bk h fun v19 q h=>aj [false] (strconv_small_sat q) (S ?_)
    exact ai h
   ·exact run_none h
  ·exact run_none h
 ·refine run_bk h fun v50 q h=>aj [false,false,false,false,false] (strconv_formatBits_sat q) (S ?_)
  exact ai h

theorem strconv_Itoa_148_sat{a0:Int}  {r:ByteArray}(h:strconv_Itoa_148 a0=some r):Sat ag 148 [(I a0)] (Sx r):=by
 obtain⟨h,cs⟩:=ap h
 unfold strconv_Itoa_148 at h
 refine ar 5 [.tmp 2] Tryz.func148 (h:=S ?_)
 refine run_bk h fun v4 q h=>aj [false,false] (strconv_FormatInt_sat q) (S ?_)
 exact ai h

theorem strconv_Itoa_sat{a0:Int}  {r:ByteArray}(h:strconv_Itoa a0=some r):Sat ag 119 [(I a0)] (Sx r):=by
 obtain⟨h,cs⟩:=ap h
 unfold strconv_Itoa at h
 refine ar 5 [.tmp 2] Tryz.func119 (h:=S ?_)
 refine run_bk h fun v4 q h=>aj [false] (strconv_Itoa_148_sat q) (S ?_)
 exact ai h

theorem impl_atomOf_sat{a0:Tt}  {r:Ft}(h:impl_atomOf a0=some r):Sat ag 118 [((aq false) a0)] ((am false) r):=by
 obtain⟨h,cs⟩:=ap h
 unfold impl_atomOf at h
 refine ar 5 [.cell 2 42] Tryz.func118 (h:=S ?_)
 exact FinH.zr h

theorem impl_not_sat{a0:Ft}  {r:Ft}(h:impl_not a0=some r):Sat ag 120 [((am false) a0)] ((am false) r):=by
 obtain⟨h,cs⟩:=ap h
 unfold impl_not at h
 refine ar 6 [.cell 2 42] Tryz.func120 (h:=S ?_)
 exact FinH.zr h

theorem impl_variableFormula_sat{a0:Int}  {r:Ft}(h:impl_variableFormula a0=some r):Sat ag 83 [(I a0)] ((am false) r):=by
 obtain⟨h,cs⟩:=ap h
 unfold impl_variableFormula at h
 refine ar 15 [.cell 2 42] Tryz.func83 (h:=S ?_)
 refine run_bk h fun v5 q h=>aj [false] (impl_absolute_sat q) (S ?_)
 refine run_bk h fun v6 q h=>aj [false] (strconv_Itoa_sat q) (S ?_)
 refine run_bk h fun v7 q h=>SappH.mk q (S ?_)
 refine run_bk h fun v9 q h=>aj [false] (impl_atomOf_sat q) (S ?_)
 refine ah cs h (fun cs h=>S ?_) fun cs h=>S ?_
 ·refine run_bk h fun v13 q h=>aj [false] (impl_not_sat q) (S ?_)
  exact FinH.zr h
 ·exact FinH.zr h

theorem impl_binary_sat{a0:Int}{a1:Ft}{a2:Ft}  {r:Ft}(h:impl_binary a0 a1 a2=some r):Sat ag 146 [(I a0),((am false) a1),((am false) a2)] ((am false) r):=by
 obtain⟨h,cs⟩:=ap h
 unfold impl_binary at h
 refine ar 12 [.cell 6 42] Tryz.func146 (h:=S ?_)
 exact FinH.zr h

theorem impl_combined_sat{a0:Int}{a1:List Ft}{a2:Ft}{r:Ft}(h:impl_combined a0 a1 a2=some r):Sat ag 116 [I a0,.sl false 5 (a1.map (am false)),am false a2] (am false r):=by
 cases h
 exact comb_sat (fun f o=>(impl_binary a0 f o).getD default) a0 (fun f o=>by obtain⟨r,hr⟩:∃ r,impl_binary a0 f o=some r:=⟨_,rfl⟩; rw[hr]; exact impl_binary_sat hr) a1 a2

theorem impl_clauseFormula_sat{a0:List Int}  {r:Ft}(h:impl_clauseFormula a0=some r):Sat ag 77 [(.sl false 1 (a0.map I))] ((am false) r):=by
 obtain⟨h,cs⟩:=ap h
 unfold impl_clauseFormula at h
 refine ar 22 [.cell 2 42] Tryz.func77 (h:=S ?_)
 refine aP (b:=false) (sz:=1) (es:=a0.map I) 0 SC fun hl0=>?_; rw[aD] at hl0
 refine aJ (run_loop h) (fun i3 s3=>[(2,.box zab0),(3,.val (.own 96)),(7,.val (.pv (.sl false 1 (a0.map I)))),(8,.val (.pv (I (a0.length:Int)))),(9,.val (.pv (I (i3:Int))))]) (fun i3 s3=>[(96,(5,s3.map (am false)))]) (az SC) (fun i3 s3 hi h=>?_) (fun s3 h=>?_)
 ·have w:=wrap_s2 i3
  refine S ?_
  refine aF cs fun cs=>S ?_
  refine run_bk h fun v11 q h=>au I q (S ?_)
  refine run_bk h fun v15 q h=>aj [false] (impl_variableFormula_sat q) (S ?_)
  refine run_bk h fun v17 q h=>AppH.c (am false) (fun a=>Ft.psize _ a) q (S ?_)
  have h:=run_some h
  refine RdH.mk ⟨_,h,?_⟩
  refine bh 272 96 ?_
  exact az SWx
 ·refine S ?_
  refine aG cs fun cs=>S ?_
  refine run_bk h fun v21 q h=>aj [false,true,true] (Sat.give (args:=[(I 6),(.sl true 5 (s3.map (am false))),(.agg [(I 2),(.agg [(Sx ⟨#[]⟩),(.sl true 2 [])]),(Sx ⟨#[]⟩),(.sl true 5 [])])]) [false,true,true] (by have gg:=impl_combined_sat q; simp only[gv_t,gv_f,gv_n,view_sl,view_agg,view_lit,views_repB,views_repI,aB,RB,RS] at gg ⊢; exact gg)) (S ?_)
  exact FinH.zr h

theorem impl_interpolation__ofClause_sat{a0:ia}{a1:Int}  {r:Ft}(h:impl_interpolation__ofClause a0 a1=some r):Sat ag 41 [(.ptr ((ia.pv false) a0)),(I a1)] ((am false) r):=by
 obtain⟨h,cs⟩:=ap h
 unfold impl_interpolation__ofClause at h
 refine ar 31 [.cell 4 42] Tryz.func41 (h:=S ?_)
 refine ah cs h (fun cs h=>S ?_) fun cs h=>S ?_
 ·exact FinH.zr h
 ·refine ah cs h (fun cs h=>S ?_) fun cs h=>S ?_
  ·exact FinH.zr h
  ·refine run_bk h fun v25 q h=>au (Lv false 1 I) q (S ?_)
   refine run_bk h fun v27 q h=>aj [false] (slices_Clone_Sint_int_sat q) (S ?_)
   refine MfH.fr (S ?_)
   refine run_bk h fun v29 q h=>aj [true,false] (slices_DeleteFunc_Sint_int_sat (fun _ _ hh=>impl_interpolation__ofClause_1_sat hh) (by simp only[CapsOk_nil,CapsOk_cons]) q) (S ?_)
   refine run_bk h fun v30 q h=>aj [true] (Sat.give (args:=[(.sl true 1 (v29.map I))]) [true] (by have gg:=impl_clauseFormula_sat q; simp only[gv_t,gv_f,gv_n,view_sl,view_agg,view_lit,views_repB,views_repI,aB,RB,RS] at gg ⊢; exact gg)) (S ?_)
   exact FinH.zr h

theorem slices_EqualFunc_Simpl_Term_Simpl_Term_impl_Term_impl_Term_sat{a0:List Tt}{a1:List Tt}{a2:Tt→Tt→Option Bool}{a2_id:FuncId}{a2_cs:List PV}(a2_ok:∀ y0 y1 r,a2 y0 y1=some r→Sat ag a2_id (((aq false) y0)::((aq false) y1)::a2_cs) (B r))(a2_cz:CapsOk a2_cs=True){r:Bool}(h:slices_EqualFunc_Simpl_Term_Simpl_Term_impl_Term_impl_Term a0 a1 a2=some r):Sat ag 186 [(.sl false 2 (a0.map (aq false))),(.sl false 2 (a1.map (aq false))),.clo a2_id a2_cs] (B r):=by
 obtain⟨h,cs⟩:=ap h
 unfold slices_EqualFunc_Simpl_Term_Simpl_Term_impl_Term_impl_Term at h
 have cs:=ae a2_cz cs
 refine ar 32 [.tmp 6] Tryz.func186 (h:=S ?_)
 refine ah cs h (fun cs h=>S ?_) fun cs h=>S ?_
 ·refine aP (b:=false) (sz:=2) (es:=a0.map (aq false)) 0 SC fun hl0=>?_; rw[aD] at hl0
  refine aJ (run_loop h) (fun i4 s4=>[(1,.val (.pv (.sl false 2 (a1.map (aq false))))),(2,.val (.pv (.clo a2_id a2_cs))),(15,.val (.pv (.sl false 2 (a0.map (aq false))))),(16,.val (.pv (I (a0.length:Int)))),(17,.val (.pv (I (i4:Int))))]) (fun i4 s4=>[]) (az SC) (fun i4 s4 hi h=>?_) (fun s4 h=>?_)
  ·have w:=wrap_s2 i4
   refine S ?_
   refine aF cs fun cs=>S ?_
   refine run_bk h fun v20 q h=>au (aq false) q (S ?_)
   refine run_bk h fun v24 q h=>au (aq false) q (S ?_)
   refine run_bk h fun v29 q h=>aj [false,false] (a2_ok _ _ _ q) (S ?_)
   refine ah cs h (fun cs h=>S ?_) fun cs h=>S ?_
   ·exact aK h
   ·exact ai h
  ·refine S ?_
   refine aG cs fun cs=>S ?_
   exact ai h
 ·exact ai h

theorem impl_EqualTermsN_sat(n:Nat):(∀ (a0:Tt) (a1:Tt) (r:Bool),impl_EqualTermsN n a0 a1=some r→Sat ag 165 [((aq false) a0),((aq false) a1)] (B r)):=by
 induction n with
 | zero=>exact fun _ _ _ h=>by simp[impl_EqualTermsN] at h
 | succ n ih=>
  refine fun a0 a1 r h=>?_
  obtain⟨h,cs⟩:=ap h
  rw[impl_EqualTermsN] at h
  refine ar 17 [.tmp 4] Tryz.func165 (h:=S ?_)
  refine ah cs h (fun cs h=>S ?_) fun cs h=>S ?_
  ·refine run_bk h fun v15 q h=>aj [false,false,false] (slices_EqualFunc_Simpl_Term_Simpl_Term_impl_Term_impl_Term_sat (fun _ _ _ hh=>ih _ _ _ hh) (by simp only[CapsOk_nil,CapsOk_cons]) q) (S ?_)
   exact ai h
  ·exact ai h
theorem impl_EqualTerms_sat{a0:Tt}{a1:Tt}{r:Bool}(h:impl_EqualTerms a0 a1=some r):Sat ag 165 [((aq false) a0),((aq false) a1)] (B r):=by
 obtain⟨n,hn⟩:=lim_some h
 exact(impl_EqualTermsN_sat n) _ _ _ hn

theorem slices_EqualFunc_Simpl_Formula_Simpl_Formula_impl_Formula_impl_Formula_sat{a0:List Ft}{a1:List Ft}{a2:Ft→Ft→Option Bool}{a2_id:FuncId}{a2_cs:List PV}(a2_ok:∀ y0 y1 r,a2 y0 y1=some r→Sat ag a2_id (((am false) y0)::((am false) y1)::a2_cs) (B r))(a2_cz:CapsOk a2_cs=True){r:Bool}(h:slices_EqualFunc_Simpl_Formula_Simpl_Formula_impl_Formula_impl_Formula a0 a1 a2=some r):Sat ag 175 [(.sl false 5 (a0.map (am false))),(.sl false 5 (a1.map (am false))),.clo a2_id a2_cs] (B r):=by
 obtain⟨h,cs⟩:=ap h
 unfold slices_EqualFunc_Simpl_Formula_Simpl_Formula_impl_Formula_impl_Formula at h
 have cs:=ae a2_cz cs
 refine ar 32 [.tmp 6] Tryz.func175 (h:=S ?_)
 refine ah cs h (fun cs h=>S ?_) fun cs h=>S ?_
 ·refine aP (b:=false) (sz:=5) (es:=a0.map (am false)) 0 SC fun hl0=>?_; rw[aD] at hl0
  refine aJ (run_loop h) (fun i4 s4=>[(1,.val (.pv (.sl false 5 (a1.map (am false))))),(2,.val (.pv (.clo a2_id a2_cs))),(15,.val (.pv (.sl false 5 (a0.map (am false))))),(16,.val (.pv (I (a0.length:Int)))),(17,.val (.pv (I (i4:Int))))]) (fun i4 s4=>[]) (az SC) (fun i4 s4 hi h=>?_) (fun s4 h=>?_)
  ·have w:=wrap_s2 i4
   refine S ?_
   refine aF cs fun cs=>S ?_
   refine run_bk h fun v20 q h=>au (am false) q (S ?_)
   refine run_bk h fun v24 q h=>au (am false) q (S ?_)
   refine run_bk h fun v29 q h=>aj [false,false] (a2_ok _ _ _ q) (S ?_)
   refine ah cs h (fun cs h=>S ?_) fun cs h=>S ?_
   ·exact aK h
   ·exact ai h
  ·refine S ?_
   refine aG cs fun cs=>S ?_
   exact ai h
 ·exact ai h

theorem impl_sameFormulaN_sat(n:Nat):(∀ (a0:Ft) (a1:Ft) (r:Bool),impl_sameFormulaN n a0 a1=some r→Sat ag 147 [((am false) a0),((am false) a1)] (B r)):=by
 induction n with
 | zero=>exact fun _ _ _ h=>by simp[impl_sameFormulaN] at h
 | succ n ih=>
  refine fun a0 a1 r h=>?_
  obtain⟨h,cs⟩:=ap h
  rw[impl_sameFormulaN] at h
  refine ar 31 [.tmp 4] Tryz.func147 (h:=S ?_)
  refine ah cs h (fun cs h=>S ?_) fun cs h=>S ?_
  refine run_bk h fun v15 q h=>aj [false,false] (impl_EqualTerms_sat q) (S ?_)
  refine ah cs h (fun cs h=>S ?_) fun cs h=>S ?_
  refine ah cs h (fun cs h=>S ?_) fun cs h=>S ?_
  ·refine run_bk h fun v29 q h=>aj [false,false,false] (slices_EqualFunc_Simpl_Formula_Simpl_Formula_impl_Formula_impl_Formula_sat (fun _ _ _ hh=>ih _ _ _ hh) (by simp only[CapsOk_nil,CapsOk_cons]) q) (S ?_)
   exact ai h
  all_goals
   exact ai h
theorem impl_sameFormula_sat{a0:Ft}{a1:Ft}{r:Bool}(h:impl_sameFormula a0 a1=some r):Sat ag 147 [((am false) a0),((am false) a1)] (B r):=by
 obtain⟨n,hn⟩:=lim_some h
 exact(impl_sameFormulaN_sat n) _ _ _ hn

theorem impl_simplified_sat{a0:Int}{a1:Int}{a2:Int}{a3:Ft}{a4:Ft}  {r:Ft}(h:impl_simplified a0 a1 a2 a3 a4=some r):Sat ag 117 [(I a0),(I a1),(I a2),((am false) a3),((am false) a4)] ((am false) r):=by
 obtain⟨h,cs⟩:=ap h
 unfold impl_simplified at h
 refine ar 45 [.cell 10 42] Tryz.func117 (h:=S ?_)
 refine ah cs h (fun cs h=>S ?_) fun cs h=>S ?_
 rotate_left
 refine ah cs h (fun cs h=>S ?_) fun cs h=>S ?_
 rotate_left
 refine ah cs h (fun cs h=>S ?_) fun cs h=>S ?_
 rotate_left
 refine ah cs h (fun cs h=>S ?_) fun cs h=>S ?_
 rotate_left
 refine run_bk h fun v38 q h=>aj [false,false] (impl_sameFormula_sat q) (S ?_)
 refine ah cs h (fun cs h=>S ?_) fun cs h=>S ?_
 rotate_left
 ·refine run_bk h fun v44 q h=>aj [false,false,false] (impl_binary_sat q) (S ?_)
  exact FinH.zr h
 all_goals
  exact FinH.zr h

theorem impl_disjoined_sat{a0:Ft}{a1:Ft}  {r:Ft}(h:impl_disjoined a0 a1=some r):Sat ag 81 [((am false) a0),((am false) a1)] ((am false) r):=by
 obtain⟨h,cs⟩:=ap h
 unfold impl_disjoined at h
 refine ar 8 [.cell 4 42] Tryz.func81 (h:=S ?_)
 refine run_bk h fun v7 q h=>aj [false,false,false,false,false] (impl_simplified_sat q) (S ?_)
 exact FinH.zr h

theorem impl_conjunction_sat{a0:Ft}{a1:Ft}  {r:Ft}(h:impl_conjunction a0 a1=some r):Sat ag 82 [((am false) a0),((am false) a1)] ((am false) r):=by
 obtain⟨h,cs⟩:=ap h
 unfold impl_conjunction at h
 refine ar 8 [.cell 4 42] Tryz.func82 (h:=S ?_)
 refine run_bk h fun v7 q h=>aj [false,false,false,false,false] (impl_simplified_sat q) (S ?_)
 exact FinH.zr h

theorem impl_interpolation__ofStep_sat{a0:ia}{a1:Int}{a2:Ft}{a3:Ft}  {r:Ft}(h:impl_interpolation__ofStep a0 a1 a2 a3=some r):Sat ag 42 [(.ptr ((ia.pv false) a0)),(I a1),((am false) a2),((am false) a3)] ((am false) r):=by
 obtain⟨h,cs⟩:=ap h
 unfold impl_interpolation__ofStep at h
 refine ar 49 [.cell 8 42] Tryz.func42 (h:=S ?_)
 refine run_bk h fun v16 q h=>au I q (S ?_)
 refine ah cs h (fun cs h=>S ?_) fun cs h=>S ?_
 ·refine run_bk h fun v24 q h=>aj [false,false] (impl_disjoined_sat q) (S ?_)
  exact FinH.zr h
 ·refine ah cs h (fun cs h=>S ?_) fun cs h=>S ?_
  rotate_left
  refine ah cs h (fun cs h=>S ?_) fun cs h=>S ?_
  rotate_left
  ·refine run_bk h fun v40 q h=>aj [false] (impl_variableFormula_sat q) (S ?_)
   refine run_bk h fun v42 q h=>aj [false,false] (impl_disjoined_sat q) (S ?_)
   refine run_bk h fun v45 q h=>aj [false] (impl_variableFormula_sat q) (S ?_)
   refine run_bk h fun v47 q h=>aj [false,false] (impl_disjoined_sat q) (S ?_)
   refine run_bk h fun v48 q h=>aj [false,false] (impl_conjunction_sat q) (S ?_)
   refine ae (aX [] []) (S ?_)
   exact FinH.zr h
  all_goals
   refine run_bk h fun v38 q h=>aj [false,false] (impl_conjunction_sat q) (S ?_)
   exact FinH.zr h

theorem impl_sizeOfN_sat(n:Nat):(∀ (a0:Ft) (r:Int),impl_sizeOfN n a0=some r→Sat ag 84 [((am false) a0)] (I r)):=by
 induction n with
 | zero=>exact fun _ _ h=>by simp[impl_sizeOfN] at h
 | succ n ih=>
  refine fun a0 r h=>?_
  obtain⟨h,cs⟩:=ap h
  rw[impl_sizeOfN] at h
  refine ar 22 [.tmp 2] Tryz.func84 (h:=S ?_)
  refine aP (b:=false) (sz:=5) (es:=a0.Parts.map (am false)) 7 SC fun hl7=>?_; rw[aD] at hl7
  refine aJ (run_loop h) (fun i3 s3=>[(3,.val (.pv (I s3))),(7,.val (.pv (.sl false 5 (a0.Parts.map (am false))))),(8,.val (.pv (I (a0.Parts.length:Int)))),(9,.val (.pv (I (i3:Int))))]) (fun i3 s3=>[]) (az SC) (fun i3 s3 hi h=>?_) (fun s3 h=>?_)
  ·have w:=wrap_s2 i3
   refine S ?_
   refine aF cs fun cs=>S ?_
   refine run_bk h fun v11 q h=>au (am false) q (S ?_)
   refine ah cs h (fun cs h=>S ?_) fun cs h=>S ?_
   ·exact ai h
   ·refine run_bk h fun v18 q h=>aj [false] (ih _ _ q) (S ?_)
    exact aK h
  ·refine S ?_
   refine aG cs fun cs=>S ?_
   exact ai h
theorem impl_sizeOf_sat{a0:Ft}{r:Int}(h:impl_sizeOf a0=some r):Sat ag 84 [((am false) a0)] (I r):=by
 obtain⟨n,hn⟩:=lim_some h
 exact(impl_sizeOfN_sat n) _ _ hn

theorem impl_isQuantifier_sat{a0:Int}  {r:Bool}(h:impl_isQuantifier a0=some r):Sat ag 121 [(I a0)] (B r):=by
 obtain⟨h,cs⟩:=ap h
 unfold impl_isQuantifier at h
 refine ar 9 [.tmp 2] Tryz.func121 (h:=S ?_)
 refine ah cs h (fun cs h=>S ?_) fun cs h=>S ?_
 ·exact ai h
 ·exact ai h

theorem impl_isBinary_sat{a0:Int}  {r:Bool}(h:impl_isBinary a0=some r):Sat ag 122 [(I a0)] (B r):=by
 obtain⟨h,cs⟩:=ap h
 unfold impl_isBinary at h
 refine ar 13 [.tmp 2] Tryz.func122 (h:=S ?_)
 refine ah cs h (fun cs h=>S ?_) fun cs h=>S ?_
 ·exact ai h
 ·refine ah cs h (fun cs h=>S ?_) fun cs h=>S ?_
  ·exact ai h
  ·exact ai h

theorem impl_isUpper_sat{a0:Int}  {r:Bool}(h:impl_isUpper a0=some r):Sat ag 149 [((Ik .u8) a0)] (B r):=by
 obtain⟨h,cs⟩:=ap h
 unfold impl_isUpper at h
 refine ar 9 [.tmp 2] Tryz.func149 (h:=S ?_)
 refine ah cs h (fun cs h=>S ?_) fun cs h=>S ?_
 ·exact ai h
 ·exact ai h

theorem impl_isLower_sat{a0:Int}  {r:Bool}(h:impl_isLower a0=some r):Sat ag 150 [((Ik .u8) a0)] (B r):=by
 obtain⟨h,cs⟩:=ap h
 unfold impl_isLower at h
 refine ar 9 [.tmp 2] Tryz.func150 (h:=S ?_)
 refine ah cs h (fun cs h=>S ?_) fun cs h=>S ?_
 ·exact ai h
 ·exact ai h

theorem impl_isDigit_sat{a0:Int}  {r:Bool}(h:impl_isDigit a0=some r):Sat ag 151 [((Ik .u8) a0)] (B r):=by
 obtain⟨h,cs⟩:=ap h
 unfold impl_isDigit at h
 refine ar 9 [.tmp 2] Tryz.func151 (h:=S ?_)
 refine ah cs h (fun cs h=>S ?_) fun cs h=>S ?_
 ·exact ai h
 ·exact ai h

theorem impl_isVariable_sat{a0:ByteArray}  {r:Bool}(h:impl_isVariable a0=some r):Sat ag 123 [(Sx a0)] (B r):=by
 obtain⟨h,cs⟩:=ap h
 unfold impl_isVariable at h
 refine ar 40 [.tmp 2] Tryz.func123 (h:=S ?_)
 obtain⟨N2,hN2,h⟩:=run_bind h
 obtain⟨hN2a,hN2b⟩:=bnd_some hN2
 refine aJ (run_loop h) (fun i2 s2=>[(0,.val (.pv (Sx a0))),(5,.val (.pv (I (a0.size:Int)))),(6,.val (.pv (I (i2:Int))))]) (fun i2 s2=>[]) (az SC) (fun i2 s2 hi h=>?_) (fun s2 h=>?_)
 ·have w:=wrap_s2 i2
  refine S ?_
  refine aF cs fun cs=>S ?_
  refine ah cs h (fun cs h=>S ?_) fun cs h=>S ?_
  refine run_bk h fun v14 q h=>bd q (S ?_)
  refine run_bk h fun v15 q h=>aj [false] (impl_isUpper_sat q) (S ?_)
  refine ah cs h (fun cs h=>S ?_) fun cs h=>S ?_
  refine ah cs h (fun cs h=>S ?_) fun cs h=>S ?_
  refine run_bk h fun v24 q h=>bd q (S ?_)
  refine run_bk h fun v25 q h=>aj [false] (impl_isLower_sat q) (S ?_)
  refine ah cs h (fun cs h=>S ?_) fun cs h=>S ?_
  rotate_left
  refine run_bk h fun v31 q h=>bd q (S ?_)
  refine run_bk h fun v32 q h=>aj [false] (impl_isDigit_sat q) (S ?_)
  refine ah cs h (fun cs h=>S ?_) fun cs h=>S ?_
  rotate_left 4
  refine ah cs h (fun cs h=>S ?_) fun cs h=>S ?_
  refine run_bk h fun v24 q h=>bd q (S ?_)
  refine run_bk h fun v25 q h=>aj [false] (impl_isLower_sat q) (S ?_)
  refine ah cs h (fun cs h=>S ?_) fun cs h=>S ?_
  rotate_left
  refine run_bk h fun v31 q h=>bd q (S ?_)
  refine run_bk h fun v32 q h=>aj [false] (impl_isDigit_sat q) (S ?_)
  refine ah cs h (fun cs h=>S ?_) fun cs h=>S ?_
  rotate_left
  ·exact ai h
  rotate_left 3
  ·exact ai h
  rotate_left
  ·exact ai h
  all_goals
   exact aK h
 ·refine S ?_
  refine aG cs fun cs=>S ?_
  refine run_bk h fun v39 q h=>aj [false,false,false] (impl_within_sat q) (S ?_)
  exact ai h

theorem impl_isEquality_sat{a0:Tt}  {r:Bool}(h:impl_isEquality a0=some r):Sat ag 152 [((aq false) a0)] (B r):=by
 obtain⟨h,cs⟩:=ap h
 unfold impl_isEquality at h
 refine ar 6 [.tmp 2] Tryz.func152 (h:=S ?_)
 exact ai h

theorem impl_sizeN_sat(n:Nat):(∀ (a0:Tt) (r:Int),impl_sizeN n a0=some r→Sat ag 177 [((aq false) a0)] (I r)):=by
 induction n with
 | zero=>exact fun _ _ h=>by simp[impl_sizeN] at h
 | succ n ih=>
  refine fun a0 r h=>?_
  obtain⟨h,cs⟩:=ap h
  rw[impl_sizeN] at h
  refine ar 22 [.tmp 2] Tryz.func177 (h:=S ?_)
  refine aP (b:=false) (sz:=2) (es:=a0.Args.map (aq false)) 7 SC fun hl7=>?_; rw[aD] at hl7
  refine aJ (run_loop h) (fun i3 s3=>[(3,.val (.pv (I s3))),(7,.val (.pv (.sl false 2 (a0.Args.map (aq false))))),(8,.val (.pv (I (a0.Args.length:Int)))),(9,.val (.pv (I (i3:Int))))]) (fun i3 s3=>[]) (az SC) (fun i3 s3 hi h=>?_) (fun s3 h=>?_)
  ·have w:=wrap_s2 i3
   refine S ?_
   refine aF cs fun cs=>S ?_
   refine run_bk h fun v11 q h=>au (aq false) q (S ?_)
   refine ah cs h (fun cs h=>S ?_) fun cs h=>S ?_
   ·exact ai h
   ·refine run_bk h fun v18 q h=>aj [false] (ih _ _ q) (S ?_)
    exact aK h
  ·refine S ?_
   refine aG cs fun cs=>S ?_
   exact ai h
theorem impl_size_sat{a0:Tt}{r:Int}(h:impl_size a0=some r):Sat ag 177 [((aq false) a0)] (I r):=by
 obtain⟨n,hn⟩:=lim_some h
 exact(impl_sizeN_sat n) _ _ hn

theorem impl_depthN_sat(n:Nat):(∀ (a0:Tt) (r:Int),impl_depthN n a0=some r→Sat ag 178 [((aq false) a0)] (I r)):=by
 induction n with
 | zero=>exact fun _ _ h=>by simp[impl_depthN] at h
 | succ n ih=>
  refine fun a0 r h=>?_
  obtain⟨h,cs⟩:=ap h
  rw[impl_depthN] at h
  refine ar 20 [.tmp 2] Tryz.func178 (h:=S ?_)
  refine aP (b:=false) (sz:=2) (es:=a0.Args.map (aq false)) 7 SC fun hl7=>?_; rw[aD] at hl7
  refine aJ (run_loop h) (fun i3 s3=>[(3,.val (.pv (I s3))),(7,.val (.pv (.sl false 2 (a0.Args.map (aq false))))),(8,.val (.pv (I (a0.Args.length:Int)))),(9,.val (.pv (I (i3:Int))))]) (fun i3 s3=>[]) (az SC) (fun i3 s3 hi h=>?_) (fun s3 h=>?_)
  ·have w:=wrap_s2 i3
   refine S ?_
   refine aF cs fun cs=>S ?_
   refine run_bk h fun v11 q h=>au (aq false) q (S ?_)
   refine run_bk h fun v15 q h=>aj [false] (ih _ _ q) (S ?_)
   exact aK h
  ·refine S ?_
   refine aG cs fun cs=>S ?_
   exact ai h
theorem impl_depth_sat{a0:Tt}{r:Int}(h:impl_depth a0=some r):Sat ag 178 [((aq false) a0)] (I r):=by
 obtain⟨n,hn⟩:=lim_some h
 exact(impl_depthN_sat n) _ _ hn

theorem impl_isSmall_sat{a0:Tt}  {r:Bool}(h:impl_isSmall a0=some r):Sat ag 153 [((aq false) a0)] (B r):=by
 obtain⟨h,cs⟩:=ap h
 unfold impl_isSmall at h
 refine ar 11 [.tmp 2] Tryz.func153 (h:=S ?_)
 refine run_bk h fun v4 q h=>aj [false] (impl_size_sat q) (S ?_)
 refine ah cs h (fun cs h=>S ?_) fun cs h=>S ?_
 ·refine run_bk h fun v8 q h=>aj [false] (impl_depth_sat q) (S ?_)
  exact ai h
 ·exact ai h

theorem impl_reserved_sat   {r:List ByteArray}(h:impl_reserved  =some r):Sat ag 181 [] (.sl true 1 (r.map Sx)):=by
 obtain⟨h,cs⟩:=ap h
 unfold impl_reserved at h
 refine ar 2 [.tmp 0] Tryz.func181 (h:=S ?_)
 exact ai h

theorem slices_Index_Sstring_string_sat{a0:List ByteArray}{a1:ByteArray}  {r:Int}(h:slices_Index_Sstring_string a0 a1=some r):Sat ag 207 [(.sl false 1 (a0.map Sx)),(Sx a1)] (I r):=by
 obtain⟨h,cs⟩:=ap h
 unfold slices_Index_Sstring_string at h
 refine ar 19 [.tmp 4] Tryz.func207 (h:=S ?_)
 refine aP (b:=false) (sz:=1) (es:=a0.map Sx) 0 SC fun hl0=>?_; rw[aD] at hl0
 refine aJ (run_loop h) (fun i2 s2=>[(0,.val (.pv (.sl false 1 (a0.map Sx)))),(1,.val (.pv (Sx a1))),(7,.val (.pv (I (a0.length:Int)))),(8,.val (.pv (I (i2:Int))))]) (fun i2 s2=>[]) (az SC) (fun i2 s2 hi h=>?_) (fun s2 h=>?_)
 ·have w:=wrap_s2 i2
  refine S ?_
  refine aF cs fun cs=>S ?_
  refine run_bk h fun v14 q h=>au Sx q (S ?_)
  refine ah cs h (fun cs h=>S ?_) fun cs h=>S ?_
  ·exact ai h
  ·exact aK h
 ·refine S ?_
  refine aG cs fun cs=>S ?_
  exact ai h

theorem slices_Contains_Sstring_string_sat{a0:List ByteArray}{a1:ByteArray}  {r:Bool}(h:slices_Contains_Sstring_string a0 a1=some r):Sat ag 180 [(.sl false 1 (a0.map Sx)),(Sx a1)] (B r):=by
 obtain⟨h,cs⟩:=ap h
 unfold slices_Contains_Sstring_string at h
 refine ar 9 [.tmp 4] Tryz.func180 (h:=S ?_)
 refine run_bk h fun v7 q h=>aj [false,false] (slices_Index_Sstring_string_sat q) (S ?_)
 exact ai h

theorem impl_isSymbol_sat{a0:ByteArray}  {r:Bool}(h:impl_isSymbol a0=some r):Sat ag 155 [(Sx a0)] (B r):=by
 obtain⟨h,cs⟩:=ap h
 unfold impl_isSymbol at h
 refine ar 48 [.tmp 2] Tryz.func155 (h:=S ?_)
 obtain⟨N2,hN2,h⟩:=run_bind h
 obtain⟨hN2a,hN2b⟩:=bnd_some hN2
 refine aJ (run_loop h) (fun i2 s2=>[(0,.val (.pv (Sx a0))),(5,.val (.pv (I (a0.size:Int)))),(6,.val (.pv (I (i2:Int))))]) (fun i2 s2=>[]) (az SC) (fun i2 s2 hi h=>?_) (fun s2 h=>?_)
 ·have w:=wrap_s2 i2
  refine S ?_
  refine aF cs fun cs=>S ?_
  refine ah cs h (fun cs h=>S ?_) fun cs h=>S ?_
  refine run_bk h fun v14 q h=>bd q (S ?_)
  refine run_bk h fun v15 q h=>aj [false] (impl_isLower_sat q) (S ?_)
  refine ah cs h (fun cs h=>S ?_) fun cs h=>S ?_
  refine run_bk h fun v21 q h=>bd q (S ?_)
  refine run_bk h fun v22 q h=>aj [false] (impl_isLower_sat q) (S ?_)
  refine ah cs h (fun cs h=>S ?_) fun cs h=>S ?_
  rotate_left
  refine run_bk h fun v27 q h=>bd q (S ?_)
  refine run_bk h fun v28 q h=>aj [false] (impl_isDigit_sat q) (S ?_)
  refine ah cs h (fun cs h=>S ?_) fun cs h=>S ?_
  rotate_left
  refine run_bk h fun v34 q h=>bd q (S ?_)
  refine ah cs h (fun cs h=>S ?_) fun cs h=>S ?_
  rotate_left 3
  refine run_bk h fun v21 q h=>bd q (S ?_)
  refine run_bk h fun v22 q h=>aj [false] (impl_isLower_sat q) (S ?_)
  refine ah cs h (fun cs h=>S ?_) fun cs h=>S ?_
  rotate_left
  refine run_bk h fun v27 q h=>bd q (S ?_)
  refine run_bk h fun v28 q h=>aj [false] (impl_isDigit_sat q) (S ?_)
  refine ah cs h (fun cs h=>S ?_) fun cs h=>S ?_
  rotate_left
  refine run_bk h fun v34 q h=>bd q (S ?_)
  refine ah cs h (fun cs h=>S ?_) fun cs h=>S ?_
  rotate_left
  ·exact ai h
  rotate_left 3
  ·exact ai h
  ·exact ai h
  all_goals
   exact aK h
 ·refine S ?_
  refine aG cs fun cs=>S ?_
  refine run_bk h fun v41 q h=>aj [false,false,false] (impl_within_sat q) (S ?_)
  refine ah cs h (fun cs h=>S ?_) fun cs h=>S ?_
  ·refine run_bk h fun v43 q h=>aj [] (impl_reserved_sat q) (S ?_)
   refine run_bk h fun v45 q h=>aj [false,false] (slices_Contains_Sstring_string_sat q) (S ?_)
   exact ai h
  ·exact ai h

theorem slices_IndexFunc_Simpl_Term_impl_Term_sat{a0:List Tt}{a1:Tt→Option Bool}{a1_id:FuncId}{a1_cs:List PV}(a1_ok:∀ y0 r,a1 y0=some r→Sat ag a1_id (((aq false) y0)::a1_cs) (B r))(a1_cz:CapsOk a1_cs=True){r:Int}(h:slices_IndexFunc_Simpl_Term_impl_Term a0 a1=some r):Sat ag 166 [(.sl false 2 (a0.map (aq false))),.clo a1_id a1_cs] (I r):=by
 obtain⟨h,cs⟩:=ap h
 unfold slices_IndexFunc_Simpl_Term_impl_Term at h
 have cs:=ae a1_cz cs
 refine ar 19 [.tmp 4] Tryz.func166 (h:=S ?_)
 refine aP (b:=false) (sz:=2) (es:=a0.map (aq false)) 0 SC fun hl0=>?_; rw[aD] at hl0
 refine aJ (run_loop h) (fun i2 s2=>[(0,.val (.pv (.sl false 2 (a0.map (aq false))))),(1,.val (.pv (.clo a1_id a1_cs))),(7,.val (.pv (I (a0.length:Int)))),(8,.val (.pv (I (i2:Int))))]) (fun i2 s2=>[]) (az SC) (fun i2 s2 hi h=>?_) (fun s2 h=>?_)
 ·have w:=wrap_s2 i2
  refine S ?_
  refine aF cs fun cs=>S ?_
  refine run_bk h fun v14 q h=>au (aq false) q (S ?_)
  refine run_bk h fun v16 q h=>aj [false] (a1_ok _ _ q) (S ?_)
  refine ah cs h (fun cs h=>S ?_) fun cs h=>S ?_
  ·exact ai h
  ·exact aK h
 ·refine S ?_
  refine aG cs fun cs=>S ?_
  exact ai h

theorem slices_ContainsFunc_Simpl_Term_impl_Term_sat{a0:List Tt}{a1:Tt→Option Bool}{a1_id:FuncId}{a1_cs:List PV}(a1_ok:∀ y0 r,a1 y0=some r→Sat ag a1_id (((aq false) y0)::a1_cs) (B r))(a1_cz:CapsOk a1_cs=True){r:Bool}(h:slices_ContainsFunc_Simpl_Term_impl_Term a0 a1=some r):Sat ag 163 [(.sl false 2 (a0.map (aq false))),.clo a1_id a1_cs] (B r):=by
 obtain⟨h,cs⟩:=ap h
 unfold slices_ContainsFunc_Simpl_Term_impl_Term at h
 have cs:=ae a1_cz cs
 refine ar 9 [.tmp 4] Tryz.func163 (h:=S ?_)
 refine run_bk h fun v7 q h=>aj [false,false] (slices_IndexFunc_Simpl_Term_impl_Term_sat a1_ok a1_cz q) (S ?_)
 exact ai h

theorem impl_hasNamesN_sat(n:Nat):(∀ (a0:Tt) (r:Bool),impl_hasNamesN n a0=some r→Sat ag 154 [((aq false) a0)] (B r))∧(∀ (a0:Tt) (r:Bool),impl_hasNames_1N n a0=some r→Sat ag 179 [((aq false) a0)] (B r)):=by
 induction n with
 | zero=>exact⟨fun _ _ h=>by simp[impl_hasNamesN] at h,fun _ _ h=>by simp[impl_hasNames_1N] at h⟩
 | succ n ih=>
  refine⟨fun a0 r h=>?_,fun a0 r h=>?_⟩
  ·obtain⟨h,cs⟩:=ap h
   rw[impl_hasNamesN] at h
   refine ar 25 [.tmp 2] Tryz.func154 (h:=S ?_)
   refine run_bk h fun v5 q h=>aj [false] (impl_isVariable_sat q) (S ?_)
   refine ah cs h (fun cs h=>S ?_) fun cs h=>S ?_
   rotate_left
   refine run_bk h fun v12 q h=>aj [false] (impl_isSymbol_sat q) (S ?_)
   refine ah cs h (fun cs h=>S ?_) fun cs h=>S ?_
   refine ah cs h (fun cs h=>S ?_) fun cs h=>S ?_
   ·refine run_bk h fun v22 q h=>aj [false,false] (slices_ContainsFunc_Simpl_Term_impl_Term_sat (fun _ _ hh=>ih.2 _ _ hh) (by simp only[CapsOk_nil,CapsOk_cons]) q) (S ?_)
    exact ai h
   all_goals
    exact ai h
  ·obtain⟨h,cs⟩:=ap h
   rw[impl_hasNames_1N] at h
   refine ar 6 [.tmp 2] Tryz.func179 (h:=S ?_)
   refine run_bk h fun v4 q h=>aj [false] (ih.1 _ _ q) (S ?_)
   exact ai h
theorem impl_hasNames_sat{a0:Tt}{r:Bool}(h:impl_hasNames a0=some r):Sat ag 154 [((aq false) a0)] (B r):=by
 obtain⟨n,hn⟩:=lim_some h
 exact(impl_hasNamesN_sat n).1 _ _ hn
theorem impl_hasNames_1_sat{a0:Tt}{r:Bool}(h:impl_hasNames_1 a0=some r):Sat ag 179 [((aq false) a0)] (B r):=by
 obtain⟨n,hn⟩:=lim_some h
 exact(impl_hasNamesN_sat n).2 _ _ hn

theorem impl_IsValidTerm_sat{a0:Tt}  {r:Bool}(h:impl_IsValidTerm a0=some r):Sat ag 156 [((aq false) a0)] (B r):=by
 obtain⟨h,cs⟩:=ap h
 unfold impl_IsValidTerm at h
 refine ar 9 [.tmp 2] Tryz.func156 (h:=S ?_)
 refine run_bk h fun v4 q h=>aj [false] (impl_isSmall_sat q) (S ?_)
 refine ah cs h (fun cs h=>S ?_) fun cs h=>S ?_
 ·refine run_bk h fun v7 q h=>aj [false] (impl_hasNames_sat q) (S ?_)
  exact ai h
 ·exact ai h

theorem impl_IsValidAtom_sat{a0:Tt}  {r:Bool}(h:impl_IsValidAtom a0=some r):Sat ag 124 [((aq false) a0)] (B r):=by
 obtain⟨h,cs⟩:=ap h
 unfold impl_IsValidAtom at h
 refine ar 34 [.tmp 2] Tryz.func124 (h:=S ?_)
 refine run_bk h fun v4 q h=>aj [false] (impl_isEquality_sat q) (S ?_)
 refine ah cs h (fun cs h=>S ?_) fun cs h=>S ?_
 ·refine ah cs h (fun cs h=>S ?_) fun cs h=>S ?_
  refine run_bk h fun v11 q h=>aj [false] (impl_isSmall_sat q) (S ?_)
  refine ah cs h (fun cs h=>S ?_) fun cs h=>S ?_
  refine run_bk h fun v16 q h=>au (aq false) q (S ?_)
  refine run_bk h fun v18 q h=>aj [false] (impl_hasNames_sat q) (S ?_)
  refine ah cs h (fun cs h=>S ?_) fun cs h=>S ?_
  ·refine run_bk h fun v23 q h=>au (aq false) q (S ?_)
   refine run_bk h fun v25 q h=>aj [false] (impl_hasNames_sat q) (S ?_)
   exact ai h
  all_goals
   exact ai h
 ·refine run_bk h fun v29 q h=>aj [false] (impl_isSymbol_sat q) (S ?_)
  refine ah cs h (fun cs h=>S ?_) fun cs h=>S ?_
  ·refine run_bk h fun v32 q h=>aj [false] (impl_IsValidTerm_sat q) (S ?_)
   exact ai h
  ·exact ai h

theorem impl_isZeroTerm_sat{a0:Tt}  {r:Bool}(h:impl_isZeroTerm a0=some r):Sat ag 125 [((aq false) a0)] (B r):=by
 obtain⟨h,cs⟩:=ap h
 unfold impl_isZeroTerm at h
 refine ar 12 [.tmp 2] Tryz.func125 (h:=S ?_)
 refine ah cs h (fun cs h=>S ?_) fun cs h=>S ?_
 ·exact ai h
 ·exact ai h

theorem slices_IndexFunc_Simpl_Formula_impl_Formula_sat{a0:List Ft}{a1:Ft→Option Bool}{a1_id:FuncId}{a1_cs:List PV}(a1_ok:∀ y0 r,a1 y0=some r→Sat ag a1_id (((am false) y0)::a1_cs) (B r))(a1_cz:CapsOk a1_cs=True){r:Int}(h:slices_IndexFunc_Simpl_Formula_impl_Formula a0 a1=some r):Sat ag 157 [(.sl false 5 (a0.map (am false))),.clo a1_id a1_cs] (I r):=by
 obtain⟨h,cs⟩:=ap h
 unfold slices_IndexFunc_Simpl_Formula_impl_Formula at h
 have cs:=ae a1_cz cs
 refine ar 19 [.tmp 4] Tryz.func157 (h:=S ?_)
 refine aP (b:=false) (sz:=5) (es:=a0.map (am false)) 0 SC fun hl0=>?_; rw[aD] at hl0
 refine aJ (run_loop h) (fun i2 s2=>[(0,.val (.pv (.sl false 5 (a0.map (am false))))),(1,.val (.pv (.clo a1_id a1_cs))),(7,.val (.pv (I (a0.length:Int)))),(8,.val (.pv (I (i2:Int))))]) (fun i2 s2=>[]) (az SC) (fun i2 s2 hi h=>?_) (fun s2 h=>?_)
 ·have w:=wrap_s2 i2
  refine S ?_
  refine aF cs fun cs=>S ?_
  refine run_bk h fun v14 q h=>au (am false) q (S ?_)
  refine run_bk h fun v16 q h=>aj [false] (a1_ok _ _ q) (S ?_)
  refine ah cs h (fun cs h=>S ?_) fun cs h=>S ?_
  ·exact ai h
  ·exact aK h
 ·refine S ?_
  refine aG cs fun cs=>S ?_
  exact ai h

theorem slices_ContainsFunc_Simpl_Formula_impl_Formula_sat{a0:List Ft}{a1:Ft→Option Bool}{a1_id:FuncId}{a1_cs:List PV}(a1_ok:∀ y0 r,a1 y0=some r→Sat ag a1_id (((am false) y0)::a1_cs) (B r))(a1_cz:CapsOk a1_cs=True){r:Bool}(h:slices_ContainsFunc_Simpl_Formula_impl_Formula a0 a1=some r):Sat ag 126 [(.sl false 5 (a0.map (am false))),.clo a1_id a1_cs] (B r):=by
 obtain⟨h,cs⟩:=ap h
 unfold slices_ContainsFunc_Simpl_Formula_impl_Formula at h
 have cs:=ae a1_cz cs
 refine ar 9 [.tmp 4] Tryz.func126 (h:=S ?_)
 refine run_bk h fun v7 q h=>aj [false,false] (slices_IndexFunc_Simpl_Formula_impl_Formula_sat a1_ok a1_cz q) (S ?_)
 exact ai h

theorem impl_hasFormN_sat(n:Nat):(∀ (a0:Ft) (r:Bool),impl_hasFormN n a0=some r→Sat ag 85 [((am false) a0)] (B r))∧(∀ (a0:Ft) (r:Bool),impl_hasForm_1N n a0=some r→Sat ag 127 [((am false) a0)] (B r)):=by
 induction n with
 | zero=>exact⟨fun _ _ h=>by simp[impl_hasFormN] at h,fun _ _ h=>by simp[impl_hasForm_1N] at h⟩
 | succ n ih=>
  refine⟨fun a0 r h=>?_,fun a0 r h=>?_⟩
  ·obtain⟨h,cs⟩:=ap h
   rw[impl_hasFormN] at h
   refine ar 76 [.tmp 2] Tryz.func85 (h:=S ?_)
   refine ah cs h (fun cs h=>S ?_) fun cs h=>S ?_
   refine ah cs h (fun cs h=>S ?_) fun cs h=>S ?_
   refine run_bk h fun v33 q h=>aj [false] (impl_isQuantifier_sat q) (S ?_)
   refine ah cs h (fun cs h=>S ?_) fun cs h=>S ?_
   refine run_bk h fun v37 q h=>aj [false] (impl_isVariable_sat q) (S ?_)
   refine ah cs h (fun cs h=>S ?_) fun cs h=>S ?_
   refine run_bk h fun v44 q h=>aj [false] (impl_isQuantifier_sat q) (S ?_)
   refine ah cs h (fun cs h=>S ?_) fun cs h=>S ?_
   refine ah cs h (fun cs h=>S ?_) fun cs h=>S ?_
   refine run_bk h fun v58 q h=>aj [false] (impl_IsValidAtom_sat q) (S ?_)
   refine ah cs h (fun cs h=>S ?_) fun cs h=>S ?_
   rotate_left 2
   refine run_bk h fun v68 q h=>aj [false] (impl_isZeroTerm_sat q) (S ?_)
   refine ah cs h (fun cs h=>S ?_) fun cs h=>S ?_
   rotate_left 2
   refine ah cs h (fun cs h=>S ?_) fun cs h=>S ?_
   refine ah cs h (fun cs h=>S ?_) fun cs h=>S ?_
   refine run_bk h fun v58 q h=>aj [false] (impl_IsValidAtom_sat q) (S ?_)
   refine ah cs h (fun cs h=>S ?_) fun cs h=>S ?_
   rotate_left 2
   refine run_bk h fun v68 q h=>aj [false] (impl_isZeroTerm_sat q) (S ?_)
   refine ah cs h (fun cs h=>S ?_) fun cs h=>S ?_
   rotate_left 4
   refine run_bk h fun v44 q h=>aj [false] (impl_isQuantifier_sat q) (S ?_)
   refine ah cs h (fun cs h=>S ?_) fun cs h=>S ?_
   refine ah cs h (fun cs h=>S ?_) fun cs h=>S ?_
   refine run_bk h fun v58 q h=>aj [false] (impl_IsValidAtom_sat q) (S ?_)
   refine ah cs h (fun cs h=>S ?_) fun cs h=>S ?_
   rotate_left 2
   refine run_bk h fun v68 q h=>aj [false] (impl_isZeroTerm_sat q) (S ?_)
   refine ah cs h (fun cs h=>S ?_) fun cs h=>S ?_
   rotate_left 2
   refine ah cs h (fun cs h=>S ?_) fun cs h=>S ?_
   refine ah cs h (fun cs h=>S ?_) fun cs h=>S ?_
   refine run_bk h fun v58 q h=>aj [false] (impl_IsValidAtom_sat q) (S ?_)
   refine ah cs h (fun cs h=>S ?_) fun cs h=>S ?_
   rotate_left 2
   refine run_bk h fun v68 q h=>aj [false] (impl_isZeroTerm_sat q) (S ?_)
   refine ah cs h (fun cs h=>S ?_) fun cs h=>S ?_
   rotate_left 4
   refine ah cs h (fun cs h=>S ?_) fun cs h=>S ?_
   refine ah cs h (fun cs h=>S ?_) fun cs h=>S ?_
   refine run_bk h fun v33 q h=>aj [false] (impl_isQuantifier_sat q) (S ?_)
   refine ah cs h (fun cs h=>S ?_) fun cs h=>S ?_
   refine run_bk h fun v37 q h=>aj [false] (impl_isVariable_sat q) (S ?_)
   refine ah cs h (fun cs h=>S ?_) fun cs h=>S ?_
   refine run_bk h fun v44 q h=>aj [false] (impl_isQuantifier_sat q) (S ?_)
   refine ah cs h (fun cs h=>S ?_) fun cs h=>S ?_
   refine ah cs h (fun cs h=>S ?_) fun cs h=>S ?_
   refine run_bk h fun v58 q h=>aj [false] (impl_IsValidAtom_sat q) (S ?_)
   refine ah cs h (fun cs h=>S ?_) fun cs h=>S ?_
   rotate_left 2
   refine run_bk h fun v68 q h=>aj [false] (impl_isZeroTerm_sat q) (S ?_)
   refine ah cs h (fun cs h=>S ?_) fun cs h=>S ?_
   rotate_left 2
   refine ah cs h (fun cs h=>S ?_) fun cs h=>S ?_
   refine ah cs h (fun cs h=>S ?_) fun cs h=>S ?_
   refine run_bk h fun v58 q h=>aj [false] (impl_IsValidAtom_sat q) (S ?_)
   refine ah cs h (fun cs h=>S ?_) fun cs h=>S ?_
   rotate_left 2
   refine run_bk h fun v68 q h=>aj [false] (impl_isZeroTerm_sat q) (S ?_)
   refine ah cs h (fun cs h=>S ?_) fun cs h=>S ?_
   rotate_left 4
   refine run_bk h fun v44 q h=>aj [false] (impl_isQuantifier_sat q) (S ?_)
   refine ah cs h (fun cs h=>S ?_) fun cs h=>S ?_
   refine ah cs h (fun cs h=>S ?_) fun cs h=>S ?_
   refine run_bk h fun v58 q h=>aj [false] (impl_IsValidAtom_sat q) (S ?_)
   refine ah cs h (fun cs h=>S ?_) fun cs h=>S ?_
   rotate_left 2
   refine run_bk h fun v68 q h=>aj [false] (impl_isZeroTerm_sat q) (S ?_)
   refine ah cs h (fun cs h=>S ?_) fun cs h=>S ?_
   rotate_left 2
   refine ah cs h (fun cs h=>S ?_) fun cs h=>S ?_
   refine ah cs h (fun cs h=>S ?_) fun cs h=>S ?_
   refine run_bk h fun v58 q h=>aj [false] (impl_IsValidAtom_sat q) (S ?_)
   refine ah cs h (fun cs h=>S ?_) fun cs h=>S ?_
   rotate_left 2
   refine run_bk h fun v68 q h=>aj [false] (impl_isZeroTerm_sat q) (S ?_)
   refine ah cs h (fun cs h=>S ?_) fun cs h=>S ?_
   rotate_left 4
   refine ah cs h (fun cs h=>S ?_) fun cs h=>S ?_
   refine ah cs h (fun cs h=>S ?_) fun cs h=>S ?_
   refine run_bk h fun v33 q h=>aj [false] (impl_isQuantifier_sat q) (S ?_)
   refine ah cs h (fun cs h=>S ?_) fun cs h=>S ?_
   refine run_bk h fun v37 q h=>aj [false] (impl_isVariable_sat q) (S ?_)
   refine ah cs h (fun cs h=>S ?_) fun cs h=>S ?_
   refine run_bk h fun v44 q h=>aj [false] (impl_isQuantifier_sat q) (S ?_)
   refine ah cs h (fun cs h=>S ?_) fun cs h=>S ?_
   refine run_bk h fun v58 q h=>aj [false] (impl_IsValidAtom_sat q) (S ?_)
   refine ah cs h (fun cs h=>S ?_) fun cs h=>S ?_
   rotate_left 2
   refine ah cs h (fun cs h=>S ?_) fun cs h=>S ?_
   refine run_bk h fun v58 q h=>aj [false] (impl_IsValidAtom_sat q) (S ?_)
   refine ah cs h (fun cs h=>S ?_) fun cs h=>S ?_
   rotate_left 4
   refine run_bk h fun v44 q h=>aj [false] (impl_isQuantifier_sat q) (S ?_)
   refine ah cs h (fun cs h=>S ?_) fun cs h=>S ?_
   refine run_bk h fun v58 q h=>aj [false] (impl_IsValidAtom_sat q) (S ?_)
   refine ah cs h (fun cs h=>S ?_) fun cs h=>S ?_
   rotate_left 2
   refine ah cs h (fun cs h=>S ?_) fun cs h=>S ?_
   refine run_bk h fun v58 q h=>aj [false] (impl_IsValidAtom_sat q) (S ?_)
   refine ah cs h (fun cs h=>S ?_) fun cs h=>S ?_
   rotate_left 4
   refine ah cs h (fun cs h=>S ?_) fun cs h=>S ?_
   refine ah cs h (fun cs h=>S ?_) fun cs h=>S ?_
   refine run_bk h fun v33 q h=>aj [false] (impl_isQuantifier_sat q) (S ?_)
   refine ah cs h (fun cs h=>S ?_) fun cs h=>S ?_
   refine run_bk h fun v37 q h=>aj [false] (impl_isVariable_sat q) (S ?_)
   refine ah cs h (fun cs h=>S ?_) fun cs h=>S ?_
   refine run_bk h fun v44 q h=>aj [false] (impl_isQuantifier_sat q) (S ?_)
   refine ah cs h (fun cs h=>S ?_) fun cs h=>S ?_
   refine run_bk h fun v68 q h=>aj [false] (impl_isZeroTerm_sat q) (S ?_)
   refine ah cs h (fun cs h=>S ?_) fun cs h=>S ?_
   rotate_left 2
   refine ah cs h (fun cs h=>S ?_) fun cs h=>S ?_
   refine run_bk h fun v68 q h=>aj [false] (impl_isZeroTerm_sat q) (S ?_)
   refine ah cs h (fun cs h=>S ?_) fun cs h=>S ?_
   rotate_left 4
   refine run_bk h fun v44 q h=>aj [false] (impl_isQuantifier_sat q) (S ?_)
   refine ah cs h (fun cs h=>S ?_) fun cs h=>S ?_
   refine run_bk h fun v68 q h=>aj [false] (impl_isZeroTerm_sat q) (S ?_)
   refine ah cs h (fun cs h=>S ?_) fun cs h=>S ?_
   rotate_left 2
   refine ah cs h (fun cs h=>S ?_) fun cs h=>S ?_
   refine run_bk h fun v68 q h=>aj [false] (impl_isZeroTerm_sat q) (S ?_)
   refine ah cs h (fun cs h=>S ?_) fun cs h=>S ?_
   rotate_left 4
   refine run_bk h fun v20 q h=>aj [false] (impl_isQuantifier_sat q) (S ?_)
   refine ah cs h (fun cs h=>S ?_) fun cs h=>S ?_
   refine ah cs h (fun cs h=>S ?_) fun cs h=>S ?_
   refine run_bk h fun v33 q h=>aj [false] (impl_isQuantifier_sat q) (S ?_)
   refine ah cs h (fun cs h=>S ?_) fun cs h=>S ?_
   refine run_bk h fun v37 q h=>aj [false] (impl_isVariable_sat q) (S ?_)
   refine ah cs h (fun cs h=>S ?_) fun cs h=>S ?_
   refine run_bk h fun v44 q h=>aj [false] (impl_isQuantifier_sat q) (S ?_)
   refine ah cs h (fun cs h=>S ?_) fun cs h=>S ?_
   refine run_bk h fun v68 q h=>aj [false] (impl_isZeroTerm_sat q) (S ?_)
   refine ah cs h (fun cs h=>S ?_) fun cs h=>S ?_
   rotate_left 2
   refine ah cs h (fun cs h=>S ?_) fun cs h=>S ?_
   refine run_bk h fun v68 q h=>aj [false] (impl_isZeroTerm_sat q) (S ?_)
   refine ah cs h (fun cs h=>S ?_) fun cs h=>S ?_
   rotate_left 4
   refine run_bk h fun v44 q h=>aj [false] (impl_isQuantifier_sat q) (S ?_)
   refine ah cs h (fun cs h=>S ?_) fun cs h=>S ?_
   refine run_bk h fun v68 q h=>aj [false] (impl_isZeroTerm_sat q) (S ?_)
   refine ah cs h (fun cs h=>S ?_) fun cs h=>S ?_
   rotate_left 2
   refine ah cs h (fun cs h=>S ?_) fun cs h=>S ?_
   refine run_bk h fun v68 q h=>aj [false] (impl_isZeroTerm_sat q) (S ?_)
   refine ah cs h (fun cs h=>S ?_) fun cs h=>S ?_
   rotate_left 4
   refine run_bk h fun v24 q h=>aj [false] (impl_isBinary_sat q) (S ?_)
   refine ah cs h (fun cs h=>S ?_) fun cs h=>S ?_
   refine ah cs h (fun cs h=>S ?_) fun cs h=>S ?_
   refine run_bk h fun v33 q h=>aj [false] (impl_isQuantifier_sat q) (S ?_)
   refine ah cs h (fun cs h=>S ?_) fun cs h=>S ?_
   refine run_bk h fun v37 q h=>aj [false] (impl_isVariable_sat q) (S ?_)
   refine ah cs h (fun cs h=>S ?_) fun cs h=>S ?_
   refine run_bk h fun v44 q h=>aj [false] (impl_isQuantifier_sat q) (S ?_)
   refine ah cs h (fun cs h=>S ?_) fun cs h=>S ?_
   refine run_bk h fun v68 q h=>aj [false] (impl_isZeroTerm_sat q) (S ?_)
   refine ah cs h (fun cs h=>S ?_) fun cs h=>S ?_
   rotate_left 2
   refine ah cs h (fun cs h=>S ?_) fun cs h=>S ?_
   refine run_bk h fun v68 q h=>aj [false] (impl_isZeroTerm_sat q) (S ?_)
   refine ah cs h (fun cs h=>S ?_) fun cs h=>S ?_
   rotate_left 4
   refine run_bk h fun v44 q h=>aj [false] (impl_isQuantifier_sat q) (S ?_)
   refine ah cs h (fun cs h=>S ?_) fun cs h=>S ?_
   refine run_bk h fun v68 q h=>aj [false] (impl_isZeroTerm_sat q) (S ?_)
   refine ah cs h (fun cs h=>S ?_) fun cs h=>S ?_
   rotate_left 2
   refine ah cs h (fun cs h=>S ?_) fun cs h=>S ?_
   refine run_bk h fun v68 q h=>aj [false] (impl_isZeroTerm_sat q) (S ?_)
   refine ah cs h (fun cs h=>S ?_) fun cs h=>S ?_
   rotate_left
   ·exact ai h
   ·exact ai h
   ·exact ai h
   ·exact ai h
   rotate_left
   ·exact ai h
   rotate_left
   ·exact ai h
   rotate_left
   ·exact ai h
   rotate_left
   ·exact ai h
   ·exact ai h
   ·exact ai h
   rotate_left
   ·exact ai h
   rotate_left
   ·exact ai h
   rotate_left
   ·exact ai h
   rotate_left
   ·exact ai h
   ·exact ai h
   ·exact ai h
   rotate_left
   ·exact ai h
   rotate_left
   ·exact ai h
   rotate_left
   ·exact ai h
   rotate_left
   ·exact ai h
   ·exact ai h
   ·exact ai h
   rotate_left
   ·exact ai h
   rotate_left
   ·exact ai h
   rotate_left
   ·exact ai h
   rotate_left
   ·exact ai h
   ·exact ai h
   ·exact ai h
   rotate_left
   ·exact ai h
   rotate_left
   ·exact ai h
   ·exact ai h
   ·exact ai h
   rotate_left
   ·exact ai h
   rotate_left
   ·exact ai h
   ·exact ai h
   ·exact ai h
   rotate_left
   ·exact ai h
   rotate_left
   ·exact ai h
   ·exact ai h
   ·exact ai h
   rotate_left
   ·exact ai h
   rotate_left
   ·exact ai h
   ·exact ai h
   ·exact ai h
   rotate_left
   ·exact ai h
   rotate_left
   ·exact ai h
   ·exact ai h
   ·exact ai h
   rotate_left
   ·exact ai h
   rotate_left
   ·exact ai h
   ·exact ai h
   ·exact ai h
   rotate_left
   ·exact ai h
   rotate_left
   ·exact ai h
   ·exact ai h
   ·exact ai h
   rotate_left
   ·exact ai h
   all_goals
    refine run_bk h fun v74 q h=>aj [false,false] (slices_ContainsFunc_Simpl_Formula_impl_Formula_sat (fun _ _ hh=>ih.2 _ _ hh) (by simp only[CapsOk_nil,CapsOk_cons]) q) (S ?_)
    exact ai h
  ·obtain⟨h,cs⟩:=ap h
   rw[impl_hasForm_1N] at h
   refine ar 6 [.tmp 2] Tryz.func127 (h:=S ?_)
   refine run_bk h fun v4 q h=>aj [false] (ih.1 _ _ q) (S ?_)
   exact ai h
theorem impl_hasForm_sat{a0:Ft}{r:Bool}(h:impl_hasForm a0=some r):Sat ag 85 [((am false) a0)] (B r):=by
 obtain⟨n,hn⟩:=lim_some h
 exact(impl_hasFormN_sat n).1 _ _ hn
theorem impl_hasForm_1_sat{a0:Ft}{r:Bool}(h:impl_hasForm_1 a0=some r):Sat ag 127 [((am false) a0)] (B r):=by
 obtain⟨n,hn⟩:=lim_some h
 exact(impl_hasFormN_sat n).2 _ _ hn

theorem impl_IsValidFormula_sat{a0:Ft}  {r:Bool}(h:impl_IsValidFormula a0=some r):Sat ag 43 [((am false) a0)] (B r):=by
 obtain⟨h,cs⟩:=ap h
 unfold impl_IsValidFormula at h
 refine ar 10 [.tmp 2] Tryz.func43 (h:=S ?_)
 refine run_bk h fun v4 q h=>aj [false] (impl_sizeOf_sat q) (S ?_)
 refine ah cs h (fun cs h=>S ?_) fun cs h=>S ?_
 ·refine run_bk h fun v8 q h=>aj [false] (impl_hasForm_sat q) (S ?_)
  exact ai h
 ·exact ai h

theorem impl_copyTermN_sat(n:Nat):(∀ (a0:Tt) (r:Tt),impl_copyTermN n a0=some r→Sat ag 158 [((aq false) a0)] ((aq true) r))∧(∀ (a0:List Tt) (r:List Tt),impl_copyTermsN n a0=some r→Sat ag 182 [(.sl false 2 (a0.map (aq false)))] (.sl true 2 (r.map (aq true)))):=by
 induction n with
 | zero=>exact⟨fun _ _ h=>by simp[impl_copyTermN] at h,fun _ _ h=>by simp[impl_copyTermsN] at h⟩
 | succ n ih=>
  refine⟨fun a0 r h=>?_,fun a0 r h=>?_⟩
  ·obtain⟨h,cs⟩:=ap h
   rw[impl_copyTermN] at h
   refine ar 9 [.cell 2 40] Tryz.func158 (h:=S ?_)
   refine run_bk h fun v7 q h=>aj [false] (ih.2 _ _ q) (S ?_)
   refine ae (aX [] [112]) (S ?_)
   exact ai h
  ·obtain⟨h,cs⟩:=ap h
   rw[impl_copyTermsN] at h
   refine ar 26 [.tmp 2] Tryz.func182 (h:=S ?_)
   refine ah cs h (fun cs h=>S ?_) fun cs h=>S ?_
   ·exact ai h
   ·refine run_bk h fun n11 q h=>MknH.mk q (S ?_)
    refine aP (b:=false) (sz:=2) (es:=a0.map (aq false)) 0 SC fun hl0=>?_; rw[aD] at hl0
    refine aJ (run_loop h) (fun i5 s5=>[(3,.val (.own 176)),(12,.val (.pv (.sl false 2 (a0.map (aq false))))),(13,.val (.pv (I (a0.length:Int)))),(14,.val (.pv (I (i5:Int))))]) (fun i5 s5=>[(176,(2,s5.map (aq true)))]) (az SC) (fun i5 s5 hi h=>?_) (fun s5 h=>?_)
    ·have w:=wrap_s2 i5
     refine S ?_
     refine aF cs fun cs=>S ?_
     refine run_bk h fun v17 q h=>au (aq false) q (S ?_)
     refine run_bk h fun v22 q h=>aj [false] (ih.1 _ _ q) (S ?_)
     refine run_bk h fun v23 q h=>au (aq true) q (S ?_)
     refine run_bk h fun w3 q h=>EldH.c (aq true) q (S ?_)
     exact aK h
    ·refine S ?_
     refine aG cs fun cs=>S ?_
     exact ai h
theorem impl_copyTerm_sat{a0:Tt}{r:Tt}(h:impl_copyTerm a0=some r):Sat ag 158 [((aq false) a0)] ((aq true) r):=by
 obtain⟨n,hn⟩:=lim_some h
 exact(impl_copyTermN_sat n).1 _ _ hn
theorem impl_copyTerms_sat{a0:List Tt}{r:List Tt}(h:impl_copyTerms a0=some r):Sat ag 182 [(.sl false 2 (a0.map (aq false)))] (.sl true 2 (r.map (aq true))):=by
 obtain⟨n,hn⟩:=lim_some h
 exact(impl_copyTermN_sat n).2 _ _ hn

end Go.Proofs.YtmfpijomelhccaaGreatDoor
