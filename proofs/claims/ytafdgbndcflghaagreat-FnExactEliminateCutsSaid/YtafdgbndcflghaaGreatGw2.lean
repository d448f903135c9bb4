/- Lemmas of the proof; each says what it shows. -/
import Derived.Test.YtafdgbndcflghaaGreatGw1
set_option linter.unusedSimpArgs false
set_option linter.unusedVariables false
set_option linter.defProp false
set_option maxRecDepth 4000
namespace Go.Proofs.YtafdgbndcflghaaGreat
open Go.Av
open And renaming intro→ae
open CallH renaming c→ai
open CondH renaming t3→aG,run→ag,f3→aH
open Dt renaming pv→al
open Ft renaming pv→aj
open IdxH renaming c→aq
open List renaming length_map→aD
open Mg renaming know_sl→aN,forN→aI
open Sat renaming go→au
open Tryz renaming prog→ah
open Tt renaming pv→am
open VSeq renaming step→ar,nil→aU
set_option maxHeartbeats 4000000
theorem irs_{a0:Dt}  {r:Dt×Bool×Bool}(h:ir_ a0=some r):Sat ah 51 [((al false) a0)] (.tup [((al true) r.1),(B r.2.1),(B r.2.2)]):=by
 obtain⟨h,cs⟩:=Ro_ h
 unfold ir_ at h
 refine au 191 [.cell 2 44,.tmp 3,.tmp 4] Tryz.func51 (h:=S ?_)
 refine aN (b:=false) (sz:=12) (es:=a0.Parts.map (al false)) 21 SC fun hl21=>?_; rw[aD] at hl21
 refine aI (rl_ h) (fun i2 s2=>[(1,.box (.pv ((al false) a0))),(2,.box zab0),(21,.val (.pv (.sl false 12 (a0.Parts.map (al false))))),(22,.val (.pv (I (a0.Parts.length:Int)))),(23,.val (.pv (I (i2:Int))))]) (fun i2 s2=>[]) (Slm_ SC) (fun i2 s2 hi h=>?_) (fun s2 h=>?_)
 ·have w:=ws_ i2
  refine S ?_
  refine aG cs fun cs=>S ?_
  refine rb_ h fun v26 q h=>aq (al false) q (S ?_)
  refine rb_ h fun v30 q h=>ai [false,false] (ics_1 q) (S ?_)
  refine ag cs h (fun cs h=>S ?_) fun cs h=>S ?_
  ·refine rb_ h fun v33 q h=>ai [false,false] (ils_ q) (S ?_)
   exact FHz_ h
  ·exact RdH.z h
 ·refine S ?_
  refine aH cs fun cs=>S ?_
  refine rb_ h fun v37 q h=>aq (al false) q (S ?_)
  refine rb_ h fun v41 q h=>aq (al false) q (S ?_)
  refine ae (DHa_ [7,8] []) (S ?_)
  refine ae (DHa_ [] []) (S ?_)
  refine rb_ h fun v53 q h=>ai [false,false] (irF_5 q) (S ?_)
  refine ag cs h (fun cs h=>S ?_) fun cs h=>S ?_
  rotate_left
  refine ag cs h (fun cs h=>S ?_) fun cs h=>S ?_
  refine ag cs h (fun cs h=>S ?_) fun cs h=>S ?_
  refine ag cs h (fun cs h=>S ?_) fun cs h=>S ?_
  refine ag cs h (fun cs h=>S ?_) fun cs h=>S ?_
  refine rb_ h fun v85 q h=>aq (aj false) q (S ?_)
  refine ag cs h (fun cs h=>S ?_) fun cs h=>S ?_
  rotate_left
  refine rb_ h fun v104 q h=>aq (aj false) q (S ?_)
  refine ag cs h (fun cs h=>S ?_) fun cs h=>S ?_
  refine rb_ h fun v114 q h=>aq (al false) q (S ?_)
  refine rb_ h fun v118 q h=>ai [false,false,false,false] (iWA_1 q) (S ?_)
  refine ae (DHa_ [14] [1888,1889,1890,1891,1892,1893]) (S ?_)
  refine ag cs h (fun cs h=>S ?_) fun cs h=>S ?_
  rotate_left 2
  refine ag cs h (fun cs h=>S ?_) fun cs h=>S ?_
  refine rb_ h fun v142 q h=>aq (al false) q (S ?_)
  refine rb_ h fun v146 q h=>ai [false,false,false,false] (iWA_1 q) (S ?_)
  refine ae (DHa_ [16] [2336,2337,2338,2339,2340,2341]) (S ?_)
  refine ag cs h (fun cs h=>S ?_) fun cs h=>S ?_
  rotate_left 2
  refine rb_ h fun v168 q h=>aq (al false) q (S ?_)
  refine rb_ h fun v172 q h=>ai [false,false,false,false] (iWA_1 q) (S ?_)
  refine ae (DHa_ [18] [2752,2753,2754,2755,2756,2757]) (S ?_)
  refine ag cs h (fun cs h=>S ?_) fun cs h=>S ?_
  ·refine rb_ h fun v181 q h=>aq (al false) q (S ?_)
   refine rb_ h fun v186 q h=>aq (al false) q (S ?_)
   refine rb_ h fun v189 q h=>ai [false,false,false] (icO_1 q) (S ?_)
   refine rb_ h fun v190 q h=>ai [false,false,false] (icO_1 q) (S ?_)
   refine ae (DHa_ [] [3024,3025,3026,3027,3028,3029,3040,3041,3042,3043,3044,3045]) (S ?_)
   exact FHz_ h
  rotate_left 6
  ·refine rb_ h fun v94 q h=>aq (al false) q (S ?_)
   refine rb_ h fun v98 q h=>aq (al false) q (S ?_)
   refine rb_ h fun v100 q h=>ai [false,false,false] (icO_1 q) (S ?_)
   refine ae (DHa_ [] [1600,1601,1602,1603,1604,1605]) (S ?_)
   exact FHz_ h
  ·refine rb_ h fun v127 q h=>aq (al false) q (S ?_)
   refine rb_ h fun v133 q h=>aq (al false) q (S ?_)
   refine rb_ h fun v135 q h=>ai [false,false,false] (icO_1 q) (S ?_)
   refine rb_ h fun v136 q h=>ai [false,false,false] (icO_1 q) (S ?_)
   refine ae (DHa_ [] [2160,2161,2162,2163,2164,2165,2176,2177,2178,2179,2180,2181]) (S ?_)
   exact FHz_ h
  rotate_left
  ·refine rb_ h fun v156 q h=>aq (al false) q (S ?_)
   refine rb_ h fun v159 q h=>ai [false,false,false] (icO_1 q) (S ?_)
   refine rb_ h fun v162 q h=>aq (al false) q (S ?_)
   refine rb_ h fun v164 q h=>ai [false,false,false] (icO_1 q) (S ?_)
   refine ae (DHa_ [] [2544,2545,2546,2547,2548,2549,2624,2625,2626,2627,2628,2629]) (S ?_)
   exact FHz_ h
  all_goals
   exact FHz_ h

theorem irF_3(n:Nat):(∀ (a0:Dt) (r:Dt×Bool×Bool),irF_ n a0=some r→Sat ah 25 [((al false) a0)] (.tup [((al true) r.1),(B r.2.1),(B r.2.2)])):=by
 induction n with
 | zero=>exact fun _ _ h=>by simp[irF_] at h
 | succ n ih=>
  refine fun a0 r h=>?_
  obtain⟨h,cs⟩:=Ro_ h
  rw[irF_] at h
  refine au 52 [.cell 2 44,.tmp 3,.tmp 4] Tryz.func25 (h:=S ?_)
  refine ag cs h (fun cs h=>S ?_) fun cs h=>S ?_
  ·refine rb_ h fun v19 q h=>ai [false] (irs_ q) (S ?_)
   refine ag cs h (fun cs h=>S ?_) fun cs h=>S ?_
   ·exact FHz_ h
   ·refine aN (b:=false) (sz:=12) (es:=a0.Parts.map (al false)) 27 SC fun hl27=>?_; rw[aD] at hl27
    refine aI (rl_ h) (fun i6 s6=>[(1,.box (.pv ((al false) a0))),(2,.box zab0),(27,.val (.pv (.sl false 12 (a0.Parts.map (al false))))),(28,.val (.pv (I (a0.Parts.length:Int)))),(29,.val (.pv (I (i6:Int))))]) (fun i6 s6=>[]) (Slm_ SC) (fun i6 s6 hi h=>?_) (fun s6 h=>?_)
    ·have w:=ws_ i6
     refine S ?_
     refine aG cs fun cs=>S ?_
     refine rb_ h fun v32 q h=>aq (al false) q (S ?_)
     refine rb_ h fun v36 q h=>ai [false] (ih _ _ q) (S ?_)
     refine ag cs h (fun cs h=>S ?_) fun cs h=>S ?_
     ·refine rb_ h fun v42 q h=>ai [false] (icD_2 q) (S ?_)
      refine rb_ h fun v47 q h=>aq (al true) q (S ?_)
      refine rb_ h fun w5 q h=>EldH.c (al true) q (S ?_)
      exact FHz_ h
     ·exact RdH.z h
    ·refine S ?_
     refine aH cs fun cs=>S ?_
     exact FHz_ h
  ·refine aN (b:=false) (sz:=12) (es:=a0.Parts.map (al false)) 27 SC fun hl27=>?_; rw[aD] at hl27
   refine aI (rl_ h) (fun i6 s6=>[(1,.box (.pv ((al false) a0))),(2,.box zab0),(27,.val (.pv (.sl false 12 (a0.Parts.map (al false))))),(28,.val (.pv (I (a0.Parts.length:Int)))),(29,.val (.pv (I (i6:Int))))]) (fun i6 s6=>[]) (Slm_ SC) (fun i6 s6 hi h=>?_) (fun s6 h=>?_)
   ·have w:=ws_ i6
    refine S ?_
    refine aG cs fun cs=>S ?_
    refine rb_ h fun v32 q h=>aq (al false) q (S ?_)
    refine rb_ h fun v36 q h=>ai [false] (ih _ _ q) (S ?_)
    refine ag cs h (fun cs h=>S ?_) fun cs h=>S ?_
    ·refine rb_ h fun v42 q h=>ai [false] (icD_2 q) (S ?_)
     refine rb_ h fun v47 q h=>aq (al true) q (S ?_)
     refine rb_ h fun w9 q h=>EldH.c (al true) q (S ?_)
     exact FHz_ h
    ·exact RdH.z h
   ·refine S ?_
    refine aH cs fun cs=>S ?_
    exact FHz_ h
theorem irF_4{a0:Dt}{r:Dt×Bool×Bool}(h:irF_1 a0=some r):Sat ah 25 [((al false) a0)] (.tup [((al true) r.1),(B r.2.1),(B r.2.2)]):=by
 obtain⟨n,hn⟩:=ls_ h
 exact(irF_3 n) _ _ hn

theorem iRC_1{a0:Dt}  {r:Dt×Bool}(h:iRC_ a0=some r):Sat ah 8 [((al false) a0)] (.tup [((al true) r.1),(B r.2)]):=by
 obtain⟨h,cs⟩:=Ro_ h
 unfold iRC_ at h
 refine au 28 [.cell 2 44,.tmp 3] Tryz.func8 (h:=S ?_)
 refine rb_ h fun v8 q h=>ai [false] (iIV_5 q) (S ?_)
 refine ag cs h (fun cs h=>S ?_) fun cs h=>S ?_
 refine rb_ h fun v13 q h=>ai [false] (irF_4 q) (S ?_)
 refine ag cs h (fun cs h=>S ?_) fun cs h=>S ?_
 refine ag cs h (fun cs h=>S ?_) fun cs h=>S ?_
 ·refine rb_ h fun v25 q h=>ai [true] (iiD_3 q) (S ?_)
  exact FHz_ h
 all_goals
  exact FHz_ h

theorem iEC_1{a0:Dt}{a1:Int}  {r:Dt×Int×Bool}(h:iEC_ a0 a1=some r):Sat ah 13 [((al false) a0),(I a1)] (.tup [((al true) r.1),(I r.2.1),(B r.2.2)]):=by
 obtain⟨h,cs⟩:=Ro_ h
 unfold iEC_ at h
 refine au 39 [.cell 4 44,.tmp 5,.tmp 6] Tryz.func13 (h:=S ?_)
 refine rb_ h fun v12 q h=>ai [false] (iIV_5 q) (S ?_)
 refine ag cs h (fun cs h=>S ?_) fun cs h=>S ?_
 refine rb_ h fun v16 q h=>ai [false,false,false] (iws_ q) (S ?_)
 refine ag cs h (fun cs h=>S ?_) fun cs h=>S ?_
 ·refine rb_ h fun v21 q h=>ai [false] (icD_2 q) (S ?_)
  obtain⟨N5,hN5,h⟩:=rb_1 h
  obtain⟨hN5a,hN5b⟩:=bs_ hN5
  refine aI (rl_ h) (fun i5 s5=>[(1,.val (.pv (I a1))),(4,.box zab0),(7,.box (.node [(.pv (I s5.1)),(.node [(.own 336),(.own 337)]),(.pv (I s5.2.2.2.1)),(.node [(.pv (Sx s5.2.2.2.2.1)),(.own 338)]),(.node [(.pv (I s5.2.2.2.2.2.2.1)),(.node [(.pv (Sx s5.2.2.2.2.2.2.2.1)),(.own 339)]),(.pv (Sx s5.2.2.2.2.2.2.2.2.2.1)),(.own 340)]),(.own 341)])),(22,.val (.pv (I a1))),(23,.val (.pv (I (i5:Int))))]) (fun i5 s5=>[(336,(5,s5.2.1.map (aj true))),(337,(5,s5.2.2.1.map (aj true))),(338,(2,s5.2.2.2.2.2.1.map (am true))),(339,(2,s5.2.2.2.2.2.2.2.2.1.map (am true))),(340,(5,s5.2.2.2.2.2.2.2.2.2.2.1.map (aj true))),(341,(12,s5.2.2.2.2.2.2.2.2.2.2.2.map (al true)))]) (Slm_ SC) (fun i5 s5 hi h=>?_) (fun s5 h=>?_)
  ·have w:=ws_ i5
   refine S ?_
   refine aG cs fun cs=>S ?_
   refine rb_ h fun v28 q h=>ai [false] (iRC_1 q) (S ?_)
   refine ag cs h (fun cs h=>S ?_) fun cs h=>S ?_
   ·have h:=rs_ h
    refine RdH.mk ⟨_,h,?_⟩
    refine Slr_ 453 341 ?_
    refine Slr_ 452 340 ?_
    refine Slr_ 451 339 ?_
    refine Slr_ 450 338 ?_
    refine Slr_ 449 337 ?_
    refine Slr_ 448 336 ?_
    exact Slm_ SWx
   ·exact FHz_ h
  ·refine S ?_
   refine aH cs fun cs=>S ?_
   exact FHz_ h
 all_goals
  exact FHz_ h

theorem eTN_1(n:Nat):(∀ (a0:Tt) (a1:Tt) (r:Bool),eTN_ n a0 a1=some r→Sat ah 28 [((am false) a0),((am false) a1)] (B r))∧(∀ (a0:List Tt) (a1:List Tt) (r:Bool),eTS_ n a0 a1=some r→Sat ah 53 [(.sl false 2 (a0.map (am false))),(.sl false 2 (a1.map (am false)))] (B r)):=by
 induction n with
 | zero=>exact⟨fun _ _ _ h=>by simp[eTN_] at h,fun _ _ _ h=>by simp[eTS_] at h⟩
 | succ n ih=>
  refine⟨fun a0 a1 r h=>?_,fun a0 a1 r h=>?_⟩
  ·obtain⟨h,cs⟩:=Ro_ h
   rw[eTN_] at h
   refine au 16 [.tmp 4] Tryz.func28 (h:=S ?_)
   refine ag cs h (fun cs h=>S ?_) fun cs h=>S ?_
   refine rb_ h fun v14 q h=>ai [false,false] (ih.2 _ _ _ q) (S ?_)
   refine ag cs h (fun cs h=>S ?_) fun cs h=>S ?_
   all_goals
    exact FHz_ h
  ·obtain⟨h,cs⟩:=Ro_ h
   rw[eTS_] at h
   refine au 27 [.tmp 4] Tryz.func53 (h:=S ?_)
   refine ag cs h (fun cs h=>S ?_) fun cs h=>S ?_
   ·refine aN (b:=false) (sz:=2) (es:=a0.map (am false)) 0 SC fun hl0=>?_; rw[aD] at hl0
    refine aI (rl_ h) (fun i4 s4=>[(0,.val (.pv (.sl false 2 (a0.map (am false))))),(1,.val (.pv (.sl false 2 (a1.map (am false))))),(5,.val (.pv (I (i4:Int))))]) (fun i4 s4=>[]) (Slm_ SC) (fun i4 s4 hi h=>?_) (fun s4 h=>?_)
    ·have w:=ws_ i4
     refine S ?_
     refine aG cs fun cs=>S ?_
     refine rb_ h fun v19 q h=>aq (am false) q (S ?_)
     refine rb_ h fun v23 q h=>aq (am false) q (S ?_)
     refine rb_ h fun v25 q h=>ai [false,false] (ih.1 _ _ _ q) (S ?_)
     refine ae (DHa_ [] []) (S ?_)
     refine ag cs h (fun cs h=>S ?_) fun cs h=>S ?_
     ·exact RdH.z h
     ·exact FHz_ h
    ·refine S ?_
     refine aH cs fun cs=>S ?_
     exact FHz_ h
   ·exact FHz_ h
theorem eTs_{a0:Tt}{a1:Tt}{r:Bool}(h:eT_ a0 a1=some r):Sat ah 28 [((am false) a0),((am false) a1)] (B r):=by
 obtain⟨n,hn⟩:=ls_ h
 exact(eTN_1 n).1 _ _ _ hn
theorem eTS_2{a0:List Tt}{a1:List Tt}{r:Bool}(h:eTS_1 a0 a1=some r):Sat ah 53 [(.sl false 2 (a0.map (am false))),(.sl false 2 (a1.map (am false)))] (B r):=by
 obtain⟨n,hn⟩:=ls_ h
 exact(eTN_1 n).2 _ _ _ hn

theorem eFN_2(n:Nat):(∀ (a0:Ft) (a1:Ft) (r:Bool),eFN_ n a0 a1=some r→Sat ah 29 [((aj false) a0),((aj false) a1)] (B r))∧(∀ (a0:List Ft) (a1:List Ft) (r:Bool),eFS_ n a0 a1=some r→Sat ah 52 [(.sl false 5 (a0.map (aj false))),(.sl false 5 (a1.map (aj false)))] (B r)):=by
 induction n with
 | zero=>exact⟨fun _ _ _ h=>by simp[eFN_] at h,fun _ _ _ h=>by simp[eFS_] at h⟩
 | succ n ih=>
  refine⟨fun a0 a1 r h=>?_,fun a0 a1 r h=>?_⟩
  ·obtain⟨h,cs⟩:=Ro_ h
   rw[eFN_] at h
   refine au 27 [.tmp 4] Tryz.func29 (h:=S ?_)
   refine ag cs h (fun cs h=>S ?_) fun cs h=>S ?_
   refine rb_ h fun v14 q h=>ai [false,false] (eTs_ q) (S ?_)
   refine ag cs h (fun cs h=>S ?_) fun cs h=>S ?_
   refine ag cs h (fun cs h=>S ?_) fun cs h=>S ?_
   refine rb_ h fun v25 q h=>ai [false,false] (ih.2 _ _ _ q) (S ?_)
   refine ag cs h (fun cs h=>S ?_) fun cs h=>S ?_
   all_goals
    exact FHz_ h
  ·obtain⟨h,cs⟩:=Ro_ h
   rw[eFS_] at h
   refine au 27 [.tmp 4] Tryz.func52 (h:=S ?_)
   refine ag cs h (fun cs h=>S ?_) fun cs h=>S ?_
   ·refine aN (b:=false) (sz:=5) (es:=a0.map (aj false)) 0 SC fun hl0=>?_; rw[aD] at hl0
    refine aI (rl_ h) (fun i4 s4=>[(0,.val (.pv (.sl false 5 (a0.map (aj false))))),(1,.val (.pv (.sl false 5 (a1.map (aj false))))),(5,.val (.pv (I (i4:Int))))]) (fun i4 s4=>[]) (Slm_ SC) (fun i4 s4 hi h=>?_) (fun s4 h=>?_)
    ·have w:=ws_ i4
     refine S ?_
     refine aG cs fun cs=>S ?_
     refine rb_ h fun v19 q h=>aq (aj false) q (S ?_)
     refine rb_ h fun v23 q h=>aq (aj false) q (S ?_)
     refine rb_ h fun v25 q h=>ai [false,false] (ih.1 _ _ _ q) (S ?_)
     refine ae (DHa_ [] []) (S ?_)
     refine ag cs h (fun cs h=>S ?_) fun cs h=>S ?_
     ·exact RdH.z h
     ·exact FHz_ h
    ·refine S ?_
     refine aH cs fun cs=>S ?_
     exact FHz_ h
   ·exact FHz_ h
theorem eFs_{a0:Ft}{a1:Ft}{r:Bool}(h:eF_ a0 a1=some r):Sat ah 29 [((aj false) a0),((aj false) a1)] (B r):=by
 obtain⟨n,hn⟩:=ls_ h
 exact(eFN_2 n).1 _ _ _ hn
theorem eFS_3{a0:List Ft}{a1:List Ft}{r:Bool}(h:eFS_1 a0 a1=some r):Sat ah 52 [(.sl false 5 (a0.map (aj false))),(.sl false 5 (a1.map (aj false)))] (B r):=by
 obtain⟨n,hn⟩:=ls_ h
 exact(eFN_2 n).2 _ _ _ hn

theorem eSs_{a0:Sa}{a1:Sa}  {r:Bool}(h:eS_1 a0 a1=some r):Sat ah 27 [((Sa.pv false) a0),((Sa.pv false) a1)] (B r):=by
 obtain⟨h,cs⟩:=Ro_ h
 unfold eS_1 at h
 refine au 17 [.tmp 4] Tryz.func27 (h:=S ?_)
 refine rb_ h fun v9 q h=>ai [false,false] (eFS_3 q) (S ?_)
 refine ag cs h (fun cs h=>S ?_) fun cs h=>S ?_
 refine rb_ h fun v15 q h=>ai [false,false] (eFS_3 q) (S ?_)
 refine ag cs h (fun cs h=>S ?_) fun cs h=>S ?_
 all_goals
  exact FHz_ h

theorem eDN_1(n:Nat):(∀ (a0:Dt) (a1:Dt) (r:Bool),eDN_ n a0 a1=some r→Sat ah 9 [((al false) a0),((al false) a1)] (B r))∧(∀ (a0:List Dt) (a1:List Dt) (r:Bool),eDS_ n a0 a1=some r→Sat ah 30 [(.sl false 12 (a0.map (al false))),(.sl false 12 (a1.map (al false)))] (B r)):=by
 induction n with
 | zero=>exact⟨fun _ _ _ h=>by simp[eDN_] at h,fun _ _ _ h=>by simp[eDS_] at h⟩
 | succ n ih=>
  refine⟨fun a0 a1 r h=>?_,fun a0 a1 r h=>?_⟩
  ·obtain⟨h,cs⟩:=Ro_ h
   rw[eDN_] at h
   refine au 39 [.tmp 4] Tryz.func9 (h:=S ?_)
   refine ag cs h (fun cs h=>S ?_) fun cs h=>S ?_
   refine rb_ h fun v14 q h=>ai [false,false] (eSs_ q) (S ?_)
   refine ag cs h (fun cs h=>S ?_) fun cs h=>S ?_
   refine ag cs h (fun cs h=>S ?_) fun cs h=>S ?_
   refine rb_ h fun v25 q h=>ai [false,false] (eTs_ q) (S ?_)
   refine ag cs h (fun cs h=>S ?_) fun cs h=>S ?_
   refine rb_ h fun v31 q h=>ai [false,false] (eFs_ q) (S ?_)
   refine ag cs h (fun cs h=>S ?_) fun cs h=>S ?_
   refine rb_ h fun v37 q h=>ai [false,false] (ih.2 _ _ _ q) (S ?_)
   refine ag cs h (fun cs h=>S ?_) fun cs h=>S ?_
   all_goals
    exact FHz_ h
  ·obtain⟨h,cs⟩:=Ro_ h
   rw[eDS_] at h
   refine au 27 [.tmp 4] Tryz.func30 (h:=S ?_)
   refine ag cs h (fun cs h=>S ?_) fun cs h=>S ?_
   ·refine aN (b:=false) (sz:=12) (es:=a0.map (al false)) 0 SC fun hl0=>?_; rw[aD] at hl0
    refine aI (rl_ h) (fun i4 s4=>[(0,.val (.pv (.sl false 12 (a0.map (al false))))),(1,.val (.pv (.sl false 12 (a1.map (al false))))),(5,.val (.pv (I (i4:Int))))]) (fun i4 s4=>[]) (Slm_ SC) (fun i4 s4 hi h=>?_) (fun s4 h=>?_)
    ·have w:=ws_ i4
     refine S ?_
     refine aG cs fun cs=>S ?_
     refine rb_ h fun v19 q h=>aq (al false) q (S ?_)
     refine rb_ h fun v23 q h=>aq (al false) q (S ?_)
     refine rb_ h fun v25 q h=>ai [false,false] (ih.1 _ _ _ q) (S ?_)
     refine ae (DHa_ [] []) (S ?_)
     refine ag cs h (fun cs h=>S ?_) fun cs h=>S ?_
     ·exact RdH.z h
     ·exact FHz_ h
    ·refine S ?_
     refine aH cs fun cs=>S ?_
     exact FHz_ h
   ·exact FHz_ h
theorem eDs_{a0:Dt}{a1:Dt}{r:Bool}(h:eD_ a0 a1=some r):Sat ah 9 [((al false) a0),((al false) a1)] (B r):=by
 obtain⟨n,hn⟩:=ls_ h
 exact(eDN_1 n).1 _ _ _ hn
theorem eDS_2{a0:List Dt}{a1:List Dt}{r:Bool}(h:eDS_1 a0 a1=some r):Sat ah 30 [(.sl false 12 (a0.map (al false))),(.sl false 12 (a1.map (al false)))] (B r):=by
 obtain⟨n,hn⟩:=ls_ h
 exact(eDN_1 n).2 _ _ _ hn

theorem mTs_{a0:Int}  {r:ByteArray}(h:mT_ a0=some r):Sat ah 56 [(I a0)] (Sx r):=by
 obtain⟨h,cs⟩:=Ro_ h
 unfold mT_ at h
 refine au 20 [.tmp 2] Tryz.func56 (h:=S ?_)
 refine ag cs h (fun cs h=>S ?_) fun cs h=>S ?_
 ·exact FHz_ h
 ·replace h:=rl_ h
  refine Mg.whileN h (fun s4=>[(0,.val (.pv (I s4.1))),(3,.val (.pv (Sx s4.2)))]) (fun s4=>[]) (Slm_ SC) (fun n4 s4 h=>?_)
  refine S ?_
  refine ag cs h (fun cs h=>S ?_) fun cs h=>S ?_
  ·refine rb_ h fun v9 q h=>remH.mk q (S ?_)
   refine rb_ h fun v13 q h=>BstrH.mk q SC (S ?_)
   refine rb_ h fun v15 q h=>SappH.mk q (S ?_)
   refine rb_ h fun v17 q h=>quoH.mk q (S ?_)
   have h:=rs_ h
   refine RdH.mk ⟨_,h,?_⟩
   exact Slm_ SC
  ·have h:=rs_ h
   refine rb_ h fun v19 q h=>SappH.mk q (S ?_)
   exact FHz_ h

theorem mTS_5(n:Nat):(∀ (a0:List Tt) (a1:Int) (r:Int×(List Tt)),mTS_1 n a0 a1=some r→SatIO ah 55 [(.sl true 2 (a0.map (am true))),(I a1)] [(.sl true 2 (r.2.map (am true))),(I a1)] (I r.1)):=by
 induction n with
 | zero=>exact fun _ _ _ h=>by simp[mTS_1] at h
 | succ n ih=>
  refine fun a0 a1 r h=>?_
  obtain⟨h,cs⟩:=Ro_ h
  rw[mTS_1] at h
  refine SIo_ (nt:=28) (rs:=[.tmp 4]) (n:=100000) Tryz.func55 rfl rfl rfl rfl (by simp) (S ?_)
  refine ar (S ?_)
  refine aU (Nat.le_of_eq rfl) (S ?_)
  refine ar (S ?_)
  refine aU (Nat.le_of_eq rfl) (S ?_)
  replace h:=rl_ h
  refine MgI.whileN h (fun s2=>[(0,.val (.own 10000)),(1,.val (.pv (I s2.2.1))),(5,.val (.pv (I s2.2.2)))]) (fun s2=>[(10000,(2,s2.1.map (am true)))]) (Slm_ SC) (fun n2 s2 h=>?_)
  refine S ?_
  refine ar (S ?_)
  refine ar (S ?_)
  refine ar (S ?_)
  refine ar (S ?_)
  refine aU (Nat.le_of_eq rfl) (S ?_)
  refine ag cs h (fun cs h=>S ?_) fun cs h=>S ?_
  ·refine ar (S ?_)
   refine ar (S ?_)
   refine ar (S ?_)
   refine ar (S ?_)
   refine rb_ h fun v15 q h=>ai [false] (mTs_ q) (S ?_)
   refine ar (S ?_)
   refine rb_ h fun v16 q h=>aq (am true) q (S ?_)
   refine ar (S ?_)
   refine ar (S ?_)
   refine rb_ h fun w2 q h=>EldH.c (am true) q (S ?_)
   refine aU (Nat.le_of_eq rfl) (S ?_)
   refine ar (S ?_)
   refine ar (S ?_)
   refine ar (S ?_)
   refine aU (Nat.le_of_eq rfl) (S ?_)
   refine ar (S ?_)
   refine ar (S ?_)
   refine ar (S ?_)
   refine rb_ h fun v22 q h=>aq (am true) q (S ?_)
   refine ar (S ?_)
   obtain⟨w3,hw3,h⟩:=rb_1 h
   obtain⟨v26,hv26,h⟩:=rb_1 h
   refine Vei_ (fx:=(am true)) (c:=10000) (sz:=2) (p:=[1]) (off:=1) (h1:=rfl) (h3:=rfl) (h2:=rfl) rfl rfl rfl rfl rfl rfl rfl rfl rfl hw3 (ih _ _ _ hv26) SC SC (S ?_)
   refine ar (S ?_)
   refine aU (Nat.le_of_eq rfl) (S ?_)
   refine ar (S ?_)
   refine ar (S ?_)
   refine ar (S ?_)
   refine aU (Nat.le_of_eq rfl) (S ?_)
   have h:=rs_ h
   refine RdH.mk ⟨_,h,?_⟩
   exact Slm_ SC
  ·have h:=rs_ h
   refine ar (S ?_)
   refine ar (S ?_)
   refine aU (Nat.le_of_eq rfl) (S ?_)
   cases rs_ h
   exact FinIO.mk SC
theorem mTS_2{a0:List Tt}{a1:Int}{r:Int×(List Tt)}(h:mTS_3 a0 a1=some r):SatIO ah 55 [(.sl true 2 (a0.map (am true))),(I a1)] [(.sl true 2 (r.2.map (am true))),(I a1)] (I r.1):=by
 obtain⟨n,hn⟩:=ls_ h
 exact(mTS_5 n) _ _ _ hn

theorem mFS_5(n:Nat):(∀ (a0:List Ft) (a1:Int) (r:Int×(List Ft)),mFS_1 n a0 a1=some r→SatIO ah 54 [(.sl true 5 (a0.map (aj true))),(I a1)] [(.sl true 5 (r.2.map (aj true))),(I a1)] (I r.1)):=by
 induction n with
 | zero=>exact fun _ _ _ h=>by simp[mFS_1] at h
 | succ n ih=>
  refine fun a0 a1 r h=>?_
  obtain⟨h,cs⟩:=Ro_ h
  rw[mFS_1] at h
  refine SIo_ (nt:=52) (rs:=[.tmp 4]) (n:=100000) Tryz.func54 rfl rfl rfl rfl (by simp) (S ?_)
  refine ar (S ?_)
  refine aU (Nat.le_of_eq rfl) (S ?_)
  refine ar (S ?_)
  refine aU (Nat.le_of_eq rfl) (S ?_)
  replace h:=rl_ h
  refine MgI.whileN h (fun s2=>[(0,.val (.own 10000)),(1,.val (.pv (I s2.2.1))),(5,.val (.pv (I s2.2.2)))]) (fun s2=>[(10000,(5,s2.1.map (aj true)))]) (Slm_ SC) (fun n2 s2 h=>?_)
  refine S ?_
  refine ar (S ?_)
  refine ar (S ?_)
  refine ar (S ?_)
  refine ar (S ?_)
  refine aU (Nat.le_of_eq rfl) (S ?_)
  refine ag cs h (fun cs h=>S ?_) fun cs h=>S ?_
  ·refine ar (S ?_)
   refine ar (S ?_)
   refine ar (S ?_)
   refine ar (S ?_)
   refine rb_ h fun v15 q h=>aq (aj true) q (S ?_)
   refine ar (S ?_)
   refine ar (S ?_)
   refine rb_ h fun w2 q h=>EldH.c (aj true) q (S ?_)
   refine aU (Nat.le_of_eq rfl) (S ?_)
   refine ar (S ?_)
   refine ar (S ?_)
   refine ar (S ?_)
   refine aU (Nat.le_of_eq rfl) (S ?_)
   refine ar (S ?_)
   refine ar (S ?_)
   refine ar (S ?_)
   refine ar (S ?_)
   refine rb_ h fun v22 q h=>ai [false] (mTs_ q) (S ?_)
   refine ar (S ?_)
   refine rb_ h fun v23 q h=>aq (aj true) q (S ?_)
   refine ar (S ?_)
   refine ar (S ?_)
   refine ar (S ?_)
   refine rb_ h fun w3 q h=>EldH.c (aj true) q (S ?_)
   refine aU (Nat.le_of_eq rfl) (S ?_)
   refine ar (S ?_)
   refine ar (S ?_)
   refine ar (S ?_)
   refine aU (Nat.le_of_eq rfl) (S ?_)
   refine ar (S ?_)
   refine ar (S ?_)
   refine ar (S ?_)
   refine rb_ h fun v30 q h=>aq (aj true) q (S ?_)
   refine ar (S ?_)
   refine ar (S ?_)
   obtain⟨w4,hw4,h⟩:=rb_1 h
   obtain⟨v35,hv35,h⟩:=rb_1 h
   refine Vei_ (fx:=(aj true)) (c:=10000) (sz:=5) (p:=[1,1]) (off:=2) (h1:=rfl) (h3:=rfl) (h2:=rfl) rfl rfl rfl rfl rfl rfl rfl rfl rfl hw4 (mTS_2 hv35) SC SC (S ?_)
   refine ar (S ?_)
   refine aU (Nat.le_of_eq rfl) (S ?_)
   refine ar (S ?_)
   refine ar (S ?_)
   refine ar (S ?_)
   refine ar (S ?_)
   refine rb_ h fun v39 q h=>ai [false] (mTs_ q) (S ?_)
   refine ar (S ?_)
   refine rb_ h fun v40 q h=>aq (aj true) q (S ?_)
   refine ar (S ?_)
   refine ar (S ?_)
   refine rb_ h fun w5 q h=>EldH.c (aj true) q (S ?_)
   refine aU (Nat.le_of_eq rfl) (S ?_)
   refine ar (S ?_)
   refine ar (S ?_)
   refine ar (S ?_)
   refine aU (Nat.le_of_eq rfl) (S ?_)
   refine ar (S ?_)
   refine ar (S ?_)
   refine ar (S ?_)
   refine rb_ h fun v46 q h=>aq (aj true) q (S ?_)
   refine ar (S ?_)
   obtain⟨w6,hw6,h⟩:=rb_1 h
   obtain⟨v50,hv50,h⟩:=rb_1 h
   refine Vei_ (fx:=(aj true)) (c:=10000) (sz:=5) (p:=[3]) (off:=4) (h1:=rfl) (h3:=rfl) (h2:=rfl) rfl rfl rfl rfl rfl rfl rfl rfl rfl hw6 (ih _ _ _ hv50) SC SC (S ?_)
   refine ar (S ?_)
   refine aU (Nat.le_of_eq rfl) (S ?_)
   refine ar (S ?_)
   refine ar (S ?_)
   refine ar (S ?_)
   refine aU (Nat.le_of_eq rfl) (S ?_)
   have h:=rs_ h
   refine RdH.mk ⟨_,h,?_⟩
   exact Slm_ SC
  ·have h:=rs_ h
   refine ar (S ?_)
   refine ar (S ?_)
   refine aU (Nat.le_of_eq rfl) (S ?_)
   cases rs_ h
   exact FinIO.mk SC
theorem mFS_2{a0:List Ft}{a1:Int}{r:Int×(List Ft)}(h:mFS_3 a0 a1=some r):SatIO ah 54 [(.sl true 5 (a0.map (aj true))),(I a1)] [(.sl true 5 (r.2.map (aj true))),(I a1)] (I r.1):=by
 obtain⟨n,hn⟩:=ls_ h
 exact(mFS_5 n) _ _ _ hn

theorem mSs_{a0:Sa}{a1:Int}  {r:Int×(List Ft)×(List Ft)}(h:mS_ a0 a1=some r):SatIO ah 31 [((Sa.pv true) a0),(I a1)] [((Sa.pv true) (Sa.mk r.2.1 r.2.2)),(I a1)] (I r.1):=by
 obtain⟨h,cs⟩:=Ro_ h
 unfold mS_ at h
 refine SatIO.of_m (nt:=14) (rs:=[.tmp 4]) (n:=100000) Tryz.func31 rfl rfl rfl rfl (by simp) (S ?_)
 obtain⟨v8,hv8,h⟩:=rb_1 h
 refine CHi_ [(.own 10000),(.pv (I a1))] [(10000,(5,v8.2.map (aj true)))] (mFS_2 hv8) SC (S ?_)
 obtain⟨v12,hv12,h⟩:=rb_1 h
 refine CHi_ [(.own 10001),(.pv (I v8.1))] [(10001,(5,v12.2.map (aj true)))] (mFS_2 hv12) SC (S ?_)
 cases rs_ h
 exact FinIO.mk SC

theorem mTs_1{a0:Tt}{a1:Int}  {r:Int×(List Tt)}(h:mT_1 a0 a1=some r):SatIO ah 32 [((am true) a0),(I a1)] [((am true) (Tt.mk a0.Name r.2)),(I a1)] (I r.1):=by
 obtain⟨h,cs⟩:=Ro_ h
 unfold mT_1 at h
 refine SatIO.of_m (nt:=10) (rs:=[.tmp 4]) (n:=100000) Tryz.func32 rfl rfl rfl rfl (by simp) (S ?_)
 obtain⟨v8,hv8,h⟩:=rb_1 h
 refine CHi_ [(.own 10000),(.pv (I a1))] [(10000,(2,v8.2.map (am true)))] (mTS_2 hv8) SC (S ?_)
 cases rs_ h
 exact FinIO.mk SC

theorem mFs_{a0:Ft}{a1:Int}  {r:Int×(List Tt)×(List Ft)}(h:mF_ a0 a1=some r):SatIO ah 33 [((aj true) a0),(I a1)] [((aj true) (Ft.mk a0.Op (Tt.mk a0.Atom.Name r.2.1) a0.Var r.2.2)),(I a1)] (I r.1):=by
 obtain⟨h,cs⟩:=Ro_ h
 unfold mF_ at h
 refine SatIO.of_m (nt:=14) (rs:=[.tmp 4]) (n:=100000) Tryz.func33 rfl rfl rfl rfl (by simp) (S ?_)
 obtain⟨v8,hv8,h⟩:=rb_1 h
 refine CHi_ [(.node [(.pv (Sx a0.Atom.Name)),(.own 10000)]),(.pv (I a1))] [(10000,(2,v8.2.map (am true)))] (mTs_1 hv8) SC (S ?_)
 obtain⟨v12,hv12,h⟩:=rb_1 h
 refine CHi_ [(.own 10001),(.pv (I v8.1))] [(10001,(5,v12.2.map (aj true)))] (mFS_2 hv12) SC (S ?_)
 cases rs_ h
 exact FinIO.mk SC

theorem mDS_4(n:Nat):(∀ (a0:List Dt) (a1:Int) (r:Int×(List Dt)),mDS_ n a0 a1=some r→SatIO ah 34 [(.sl true 12 (a0.map (al true))),(I a1)] [(.sl true 12 (r.2.map (al true))),(I a1)] (I r.1)):=by
 induction n with
 | zero=>exact fun _ _ _ h=>by simp[mDS_] at h
 | succ n ih=>
  refine fun a0 a1 r h=>?_
  obtain⟨h,cs⟩:=Ro_ h
  rw[mDS_] at h
  refine SIo_ (nt:=111) (rs:=[.tmp 4]) (n:=100000) Tryz.func34 rfl rfl rfl rfl (by simp) (S ?_)
  refine ar (S ?_)
  refine aU (Nat.le_of_eq rfl) (S ?_)
  refine ar (S ?_)
  refine aU (Nat.le_of_eq rfl) (S ?_)
  replace h:=rl_ h
  refine MgI.whileN h (fun s2=>[(0,.val (.own 10000)),(1,.val (.pv (I s2.2.1))),(5,.val (.pv (I s2.2.2)))]) (fun s2=>[(10000,(12,s2.1.map (al true)))]) (Slm_ SC) (fun n2 s2 h=>?_)
  refine S ?_
  refine ar (S ?_)
  refine ar (S ?_)
  refine ar (S ?_)
  refine ar (S ?_)
  refine aU (Nat.le_of_eq rfl) (S ?_)
  refine ag cs h (fun cs h=>S ?_) fun cs h=>S ?_
  ·refine ar (S ?_)
   refine ar (S ?_)
   refine ar (S ?_)
   refine ar (S ?_)
   refine rb_ h fun v15 q h=>aq (al true) q (S ?_)
   refine ar (S ?_)
   refine ar (S ?_)
   refine rb_ h fun w2 q h=>EldH.c (al true) q (S ?_)
   refine aU (Nat.le_of_eq rfl) (S ?_)
   refine ar (S ?_)
   refine ar (S ?_)
   refine ar (S ?_)
   refine aU (Nat.le_of_eq rfl) (S ?_)
   refine ar (S ?_)
   refine ar (S ?_)
   refine ar (S ?_)
   refine rb_ h fun v21 q h=>aq (al true) q (S ?_)
   refine ar (S ?_)
   refine ar (S ?_)
   obtain⟨w3,hw3,h⟩:=rb_1 h
   obtain⟨v26,hv26,h⟩:=rb_1 h
   refine Vei_ (fx:=(al true)) (c:=10000) (sz:=12) (p:=[1,0]) (off:=1) (h1:=rfl) (h3:=rfl) (h2:=rfl) rfl rfl rfl rfl rfl rfl rfl rfl rfl hw3 (mFS_2 hv26) SC SC (S ?_)
   refine ar (S ?_)
   refine aU (Nat.le_of_eq rfl) (S ?_)
   refine ar (S ?_)
   refine ar (S ?_)
   refine ar (S ?_)
   refine rb_ h fun v29 q h=>aq (al true) q (S ?_)
   refine ar (S ?_)
   refine ar (S ?_)
   obtain⟨w4,hw4,h⟩:=rb_1 h
   obtain⟨v34,hv34,h⟩:=rb_1 h
   refine Vei_ (fx:=(al true)) (c:=10000) (sz:=12) (p:=[1,1]) (off:=2) (h1:=rfl) (h3:=rfl) (h2:=rfl) rfl rfl rfl rfl rfl rfl rfl rfl rfl hw4 (mFS_2 hv34) SC SC (S ?_)
   refine ar (S ?_)
   refine aU (Nat.le_of_eq rfl) (S ?_)
   refine ar (S ?_)
   refine ar (S ?_)
   refine ar (S ?_)
   refine ar (S ?_)
   refine rb_ h fun v38 q h=>aq (al true) q (S ?_)
   refine ar (S ?_)
   refine ar (S ?_)
   refine rb_ h fun w5 q h=>EldH.c (al true) q (S ?_)
   refine aU (Nat.le_of_eq rfl) (S ?_)
   refine ar (S ?_)
   refine ar (S ?_)
   refine ar (S ?_)
   refine aU (Nat.le_of_eq rfl) (S ?_)
   refine ar (S ?_)
   refine ar (S ?_)
   refine ar (S ?_)
   refine ar (S ?_)
   refine rb_ h fun v45 q h=>ai [false] (mTs_ q) (S ?_)
   refine ar (S ?_)
   refine rb_ h fun v46 q h=>aq (al true) q (S ?_)
   refine ar (S ?_)
   refine ar (S ?_)
   refine ar (S ?_)
   refine rb_ h fun w6 q h=>EldH.c (al true) q (S ?_)
   refine aU (Nat.le_of_eq rfl) (S ?_)
   refine ar (S ?_)
   refine ar (S ?_)
   refine ar (S ?_)
   refine aU (Nat.le_of_eq rfl) (S ?_)
   refine ar (S ?_)
   refine ar (S ?_)
   refine ar (S ?_)
   refine rb_ h fun v53 q h=>aq (al true) q (S ?_)
   refine ar (S ?_)
   refine ar (S ?_)
   obtain⟨w7,hw7,h⟩:=rb_1 h
   obtain⟨v58,hv58,h⟩:=rb_1 h
   refine Vei_ (fx:=(al true)) (c:=10000) (sz:=12) (p:=[3,1]) (off:=5) (h1:=rfl) (h3:=rfl) (h2:=rfl) rfl rfl rfl rfl rfl rfl rfl rfl rfl hw7 (mTS_2 hv58) SC SC (S ?_)
   refine ar (S ?_)
   refine aU (Nat.le_of_eq rfl) (S ?_)
   refine ar (S ?_)
   refine ar (S ?_)
   refine ar (S ?_)
   refine ar (S ?_)
   refine rb_ h fun v62 q h=>aq (al true) q (S ?_)
   refine ar (S ?_)
   refine ar (S ?_)
   refine ar (S ?_)
   refine rb_ h fun w8 q h=>EldH.c (al true) q (S ?_)
   refine aU (Nat.le_of_eq rfl) (S ?_)
   refine ar (S ?_)
   refine ar (S ?_)
   refine ar (S ?_)
   refine aU (Nat.le_of_eq rfl) (S ?_)
   refine ar (S ?_)
   refine ar (S ?_)
   refine ar (S ?_)
   refine ar (S ?_)
   refine rb_ h fun v70 q h=>ai [false] (mTs_ q) (S ?_)
   refine ar (S ?_)
   refine rb_ h fun v71 q h=>aq (al true) q (S ?_)
   refine ar (S ?_)
   refine ar (S ?_)
   refine ar (S ?_)
   refine ar (S ?_)
   refine rb_ h fun w9 q h=>EldH.c (al true) q (S ?_)
   refine aU (Nat.le_of_eq rfl) (S ?_)
   refine ar (S ?_)
   refine ar (S ?_)
   refine ar (S ?_)
   refine aU (Nat.le_of_eq rfl) (S ?_)
   refine ar (S ?_)
   refine ar (S ?_)
   refine ar (S ?_)
   refine rb_ h fun v79 q h=>aq (al true) q (S ?_)
   refine ar (S ?_)
   refine ar (S ?_)
   refine ar (S ?_)
   obtain⟨w10,hw10,h⟩:=rb_1 h
   obtain⟨v85,hv85,h⟩:=rb_1 h
   refine Vei_ (fx:=(al true)) (c:=10000) (sz:=12) (p:=[4,1,1]) (off:=8) (h1:=rfl) (h3:=rfl) (h2:=rfl) rfl rfl rfl rfl rfl rfl rfl rfl rfl hw10 (mTS_2 hv85) SC SC (S ?_)
   refine ar (S ?_)
   refine aU (Nat.le_of_eq rfl) (S ?_)
   refine ar (S ?_)
   refine ar (S ?_)
   refine ar (S ?_)
   refine ar (S ?_)
   refine rb_ h fun v89 q h=>ai [false] (mTs_ q) (S ?_)
   refine ar (S ?_)
   refine rb_ h fun v90 q h=>aq (al true) q (S ?_)
   refine ar (S ?_)
   refine ar (S ?_)
   refine ar (S ?_)
   refine rb_ h fun w11 q h=>EldH.c (al true) q (S ?_)
   refine aU (Nat.le_of_eq rfl) (S ?_)
   refine ar (S ?_)
   refine ar (S ?_)
   refine ar (S ?_)
   refine aU (Nat.le_of_eq rfl) (S ?_)
   refine ar (S ?_)
   refine ar (S ?_)
   refine ar (S ?_)
   refine rb_ h fun v97 q h=>aq (al true) q (S ?_)
   refine ar (S ?_)
   refine ar (S ?_)
   obtain⟨w12,hw12,h⟩:=rb_1 h
   obtain⟨v102,hv102,h⟩:=rb_1 h
   refine Vei_ (fx:=(al true)) (c:=10000) (sz:=12) (p:=[4,3]) (off:=10) (h1:=rfl) (h3:=rfl) (h2:=rfl) rfl rfl rfl rfl rfl rfl rfl rfl rfl hw12 (mFS_2 hv102) SC SC (S ?_)
   refine ar (S ?_)
   refine aU (Nat.le_of_eq rfl) (S ?_)
   refine ar (S ?_)
   refine ar (S ?_)
   refine ar (S ?_)
   refine rb_ h fun v105 q h=>aq (al true) q (S ?_)
   refine ar (S ?_)
   obtain⟨w13,hw13,h⟩:=rb_1 h
   obtain⟨v109,hv109,h⟩:=rb_1 h
   refine Vei_ (fx:=(al true)) (c:=10000) (sz:=12) (p:=[5]) (off:=11) (h1:=rfl) (h3:=rfl) (h2:=rfl) rfl rfl rfl rfl rfl rfl rfl rfl rfl hw13 (ih _ _ _ hv109) SC SC (S ?_)
   refine ar (S ?_)
   refine aU (Nat.le_of_eq rfl) (S ?_)
   refine ar (S ?_)
   refine ar (S ?_)
   refine ar (S ?_)
   refine aU (Nat.le_of_eq rfl) (S ?_)
   have h:=rs_ h
   refine RdH.mk ⟨_,h,?_⟩
   exact Slm_ SC
  ·have h:=rs_ h
   refine ar (S ?_)
   refine ar (S ?_)
   refine aU (Nat.le_of_eq rfl) (S ?_)
   cases rs_ h
   exact FinIO.mk SC
theorem mDS_5{a0:List Dt}{a1:Int}{r:Int×(List Dt)}(h:mDS_2 a0 a1=some r):SatIO ah 34 [(.sl true 12 (a0.map (al true))),(I a1)] [(.sl true 12 (r.2.map (al true))),(I a1)] (I r.1):=by
 obtain⟨n,hn⟩:=ls_ h
 exact(mDS_4 n) _ _ _ hn

theorem mDs_{a0:Dt}{a1:Int}  {r:Int×(List Ft)×(List Ft)×(List Tt)×(List Tt)×(List Ft)×(List Dt)}(h:mD_ a0 a1=some r):SatIO ah 10 [((al true) a0),(I a1)] [((al true) (Dt.mk a0.Rule (Sa.mk r.2.1 r.2.2.1) a0.Main (Tt.mk a0.Term.Name r.2.2.2.1) (Ft.mk a0.Cut.Op (Tt.mk a0.Cut.Atom.Name r.2.2.2.2.1) a0.Cut.Var r.2.2.2.2.2.1) r.2.2.2.2.2.2)),(I a1)] (I r.1):=by
 obtain⟨h,cs⟩:=Ro_ h
 unfold mD_ at h
 refine SatIO.of_m (nt:=22) (rs:=[.tmp 4]) (n:=100000) Tryz.func10 rfl rfl rfl rfl (by simp) (S ?_)
 obtain⟨v8,hv8,h⟩:=rb_1 h
 refine CHi_ [(.node [(.own 10000),(.own 10001)]),(.pv (I a1))] [(10000,(5,v8.2.1.map (aj true))),(10001,(5,v8.2.2.map (aj true)))] (mSs_ hv8) SC (S ?_)
 obtain⟨v12,hv12,h⟩:=rb_1 h
 refine CHi_ [(.node [(.pv (Sx a0.Term.Name)),(.own 10002)]),(.pv (I v8.1))] [(10002,(2,v12.2.map (am true)))] (mTs_1 hv12) SC (S ?_)
 obtain⟨v16,hv16,h⟩:=rb_1 h
 refine CHi_ [(.node [(.pv (I a0.Cut.Op)),(.node [(.pv (Sx a0.Cut.Atom.Name)),(.own 10003)]),(.pv (Sx a0.Cut.Var)),(.own 10004)]),(.pv (I v12.1))] [(10003,(2,v16.2.1.map (am true))),(10004,(5,v16.2.2.map (aj true)))] (mFs_ hv16) SC (S ?_)
 obtain⟨v20,hv20,h⟩:=rb_1 h
 refine CHi_ [(.own 10005),(.pv (I v16.1))] [(10005,(12,v20.2.map (al true)))] (mDS_5 hv20) SC (S ?_)
 cases rs_ h
 exact FinIO.mk SC

theorem hTS_3(n:Nat):(∀ (a0:List Tt) (a1:Int) (r:Int),hTS_ n a0 a1=some r→Sat ah 58 [(.sl false 2 (a0.map (am false))),(I a1)] (I r)):=by
 induction n with
 | zero=>exact fun _ _ _ h=>by simp[hTS_] at h
 | succ n ih=>
  refine fun a0 a1 r h=>?_
  obtain⟨h,cs⟩:=Ro_ h
  rw[hTS_] at h
  refine au 32 [.tmp 4] Tryz.func58 (h:=S ?_)
  refine aN (b:=false) (sz:=2) (es:=a0.map (am false)) 0 SC fun hl0=>?_; rw[aD] at hl0
  refine aI (rl_ h) (fun i2 s2=>[(0,.val (.pv (.sl false 2 (a0.map (am false))))),(1,.val (.pv (I s2))),(5,.val (.pv (I (i2:Int))))]) (fun i2 s2=>[]) (Slm_ SC) (fun i2 s2 hi h=>?_) (fun s2 h=>?_)
  ·have w:=ws_ i2
   refine S ?_
   refine aG cs fun cs=>S ?_
   refine rb_ h fun v14 q h=>aq (am false) q (S ?_)
   refine rb_ h fun v18 q h=>ai [false] (mTs_ q) (S ?_)
   refine ae (DHa_ [] []) (S ?_)
   refine ag cs h (fun cs h=>S ?_) fun cs h=>S ?_
   ·refine rb_ h fun v24 q h=>aq (am false) q (S ?_)
    refine rb_ h fun v28 q h=>ai [false,false] (ih _ _ _ q) (S ?_)
    refine ag cs h (fun cs h=>S ?_) fun cs h=>S ?_
    ·exact FHz_ h
    ·exact RdH.z h
   ·exact FHz_ h
  ·refine S ?_
   refine aH cs fun cs=>S ?_
   exact FHz_ h
theorem hTS_1{a0:List Tt}{a1:Int}{r:Int}(h:hTS_2 a0 a1=some r):Sat ah 58 [(.sl false 2 (a0.map (am false))),(I a1)] (I r):=by
 obtain⟨n,hn⟩:=ls_ h
 exact(hTS_3 n) _ _ _ hn

theorem hFS_3(n:Nat):(∀ (a0:List Ft) (a1:Int) (r:Int),hFS_ n a0 a1=some r→Sat ah 57 [(.sl false 5 (a0.map (aj false))),(I a1)] (I r)):=by
 induction n with
 | zero=>exact fun _ _ _ h=>by simp[hFS_] at h
 | succ n ih=>
  refine fun a0 a1 r h=>?_
  obtain⟨h,cs⟩:=Ro_ h
  rw[hFS_] at h
  refine au 62 [.tmp 4] Tryz.func57 (h:=S ?_)
  refine aN (b:=false) (sz:=5) (es:=a0.map (aj false)) 0 SC fun hl0=>?_; rw[aD] at hl0
  refine aI (rl_ h) (fun i2 s2=>[(0,.val (.pv (.sl false 5 (a0.map (aj false))))),(1,.val (.pv (I s2))),(5,.val (.pv (I (i2:Int))))]) (fun i2 s2=>[]) (Slm_ SC) (fun i2 s2 hi h=>?_) (fun s2 h=>?_)
  ·have w:=ws_ i2
   refine S ?_
   refine aG cs fun cs=>S ?_
   refine rb_ h fun v14 q h=>aq (aj false) q (S ?_)
   refine ag cs h (fun cs h=>S ?_) fun cs h=>S ?_
   refine rb_ h fun v23 q h=>aq (aj false) q (S ?_)
   refine rb_ h fun v28 q h=>ai [false] (mTs_ q) (S ?_)
   refine ae (DHa_ [] []) (S ?_)
   refine ag cs h (fun cs h=>S ?_) fun cs h=>S ?_
   refine rb_ h fun v34 q h=>aq (aj false) q (S ?_)
   refine rb_ h fun v39 q h=>ai [false,false] (hTS_1 q) (S ?_)
   refine ag cs h (fun cs h=>S ?_) fun cs h=>S ?_
   rotate_left
   refine rb_ h fun v44 q h=>aq (aj false) q (S ?_)
   refine rb_ h fun v48 q h=>ai [false] (mTs_ q) (S ?_)
   refine ae (DHa_ [] []) (S ?_)
   refine ag cs h (fun cs h=>S ?_) fun cs h=>S ?_
   refine rb_ h fun v54 q h=>aq (aj false) q (S ?_)
   refine rb_ h fun v58 q h=>ai [false,false] (ih _ _ _ q) (S ?_)
   refine ag cs h (fun cs h=>S ?_) fun cs h=>S ?_
   rotate_left
   ·exact RdH.z h
   all_goals
    exact FHz_ h
  ·refine S ?_
   refine aH cs fun cs=>S ?_
   exact FHz_ h
theorem hFS_1{a0:List Ft}{a1:Int}{r:Int}(h:hFS_2 a0 a1=some r):Sat ah 57 [(.sl false 5 (a0.map (aj false))),(I a1)] (I r):=by
 obtain⟨n,hn⟩:=ls_ h
 exact(hFS_3 n) _ _ _ hn

theorem hSs_{a0:Sa}{a1:Int}  {r:Int}(h:hS_ a0 a1=some r):Sat ah 35 [((Sa.pv false) a0),(I a1)] (I r):=by
 obtain⟨h,cs⟩:=Ro_ h
 unfold hS_ at h
 refine au 18 [.tmp 4] Tryz.func35 (h:=S ?_)
 refine rb_ h fun v8 q h=>ai [false,false] (hFS_1 q) (S ?_)
 refine ag cs h (fun cs h=>S ?_) fun cs h=>S ?_
 ·exact FHz_ h
 ·refine rb_ h fun v14 q h=>ai [false,false] (hFS_1 q) (S ?_)
  refine ag cs h (fun cs h=>S ?_) fun cs h=>S ?_
  ·exact FHz_ h
  ·exact FHz_ h

theorem hTs_{a0:Tt}{a1:Int}  {r:Int}(h:hT_ a0 a1=some r):Sat ah 36 [((am false) a0),(I a1)] (I r):=by
 obtain⟨h,cs⟩:=Ro_ h
 unfold hT_ at h
 refine au 12 [.tmp 4] Tryz.func36 (h:=S ?_)
 refine rb_ h fun v8 q h=>ai [false,false] (hTS_1 q) (S ?_)
 refine ag cs h (fun cs h=>S ?_) fun cs h=>S ?_
 ·exact FHz_ h
 ·exact FHz_ h

theorem hFs_{a0:Ft}{a1:Int}  {r:Int}(h:hF_ a0 a1=some r):Sat ah 37 [((aj false) a0),(I a1)] (I r):=by
 obtain⟨h,cs⟩:=Ro_ h
 unfold hF_ at h
 refine au 18 [.tmp 4] Tryz.func37 (h:=S ?_)
 refine rb_ h fun v8 q h=>ai [false,false] (hTs_ q) (S ?_)
 refine ag cs h (fun cs h=>S ?_) fun cs h=>S ?_
 ·exact FHz_ h
 ·refine rb_ h fun v14 q h=>ai [false,false] (hFS_1 q) (S ?_)
  refine ag cs h (fun cs h=>S ?_) fun cs h=>S ?_
  ·exact FHz_ h
  ·exact FHz_ h

theorem hDS_2(n:Nat):(∀ (a0:List Dt) (a1:Int) (r:Int),hDS_ n a0 a1=some r→Sat ah 38 [(.sl false 12 (a0.map (al false))),(I a1)] (I r)):=by
 induction n with
 | zero=>exact fun _ _ _ h=>by simp[hDS_] at h
 | succ n ih=>
  refine fun a0 a1 r h=>?_
  obtain⟨h,cs⟩:=Ro_ h
  rw[hDS_] at h
  refine au 135 [.tmp 4] Tryz.func38 (h:=S ?_)
  refine aN (b:=false) (sz:=12) (es:=a0.map (al false)) 0 SC fun hl0=>?_; rw[aD] at hl0
  refine aI (rl_ h) (fun i2 s2=>[(0,.val (.pv (.sl false 12 (a0.map (al false))))),(1,.val (.pv (I s2))),(5,.val (.pv (I (i2:Int))))]) (fun i2 s2=>[]) (Slm_ SC) (fun i2 s2 hi h=>?_) (fun s2 h=>?_)
  ·have w:=ws_ i2
   refine S ?_
   refine aG cs fun cs=>S ?_
   refine rb_ h fun v14 q h=>aq (al false) q (S ?_)
   refine ag cs h (fun cs h=>S ?_) fun cs h=>S ?_
   refine rb_ h fun v23 q h=>aq (al false) q (S ?_)
   refine rb_ h fun v28 q h=>ai [false,false] (hFS_1 q) (S ?_)
   refine ag cs h (fun cs h=>S ?_) fun cs h=>S ?_
   rotate_left
   refine rb_ h fun v33 q h=>aq (al false) q (S ?_)
   refine rb_ h fun v38 q h=>ai [false,false] (hFS_1 q) (S ?_)
   refine ag cs h (fun cs h=>S ?_) fun cs h=>S ?_
   rotate_left
   refine rb_ h fun v43 q h=>aq (al false) q (S ?_)
   refine ag cs h (fun cs h=>S ?_) fun cs h=>S ?_
   refine rb_ h fun v52 q h=>aq (al false) q (S ?_)
   refine rb_ h fun v57 q h=>ai [false] (mTs_ q) (S ?_)
   refine ae (DHa_ [] []) (S ?_)
   refine ag cs h (fun cs h=>S ?_) fun cs h=>S ?_
   refine rb_ h fun v63 q h=>aq (al false) q (S ?_)
   refine rb_ h fun v68 q h=>ai [false,false] (hTS_1 q) (S ?_)
   refine ag cs h (fun cs h=>S ?_) fun cs h=>S ?_
   rotate_left
   refine rb_ h fun v73 q h=>aq (al false) q (S ?_)
   refine ag cs h (fun cs h=>S ?_) fun cs h=>S ?_
   refine rb_ h fun v83 q h=>aq (al false) q (S ?_)
   refine rb_ h fun v89 q h=>ai [false] (mTs_ q) (S ?_)
   refine ae (DHa_ [] []) (S ?_)
   refine ag cs h (fun cs h=>S ?_) fun cs h=>S ?_
   refine rb_ h fun v95 q h=>aq (al false) q (S ?_)
   refine rb_ h fun v101 q h=>ai [false,false] (hTS_1 q) (S ?_)
   refine ag cs h (fun cs h=>S ?_) fun cs h=>S ?_
   rotate_left
   refine rb_ h fun v106 q h=>aq (al false) q (S ?_)
   refine rb_ h fun v111 q h=>ai [false] (mTs_ q) (S ?_)
   refine ae (DHa_ [] []) (S ?_)
   refine ag cs h (fun cs h=>S ?_) fun cs h=>S ?_
   refine rb_ h fun v117 q h=>aq (al false) q (S ?_)
   refine rb_ h fun v122 q h=>ai [false,false] (hFS_1 q) (S ?_)
   refine ag cs h (fun cs h=>S ?_) fun cs h=>S ?_
   rotate_left
   refine rb_ h fun v127 q h=>aq (al false) q (S ?_)
   refine rb_ h fun v131 q h=>ai [false,false] (ih _ _ _ q) (S ?_)
   refine ag cs h (fun cs h=>S ?_) fun cs h=>S ?_
   rotate_left
   ·exact RdH.z h
   all_goals
    exact FHz_ h
  ·refine S ?_
   refine aH cs fun cs=>S ?_
   exact FHz_ h
theorem hDS_3{a0:List Dt}{a1:Int}{r:Int}(h:hDS_1 a0 a1=some r):Sat ah 38 [(.sl false 12 (a0.map (al false))),(I a1)] (I r):=by
 obtain⟨n,hn⟩:=ls_ h
 exact(hDS_2 n) _ _ _ hn

theorem hDs_{a0:Dt}{a1:Int}  {r:Int}(h:hD_ a0 a1=some r):Sat ah 11 [((al false) a0),(I a1)] (I r):=by
 obtain⟨h,cs⟩:=Ro_ h
 unfold hD_ at h
 refine au 30 [.tmp 4] Tryz.func11 (h:=S ?_)
 refine rb_ h fun v8 q h=>ai [false,false] (hSs_ q) (S ?_)
 refine ag cs h (fun cs h=>S ?_) fun cs h=>S ?_
 ·exact FHz_ h
 ·refine rb_ h fun v14 q h=>ai [false,false] (hTs_ q) (S ?_)
  refine ag cs h (fun cs h=>S ?_) fun cs h=>S ?_
  rotate_left
  refine rb_ h fun v20 q h=>ai [false,false] (hFs_ q) (S ?_)
  refine ag cs h (fun cs h=>S ?_) fun cs h=>S ?_
  rotate_left
  refine rb_ h fun v26 q h=>ai [false,false] (hDS_3 q) (S ?_)
  refine ag cs h (fun cs h=>S ?_) fun cs h=>S ?_
  all_goals
   exact FHz_ h

theorem FnExactEliminateCuts_sat{a0:Dt}{a1:Int}  {r:Bool}(h:FnExactEliminateCuts a0 a1=some r):Sat ah 4 [((al false) a0),(I a1)] (B r):=by
 obtain⟨h,cs⟩:=Ro_ h
 unfold FnExactEliminateCuts at h
 refine au 122 [.tmp 4] Tryz.func4 (h:=S ?_)
 refine rb_ h fun v21 q h=>ai [false,false] (sDs_ q) (S ?_)
 refine ag cs h (fun cs h=>S ?_) fun cs h=>S ?_
 rotate_left
 refine rb_ h fun v26 q h=>ai [false] (tDs_ q) (S ?_)
 refine rb_ h fun v28 q h=>ai [true,false] (Sg_ (args:=[(.agg [(I v26.Rule),(.agg [(.sl true 5 (v26.Sequent.Left.map (aj true))),(.sl true 5 (v26.Sequent.Right.map (aj true)))]),(I v26.Main),(.agg [(Sx v26.Term.Name),(.sl true 2 (v26.Term.Args.map (am true)))]),(.agg [(I v26.Cut.Op),(.agg [(Sx v26.Cut.Atom.Name),(.sl true 2 (v26.Cut.Atom.Args.map (am true)))]),(Sx v26.Cut.Var),(.sl true 5 (v26.Cut.Parts.map (aj true)))]),(.sl true 12 (v26.Parts.map (al true)))]),(I a1)]) [true,false] (by have gg:=sEC_1 q; simp only[gv_t,gv_f,gv_n,vs_,va_,vl_,vrB_,vrI_,PV.views,RB,RS] at gg ⊢; exact gg)) (S ?_)
 refine rb_ h fun v33 q h=>ai [false] (tDs_ q) (S ?_)
 refine rb_ h fun v37 q h=>ai [false,false] (iEC_1 q) (S ?_)
 refine rb_ h fun v43 q h=>ai [false,false] (eDs_ q) (S ?_)
 refine ag cs h (fun cs h=>S ?_) fun cs h=>S ?_
 refine ag cs h (fun cs h=>S ?_) fun cs h=>S ?_
 refine ag cs h (fun cs h=>S ?_) fun cs h=>S ?_
 refine rb_ h fun v57 q h=>ai [false] (tDs_ q) (S ?_)
 refine rb_ h fun v58 q h=>ai [false,false] (eDs_ q) (S ?_)
 refine ae (DHa_ [] [912,913,914,915,916,917]) (S ?_)
 refine ag cs h (fun cs h=>S ?_) fun cs h=>S ?_
 obtain⟨v62,hv62,h⟩:=rb_1 h
 refine CHi_ [(.node [(.pv (I v33.Rule)),(.node [(.own 528),(.own 529)]),(.pv (I v33.Main)),(.node [(.pv (Sx v33.Term.Name)),(.own 530)]),(.node [(.pv (I v33.Cut.Op)),(.node [(.pv (Sx v33.Cut.Atom.Name)),(.own 531)]),(.pv (Sx v33.Cut.Var)),(.own 532)]),(.own 533)]),(.pv (I 1))] [(528,(5,v62.2.1.map (aj true))),(529,(5,v62.2.2.1.map (aj true))),(530,(2,v62.2.2.2.1.map (am true))),(531,(2,v62.2.2.2.2.1.map (am true))),(532,(5,v62.2.2.2.2.2.1.map (aj true))),(533,(12,v62.2.2.2.2.2.2.map (al true)))] (mDs_ hv62) SC (S ?_)
 refine ag cs h (fun cs h=>S ?_) fun cs h=>S ?_
 rotate_left
 refine rb_ h fun v68 q h=>ai [false,false] (eDs_ q) (S ?_)
 refine ag cs h (fun cs h=>S ?_) fun cs h=>S ?_
 obtain⟨v83,hv83,h⟩:=rb_1 h
 refine CHi_ [(.node [(.pv (I v37.1.Rule)),(.node [(.own 592),(.own 593)]),(.pv (I v37.1.Main)),(.node [(.pv (Sx v37.1.Term.Name)),(.own 594)]),(.node [(.pv (I v37.1.Cut.Op)),(.node [(.pv (Sx v37.1.Cut.Atom.Name)),(.own 595)]),(.pv (Sx v37.1.Cut.Var)),(.own 596)]),(.own 597)]),(.pv (I 1))] [(592,(5,v83.2.1.map (aj true))),(593,(5,v83.2.2.1.map (aj true))),(594,(2,v83.2.2.2.1.map (am true))),(595,(2,v83.2.2.2.2.1.map (am true))),(596,(5,v83.2.2.2.2.2.1.map (aj true))),(597,(12,v83.2.2.2.2.2.2.map (al true)))] (mDs_ hv83) SC (S ?_)
 refine rb_ h fun v86 q h=>ai [false,false] (hDs_ q) (S ?_)
 refine ag cs h (fun cs h=>S ?_) fun cs h=>S ?_
 rotate_left
 refine ag cs h (fun cs h=>S ?_) fun cs h=>S ?_
 refine rb_ h fun v94 q h=>ai [false] (tDs_ q) (S ?_)
 refine rb_ h fun v96 q h=>ai [false,false] (iEC_1 q) (S ?_)
 refine rb_ h fun v102 q h=>ai [false,false] (eDs_ q) (S ?_)
 refine ag cs h (fun cs h=>S ?_) fun cs h=>S ?_
 refine ag cs h (fun cs h=>S ?_) fun cs h=>S ?_
 refine ag cs h (fun cs h=>S ?_) fun cs h=>S ?_
 refine rb_ h fun v116 q h=>ai [false,false] (hDs_ q) (S ?_)
 refine ag cs h (fun cs h=>S ?_) fun cs h=>S ?_
 rotate_left
 refine ag cs h (fun cs h=>S ?_) fun cs h=>S ?_
 all_goals
  exact FHz_ h

end Go.Proofs.YtafdgbndcflghaaGreat
