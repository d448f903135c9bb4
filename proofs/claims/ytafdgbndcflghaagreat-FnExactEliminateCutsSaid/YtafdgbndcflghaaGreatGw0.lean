/- Lemmas of the proof; each says what it shows. -/
import Derived.Test.YtafdgbndcflghaaGreatGm
import Derived.Test.YtafdgbndcflghaaGreatGf
import Derived.Test.YtafdgbndcflghaaGreatGsrt
import Derived.Test.YtafdgbndcflghaaGreatGrlf
import Derived.Test.YtafdgbndcflghaaGreatGjnv
set_option linter.unusedSimpArgs false
set_option linter.unusedVariables false
set_option linter.defProp false
set_option maxRecDepth 4000
namespace Go.Proofs.YtafdgbndcflghaaGreat
open Go.Av
open And renaming intro→ae
open AppH renaming c→aS
open CallH renaming c→ai
open CondH renaming run→ag,t3→aG,f3→aH
open Dt renaming pv→al
open Ft renaming pv→aj
open IdxH renaming c→aq
open List renaming length_map→aD
open Mg renaming know_sl→aN,forN→aI
open PV renaming views→aB
open RdH renaming z→aJ
open Sa renaming pv→aL
open Sat renaming go→au
open SidxH renaming mk→bw
open St renaming le_trans→bt
open Tryz renaming prog→ah
open Tt renaming pv→am
set_option maxHeartbeats 4000000
theorem sTN_1(n:Nat):(∀ (a0:Tt) (a1:Int) (r:Int),sTN_ n a0 a1=some r→Sat ah 15 [((am false) a0),(I a1)] (I r))∧(∀ (a0:List Tt) (a1:Int) (r:Int),sTS_ n a0 a1=some r→Sat ah 44 [(.sl false 2 (a0.map (am false))),(I a1)] (I r)):=by
 induction n with
 | zero=>exact⟨fun _ _ _ h=>by simp[sTN_] at h,fun _ _ _ h=>by simp[sTS_] at h⟩
 | succ n ih=>
  refine⟨fun a0 a1 r h=>?_,fun a0 a1 r h=>?_⟩
  ·obtain⟨h,cs⟩:=Ro_ h
   rw[sTN_] at h
   refine au 19 [.tmp 4] Tryz.func15 (h:=S ?_)
   refine ag cs h (fun cs h=>S ?_) fun cs h=>S ?_
   ·exact FHz_ h
   ·refine rb_ h fun v15 q h=>ai [false,false] (ih.2 _ _ _ q) (S ?_)
    refine ag cs h (fun cs h=>S ?_) fun cs h=>S ?_
    ·exact FHz_ h
    ·exact FHz_ h
  ·obtain⟨h,cs⟩:=Ro_ h
   rw[sTS_] at h
   refine au 27 [.tmp 4] Tryz.func44 (h:=S ?_)
   refine ag cs h (fun cs h=>S ?_) fun cs h=>S ?_
   ·exact FHz_ h
   ·refine aN (b:=false) (sz:=2) (es:=a0.map (am false)) 0 SC fun hl0=>?_; rw[aD] at hl0
    refine aI (rl_ h) (fun i5 s5=>[(0,.val (.pv (.sl false 2 (a0.map (am false))))),(1,.val (.pv (I s5))),(5,.val (.pv (I (i5:Int))))]) (fun i5 s5=>[]) (Slm_ SC) (fun i5 s5 hi h=>?_) (fun s5 h=>?_)
    ·have w:=ws_ i5
     refine S ?_
     refine aG cs fun cs=>S ?_
     refine rb_ h fun v20 q h=>aq (am false) q (S ?_)
     refine rb_ h fun v23 q h=>ai [false,false] (ih.1 _ _ _ q) (S ?_)
     refine ag cs h (fun cs h=>S ?_) fun cs h=>S ?_
     ·exact FHz_ h
     ·exact aJ h
    ·refine S ?_
     refine aH cs fun cs=>S ?_
     exact FHz_ h
theorem sTs_{a0:Tt}{a1:Int}{r:Int}(h:sT_1 a0 a1=some r):Sat ah 15 [((am false) a0),(I a1)] (I r):=by
 obtain⟨n,hn⟩:=ls_ h
 exact(sTN_1 n).1 _ _ _ hn
theorem sTS_2{a0:List Tt}{a1:Int}{r:Int}(h:sTS_1 a0 a1=some r):Sat ah 44 [(.sl false 2 (a0.map (am false))),(I a1)] (I r):=by
 obtain⟨n,hn⟩:=ls_ h
 exact(sTN_1 n).2 _ _ _ hn

theorem sFN_1(n:Nat):(∀ (a0:Ft) (a1:Int) (r:Int),sFN_ n a0 a1=some r→Sat ah 16 [((aj false) a0),(I a1)] (I r))∧(∀ (a0:List Ft) (a1:Int) (r:Int),sFS_ n a0 a1=some r→Sat ah 43 [(.sl false 5 (a0.map (aj false))),(I a1)] (I r)):=by
 induction n with
 | zero=>exact⟨fun _ _ _ h=>by simp[sFN_] at h,fun _ _ _ h=>by simp[sFS_] at h⟩
 | succ n ih=>
  refine⟨fun a0 a1 r h=>?_,fun a0 a1 r h=>?_⟩
  ·obtain⟨h,cs⟩:=Ro_ h
   rw[sFN_] at h
   refine au 25 [.tmp 4] Tryz.func16 (h:=S ?_)
   refine rb_ h fun v8 q h=>ai [false,false] (sTs_ q) (S ?_)
   refine ag cs h (fun cs h=>S ?_) fun cs h=>S ?_
   rotate_left
   refine ag cs h (fun cs h=>S ?_) fun cs h=>S ?_
   rotate_left
   refine rb_ h fun v21 q h=>ai [false,false] (ih.2 _ _ _ q) (S ?_)
   refine ag cs h (fun cs h=>S ?_) fun cs h=>S ?_
   all_goals
    exact FHz_ h
  ·obtain⟨h,cs⟩:=Ro_ h
   rw[sFS_] at h
   refine au 27 [.tmp 4] Tryz.func43 (h:=S ?_)
   refine ag cs h (fun cs h=>S ?_) fun cs h=>S ?_
   ·exact FHz_ h
   ·refine aN (b:=false) (sz:=5) (es:=a0.map (aj false)) 0 SC fun hl0=>?_; rw[aD] at hl0
    refine aI (rl_ h) (fun i5 s5=>[(0,.val (.pv (.sl false 5 (a0.map (aj false))))),(1,.val (.pv (I s5))),(5,.val (.pv (I (i5:Int))))]) (fun i5 s5=>[]) (Slm_ SC) (fun i5 s5 hi h=>?_) (fun s5 h=>?_)
    ·have w:=ws_ i5
     refine S ?_
     refine aG cs fun cs=>S ?_
     refine rb_ h fun v20 q h=>aq (aj false) q (S ?_)
     refine rb_ h fun v23 q h=>ai [false,false] (ih.1 _ _ _ q) (S ?_)
     refine ag cs h (fun cs h=>S ?_) fun cs h=>S ?_
     ·exact FHz_ h
     ·exact aJ h
    ·refine S ?_
     refine aH cs fun cs=>S ?_
     exact FHz_ h
theorem sFs_{a0:Ft}{a1:Int}{r:Int}(h:sF_ a0 a1=some r):Sat ah 16 [((aj false) a0),(I a1)] (I r):=by
 obtain⟨n,hn⟩:=ls_ h
 exact(sFN_1 n).1 _ _ _ hn
theorem sFS_2{a0:List Ft}{a1:Int}{r:Int}(h:sFS_1 a0 a1=some r):Sat ah 43 [(.sl false 5 (a0.map (aj false))),(I a1)] (I r):=by
 obtain⟨n,hn⟩:=ls_ h
 exact(sFN_1 n).2 _ _ _ hn

theorem sSs_{a0:Sa}{a1:Int}  {r:Int}(h:sS_ a0 a1=some r):Sat ah 14 [((aL false) a0),(I a1)] (I r):=by
 obtain⟨h,cs⟩:=Ro_ h
 unfold sS_ at h
 refine au 18 [.tmp 4] Tryz.func14 (h:=S ?_)
 refine rb_ h fun v8 q h=>ai [false,false] (sFS_2 q) (S ?_)
 refine ag cs h (fun cs h=>S ?_) fun cs h=>S ?_
 ·exact FHz_ h
 ·refine rb_ h fun v14 q h=>ai [false,false] (sFS_2 q) (S ?_)
  refine ag cs h (fun cs h=>S ?_) fun cs h=>S ?_
  ·exact FHz_ h
  ·exact FHz_ h

theorem sDN_1(n:Nat):(∀ (a0:Dt) (a1:Int) (r:Int),sDN_ n a0 a1=some r→Sat ah 5 [((al false) a0),(I a1)] (I r))∧(∀ (a0:List Dt) (a1:Int) (r:Int),sDS_ n a0 a1=some r→Sat ah 17 [(.sl false 12 (a0.map (al false))),(I a1)] (I r)):=by
 induction n with
 | zero=>exact⟨fun _ _ _ h=>by simp[sDN_] at h,fun _ _ _ h=>by simp[sDS_] at h⟩
 | succ n ih=>
  refine⟨fun a0 a1 r h=>?_,fun a0 a1 r h=>?_⟩
  ·obtain⟨h,cs⟩:=Ro_ h
   rw[sDN_] at h
   refine au 30 [.tmp 4] Tryz.func5 (h:=S ?_)
   refine rb_ h fun v8 q h=>ai [false,false] (sSs_ q) (S ?_)
   refine ag cs h (fun cs h=>S ?_) fun cs h=>S ?_
   ·exact FHz_ h
   ·refine rb_ h fun v14 q h=>ai [false,false] (sTs_ q) (S ?_)
    refine ag cs h (fun cs h=>S ?_) fun cs h=>S ?_
    rotate_left
    refine rb_ h fun v20 q h=>ai [false,false] (sFs_ q) (S ?_)
    refine ag cs h (fun cs h=>S ?_) fun cs h=>S ?_
    rotate_left
    refine rb_ h fun v26 q h=>ai [false,false] (ih.2 _ _ _ q) (S ?_)
    refine ag cs h (fun cs h=>S ?_) fun cs h=>S ?_
    all_goals
     exact FHz_ h
  ·obtain⟨h,cs⟩:=Ro_ h
   rw[sDS_] at h
   refine au 27 [.tmp 4] Tryz.func17 (h:=S ?_)
   refine ag cs h (fun cs h=>S ?_) fun cs h=>S ?_
   ·exact FHz_ h
   ·refine aN (b:=false) (sz:=12) (es:=a0.map (al false)) 0 SC fun hl0=>?_; rw[aD] at hl0
    refine aI (rl_ h) (fun i5 s5=>[(0,.val (.pv (.sl false 12 (a0.map (al false))))),(1,.val (.pv (I s5))),(5,.val (.pv (I (i5:Int))))]) (fun i5 s5=>[]) (Slm_ SC) (fun i5 s5 hi h=>?_) (fun s5 h=>?_)
    ·have w:=ws_ i5
     refine S ?_
     refine aG cs fun cs=>S ?_
     refine rb_ h fun v20 q h=>aq (al false) q (S ?_)
     refine rb_ h fun v23 q h=>ai [false,false] (ih.1 _ _ _ q) (S ?_)
     refine ag cs h (fun cs h=>S ?_) fun cs h=>S ?_
     ·exact FHz_ h
     ·exact aJ h
    ·refine S ?_
     refine aH cs fun cs=>S ?_
     exact FHz_ h
theorem sDs_{a0:Dt}{a1:Int}{r:Int}(h:sD_ a0 a1=some r):Sat ah 5 [((al false) a0),(I a1)] (I r):=by
 obtain⟨n,hn⟩:=ls_ h
 exact(sDN_1 n).1 _ _ _ hn
theorem sDS_2{a0:List Dt}{a1:Int}{r:Int}(h:sDS_1 a0 a1=some r):Sat ah 17 [(.sl false 12 (a0.map (al false))),(I a1)] (I r):=by
 obtain⟨n,hn⟩:=ls_ h
 exact(sDN_1 n).2 _ _ _ hn

theorem tTN_1(n:Nat):(∀ (a0:Tt) (r:Tt),tTN_ n a0=some r→Sat ah 21 [((am false) a0)] ((am true) r))∧(∀ (a0:List Tt) (r:List Tt),tTS_ n a0=some r→Sat ah 49 [(.sl false 2 (a0.map (am false)))] (.sl true 2 (r.map (am true)))):=by
 induction n with
 | zero=>exact⟨fun _ _ h=>by simp[tTN_] at h,fun _ _ h=>by simp[tTS_] at h⟩
 | succ n ih=>
  refine⟨fun a0 r h=>?_,fun a0 r h=>?_⟩
  ·obtain⟨h,cs⟩:=Ro_ h
   rw[tTN_] at h
   refine au 12 [.cell 2 39] Tryz.func21 (h:=S ?_)
   refine rb_ h fun v9 q h=>ai [false] (ih.2 _ _ q) (S ?_)
   exact FHz_ h
  ·obtain⟨h,cs⟩:=Ro_ h
   rw[tTS_] at h
   refine au 23 [.tmp 2] Tryz.func49 (h:=S ?_)
   refine rb_ h fun n7 q h=>MknH.mk q (S ?_)
   refine aN (b:=false) (sz:=2) (es:=a0.map (am false)) 0 SC fun hl0=>?_; rw[aD] at hl0
   refine aI (rl_ h) (fun i3 s3=>[(0,.val (.pv (.sl false 2 (a0.map (am false))))),(3,.val (.own 112)),(4,.val (.pv (I (i3:Int))))]) (fun i3 s3=>[(112,(2,s3.map (am true)))]) (Slm_ SC) (fun i3 s3 hi h=>?_) (fun s3 h=>?_)
   ·have w:=ws_ i3
    refine S ?_
    refine aG cs fun cs=>S ?_
    refine rb_ h fun v18 q h=>aq (am false) q (S ?_)
    refine rb_ h fun v20 q h=>ai [false] (ih.1 _ _ q) (S ?_)
    refine rb_ h fun v21 q h=>aq (am true) q (S ?_)
    refine rb_ h fun w2 q h=>EldH.c (am true) q (S ?_)
    exact aJ h
   ·refine S ?_
    refine aH cs fun cs=>S ?_
    exact FHz_ h
theorem tTs_{a0:Tt}{r:Tt}(h:tT_ a0=some r):Sat ah 21 [((am false) a0)] ((am true) r):=by
 obtain⟨n,hn⟩:=ls_ h
 exact(tTN_1 n).1 _ _ hn
theorem tTS_2{a0:List Tt}{r:List Tt}(h:tTS_1 a0=some r):Sat ah 49 [(.sl false 2 (a0.map (am false)))] (.sl true 2 (r.map (am true))):=by
 obtain⟨n,hn⟩:=ls_ h
 exact(tTN_1 n).2 _ _ hn

theorem tFN_1(n:Nat):(∀ (a0:Ft) (r:Ft),tFN_ n a0=some r→Sat ah 22 [((aj false) a0)] ((aj true) r))∧(∀ (a0:List Ft) (r:List Ft),tFS_ n a0=some r→Sat ah 48 [(.sl false 5 (a0.map (aj false)))] (.sl true 5 (r.map (aj true)))):=by
 induction n with
 | zero=>exact⟨fun _ _ h=>by simp[tFN_] at h,fun _ _ h=>by simp[tFS_] at h⟩
 | succ n ih=>
  refine⟨fun a0 r h=>?_,fun a0 r h=>?_⟩
  ·obtain⟨h,cs⟩:=Ro_ h
   rw[tFN_] at h
   refine au 19 [.cell 2 41] Tryz.func22 (h:=S ?_)
   refine rb_ h fun v9 q h=>ai [false] (tTs_ q) (S ?_)
   refine rb_ h fun v16 q h=>ai [false] (ih.2 _ _ q) (S ?_)
   exact FHz_ h
  ·obtain⟨h,cs⟩:=Ro_ h
   rw[tFS_] at h
   refine au 23 [.tmp 2] Tryz.func48 (h:=S ?_)
   refine rb_ h fun n7 q h=>MknH.mk q (S ?_)
   refine aN (b:=false) (sz:=5) (es:=a0.map (aj false)) 0 SC fun hl0=>?_; rw[aD] at hl0
   refine aI (rl_ h) (fun i3 s3=>[(0,.val (.pv (.sl false 5 (a0.map (aj false))))),(3,.val (.own 112)),(4,.val (.pv (I (i3:Int))))]) (fun i3 s3=>[(112,(5,s3.map (aj true)))]) (Slm_ SC) (fun i3 s3 hi h=>?_) (fun s3 h=>?_)
   ·have w:=ws_ i3
    refine S ?_
    refine aG cs fun cs=>S ?_
    refine rb_ h fun v18 q h=>aq (aj false) q (S ?_)
    refine rb_ h fun v20 q h=>ai [false] (ih.1 _ _ q) (S ?_)
    refine rb_ h fun v21 q h=>aq (aj true) q (S ?_)
    refine rb_ h fun w2 q h=>EldH.c (aj true) q (S ?_)
    exact aJ h
   ·refine S ?_
    refine aH cs fun cs=>S ?_
    exact FHz_ h
theorem tFs_{a0:Ft}{r:Ft}(h:tF_ a0=some r):Sat ah 22 [((aj false) a0)] ((aj true) r):=by
 obtain⟨n,hn⟩:=ls_ h
 exact(tFN_1 n).1 _ _ hn
theorem tFS_2{a0:List Ft}{r:List Ft}(h:tFS_1 a0=some r):Sat ah 48 [(.sl false 5 (a0.map (aj false)))] (.sl true 5 (r.map (aj true))):=by
 obtain⟨n,hn⟩:=ls_ h
 exact(tFN_1 n).2 _ _ hn

theorem tSs_{a0:Sa}  {r:Sa}(h:tS_ a0=some r):Sat ah 20 [((aL false) a0)] ((aL true) r):=by
 obtain⟨h,cs⟩:=Ro_ h
 unfold tS_ at h
 refine au 13 [.cell 2 36] Tryz.func20 (h:=S ?_)
 refine rb_ h fun v6 q h=>ai [false] (tFS_2 q) (S ?_)
 refine rb_ h fun v10 q h=>ai [false] (tFS_2 q) (S ?_)
 exact FHz_ h

theorem tDN_1(n:Nat):(∀ (a0:Dt) (r:Dt),tDN_ n a0=some r→Sat ah 7 [((al false) a0)] ((al true) r))∧(∀ (a0:List Dt) (r:List Dt),tDS_ n a0=some r→Sat ah 23 [(.sl false 12 (a0.map (al false)))] (.sl true 12 (r.map (al true)))):=by
 induction n with
 | zero=>exact⟨fun _ _ h=>by simp[tDN_] at h,fun _ _ h=>by simp[tDS_] at h⟩
 | succ n ih=>
  refine⟨fun a0 r h=>?_,fun a0 r h=>?_⟩
  ·obtain⟨h,cs⟩:=Ro_ h
   rw[tDN_] at h
   refine au 27 [.cell 2 44] Tryz.func7 (h:=S ?_)
   refine rb_ h fun v9 q h=>ai [false] (tSs_ q) (S ?_)
   refine rb_ h fun v16 q h=>ai [false] (tTs_ q) (S ?_)
   refine rb_ h fun v20 q h=>ai [false] (tFs_ q) (S ?_)
   refine rb_ h fun v24 q h=>ai [false] (ih.2 _ _ q) (S ?_)
   exact FHz_ h
  ·obtain⟨h,cs⟩:=Ro_ h
   rw[tDS_] at h
   refine au 23 [.tmp 2] Tryz.func23 (h:=S ?_)
   refine rb_ h fun n7 q h=>MknH.mk q (S ?_)
   refine aN (b:=false) (sz:=12) (es:=a0.map (al false)) 0 SC fun hl0=>?_; rw[aD] at hl0
   refine aI (rl_ h) (fun i3 s3=>[(0,.val (.pv (.sl false 12 (a0.map (al false))))),(3,.val (.own 112)),(4,.val (.pv (I (i3:Int))))]) (fun i3 s3=>[(112,(12,s3.map (al true)))]) (Slm_ SC) (fun i3 s3 hi h=>?_) (fun s3 h=>?_)
   ·have w:=ws_ i3
    refine S ?_
    refine aG cs fun cs=>S ?_
    refine rb_ h fun v18 q h=>aq (al false) q (S ?_)
    refine rb_ h fun v20 q h=>ai [false] (ih.1 _ _ q) (S ?_)
    refine rb_ h fun v21 q h=>aq (al true) q (S ?_)
    refine rb_ h fun w2 q h=>EldH.c (al true) q (S ?_)
    exact aJ h
   ·refine S ?_
    refine aH cs fun cs=>S ?_
    exact FHz_ h
theorem tDs_{a0:Dt}{r:Dt}(h:tD_ a0=some r):Sat ah 7 [((al false) a0)] ((al true) r):=by
 obtain⟨n,hn⟩:=ls_ h
 exact(tDN_1 n).1 _ _ hn
theorem tDS_2{a0:List Dt}{r:List Dt}(h:tDS_1 a0=some r):Sat ah 23 [(.sl false 12 (a0.map (al false)))] (.sl true 12 (r.map (al true))):=by
 obtain⟨n,hn⟩:=ls_ h
 exact(tDN_1 n).2 _ _ hn

theorem slS_17(n:Nat):(∀ (a0:Dt) (a1:Int) (r:Int),slS_ n a0 a1=some r→Sat ah 45 [((al false) a0),(I a1)] (I r)):=by
 induction n with
 | zero=>exact fun _ _ _ h=>by simp[slS_] at h
 | succ n ih=>
  refine fun a0 a1 r h=>?_
  obtain⟨h,cs⟩:=Ro_ h
  rw[slS_] at h
  refine au 31 [.tmp 4] Tryz.func45 (h:=S ?_)
  refine Mkv_ (b:=false) (sz:=12) (es:=a0.Parts.map (al false)) (x:=(.pv ((al false) a0))) 0 [5] SC fun hl0=>?_; rw[aD] at hl0
  refine aI (rl_ h) (fun i3 s3=>[(1,.val (.pv (I a1))),(2,.box (.pv ((al false) a0))),(5,.val (.pv (I s3))),(6,.val (.pv (I (i3:Int))))]) (fun i3 s3=>[]) (Slm_ SC) (fun i3 s3 hi h=>?_) (fun s3 h=>?_)
  ·have w:=ws_ i3
   refine S ?_
   refine aG cs fun cs=>S ?_
   refine ag cs h (fun cs h=>S ?_) fun cs h=>S ?_
   ·refine rb_ h fun v23 q h=>aq (al false) q (S ?_)
    refine rb_ h fun v28 q h=>ai [false,false] (ih _ _ _ q) (S ?_)
    exact aJ h
   ·exact FHz_ h
  ·refine S ?_
   refine aH cs fun cs=>S ?_
   exact FHz_ h
theorem slS_20{a0:Dt}{a1:Int}{r:Int}(h:slS_15 a0 a1=some r):Sat ah 45 [((al false) a0),(I a1)] (I r):=by
 obtain⟨n,hn⟩:=ls_ h
 exact(slS_17 n) _ _ _ hn

theorem slM_5(n:Nat):(∀ (a0:Ft) (a1:Int) (r:Int),slM_ n a0 a1=some r→Sat ah 128 [((aj false) a0),(I a1)] (I r)):=by
 induction n with
 | zero=>exact fun _ _ _ h=>by simp[slM_] at h
 | succ n ih=>
  refine fun a0 a1 r h=>?_
  obtain⟨h,cs⟩:=Ro_ h
  rw[slM_] at h
  refine au 31 [.tmp 4] Tryz.func128 (h:=S ?_)
  refine Mkv_ (b:=false) (sz:=5) (es:=a0.Parts.map (aj false)) (x:=(.pv ((aj false) a0))) 0 [3] SC fun hl0=>?_; rw[aD] at hl0
  refine aI (rl_ h) (fun i3 s3=>[(1,.val (.pv (I a1))),(2,.box (.pv ((aj false) a0))),(5,.val (.pv (I s3))),(6,.val (.pv (I (i3:Int))))]) (fun i3 s3=>[]) (Slm_ SC) (fun i3 s3 hi h=>?_) (fun s3 h=>?_)
  ·have w:=ws_ i3
   refine S ?_
   refine aG cs fun cs=>S ?_
   refine ag cs h (fun cs h=>S ?_) fun cs h=>S ?_
   ·refine rb_ h fun v23 q h=>aq (aj false) q (S ?_)
    refine rb_ h fun v28 q h=>ai [false,false] (ih _ _ _ q) (S ?_)
    exact aJ h
   ·exact FHz_ h
  ·refine S ?_
   refine aH cs fun cs=>S ?_
   exact FHz_ h
theorem slM_7{a0:Ft}{a1:Int}{r:Int}(h:slM_3 a0 a1=some r):Sat ah 128 [((aj false) a0),(I a1)] (I r):=by
 obtain⟨n,hn⟩:=ls_ h
 exact(slM_5 n) _ _ _ hn

theorem slN_2{a0:Tt}  {r:Bool}(h:slN_3 a0=some r):Sat ah 171 [((am false) a0)] (B r):=by
 obtain⟨h,cs⟩:=Ro_ h
 unfold slN_3 at h
 refine au 12 [.tmp 2] Tryz.func171 (h:=S ?_)
 refine ag cs h (fun cs h=>S ?_) fun cs h=>S ?_
 ·exact FHz_ h
 ·exact FHz_ h

theorem slM_6(n:Nat):(∀ (a0:Tt) (a1:Int) (r:Int),slM_1 n a0 a1=some r→Sat ah 172 [((am false) a0),(I a1)] (I r)):=by
 induction n with
 | zero=>exact fun _ _ _ h=>by simp[slM_1] at h
 | succ n ih=>
  refine fun a0 a1 r h=>?_
  obtain⟨h,cs⟩:=Ro_ h
  rw[slM_1] at h
  refine au 31 [.tmp 4] Tryz.func172 (h:=S ?_)
  refine Mkv_ (b:=false) (sz:=2) (es:=a0.Args.map (am false)) (x:=(.pv ((am false) a0))) 0 [1] SC fun hl0=>?_; rw[aD] at hl0
  refine aI (rl_ h) (fun i3 s3=>[(1,.val (.pv (I a1))),(2,.box (.pv ((am false) a0))),(5,.val (.pv (I s3))),(6,.val (.pv (I (i3:Int))))]) (fun i3 s3=>[]) (Slm_ SC) (fun i3 s3 hi h=>?_) (fun s3 h=>?_)
  ·have w:=ws_ i3
   refine S ?_
   refine aG cs fun cs=>S ?_
   refine ag cs h (fun cs h=>S ?_) fun cs h=>S ?_
   ·refine rb_ h fun v23 q h=>aq (am false) q (S ?_)
    refine rb_ h fun v28 q h=>ai [false,false] (ih _ _ _ q) (S ?_)
    exact aJ h
   ·exact FHz_ h
  ·refine S ?_
   refine aH cs fun cs=>S ?_
   exact FHz_ h
theorem slM_8{a0:Tt}{a1:Int}{r:Int}(h:slM_4 a0 a1=some r):Sat ah 172 [((am false) a0),(I a1)] (I r):=by
 obtain⟨n,hn⟩:=ls_ h
 exact(slM_6 n) _ _ _ hn

theorem slM_9{a0:Int}{a1:Int}  {r:Int}(h:slM_2 a0 a1=some r):Sat ah 182 [(I a0),(I a1)] (I r):=by
 obtain⟨h,cs⟩:=Ro_ h
 unfold slM_2 at h
 refine au 10 [.tmp 4] Tryz.func182 (h:=S ?_)
 refine ag cs h (fun cs h=>S ?_) fun cs h=>S ?_
 ·exact FHz_ h
 ·exact FHz_ h

theorem slD_2(n:Nat):(∀ (a0:Tt) (r:Int),slD_ n a0=some r→Sat ah 173 [((am false) a0)] (I r)):=by
 induction n with
 | zero=>exact fun _ _ h=>by simp[slD_] at h
 | succ n ih=>
  refine fun a0 r h=>?_
  obtain⟨h,cs⟩:=Ro_ h
  rw[slD_] at h
  refine au 22 [.tmp 2] Tryz.func173 (h:=S ?_)
  refine Mkv_ (b:=false) (sz:=2) (es:=a0.Args.map (am false)) (x:=(.pv ((am false) a0))) 0 [1] SC fun hl0=>?_; rw[aD] at hl0
  refine aI (rl_ h) (fun i3 s3=>[(1,.box (.pv ((am false) a0))),(3,.val (.pv (I s3))),(4,.val (.pv (I (i3:Int))))]) (fun i3 s3=>[]) (Slm_ SC) (fun i3 s3 hi h=>?_) (fun s3 h=>?_)
  ·have w:=ws_ i3
   refine S ?_
   refine aG cs fun cs=>S ?_
   refine rb_ h fun v16 q h=>aq (am false) q (S ?_)
   refine rb_ h fun v18 q h=>ai [false] (ih _ _ q) (S ?_)
   refine rb_ h fun v19 q h=>ai [false,false] (slM_9 q) (S ?_)
   exact aJ h
  ·refine S ?_
   refine aH cs fun cs=>S ?_
   exact FHz_ h
theorem slD_3{a0:Tt}{r:Int}(h:slD_1 a0=some r):Sat ah 173 [((am false) a0)] (I r):=by
 obtain⟨n,hn⟩:=ls_ h
 exact(slD_2 n) _ _ hn

theorem slF_9{a0:Tt}  {r:Bool}(h:slF_3 a0=some r):Sat ah 149 [((am false) a0)] (B r):=by
 obtain⟨h,cs⟩:=Ro_ h
 unfold slF_3 at h
 refine au 11 [.tmp 2] Tryz.func149 (h:=S ?_)
 refine rb_ h fun v4 q h=>ai [false,false] (slM_8 q) (S ?_)
 refine ag cs h (fun cs h=>S ?_) fun cs h=>S ?_
 ·refine rb_ h fun v8 q h=>ai [false] (slD_3 q) (S ?_)
  exact FHz_ h
 ·exact FHz_ h

theorem slI_2{a0:Int}{a1:Int}{a2:Int}  {r:Bool}(h:slI_4 a0 a1 a2=some r):Sat ah 39 [(I a0),(I a1),(I a2)] (B r):=by
 obtain⟨h,cs⟩:=Ro_ h
 unfold slI_4 at h
 refine au 15 [.tmp 6] Tryz.func39 (h:=S ?_)
 refine ag cs h (fun cs h=>S ?_) fun cs h=>S ?_
 ·exact FHz_ h
 ·exact FHz_ h

theorem slS_13{a0:Int}  {r:Bool}(h:slS_6 a0=some r):Sat ah 156 [((Ik .u8) a0)] (B r):=by
 obtain⟨h,cs⟩:=Ro_ h
 unfold slS_6 at h
 refine au 17 [.tmp 2] Tryz.func156 (h:=S ?_)
 refine ag cs h (fun cs h=>S ?_) fun cs h=>S ?_
 refine ag cs h (fun cs h=>S ?_) fun cs h=>S ?_
 rotate_left
 refine ag cs h (fun cs h=>S ?_) fun cs h=>S ?_
 rotate_left 2
 refine ag cs h (fun cs h=>S ?_) fun cs h=>S ?_
 all_goals
  exact FHz_ h

theorem slV_3{a0:ByteArray}  {r:Bool}(h:slV_ a0=some r):Sat ah 132 [(Sx a0)] (B r):=by
 obtain⟨h,cs⟩:=Ro_ h
 unfold slV_ at h
 refine au 29 [.tmp 2] Tryz.func132 (h:=S ?_)
 refine rb_ h fun v6 q h=>ai [false,false,false] (slI_2 q) (S ?_)
 refine ag cs h (fun cs h=>S ?_) fun cs h=>S ?_
 refine rb_ h fun v10 q h=>bw q (S ?_)
 refine ag cs h (fun cs h=>S ?_) fun cs h=>S ?_
 rotate_left
 refine rb_ h fun v15 q h=>bw q (S ?_)
 refine ag cs h (fun cs h=>S ?_) fun cs h=>S ?_
 rotate_left
 ·obtain⟨N4,hN4,h⟩:=rb_1 h
  obtain⟨hN4a,hN4b⟩:=bs_ hN4
  replace h:=rl_ h
  refine MfA_ (N:=N4) (a:=1) h (fun i4 s4=>[(0,.val (.pv (Sx a0))),(3,.val (.pv (I (i4:Int))))]) (fun i4 s4=>[]) (Slm_ SC) (fun i4 s4 hi hj h=>?_) (fun j4 s4 hj h=>?_)
  ·have w:=ws_ i4
   refine S ?_
   refine aG cs fun cs=>S ?_
   refine rb_ h fun v26 q h=>bw q (S ?_)
   refine rb_ h fun v27 q h=>ai [false] (slS_13 q) (S ?_)
   refine ag cs h (fun cs h=>S ?_) fun cs h=>S ?_
   ·exact aJ h
   ·exact FHz_ h
  ·refine S ?_
   refine aH cs fun cs=>S ?_
   exact FHz_ h
 all_goals
  exact FHz_ h

theorem slS_12{a0:ByteArray}  {r:Bool}(h:slS_4 a0=some r):Sat ah 174 [(Sx a0)] (B r):=by
 obtain⟨h,cs⟩:=Ro_ h
 unfold slS_4 at h
 refine au 45 [.tmp 2] Tryz.func174 (h:=S ?_)
 refine rb_ h fun v6 q h=>ai [false,false,false] (slI_2 q) (S ?_)
 refine ag cs h (fun cs h=>S ?_) fun cs h=>S ?_
 refine rb_ h fun v10 q h=>bw q (S ?_)
 refine ag cs h (fun cs h=>S ?_) fun cs h=>S ?_
 rotate_left
 refine rb_ h fun v15 q h=>bw q (S ?_)
 refine ag cs h (fun cs h=>S ?_) fun cs h=>S ?_
 rotate_left
 refine ag cs h (fun cs h=>S ?_) fun cs h=>S ?_
 rotate_left
 refine ag cs h (fun cs h=>S ?_) fun cs h=>S ?_
 rotate_left
 refine ag cs h (fun cs h=>S ?_) fun cs h=>S ?_
 rotate_left
 refine ag cs h (fun cs h=>S ?_) fun cs h=>S ?_
 rotate_left
 refine ag cs h (fun cs h=>S ?_) fun cs h=>S ?_
 rotate_left
 refine ag cs h (fun cs h=>S ?_) fun cs h=>S ?_
 rotate_left
 refine ag cs h (fun cs h=>S ?_) fun cs h=>S ?_
 rotate_left
 refine ag cs h (fun cs h=>S ?_) fun cs h=>S ?_
 rotate_left
 ·obtain⟨N14,hN14,h⟩:=rb_1 h
  obtain⟨hN14a,hN14b⟩:=bs_ hN14
  replace h:=rl_ h
  refine MfA_ (N:=N14) (a:=1) h (fun i14 s14=>[(0,.val (.pv (Sx a0))),(3,.val (.pv (I (i14:Int))))]) (fun i14 s14=>[]) (Slm_ SC) (fun i14 s14 hi hj h=>?_) (fun j14 s14 hj h=>?_)
  ·have w:=ws_ i14
   refine S ?_
   refine aG cs fun cs=>S ?_
   refine rb_ h fun v36 q h=>bw q (S ?_)
   refine rb_ h fun v37 q h=>ai [false] (slS_13 q) (S ?_)
   refine ag cs h (fun cs h=>S ?_) fun cs h=>S ?_
   ·exact aJ h
   ·refine rb_ h fun v42 q h=>bw q (S ?_)
    refine ag cs h (fun cs h=>S ?_) fun cs h=>S ?_
    ·exact aJ h
    ·exact FHz_ h
  ·refine S ?_
   refine aH cs fun cs=>S ?_
   exact FHz_ h
 all_goals
  exact FHz_ h

theorem slN_11(n:Nat):(∀ (a0:Tt) (r:Bool),slN_4 n a0=some r→Sat ah 150 [((am false) a0)] (B r)):=by
 induction n with
 | zero=>exact fun _ _ h=>by simp[slN_4] at h
 | succ n ih=>
  refine fun a0 r h=>?_
  obtain⟨h,cs⟩:=Ro_ h
  rw[slN_4] at h
  refine au 35 [.tmp 2] Tryz.func150 (h:=S ?_)
  refine rb_ h fun v6 q h=>ai [false] (slV_3 q) (S ?_)
  refine ag cs h (fun cs h=>S ?_) fun cs h=>S ?_
  rotate_left
  refine rb_ h fun v13 q h=>ai [false] (slS_12 q) (S ?_)
  refine ag cs h (fun cs h=>S ?_) fun cs h=>S ?_
  refine ag cs h (fun cs h=>S ?_) fun cs h=>S ?_
  rotate_left
  ·refine aN (b:=false) (sz:=2) (es:=a0.Args.map (am false)) 17 SC fun hl17=>?_; rw[aD] at hl17
   refine aI (rl_ h) (fun i6 s6=>[(1,.box (.pv ((am false) a0))),(3,.val (.pv (I (i6:Int))))]) (fun i6 s6=>[]) (Slm_ SC) (fun i6 s6 hi h=>?_) (fun s6 h=>?_)
   ·have w:=ws_ i6
    refine S ?_
    refine aG cs fun cs=>S ?_
    refine rb_ h fun v31 q h=>aq (am false) q (S ?_)
    refine rb_ h fun v33 q h=>ai [false] (ih _ _ q) (S ?_)
    refine ag cs h (fun cs h=>S ?_) fun cs h=>S ?_
    ·exact aJ h
    ·exact FHz_ h
   ·refine S ?_
    refine aH cs fun cs=>S ?_
    exact FHz_ h
  all_goals
   exact FHz_ h
theorem slN_9{a0:Tt}{r:Bool}(h:slN_7 a0=some r):Sat ah 150 [((am false) a0)] (B r):=by
 obtain⟨n,hn⟩:=ls_ h
 exact(slN_11 n) _ _ hn

theorem slG_5{a0:Tt}  {r:Bool}(h:slG_2 a0=some r):Sat ah 130 [((am false) a0)] (B r):=by
 obtain⟨h,cs⟩:=Ro_ h
 unfold slG_2 at h
 refine au 9 [.tmp 2] Tryz.func130 (h:=S ?_)
 refine rb_ h fun v4 q h=>ai [false] (slF_9 q) (S ?_)
 refine ag cs h (fun cs h=>S ?_) fun cs h=>S ?_
 ·refine rb_ h fun v7 q h=>ai [false] (slN_9 q) (S ?_)
  exact FHz_ h
 ·exact FHz_ h

theorem slA_3{a0:Tt}  {r:Bool}(h:slA_1 a0=some r):Sat ah 153 [((am false) a0)] (B r):=by
 obtain⟨h,cs⟩:=Ro_ h
 unfold slA_1 at h
 refine au 35 [.tmp 2] Tryz.func153 (h:=S ?_)
 refine ag cs h (fun cs h=>S ?_) fun cs h=>S ?_
 ·refine ag cs h (fun cs h=>S ?_) fun cs h=>S ?_
  refine rb_ h fun v12 q h=>ai [false] (slF_9 q) (S ?_)
  refine ag cs h (fun cs h=>S ?_) fun cs h=>S ?_
  refine rb_ h fun v17 q h=>aq (am false) q (S ?_)
  refine rb_ h fun v19 q h=>ai [false] (slN_9 q) (S ?_)
  refine ag cs h (fun cs h=>S ?_) fun cs h=>S ?_
  ·refine rb_ h fun v24 q h=>aq (am false) q (S ?_)
   refine rb_ h fun v26 q h=>ai [false] (slN_9 q) (S ?_)
   exact FHz_ h
  all_goals
   exact FHz_ h
 ·refine rb_ h fun v30 q h=>ai [false] (slS_12 q) (S ?_)
  refine ag cs h (fun cs h=>S ?_) fun cs h=>S ?_
  ·refine rb_ h fun v33 q h=>ai [false] (slG_5 q) (S ?_)
   exact FHz_ h
  ·exact FHz_ h

theorem slF_14{a0:Ft}  {r:Bool}(h:slF_4 a0=some r):Sat ah 148 [((aj false) a0)] (B r):=by
 obtain⟨h,cs⟩:=Ro_ h
 unfold slF_4 at h
 refine au 83 [.tmp 2] Tryz.func148 (h:=S ?_)
 refine ag cs h (fun cs h=>S ?_) fun cs h=>S ?_
 refine ag cs h (fun cs h=>S ?_) fun cs h=>S ?_
 refine rb_ h fun v17 q h=>ai [false] (slN_2 q) (S ?_)
 refine ag cs h (fun cs h=>S ?_) fun cs h=>S ?_
 rotate_left 3
 refine ag cs h (fun cs h=>S ?_) fun cs h=>S ?_
 refine ag cs h (fun cs h=>S ?_) fun cs h=>S ?_
 refine rb_ h fun v17 q h=>ai [false] (slN_2 q) (S ?_)
 refine ag cs h (fun cs h=>S ?_) fun cs h=>S ?_
 rotate_left 3
 refine ag cs h (fun cs h=>S ?_) fun cs h=>S ?_
 refine ag cs h (fun cs h=>S ?_) fun cs h=>S ?_
 refine rb_ h fun v31 q h=>ai [false] (slA_3 q) (S ?_)
 refine ag cs h (fun cs h=>S ?_) fun cs h=>S ?_
 rotate_left 3
 refine ag cs h (fun cs h=>S ?_) fun cs h=>S ?_
 refine ag cs h (fun cs h=>S ?_) fun cs h=>S ?_
 refine rb_ h fun v45 q h=>ai [false] (slN_2 q) (S ?_)
 refine ag cs h (fun cs h=>S ?_) fun cs h=>S ?_
 rotate_left 3
 refine ag cs h (fun cs h=>S ?_) fun cs h=>S ?_
 refine ag cs h (fun cs h=>S ?_) fun cs h=>S ?_
 refine rb_ h fun v61 q h=>ai [false] (slN_2 q) (S ?_)
 refine ag cs h (fun cs h=>S ?_) fun cs h=>S ?_
 rotate_left 3
 refine ag cs h (fun cs h=>S ?_) fun cs h=>S ?_
 refine ag cs h (fun cs h=>S ?_) fun cs h=>S ?_
 refine rb_ h fun v61 q h=>ai [false] (slN_2 q) (S ?_)
 refine ag cs h (fun cs h=>S ?_) fun cs h=>S ?_
 rotate_left 3
 refine ag cs h (fun cs h=>S ?_) fun cs h=>S ?_
 refine ag cs h (fun cs h=>S ?_) fun cs h=>S ?_
 refine rb_ h fun v61 q h=>ai [false] (slN_2 q) (S ?_)
 refine ag cs h (fun cs h=>S ?_) fun cs h=>S ?_
 rotate_left 3
 refine ag cs h (fun cs h=>S ?_) fun cs h=>S ?_
 refine ag cs h (fun cs h=>S ?_) fun cs h=>S ?_
 refine rb_ h fun v76 q h=>ai [false] (slN_2 q) (S ?_)
 refine ag cs h (fun cs h=>S ?_) fun cs h=>S ?_
 rotate_left 3
 refine ag cs h (fun cs h=>S ?_) fun cs h=>S ?_
 refine ag cs h (fun cs h=>S ?_) fun cs h=>S ?_
 refine rb_ h fun v76 q h=>ai [false] (slN_2 q) (S ?_)
 refine ag cs h (fun cs h=>S ?_) fun cs h=>S ?_
 ·refine rb_ h fun v81 q h=>ai [false] (slV_3 q) (S ?_)
  exact FHz_ h
 rotate_left 24
 ·refine rb_ h fun v81 q h=>ai [false] (slV_3 q) (S ?_)
  exact FHz_ h
 all_goals
  exact FHz_ h

theorem slF_11(n:Nat):(∀ (a0:Ft) (r:Bool),slF_1 n a0=some r→Sat ah 129 [((aj false) a0)] (B r)):=by
 induction n with
 | zero=>exact fun _ _ h=>by simp[slF_1] at h
 | succ n ih=>
  refine fun a0 r h=>?_
  obtain⟨h,cs⟩:=Ro_ h
  rw[slF_1] at h
  refine au 21 [.tmp 2] Tryz.func129 (h:=S ?_)
  refine rb_ h fun v5 q h=>ai [false] (slF_14 q) (S ?_)
  refine ag cs h (fun cs h=>S ?_) fun cs h=>S ?_
  ·refine Mkv_ (b:=false) (sz:=5) (es:=a0.Parts.map (aj false)) (x:=(.pv ((aj false) a0))) 0 [3] SC fun hl0=>?_; rw[aD] at hl0
   refine aI (rl_ h) (fun i4 s4=>[(1,.box (.pv ((aj false) a0))),(3,.val (.pv (I (i4:Int))))]) (fun i4 s4=>[]) (Slm_ SC) (fun i4 s4 hi h=>?_) (fun s4 h=>?_)
   ·have w:=ws_ i4
    refine S ?_
    refine aG cs fun cs=>S ?_
    refine rb_ h fun v17 q h=>aq (aj false) q (S ?_)
    refine rb_ h fun v19 q h=>ai [false] (ih _ _ q) (S ?_)
    refine ag cs h (fun cs h=>S ?_) fun cs h=>S ?_
    ·exact aJ h
    ·exact FHz_ h
   ·refine S ?_
    refine aH cs fun cs=>S ?_
    exact FHz_ h
  ·exact FHz_ h
theorem slF_13{a0:Ft}{r:Bool}(h:slF_7 a0=some r):Sat ah 129 [((aj false) a0)] (B r):=by
 obtain⟨n,hn⟩:=ls_ h
 exact(slF_11 n) _ _ hn

theorem slG_3{a0:Ft}  {r:Bool}(h:slG_1 a0=some r):Sat ah 109 [((aj false) a0)] (B r):=by
 obtain⟨h,cs⟩:=Ro_ h
 unfold slG_1 at h
 refine au 10 [.tmp 2] Tryz.func109 (h:=S ?_)
 refine rb_ h fun v4 q h=>ai [false,false] (slM_7 q) (S ?_)
 refine ag cs h (fun cs h=>S ?_) fun cs h=>S ?_
 ·refine rb_ h fun v8 q h=>ai [false] (slF_13 q) (S ?_)
  exact FHz_ h
 ·exact FHz_ h

theorem slS_14{a0:List Ft}  {r:Bool}(h:slS_7 a0=some r):Sat ah 91 [(.sl false 5 (a0.map (aj false)))] (B r):=by
 obtain⟨h,cs⟩:=Ro_ h
 unfold slS_7 at h
 refine au 23 [.tmp 2] Tryz.func91 (h:=S ?_)
 refine aN (b:=false) (sz:=5) (es:=a0.map (aj false)) 0 SC fun hl0=>?_; rw[aD] at hl0
 refine aI (rl_ h) (fun i2 s2=>[(0,.val (.pv (.sl false 5 (a0.map (aj false))))),(3,.val (.pv (I (i2:Int))))]) (fun i2 s2=>[]) (Slm_ SC) (fun i2 s2 hi h=>?_) (fun s2 h=>?_)
 ·have w:=ws_ i2
  refine S ?_
  refine aG cs fun cs=>S ?_
  refine ag cs h (fun cs h=>S ?_) fun cs h=>S ?_
  ·refine rb_ h fun v16 q h=>aq (aj false) q (S ?_)
   refine rb_ h fun v18 q h=>ai [false] (slG_3 q) (S ?_)
   refine ag cs h (fun cs h=>S ?_) fun cs h=>S ?_
   ·exact aJ h
   ·exact FHz_ h
  ·exact FHz_ h
 ·refine S ?_
  refine aH cs fun cs=>S ?_
  exact FHz_ h

theorem slG_4{a0:Sa}  {r:Bool}(h:slG_ a0=some r):Sat ah 79 [((aL false) a0)] (B r):=by
 obtain⟨h,cs⟩:=Ro_ h
 unfold slG_ at h
 refine au 11 [.tmp 2] Tryz.func79 (h:=S ?_)
 refine rb_ h fun v5 q h=>ai [false] (slS_14 q) (S ?_)
 refine ag cs h (fun cs h=>S ?_) fun cs h=>S ?_
 ·refine rb_ h fun v9 q h=>ai [false] (slS_14 q) (S ?_)
  exact FHz_ h
 ·exact FHz_ h

theorem slS_19(n:Nat):(∀ (a0:Tt) (a1:Tt) (r:Bool),slS_2 n a0 a1=some r→Sat ah 110 [((am false) a0),((am false) a1)] (B r)):=by
 induction n with
 | zero=>exact fun _ _ _ h=>by simp[slS_2] at h
 | succ n ih=>
  refine fun a0 a1 r h=>?_
  obtain⟨h,cs⟩:=Ro_ h
  rw[slS_2] at h
  refine au 39 [.tmp 4] Tryz.func110 (h:=S ?_)
  refine ag cs h (fun cs h=>S ?_) fun cs h=>S ?_
  refine ag cs h (fun cs h=>S ?_) fun cs h=>S ?_
  ·refine aN (b:=false) (sz:=2) (es:=a0.Args.map (am false)) 13 SC fun hl13=>?_; rw[aD] at hl13
   refine aI (rl_ h) (fun i4 s4=>[(2,.box (.pv ((am false) a0))),(3,.box (.pv ((am false) a1))),(5,.val (.pv (I (i4:Int))))]) (fun i4 s4=>[]) (Slm_ SC) (fun i4 s4 hi h=>?_) (fun s4 h=>?_)
   ·have w:=ws_ i4
    refine S ?_
    refine aG cs fun cs=>S ?_
    refine rb_ h fun v30 q h=>aq (am false) q (S ?_)
    refine rb_ h fun v35 q h=>aq (am false) q (S ?_)
    refine rb_ h fun v37 q h=>ai [false,false] (ih _ _ _ q) (S ?_)
    refine ae (DHa_ [] []) (S ?_)
    refine ag cs h (fun cs h=>S ?_) fun cs h=>S ?_
    ·exact aJ h
    ·exact FHz_ h
   ·refine S ?_
    refine aH cs fun cs=>S ?_
    exact FHz_ h
  all_goals
   exact FHz_ h
theorem slS_16{a0:Tt}{a1:Tt}{r:Bool}(h:slS_11 a0 a1=some r):Sat ah 110 [((am false) a0),((am false) a1)] (B r):=by
 obtain⟨n,hn⟩:=ls_ h
 exact(slS_19 n) _ _ _ hn

theorem slS_18(n:Nat):(∀ (a0:Ft) (a1:Ft) (r:Bool),slS_1 n a0 a1=some r→Sat ah 111 [((aj false) a0),((aj false) a1)] (B r)):=by
 induction n with
 | zero=>exact fun _ _ _ h=>by simp[slS_1] at h
 | succ n ih=>
  refine fun a0 a1 r h=>?_
  obtain⟨h,cs⟩:=Ro_ h
  rw[slS_1] at h
  refine au 54 [.tmp 4] Tryz.func111 (h:=S ?_)
  refine ag cs h (fun cs h=>S ?_) fun cs h=>S ?_
  refine ag cs h (fun cs h=>S ?_) fun cs h=>S ?_
  refine rb_ h fun v23 q h=>ai [false,false] (slS_16 q) (S ?_)
  refine ag cs h (fun cs h=>S ?_) fun cs h=>S ?_
  refine ag cs h (fun cs h=>S ?_) fun cs h=>S ?_
  ·refine aN (b:=false) (sz:=5) (es:=a0.Parts.map (aj false)) 28 SC fun hl28=>?_; rw[aD] at hl28
   refine aI (rl_ h) (fun i4 s4=>[(2,.box (.pv ((aj false) a0))),(3,.box (.pv ((aj false) a1))),(5,.val (.pv (I (i4:Int))))]) (fun i4 s4=>[]) (Slm_ SC) (fun i4 s4 hi h=>?_) (fun s4 h=>?_)
   ·have w:=ws_ i4
    refine S ?_
    refine aG cs fun cs=>S ?_
    refine rb_ h fun v45 q h=>aq (aj false) q (S ?_)
    refine rb_ h fun v50 q h=>aq (aj false) q (S ?_)
    refine rb_ h fun v52 q h=>ai [false,false] (ih _ _ _ q) (S ?_)
    refine ae (DHa_ [] []) (S ?_)
    refine ag cs h (fun cs h=>S ?_) fun cs h=>S ?_
    ·exact aJ h
    ·exact FHz_ h
   ·refine S ?_
    refine aH cs fun cs=>S ?_
    exact FHz_ h
  all_goals
   exact FHz_ h
theorem slS_9{a0:Ft}{a1:Ft}{r:Bool}(h:slS_5 a0 a1=some r):Sat ah 111 [((aj false) a0),((aj false) a1)] (B r):=by
 obtain⟨n,hn⟩:=ls_ h
 exact(slS_18 n) _ _ _ hn

theorem slO_16(n:Nat):(∀ (a0:Tt) (r:Tt),slO_9 n a0=some r→Sat ah 59 [((am false) a0)] ((am true) r)):=by
 induction n with
 | zero=>exact fun _ _ h=>by simp[slO_9] at h
 | succ n ih=>
  refine fun a0 r h=>?_
  obtain⟨h,cs⟩:=Ro_ h
  rw[slO_9] at h
  refine au 27 [.cell 2 39] Tryz.func59 (h:=S ?_)
  refine Mkv_ (b:=false) (sz:=2) (es:=a0.Args.map (am false)) (x:=(.pv ((am false) a0))) 0 [1] SC fun hl0=>?_; rw[aD] at hl0
  refine aI (rl_ h) (fun i3 s3=>[(1,.box (.pv ((am false) a0))),(2,.box zab2),(3,.box (.node [(.pv (Sx a0.Name)),(.own 9309)])),(4,.val (.pv (I (i3:Int))))]) (fun i3 s3=>[(9309,(2,s3.map (am true)))]) (bt (Sln_ (x:=(.node [(.pv (Sx a0.Name)),(.pv (.sl true 2 []))])) 3 [1] 9309 2 NM SC SC SC) (Slm_ SC)) (fun i3 s3 hi h=>?_) (fun s3 h=>?_)
  ·have w:=ws_ i3
   refine S ?_
   refine aG cs fun cs=>S ?_
   refine rb_ h fun v20 q h=>aq (am false) q (S ?_)
   refine rb_ h fun v22 q h=>ai [false] (ih _ _ q) (S ?_)
   refine rb_ h fun v24 q h=>aS (am true) (fun a=>Tt.psize _ a) q (S ?_)
   refine ae (DHa_ [] [352,368,384]) (S ?_)
   have h:=rs_ h
   refine RdH.mk ⟨_,h,?_⟩
   refine Slr_ 384 9309 ?_
   exact Slm_ SWx
  ·refine S ?_
   refine aH cs fun cs=>S ?_
   exact FHz_ h
theorem slO_10{a0:Tt}{r:Tt}(h:slO_11 a0=some r):Sat ah 59 [((am false) a0)] ((am true) r):=by
 obtain⟨n,hn⟩:=ls_ h
 exact(slO_16 n) _ _ hn

theorem slO_15(n:Nat):(∀ (a0:Ft) (r:Ft),slO_8 n a0=some r→Sat ah 60 [((aj false) a0)] ((aj true) r)):=by
 induction n with
 | zero=>exact fun _ _ h=>by simp[slO_8] at h
 | succ n ih=>
  refine fun a0 r h=>?_
  obtain⟨h,cs⟩:=Ro_ h
  rw[slO_8] at h
  refine au 32 [.cell 2 41] Tryz.func60 (h:=S ?_)
  refine rb_ h fun v9 q h=>ai [false] (slO_10 q) (S ?_)
  refine ae (DHa_ [3] [144]) (S ?_)
  refine Mkv_ (b:=false) (sz:=5) (es:=a0.Parts.map (aj false)) (x:=(.pv ((aj false) a0))) 0 [3] SC fun hl0=>?_; rw[aD] at hl0
  refine aI (rl_ h) (fun i3 s3=>[(1,.box (.pv ((aj false) a0))),(2,.box zab1),(3,.box (.node [(.pv (I a0.Op)),(.node [(.pv (Sx v9.Name)),(.own 144)]),(.pv (Sx a0.Var)),(.own 9309)])),(4,.val (.pv (I (i3:Int))))]) (fun i3 s3=>[(144,(2,v9.Args.map (am true))),(9309,(5,s3.map (aj true)))]) (bt (Sln_ (x:=(.node [(.pv (I a0.Op)),(.node [(.pv (Sx v9.Name)),(.own 144)]),(.pv (Sx a0.Var)),(.pv (.sl true 5 []))])) 3 [3] 9309 5 NM SC SC SC) (Slm_ SC)) (fun i3 s3 hi h=>?_) (fun s3 h=>?_)
  ·have w:=ws_ i3
   refine S ?_
   refine aG cs fun cs=>S ?_
   refine rb_ h fun v25 q h=>aq (aj false) q (S ?_)
   refine rb_ h fun v27 q h=>ai [false] (ih _ _ q) (S ?_)
   refine rb_ h fun v29 q h=>aS (aj true) (fun a=>Ft.psize _ a) q (S ?_)
   refine ae (DHa_ [] [432,433,448,464]) (S ?_)
   have h:=rs_ h
   refine RdH.mk ⟨_,h,?_⟩
   refine Slr_ 464 9309 ?_
   exact Slm_ SWx
  ·refine S ?_
   refine aH cs fun cs=>S ?_
   exact FHz_ h
theorem slO_2{a0:Ft}{r:Ft}(h:slO_5 a0=some r):Sat ah 60 [((aj false) a0)] ((aj true) r):=by
 obtain⟨n,hn⟩:=ls_ h
 exact(slO_15 n) _ _ hn

theorem slC_4{a0:List Ft}{a1:Int}{a2:List Ft}  {r:List Ft}(h:slC_3 a0 a1 a2=some r):Sat ah 75 [(.sl false 5 (a0.map (aj false))),(I a1),(.sl false 5 (a2.map (aj false)))] (.sl true 5 (r.map (aj true))):=by
 obtain⟨h,cs⟩:=Ro_ h
 unfold slC_3 at h
 refine au 43 [.tmp 6] Tryz.func75 (h:=S ?_)
 refine aN (b:=false) (sz:=5) (es:=a0.map (aj false)) 0 SC fun hl0=>?_; rw[aD] at hl0
 refine aI (rl_ h) (fun i3 s3=>[(0,.val (.pv (.sl false 5 (a0.map (aj false))))),(1,.val (.pv (I a1))),(2,.val (.pv (.sl false 5 (a2.map (aj false))))),(7,.val (.own 160)),(8,.val (.pv (I (i3:Int))))]) (fun i3 s3=>[(160,(5,s3.map (aj true)))]) (Slm_ SC) (fun i3 s3 hi h=>?_) (fun s3 h=>?_)
 ·have w:=ws_ i3
  refine S ?_
  refine aG cs fun cs=>S ?_
  refine ag cs h (fun cs h=>S ?_) fun cs h=>S ?_
  ·exact aJ h
  ·refine rb_ h fun v23 q h=>aq (aj false) q (S ?_)
   refine rb_ h fun v25 q h=>ai [false] (slO_2 q) (S ?_)
   refine rb_ h fun v27 q h=>aS (aj true) (fun a=>Ft.psize _ a) q (S ?_)
   have h:=rs_ h
   refine RdH.mk ⟨_,h,?_⟩
   refine Slr_ 432 160 ?_
   exact Slm_ SWx
 ·refine S ?_
  refine aH cs fun cs=>S ?_
  refine aN (b:=false) (sz:=5) (es:=a2.map (aj false)) 2 SC fun hl2=>?_; rw[aD] at hl2
  refine aI (rl_ h) (fun i8 s8=>[(2,.val (.pv (.sl false 5 (a2.map (aj false))))),(7,.val (.own 160)),(9,.val (.pv (I (i8:Int))))]) (fun i8 s8=>[(160,(5,s8.map (aj true)))]) (Slm_ SC) (fun i8 s8 hi h=>?_) (fun s8 h=>?_)
  ·have w:=ws_ i8
   refine S ?_
   refine aG cs fun cs=>S ?_
   refine rb_ h fun v37 q h=>aq (aj false) q (S ?_)
   refine rb_ h fun v39 q h=>ai [false] (slO_2 q) (S ?_)
   refine rb_ h fun v41 q h=>aS (aj true) (fun a=>Ft.psize _ a) q (S ?_)
   have h:=rs_ h
   refine RdH.mk ⟨_,h,?_⟩
   refine Slr_ 656 160 ?_
   exact Slm_ SWx
  ·refine S ?_
   refine aH cs fun cs=>S ?_
   exact FHz_ h

theorem slN_{a0:Sa}{a1:Int}{a2:List Ft}{a3:Int}{a4:List Ft}  {r:Sa}(h:slN_1 a0 a1 a2 a3 a4=some r):Sat ah 61 [((aL false) a0),(I a1),(.sl false 5 (a2.map (aj false))),(I a3),(.sl false 5 (a4.map (aj false)))] ((aL true) r):=by
 obtain⟨h,cs⟩:=Ro_ h
 unfold slN_1 at h
 refine au 22 [.cell 10 36] Tryz.func61 (h:=S ?_)
 refine rb_ h fun v15 q h=>ai [false,false,false] (slC_4 q) (S ?_)
 refine rb_ h fun v20 q h=>ai [false,false,false] (slC_4 q) (S ?_)
 refine ae (DHa_ [] [240,320]) (S ?_)
 exact FHz_ h

theorem slO_7{a0:Int}  {r:Bool}(h:slO_ a0=some r):Sat ah 95 [(I a0)] (B r):=by
 obtain⟨h,cs⟩:=Ro_ h
 unfold slO_ at h
 refine au 12 [.tmp 2] Tryz.func95 (h:=S ?_)
 refine ag cs h (fun cs h=>S ?_) fun cs h=>S ?_
 rotate_left
 refine ag cs h (fun cs h=>S ?_) fun cs h=>S ?_
 rotate_left
 refine ag cs h (fun cs h=>S ?_) fun cs h=>S ?_
 rotate_left
 refine ag cs h (fun cs h=>S ?_) fun cs h=>S ?_
 rotate_left
 refine ag cs h (fun cs h=>S ?_) fun cs h=>S ?_
 rotate_left
 refine ag cs h (fun cs h=>S ?_) fun cs h=>S ?_
 rotate_left
 refine ag cs h (fun cs h=>S ?_) fun cs h=>S ?_
 all_goals
  exact FHz_ h

theorem slH_1{a0:List Ft}{a1:Ft}  {r:Bool}(h:slH_ a0 a1=some r):Sat ah 94 [(.sl false 5 (a0.map (aj false))),((aj false) a1)] (B r):=by
 obtain⟨h,cs⟩:=Ro_ h
 unfold slH_ at h
 refine au 18 [.tmp 4] Tryz.func94 (h:=S ?_)
 refine aN (b:=false) (sz:=5) (es:=a0.map (aj false)) 0 SC fun hl0=>?_; rw[aD] at hl0
 refine aI (rl_ h) (fun i2 s2=>[(0,.val (.pv (.sl false 5 (a0.map (aj false))))),(3,.box (.pv ((aj false) a1))),(5,.val (.pv (I (i2:Int))))]) (fun i2 s2=>[]) (Slm_ SC) (fun i2 s2 hi h=>?_) (fun s2 h=>?_)
 ·have w:=ws_ i2
  refine S ?_
  refine aG cs fun cs=>S ?_
  refine rb_ h fun v14 q h=>aq (aj false) q (S ?_)
  refine rb_ h fun v17 q h=>ai [false,false] (slS_9 q) (S ?_)
  refine ae (DHa_ [] []) (S ?_)
  refine ag cs h (fun cs h=>S ?_) fun cs h=>S ?_
  ·exact FHz_ h
  ·exact aJ h
 ·refine S ?_
  refine aH cs fun cs=>S ?_
  exact FHz_ h

theorem slO_12{a0:Int}  {r:Int}(h:slO_1 a0=some r):Sat ah 112 [(I a0)] (I r):=by
 obtain⟨h,cs⟩:=Ro_ h
 unfold slO_1 at h
 refine au 24 [.tmp 2] Tryz.func112 (h:=S ?_)
 refine ag cs h (fun cs h=>S ?_) fun cs h=>S ?_
 rotate_left
 refine ag cs h (fun cs h=>S ?_) fun cs h=>S ?_
 rotate_left
 refine ag cs h (fun cs h=>S ?_) fun cs h=>S ?_
 rotate_left
 refine ag cs h (fun cs h=>S ?_) fun cs h=>S ?_
 rotate_left
 refine ag cs h (fun cs h=>S ?_) fun cs h=>S ?_
 rotate_left
 refine ag cs h (fun cs h=>S ?_) fun cs h=>S ?_
 rotate_left
 refine ag cs h (fun cs h=>S ?_) fun cs h=>S ?_
 rotate_left
 refine ag cs h (fun cs h=>S ?_) fun cs h=>S ?_
 rotate_left
 refine ag cs h (fun cs h=>S ?_) fun cs h=>S ?_
 rotate_left
 refine ag cs h (fun cs h=>S ?_) fun cs h=>S ?_
 rotate_left
 refine ag cs h (fun cs h=>S ?_) fun cs h=>S ?_
 rotate_left
 refine ag cs h (fun cs h=>S ?_) fun cs h=>S ?_
 rotate_left
 refine ag cs h (fun cs h=>S ?_) fun cs h=>S ?_
 all_goals
  exact FHz_ h

theorem slP_11{a0:Sb}{a1:ByteArray}{a2:Tt}  {r:Sb}(h:slP_5 a0 a1 a2=some r):Sat ah 152 [((Sb.pv false) a0),(Sx a1),((am false) a2)] ((Sb.pv false) r):=by
 obtain⟨h,cs⟩:=Ro_ h
 unfold slP_5 at h
 refine au 51 [.cell 6 148] Tryz.func152 (h:=S ?_)
 refine ag cs h (fun cs h=>S ?_) fun cs h=>S ?_
 ·exact FHz_1 h
 ·refine Mkv_ (b:=false) (sz:=3) (es:=a0.Bindings.map (Bt.pv false)) (x:=(.pv ((Sb.pv false) a0))) 0 [0] SC fun hl0=>?_; rw[aD] at hl0
  refine aI (rl_ h) (fun i4 s4=>[(1,.val (.pv (Sx a1))),(3,.box (.pv ((Sb.pv false) a0))),(5,.box (.pv ((am false) a2))),(6,.box (.node [(.pv (.sl true 3 []))])),(7,.val (.pv (I (i4:Int))))]) (fun i4 s4=>[]) (Slm_ SC) (fun i4 s4 hi h=>?_) (fun s4 h=>?_)
  ·have w:=ws_ i4
   refine S ?_
   refine aG cs fun cs=>S ?_
   refine rb_ h fun v23 q h=>aq (Bt.pv false) q (S ?_)
   refine ag cs h (fun cs h=>S ?_) fun cs h=>S ?_
   ·exact aJ h
   ·refine rb_ h fun v35 q h=>SlcH.mk (f:=(Bt.pv false)) q SC (S ?_)
    refine rb_ h fun v36 q h=>aS (Bt.pv false) (fun a=>Bt.psize _ a) q (S ?_)
    refine rb_ h fun v40 q h=>ai [false] (SvO_ (res':=((am false) v40)) (slO_10 q) (by simp only[vt_,vs_,va_,vl_,aB,RB,RS])) (S ?_)
    refine rb_ h fun v43 q h=>aS (Bt.pv false) (fun a=>Bt.psize _ a) q (S ?_)
    refine rb_ h fun v48 q h=>SlcH.mk (f:=(Bt.pv false)) q SC (S ?_)
    refine rb_ h fun v49 q h=>aS (Bt.pv false) (fun a=>Bt.psize _ a) q (S ?_)
    exact FHz_1 h
  ·refine S ?_
   refine aH cs fun cs=>S ?_
   refine rb_ h fun v35 q h=>SlcH.mk (f:=(Bt.pv false)) q SC (S ?_)
   refine rb_ h fun v36 q h=>aS (Bt.pv false) (fun a=>Bt.psize _ a) q (S ?_)
   refine rb_ h fun v40 q h=>ai [false] (SvO_ (res':=((am false) v40)) (slO_10 q) (by simp only[vt_,vs_,va_,vl_,aB,RB,RS])) (S ?_)
   refine rb_ h fun v43 q h=>aS (Bt.pv false) (fun a=>Bt.psize _ a) q (S ?_)
   refine rb_ h fun v48 q h=>SlcH.mk (f:=(Bt.pv false)) q SC (S ?_)
   refine rb_ h fun v49 q h=>aS (Bt.pv false) (fun a=>Bt.psize _ a) q (S ?_)
   exact FHz_1 h

theorem slF_15{a0:Sb}{a1:ByteArray}  {r:Int}(h:slF_5 a0 a1=some r):Sat ah 175 [((Sb.pv false) a0),(Sx a1)] (I r):=by
 obtain⟨h,cs⟩:=Ro_ h
 unfold slF_5 at h
 refine au 22 [.tmp 4] Tryz.func175 (h:=S ?_)
 refine Mkv_ (b:=false) (sz:=3) (es:=a0.Bindings.map (Bt.pv false)) (x:=(.pv ((Sb.pv false) a0))) 0 [0] SC fun hl0=>?_; rw[aD] at hl0
 refine aI (rl_ h) (fun i2 s2=>[(1,.val (.pv (Sx a1))),(2,.box (.pv ((Sb.pv false) a0))),(5,.val (.pv (I (i2:Int))))]) (fun i2 s2=>[]) (Slm_ SC) (fun i2 s2 hi h=>?_) (fun s2 h=>?_)
 ·have w:=ws_ i2
  refine S ?_
  refine aG cs fun cs=>S ?_
  refine rb_ h fun v16 q h=>aq (Bt.pv false) q (S ?_)
  refine ag cs h (fun cs h=>S ?_) fun cs h=>S ?_
  ·exact FHz_ h
  ·exact aJ h
 ·refine S ?_
  refine aH cs fun cs=>S ?_
  exact FHz_ h

theorem slA_4(n:Nat):(∀ (a0:Sb) (a1:Tt) (r:Tt),slA_ n a0 a1=some r→Sat ah 151 [((Sb.pv false) a0),((am false) a1)] ((am true) r)):=by
 induction n with
 | zero=>exact fun _ _ _ h=>by simp[slA_] at h
 | succ n ih=>
  refine fun a0 a1 r h=>?_
  obtain⟨h,cs⟩:=Ro_ h
  rw[slA_] at h
  refine au 50 [.cell 4 39] Tryz.func151 (h:=S ?_)
  refine rb_ h fun v10 q h=>ai [false] (slV_3 q) (S ?_)
  refine ag cs h (fun cs h=>S ?_) fun cs h=>S ?_
  ·refine rb_ h fun v14 q h=>ai [false,false] (slF_15 q) (S ?_)
   refine ag cs h (fun cs h=>S ?_) fun cs h=>S ?_
   ·refine rb_ h fun v20 q h=>aq (Bt.pv false) q (S ?_)
    refine rb_ h fun v23 q h=>ai [false] (slO_10 q) (S ?_)
    exact FHz_ h
   ·exact FHz_ h
  ·refine Mkv_ (b:=false) (sz:=2) (es:=a1.Args.map (am false)) (x:=(.pv ((am false) a1))) 1 [1] SC fun hl1=>?_; rw[aD] at hl1
   refine aI (rl_ h) (fun i8 s8=>[(2,.box (.pv ((Sb.pv false) a0))),(3,.box (.pv ((am false) a1))),(4,.box zab2),(6,.box (.node [(.pv (Sx a1.Name)),(.own 9324)])),(7,.val (.pv (I (i8:Int))))]) (fun i8 s8=>[(9324,(2,s8.map (am true)))]) (bt (Sln_ (x:=(.node [(.pv (Sx a1.Name)),(.pv (.sl true 2 []))])) 6 [1] 9324 2 NM SC SC SC) (Slm_ SC)) (fun i8 s8 hi h=>?_) (fun s8 h=>?_)
   ·have w:=ws_ i8
    refine S ?_
    refine aG cs fun cs=>S ?_
    refine rb_ h fun v43 q h=>aq (am false) q (S ?_)
    refine rb_ h fun v45 q h=>ai [false,false] (ih _ _ _ q) (S ?_)
    refine rb_ h fun v47 q h=>aS (am true) (fun a=>Tt.psize _ a) q (S ?_)
    refine ae (DHa_ [] [720,736,752]) (S ?_)
    have h:=rs_ h
    refine RdH.mk ⟨_,h,?_⟩
    refine Slr_ 752 9324 ?_
    exact Slm_ SWx
   ·refine S ?_
    refine aH cs fun cs=>S ?_
    exact FHz_ h
theorem slA_5{a0:Sb}{a1:Tt}{r:Tt}(h:slA_2 a0 a1=some r):Sat ah 151 [((Sb.pv false) a0),((am false) a1)] ((am true) r):=by
 obtain⟨n,hn⟩:=ls_ h
 exact(slA_4 n) _ _ _ hn

theorem slP_6{a0:List ByteArray}{a1:ByteArray}  {r:List ByteArray}(h:slP_2 a0 a1=some r):Sat ah 177 [(.sl false 1 (a0.map Sx)),(Sx a1)] (.sl false 1 (r.map Sx)):=by
 obtain⟨h,cs⟩:=Ro_ h
 unfold slP_2 at h
 refine au 45 [.tmp 4] Tryz.func177 (h:=S ?_)
 refine aN (b:=false) (sz:=1) (es:=a0.map Sx) 0 SC fun hl0=>?_; rw[aD] at hl0
 refine aI (rl_ h) (fun i2 s2=>[(0,.val (.pv (.sl false 1 (a0.map Sx)))),(1,.val (.pv (Sx a1))),(5,.val (.pv (I (i2:Int))))]) (fun i2 s2=>[]) (Slm_ SC) (fun i2 s2 hi h=>?_) (fun s2 h=>?_)
 ·have w:=ws_ i2
  refine S ?_
  refine aG cs fun cs=>S ?_
  refine rb_ h fun v13 q h=>aq Sx q (S ?_)
  refine ag cs h (fun cs h=>S ?_) fun cs h=>S ?_
  ·exact aJ h
  ·refine rb_ h fun v27 q h=>aq Sx q (S ?_)
   refine ag cs h (fun cs h=>S ?_) fun cs h=>S ?_
   ·exact FHz_1 h
   ·refine rb_ h fun v36 q h=>SlcH.mk (f:=Sx) q SC (S ?_)
    refine rb_ h fun v37 q h=>aS Sx (fun _=>rfl) q (S ?_)
    refine rb_ h fun v40 q h=>aS Sx (fun _=>rfl) q (S ?_)
    refine rb_ h fun v43 q h=>SlcH.mk (f:=Sx) q SC (S ?_)
    refine rb_ h fun v44 q h=>aS Sx (fun _=>rfl) q (S ?_)
    refine ae (DHa_ [] [528,592,624,640,704]) (S ?_)
    exact FHz_1 h
 ·refine S ?_
  refine aH cs fun cs=>S ?_
  refine rb_ h fun v36 q h=>SlcH.mk (f:=Sx) q SC (S ?_)
  refine rb_ h fun v37 q h=>aS Sx (fun _=>rfl) q (S ?_)
  refine rb_ h fun v40 q h=>aS Sx (fun _=>rfl) q (S ?_)
  refine rb_ h fun v43 q h=>SlcH.mk (f:=Sx) q SC (S ?_)
  refine rb_ h fun v44 q h=>aS Sx (fun _=>rfl) q (S ?_)
  refine ae (DHa_ [] [528,592,624,640,704]) (S ?_)
  exact FHz_1 h

theorem slI_14(n:Nat):(∀ (a0:List ByteArray) (a1:Tt) (r:List ByteArray),slI_3 n a0 a1=some r→Sat ah 176 [(.sl false 1 (a0.map Sx)),((am false) a1)] (.sl false 1 (r.map Sx))):=by
 induction n with
 | zero=>exact fun _ _ _ h=>by simp[slI_3] at h
 | succ n ih=>
  refine fun a0 a1 r h=>?_
  obtain⟨h,cs⟩:=Ro_ h
  rw[slI_3] at h
  refine au 28 [.tmp 4] Tryz.func176 (h:=S ?_)
  refine rb_ h fun v8 q h=>ai [false] (slV_3 q) (S ?_)
  refine ag cs h (fun cs h=>S ?_) fun cs h=>S ?_
  ·refine rb_ h fun v12 q h=>ai [false,false] (slP_6 q) (S ?_)
   exact FHz_1 h
  ·refine Mkv_ (b:=false) (sz:=2) (es:=a1.Args.map (am false)) (x:=(.pv ((am false) a1))) 1 [1] SC fun hl1=>?_; rw[aD] at hl1
   refine aI (rl_ h) (fun i4 s4=>[(0,.val (.pv (.sl false 1 (s4.map Sx)))),(3,.box (.pv ((am false) a1))),(5,.val (.pv (I (i4:Int))))]) (fun i4 s4=>[]) (Slm_ SC) (fun i4 s4 hi h=>?_) (fun s4 h=>?_)
   ·have w:=ws_ i4
    refine S ?_
    refine aG cs fun cs=>S ?_
    refine rb_ h fun v24 q h=>aq (am false) q (S ?_)
    refine rb_ h fun v26 q h=>ai [false,false] (ih _ _ _ q) (S ?_)
    exact aJ h
   ·refine S ?_
    refine aH cs fun cs=>S ?_
    exact FHz_1 h
theorem slI_15{a0:List ByteArray}{a1:Tt}{r:List ByteArray}(h:slI_11 a0 a1=some r):Sat ah 176 [(.sl false 1 (a0.map Sx)),((am false) a1)] (.sl false 1 (r.map Sx)):=by
 obtain⟨n,hn⟩:=ls_ h
 exact(slI_14 n) _ _ _ hn

theorem slV_4{a0:Tt}  {r:List ByteArray}(h:slV_1 a0=some r):Sat ah 155 [((am false) a0)] (.sl false 1 (r.map Sx)):=by
 obtain⟨h,cs⟩:=Ro_ h
 unfold slV_1 at h
 refine au 6 [.tmp 2] Tryz.func155 (h:=S ?_)
 refine rb_ h fun v5 q h=>ai [true,false] (Sg_ (args:=[(.sl true 1 (([]).map Sx)),((am false) a0)]) [true,false] (by have gg:=slI_15 q; simp only[gv_t,gv_f,gv_n,vs_,va_,vl_,vrB_,vrI_,aB,RB,RS] at gg ⊢; exact gg)) (S ?_)
 exact FHz_1 h

theorem slI_6{a0:List ByteArray}{a1:ByteArray}  {r:Bool}(h:slI_5 a0 a1=some r):Sat ah 133 [(.sl false 1 (a0.map Sx)),(Sx a1)] (B r):=by
 obtain⟨h,cs⟩:=Ro_ h
 unfold slI_5 at h
 refine au 18 [.tmp 4] Tryz.func133 (h:=S ?_)
 refine aN (b:=false) (sz:=1) (es:=a0.map Sx) 0 SC fun hl0=>?_; rw[aD] at hl0
 refine aI (rl_ h) (fun i2 s2=>[(0,.val (.pv (.sl false 1 (a0.map Sx)))),(1,.val (.pv (Sx a1))),(5,.val (.pv (I (i2:Int))))]) (fun i2 s2=>[]) (Slm_ SC) (fun i2 s2 hi h=>?_) (fun s2 h=>?_)
 ·have w:=ws_ i2
  refine S ?_
  refine aG cs fun cs=>S ?_
  refine rb_ h fun v14 q h=>aq Sx q (S ?_)
  refine ag cs h (fun cs h=>S ?_) fun cs h=>S ?_
  ·exact FHz_ h
  ·exact aJ h
 ·refine S ?_
  refine aH cs fun cs=>S ?_
  exact FHz_ h

theorem slI_13(n:Nat):(∀ (a0:List ByteArray) (a1:Ft) (a2:List ByteArray) (r:List ByteArray),slI_1 n a0 a1 a2=some r→Sat ah 157 [(.sl false 1 (a0.map Sx)),((aj false) a1),(.sl false 1 (a2.map Sx))] (.sl false 1 (r.map Sx))):=by
 induction n with
 | zero=>exact fun _ _ _ _ h=>by simp[slI_1] at h
 | succ n ih=>
  refine fun a0 a1 a2 r h=>?_
  obtain⟨h,cs⟩:=Ro_ h
  rw[slI_1] at h
  refine au 66 [.tmp 6] Tryz.func157 (h:=S ?_)
  refine ag cs h (fun cs h=>S ?_) fun cs h=>S ?_
  ·refine rb_ h fun v15 q h=>ai [false] (slV_4 q) (S ?_)
   refine aN (b:=false) (sz:=1) (es:=v15.map Sx) 7 SC fun hl7=>?_; rw[aD] at hl7
   refine aI (rl_ h) (fun i4 s4=>[(0,.val (.pv (.sl false 1 (s4.map Sx)))),(2,.val (.pv (.sl false 1 (a2.map Sx)))),(4,.box (.pv ((aj false) a1))),(7,.val (.pv (.sl false 1 (v15.map Sx)))),(8,.val (.pv (I (i4:Int))))]) (fun i4 s4=>[]) (Slm_ SC) (fun i4 s4 hi h=>?_) (fun s4 h=>?_)
   ·have w:=ws_ i4
    refine S ?_
    refine aG cs fun cs=>S ?_
    refine rb_ h fun v25 q h=>aq Sx q (S ?_)
    refine rb_ h fun v27 q h=>ai [false,false] (slI_6 q) (S ?_)
    refine ag cs h (fun cs h=>S ?_) fun cs h=>S ?_
    ·exact aJ h
    ·refine rb_ h fun v32 q h=>aq Sx q (S ?_)
     refine rb_ h fun v34 q h=>ai [false,false] (slP_6 q) (S ?_)
     exact aJ h
   ·refine S ?_
    refine aH cs fun cs=>S ?_
    refine ag cs h (fun cs h=>S ?_) fun cs h=>S ?_
    rotate_left
    refine ag cs h (fun cs h=>S ?_) fun cs h=>S ?_
    rotate_left
    ·refine Mkb_ (b:=false) (sz:=5) (es:=a1.Parts.map (aj false)) (x:=(.pv ((aj false) a1))) 4 [3] SC fun hl4=>?_; rw[aD] at hl4
     refine aI (rl_ h) (fun i11 s11=>[(0,.val (.pv (.sl false 1 (s11.map Sx)))),(2,.val (.pv (.sl false 1 (a2.map Sx)))),(4,.box (.pv ((aj false) a1))),(9,.val (.pv (I (i11:Int))))]) (fun i11 s11=>[]) (Slm_ SC) (fun i11 s11 hi h=>?_) (fun s11 h=>?_)
     ·have w:=ws_ i11
      refine S ?_
      refine aG cs fun cs=>S ?_
      refine rb_ h fun v61 q h=>aq (aj false) q (S ?_)
      refine rb_ h fun v64 q h=>ai [false,false,false] (ih _ _ _ _ q) (S ?_)
      exact aJ h
     ·refine S ?_
      refine aH cs fun cs=>S ?_
      exact FHz_1 h
    all_goals
     refine rb_ h fun v45 q h=>aS Sx (fun _=>rfl) q (S ?_)
     refine rb_ h fun v49 q h=>aS Sx (fun _=>rfl) q (S ?_)
     refine ae (DHa_ [] [688,720,768,784]) (S ?_)
     refine Mkb_ (b:=false) (sz:=5) (es:=a1.Parts.map (aj false)) (x:=(.pv ((aj false) a1))) 4 [3] SC fun hl4=>?_; rw[aD] at hl4
     refine aI (rl_ h) (fun i11 s11=>[(0,.val (.pv (.sl false 1 (s11.map Sx)))),(2,.val (.pv (.sl false 1 (v49.map Sx)))),(4,.box (.pv ((aj false) a1))),(9,.val (.pv (I (i11:Int))))]) (fun i11 s11=>[]) (bt (Sld_1 (x:=(.own 784)) (sz:=(1)) (es:=v49.map Sx) 2 [] 784 SC) (Slm_ SC)) (fun i11 s11 hi h=>?_) (fun s11 h=>?_)
     ·have w:=ws_ i11
      refine S ?_
      refine aG cs fun cs=>S ?_
      refine rb_ h fun v61 q h=>aq (aj false) q (S ?_)
      refine rb_ h fun v64 q h=>ai [false,false,false] (ih _ _ _ _ q) (S ?_)
      exact aJ h
     ·refine S ?_
      refine aH cs fun cs=>S ?_
      exact FHz_1 h
  ·refine ag cs h (fun cs h=>S ?_) fun cs h=>S ?_
   rotate_left
   refine ag cs h (fun cs h=>S ?_) fun cs h=>S ?_
   rotate_left
   ·refine Mkv_ (b:=false) (sz:=5) (es:=a1.Parts.map (aj false)) (x:=(.pv ((aj false) a1))) 1 [3] SC fun hl1=>?_; rw[aD] at hl1
    refine aI (rl_ h) (fun i11 s11=>[(0,.val (.pv (.sl false 1 (s11.map Sx)))),(2,.val (.pv (.sl false 1 (a2.map Sx)))),(4,.box (.pv ((aj false) a1))),(9,.val (.pv (I (i11:Int))))]) (fun i11 s11=>[]) (Slm_ SC) (fun i11 s11 hi h=>?_) (fun s11 h=>?_)
    ·have w:=ws_ i11
     refine S ?_
     refine aG cs fun cs=>S ?_
     refine rb_ h fun v61 q h=>aq (aj false) q (S ?_)
     refine rb_ h fun v64 q h=>ai [false,false,false] (ih _ _ _ _ q) (S ?_)
     exact aJ h
    ·refine S ?_
     refine aH cs fun cs=>S ?_
     exact FHz_1 h
   all_goals
    refine rb_ h fun v45 q h=>aS Sx (fun _=>rfl) q (S ?_)
    refine rb_ h fun v49 q h=>aS Sx (fun _=>rfl) q (S ?_)
    refine ae (DHa_ [] [688,720,768,784]) (S ?_)
    refine Mkv_ (b:=false) (sz:=5) (es:=a1.Parts.map (aj false)) (x:=(.pv ((aj false) a1))) 1 [3] SC fun hl1=>?_; rw[aD] at hl1
    refine aI (rl_ h) (fun i11 s11=>[(0,.val (.pv (.sl false 1 (s11.map Sx)))),(2,.val (.pv (.sl false 1 (v49.map Sx)))),(4,.box (.pv ((aj false) a1))),(9,.val (.pv (I (i11:Int))))]) (fun i11 s11=>[]) (bt (Sld_1 (x:=(.own 784)) (sz:=(1)) (es:=v49.map Sx) 2 [] 784 SC) (Slm_ SC)) (fun i11 s11 hi h=>?_) (fun s11 h=>?_)
    ·have w:=ws_ i11
     refine S ?_
     refine aG cs fun cs=>S ?_
     refine rb_ h fun v61 q h=>aq (aj false) q (S ?_)
     refine rb_ h fun v64 q h=>ai [false,false,false] (ih _ _ _ _ q) (S ?_)
     exact aJ h
    ·refine S ?_
     refine aH cs fun cs=>S ?_
     exact FHz_1 h
theorem slI_10{a0:List ByteArray}{a1:Ft}{a2:List ByteArray}{r:List ByteArray}(h:slI_7 a0 a1 a2=some r):Sat ah 157 [(.sl false 1 (a0.map Sx)),((aj false) a1),(.sl false 1 (a2.map Sx))] (.sl false 1 (r.map Sx)):=by
 obtain⟨n,hn⟩:=ls_ h
 exact(slI_13 n) _ _ _ _ hn

theorem slF_8{a0:Ft}  {r:List ByteArray}(h:slF_2 a0=some r):Sat ah 154 [((aj false) a0)] (.sl false 1 (r.map Sx)):=by
 obtain⟨h,cs⟩:=Ro_ h
 unfold slF_2 at h
 refine au 7 [.tmp 2] Tryz.func154 (h:=S ?_)
 refine rb_ h fun v6 q h=>ai [true,false,true] (Sg_ (args:=[(.sl true 1 (([]).map Sx)),((aj false) a0),(.sl true 1 (([]).map Sx))]) [true,false,true] (by have gg:=slI_10 q; simp only[gv_t,gv_f,gv_n,vs_,va_,vl_,vrB_,vrI_,aB,RB,RS] at gg ⊢; exact gg)) (S ?_)
 exact FHz_1 h

theorem slP_9(n:Nat):(∀ (a0:Ft) (a1:ByteArray) (a2:Tt) (r:Ft×Bool),slP_1 n a0 a1 a2=some r→Sat ah 131 [((aj false) a0),(Sx a1),((am false) a2)] (.tup [((aj true) r.1),(B r.2)])):=by
 induction n with
 | zero=>exact fun _ _ _ _ h=>by simp[slP_1] at h
 | succ n ih=>
  refine fun a0 a1 a2 r h=>?_
  obtain⟨h,cs⟩:=Ro_ h
  rw[slP_1] at h
  refine au 90 [.cell 6 41,.tmp 7] Tryz.func131 (h:=S ?_)
  refine ag cs h (fun cs h=>S ?_) fun cs h=>S ?_
  rotate_left
  refine ag cs h (fun cs h=>S ?_) fun cs h=>S ?_
  refine ag cs h (fun cs h=>S ?_) fun cs h=>S ?_
  rotate_left
  refine rb_ h fun v47 q h=>aq (aj false) q (S ?_)
  refine rb_ h fun v49 q h=>ai [false] (slF_8 q) (S ?_)
  refine rb_ h fun v51 q h=>ai [false,false] (slI_6 q) (S ?_)
  refine ag cs h (fun cs h=>S ?_) fun cs h=>S ?_
  refine rb_ h fun v57 q h=>ai [false] (slV_4 q) (S ?_)
  refine rb_ h fun v60 q h=>ai [false,false] (slI_6 q) (S ?_)
  refine ae (DHa_ [] []) (S ?_)
  refine ag cs h (fun cs h=>S ?_) fun cs h=>S ?_
  rotate_left 3
  refine ag cs h (fun cs h=>S ?_) fun cs h=>S ?_
  refine ag cs h (fun cs h=>S ?_) fun cs h=>S ?_
  rotate_left
  refine rb_ h fun v47 q h=>aq (aj false) q (S ?_)
  refine rb_ h fun v49 q h=>ai [false] (slF_8 q) (S ?_)
  refine rb_ h fun v51 q h=>ai [false,false] (slI_6 q) (S ?_)
  refine ag cs h (fun cs h=>S ?_) fun cs h=>S ?_
  refine rb_ h fun v57 q h=>ai [false] (slV_4 q) (S ?_)
  refine rb_ h fun v60 q h=>ai [false,false] (slI_6 q) (S ?_)
  refine ae (DHa_ [] []) (S ?_)
  refine ag cs h (fun cs h=>S ?_) fun cs h=>S ?_
  ·exact FHz_ h
  rotate_left
  ·refine rb_ h fun v55 q h=>ai [false] (slO_2 q) (S ?_)
   exact FHz_ h
  ·refine Mkv_ (b:=false) (sz:=5) (es:=a0.Parts.map (aj false)) (x:=(.pv ((aj false) a0))) 0 [3] SC fun hl0=>?_; rw[aD] at hl0
   refine aI (rl_ h) (fun i11 s11=>[(1,.val (.pv (Sx a1))),(3,.box (.pv ((aj false) a0))),(5,.box (.pv ((am false) a2))),(6,.box zab1),(8,.box (.node [(.pv (I a0.Op)),zab2,(.pv (Sx a0.Var)),(.own 9333)])),(9,.val (.pv (I (i11:Int))))]) (fun i11 s11=>[(9333,(5,s11.map (aj true)))]) (bt (Sln_ (x:=(.node [(.pv (I a0.Op)),zab2,(.pv (Sx a0.Var)),(.pv (.sl true 5 []))])) 8 [3] 9333 5 NM SC SC SC) (Slm_ SC)) (fun i11 s11 hi h=>?_) (fun s11 h=>?_)
   ·have w:=ws_ i11
    refine S ?_
    refine aG cs fun cs=>S ?_
    refine rb_ h fun v73 q h=>aq (aj false) q (S ?_)
    refine rb_ h fun v77 q h=>ai [false,false,false] (ih _ _ _ _ q) (S ?_)
    refine ae (DHa_ [10] [1232,1233]) (S ?_)
    refine ag cs h (fun cs h=>S ?_) fun cs h=>S ?_
    ·refine rb_ h fun v87 q h=>aS (aj true) (fun a=>Ft.psize _ a) q (S ?_)
     have h:=rs_ h
     refine RdH.mk ⟨_,h,?_⟩
     refine Slr_ 1392 9333 ?_
     exact Slm_ SWx
    ·exact FHz_ h
   ·refine S ?_
    refine aH cs fun cs=>S ?_
    exact FHz_ h
  ·refine rb_ h fun v23 q h=>ai [false,false,false] (slP_11 q) (S ?_)
   refine rb_ h fun v26 q h=>ai [false,false] (slA_5 q) (S ?_)
   refine ae (DHa_ [] [416]) (S ?_)
   refine rb_ h fun v31 q h=>ai [false] (slA_3 q) (S ?_)
   refine ae (DHa_ [] []) (S ?_)
   exact FHz_ h
  ·refine rb_ h fun v55 q h=>ai [false] (slO_2 q) (S ?_)
   exact FHz_ h
  ·exact FHz_ h
  rotate_left
  ·refine rb_ h fun v55 q h=>ai [false] (slO_2 q) (S ?_)
   exact FHz_ h
  ·refine rb_ h fun v55 q h=>ai [false] (slO_2 q) (S ?_)
   exact FHz_ h
  all_goals
   refine aN (b:=false) (sz:=5) (es:=a0.Parts.map (aj false)) 46 SC fun hl46=>?_; rw[aD] at hl46
   refine aI (rl_ h) (fun i11 s11=>[(1,.val (.pv (Sx a1))),(3,.box (.pv ((aj false) a0))),(5,.box (.pv ((am false) a2))),(6,.box zab1),(8,.box (.node [(.pv (I a0.Op)),zab2,(.pv (Sx a0.Var)),(.own 9333)])),(9,.val (.pv (I (i11:Int))))]) (fun i11 s11=>[(9333,(5,s11.map (aj true)))]) (bt (Sln_ (x:=(.node [(.pv (I a0.Op)),zab2,(.pv (Sx a0.Var)),(.pv (.sl true 5 []))])) 8 [3] 9333 5 NM SC SC SC) (Slm_ SC)) (fun i11 s11 hi h=>?_) (fun s11 h=>?_)
   ·have w:=ws_ i11
    refine S ?_
    refine aG cs fun cs=>S ?_
    refine rb_ h fun v73 q h=>aq (aj false) q (S ?_)
    refine rb_ h fun v77 q h=>ai [false,false,false] (ih _ _ _ _ q) (S ?_)
    refine ae (DHa_ [10] [1232,1233]) (S ?_)
    refine ag cs h (fun cs h=>S ?_) fun cs h=>S ?_
    ·refine rb_ h fun v87 q h=>aS (aj true) (fun a=>Ft.psize _ a) q (S ?_)
     have h:=rs_ h
     refine RdH.mk ⟨_,h,?_⟩
     refine Slr_ 1392 9333 ?_
     exact Slm_ SWx
    ·exact FHz_ h
   ·refine S ?_
    refine aH cs fun cs=>S ?_
    exact FHz_ h
theorem slP_10{a0:Ft}{a1:ByteArray}{a2:Tt}{r:Ft×Bool}(h:slP_8 a0 a1 a2=some r):Sat ah 131 [((aj false) a0),(Sx a1),((am false) a2)] (.tup [((aj true) r.1),(B r.2)]):=by
 obtain⟨n,hn⟩:=ls_ h
 exact(slP_9 n) _ _ _ _ hn

theorem slN_12{a0:Sa}  {r:List ByteArray}(h:slN_8 a0=some r):Sat ah 134 [((aL false) a0)] (.sl false 1 (r.map Sx)):=by
 obtain⟨h,cs⟩:=Ro_ h
 unfold slN_8 at h
 refine au 38 [.tmp 2] Tryz.func134 (h:=S ?_)
 refine Mkv_ (b:=false) (sz:=5) (es:=a0.Left.map (aj false)) (x:=(.pv ((aL false) a0))) 0 [0] SC fun hl0=>?_; rw[aD] at hl0
 refine aI (rl_ h) (fun i3 s3=>[(1,.box (.pv ((aL false) a0))),(3,.val (.pv (.sl false 1 (s3.map Sx)))),(4,.val (.pv (I (i3:Int))))]) (fun i3 s3=>[]) (bt (Sld_1 (x:=(.own 96)) (sz:=(1)) (es:=([]).map Sx) 3 [] 96 SC) (Slm_ SC)) (fun i3 s3 hi h=>?_) (fun s3 h=>?_)
 ·have w:=ws_ i3
  refine S ?_
  refine aG cs fun cs=>S ?_
  refine rb_ h fun v18 q h=>aq (aj false) q (S ?_)
  refine rb_ h fun v21 q h=>ai [false,false,true] (Sg_ (args:=[(.sl false 1 (s3.map Sx)),((aj false) v18),(.sl true 1 (([]).map Sx))]) [false,false,true] (by have gg:=slI_10 q; simp only[gv_t,gv_f,gv_n,vs_,va_,vl_,vrB_,vrI_,aB,RB,RS] at gg ⊢; exact gg)) (S ?_)
  exact aJ h
 ·refine S ?_
  refine aH cs fun cs=>S ?_
  refine Mkb_ (b:=false) (sz:=5) (es:=a0.Right.map (aj false)) (x:=(.pv ((aL false) a0))) 1 [1] SC fun hl1=>?_; rw[aD] at hl1
  refine aI (rl_ h) (fun i7 s7=>[(1,.box (.pv ((aL false) a0))),(3,.val (.pv (.sl false 1 (s7.map Sx)))),(5,.val (.pv (I (i7:Int))))]) (fun i7 s7=>[]) (Slm_ SC) (fun i7 s7 hi h=>?_) (fun s7 h=>?_)
  ·have w:=ws_ i7
   refine S ?_
   refine aG cs fun cs=>S ?_
   refine rb_ h fun v33 q h=>aq (aj false) q (S ?_)
   refine rb_ h fun v36 q h=>ai [false,false,true] (Sg_ (args:=[(.sl false 1 (s7.map Sx)),((aj false) v33),(.sl true 1 (([]).map Sx))]) [false,false,true] (by have gg:=slI_10 q; simp only[gv_t,gv_f,gv_n,vs_,va_,vl_,vrB_,vrI_,aB,RB,RS] at gg ⊢; exact gg)) (S ?_)
   exact aJ h
  ·refine S ?_
   refine aH cs fun cs=>S ?_
   exact FHz_1 h

theorem slQ_1{a0:Sa}{a1:Int}{a2:Int}{a3:Ft}{a4:Tt}  {r:(List Sa)×Bool}(h:slQ_ a0 a1 a2 a3 a4=some r):Sat ah 113 [((aL false) a0),(I a1),(I a2),((aj false) a3),((am false) a4)] (.tup [(.sl true 2 (r.1.map (aL true))),(B r.2)]):=by
 obtain⟨h,cs⟩:=Ro_ h
 unfold slQ_ at h
 refine au 78 [.tmp 10,.tmp 11] Tryz.func113 (h:=S ?_)
 refine rb_ h fun v17 q h=>ai [false] (slG_5 q) (S ?_)
 refine ag cs h (fun cs h=>S ?_) fun cs h=>S ?_
 refine rb_ h fun v23 q h=>aq (aj false) q (S ?_)
 refine rb_ h fun v28 q h=>ai [false,false,false] (slP_10 q) (S ?_)
 refine ae (DHa_ [12] [448,449]) (S ?_)
 refine ag cs h (fun cs h=>S ?_) fun cs h=>S ?_
 refine ag cs h (fun cs h=>S ?_) fun cs h=>S ?_
 rotate_left
 refine ag cs h (fun cs h=>S ?_) fun cs h=>S ?_
 rotate_left
 refine rb_ h fun v54 q h=>ai [false] (slV_3 q) (S ?_)
 refine ag cs h (fun cs h=>S ?_) fun cs h=>S ?_
 refine rb_ h fun v58 q h=>ai [false] (slN_12 q) (S ?_)
 refine rb_ h fun v61 q h=>ai [false,false] (slI_6 q) (S ?_)
 refine ae (DHa_ [] []) (S ?_)
 refine ag cs h (fun cs h=>S ?_) fun cs h=>S ?_
 rotate_left
 refine ag cs h (fun cs h=>S ?_) fun cs h=>S ?_
 ·refine rb_ h fun v70 q h=>ai [false,false,false,false,false] (slN_ q) (S ?_)
  exact FHz_ h
 ·refine rb_ h fun v76 q h=>ai [false,false,false,false,false] (slN_ q) (S ?_)
  exact FHz_ h
 ·refine ae (DHa_ [] []) (S ?_)
  exact FHz_ h
 rotate_left 2
 ·refine rb_ h fun v43 q h=>ai [false,false,false,false,false] (slN_ q) (S ?_)
  exact FHz_ h
 ·refine rb_ h fun v50 q h=>ai [false,false,false,false,false] (slN_ q) (S ?_)
  exact FHz_ h
 all_goals
  exact FHz_ h

theorem slP_4{a0:Sa}{a1:Int}{a2:Int}{a3:List Ft}  {r:List Sa}(h:slP_ a0 a1 a2 a3=some r):Sat ah 114 [((aL false) a0),(I a1),(I a2),(.sl false 5 (a3.map (aj false)))] (.sl true 2 (r.map (aL true))):=by
 obtain⟨h,cs⟩:=Ro_ h
 unfold slP_ at h
 refine au 96 [.tmp 8] Tryz.func114 (h:=S ?_)
 refine rb_ h fun v14 q h=>SlcH.mk (f:=(aj false)) q SC (S ?_)
 refine ag cs h (fun cs h=>S ?_) fun cs h=>S ?_
 ·refine rb_ h fun v22 q h=>ai [false,false,false,false,false] (slN_ q) (S ?_)
  exact FHz_ h
 ·refine ag cs h (fun cs h=>S ?_) fun cs h=>S ?_
  ·refine rb_ h fun v30 q h=>ai [false,false,false,false,false] (slN_ q) (S ?_)
   exact FHz_ h
  ·refine rb_ h fun v33 q h=>SlcH.mk (f:=(aj false)) q SC (S ?_)
   refine ag cs h (fun cs h=>S ?_) fun cs h=>S ?_
   ·refine rb_ h fun v41 q h=>ai [false,false,false,false,false] (slN_ q) (S ?_)
    exact FHz_ h
   ·refine ag cs h (fun cs h=>S ?_) fun cs h=>S ?_
    ·refine rb_ h fun v49 q h=>ai [false,false,false,false,false] (slN_ q) (S ?_)
     refine rb_ h fun v54 q h=>ai [false,false,false,false,false] (slN_ q) (S ?_)
     refine ae (DHa_ [] [784,785,864,865,880]) (S ?_)
     exact FHz_ h
    ·refine ag cs h (fun cs h=>S ?_) fun cs h=>S ?_
     ·refine rb_ h fun v62 q h=>ai [false,false,false,false,false] (slN_ q) (S ?_)
      refine rb_ h fun v67 q h=>ai [false,false,false,false,false] (slN_ q) (S ?_)
      refine ae (DHa_ [] [992,993,1072,1073,1088]) (S ?_)
      exact FHz_ h
     ·refine ag cs h (fun cs h=>S ?_) fun cs h=>S ?_
      ·refine rb_ h fun v75 q h=>ai [false,false,false,false,false] (slN_ q) (S ?_)
       exact FHz_ h
      ·refine ag cs h (fun cs h=>S ?_) fun cs h=>S ?_
       ·refine rb_ h fun v83 q h=>ai [false,false,false,false,false] (slN_ q) (S ?_)
        refine rb_ h fun v88 q h=>ai [false,false,false,false,false] (slN_ q) (S ?_)
        refine ae (DHa_ [] [1328,1329,1408,1409,1424]) (S ?_)
        exact FHz_ h
       ·refine rb_ h fun v94 q h=>ai [false,false,false,false,false] (slN_ q) (S ?_)
        exact FHz_ h

theorem slR_5{a0:Sa}{a1:Dt}  {r:(List Sa)×Bool}(h:slR_ a0 a1=some r):Sat ah 92 [((aL false) a0),((al false) a1)] (.tup [(.sl true 2 (r.1.map (aL true))),(B r.2)]):=by
 obtain⟨h,cs⟩:=Ro_ h
 unfold slR_ at h
 refine au 130 [.tmp 4,.tmp 5] Tryz.func92 (h:=S ?_)
 refine rb_ h fun v14 q h=>ai [false,false,false] (slI_2 q) (S ?_)
 refine ag cs h (fun cs h=>S ?_) fun cs h=>S ?_
 refine ag cs h (fun cs h=>S ?_) fun cs h=>S ?_
 refine rb_ h fun v46 q h=>ai [false,false,false,false,false] (slN_ q) (S ?_)
 refine rb_ h fun v50 q h=>ai [false,false,false,false,false] (slN_ q) (S ?_)
 refine ag cs h (fun cs h=>S ?_) fun cs h=>S ?_
 rotate_left 2
 refine rb_ h fun v32 q h=>ai [false,false] (slS_9 q) (S ?_)
 refine ag cs h (fun cs h=>S ?_) fun cs h=>S ?_
 refine rb_ h fun v64 q h=>ai [false] (slO_7 q) (S ?_)
 refine ag cs h (fun cs h=>S ?_) fun cs h=>S ?_
 refine rb_ h fun v69 q h=>ai [false,false,false] (slI_2 q) (S ?_)
 refine ag cs h (fun cs h=>S ?_) fun cs h=>S ?_
 refine rb_ h fun v77 q h=>ai [false,false,false] (slI_2 q) (S ?_)
 refine ag cs h (fun cs h=>S ?_) fun cs h=>S ?_
 refine rb_ h fun v84 q h=>aq (aj false) q (S ?_)
 refine ag cs h (fun cs h=>S ?_) fun cs h=>S ?_
 refine ag cs h (fun cs h=>S ?_) fun cs h=>S ?_
 rotate_left 2
 refine rb_ h fun v103 q h=>ai [false] (slO_12 q) (S ?_)
 refine ae (DHa_ [] []) (S ?_)
 refine ag cs h (fun cs h=>S ?_) fun cs h=>S ?_
 refine ag cs h (fun cs h=>S ?_) fun cs h=>S ?_
 rotate_left 5
 refine rb_ h fun v69 q h=>ai [false,false,false] (slI_2 q) (S ?_)
 refine ag cs h (fun cs h=>S ?_) fun cs h=>S ?_
 refine rb_ h fun v77 q h=>ai [false,false,false] (slI_2 q) (S ?_)
 refine ag cs h (fun cs h=>S ?_) fun cs h=>S ?_
 refine rb_ h fun v84 q h=>aq (aj false) q (S ?_)
 refine ag cs h (fun cs h=>S ?_) fun cs h=>S ?_
 refine ag cs h (fun cs h=>S ?_) fun cs h=>S ?_
 rotate_left 2
 refine rb_ h fun v103 q h=>ai [false] (slO_12 q) (S ?_)
 refine ae (DHa_ [] []) (S ?_)
 refine ag cs h (fun cs h=>S ?_) fun cs h=>S ?_
 refine ag cs h (fun cs h=>S ?_) fun cs h=>S ?_
 rotate_left 6
 refine rb_ h fun v21 q h=>ai [false,false] (slS_16 q) (S ?_)
 refine ag cs h (fun cs h=>S ?_) fun cs h=>S ?_
 refine ag cs h (fun cs h=>S ?_) fun cs h=>S ?_
 refine rb_ h fun v46 q h=>ai [false,false,false,false,false] (slN_ q) (S ?_)
 refine rb_ h fun v50 q h=>ai [false,false,false,false,false] (slN_ q) (S ?_)
 refine ag cs h (fun cs h=>S ?_) fun cs h=>S ?_
 rotate_left 2
 refine rb_ h fun v32 q h=>ai [false,false] (slS_9 q) (S ?_)
 refine ag cs h (fun cs h=>S ?_) fun cs h=>S ?_
 refine rb_ h fun v64 q h=>ai [false] (slO_7 q) (S ?_)
 refine ag cs h (fun cs h=>S ?_) fun cs h=>S ?_
 refine rb_ h fun v69 q h=>ai [false,false,false] (slI_2 q) (S ?_)
 refine ag cs h (fun cs h=>S ?_) fun cs h=>S ?_
 refine rb_ h fun v77 q h=>ai [false,false,false] (slI_2 q) (S ?_)
 refine ag cs h (fun cs h=>S ?_) fun cs h=>S ?_
 refine rb_ h fun v84 q h=>aq (aj false) q (S ?_)
 refine ag cs h (fun cs h=>S ?_) fun cs h=>S ?_
 refine ag cs h (fun cs h=>S ?_) fun cs h=>S ?_
 rotate_left 2
 refine rb_ h fun v103 q h=>ai [false] (slO_12 q) (S ?_)
 refine ae (DHa_ [] []) (S ?_)
 refine ag cs h (fun cs h=>S ?_) fun cs h=>S ?_
 refine ag cs h (fun cs h=>S ?_) fun cs h=>S ?_
 rotate_left 5
 refine rb_ h fun v69 q h=>ai [false,false,false] (slI_2 q) (S ?_)
 refine ag cs h (fun cs h=>S ?_) fun cs h=>S ?_
 refine rb_ h fun v77 q h=>ai [false,false,false] (slI_2 q) (S ?_)
 refine ag cs h (fun cs h=>S ?_) fun cs h=>S ?_
 refine rb_ h fun v84 q h=>aq (aj false) q (S ?_)
 refine ag cs h (fun cs h=>S ?_) fun cs h=>S ?_
 refine ag cs h (fun cs h=>S ?_) fun cs h=>S ?_
 rotate_left 2
 refine rb_ h fun v103 q h=>ai [false] (slO_12 q) (S ?_)
 refine ae (DHa_ [] []) (S ?_)
 refine ag cs h (fun cs h=>S ?_) fun cs h=>S ?_
 refine ag cs h (fun cs h=>S ?_) fun cs h=>S ?_
 rotate_left
 ·refine rb_ h fun v129 q h=>ai [false,false,false,false] (slP_4 q) (S ?_)
  exact FHz_ h
 rotate_left 5
 ·refine rb_ h fun v58 q h=>ai [false] (slG_3 q) (S ?_)
  refine ae (DHa_ [] [704,736,737,784,800,801,816]) (S ?_)
  exact FHz_ h
 ·refine ae (DHa_ [] [704,736,737,784,800,801,816]) (S ?_)
  exact FHz_ h
 rotate_left
 ·refine rb_ h fun v97 q h=>ai [false,false] (slH_1 q) (S ?_)
  exact FHz_ h
 rotate_left
 ·refine rb_ h fun v119 q h=>ai [false,false,false,false,false] (slQ_1 q) (S ?_)
  exact FHz_ h
 rotate_left 4
 ·refine rb_ h fun v97 q h=>ai [false,false] (slH_1 q) (S ?_)
  exact FHz_ h
 rotate_left
 ·refine rb_ h fun v119 q h=>ai [false,false,false,false,false] (slQ_1 q) (S ?_)
  exact FHz_ h
 rotate_left 4
 ·refine rb_ h fun v58 q h=>ai [false] (slG_3 q) (S ?_)
  refine ae (DHa_ [] [704,736,737,784,800,801,816]) (S ?_)
  exact FHz_ h
 ·refine ae (DHa_ [] [704,736,737,784,800,801,816]) (S ?_)
  exact FHz_ h
 rotate_left
 ·refine rb_ h fun v97 q h=>ai [false,false] (slH_1 q) (S ?_)
  exact FHz_ h
 rotate_left
 ·refine rb_ h fun v129 q h=>ai [false,false,false,false] (slP_4 q) (S ?_)
  exact FHz_ h
 rotate_left 4
 ·refine rb_ h fun v97 q h=>ai [false,false] (slH_1 q) (S ?_)
  exact FHz_ h
 all_goals
  exact FHz_ h

theorem slP_7{a0:Sa}{a1:Dt}  {r:(List Sa)×Bool}(h:slP_3 a0 a1=some r):Sat ah 80 [((aL false) a0),((al false) a1)] (.tup [(.sl false 2 (r.1.map (aL false))),(B r.2)]):=by
 obtain⟨h,cs⟩:=Ro_ h
 unfold slP_3 at h
 refine au 33 [.tmp 4,.tmp 5] Tryz.func80 (h:=S ?_)
 refine rb_ h fun v12 q h=>ai [false,false] (SvO_ (res':=(.tup [(.sl false 2 (v12.1.map (aL false))),(B v12.2)])) (slR_5 q) (by simp only[vt_,vs_,va_,vl_,aB,RB,RS])) (S ?_)
 refine aN (b:=false) (sz:=2) (es:=v12.1.map (aL false)) 6 SC fun hl6=>?_; rw[aD] at hl6
 refine aI (rl_ h) (fun i3 s3=>[(6,.val (.pv (.sl false 2 (v12.1.map (aL false))))),(7,.val (.pv (B s3))),(8,.val (.pv (I (i3:Int))))]) (fun i3 s3=>[]) (Slm_ SC) (fun i3 s3 hi h=>?_) (fun s3 h=>?_)
 ·have w:=ws_ i3
  refine S ?_
  refine aG cs fun cs=>S ?_
  refine ag cs h (fun cs h=>S ?_) fun cs h=>S ?_
  ·refine rb_ h fun v25 q h=>aq (aL false) q (S ?_)
   refine rb_ h fun v27 q h=>ai [false] (slG_4 q) (S ?_)
   exact aJ h
  ·exact aJ h
 ·refine S ?_
  refine aH cs fun cs=>S ?_
  refine ag cs h (fun cs h=>S ?_) fun cs h=>S ?_
  ·exact FHz_1 h
  ·exact FHz_1 h

theorem slS_10{a0:List Ft}{a1:List Ft}  {r:Bool}(h:slS_3 a0 a1=some r):Sat ah 93 [(.sl false 5 (a0.map (aj false))),(.sl false 5 (a1.map (aj false)))] (B r):=by
 obtain⟨h,cs⟩:=Ro_ h
 unfold slS_3 at h
 refine au 27 [.tmp 4] Tryz.func93 (h:=S ?_)
 refine ag cs h (fun cs h=>S ?_) fun cs h=>S ?_
 ·refine aN (b:=false) (sz:=5) (es:=a0.map (aj false)) 0 SC fun hl0=>?_; rw[aD] at hl0
  refine aI (rl_ h) (fun i4 s4=>[(0,.val (.pv (.sl false 5 (a0.map (aj false))))),(1,.val (.pv (.sl false 5 (a1.map (aj false))))),(5,.val (.pv (I (i4:Int))))]) (fun i4 s4=>[]) (Slm_ SC) (fun i4 s4 hi h=>?_) (fun s4 h=>?_)
  ·have w:=ws_ i4
   refine S ?_
   refine aG cs fun cs=>S ?_
   refine rb_ h fun v19 q h=>aq (aj false) q (S ?_)
   refine rb_ h fun v23 q h=>aq (aj false) q (S ?_)
   refine rb_ h fun v25 q h=>ai [false,false] (slS_9 q) (S ?_)
   refine ae (DHa_ [] []) (S ?_)
   refine ag cs h (fun cs h=>S ?_) fun cs h=>S ?_
   ·exact aJ h
   ·exact FHz_ h
  ·refine S ?_
   refine aH cs fun cs=>S ?_
   exact FHz_ h
 ·exact FHz_ h

theorem slS_21{a0:Sa}{a1:Sa}  {r:Bool}(h:slS_8 a0 a1=some r):Sat ah 81 [((aL false) a0),((aL false) a1)] (B r):=by
 obtain⟨h,cs⟩:=Ro_ h
 unfold slS_8 at h
 refine au 17 [.tmp 4] Tryz.func81 (h:=S ?_)
 refine rb_ h fun v9 q h=>ai [false,false] (slS_10 q) (S ?_)
 refine ag cs h (fun cs h=>S ?_) fun cs h=>S ?_
 ·refine rb_ h fun v15 q h=>ai [false,false] (slS_10 q) (S ?_)
  exact FHz_ h
 ·exact FHz_ h

theorem slN_14{a0:Dt}  {r:Bool}(h:slN_6 a0=some r):Sat ah 65 [((al false) a0)] (B r):=by
 obtain⟨h,cs⟩:=Ro_ h
 unfold slN_6 at h
 refine au 45 [.tmp 2] Tryz.func65 (h:=S ?_)
 refine rb_ h fun v8 q h=>ai [false] (slG_4 q) (S ?_)
 refine ag cs h (fun cs h=>S ?_) fun cs h=>S ?_
 refine rb_ h fun v14 q h=>ai [false,false] (slP_7 q) (S ?_)
 refine ag cs h (fun cs h=>S ?_) fun cs h=>S ?_
 refine ag cs h (fun cs h=>S ?_) fun cs h=>S ?_
 ·refine aN (b:=false) (sz:=2) (es:=v14.1.map (aL false)) 3 SC fun hl3=>?_; rw[aD] at hl3
  refine aI (rl_ h) (fun i7 s7=>[(1,.box (.pv ((al false) a0))),(3,.val (.pv (.sl false 2 (v14.1.map (aL false))))),(5,.val (.pv (I (i7:Int))))]) (fun i7 s7=>[]) (Slm_ SC) (fun i7 s7 hi h=>?_) (fun s7 h=>?_)
  ·have w:=ws_ i7
   refine S ?_
   refine aG cs fun cs=>S ?_
   refine rb_ h fun v35 q h=>aq (aL false) q (S ?_)
   refine rb_ h fun v40 q h=>aq (al false) q (S ?_)
   refine rb_ h fun v43 q h=>ai [false,false] (slS_21 q) (S ?_)
   refine ae (DHa_ [] []) (S ?_)
   refine ag cs h (fun cs h=>S ?_) fun cs h=>S ?_
   ·exact aJ h
   ·exact FHz_ h
  ·refine S ?_
   refine aH cs fun cs=>S ?_
   exact FHz_ h
 all_goals
  exact FHz_ h

theorem slO_17{a0:List Int}  {r:List Int}(h:slO_13 a0=some r):Sat ah 66 [(.sl false 1 (a0.map I))] (.sl true 1 (r.map I)):=by
 obtain⟨h,cs⟩:=Ro_ h
 unfold slO_13 at h
 refine au 6 [.tmp 2] Tryz.func66 (h:=S ?_)
 refine rb_ h fun v5 q h=>aS I (fun _=>rfl) q (S ?_)
 exact FHz_ h

theorem slW_2(n:Nat):(∀ (a0:Dt) (a1:List Int) (r:(List Int)×Bool),slW_ n a0 a1=some r→Sat ah 46 [((al false) a0),(.sl false 1 (a1.map I))] (.tup [(.sl false 1 (r.1.map I)),(B r.2)])):=by
 induction n with
 | zero=>exact fun _ _ _ h=>by simp[slW_] at h
 | succ n ih=>
  refine fun a0 a1 r h=>?_
  obtain⟨h,cs⟩:=Ro_ h
  rw[slW_] at h
  refine au 37 [.tmp 4,.tmp 5] Tryz.func46 (h:=S ?_)
  refine rb_ h fun v10 q h=>ai [false] (slN_14 q) (S ?_)
  refine ag cs h (fun cs h=>S ?_) fun cs h=>S ?_
  ·refine Mkv_ (b:=false) (sz:=12) (es:=a0.Parts.map (al false)) (x:=(.pv ((al false) a0))) 0 [5] SC fun hl0=>?_; rw[aD] at hl0
   refine aI (rl_ h) (fun i4 s4=>[(1,.val (.pv (.sl false 1 (a1.map I)))),(2,.box (.pv ((al false) a0))),(6,.val (.pv (I (i4:Int))))]) (fun i4 s4=>[]) (Slm_ SC) (fun i4 s4 hi h=>?_) (fun s4 h=>?_)
   ·have w:=ws_ i4
    refine S ?_
    refine aG cs fun cs=>S ?_
    refine rb_ h fun v24 q h=>aq (al false) q (S ?_)
    refine rb_ h fun v27 q h=>ai [false] (slO_17 q) (S ?_)
    refine rb_ h fun v30 q h=>aS I (fun _=>rfl) q (S ?_)
    refine rb_ h fun v31 q h=>ai [false,true] (Sg_ (args:=[((al false) v24),(.sl true 1 (v30.map I))]) [false,true] (by have gg:=ih _ _ _ q; simp only[gv_t,gv_f,gv_n,vs_,va_,vl_,vrB_,vrI_,aB,RB,RS] at gg ⊢; exact gg)) (S ?_)
    refine ae (DHa_ [] [432,464,480]) (S ?_)
    refine ag cs h (fun cs h=>S ?_) fun cs h=>S ?_
    ·exact FHz_1 h
    ·exact aJ h
   ·refine S ?_
    refine aH cs fun cs=>S ?_
    exact FHz_1 h
  ·exact FHz_1 h
theorem slW_3{a0:Dt}{a1:List Int}{r:(List Int)×Bool}(h:slW_1 a0 a1=some r):Sat ah 46 [((al false) a0),(.sl false 1 (a1.map I))] (.tup [(.sl false 1 (r.1.map I)),(B r.2)]):=by
 obtain⟨n,hn⟩:=ls_ h
 exact(slW_2 n) _ _ _ hn

theorem slV_5{a0:Dt}  {r:Bool}(h:slV_2 a0=some r):Sat ah 18 [((al false) a0)] (B r):=by
 obtain⟨h,cs⟩:=Ro_ h
 unfold slV_2 at h
 refine au 16 [.tmp 2] Tryz.func18 (h:=S ?_)
 refine rb_ h fun v6 q h=>ai [false,false] (slS_20 q) (S ?_)
 refine ag cs h (fun cs h=>S ?_) fun cs h=>S ?_
 ·exact FHz_ h
 ·refine rb_ h fun v11 q h=>ai [false,true] (Sg_ (args:=[((al false) a0),(.sl true 1 (([]).map I))]) [false,true] (by have gg:=slW_3 q; simp only[gv_t,gv_f,gv_n,vs_,va_,vl_,vrB_,vrI_,aB,RB,RS] at gg ⊢; exact gg)) (S ?_)
  exact FHz_ h

theorem slO_14(n:Nat):(∀ (a0:Dt) (r:Dt),slO_6 n a0=some r→Sat ah 40 [((al false) a0)] ((al true) r)):=by
 induction n with
 | zero=>exact fun _ _ h=>by simp[slO_6] at h
 | succ n ih=>
  refine fun a0 r h=>?_
  obtain⟨h,cs⟩:=Ro_ h
  rw[slO_6] at h
  refine au 42 [.cell 2 44] Tryz.func40 (h:=S ?_)
  refine rb_ h fun v13 q h=>ai [false] (slO_10 q) (S ?_)
  refine rb_ h fun v16 q h=>ai [false] (slO_2 q) (S ?_)
  refine rb_ h fun v21 q h=>ai [false,false,false,false,false] (slN_ q) (S ?_)
  refine ae (DHa_ [4] [208,256,257,336,337]) (S ?_)
  refine Mkv_ (b:=false) (sz:=12) (es:=a0.Parts.map (al false)) (x:=(.pv ((al false) a0))) 0 [5] SC fun hl0=>?_; rw[aD] at hl0
  refine aI (rl_ h) (fun i4 s4=>[(1,.box (.pv ((al false) a0))),(2,.box zab0),(4,.box (.node [(.pv (I a0.Rule)),(.node [(.own 336),(.own 337)]),(.pv (I a0.Main)),(.node [(.pv (Sx v13.Name)),(.own 208)]),(.node [(.pv (I v16.Op)),(.node [(.pv (Sx v16.Atom.Name)),(.own 256)]),(.pv (Sx v16.Var)),(.own 257)]),(.own 9312)])),(5,.val (.pv (I (i4:Int))))]) (fun i4 s4=>[(336,(5,v21.Left.map (aj true))),(337,(5,v21.Right.map (aj true))),(208,(2,v13.Args.map (am true))),(256,(2,v16.Atom.Args.map (am true))),(257,(5,v16.Parts.map (aj true))),(9312,(12,s4.map (al true)))]) (bt (Sln_ (x:=(.node [(.pv (I a0.Rule)),(.node [(.own 336),(.own 337)]),(.pv (I a0.Main)),(.node [(.pv (Sx v13.Name)),(.own 208)]),(.node [(.pv (I v16.Op)),(.node [(.pv (Sx v16.Atom.Name)),(.own 256)]),(.pv (Sx v16.Var)),(.own 257)]),(.pv (.sl true 12 []))])) 4 [5] 9312 12 NM SC SC SC) (Slm_ SC)) (fun i4 s4 hi h=>?_) (fun s4 h=>?_)
  ·have w:=ws_ i4
   refine S ?_
   refine aG cs fun cs=>S ?_
   refine rb_ h fun v35 q h=>aq (al false) q (S ?_)
   refine rb_ h fun v37 q h=>ai [false] (ih _ _ q) (S ?_)
   refine rb_ h fun v39 q h=>aS (al true) (fun a=>Dt.psize _ a) q (S ?_)
   refine ae (DHa_ [] [592,593,594,595,596,597,608,624]) (S ?_)
   have h:=rs_ h
   refine RdH.mk ⟨_,h,?_⟩
   refine Slr_ 624 9312 ?_
   exact Slm_ SWx
  ·refine S ?_
   refine aH cs fun cs=>S ?_
   exact FHz_ h
theorem slO_3{a0:Dt}{r:Dt}(h:slO_4 a0=some r):Sat ah 40 [((al false) a0)] ((al true) r):=by
 obtain⟨n,hn⟩:=ls_ h
 exact(slO_14 n) _ _ hn

theorem slC_6{a0:Dt}  {r:Dt×Bool}(h:slC_1 a0=some r):Sat ah 82 [((al false) a0)] (.tup [((al true) r.1),(B r.2)]):=by
 obtain⟨h,cs⟩:=Ro_ h
 unfold slC_1 at h
 refine au 96 [.cell 2 44,.tmp 3] Tryz.func82 (h:=S ?_)
 refine rb_ h fun v13 q h=>aq (al false) q (S ?_)
 refine rb_ h fun v17 q h=>aq (al false) q (S ?_)
 refine ae (DHa_ [4,5,6] []) (S ?_)
 refine rb_ h fun v23 q h=>ai [false,false,false,false,false] (slN_ q) (S ?_)
 refine ag cs h (fun cs h=>S ?_) fun cs h=>S ?_
 refine rb_ h fun v35 q h=>aq (aj false) q (S ?_)
 refine ag cs h (fun cs h=>S ?_) fun cs h=>S ?_
 rotate_left
 refine rb_ h fun v46 q h=>aq (aj false) q (S ?_)
 refine rb_ h fun v48 q h=>ai [false,false] (slH_1 q) (S ?_)
 refine ae (DHa_ [] []) (S ?_)
 refine ag cs h (fun cs h=>S ?_) fun cs h=>S ?_
 rotate_left
 refine ag cs h (fun cs h=>S ?_) fun cs h=>S ?_
 refine ag cs h (fun cs h=>S ?_) fun cs h=>S ?_
 rotate_left
 refine ag cs h (fun cs h=>S ?_) fun cs h=>S ?_
 refine ag cs h (fun cs h=>S ?_) fun cs h=>S ?_
 rotate_left
 refine ag cs h (fun cs h=>S ?_) fun cs h=>S ?_
 rotate_left 2
 refine ag cs h (fun cs h=>S ?_) fun cs h=>S ?_
 rotate_left 2
 refine ag cs h (fun cs h=>S ?_) fun cs h=>S ?_
 refine ag cs h (fun cs h=>S ?_) fun cs h=>S ?_
 rotate_left
 refine ag cs h (fun cs h=>S ?_) fun cs h=>S ?_
 rotate_left 2
 refine ag cs h (fun cs h=>S ?_) fun cs h=>S ?_
 rotate_left 2
 refine ae (DHa_ [] []) (S ?_)
 refine ag cs h (fun cs h=>S ?_) fun cs h=>S ?_
 refine ag cs h (fun cs h=>S ?_) fun cs h=>S ?_
 rotate_left
 refine ag cs h (fun cs h=>S ?_) fun cs h=>S ?_
 refine ag cs h (fun cs h=>S ?_) fun cs h=>S ?_
 rotate_left
 refine ag cs h (fun cs h=>S ?_) fun cs h=>S ?_
 rotate_left 2
 refine ag cs h (fun cs h=>S ?_) fun cs h=>S ?_
 rotate_left 2
 refine ag cs h (fun cs h=>S ?_) fun cs h=>S ?_
 refine ag cs h (fun cs h=>S ?_) fun cs h=>S ?_
 rotate_left
 refine ag cs h (fun cs h=>S ?_) fun cs h=>S ?_
 rotate_left 2
 refine ag cs h (fun cs h=>S ?_) fun cs h=>S ?_
 rotate_left 2
 ·refine ae (DHa_ [] []) (S ?_)
  exact FHz_ h
 all_goals
  exact FHz_ h

theorem slC_2{a0:Sa}{a1:Ft}{a2:Dt}{a3:Dt}  {r:Dt}(h:slC_ a0 a1 a2 a3=some r):Sat ah 83 [((aL false) a0),((aj false) a1),((al false) a2),((al false) a3)] ((al false) r):=by
 obtain⟨h,cs⟩:=Ro_ h
 unfold slC_ at h
 refine au 21 [.cell 8 44] Tryz.func83 (h:=S ?_)
 refine rb_ h fun v12 q h=>ai [false] (slO_2 q) (S ?_)
 refine rb_ h fun v16 q h=>ai [false,false,false,false,false] (slN_ q) (S ?_)
 refine ae (DHa_ [] [192,193,256,257,304]) (S ?_)
 exact FHz_1 h

theorem slR_2{a0:Dt}{a1:Bool}  {r:Int}(h:slR_1 a0 a1=some r):Sat ah 96 [((al false) a0),(B a1)] (I r):=by
 obtain⟨h,cs⟩:=Ro_ h
 unfold slR_1 at h
 refine au 20 [.tmp 4] Tryz.func96 (h:=S ?_)
 refine ag cs h (fun cs h=>S ?_) fun cs h=>S ?_
 ·exact FHz_ h
 ·refine ag cs h (fun cs h=>S ?_) fun cs h=>S ?_
  rotate_left
  refine ag cs h (fun cs h=>S ?_) fun cs h=>S ?_
  rotate_left
  refine ag cs h (fun cs h=>S ?_) fun cs h=>S ?_
  rotate_left
  refine ag cs h (fun cs h=>S ?_) fun cs h=>S ?_
  rotate_left
  refine rb_ h fun v15 q h=>ai [false] (slO_7 q) (S ?_)
  refine ag cs h (fun cs h=>S ?_) fun cs h=>S ?_
  all_goals
   exact FHz_ h

theorem slI_12(n:Nat):(∀ (a0:Dt) (a1:Ft) (a2:Bool) (a3:Int) (r:Dt),slI_ n a0 a1 a2 a3=some r→Sat ah 84 [((al false) a0),((aj false) a1),(B a2),(I a3)] ((al false) r)):=by
 induction n with
 | zero=>exact fun _ _ _ _ _ h=>by simp[slI_] at h
 | succ n ih=>
  refine fun a0 a1 a2 a3 r h=>?_
  obtain⟨h,cs⟩:=Ro_ h
  rw[slI_] at h
  refine au 126 [.cell 8 44] Tryz.func84 (h:=SB ?_)
  refine rb_ h fun v22 q h=>ai [false] (slO_10 q) (SB ?_)
  refine rb_ h fun v25 q h=>ai [false] (slO_2 q) (SB ?_)
  refine ae (DHa_ [9] [352,400,401]) (SB ?_)
  refine OrR.v [] (SB ?_)
  refine rb_ h fun v32 q h=>ai [false,false,false,false,false] (SvO_ (res':=((aL false) v32)) (slN_ q) (by simp only[vt_,vs_,va_,vl_,aB,RB,RS])) (SB ?_)
  refine ag cs h (fun cs h=>SB ?_) fun cs h=>SB ?_
  ·refine OrR.l (SB ?_)
   refine rb_ h fun v41 q h=>SlcH.mk (f:=(aj false)) q SC (SB ?_)
   refine rb_ h fun v42 q h=>aS (aj false) (fun a=>Ft.psize _ a) q (SB ?_)
   refine rb_ h fun v44 q h=>ai [false] (SvO_ (res':=((aj false) v44)) (slO_2 q) (by simp only[vt_,vs_,va_,vl_,aB,RB,RS])) (SB ?_)
   refine OrR.l (SB ?_)
   refine rb_ h fun v46 q h=>aS (aj false) (fun a=>Ft.psize _ a) q (SB ?_)
   refine rb_ h fun v49 q h=>SlcH.mk (f:=(aj false)) q SC (SB ?_)
   refine rb_ h fun v50 q h=>aS (aj false) (fun a=>Ft.psize _ a) q (SB ?_)
   refine ae (DHa_ [] [608,672,720,736,800]) (SB ?_)
   refine ag cs h (fun cs h=>SB ?_) fun cs h=>SB ?_
   refine rb_ h fun v94 q h=>ai [false,false] (slR_2 q) (SB ?_)
   refine ag cs h (fun cs h=>SB ?_) fun cs h=>asZ a3 cs fun z0 cs=>asZ a0.Main cs fun z1 cs=>SB ?_
   refine ag cs h (fun cs h=>asZ ( IntKind.i64.wrap ( a3-( 1:Int ) ) ) cs fun z0 cs=>asZ a0.Main cs fun z1 cs=>SB ?_) fun cs h=>asZ a3 cs fun z0 cs=>asZ a0.Main cs fun z1 cs=>SB ?_
   rotate_left 3
   refine rb_ h fun v77 q h=>ai [false] (slO_7 q) (SB ?_)
   refine ag cs h (fun cs h=>SB ?_) fun cs h=>SB ?_
   refine ag cs h (fun cs h=>SB ?_) fun cs h=>SB ?_
   refine rb_ h fun v94 q h=>ai [false,false] (slR_2 q) (SB ?_)
   refine ag cs h (fun cs h=>SB ?_) fun cs h=>asZ a3 cs fun z0 cs=>asZ ( IntKind.i64.wrap ( a0.Main+( 1:Int ) ) ) cs fun z1 cs=>SB ?_
   refine ag cs h (fun cs h=>asZ ( IntKind.i64.wrap ( a3-( 1:Int ) ) ) cs fun z0 cs=>asZ ( IntKind.i64.wrap ( a0.Main+( 1:Int ) ) ) cs fun z1 cs=>SB ?_) fun cs h=>asZ a3 cs fun z0 cs=>asZ ( IntKind.i64.wrap ( a0.Main+( 1:Int ) ) ) cs fun z1 cs=>SB ?_
   rotate_left 3
   refine rb_ h fun v94 q h=>ai [false,false] (slR_2 q) (SB ?_)
   refine ag cs h (fun cs h=>SB ?_) fun cs h=>asZ a3 cs fun z0 cs=>asZ a0.Main cs fun z1 cs=>SB ?_
   refine ag cs h (fun cs h=>asZ ( IntKind.i64.wrap ( a3-( 1:Int ) ) ) cs fun z0 cs=>asZ a0.Main cs fun z1 cs=>SB ?_) fun cs h=>asZ a3 cs fun z0 cs=>asZ a0.Main cs fun z1 cs=>SB ?_
   rotate_left 3
   refine rb_ h fun v94 q h=>ai [false,false] (slR_2 q) (SB ?_)
   refine ag cs h (fun cs h=>SB ?_) fun cs h=>asZ a3 cs fun z0 cs=>asZ a0.Main cs fun z1 cs=>SB ?_
   refine ag cs h (fun cs h=>asZ ( IntKind.i64.wrap ( a3-( 1:Int ) ) ) cs fun z0 cs=>asZ a0.Main cs fun z1 cs=>SB ?_) fun cs h=>asZ a3 cs fun z0 cs=>asZ a0.Main cs fun z1 cs=>SB ?_
   all_goals
    refine Mkv_ (b:=false) (sz:=12) (es:=a0.Parts.map (al false)) (x:=(.pv ((al false) a0))) 0 [5] SC fun hl0=>?_; rw[aD] at hl0
    refine aI (rl_ h) (fun i16 s16=>[(2,.val (.pv (B a2))),(4,.box (.pv ((al false) a0))),(5,.box (.pv ((aj false) a1))),(8,.box zab0),(9,.box (.node [(.pv (I a0.Rule)),(.node [(.own 800),(.pv (.sl false 5 (v32.Right.map (aj false))))]),(.pv (I z1)),(.node [(.pv (Sx v22.Name)),(.own 352)]),(.node [(.pv (I v25.Op)),(.node [(.pv (Sx v25.Atom.Name)),(.own 400)]),(.pv (Sx v25.Var)),(.own 401)]),(.own 9348)])),(13,.val (.pv (I z0))),(15,.val (.pv (I (i16:Int))))]) (fun i16 s16=>[(800,(5,v50.map (aj false))),(352,(2,v22.Args.map (am true))),(400,(2,v25.Atom.Args.map (am true))),(401,(5,v25.Parts.map (aj true))),(9348,(12,s16.map (al false)))]) (bt (Sln_ (x:=(.node [(.pv (I a0.Rule)),(.node [(.own 800),(.pv (.sl false 5 (v32.Right.map (aj false))))]),(.pv (I z1)),(.node [(.pv (Sx v22.Name)),(.own 352)]),(.node [(.pv (I v25.Op)),(.node [(.pv (Sx v25.Atom.Name)),(.own 400)]),(.pv (Sx v25.Var)),(.own 401)]),(.pv (.sl true 12 []))])) 9 [5] 9348 12 NM SC SC SC) (Slm_ SC)) (fun i16 s16 hi h=>?_) (fun s16 h=>?_)
    ·have w:=ws_ i16
     refine SB ?_
     refine aG cs fun cs=>SB ?_
     refine rb_ h fun v116 q h=>aq (al false) q (SB ?_)
     refine rb_ h fun v121 q h=>ai [false,false,false,false] (ih _ _ _ _ _ q) (SB ?_)
     refine OrR.l (SB ?_)
     refine rb_ h fun v123 q h=>aS (al false) (fun a=>Dt.psize _ a) q (SB ?_)
     refine ae (DHa_ [] [1952,1968]) (SB ?_)
     have h:=rs_ h
     refine RdH.mk ⟨_,h,?_⟩
     refine Slr_ 1968 9348 ?_
     exact Slm_ SWx
    ·refine SB ?_
     refine aH cs fun cs=>SB ?_
     exact FHz_1 h
  ·refine OrR.l (SB ?_)
   refine rb_ h fun v59 q h=>SlcH.mk (f:=(aj false)) q SC (SB ?_)
   refine rb_ h fun v60 q h=>aS (aj false) (fun a=>Ft.psize _ a) q (SB ?_)
   refine rb_ h fun v62 q h=>ai [false] (SvO_ (res':=((aj false) v62)) (slO_2 q) (by simp only[vt_,vs_,va_,vl_,aB,RB,RS])) (SB ?_)
   refine OrR.l (SB ?_)
   refine rb_ h fun v64 q h=>aS (aj false) (fun a=>Ft.psize _ a) q (SB ?_)
   refine rb_ h fun v67 q h=>SlcH.mk (f:=(aj false)) q SC (SB ?_)
   refine rb_ h fun v68 q h=>aS (aj false) (fun a=>Ft.psize _ a) q (SB ?_)
   refine ae (DHa_ [] [896,960,1008,1024,1088]) (SB ?_)
   refine ag cs h (fun cs h=>SB ?_) fun cs h=>SB ?_
   refine rb_ h fun v94 q h=>ai [false,false] (slR_2 q) (SB ?_)
   refine ag cs h (fun cs h=>SB ?_) fun cs h=>asZ a3 cs fun z0 cs=>asZ a0.Main cs fun z1 cs=>SB ?_
   refine ag cs h (fun cs h=>asZ ( IntKind.i64.wrap ( a3-( 1:Int ) ) ) cs fun z0 cs=>asZ a0.Main cs fun z1 cs=>SB ?_) fun cs h=>asZ a3 cs fun z0 cs=>asZ a0.Main cs fun z1 cs=>SB ?_
   rotate_left 3
   refine rb_ h fun v77 q h=>ai [false] (slO_7 q) (SB ?_)
   refine ag cs h (fun cs h=>SB ?_) fun cs h=>SB ?_
   refine ag cs h (fun cs h=>SB ?_) fun cs h=>SB ?_
   refine rb_ h fun v94 q h=>ai [false,false] (slR_2 q) (SB ?_)
   refine ag cs h (fun cs h=>SB ?_) fun cs h=>asZ a3 cs fun z0 cs=>asZ ( IntKind.i64.wrap ( a0.Main+( 1:Int ) ) ) cs fun z1 cs=>SB ?_
   refine ag cs h (fun cs h=>asZ ( IntKind.i64.wrap ( a3-( 1:Int ) ) ) cs fun z0 cs=>asZ ( IntKind.i64.wrap ( a0.Main+( 1:Int ) ) ) cs fun z1 cs=>SB ?_) fun cs h=>asZ a3 cs fun z0 cs=>asZ ( IntKind.i64.wrap ( a0.Main+( 1:Int ) ) ) cs fun z1 cs=>SB ?_
   rotate_left 3
   refine rb_ h fun v94 q h=>ai [false,false] (slR_2 q) (SB ?_)
   refine ag cs h (fun cs h=>SB ?_) fun cs h=>asZ a3 cs fun z0 cs=>asZ a0.Main cs fun z1 cs=>SB ?_
   refine ag cs h (fun cs h=>asZ ( IntKind.i64.wrap ( a3-( 1:Int ) ) ) cs fun z0 cs=>asZ a0.Main cs fun z1 cs=>SB ?_) fun cs h=>asZ a3 cs fun z0 cs=>asZ a0.Main cs fun z1 cs=>SB ?_
   rotate_left 3
   refine rb_ h fun v94 q h=>ai [false,false] (slR_2 q) (SB ?_)
   refine ag cs h (fun cs h=>SB ?_) fun cs h=>asZ a3 cs fun z0 cs=>asZ a0.Main cs fun z1 cs=>SB ?_
   refine ag cs h (fun cs h=>asZ ( IntKind.i64.wrap ( a3-( 1:Int ) ) ) cs fun z0 cs=>asZ a0.Main cs fun z1 cs=>SB ?_) fun cs h=>asZ a3 cs fun z0 cs=>asZ a0.Main cs fun z1 cs=>SB ?_
   all_goals
    refine Mkv_ (b:=false) (sz:=12) (es:=a0.Parts.map (al false)) (x:=(.pv ((al false) a0))) 0 [5] SC fun hl0=>?_; rw[aD] at hl0
    refine aI (rl_ h) (fun i16 s16=>[(2,.val (.pv (B a2))),(4,.box (.pv ((al false) a0))),(5,.box (.pv ((aj false) a1))),(8,.box zab0),(9,.box (.node [(.pv (I a0.Rule)),(.node [(.pv (.sl false 5 (v32.Left.map (aj false)))),(.own 1088)]),(.pv (I z1)),(.node [(.pv (Sx v22.Name)),(.own 352)]),(.node [(.pv (I v25.Op)),(.node [(.pv (Sx v25.Atom.Name)),(.own 400)]),(.pv (Sx v25.Var)),(.own 401)]),(.own 9348)])),(13,.val (.pv (I z0))),(15,.val (.pv (I (i16:Int))))]) (fun i16 s16=>[(1088,(5,v68.map (aj false))),(352,(2,v22.Args.map (am true))),(400,(2,v25.Atom.Args.map (am true))),(401,(5,v25.Parts.map (aj true))),(9348,(12,s16.map (al false)))]) (bt (Sln_ (x:=(.node [(.pv (I a0.Rule)),(.node [(.pv (.sl false 5 (v32.Left.map (aj false)))),(.own 1088)]),(.pv (I z1)),(.node [(.pv (Sx v22.Name)),(.own 352)]),(.node [(.pv (I v25.Op)),(.node [(.pv (Sx v25.Atom.Name)),(.own 400)]),(.pv (Sx v25.Var)),(.own 401)]),(.pv (.sl true 12 []))])) 9 [5] 9348 12 NM SC SC SC) (Slm_ SC)) (fun i16 s16 hi h=>?_) (fun s16 h=>?_)
    ·have w:=ws_ i16
     refine SB ?_
     refine aG cs fun cs=>SB ?_
     refine rb_ h fun v116 q h=>aq (al false) q (SB ?_)
     refine rb_ h fun v121 q h=>ai [false,false,false,false] (ih _ _ _ _ _ q) (SB ?_)
     refine OrR.l (SB ?_)
     refine rb_ h fun v123 q h=>aS (al false) (fun a=>Dt.psize _ a) q (SB ?_)
     refine ae (DHa_ [] [1952,1968]) (SB ?_)
     have h:=rs_ h
     refine RdH.mk ⟨_,h,?_⟩
     refine Slr_ 1968 9348 ?_
     exact Slm_ SWx
    ·refine SB ?_
     refine aH cs fun cs=>SB ?_
     exact FHz_1 h
theorem slI_9{a0:Dt}{a1:Ft}{a2:Bool}{a3:Int}{r:Dt}(h:slI_8 a0 a1 a2 a3=some r):Sat ah 84 [((al false) a0),((aj false) a1),(B a2),(I a3)] ((al false) r):=by
 obtain⟨n,hn⟩:=ls_ h
 exact(slI_12 n) _ _ _ _ _ hn

theorem slC_5{a0:Sa}{a1:Ft}{a2:Dt}{a3:Dt}  {r:Dt}(h:slC_ a0 a1 a2 a3=some r):Sat ah 83 [((aL false) a0),((aj false) a1),((al true) a2),((al true) a3)] ((al true) r):=by
 obtain⟨h,cs⟩:=Ro_ h
 unfold slC_ at h
 refine au 21 [.cell 8 44] Tryz.func83 (h:=S ?_)
 refine rb_ h fun v12 q h=>ai [false] (slO_2 q) (S ?_)
 refine rb_ h fun v16 q h=>ai [false,false,false,false,false] (slN_ q) (S ?_)
 refine ae (DHa_ [] [192,193,256,257,304]) (S ?_)
 exact FHz_ h

end Go.Proofs.YtafdgbndcflghaaGreat
