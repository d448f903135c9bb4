/- A part of the proof: lemmas only; nothing is claimed here beyond what each lemma says. -/
import Derived.Test.YtkoghcphkdecoaaGreatGm
import Derived.Test.YtkoghcphkdecoaaGreatGf
import Derived.Test.YtkoghcphkdecoaaGreatGsrt
set_option linter.unusedSimpArgs false
set_option linter.unusedVariables false
set_option linter.defProp false
set_option maxRecDepth 4000
namespace Go.Proofs.YtkoghcphkdecoaaGreat
open Go.Av
open And renaming intro→ae
open AppH renaming mk→aQ
open CallH renaming mk→aj
open CondH renaming run→ai,t2→aG,f2→aJ
open Dt renaming pv→av
open FinH renaming l→ag,r→aL
open Ft renaming pv→al
open IdxH renaming mk→ar
open List renaming length_map→aC
open Mg renaming know_sl→aN,forN→aI
open PV renaming views→aF
open RdH renaming mk→aA
open Sa renaming pv→ao
open Sat renaming of_m→au,give→bA
open SidxH renaming mk→bz
open St renaming le_trans→aT
open Tryz renaming prog→ah
open Tt renaming pv→am
set_option maxHeartbeats 4000000
theorem sTN_1(n:Nat):(∀ (a0:Tt) (a1:Int) (r:Int),sTN_ n a0 a1=some r→Sat ah 38 [((am false) a0),(I a1)] (I r))∧(∀ (a0:List Tt) (a1:Int) (r:Int),sTS_ n a0 a1=some r→Sat ah 76 [(.sl false 2 (a0.map (am false))),(I a1)] (I r)):=by
 induction n with
 | zero=>exact⟨fun _ _ _ h=>by simp[sTN_] at h,fun _ _ _ h=>by simp[sTS_] at h⟩
 | succ n ih=>
  refine⟨fun a0 a1 r h=>?_,fun a0 a1 r h=>?_⟩
  ·obtain⟨h,cs⟩:=Ro_ h
   rw[sTN_] at h
   refine au (nt:=19) (rs:=[.tmp 4]) (n:=100000) Tryz.func38 rfl rfl rfl rfl (by simp) (S ?_)
   refine ai cs h (fun cs h=>S ?_) (fun cs h=>S ?_)
   ·cases rs_ h
    exact ag SC
   ·obtain⟨v15,hv15,h⟩:=rb_ h
    refine aj [false,false] (ih.2 _ _ _ hv15) SC (S ?_)
    refine ai cs h (fun cs h=>S ?_) (fun cs h=>S ?_)
    ·cases rs_ h
     exact ag SC
    ·cases rs_ h
     exact ag SC
  ·obtain⟨h,cs⟩:=Ro_ h
   rw[sTS_] at h
   refine au (nt:=27) (rs:=[.tmp 4]) (n:=100000) Tryz.func76 rfl rfl rfl rfl (by simp) (S ?_)
   refine ai cs h (fun cs h=>S ?_) (fun cs h=>S ?_)
   ·cases rs_ h
    exact ag SC
   ·refine aN (b:=false) (sz:=2) (es:=a0.map (am false)) 0 SC fun hl0=>?_; rw[aC] at hl0
    replace h:=rl_ h
    refine aI h (fun i5 s5=>[(0,.val (.pv (.sl false 2 (a0.map (am false))))),(1,.val (.pv (I s5))),(5,.val (.pv (I (i5:Int))))]) (fun i5 s5=>[]) (Slm_ SC) (fun i5 s5 hi h=>?_) (fun s5 h=>?_)
    ·have w:=ws_ (i:=i5) (by omega)
     refine S ?_
     refine aG cs (by omega) (fun cs=>S ?_)
     obtain⟨v20,hv20,h⟩:=rb_ h
     refine ar (f:=(am false)) hv20 SC (S ?_)
     obtain⟨v23,hv23,h⟩:=rb_ h
     refine aj [false,false] (ih.1 _ _ _ hv23) SC (S ?_)
     refine ai cs h (fun cs h=>S ?_) (fun cs h=>S ?_)
     ·cases rs_ h
      exact ag SC
     ·have h:=rs_ h
      refine aA ⟨_,h,?_⟩
      exact Slm_ SW
    ·refine S ?_
     refine aJ cs (by omega) (fun cs=>S ?_)
     cases rs_ h
     exact ag SC
theorem sTs_{a0:Tt}{a1:Int}{r:Int}(h:szTerm a0 a1=some r):Sat ah 38 [((am false) a0),(I a1)] (I r):=by
 obtain⟨n,hn⟩:=ls_ h
 exact(sTN_1 n).1 _ _ _ hn
theorem sTS_1{a0:List Tt}{a1:Int}{r:Int}(h:sTS_2 a0 a1=some r):Sat ah 76 [(.sl false 2 (a0.map (am false))),(I a1)] (I r):=by
 obtain⟨n,hn⟩:=ls_ h
 exact(sTN_1 n).2 _ _ _ hn

theorem sFN_1(n:Nat):(∀ (a0:Ft) (a1:Int) (r:Int),sFN_ n a0 a1=some r→Sat ah 28 [((al false) a0),(I a1)] (I r))∧(∀ (a0:List Ft) (a1:Int) (r:Int),sFS_ n a0 a1=some r→Sat ah 63 [(.sl false 5 (a0.map (al false))),(I a1)] (I r)):=by
 induction n with
 | zero=>exact⟨fun _ _ _ h=>by simp[sFN_] at h,fun _ _ _ h=>by simp[sFS_] at h⟩
 | succ n ih=>
  refine⟨fun a0 a1 r h=>?_,fun a0 a1 r h=>?_⟩
  ·obtain⟨h,cs⟩:=Ro_ h
   rw[sFN_] at h
   refine au (nt:=25) (rs:=[.tmp 4]) (n:=100000) Tryz.func28 rfl rfl rfl rfl (by simp) (S ?_)
   obtain⟨v8,hv8,h⟩:=rb_ h
   refine aj [false,false] (sTs_ hv8) SC (S ?_)
   refine ai cs h (fun cs h=>S ?_) (fun cs h=>S ?_)
   ·cases rs_ h
    exact ag SC
   ·refine ai cs h (fun cs h=>S ?_) (fun cs h=>S ?_)
    ·cases rs_ h
     exact ag SC
    ·obtain⟨v21,hv21,h⟩:=rb_ h
     refine aj [false,false] (ih.2 _ _ _ hv21) SC (S ?_)
     refine ai cs h (fun cs h=>S ?_) (fun cs h=>S ?_)
     ·cases rs_ h
      exact ag SC
     ·cases rs_ h
      exact ag SC
  ·obtain⟨h,cs⟩:=Ro_ h
   rw[sFS_] at h
   refine au (nt:=27) (rs:=[.tmp 4]) (n:=100000) Tryz.func63 rfl rfl rfl rfl (by simp) (S ?_)
   refine ai cs h (fun cs h=>S ?_) (fun cs h=>S ?_)
   ·cases rs_ h
    exact ag SC
   ·refine aN (b:=false) (sz:=5) (es:=a0.map (al false)) 0 SC fun hl0=>?_; rw[aC] at hl0
    replace h:=rl_ h
    refine aI h (fun i5 s5=>[(0,.val (.pv (.sl false 5 (a0.map (al false))))),(1,.val (.pv (I s5))),(5,.val (.pv (I (i5:Int))))]) (fun i5 s5=>[]) (Slm_ SC) (fun i5 s5 hi h=>?_) (fun s5 h=>?_)
    ·have w:=ws_ (i:=i5) (by omega)
     refine S ?_
     refine aG cs (by omega) (fun cs=>S ?_)
     obtain⟨v20,hv20,h⟩:=rb_ h
     refine ar (f:=(al false)) hv20 SC (S ?_)
     obtain⟨v23,hv23,h⟩:=rb_ h
     refine aj [false,false] (ih.1 _ _ _ hv23) SC (S ?_)
     refine ai cs h (fun cs h=>S ?_) (fun cs h=>S ?_)
     ·cases rs_ h
      exact ag SC
     ·have h:=rs_ h
      refine aA ⟨_,h,?_⟩
      exact Slm_ SW
    ·refine S ?_
     refine aJ cs (by omega) (fun cs=>S ?_)
     cases rs_ h
     exact ag SC
theorem sFs_{a0:Ft}{a1:Int}{r:Int}(h:sF_ a0 a1=some r):Sat ah 28 [((al false) a0),(I a1)] (I r):=by
 obtain⟨n,hn⟩:=ls_ h
 exact(sFN_1 n).1 _ _ _ hn
theorem sFS_2{a0:List Ft}{a1:Int}{r:Int}(h:sFS_1 a0 a1=some r):Sat ah 63 [(.sl false 5 (a0.map (al false))),(I a1)] (I r):=by
 obtain⟨n,hn⟩:=ls_ h
 exact(sFN_1 n).2 _ _ _ hn

theorem sSs_1{a0:Sa}{a1:Int}  {r:Int}(h:sS_ a0 a1=some r):Sat ah 37 [((ao false) a0),(I a1)] (I r):=by
 obtain⟨h,cs⟩:=Ro_ h
 unfold sS_ at h
 refine au (nt:=18) (rs:=[.tmp 4]) (n:=100000) Tryz.func37 rfl rfl rfl rfl (by simp) (S ?_)
 obtain⟨v8,hv8,h⟩:=rb_ h
 refine aj [false,false] (sFS_2 hv8) SC (S ?_)
 refine ai cs h (fun cs h=>S ?_) (fun cs h=>S ?_)
 ·cases rs_ h
  exact ag SC
 ·obtain⟨v14,hv14,h⟩:=rb_ h
  refine aj [false,false] (sFS_2 hv14) SC (S ?_)
  refine ai cs h (fun cs h=>S ?_) (fun cs h=>S ?_)
  ·cases rs_ h
   exact ag SC
  ·cases rs_ h
   exact ag SC

theorem sDN_1(n:Nat):(∀ (a0:Dt) (a1:Int) (r:Int),sDN_ n a0 a1=some r→Sat ah 8 [((av false) a0),(I a1)] (I r))∧(∀ (a0:List Dt) (a1:Int) (r:Int),sDS_ n a0 a1=some r→Sat ah 39 [(.sl false 12 (a0.map (av false))),(I a1)] (I r)):=by
 induction n with
 | zero=>exact⟨fun _ _ _ h=>by simp[sDN_] at h,fun _ _ _ h=>by simp[sDS_] at h⟩
 | succ n ih=>
  refine⟨fun a0 a1 r h=>?_,fun a0 a1 r h=>?_⟩
  ·obtain⟨h,cs⟩:=Ro_ h
   rw[sDN_] at h
   refine au (nt:=30) (rs:=[.tmp 4]) (n:=100000) Tryz.func8 rfl rfl rfl rfl (by simp) (S ?_)
   obtain⟨v8,hv8,h⟩:=rb_ h
   refine aj [false,false] (sSs_1 hv8) SC (S ?_)
   refine ai cs h (fun cs h=>S ?_) (fun cs h=>S ?_)
   ·cases rs_ h
    exact ag SC
   ·obtain⟨v14,hv14,h⟩:=rb_ h
    refine aj [false,false] (sTs_ hv14) SC (S ?_)
    refine ai cs h (fun cs h=>S ?_) (fun cs h=>S ?_)
    ·cases rs_ h
     exact ag SC
    ·obtain⟨v20,hv20,h⟩:=rb_ h
     refine aj [false,false] (sFs_ hv20) SC (S ?_)
     refine ai cs h (fun cs h=>S ?_) (fun cs h=>S ?_)
     ·cases rs_ h
      exact ag SC
     ·obtain⟨v26,hv26,h⟩:=rb_ h
      refine aj [false,false] (ih.2 _ _ _ hv26) SC (S ?_)
      refine ai cs h (fun cs h=>S ?_) (fun cs h=>S ?_)
      ·cases rs_ h
       exact ag SC
      ·cases rs_ h
       exact ag SC
  ·obtain⟨h,cs⟩:=Ro_ h
   rw[sDS_] at h
   refine au (nt:=27) (rs:=[.tmp 4]) (n:=100000) Tryz.func39 rfl rfl rfl rfl (by simp) (S ?_)
   refine ai cs h (fun cs h=>S ?_) (fun cs h=>S ?_)
   ·cases rs_ h
    exact ag SC
   ·refine aN (b:=false) (sz:=12) (es:=a0.map (av false)) 0 SC fun hl0=>?_; rw[aC] at hl0
    replace h:=rl_ h
    refine aI h (fun i5 s5=>[(0,.val (.pv (.sl false 12 (a0.map (av false))))),(1,.val (.pv (I s5))),(5,.val (.pv (I (i5:Int))))]) (fun i5 s5=>[]) (Slm_ SC) (fun i5 s5 hi h=>?_) (fun s5 h=>?_)
    ·have w:=ws_ (i:=i5) (by omega)
     refine S ?_
     refine aG cs (by omega) (fun cs=>S ?_)
     obtain⟨v20,hv20,h⟩:=rb_ h
     refine ar (f:=(av false)) hv20 SC (S ?_)
     obtain⟨v23,hv23,h⟩:=rb_ h
     refine aj [false,false] (ih.1 _ _ _ hv23) SC (S ?_)
     refine ai cs h (fun cs h=>S ?_) (fun cs h=>S ?_)
     ·cases rs_ h
      exact ag SC
     ·have h:=rs_ h
      refine aA ⟨_,h,?_⟩
      exact Slm_ SW
    ·refine S ?_
     refine aJ cs (by omega) (fun cs=>S ?_)
     cases rs_ h
     exact ag SC
theorem sDs_{a0:Dt}{a1:Int}{r:Int}(h:sD_ a0 a1=some r):Sat ah 8 [((av false) a0),(I a1)] (I r):=by
 obtain⟨n,hn⟩:=ls_ h
 exact(sDN_1 n).1 _ _ _ hn
theorem sDS_2{a0:List Dt}{a1:Int}{r:Int}(h:sDS_1 a0 a1=some r):Sat ah 39 [(.sl false 12 (a0.map (av false))),(I a1)] (I r):=by
 obtain⟨n,hn⟩:=ls_ h
 exact(sDN_1 n).2 _ _ _ hn

theorem tTN_1(n:Nat):(∀ (a0:Tt) (r:Tt),tTN_ n a0=some r→Sat ah 43 [((am false) a0)] ((am true) r))∧(∀ (a0:List Tt) (r:List Tt),tTS_ n a0=some r→Sat ah 80 [(.sl false 2 (a0.map (am false)))] (.sl true 2 (r.map (am true)))):=by
 induction n with
 | zero=>exact⟨fun _ _ h=>by simp[tTN_] at h,fun _ _ h=>by simp[tTS_] at h⟩
 | succ n ih=>
  refine⟨fun a0 r h=>?_,fun a0 r h=>?_⟩
  ·obtain⟨h,cs⟩:=Ro_ h
   rw[tTN_] at h
   refine au (nt:=12) (rs:=[.cell 2 42]) (n:=100000) Tryz.func43 rfl rfl rfl rfl (by simp) (S ?_)
   obtain⟨v9,hv9,h⟩:=rb_ h
   refine aj [false] (ih.2 _ _ hv9) SC (S ?_)
   cases rs_ h
   exact ag SC
  ·obtain⟨h,cs⟩:=Ro_ h
   rw[tTS_] at h
   refine au (nt:=23) (rs:=[.tmp 2]) (n:=100000) Tryz.func80 rfl rfl rfl rfl (by simp) (S ?_)
   obtain⟨n7,hn7,h⟩:=rb_ h
   refine MknH.mk hn7 (S ?_)
   refine aN (b:=false) (sz:=2) (es:=a0.map (am false)) 0 SC fun hl0=>?_; rw[aC] at hl0
   replace h:=rl_ h
   refine aI h (fun i3 s3=>[(0,.val (.pv (.sl false 2 (a0.map (am false))))),(3,.val (.own 112)),(4,.val (.pv (I (i3:Int))))]) (fun i3 s3=>[(112,(2,s3.map (am true)))]) (Slm_ SC) (fun i3 s3 hi h=>?_) (fun s3 h=>?_)
   ·have w:=ws_ (i:=i3) (by omega)
    refine S ?_
    refine aG cs (by omega) (fun cs=>S ?_)
    obtain⟨v18,hv18,h⟩:=rb_ h
    refine ar (f:=(am false)) hv18 SC (S ?_)
    obtain⟨v20,hv20,h⟩:=rb_ h
    refine aj [false] (ih.1 _ _ hv20) SC (S ?_)
    obtain⟨v21,hv21,h⟩:=rb_ h
    refine ar (f:=(am true)) hv21 SC (S ?_)
    obtain⟨w2,hw2,h⟩:=rb_ h
    refine EldH.mk (f:=(am true)) hw2 rfl SC (S ?_)
    have h:=rs_ h
    refine aA ⟨_,h,?_⟩
    exact Slm_ SW
   ·refine S ?_
    refine aJ cs (by omega) (fun cs=>S ?_)
    cases rs_ h
    exact ag SC
theorem tTs_{a0:Tt}{r:Tt}(h:toTerm a0=some r):Sat ah 43 [((am false) a0)] ((am true) r):=by
 obtain⟨n,hn⟩:=ls_ h
 exact(tTN_1 n).1 _ _ hn
theorem tTS_1{a0:List Tt}{r:List Tt}(h:tTS_2 a0=some r):Sat ah 80 [(.sl false 2 (a0.map (am false)))] (.sl true 2 (r.map (am true))):=by
 obtain⟨n,hn⟩:=ls_ h
 exact(tTN_1 n).2 _ _ hn

theorem tFN_1(n:Nat):(∀ (a0:Ft) (r:Ft),tFN_ n a0=some r→Sat ah 30 [((al false) a0)] ((al true) r))∧(∀ (a0:List Ft) (r:List Ft),tFS_ n a0=some r→Sat ah 66 [(.sl false 5 (a0.map (al false)))] (.sl true 5 (r.map (al true)))):=by
 induction n with
 | zero=>exact⟨fun _ _ h=>by simp[tFN_] at h,fun _ _ h=>by simp[tFS_] at h⟩
 | succ n ih=>
  refine⟨fun a0 r h=>?_,fun a0 r h=>?_⟩
  ·obtain⟨h,cs⟩:=Ro_ h
   rw[tFN_] at h
   refine au (nt:=19) (rs:=[.cell 2 44]) (n:=100000) Tryz.func30 rfl rfl rfl rfl (by simp) (S ?_)
   obtain⟨v9,hv9,h⟩:=rb_ h
   refine aj [false] (tTs_ hv9) SC (S ?_)
   obtain⟨v16,hv16,h⟩:=rb_ h
   refine aj [false] (ih.2 _ _ hv16) SC (S ?_)
   cases rs_ h
   exact ag SC
  ·obtain⟨h,cs⟩:=Ro_ h
   rw[tFS_] at h
   refine au (nt:=23) (rs:=[.tmp 2]) (n:=100000) Tryz.func66 rfl rfl rfl rfl (by simp) (S ?_)
   obtain⟨n7,hn7,h⟩:=rb_ h
   refine MknH.mk hn7 (S ?_)
   refine aN (b:=false) (sz:=5) (es:=a0.map (al false)) 0 SC fun hl0=>?_; rw[aC] at hl0
   replace h:=rl_ h
   refine aI h (fun i3 s3=>[(0,.val (.pv (.sl false 5 (a0.map (al false))))),(3,.val (.own 112)),(4,.val (.pv (I (i3:Int))))]) (fun i3 s3=>[(112,(5,s3.map (al true)))]) (Slm_ SC) (fun i3 s3 hi h=>?_) (fun s3 h=>?_)
   ·have w:=ws_ (i:=i3) (by omega)
    refine S ?_
    refine aG cs (by omega) (fun cs=>S ?_)
    obtain⟨v18,hv18,h⟩:=rb_ h
    refine ar (f:=(al false)) hv18 SC (S ?_)
    obtain⟨v20,hv20,h⟩:=rb_ h
    refine aj [false] (ih.1 _ _ hv20) SC (S ?_)
    obtain⟨v21,hv21,h⟩:=rb_ h
    refine ar (f:=(al true)) hv21 SC (S ?_)
    obtain⟨w2,hw2,h⟩:=rb_ h
    refine EldH.mk (f:=(al true)) hw2 rfl SC (S ?_)
    have h:=rs_ h
    refine aA ⟨_,h,?_⟩
    exact Slm_ SW
   ·refine S ?_
    refine aJ cs (by omega) (fun cs=>S ?_)
    cases rs_ h
    exact ag SC
theorem tFs_{a0:Ft}{r:Ft}(h:tF_ a0=some r):Sat ah 30 [((al false) a0)] ((al true) r):=by
 obtain⟨n,hn⟩:=ls_ h
 exact(tFN_1 n).1 _ _ hn
theorem tFS_2{a0:List Ft}{r:List Ft}(h:tFS_1 a0=some r):Sat ah 66 [(.sl false 5 (a0.map (al false)))] (.sl true 5 (r.map (al true))):=by
 obtain⟨n,hn⟩:=ls_ h
 exact(tFN_1 n).2 _ _ hn

theorem tSs_{a0:Sa}  {r:Sa}(h:tS_ a0=some r):Sat ah 42 [((ao false) a0)] ((ao true) r):=by
 obtain⟨h,cs⟩:=Ro_ h
 unfold tS_ at h
 refine au (nt:=13) (rs:=[.cell 2 39]) (n:=100000) Tryz.func42 rfl rfl rfl rfl (by simp) (S ?_)
 obtain⟨v6,hv6,h⟩:=rb_ h
 refine aj [false] (tFS_2 hv6) SC (S ?_)
 obtain⟨v10,hv10,h⟩:=rb_ h
 refine aj [false] (tFS_2 hv10) SC (S ?_)
 cases rs_ h
 exact ag SC

theorem tDN_1(n:Nat):(∀ (a0:Dt) (r:Dt),tDN_ n a0=some r→Sat ah 10 [((av false) a0)] ((av true) r))∧(∀ (a0:List Dt) (r:List Dt),tDS_ n a0=some r→Sat ah 44 [(.sl false 12 (a0.map (av false)))] (.sl true 12 (r.map (av true)))):=by
 induction n with
 | zero=>exact⟨fun _ _ h=>by simp[tDN_] at h,fun _ _ h=>by simp[tDS_] at h⟩
 | succ n ih=>
  refine⟨fun a0 r h=>?_,fun a0 r h=>?_⟩
  ·obtain⟨h,cs⟩:=Ro_ h
   rw[tDN_] at h
   refine au (nt:=27) (rs:=[.cell 2 47]) (n:=100000) Tryz.func10 rfl rfl rfl rfl (by simp) (S ?_)
   obtain⟨v9,hv9,h⟩:=rb_ h
   refine aj [false] (tSs_ hv9) SC (S ?_)
   obtain⟨v16,hv16,h⟩:=rb_ h
   refine aj [false] (tTs_ hv16) SC (S ?_)
   obtain⟨v20,hv20,h⟩:=rb_ h
   refine aj [false] (tFs_ hv20) SC (S ?_)
   obtain⟨v24,hv24,h⟩:=rb_ h
   refine aj [false] (ih.2 _ _ hv24) SC (S ?_)
   cases rs_ h
   exact ag SC
  ·obtain⟨h,cs⟩:=Ro_ h
   rw[tDS_] at h
   refine au (nt:=23) (rs:=[.tmp 2]) (n:=100000) Tryz.func44 rfl rfl rfl rfl (by simp) (S ?_)
   obtain⟨n7,hn7,h⟩:=rb_ h
   refine MknH.mk hn7 (S ?_)
   refine aN (b:=false) (sz:=12) (es:=a0.map (av false)) 0 SC fun hl0=>?_; rw[aC] at hl0
   replace h:=rl_ h
   refine aI h (fun i3 s3=>[(0,.val (.pv (.sl false 12 (a0.map (av false))))),(3,.val (.own 112)),(4,.val (.pv (I (i3:Int))))]) (fun i3 s3=>[(112,(12,s3.map (av true)))]) (Slm_ SC) (fun i3 s3 hi h=>?_) (fun s3 h=>?_)
   ·have w:=ws_ (i:=i3) (by omega)
    refine S ?_
    refine aG cs (by omega) (fun cs=>S ?_)
    obtain⟨v18,hv18,h⟩:=rb_ h
    refine ar (f:=(av false)) hv18 SC (S ?_)
    obtain⟨v20,hv20,h⟩:=rb_ h
    refine aj [false] (ih.1 _ _ hv20) SC (S ?_)
    obtain⟨v21,hv21,h⟩:=rb_ h
    refine ar (f:=(av true)) hv21 SC (S ?_)
    obtain⟨w2,hw2,h⟩:=rb_ h
    refine EldH.mk (f:=(av true)) hw2 rfl SC (S ?_)
    have h:=rs_ h
    refine aA ⟨_,h,?_⟩
    exact Slm_ SW
   ·refine S ?_
    refine aJ cs (by omega) (fun cs=>S ?_)
    cases rs_ h
    exact ag SC
theorem tDs_{a0:Dt}{r:Dt}(h:tD_ a0=some r):Sat ah 10 [((av false) a0)] ((av true) r):=by
 obtain⟨n,hn⟩:=ls_ h
 exact(tDN_1 n).1 _ _ hn
theorem tDS_2{a0:List Dt}{r:List Dt}(h:tDS_1 a0=some r):Sat ah 44 [(.sl false 12 (a0.map (av false)))] (.sl true 12 (r.map (av true))):=by
 obtain⟨n,hn⟩:=ls_ h
 exact(tDN_1 n).2 _ _ hn

theorem slS_20(n:Nat):(∀ (a0:Dt) (a1:Int) (r:Int),slS_ n a0 a1=some r→Sat ah 77 [((av false) a0),(I a1)] (I r)):=by
 induction n with
 | zero=>exact fun _ _ _ h=>by simp[slS_] at h
 | succ n ih=>
  refine fun a0 a1 r h=>?_
  obtain⟨h,cs⟩:=Ro_ h
  rw[slS_] at h
  refine au (nt:=31) (rs:=[.tmp 4]) (n:=100000) Tryz.func77 rfl rfl rfl rfl (by simp) (S ?_)
  refine Mkv_ (b:=false) (sz:=12) (es:=a0.Parts.map (av false)) (x:=(.pv ((av false) a0))) 0 [5] SC fun hl0=>?_; rw[aC] at hl0
  replace h:=rl_ h
  refine aI h (fun i3 s3=>[(1,.val (.pv (I a1))),(2,.box (.pv ((av false) a0))),(5,.val (.pv (I s3))),(6,.val (.pv (I (i3:Int))))]) (fun i3 s3=>[]) (Slm_ SC) (fun i3 s3 hi h=>?_) (fun s3 h=>?_)
  ·have w:=ws_ (i:=i3) (by omega)
   refine S ?_
   refine aG cs (by omega) (fun cs=>S ?_)
   refine ai cs h (fun cs h=>S ?_) (fun cs h=>S ?_)
   ·obtain⟨v23,hv23,h⟩:=rb_ h
    refine ar (f:=(av false)) hv23 SC (S ?_)
    obtain⟨v28,hv28,h⟩:=rb_ h
    refine aj [false,false] (ih _ _ _ hv28) SC (S ?_)
    have h:=rs_ h
    refine aA ⟨_,h,?_⟩
    exact Slm_ SW
   ·cases rs_ h
    exact ag SC
  ·refine S ?_
   refine aJ cs (by omega) (fun cs=>S ?_)
   cases rs_ h
   exact ag SC
theorem slS_23{a0:Dt}{a1:Int}{r:Int}(h:slS_19 a0 a1=some r):Sat ah 77 [((av false) a0),(I a1)] (I r):=by
 obtain⟨n,hn⟩:=ls_ h
 exact(slS_20 n) _ _ _ hn

theorem slM_9(n:Nat):(∀ (a0:Ft) (a1:Int) (r:Int),slM_ n a0 a1=some r→Sat ah 104 [((al false) a0),(I a1)] (I r)):=by
 induction n with
 | zero=>exact fun _ _ _ h=>by simp[slM_] at h
 | succ n ih=>
  refine fun a0 a1 r h=>?_
  obtain⟨h,cs⟩:=Ro_ h
  rw[slM_] at h
  refine au (nt:=31) (rs:=[.tmp 4]) (n:=100000) Tryz.func104 rfl rfl rfl rfl (by simp) (S ?_)
  refine Mkv_ (b:=false) (sz:=5) (es:=a0.Parts.map (al false)) (x:=(.pv ((al false) a0))) 0 [3] SC fun hl0=>?_; rw[aC] at hl0
  replace h:=rl_ h
  refine aI h (fun i3 s3=>[(1,.val (.pv (I a1))),(2,.box (.pv ((al false) a0))),(5,.val (.pv (I s3))),(6,.val (.pv (I (i3:Int))))]) (fun i3 s3=>[]) (Slm_ SC) (fun i3 s3 hi h=>?_) (fun s3 h=>?_)
  ·have w:=ws_ (i:=i3) (by omega)
   refine S ?_
   refine aG cs (by omega) (fun cs=>S ?_)
   refine ai cs h (fun cs h=>S ?_) (fun cs h=>S ?_)
   ·obtain⟨v23,hv23,h⟩:=rb_ h
    refine ar (f:=(al false)) hv23 SC (S ?_)
    obtain⟨v28,hv28,h⟩:=rb_ h
    refine aj [false,false] (ih _ _ _ hv28) SC (S ?_)
    have h:=rs_ h
    refine aA ⟨_,h,?_⟩
    exact Slm_ SW
   ·cases rs_ h
    exact ag SC
  ·refine S ?_
   refine aJ cs (by omega) (fun cs=>S ?_)
   cases rs_ h
   exact ag SC
theorem slM_11{a0:Ft}{a1:Int}{r:Int}(h:slM_7 a0 a1=some r):Sat ah 104 [((al false) a0),(I a1)] (I r):=by
 obtain⟨n,hn⟩:=ls_ h
 exact(slM_9 n) _ _ _ hn

theorem slN_2{a0:Tt}  {r:Bool}(h:slN_3 a0=some r):Sat ah 152 [((am false) a0)] (B r):=by
 obtain⟨h,cs⟩:=Ro_ h
 unfold slN_3 at h
 refine au (nt:=12) (rs:=[.tmp 2]) (n:=100000) Tryz.func152 rfl rfl rfl rfl (by simp) (S ?_)
 refine ai cs h (fun cs h=>S ?_) (fun cs h=>S ?_)
 ·cases rs_ h
  exact ag SC
 ·cases rs_ h
  exact ag SC

theorem slM_10(n:Nat):(∀ (a0:Tt) (a1:Int) (r:Int),slM_1 n a0 a1=some r→Sat ah 187 [((am false) a0),(I a1)] (I r)):=by
 induction n with
 | zero=>exact fun _ _ _ h=>by simp[slM_1] at h
 | succ n ih=>
  refine fun a0 a1 r h=>?_
  obtain⟨h,cs⟩:=Ro_ h
  rw[slM_1] at h
  refine au (nt:=31) (rs:=[.tmp 4]) (n:=100000) Tryz.func187 rfl rfl rfl rfl (by simp) (S ?_)
  refine Mkv_ (b:=false) (sz:=2) (es:=a0.Args.map (am false)) (x:=(.pv ((am false) a0))) 0 [1] SC fun hl0=>?_; rw[aC] at hl0
  replace h:=rl_ h
  refine aI h (fun i3 s3=>[(1,.val (.pv (I a1))),(2,.box (.pv ((am false) a0))),(5,.val (.pv (I s3))),(6,.val (.pv (I (i3:Int))))]) (fun i3 s3=>[]) (Slm_ SC) (fun i3 s3 hi h=>?_) (fun s3 h=>?_)
  ·have w:=ws_ (i:=i3) (by omega)
   refine S ?_
   refine aG cs (by omega) (fun cs=>S ?_)
   refine ai cs h (fun cs h=>S ?_) (fun cs h=>S ?_)
   ·obtain⟨v23,hv23,h⟩:=rb_ h
    refine ar (f:=(am false)) hv23 SC (S ?_)
    obtain⟨v28,hv28,h⟩:=rb_ h
    refine aj [false,false] (ih _ _ _ hv28) SC (S ?_)
    have h:=rs_ h
    refine aA ⟨_,h,?_⟩
    exact Slm_ SW
   ·cases rs_ h
    exact ag SC
  ·refine S ?_
   refine aJ cs (by omega) (fun cs=>S ?_)
   cases rs_ h
   exact ag SC
theorem slM_12{a0:Tt}{a1:Int}{r:Int}(h:slM_8 a0 a1=some r):Sat ah 187 [((am false) a0),(I a1)] (I r):=by
 obtain⟨n,hn⟩:=ls_ h
 exact(slM_10 n) _ _ _ hn

theorem slM_13{a0:Int}{a1:Int}  {r:Int}(h:slM_4 a0 a1=some r):Sat ah 196 [(I a0),(I a1)] (I r):=by
 obtain⟨h,cs⟩:=Ro_ h
 unfold slM_4 at h
 refine au (nt:=10) (rs:=[.tmp 4]) (n:=100000) Tryz.func196 rfl rfl rfl rfl (by simp) (S ?_)
 refine ai cs h (fun cs h=>S ?_) (fun cs h=>S ?_)
 ·cases rs_ h
  exact ag SC
 ·cases rs_ h
  exact ag SC

theorem slD_2(n:Nat):(∀ (a0:Tt) (r:Int),slD_ n a0=some r→Sat ah 188 [((am false) a0)] (I r)):=by
 induction n with
 | zero=>exact fun _ _ h=>by simp[slD_] at h
 | succ n ih=>
  refine fun a0 r h=>?_
  obtain⟨h,cs⟩:=Ro_ h
  rw[slD_] at h
  refine au (nt:=22) (rs:=[.tmp 2]) (n:=100000) Tryz.func188 rfl rfl rfl rfl (by simp) (S ?_)
  refine Mkv_ (b:=false) (sz:=2) (es:=a0.Args.map (am false)) (x:=(.pv ((am false) a0))) 0 [1] SC fun hl0=>?_; rw[aC] at hl0
  replace h:=rl_ h
  refine aI h (fun i3 s3=>[(1,.box (.pv ((am false) a0))),(3,.val (.pv (I s3))),(4,.val (.pv (I (i3:Int))))]) (fun i3 s3=>[]) (Slm_ SC) (fun i3 s3 hi h=>?_) (fun s3 h=>?_)
  ·have w:=ws_ (i:=i3) (by omega)
   refine S ?_
   refine aG cs (by omega) (fun cs=>S ?_)
   obtain⟨v16,hv16,h⟩:=rb_ h
   refine ar (f:=(am false)) hv16 SC (S ?_)
   obtain⟨v18,hv18,h⟩:=rb_ h
   refine aj [false] (ih _ _ hv18) SC (S ?_)
   obtain⟨v19,hv19,h⟩:=rb_ h
   refine aj [false,false] (slM_13 hv19) SC (S ?_)
   have h:=rs_ h
   refine aA ⟨_,h,?_⟩
   exact Slm_ SW
  ·refine S ?_
   refine aJ cs (by omega) (fun cs=>S ?_)
   cases rs_ h
   exact ag SC
theorem slD_3{a0:Tt}{r:Int}(h:slD_1 a0=some r):Sat ah 188 [((am false) a0)] (I r):=by
 obtain⟨n,hn⟩:=ls_ h
 exact(slD_2 n) _ _ hn

theorem slF_7{a0:Tt}  {r:Bool}(h:slF_2 a0=some r):Sat ah 170 [((am false) a0)] (B r):=by
 obtain⟨h,cs⟩:=Ro_ h
 unfold slF_2 at h
 refine au (nt:=11) (rs:=[.tmp 2]) (n:=100000) Tryz.func170 rfl rfl rfl rfl (by simp) (S ?_)
 obtain⟨v4,hv4,h⟩:=rb_ h
 refine aj [false,false] (slM_12 hv4) SC (S ?_)
 refine ai cs h (fun cs h=>S ?_) (fun cs h=>S ?_)
 ·obtain⟨v8,hv8,h⟩:=rb_ h
  refine aj [false] (slD_3 hv8) SC (S ?_)
  cases rs_ h
  exact ag SC
 ·cases rs_ h
  exact ag SC

theorem slI_2{a0:Int}{a1:Int}{a2:Int}  {r:Bool}(h:slI_3 a0 a1 a2=some r):Sat ah 53 [(I a0),(I a1),(I a2)] (B r):=by
 obtain⟨h,cs⟩:=Ro_ h
 unfold slI_3 at h
 refine au (nt:=15) (rs:=[.tmp 6]) (n:=100000) Tryz.func53 rfl rfl rfl rfl (by simp) (S ?_)
 refine ai cs h (fun cs h=>S ?_) (fun cs h=>S ?_)
 ·cases rs_ h
  exact ag SC
 ·cases rs_ h
  exact ag SC

theorem slS_14{a0:Int}  {r:Bool}(h:slS_8 a0=some r):Sat ah 174 [((Ik .u8) a0)] (B r):=by
 obtain⟨h,cs⟩:=Ro_ h
 unfold slS_8 at h
 refine au (nt:=17) (rs:=[.tmp 2]) (n:=100000) Tryz.func174 rfl rfl rfl rfl (by simp) (S ?_)
 refine ai cs h (fun cs h=>S ?_) (fun cs h=>S ?_)
 ·refine ai cs h (fun cs h=>S ?_) (fun cs h=>S ?_)
  ·cases rs_ h
   exact ag SC
  ·refine ai cs h (fun cs h=>S ?_) (fun cs h=>S ?_)
   ·cases rs_ h
    exact ag SC
   ·cases rs_ h
    exact ag SC
 ·refine ai cs h (fun cs h=>S ?_) (fun cs h=>S ?_)
  ·cases rs_ h
   exact ag SC
  ·cases rs_ h
   exact ag SC

theorem slV_2{a0:ByteArray}  {r:Bool}(h:slV_ a0=some r):Sat ah 154 [(Sx a0)] (B r):=by
 obtain⟨h,cs⟩:=Ro_ h
 unfold slV_ at h
 refine au (nt:=29) (rs:=[.tmp 2]) (n:=100000) Tryz.func154 rfl rfl rfl rfl (by simp) (S ?_)
 obtain⟨v6,hv6,h⟩:=rb_ h
 refine aj [false,false,false] (slI_2 hv6) SC (S ?_)
 refine ai cs h (fun cs h=>S ?_) (fun cs h=>S ?_)
 ·obtain⟨v10,hv10,h⟩:=rb_ h
  refine bz hv10 (S ?_)
  refine ai cs h (fun cs h=>S ?_) (fun cs h=>S ?_)
  ·cases rs_ h
   exact ag SC
  ·obtain⟨v15,hv15,h⟩:=rb_ h
   refine bz hv15 (S ?_)
   refine ai cs h (fun cs h=>S ?_) (fun cs h=>S ?_)
   ·cases rs_ h
    exact ag SC
   ·obtain⟨N4,hN4,h⟩:=rb_ h
    obtain⟨hN4a,hN4b⟩:=bs_ hN4
    replace h:=rl_ h
    refine MfA_ (N:=N4) (a:=1) h (fun i4 s4=>[(0,.val (.pv (Sx a0))),(3,.val (.pv (I (i4:Int))))]) (fun i4 s4=>[]) (Slm_ SC) (fun i4 s4 hi hj h=>?_) (fun j4 s4 hj h=>?_)
    ·have w:=ws_ (i:=i4) (by omega)
     refine S ?_
     refine aG cs (by omega) (fun cs=>S ?_)
     obtain⟨v26,hv26,h⟩:=rb_ h
     refine bz hv26 (S ?_)
     obtain⟨v27,hv27,h⟩:=rb_ h
     refine aj [false] (slS_14 hv27) SC (S ?_)
     refine ai cs h (fun cs h=>S ?_) (fun cs h=>S ?_)
     ·have h:=rs_ h
      refine aA ⟨_,h,?_⟩
      exact Slm_ SW
     ·cases rs_ h
      exact ag SC
    ·refine S ?_
     refine aJ cs (by omega) (fun cs=>S ?_)
     cases rs_ h
     exact ag SC
 ·cases rs_ h
  exact ag SC

theorem slS_12{a0:ByteArray}  {r:Bool}(h:slS_7 a0=some r):Sat ah 172 [(Sx a0)] (B r):=by
 obtain⟨h,cs⟩:=Ro_ h
 unfold slS_7 at h
 refine au (nt:=45) (rs:=[.tmp 2]) (n:=100000) Tryz.func172 rfl rfl rfl rfl (by simp) (S ?_)
 obtain⟨v6,hv6,h⟩:=rb_ h
 refine aj [false,false,false] (slI_2 hv6) SC (S ?_)
 refine ai cs h (fun cs h=>S ?_) (fun cs h=>S ?_)
 ·obtain⟨v10,hv10,h⟩:=rb_ h
  refine bz hv10 (S ?_)
  refine ai cs h (fun cs h=>S ?_) (fun cs h=>S ?_)
  ·cases rs_ h
   exact ag SC
  ·obtain⟨v15,hv15,h⟩:=rb_ h
   refine bz hv15 (S ?_)
   refine ai cs h (fun cs h=>S ?_) (fun cs h=>S ?_)
   ·cases rs_ h
    exact ag SC
   ·refine ai cs h (fun cs h=>S ?_) (fun cs h=>S ?_)
    ·cases rs_ h
     exact ag SC
    ·refine ai cs h (fun cs h=>S ?_) (fun cs h=>S ?_)
     ·cases rs_ h
      exact ag SC
     ·refine ai cs h (fun cs h=>S ?_) (fun cs h=>S ?_)
      ·cases rs_ h
       exact ag SC
      ·refine ai cs h (fun cs h=>S ?_) (fun cs h=>S ?_)
       ·cases rs_ h
        exact ag SC
       ·refine ai cs h (fun cs h=>S ?_) (fun cs h=>S ?_)
        ·cases rs_ h
         exact ag SC
        ·refine ai cs h (fun cs h=>S ?_) (fun cs h=>S ?_)
         ·cases rs_ h
          exact ag SC
         ·refine ai cs h (fun cs h=>S ?_) (fun cs h=>S ?_)
          ·cases rs_ h
           exact ag SC
          ·refine ai cs h (fun cs h=>S ?_) (fun cs h=>S ?_)
           ·cases rs_ h
            exact ag SC
           ·obtain⟨N14,hN14,h⟩:=rb_ h
            obtain⟨hN14a,hN14b⟩:=bs_ hN14
            replace h:=rl_ h
            refine MfA_ (N:=N14) (a:=1) h (fun i14 s14=>[(0,.val (.pv (Sx a0))),(3,.val (.pv (I (i14:Int))))]) (fun i14 s14=>[]) (Slm_ SC) (fun i14 s14 hi hj h=>?_) (fun j14 s14 hj h=>?_)
            ·have w:=ws_ (i:=i14) (by omega)
             refine S ?_
             refine aG cs (by omega) (fun cs=>S ?_)
             obtain⟨v36,hv36,h⟩:=rb_ h
             refine bz hv36 (S ?_)
             obtain⟨v37,hv37,h⟩:=rb_ h
             refine aj [false] (slS_14 hv37) SC (S ?_)
             refine ai cs h (fun cs h=>S ?_) (fun cs h=>S ?_)
             ·have h:=rs_ h
              refine aA ⟨_,h,?_⟩
              exact Slm_ SW
             ·obtain⟨v42,hv42,h⟩:=rb_ h
              refine bz hv42 (S ?_)
              refine ai cs h (fun cs h=>S ?_) (fun cs h=>S ?_)
              ·have h:=rs_ h
               refine aA ⟨_,h,?_⟩
               exact Slm_ SW
              ·cases rs_ h
               exact ag SC
            ·refine S ?_
             refine aJ cs (by omega) (fun cs=>S ?_)
             cases rs_ h
             exact ag SC
 ·cases rs_ h
  exact ag SC

theorem slN_10(n:Nat):(∀ (a0:Tt) (r:Bool),slN_4 n a0=some r→Sat ah 171 [((am false) a0)] (B r)):=by
 induction n with
 | zero=>exact fun _ _ h=>by simp[slN_4] at h
 | succ n ih=>
  refine fun a0 r h=>?_
  obtain⟨h,cs⟩:=Ro_ h
  rw[slN_4] at h
  refine au (nt:=35) (rs:=[.tmp 2]) (n:=100000) Tryz.func171 rfl rfl rfl rfl (by simp) (S ?_)
  obtain⟨v6,hv6,h⟩:=rb_ h
  refine aj [false] (slV_2 hv6) SC (S ?_)
  refine ai cs h (fun cs h=>S ?_) (fun cs h=>S ?_)
  ·cases rs_ h
   exact ag SC
  ·obtain⟨v13,hv13,h⟩:=rb_ h
   refine aj [false] (slS_12 hv13) SC (S ?_)
   refine ai cs h (fun cs h=>S ?_) (fun cs h=>S ?_)
   ·refine ai cs h (fun cs h=>S ?_) (fun cs h=>S ?_)
    ·cases rs_ h
     exact ag SC
    ·refine aN (b:=false) (sz:=2) (es:=a0.Args.map (am false)) 17 SC fun hl17=>?_; rw[aC] at hl17
     replace h:=rl_ h
     refine aI h (fun i6 s6=>[(1,.box (.pv ((am false) a0))),(3,.val (.pv (I (i6:Int))))]) (fun i6 s6=>[]) (Slm_ SC) (fun i6 s6 hi h=>?_) (fun s6 h=>?_)
     ·have w:=ws_ (i:=i6) (by omega)
      refine S ?_
      refine aG cs (by omega) (fun cs=>S ?_)
      obtain⟨v31,hv31,h⟩:=rb_ h
      refine ar (f:=(am false)) hv31 SC (S ?_)
      obtain⟨v33,hv33,h⟩:=rb_ h
      refine aj [false] (ih _ _ hv33) SC (S ?_)
      refine ai cs h (fun cs h=>S ?_) (fun cs h=>S ?_)
      ·have h:=rs_ h
       refine aA ⟨_,h,?_⟩
       exact Slm_ SW
      ·cases rs_ h
       exact ag SC
     ·refine S ?_
      refine aJ cs (by omega) (fun cs=>S ?_)
      cases rs_ h
      exact ag SC
   ·cases rs_ h
    exact ag SC
theorem slN_8{a0:Tt}{r:Bool}(h:slN_6 a0=some r):Sat ah 171 [((am false) a0)] (B r):=by
 obtain⟨n,hn⟩:=ls_ h
 exact(slN_10 n) _ _ hn

theorem slG_5{a0:Tt}  {r:Bool}(h:slG_3 a0=some r):Sat ah 173 [((am false) a0)] (B r):=by
 obtain⟨h,cs⟩:=Ro_ h
 unfold slG_3 at h
 refine au (nt:=9) (rs:=[.tmp 2]) (n:=100000) Tryz.func173 rfl rfl rfl rfl (by simp) (S ?_)
 obtain⟨v4,hv4,h⟩:=rb_ h
 refine aj [false] (slF_7 hv4) SC (S ?_)
 refine ai cs h (fun cs h=>S ?_) (fun cs h=>S ?_)
 ·obtain⟨v7,hv7,h⟩:=rb_ h
  refine aj [false] (slN_8 hv7) SC (S ?_)
  cases rs_ h
  exact ag SC
 ·cases rs_ h
  exact ag SC

theorem slA_3{a0:Tt}  {r:Bool}(h:slA_1 a0=some r):Sat ah 153 [((am false) a0)] (B r):=by
 obtain⟨h,cs⟩:=Ro_ h
 unfold slA_1 at h
 refine au (nt:=35) (rs:=[.tmp 2]) (n:=100000) Tryz.func153 rfl rfl rfl rfl (by simp) (S ?_)
 refine ai cs h (fun cs h=>S ?_) (fun cs h=>S ?_)
 ·refine ai cs h (fun cs h=>S ?_) (fun cs h=>S ?_)
  ·obtain⟨v12,hv12,h⟩:=rb_ h
   refine aj [false] (slF_7 hv12) SC (S ?_)
   refine ai cs h (fun cs h=>S ?_) (fun cs h=>S ?_)
   ·obtain⟨v17,hv17,h⟩:=rb_ h
    refine ar (f:=(am false)) hv17 SC (S ?_)
    obtain⟨v19,hv19,h⟩:=rb_ h
    refine aj [false] (slN_8 hv19) SC (S ?_)
    refine ai cs h (fun cs h=>S ?_) (fun cs h=>S ?_)
    ·obtain⟨v24,hv24,h⟩:=rb_ h
     refine ar (f:=(am false)) hv24 SC (S ?_)
     obtain⟨v26,hv26,h⟩:=rb_ h
     refine aj [false] (slN_8 hv26) SC (S ?_)
     cases rs_ h
     exact ag SC
    ·cases rs_ h
     exact ag SC
   ·cases rs_ h
    exact ag SC
  ·cases rs_ h
   exact ag SC
 ·obtain⟨v30,hv30,h⟩:=rb_ h
  refine aj [false] (slS_12 hv30) SC (S ?_)
  refine ai cs h (fun cs h=>S ?_) (fun cs h=>S ?_)
  ·obtain⟨v33,hv33,h⟩:=rb_ h
   refine aj [false] (slG_5 hv33) SC (S ?_)
   cases rs_ h
   exact ag SC
  ·cases rs_ h
   exact ag SC

theorem slF_10{a0:Ft}  {r:Bool}(h:slF_3 a0=some r):Sat ah 133 [((al false) a0)] (B r):=by
 obtain⟨h,cs⟩:=Ro_ h
 unfold slF_3 at h
 refine au (nt:=83) (rs:=[.tmp 2]) (n:=100000) Tryz.func133 rfl rfl rfl rfl (by simp) (S ?_)
 refine ai cs h (fun cs h=>S ?_) (fun cs h=>S ?_)
 ·refine ai cs h (fun cs h=>S ?_) (fun cs h=>S ?_)
  ·obtain⟨v17,hv17,h⟩:=rb_ h
   refine aj [false] (slN_2 hv17) SC (S ?_)
   refine ai cs h (fun cs h=>S ?_) (fun cs h=>S ?_)
   ·cases rs_ h
    exact ag SC
   ·cases rs_ h
    exact ag SC
  ·cases rs_ h
   exact ag SC
 ·refine ai cs h (fun cs h=>S ?_) (fun cs h=>S ?_)
  ·refine ai cs h (fun cs h=>S ?_) (fun cs h=>S ?_)
   ·obtain⟨v17,hv17,h⟩:=rb_ h
    refine aj [false] (slN_2 hv17) SC (S ?_)
    refine ai cs h (fun cs h=>S ?_) (fun cs h=>S ?_)
    ·cases rs_ h
     exact ag SC
    ·cases rs_ h
     exact ag SC
   ·cases rs_ h
    exact ag SC
  ·refine ai cs h (fun cs h=>S ?_) (fun cs h=>S ?_)
   ·refine ai cs h (fun cs h=>S ?_) (fun cs h=>S ?_)
    ·obtain⟨v31,hv31,h⟩:=rb_ h
     refine aj [false] (slA_3 hv31) SC (S ?_)
     refine ai cs h (fun cs h=>S ?_) (fun cs h=>S ?_)
     ·cases rs_ h
      exact ag SC
     ·cases rs_ h
      exact ag SC
    ·cases rs_ h
     exact ag SC
   ·refine ai cs h (fun cs h=>S ?_) (fun cs h=>S ?_)
    ·refine ai cs h (fun cs h=>S ?_) (fun cs h=>S ?_)
     ·obtain⟨v45,hv45,h⟩:=rb_ h
      refine aj [false] (slN_2 hv45) SC (S ?_)
      refine ai cs h (fun cs h=>S ?_) (fun cs h=>S ?_)
      ·cases rs_ h
       exact ag SC
      ·cases rs_ h
       exact ag SC
     ·cases rs_ h
      exact ag SC
    ·refine ai cs h (fun cs h=>S ?_) (fun cs h=>S ?_)
     ·refine ai cs h (fun cs h=>S ?_) (fun cs h=>S ?_)
      ·obtain⟨v61,hv61,h⟩:=rb_ h
       refine aj [false] (slN_2 hv61) SC (S ?_)
       refine ai cs h (fun cs h=>S ?_) (fun cs h=>S ?_)
       ·cases rs_ h
        exact ag SC
       ·cases rs_ h
        exact ag SC
      ·cases rs_ h
       exact ag SC
     ·refine ai cs h (fun cs h=>S ?_) (fun cs h=>S ?_)
      ·refine ai cs h (fun cs h=>S ?_) (fun cs h=>S ?_)
       ·obtain⟨v61,hv61,h⟩:=rb_ h
        refine aj [false] (slN_2 hv61) SC (S ?_)
        refine ai cs h (fun cs h=>S ?_) (fun cs h=>S ?_)
        ·cases rs_ h
         exact ag SC
        ·cases rs_ h
         exact ag SC
       ·cases rs_ h
        exact ag SC
      ·refine ai cs h (fun cs h=>S ?_) (fun cs h=>S ?_)
       ·refine ai cs h (fun cs h=>S ?_) (fun cs h=>S ?_)
        ·obtain⟨v61,hv61,h⟩:=rb_ h
         refine aj [false] (slN_2 hv61) SC (S ?_)
         refine ai cs h (fun cs h=>S ?_) (fun cs h=>S ?_)
         ·cases rs_ h
          exact ag SC
         ·cases rs_ h
          exact ag SC
        ·cases rs_ h
         exact ag SC
       ·refine ai cs h (fun cs h=>S ?_) (fun cs h=>S ?_)
        ·refine ai cs h (fun cs h=>S ?_) (fun cs h=>S ?_)
         ·obtain⟨v76,hv76,h⟩:=rb_ h
          refine aj [false] (slN_2 hv76) SC (S ?_)
          refine ai cs h (fun cs h=>S ?_) (fun cs h=>S ?_)
          ·obtain⟨v81,hv81,h⟩:=rb_ h
           refine aj [false] (slV_2 hv81) SC (S ?_)
           cases rs_ h
           exact ag SC
          ·cases rs_ h
           exact ag SC
         ·cases rs_ h
          exact ag SC
        ·refine ai cs h (fun cs h=>S ?_) (fun cs h=>S ?_)
         ·refine ai cs h (fun cs h=>S ?_) (fun cs h=>S ?_)
          ·obtain⟨v76,hv76,h⟩:=rb_ h
           refine aj [false] (slN_2 hv76) SC (S ?_)
           refine ai cs h (fun cs h=>S ?_) (fun cs h=>S ?_)
           ·obtain⟨v81,hv81,h⟩:=rb_ h
            refine aj [false] (slV_2 hv81) SC (S ?_)
            cases rs_ h
            exact ag SC
           ·cases rs_ h
            exact ag SC
          ·cases rs_ h
           exact ag SC
         ·cases rs_ h
          exact ag SC

theorem slF_8(n:Nat):(∀ (a0:Ft) (r:Bool),slF_ n a0=some r→Sat ah 105 [((al false) a0)] (B r)):=by
 induction n with
 | zero=>exact fun _ _ h=>by simp[slF_] at h
 | succ n ih=>
  refine fun a0 r h=>?_
  obtain⟨h,cs⟩:=Ro_ h
  rw[slF_] at h
  refine au (nt:=21) (rs:=[.tmp 2]) (n:=100000) Tryz.func105 rfl rfl rfl rfl (by simp) (S ?_)
  obtain⟨v5,hv5,h⟩:=rb_ h
  refine aj [false] (slF_10 hv5) SC (S ?_)
  refine ai cs h (fun cs h=>S ?_) (fun cs h=>S ?_)
  ·refine Mkv_ (b:=false) (sz:=5) (es:=a0.Parts.map (al false)) (x:=(.pv ((al false) a0))) 0 [3] SC fun hl0=>?_; rw[aC] at hl0
   replace h:=rl_ h
   refine aI h (fun i4 s4=>[(1,.box (.pv ((al false) a0))),(3,.val (.pv (I (i4:Int))))]) (fun i4 s4=>[]) (Slm_ SC) (fun i4 s4 hi h=>?_) (fun s4 h=>?_)
   ·have w:=ws_ (i:=i4) (by omega)
    refine S ?_
    refine aG cs (by omega) (fun cs=>S ?_)
    obtain⟨v17,hv17,h⟩:=rb_ h
    refine ar (f:=(al false)) hv17 SC (S ?_)
    obtain⟨v19,hv19,h⟩:=rb_ h
    refine aj [false] (ih _ _ hv19) SC (S ?_)
    refine ai cs h (fun cs h=>S ?_) (fun cs h=>S ?_)
    ·have h:=rs_ h
     refine aA ⟨_,h,?_⟩
     exact Slm_ SW
    ·cases rs_ h
     exact ag SC
   ·refine S ?_
    refine aJ cs (by omega) (fun cs=>S ?_)
    cases rs_ h
    exact ag SC
  ·cases rs_ h
   exact ag SC
theorem slF_9{a0:Ft}{r:Bool}(h:slF_6 a0=some r):Sat ah 105 [((al false) a0)] (B r):=by
 obtain⟨n,hn⟩:=ls_ h
 exact(slF_8 n) _ _ hn

theorem slG_4{a0:Ft}  {r:Bool}(h:slG_2 a0=some r):Sat ah 64 [((al false) a0)] (B r):=by
 obtain⟨h,cs⟩:=Ro_ h
 unfold slG_2 at h
 refine au (nt:=10) (rs:=[.tmp 2]) (n:=100000) Tryz.func64 rfl rfl rfl rfl (by simp) (S ?_)
 obtain⟨v4,hv4,h⟩:=rb_ h
 refine aj [false,false] (slM_11 hv4) SC (S ?_)
 refine ai cs h (fun cs h=>S ?_) (fun cs h=>S ?_)
 ·obtain⟨v8,hv8,h⟩:=rb_ h
  refine aj [false] (slF_9 hv8) SC (S ?_)
  cases rs_ h
  exact ag SC
 ·cases rs_ h
  exact ag SC

theorem slS_16{a0:List Ft}  {r:Bool}(h:slS_10 a0=some r):Sat ah 122 [(.sl false 5 (a0.map (al false)))] (B r):=by
 obtain⟨h,cs⟩:=Ro_ h
 unfold slS_10 at h
 refine au (nt:=23) (rs:=[.tmp 2]) (n:=100000) Tryz.func122 rfl rfl rfl rfl (by simp) (S ?_)
 refine aN (b:=false) (sz:=5) (es:=a0.map (al false)) 0 SC fun hl0=>?_; rw[aC] at hl0
 replace h:=rl_ h
 refine aI h (fun i2 s2=>[(0,.val (.pv (.sl false 5 (a0.map (al false))))),(3,.val (.pv (I (i2:Int))))]) (fun i2 s2=>[]) (Slm_ SC) (fun i2 s2 hi h=>?_) (fun s2 h=>?_)
 ·have w:=ws_ (i:=i2) (by omega)
  refine S ?_
  refine aG cs (by omega) (fun cs=>S ?_)
  refine ai cs h (fun cs h=>S ?_) (fun cs h=>S ?_)
  ·obtain⟨v16,hv16,h⟩:=rb_ h
   refine ar (f:=(al false)) hv16 SC (S ?_)
   obtain⟨v18,hv18,h⟩:=rb_ h
   refine aj [false] (slG_4 hv18) SC (S ?_)
   refine ai cs h (fun cs h=>S ?_) (fun cs h=>S ?_)
   ·have h:=rs_ h
    refine aA ⟨_,h,?_⟩
    exact Slm_ SW
   ·cases rs_ h
    exact ag SC
  ·cases rs_ h
   exact ag SC
 ·refine S ?_
  refine aJ cs (by omega) (fun cs=>S ?_)
  cases rs_ h
  exact ag SC

theorem slG_1{a0:Sa}  {r:Bool}(h:slG_ a0=some r):Sat ah 94 [((ao false) a0)] (B r):=by
 obtain⟨h,cs⟩:=Ro_ h
 unfold slG_ at h
 refine au (nt:=11) (rs:=[.tmp 2]) (n:=100000) Tryz.func94 rfl rfl rfl rfl (by simp) (S ?_)
 obtain⟨v5,hv5,h⟩:=rb_ h
 refine aj [false] (slS_16 hv5) SC (S ?_)
 refine ai cs h (fun cs h=>S ?_) (fun cs h=>S ?_)
 ·obtain⟨v9,hv9,h⟩:=rb_ h
  refine aj [false] (slS_16 hv9) SC (S ?_)
  cases rs_ h
  exact ag SC
 ·cases rs_ h
  exact ag SC

theorem slS_22(n:Nat):(∀ (a0:Tt) (a1:Tt) (r:Bool),slS_3 n a0 a1=some r→Sat ah 147 [((am false) a0),((am false) a1)] (B r)):=by
 induction n with
 | zero=>exact fun _ _ _ h=>by simp[slS_3] at h
 | succ n ih=>
  refine fun a0 a1 r h=>?_
  obtain⟨h,cs⟩:=Ro_ h
  rw[slS_3] at h
  refine au (nt:=39) (rs:=[.tmp 4]) (n:=100000) Tryz.func147 rfl rfl rfl rfl (by simp) (S ?_)
  refine ai cs h (fun cs h=>S ?_) (fun cs h=>S ?_)
  ·refine ai cs h (fun cs h=>S ?_) (fun cs h=>S ?_)
   ·refine aN (b:=false) (sz:=2) (es:=a0.Args.map (am false)) 13 SC fun hl13=>?_; rw[aC] at hl13
    replace h:=rl_ h
    refine aI h (fun i4 s4=>[(2,.box (.pv ((am false) a0))),(3,.box (.pv ((am false) a1))),(5,.val (.pv (I (i4:Int))))]) (fun i4 s4=>[]) (Slm_ SC) (fun i4 s4 hi h=>?_) (fun s4 h=>?_)
    ·have w:=ws_ (i:=i4) (by omega)
     refine S ?_
     refine aG cs (by omega) (fun cs=>S ?_)
     obtain⟨v30,hv30,h⟩:=rb_ h
     refine ar (f:=(am false)) hv30 SC (S ?_)
     obtain⟨v35,hv35,h⟩:=rb_ h
     refine ar (f:=(am false)) hv35 SC (S ?_)
     obtain⟨v37,hv37,h⟩:=rb_ h
     refine aj [false,false] (ih _ _ _ hv37) SC (S ?_)
     refine ae (DHa_ [] []) (S ?_)
     refine ai cs h (fun cs h=>S ?_) (fun cs h=>S ?_)
     ·have h:=rs_ h
      refine aA ⟨_,h,?_⟩
      exact Slm_ SW
     ·cases rs_ h
      exact ag SC
    ·refine S ?_
     refine aJ cs (by omega) (fun cs=>S ?_)
     cases rs_ h
     exact ag SC
   ·cases rs_ h
    exact ag SC
  ·cases rs_ h
   exact ag SC
theorem slS_18{a0:Tt}{a1:Tt}{r:Bool}(h:slS_13 a0 a1=some r):Sat ah 147 [((am false) a0),((am false) a1)] (B r):=by
 obtain⟨n,hn⟩:=ls_ h
 exact(slS_22 n) _ _ _ hn

theorem slS_21(n:Nat):(∀ (a0:Ft) (a1:Ft) (r:Bool),slS_2 n a0 a1=some r→Sat ah 120 [((al false) a0),((al false) a1)] (B r)):=by
 induction n with
 | zero=>exact fun _ _ _ h=>by simp[slS_2] at h
 | succ n ih=>
  refine fun a0 a1 r h=>?_
  obtain⟨h,cs⟩:=Ro_ h
  rw[slS_2] at h
  refine au (nt:=54) (rs:=[.tmp 4]) (n:=100000) Tryz.func120 rfl rfl rfl rfl (by simp) (S ?_)
  refine ai cs h (fun cs h=>S ?_) (fun cs h=>S ?_)
  ·refine ai cs h (fun cs h=>S ?_) (fun cs h=>S ?_)
   ·obtain⟨v23,hv23,h⟩:=rb_ h
    refine aj [false,false] (slS_18 hv23) SC (S ?_)
    refine ai cs h (fun cs h=>S ?_) (fun cs h=>S ?_)
    ·refine ai cs h (fun cs h=>S ?_) (fun cs h=>S ?_)
     ·refine aN (b:=false) (sz:=5) (es:=a0.Parts.map (al false)) 28 SC fun hl28=>?_; rw[aC] at hl28
      replace h:=rl_ h
      refine aI h (fun i4 s4=>[(2,.box (.pv ((al false) a0))),(3,.box (.pv ((al false) a1))),(5,.val (.pv (I (i4:Int))))]) (fun i4 s4=>[]) (Slm_ SC) (fun i4 s4 hi h=>?_) (fun s4 h=>?_)
      ·have w:=ws_ (i:=i4) (by omega)
       refine S ?_
       refine aG cs (by omega) (fun cs=>S ?_)
       obtain⟨v45,hv45,h⟩:=rb_ h
       refine ar (f:=(al false)) hv45 SC (S ?_)
       obtain⟨v50,hv50,h⟩:=rb_ h
       refine ar (f:=(al false)) hv50 SC (S ?_)
       obtain⟨v52,hv52,h⟩:=rb_ h
       refine aj [false,false] (ih _ _ _ hv52) SC (S ?_)
       refine ae (DHa_ [] []) (S ?_)
       refine ai cs h (fun cs h=>S ?_) (fun cs h=>S ?_)
       ·have h:=rs_ h
        refine aA ⟨_,h,?_⟩
        exact Slm_ SW
       ·cases rs_ h
        exact ag SC
      ·refine S ?_
       refine aJ cs (by omega) (fun cs=>S ?_)
       cases rs_ h
       exact ag SC
     ·cases rs_ h
      exact ag SC
    ·cases rs_ h
     exact ag SC
   ·cases rs_ h
    exact ag SC
  ·cases rs_ h
   exact ag SC
theorem slS_5{a0:Ft}{a1:Ft}{r:Bool}(h:slS_4 a0 a1=some r):Sat ah 120 [((al false) a0),((al false) a1)] (B r):=by
 obtain⟨n,hn⟩:=ls_ h
 exact(slS_21 n) _ _ _ hn

theorem slO_12(n:Nat):(∀ (a0:Tt) (r:Tt),slO_5 n a0=some r→Sat ah 106 [((am false) a0)] ((am true) r)):=by
 induction n with
 | zero=>exact fun _ _ h=>by simp[slO_5] at h
 | succ n ih=>
  refine fun a0 r h=>?_
  obtain⟨h,cs⟩:=Ro_ h
  rw[slO_5] at h
  refine au (nt:=27) (rs:=[.cell 2 42]) (n:=100000) Tryz.func106 rfl rfl rfl rfl (by simp) (S ?_)
  refine Mkv_ (b:=false) (sz:=2) (es:=a0.Args.map (am false)) (x:=(.pv ((am false) a0))) 0 [1] SC fun hl0=>?_; rw[aC] at hl0
  replace h:=rl_ h
  refine aI h (fun i3 s3=>[(1,.box (.pv ((am false) a0))),(2,.box (.node [(.pv (Sx (⟨#[]⟩:ByteArray))),(.pv (.sl true 2 []))])),(3,.box (.node [(.pv (Sx a0.Name)),(.own 9309)])),(4,.val (.pv (I (i3:Int))))]) (fun i3 s3=>[(9309,(2,s3.map (am true)))]) (aT (Sln_ (x:=(.node [(.pv (Sx a0.Name)),(.pv (.sl true 2 []))])) 3 [1] 9309 2 NM SC SC SC) (Slm_ SC)) (fun i3 s3 hi h=>?_) (fun s3 h=>?_)
  ·have w:=ws_ (i:=i3) (by omega)
   refine S ?_
   refine aG cs (by omega) (fun cs=>S ?_)
   obtain⟨v20,hv20,h⟩:=rb_ h
   refine ar (f:=(am false)) hv20 SC (S ?_)
   obtain⟨v22,hv22,h⟩:=rb_ h
   refine aj [false] (ih _ _ hv22) SC (S ?_)
   obtain⟨v24,hv24,h⟩:=rb_ h
   refine aQ (f:=(am true)) (fun a=>Tt.psize _ a) hv24 SC SC (S ?_)
   refine ae (DHa_ [] [352,368,384]) (S ?_)
   have h:=rs_ h
   refine aA ⟨_,h,?_⟩
   refine aT (Slm_1 (S:=[(1,.box (.pv ((am false) a0))),(2,.box (.node [(.pv (Sx (⟨#[]⟩:ByteArray))),(.pv (.sl true 2 []))])),(3,.box (.node [(.pv (Sx a0.Name)),(.own 384)])),(4,.val (.pv (I (IntKind.i64.wrap ((i3:Int)+(1:Int))))))]) (O:=[(384,(2,v24.map (am true)))]) SW SW) ?_
   refine Slr_ 384 9309 (by decide) NM ?_
   exact Slm_ SW
  ·refine S ?_
   refine aJ cs (by omega) (fun cs=>S ?_)
   cases rs_ h
   exact ag SC
theorem slO_7{a0:Tt}{r:Tt}(h:slO_9 a0=some r):Sat ah 106 [((am false) a0)] ((am true) r):=by
 obtain⟨n,hn⟩:=ls_ h
 exact(slO_12 n) _ _ hn

theorem slO_11(n:Nat):(∀ (a0:Ft) (r:Ft),slO_4 n a0=some r→Sat ah 107 [((al false) a0)] ((al true) r)):=by
 induction n with
 | zero=>exact fun _ _ h=>by simp[slO_4] at h
 | succ n ih=>
  refine fun a0 r h=>?_
  obtain⟨h,cs⟩:=Ro_ h
  rw[slO_4] at h
  refine au (nt:=32) (rs:=[.cell 2 44]) (n:=100000) Tryz.func107 rfl rfl rfl rfl (by simp) (S ?_)
  obtain⟨v9,hv9,h⟩:=rb_ h
  refine aj [false] (slO_7 hv9) SC (S ?_)
  refine ae (DHa_ [3] [144]) (S ?_)
  refine Mkv_ (b:=false) (sz:=5) (es:=a0.Parts.map (al false)) (x:=(.pv ((al false) a0))) 0 [3] SC fun hl0=>?_; rw[aC] at hl0
  replace h:=rl_ h
  refine aI h (fun i3 s3=>[(1,.box (.pv ((al false) a0))),(2,.box (.node [(.pv (I (0:Int))),(.node [(.pv (Sx (⟨#[]⟩:ByteArray))),(.pv (.sl true 2 []))]),(.pv (Sx (⟨#[]⟩:ByteArray))),(.pv (.sl true 5 []))])),(3,.box (.node [(.pv (I a0.Op)),(.node [(.pv (Sx v9.Name)),(.own 144)]),(.pv (Sx a0.Var)),(.own 9309)])),(4,.val (.pv (I (i3:Int))))]) (fun i3 s3=>[(144,(2,v9.Args.map (am true))),(9309,(5,s3.map (al true)))]) (aT (Sln_ (x:=(.node [(.pv (I a0.Op)),(.node [(.pv (Sx v9.Name)),(.own 144)]),(.pv (Sx a0.Var)),(.pv (.sl true 5 []))])) 3 [3] 9309 5 NM SC SC SC) (Slm_ SC)) (fun i3 s3 hi h=>?_) (fun s3 h=>?_)
  ·have w:=ws_ (i:=i3) (by omega)
   refine S ?_
   refine aG cs (by omega) (fun cs=>S ?_)
   obtain⟨v25,hv25,h⟩:=rb_ h
   refine ar (f:=(al false)) hv25 SC (S ?_)
   obtain⟨v27,hv27,h⟩:=rb_ h
   refine aj [false] (ih _ _ hv27) SC (S ?_)
   obtain⟨v29,hv29,h⟩:=rb_ h
   refine aQ (f:=(al true)) (fun a=>Ft.psize _ a) hv29 SC SC (S ?_)
   refine ae (DHa_ [] [432,433,448,464]) (S ?_)
   have h:=rs_ h
   refine aA ⟨_,h,?_⟩
   refine aT (Slm_1 (S:=[(1,.box (.pv ((al false) a0))),(2,.box (.node [(.pv (I (0:Int))),(.node [(.pv (Sx (⟨#[]⟩:ByteArray))),(.pv (.sl true 2 []))]),(.pv (Sx (⟨#[]⟩:ByteArray))),(.pv (.sl true 5 []))])),(3,.box (.node [(.pv (I a0.Op)),(.node [(.pv (Sx v9.Name)),(.own 144)]),(.pv (Sx a0.Var)),(.own 464)])),(4,.val (.pv (I (IntKind.i64.wrap ((i3:Int)+(1:Int))))))]) (O:=[(144,(2,v9.Args.map (am true))),(464,(5,v29.map (al true)))]) SW SW) ?_
   refine Slr_ 464 9309 (by decide) NM ?_
   exact Slm_ SW
  ·refine S ?_
   refine aJ cs (by omega) (fun cs=>S ?_)
   cases rs_ h
   exact ag SC
theorem slO_2{a0:Ft}{r:Ft}(h:slO_3 a0=some r):Sat ah 107 [((al false) a0)] ((al true) r):=by
 obtain⟨n,hn⟩:=ls_ h
 exact(slO_11 n) _ _ hn

theorem slC_1{a0:List Ft}{a1:Int}{a2:List Ft}  {r:List Ft}(h:slC_ a0 a1 a2=some r):Sat ah 93 [(.sl false 5 (a0.map (al false))),(I a1),(.sl false 5 (a2.map (al false)))] (.sl true 5 (r.map (al true))):=by
 obtain⟨h,cs⟩:=Ro_ h
 unfold slC_ at h
 refine au (nt:=43) (rs:=[.tmp 6]) (n:=100000) Tryz.func93 rfl rfl rfl rfl (by simp) (S ?_)
 refine aN (b:=false) (sz:=5) (es:=a0.map (al false)) 0 SC fun hl0=>?_; rw[aC] at hl0
 replace h:=rl_ h
 refine aI h (fun i3 s3=>[(0,.val (.pv (.sl false 5 (a0.map (al false))))),(1,.val (.pv (I a1))),(2,.val (.pv (.sl false 5 (a2.map (al false))))),(7,.val (.own 160)),(8,.val (.pv (I (i3:Int))))]) (fun i3 s3=>[(160,(5,s3.map (al true)))]) (Slm_ SC) (fun i3 s3 hi h=>?_) (fun s3 h=>?_)
 ·have w:=ws_ (i:=i3) (by omega)
  refine S ?_
  refine aG cs (by omega) (fun cs=>S ?_)
  refine ai cs h (fun cs h=>S ?_) (fun cs h=>S ?_)
  ·have h:=rs_ h
   refine aA ⟨_,h,?_⟩
   exact Slm_ SW
  ·obtain⟨v23,hv23,h⟩:=rb_ h
   refine ar (f:=(al false)) hv23 SC (S ?_)
   obtain⟨v25,hv25,h⟩:=rb_ h
   refine aj [false] (slO_2 hv25) SC (S ?_)
   obtain⟨v27,hv27,h⟩:=rb_ h
   refine aQ (f:=(al true)) (fun a=>Ft.psize _ a) hv27 SC SC (S ?_)
   have h:=rs_ h
   refine aA ⟨_,h,?_⟩
   refine aT (Slm_1 (S:=[(0,.val (.pv (.sl false 5 (a0.map (al false))))),(1,.val (.pv (I a1))),(2,.val (.pv (.sl false 5 (a2.map (al false))))),(7,.val (.own 432)),(8,.val (.pv (I (IntKind.i64.wrap ((i3:Int)+(1:Int))))))]) (O:=[(432,(5,v27.map (al true)))]) SW SW) ?_
   refine Slr_ 432 160 (by decide) NM ?_
   exact Slm_ SW
 ·refine S ?_
  refine aJ cs (by omega) (fun cs=>S ?_)
  refine aN (b:=false) (sz:=5) (es:=a2.map (al false)) 2 SC fun hl2=>?_; rw[aC] at hl2
  replace h:=rl_ h
  refine aI h (fun i8 s8=>[(2,.val (.pv (.sl false 5 (a2.map (al false))))),(7,.val (.own 160)),(9,.val (.pv (I (i8:Int))))]) (fun i8 s8=>[(160,(5,s8.map (al true)))]) (Slm_ SC) (fun i8 s8 hi h=>?_) (fun s8 h=>?_)
  ·have w:=ws_ (i:=i8) (by omega)
   refine S ?_
   refine aG cs (by omega) (fun cs=>S ?_)
   obtain⟨v37,hv37,h⟩:=rb_ h
   refine ar (f:=(al false)) hv37 SC (S ?_)
   obtain⟨v39,hv39,h⟩:=rb_ h
   refine aj [false] (slO_2 hv39) SC (S ?_)
   obtain⟨v41,hv41,h⟩:=rb_ h
   refine aQ (f:=(al true)) (fun a=>Ft.psize _ a) hv41 SC SC (S ?_)
   have h:=rs_ h
   refine aA ⟨_,h,?_⟩
   refine aT (Slm_1 (S:=[(2,.val (.pv (.sl false 5 (a2.map (al false))))),(7,.val (.own 656)),(9,.val (.pv (I (IntKind.i64.wrap ((i8:Int)+(1:Int))))))]) (O:=[(656,(5,v41.map (al true)))]) SW SW) ?_
   refine Slr_ 656 160 (by decide) NM ?_
   exact Slm_ SW
  ·refine S ?_
   refine aJ cs (by omega) (fun cs=>S ?_)
   cases rs_ h
   exact ag SC

theorem slN_{a0:Sa}{a1:Int}{a2:List Ft}{a3:Int}{a4:List Ft}  {r:Sa}(h:slN_1 a0 a1 a2 a3 a4=some r):Sat ah 108 [((ao false) a0),(I a1),(.sl false 5 (a2.map (al false))),(I a3),(.sl false 5 (a4.map (al false)))] ((ao true) r):=by
 obtain⟨h,cs⟩:=Ro_ h
 unfold slN_1 at h
 refine au (nt:=22) (rs:=[.cell 10 39]) (n:=100000) Tryz.func108 rfl rfl rfl rfl (by simp) (S ?_)
 obtain⟨v15,hv15,h⟩:=rb_ h
 refine aj [false,false,false] (slC_1 hv15) SC (S ?_)
 obtain⟨v20,hv20,h⟩:=rb_ h
 refine aj [false,false,false] (slC_1 hv20) SC (S ?_)
 refine ae (DHa_ [] [240,320]) (S ?_)
 cases rs_ h
 exact ag SC

theorem slO_6{a0:Int}  {r:Bool}(h:slO_ a0=some r):Sat ah 109 [(I a0)] (B r):=by
 obtain⟨h,cs⟩:=Ro_ h
 unfold slO_ at h
 refine au (nt:=12) (rs:=[.tmp 2]) (n:=100000) Tryz.func109 rfl rfl rfl rfl (by simp) (S ?_)
 refine ai cs h (fun cs h=>S ?_) (fun cs h=>S ?_)
 ·cases rs_ h
  exact ag SC
 ·refine ai cs h (fun cs h=>S ?_) (fun cs h=>S ?_)
  ·cases rs_ h
   exact ag SC
  ·refine ai cs h (fun cs h=>S ?_) (fun cs h=>S ?_)
   ·cases rs_ h
    exact ag SC
   ·refine ai cs h (fun cs h=>S ?_) (fun cs h=>S ?_)
    ·cases rs_ h
     exact ag SC
    ·refine ai cs h (fun cs h=>S ?_) (fun cs h=>S ?_)
     ·cases rs_ h
      exact ag SC
     ·refine ai cs h (fun cs h=>S ?_) (fun cs h=>S ?_)
      ·cases rs_ h
       exact ag SC
      ·refine ai cs h (fun cs h=>S ?_) (fun cs h=>S ?_)
       ·cases rs_ h
        exact ag SC
       ·cases rs_ h
        exact ag SC

theorem slH_1{a0:List Ft}{a1:Ft}  {r:Bool}(h:slH_ a0 a1=some r):Sat ah 182 [(.sl false 5 (a0.map (al false))),((al false) a1)] (B r):=by
 obtain⟨h,cs⟩:=Ro_ h
 unfold slH_ at h
 refine au (nt:=18) (rs:=[.tmp 4]) (n:=100000) Tryz.func182 rfl rfl rfl rfl (by simp) (S ?_)
 refine aN (b:=false) (sz:=5) (es:=a0.map (al false)) 0 SC fun hl0=>?_; rw[aC] at hl0
 replace h:=rl_ h
 refine aI h (fun i2 s2=>[(0,.val (.pv (.sl false 5 (a0.map (al false))))),(3,.box (.pv ((al false) a1))),(5,.val (.pv (I (i2:Int))))]) (fun i2 s2=>[]) (Slm_ SC) (fun i2 s2 hi h=>?_) (fun s2 h=>?_)
 ·have w:=ws_ (i:=i2) (by omega)
  refine S ?_
  refine aG cs (by omega) (fun cs=>S ?_)
  obtain⟨v14,hv14,h⟩:=rb_ h
  refine ar (f:=(al false)) hv14 SC (S ?_)
  obtain⟨v17,hv17,h⟩:=rb_ h
  refine aj [false,false] (slS_5 hv17) SC (S ?_)
  refine ae (DHa_ [] []) (S ?_)
  refine ai cs h (fun cs h=>S ?_) (fun cs h=>S ?_)
  ·cases rs_ h
   exact ag SC
  ·have h:=rs_ h
   refine aA ⟨_,h,?_⟩
   exact Slm_ SW
 ·refine S ?_
  refine aJ cs (by omega) (fun cs=>S ?_)
  cases rs_ h
  exact ag SC

theorem slO_8{a0:Int}  {r:Int}(h:slO_1 a0=some r):Sat ah 183 [(I a0)] (I r):=by
 obtain⟨h,cs⟩:=Ro_ h
 unfold slO_1 at h
 refine au (nt:=24) (rs:=[.tmp 2]) (n:=100000) Tryz.func183 rfl rfl rfl rfl (by simp) (S ?_)
 refine ai cs h (fun cs h=>S ?_) (fun cs h=>S ?_)
 ·cases rs_ h
  exact ag SC
 ·refine ai cs h (fun cs h=>S ?_) (fun cs h=>S ?_)
  ·cases rs_ h
   exact ag SC
  ·refine ai cs h (fun cs h=>S ?_) (fun cs h=>S ?_)
   ·cases rs_ h
    exact ag SC
   ·refine ai cs h (fun cs h=>S ?_) (fun cs h=>S ?_)
    ·cases rs_ h
     exact ag SC
    ·refine ai cs h (fun cs h=>S ?_) (fun cs h=>S ?_)
     ·cases rs_ h
      exact ag SC
     ·refine ai cs h (fun cs h=>S ?_) (fun cs h=>S ?_)
      ·cases rs_ h
       exact ag SC
      ·refine ai cs h (fun cs h=>S ?_) (fun cs h=>S ?_)
       ·cases rs_ h
        exact ag SC
       ·refine ai cs h (fun cs h=>S ?_) (fun cs h=>S ?_)
        ·cases rs_ h
         exact ag SC
        ·refine ai cs h (fun cs h=>S ?_) (fun cs h=>S ?_)
         ·cases rs_ h
          exact ag SC
         ·refine ai cs h (fun cs h=>S ?_) (fun cs h=>S ?_)
          ·cases rs_ h
           exact ag SC
          ·refine ai cs h (fun cs h=>S ?_) (fun cs h=>S ?_)
           ·cases rs_ h
            exact ag SC
           ·refine ai cs h (fun cs h=>S ?_) (fun cs h=>S ?_)
            ·cases rs_ h
             exact ag SC
            ·refine ai cs h (fun cs h=>S ?_) (fun cs h=>S ?_)
             ·cases rs_ h
              exact ag SC
             ·cases rs_ h
              exact ag SC

theorem slP_13{a0:Sb}{a1:ByteArray}{a2:Tt}  {r:Sb}(h:slP_7 a0 a1 a2=some r):Sat ah 198 [((Sb.pv false) a0),(Sx a1),((am false) a2)] ((Sb.pv false) r):=by
 obtain⟨h,cs⟩:=Ro_ h
 unfold slP_7 at h
 refine au (nt:=51) (rs:=[.cell 6 181]) (n:=100000) Tryz.func198 rfl rfl rfl rfl (by simp) (S ?_)
 refine ai cs h (fun cs h=>S ?_) (fun cs h=>S ?_)
 ·cases rs_ h
  exact aL SC
 ·refine Mkv_ (b:=false) (sz:=3) (es:=a0.Bindings.map (Bt.pv false)) (x:=(.pv ((Sb.pv false) a0))) 0 [0] SC fun hl0=>?_; rw[aC] at hl0
  replace h:=rl_ h
  refine aI h (fun i4 s4=>[(1,.val (.pv (Sx a1))),(3,.box (.pv ((Sb.pv false) a0))),(5,.box (.pv ((am false) a2))),(6,.box (.node [(.pv (.sl true 3 []))])),(7,.val (.pv (I (i4:Int))))]) (fun i4 s4=>[]) (Slm_ SC) (fun i4 s4 hi h=>?_) (fun s4 h=>?_)
  ·have w:=ws_ (i:=i4) (by omega)
   refine S ?_
   refine aG cs (by omega) (fun cs=>S ?_)
   obtain⟨v23,hv23,h⟩:=rb_ h
   refine ar (f:=(Bt.pv false)) hv23 SC (S ?_)
   refine ai cs h (fun cs h=>S ?_) (fun cs h=>S ?_)
   ·have h:=rs_ h
    refine aA ⟨_,h,?_⟩
    exact Slm_ SW
   ·obtain⟨v35,hv35,h⟩:=rb_ h
    refine SlcH.mk (f:=(Bt.pv false)) hv35 SC (S ?_)
    obtain⟨v36,hv36,h⟩:=rb_ h
    refine aQ (f:=(Bt.pv false)) (fun a=>Bt.psize _ a) hv36 SC SC (S ?_)
    obtain⟨v40,hv40,h⟩:=rb_ h
    refine aj [false] (SvO_ (res':=((am false) v40)) (slO_7 hv40) (by simp only[vt_,vs_,va_,vl_,aF,RB,RS])) SC (S ?_)
    obtain⟨v43,hv43,h⟩:=rb_ h
    refine aQ (f:=(Bt.pv false)) (fun a=>Bt.psize _ a) hv43 SC SC (S ?_)
    obtain⟨v48,hv48,h⟩:=rb_ h
    refine SlcH.mk (f:=(Bt.pv false)) hv48 SC (S ?_)
    obtain⟨v49,hv49,h⟩:=rb_ h
    refine aQ (f:=(Bt.pv false)) (fun a=>Bt.psize _ a) hv49 SC SC (S ?_)
    cases rs_ h
    exact aL SC
  ·refine S ?_
   refine aJ cs (by omega) (fun cs=>S ?_)
   obtain⟨v35,hv35,h⟩:=rb_ h
   refine SlcH.mk (f:=(Bt.pv false)) hv35 SC (S ?_)
   obtain⟨v36,hv36,h⟩:=rb_ h
   refine aQ (f:=(Bt.pv false)) (fun a=>Bt.psize _ a) hv36 SC SC (S ?_)
   obtain⟨v40,hv40,h⟩:=rb_ h
   refine aj [false] (SvO_ (res':=((am false) v40)) (slO_7 hv40) (by simp only[vt_,vs_,va_,vl_,aF,RB,RS])) SC (S ?_)
   obtain⟨v43,hv43,h⟩:=rb_ h
   refine aQ (f:=(Bt.pv false)) (fun a=>Bt.psize _ a) hv43 SC SC (S ?_)
   obtain⟨v48,hv48,h⟩:=rb_ h
   refine SlcH.mk (f:=(Bt.pv false)) hv48 SC (S ?_)
   obtain⟨v49,hv49,h⟩:=rb_ h
   refine aQ (f:=(Bt.pv false)) (fun a=>Bt.psize _ a) hv49 SC SC (S ?_)
   cases rs_ h
   exact aL SC

theorem slF_11{a0:Sb}{a1:ByteArray}  {r:Int}(h:slF_4 a0 a1=some r):Sat ah 207 [((Sb.pv false) a0),(Sx a1)] (I r):=by
 obtain⟨h,cs⟩:=Ro_ h
 unfold slF_4 at h
 refine au (nt:=22) (rs:=[.tmp 4]) (n:=100000) Tryz.func207 rfl rfl rfl rfl (by simp) (S ?_)
 refine Mkv_ (b:=false) (sz:=3) (es:=a0.Bindings.map (Bt.pv false)) (x:=(.pv ((Sb.pv false) a0))) 0 [0] SC fun hl0=>?_; rw[aC] at hl0
 replace h:=rl_ h
 refine aI h (fun i2 s2=>[(1,.val (.pv (Sx a1))),(2,.box (.pv ((Sb.pv false) a0))),(5,.val (.pv (I (i2:Int))))]) (fun i2 s2=>[]) (Slm_ SC) (fun i2 s2 hi h=>?_) (fun s2 h=>?_)
 ·have w:=ws_ (i:=i2) (by omega)
  refine S ?_
  refine aG cs (by omega) (fun cs=>S ?_)
  obtain⟨v16,hv16,h⟩:=rb_ h
  refine ar (f:=(Bt.pv false)) hv16 SC (S ?_)
  refine ai cs h (fun cs h=>S ?_) (fun cs h=>S ?_)
  ·cases rs_ h
   exact ag SC
  ·have h:=rs_ h
   refine aA ⟨_,h,?_⟩
   exact Slm_ SW
 ·refine S ?_
  refine aJ cs (by omega) (fun cs=>S ?_)
  cases rs_ h
  exact ag SC

theorem slA_4(n:Nat):(∀ (a0:Sb) (a1:Tt) (r:Tt),slA_ n a0 a1=some r→Sat ah 197 [((Sb.pv false) a0),((am false) a1)] ((am true) r)):=by
 induction n with
 | zero=>exact fun _ _ _ h=>by simp[slA_] at h
 | succ n ih=>
  refine fun a0 a1 r h=>?_
  obtain⟨h,cs⟩:=Ro_ h
  rw[slA_] at h
  refine au (nt:=50) (rs:=[.cell 4 42]) (n:=100000) Tryz.func197 rfl rfl rfl rfl (by simp) (S ?_)
  obtain⟨v10,hv10,h⟩:=rb_ h
  refine aj [false] (slV_2 hv10) SC (S ?_)
  refine ai cs h (fun cs h=>S ?_) (fun cs h=>S ?_)
  ·obtain⟨v14,hv14,h⟩:=rb_ h
   refine aj [false,false] (slF_11 hv14) SC (S ?_)
   refine ai cs h (fun cs h=>S ?_) (fun cs h=>S ?_)
   ·obtain⟨v20,hv20,h⟩:=rb_ h
    refine ar (f:=(Bt.pv false)) hv20 SC (S ?_)
    obtain⟨v23,hv23,h⟩:=rb_ h
    refine aj [false] (slO_7 hv23) SC (S ?_)
    cases rs_ h
    exact ag SC
   ·cases rs_ h
    exact ag SC
  ·refine Mkv_ (b:=false) (sz:=2) (es:=a1.Args.map (am false)) (x:=(.pv ((am false) a1))) 1 [1] SC fun hl1=>?_; rw[aC] at hl1
   replace h:=rl_ h
   refine aI h (fun i8 s8=>[(2,.box (.pv ((Sb.pv false) a0))),(3,.box (.pv ((am false) a1))),(4,.box (.node [(.pv (Sx (⟨#[]⟩:ByteArray))),(.pv (.sl true 2 []))])),(6,.box (.node [(.pv (Sx a1.Name)),(.own 9324)])),(7,.val (.pv (I (i8:Int))))]) (fun i8 s8=>[(9324,(2,s8.map (am true)))]) (aT (Sln_ (x:=(.node [(.pv (Sx a1.Name)),(.pv (.sl true 2 []))])) 6 [1] 9324 2 NM SC SC SC) (Slm_ SC)) (fun i8 s8 hi h=>?_) (fun s8 h=>?_)
   ·have w:=ws_ (i:=i8) (by omega)
    refine S ?_
    refine aG cs (by omega) (fun cs=>S ?_)
    obtain⟨v43,hv43,h⟩:=rb_ h
    refine ar (f:=(am false)) hv43 SC (S ?_)
    obtain⟨v45,hv45,h⟩:=rb_ h
    refine aj [false,false] (ih _ _ _ hv45) SC (S ?_)
    obtain⟨v47,hv47,h⟩:=rb_ h
    refine aQ (f:=(am true)) (fun a=>Tt.psize _ a) hv47 SC SC (S ?_)
    refine ae (DHa_ [] [720,736,752]) (S ?_)
    have h:=rs_ h
    refine aA ⟨_,h,?_⟩
    refine aT (Slm_1 (S:=[(2,.box (.pv ((Sb.pv false) a0))),(3,.box (.pv ((am false) a1))),(4,.box (.node [(.pv (Sx (⟨#[]⟩:ByteArray))),(.pv (.sl true 2 []))])),(6,.box (.node [(.pv (Sx a1.Name)),(.own 752)])),(7,.val (.pv (I (IntKind.i64.wrap ((i8:Int)+(1:Int))))))]) (O:=[(752,(2,v47.map (am true)))]) SW SW) ?_
    refine Slr_ 752 9324 (by decide) NM ?_
    exact Slm_ SW
   ·refine S ?_
    refine aJ cs (by omega) (fun cs=>S ?_)
    cases rs_ h
    exact ag SC
theorem slA_5{a0:Sb}{a1:Tt}{r:Tt}(h:slA_2 a0 a1=some r):Sat ah 197 [((Sb.pv false) a0),((am false) a1)] ((am true) r):=by
 obtain⟨n,hn⟩:=ls_ h
 exact(slA_4 n) _ _ _ hn

theorem slP_9{a0:List ByteArray}{a1:ByteArray}  {r:List ByteArray}(h:slP_4 a0 a1=some r):Sat ah 209 [(.sl false 1 (a0.map Sx)),(Sx a1)] (.sl false 1 (r.map Sx)):=by
 obtain⟨h,cs⟩:=Ro_ h
 unfold slP_4 at h
 refine au (nt:=45) (rs:=[.tmp 4]) (n:=100000) Tryz.func209 rfl rfl rfl rfl (by simp) (S ?_)
 refine aN (b:=false) (sz:=1) (es:=a0.map Sx) 0 SC fun hl0=>?_; rw[aC] at hl0
 replace h:=rl_ h
 refine aI h (fun i2 s2=>[(0,.val (.pv (.sl false 1 (a0.map Sx)))),(1,.val (.pv (Sx a1))),(5,.val (.pv (I (i2:Int))))]) (fun i2 s2=>[]) (Slm_ SC) (fun i2 s2 hi h=>?_) (fun s2 h=>?_)
 ·have w:=ws_ (i:=i2) (by omega)
  refine S ?_
  refine aG cs (by omega) (fun cs=>S ?_)
  obtain⟨v13,hv13,h⟩:=rb_ h
  refine ar (f:=Sx) hv13 SC (S ?_)
  refine ai cs h (fun cs h=>S ?_) (fun cs h=>S ?_)
  ·have h:=rs_ h
   refine aA ⟨_,h,?_⟩
   exact Slm_ SW
  ·obtain⟨v27,hv27,h⟩:=rb_ h
   refine ar (f:=Sx) hv27 SC (S ?_)
   refine ai cs h (fun cs h=>S ?_) (fun cs h=>S ?_)
   ·cases rs_ h
    exact aL SC
   ·obtain⟨v36,hv36,h⟩:=rb_ h
    refine SlcH.mk (f:=Sx) hv36 SC (S ?_)
    obtain⟨v37,hv37,h⟩:=rb_ h
    refine aQ (f:=Sx) (fun _=>rfl) hv37 SC SC (S ?_)
    obtain⟨v40,hv40,h⟩:=rb_ h
    refine aQ (f:=Sx) (fun _=>rfl) hv40 SC SC (S ?_)
    obtain⟨v43,hv43,h⟩:=rb_ h
    refine SlcH.mk (f:=Sx) hv43 SC (S ?_)
    obtain⟨v44,hv44,h⟩:=rb_ h
    refine aQ (f:=Sx) (fun _=>rfl) hv44 SC SC (S ?_)
    refine ae (DHa_ [] [528,592,624,640,704]) (S ?_)
    cases rs_ h
    exact aL SC
 ·refine S ?_
  refine aJ cs (by omega) (fun cs=>S ?_)
  obtain⟨v36,hv36,h⟩:=rb_ h
  refine SlcH.mk (f:=Sx) hv36 SC (S ?_)
  obtain⟨v37,hv37,h⟩:=rb_ h
  refine aQ (f:=Sx) (fun _=>rfl) hv37 SC SC (S ?_)
  obtain⟨v40,hv40,h⟩:=rb_ h
  refine aQ (f:=Sx) (fun _=>rfl) hv40 SC SC (S ?_)
  obtain⟨v43,hv43,h⟩:=rb_ h
  refine SlcH.mk (f:=Sx) hv43 SC (S ?_)
  obtain⟨v44,hv44,h⟩:=rb_ h
  refine aQ (f:=Sx) (fun _=>rfl) hv44 SC SC (S ?_)
  refine ae (DHa_ [] [528,592,624,640,704]) (S ?_)
  cases rs_ h
  exact aL SC

theorem slI_10(n:Nat):(∀ (a0:List ByteArray) (a1:Tt) (r:List ByteArray),slI_1 n a0 a1=some r→Sat ah 208 [(.sl false 1 (a0.map Sx)),((am false) a1)] (.sl false 1 (r.map Sx))):=by
 induction n with
 | zero=>exact fun _ _ _ h=>by simp[slI_1] at h
 | succ n ih=>
  refine fun a0 a1 r h=>?_
  obtain⟨h,cs⟩:=Ro_ h
  rw[slI_1] at h
  refine au (nt:=28) (rs:=[.tmp 4]) (n:=100000) Tryz.func208 rfl rfl rfl rfl (by simp) (S ?_)
  obtain⟨v8,hv8,h⟩:=rb_ h
  refine aj [false] (slV_2 hv8) SC (S ?_)
  refine ai cs h (fun cs h=>S ?_) (fun cs h=>S ?_)
  ·obtain⟨v12,hv12,h⟩:=rb_ h
   refine aj [false,false] (slP_9 hv12) SC (S ?_)
   cases rs_ h
   exact aL SC
  ·refine Mkv_ (b:=false) (sz:=2) (es:=a1.Args.map (am false)) (x:=(.pv ((am false) a1))) 1 [1] SC fun hl1=>?_; rw[aC] at hl1
   replace h:=rl_ h
   refine aI h (fun i4 s4=>[(0,.val (.pv (.sl false 1 (s4.map Sx)))),(3,.box (.pv ((am false) a1))),(5,.val (.pv (I (i4:Int))))]) (fun i4 s4=>[]) (Slm_ SC) (fun i4 s4 hi h=>?_) (fun s4 h=>?_)
   ·have w:=ws_ (i:=i4) (by omega)
    refine S ?_
    refine aG cs (by omega) (fun cs=>S ?_)
    obtain⟨v24,hv24,h⟩:=rb_ h
    refine ar (f:=(am false)) hv24 SC (S ?_)
    obtain⟨v26,hv26,h⟩:=rb_ h
    refine aj [false,false] (ih _ _ _ hv26) SC (S ?_)
    have h:=rs_ h
    refine aA ⟨_,h,?_⟩
    exact Slm_ SW
   ·refine S ?_
    refine aJ cs (by omega) (fun cs=>S ?_)
    cases rs_ h
    exact aL SC
theorem slI_11{a0:List ByteArray}{a1:Tt}{r:List ByteArray}(h:slI_8 a0 a1=some r):Sat ah 208 [(.sl false 1 (a0.map Sx)),((am false) a1)] (.sl false 1 (r.map Sx)):=by
 obtain⟨n,hn⟩:=ls_ h
 exact(slI_10 n) _ _ _ hn

theorem slV_4{a0:Tt}  {r:List ByteArray}(h:slV_1 a0=some r):Sat ah 200 [((am false) a0)] (.sl false 1 (r.map Sx)):=by
 obtain⟨h,cs⟩:=Ro_ h
 unfold slV_1 at h
 refine au (nt:=6) (rs:=[.tmp 2]) (n:=100000) Tryz.func200 rfl rfl rfl rfl (by simp) (S ?_)
 obtain⟨v5,hv5,h⟩:=rb_ h
 refine aj [true,false] (bA (args:=[(.sl true 1 (([]).map Sx)),((am false) a0)]) [true,false] (by have gg:=slI_11 hv5; simp only[gv_t,gv_f,gv_n,vs_,va_,vl_,vrB_,vrI_,aF,RB,RS] at gg ⊢; exact gg)) SC (S ?_)
 cases rs_ h
 exact aL SC

theorem slI_4{a0:List ByteArray}{a1:ByteArray}  {r:Bool}(h:slI_5 a0 a1=some r):Sat ah 192 [(.sl false 1 (a0.map Sx)),(Sx a1)] (B r):=by
 obtain⟨h,cs⟩:=Ro_ h
 unfold slI_5 at h
 refine au (nt:=18) (rs:=[.tmp 4]) (n:=100000) Tryz.func192 rfl rfl rfl rfl (by simp) (S ?_)
 refine aN (b:=false) (sz:=1) (es:=a0.map Sx) 0 SC fun hl0=>?_; rw[aC] at hl0
 replace h:=rl_ h
 refine aI h (fun i2 s2=>[(0,.val (.pv (.sl false 1 (a0.map Sx)))),(1,.val (.pv (Sx a1))),(5,.val (.pv (I (i2:Int))))]) (fun i2 s2=>[]) (Slm_ SC) (fun i2 s2 hi h=>?_) (fun s2 h=>?_)
 ·have w:=ws_ (i:=i2) (by omega)
  refine S ?_
  refine aG cs (by omega) (fun cs=>S ?_)
  obtain⟨v14,hv14,h⟩:=rb_ h
  refine ar (f:=Sx) hv14 SC (S ?_)
  refine ai cs h (fun cs h=>S ?_) (fun cs h=>S ?_)
  ·cases rs_ h
   exact ag SC
  ·have h:=rs_ h
   refine aA ⟨_,h,?_⟩
   exact Slm_ SW
 ·refine S ?_
  refine aJ cs (by omega) (fun cs=>S ?_)
  cases rs_ h
  exact ag SC

theorem slI_9(n:Nat):(∀ (a0:List ByteArray) (a1:Ft) (a2:List ByteArray) (r:List ByteArray),slI_ n a0 a1 a2=some r→Sat ah 201 [(.sl false 1 (a0.map Sx)),((al false) a1),(.sl false 1 (a2.map Sx))] (.sl false 1 (r.map Sx))):=by
 induction n with
 | zero=>exact fun _ _ _ _ h=>by simp[slI_] at h
 | succ n ih=>
  refine fun a0 a1 a2 r h=>?_
  obtain⟨h,cs⟩:=Ro_ h
  rw[slI_] at h
  refine au (nt:=66) (rs:=[.tmp 6]) (n:=100000) Tryz.func201 rfl rfl rfl rfl (by simp) (S ?_)
  refine ai cs h (fun cs h=>S ?_) (fun cs h=>S ?_)
  ·obtain⟨v15,hv15,h⟩:=rb_ h
   refine aj [false] (slV_4 hv15) SC (S ?_)
   refine aN (b:=false) (sz:=1) (es:=v15.map Sx) 7 SC fun hl7=>?_; rw[aC] at hl7
   replace h:=rl_ h
   refine aI h (fun i4 s4=>[(0,.val (.pv (.sl false 1 (s4.map Sx)))),(2,.val (.pv (.sl false 1 (a2.map Sx)))),(4,.box (.pv ((al false) a1))),(7,.val (.pv (.sl false 1 (v15.map Sx)))),(8,.val (.pv (I (i4:Int))))]) (fun i4 s4=>[]) (Slm_ SC) (fun i4 s4 hi h=>?_) (fun s4 h=>?_)
   ·have w:=ws_ (i:=i4) (by omega)
    refine S ?_
    refine aG cs (by omega) (fun cs=>S ?_)
    obtain⟨v25,hv25,h⟩:=rb_ h
    refine ar (f:=Sx) hv25 SC (S ?_)
    obtain⟨v27,hv27,h⟩:=rb_ h
    refine aj [false,false] (slI_4 hv27) SC (S ?_)
    refine ai cs h (fun cs h=>S ?_) (fun cs h=>S ?_)
    ·have h:=rs_ h
     refine aA ⟨_,h,?_⟩
     exact Slm_ SW
    ·obtain⟨v32,hv32,h⟩:=rb_ h
     refine ar (f:=Sx) hv32 SC (S ?_)
     obtain⟨v34,hv34,h⟩:=rb_ h
     refine aj [false,false] (slP_9 hv34) SC (S ?_)
     have h:=rs_ h
     refine aA ⟨_,h,?_⟩
     exact Slm_ SW
   ·refine S ?_
    refine aJ cs (by omega) (fun cs=>S ?_)
    refine ai cs h (fun cs h=>S ?_) (fun cs h=>S ?_)
    ·obtain⟨v45,hv45,h⟩:=rb_ h
     refine aQ (f:=Sx) (fun _=>rfl) hv45 SC SC (S ?_)
     obtain⟨v49,hv49,h⟩:=rb_ h
     refine aQ (f:=Sx) (fun _=>rfl) hv49 SC SC (S ?_)
     refine ae (DHa_ [] [688,720,768,784]) (S ?_)
     refine Mkb_ (b:=false) (sz:=5) (es:=a1.Parts.map (al false)) (x:=(.pv ((al false) a1))) 4 [3] SC fun hl4=>?_; rw[aC] at hl4
     replace h:=rl_ h
     refine aI h (fun i11 s11=>[(0,.val (.pv (.sl false 1 (s11.map Sx)))),(2,.val (.pv (.sl false 1 (v49.map Sx)))),(4,.box (.pv ((al false) a1))),(9,.val (.pv (I (i11:Int))))]) (fun i11 s11=>[]) (aT (Sld_ (x:=(.own 784)) (sz:=(1)) (es:=v49.map Sx) 2 [] 784 SC) (Slm_ SC)) (fun i11 s11 hi h=>?_) (fun s11 h=>?_)
     ·have w:=ws_ (i:=i11) (by omega)
      refine S ?_
      refine aG cs (by omega) (fun cs=>S ?_)
      obtain⟨v61,hv61,h⟩:=rb_ h
      refine ar (f:=(al false)) hv61 SC (S ?_)
      obtain⟨v64,hv64,h⟩:=rb_ h
      refine aj [false,false,false] (ih _ _ _ _ hv64) SC (S ?_)
      have h:=rs_ h
      refine aA ⟨_,h,?_⟩
      exact Slm_ SW
     ·refine S ?_
      refine aJ cs (by omega) (fun cs=>S ?_)
      cases rs_ h
      exact aL SC
    ·refine ai cs h (fun cs h=>S ?_) (fun cs h=>S ?_)
     ·obtain⟨v45,hv45,h⟩:=rb_ h
      refine aQ (f:=Sx) (fun _=>rfl) hv45 SC SC (S ?_)
      obtain⟨v49,hv49,h⟩:=rb_ h
      refine aQ (f:=Sx) (fun _=>rfl) hv49 SC SC (S ?_)
      refine ae (DHa_ [] [688,720,768,784]) (S ?_)
      refine Mkb_ (b:=false) (sz:=5) (es:=a1.Parts.map (al false)) (x:=(.pv ((al false) a1))) 4 [3] SC fun hl4=>?_; rw[aC] at hl4
      replace h:=rl_ h
      refine aI h (fun i11 s11=>[(0,.val (.pv (.sl false 1 (s11.map Sx)))),(2,.val (.pv (.sl false 1 (v49.map Sx)))),(4,.box (.pv ((al false) a1))),(9,.val (.pv (I (i11:Int))))]) (fun i11 s11=>[]) (aT (Sld_ (x:=(.own 784)) (sz:=(1)) (es:=v49.map Sx) 2 [] 784 SC) (Slm_ SC)) (fun i11 s11 hi h=>?_) (fun s11 h=>?_)
      ·have w:=ws_ (i:=i11) (by omega)
       refine S ?_
       refine aG cs (by omega) (fun cs=>S ?_)
       obtain⟨v61,hv61,h⟩:=rb_ h
       refine ar (f:=(al false)) hv61 SC (S ?_)
       obtain⟨v64,hv64,h⟩:=rb_ h
       refine aj [false,false,false] (ih _ _ _ _ hv64) SC (S ?_)
       have h:=rs_ h
       refine aA ⟨_,h,?_⟩
       exact Slm_ SW
      ·refine S ?_
       refine aJ cs (by omega) (fun cs=>S ?_)
       cases rs_ h
       exact aL SC
     ·refine Mkb_ (b:=false) (sz:=5) (es:=a1.Parts.map (al false)) (x:=(.pv ((al false) a1))) 4 [3] SC fun hl4=>?_; rw[aC] at hl4
      replace h:=rl_ h
      refine aI h (fun i11 s11=>[(0,.val (.pv (.sl false 1 (s11.map Sx)))),(2,.val (.pv (.sl false 1 (a2.map Sx)))),(4,.box (.pv ((al false) a1))),(9,.val (.pv (I (i11:Int))))]) (fun i11 s11=>[]) (Slm_ SC) (fun i11 s11 hi h=>?_) (fun s11 h=>?_)
      ·have w:=ws_ (i:=i11) (by omega)
       refine S ?_
       refine aG cs (by omega) (fun cs=>S ?_)
       obtain⟨v61,hv61,h⟩:=rb_ h
       refine ar (f:=(al false)) hv61 SC (S ?_)
       obtain⟨v64,hv64,h⟩:=rb_ h
       refine aj [false,false,false] (ih _ _ _ _ hv64) SC (S ?_)
       have h:=rs_ h
       refine aA ⟨_,h,?_⟩
       exact Slm_ SW
      ·refine S ?_
       refine aJ cs (by omega) (fun cs=>S ?_)
       cases rs_ h
       exact aL SC
  ·refine ai cs h (fun cs h=>S ?_) (fun cs h=>S ?_)
   ·obtain⟨v45,hv45,h⟩:=rb_ h
    refine aQ (f:=Sx) (fun _=>rfl) hv45 SC SC (S ?_)
    obtain⟨v49,hv49,h⟩:=rb_ h
    refine aQ (f:=Sx) (fun _=>rfl) hv49 SC SC (S ?_)
    refine ae (DHa_ [] [688,720,768,784]) (S ?_)
    refine Mkv_ (b:=false) (sz:=5) (es:=a1.Parts.map (al false)) (x:=(.pv ((al false) a1))) 1 [3] SC fun hl1=>?_; rw[aC] at hl1
    replace h:=rl_ h
    refine aI h (fun i11 s11=>[(0,.val (.pv (.sl false 1 (s11.map Sx)))),(2,.val (.pv (.sl false 1 (v49.map Sx)))),(4,.box (.pv ((al false) a1))),(9,.val (.pv (I (i11:Int))))]) (fun i11 s11=>[]) (aT (Sld_ (x:=(.own 784)) (sz:=(1)) (es:=v49.map Sx) 2 [] 784 SC) (Slm_ SC)) (fun i11 s11 hi h=>?_) (fun s11 h=>?_)
    ·have w:=ws_ (i:=i11) (by omega)
     refine S ?_
     refine aG cs (by omega) (fun cs=>S ?_)
     obtain⟨v61,hv61,h⟩:=rb_ h
     refine ar (f:=(al false)) hv61 SC (S ?_)
     obtain⟨v64,hv64,h⟩:=rb_ h
     refine aj [false,false,false] (ih _ _ _ _ hv64) SC (S ?_)
     have h:=rs_ h
     refine aA ⟨_,h,?_⟩
     exact Slm_ SW
    ·refine S ?_
     refine aJ cs (by omega) (fun cs=>S ?_)
     cases rs_ h
     exact aL SC
   ·refine ai cs h (fun cs h=>S ?_) (fun cs h=>S ?_)
    ·obtain⟨v45,hv45,h⟩:=rb_ h
     refine aQ (f:=Sx) (fun _=>rfl) hv45 SC SC (S ?_)
     obtain⟨v49,hv49,h⟩:=rb_ h
     refine aQ (f:=Sx) (fun _=>rfl) hv49 SC SC (S ?_)
     refine ae (DHa_ [] [688,720,768,784]) (S ?_)
     refine Mkv_ (b:=false) (sz:=5) (es:=a1.Parts.map (al false)) (x:=(.pv ((al false) a1))) 1 [3] SC fun hl1=>?_; rw[aC] at hl1
     replace h:=rl_ h
     refine aI h (fun i11 s11=>[(0,.val (.pv (.sl false 1 (s11.map Sx)))),(2,.val (.pv (.sl false 1 (v49.map Sx)))),(4,.box (.pv ((al false) a1))),(9,.val (.pv (I (i11:Int))))]) (fun i11 s11=>[]) (aT (Sld_ (x:=(.own 784)) (sz:=(1)) (es:=v49.map Sx) 2 [] 784 SC) (Slm_ SC)) (fun i11 s11 hi h=>?_) (fun s11 h=>?_)
     ·have w:=ws_ (i:=i11) (by omega)
      refine S ?_
      refine aG cs (by omega) (fun cs=>S ?_)
      obtain⟨v61,hv61,h⟩:=rb_ h
      refine ar (f:=(al false)) hv61 SC (S ?_)
      obtain⟨v64,hv64,h⟩:=rb_ h
      refine aj [false,false,false] (ih _ _ _ _ hv64) SC (S ?_)
      have h:=rs_ h
      refine aA ⟨_,h,?_⟩
      exact Slm_ SW
     ·refine S ?_
      refine aJ cs (by omega) (fun cs=>S ?_)
      cases rs_ h
      exact aL SC
    ·refine Mkv_ (b:=false) (sz:=5) (es:=a1.Parts.map (al false)) (x:=(.pv ((al false) a1))) 1 [3] SC fun hl1=>?_; rw[aC] at hl1
     replace h:=rl_ h
     refine aI h (fun i11 s11=>[(0,.val (.pv (.sl false 1 (s11.map Sx)))),(2,.val (.pv (.sl false 1 (a2.map Sx)))),(4,.box (.pv ((al false) a1))),(9,.val (.pv (I (i11:Int))))]) (fun i11 s11=>[]) (Slm_ SC) (fun i11 s11 hi h=>?_) (fun s11 h=>?_)
     ·have w:=ws_ (i:=i11) (by omega)
      refine S ?_
      refine aG cs (by omega) (fun cs=>S ?_)
      obtain⟨v61,hv61,h⟩:=rb_ h
      refine ar (f:=(al false)) hv61 SC (S ?_)
      obtain⟨v64,hv64,h⟩:=rb_ h
      refine aj [false,false,false] (ih _ _ _ _ hv64) SC (S ?_)
      have h:=rs_ h
      refine aA ⟨_,h,?_⟩
      exact Slm_ SW
     ·refine S ?_
      refine aJ cs (by omega) (fun cs=>S ?_)
      cases rs_ h
      exact aL SC
theorem slI_7{a0:List ByteArray}{a1:Ft}{a2:List ByteArray}{r:List ByteArray}(h:slI_6 a0 a1 a2=some r):Sat ah 201 [(.sl false 1 (a0.map Sx)),((al false) a1),(.sl false 1 (a2.map Sx))] (.sl false 1 (r.map Sx)):=by
 obtain⟨n,hn⟩:=ls_ h
 exact(slI_9 n) _ _ _ _ hn

theorem slF_5{a0:Ft}  {r:List ByteArray}(h:slF_1 a0=some r):Sat ah 199 [((al false) a0)] (.sl false 1 (r.map Sx)):=by
 obtain⟨h,cs⟩:=Ro_ h
 unfold slF_1 at h
 refine au (nt:=7) (rs:=[.tmp 2]) (n:=100000) Tryz.func199 rfl rfl rfl rfl (by simp) (S ?_)
 obtain⟨v6,hv6,h⟩:=rb_ h
 refine aj [true,false,true] (bA (args:=[(.sl true 1 (([]).map Sx)),((al false) a0),(.sl true 1 (([]).map Sx))]) [true,false,true] (by have gg:=slI_7 hv6; simp only[gv_t,gv_f,gv_n,vs_,va_,vl_,vrB_,vrI_,aF,RB,RS] at gg ⊢; exact gg)) SC (S ?_)
 cases rs_ h
 exact aL SC

theorem slP_11(n:Nat):(∀ (a0:Ft) (a1:ByteArray) (a2:Tt) (r:Ft×Bool),slP_1 n a0 a1 a2=some r→Sat ah 191 [((al false) a0),(Sx a1),((am false) a2)] (.tup [((al true) r.1),(B r.2)])):=by
 induction n with
 | zero=>exact fun _ _ _ _ h=>by simp[slP_1] at h
 | succ n ih=>
  refine fun a0 a1 a2 r h=>?_
  obtain⟨h,cs⟩:=Ro_ h
  rw[slP_1] at h
  refine au (nt:=90) (rs:=[.cell 6 44,.tmp 7]) (n:=100000) Tryz.func191 rfl rfl rfl rfl (by simp) (S ?_)
  refine ai cs h (fun cs h=>S ?_) (fun cs h=>S ?_)
  ·obtain⟨v23,hv23,h⟩:=rb_ h
   refine aj [false,false,false] (slP_13 hv23) SC (S ?_)
   obtain⟨v26,hv26,h⟩:=rb_ h
   refine aj [false,false] (slA_5 hv26) SC (S ?_)
   refine ae (DHa_ [] [416]) (S ?_)
   obtain⟨v31,hv31,h⟩:=rb_ h
   refine aj [false] (slA_3 hv31) SC (S ?_)
   refine ae (DHa_ [] []) (S ?_)
   cases rs_ h
   exact ag SC
  ·refine ai cs h (fun cs h=>S ?_) (fun cs h=>S ?_)
   ·refine ai cs h (fun cs h=>S ?_) (fun cs h=>S ?_)
    ·obtain⟨v55,hv55,h⟩:=rb_ h
     refine aj [false] (slO_2 hv55) SC (S ?_)
     cases rs_ h
     exact ag SC
    ·obtain⟨v47,hv47,h⟩:=rb_ h
     refine ar (f:=(al false)) hv47 SC (S ?_)
     obtain⟨v49,hv49,h⟩:=rb_ h
     refine aj [false] (slF_5 hv49) SC (S ?_)
     obtain⟨v51,hv51,h⟩:=rb_ h
     refine aj [false,false] (slI_4 hv51) SC (S ?_)
     refine ai cs h (fun cs h=>S ?_) (fun cs h=>S ?_)
     ·obtain⟨v57,hv57,h⟩:=rb_ h
      refine aj [false] (slV_4 hv57) SC (S ?_)
      obtain⟨v60,hv60,h⟩:=rb_ h
      refine aj [false,false] (slI_4 hv60) SC (S ?_)
      refine ae (DHa_ [] []) (S ?_)
      refine ai cs h (fun cs h=>S ?_) (fun cs h=>S ?_)
      ·cases rs_ h
       exact ag SC
      ·refine aN (b:=false) (sz:=5) (es:=a0.Parts.map (al false)) 46 SC fun hl46=>?_; rw[aC] at hl46
       replace h:=rl_ h
       refine aI h (fun i11 s11=>[(1,.val (.pv (Sx a1))),(3,.box (.pv ((al false) a0))),(5,.box (.pv ((am false) a2))),(6,.box (.node [(.pv (I (0:Int))),(.node [(.pv (Sx (⟨#[]⟩:ByteArray))),(.pv (.sl true 2 []))]),(.pv (Sx (⟨#[]⟩:ByteArray))),(.pv (.sl true 5 []))])),(8,.box (.node [(.pv (I a0.Op)),(.node [(.pv (Sx (⟨#[]⟩:ByteArray))),(.pv (.sl true 2 []))]),(.pv (Sx a0.Var)),(.own 9333)])),(9,.val (.pv (I (i11:Int))))]) (fun i11 s11=>[(9333,(5,s11.map (al true)))]) (aT (Sln_ (x:=(.node [(.pv (I a0.Op)),(.node [(.pv (Sx (⟨#[]⟩:ByteArray))),(.pv (.sl true 2 []))]),(.pv (Sx a0.Var)),(.pv (.sl true 5 []))])) 8 [3] 9333 5 NM SC SC SC) (Slm_ SC)) (fun i11 s11 hi h=>?_) (fun s11 h=>?_)
       ·have w:=ws_ (i:=i11) (by omega)
        refine S ?_
        refine aG cs (by omega) (fun cs=>S ?_)
        obtain⟨v73,hv73,h⟩:=rb_ h
        refine ar (f:=(al false)) hv73 SC (S ?_)
        obtain⟨v77,hv77,h⟩:=rb_ h
        refine aj [false,false,false] (ih _ _ _ _ hv77) SC (S ?_)
        refine ae (DHa_ [10] [1232,1233]) (S ?_)
        refine ai cs h (fun cs h=>S ?_) (fun cs h=>S ?_)
        ·obtain⟨v87,hv87,h⟩:=rb_ h
         refine aQ (f:=(al true)) (fun a=>Ft.psize _ a) hv87 SC SC (S ?_)
         have h:=rs_ h
         refine aA ⟨_,h,?_⟩
         refine aT (Slm_1 (S:=[(1,.val (.pv (Sx a1))),(3,.box (.pv ((al false) a0))),(5,.box (.pv ((am false) a2))),(6,.box (.node [(.pv (I (0:Int))),(.node [(.pv (Sx (⟨#[]⟩:ByteArray))),(.pv (.sl true 2 []))]),(.pv (Sx (⟨#[]⟩:ByteArray))),(.pv (.sl true 5 []))])),(8,.box (.node [(.pv (I a0.Op)),(.node [(.pv (Sx (⟨#[]⟩:ByteArray))),(.pv (.sl true 2 []))]),(.pv (Sx a0.Var)),(.own 1392)])),(9,.val (.pv (I (IntKind.i64.wrap ((i11:Int)+(1:Int))))))]) (O:=[(1392,(5,v87.map (al true)))]) SW SW) ?_
         refine Slr_ 1392 9333 (by decide) NM ?_
         exact Slm_ SW
        ·cases rs_ h
         exact ag SC
       ·refine S ?_
        refine aJ cs (by omega) (fun cs=>S ?_)
        cases rs_ h
        exact ag SC
     ·obtain⟨v55,hv55,h⟩:=rb_ h
      refine aj [false] (slO_2 hv55) SC (S ?_)
      cases rs_ h
      exact ag SC
   ·refine ai cs h (fun cs h=>S ?_) (fun cs h=>S ?_)
    ·refine ai cs h (fun cs h=>S ?_) (fun cs h=>S ?_)
     ·obtain⟨v55,hv55,h⟩:=rb_ h
      refine aj [false] (slO_2 hv55) SC (S ?_)
      cases rs_ h
      exact ag SC
     ·obtain⟨v47,hv47,h⟩:=rb_ h
      refine ar (f:=(al false)) hv47 SC (S ?_)
      obtain⟨v49,hv49,h⟩:=rb_ h
      refine aj [false] (slF_5 hv49) SC (S ?_)
      obtain⟨v51,hv51,h⟩:=rb_ h
      refine aj [false,false] (slI_4 hv51) SC (S ?_)
      refine ai cs h (fun cs h=>S ?_) (fun cs h=>S ?_)
      ·obtain⟨v57,hv57,h⟩:=rb_ h
       refine aj [false] (slV_4 hv57) SC (S ?_)
       obtain⟨v60,hv60,h⟩:=rb_ h
       refine aj [false,false] (slI_4 hv60) SC (S ?_)
       refine ae (DHa_ [] []) (S ?_)
       refine ai cs h (fun cs h=>S ?_) (fun cs h=>S ?_)
       ·cases rs_ h
        exact ag SC
       ·refine aN (b:=false) (sz:=5) (es:=a0.Parts.map (al false)) 46 SC fun hl46=>?_; rw[aC] at hl46
        replace h:=rl_ h
        refine aI h (fun i11 s11=>[(1,.val (.pv (Sx a1))),(3,.box (.pv ((al false) a0))),(5,.box (.pv ((am false) a2))),(6,.box (.node [(.pv (I (0:Int))),(.node [(.pv (Sx (⟨#[]⟩:ByteArray))),(.pv (.sl true 2 []))]),(.pv (Sx (⟨#[]⟩:ByteArray))),(.pv (.sl true 5 []))])),(8,.box (.node [(.pv (I a0.Op)),(.node [(.pv (Sx (⟨#[]⟩:ByteArray))),(.pv (.sl true 2 []))]),(.pv (Sx a0.Var)),(.own 9333)])),(9,.val (.pv (I (i11:Int))))]) (fun i11 s11=>[(9333,(5,s11.map (al true)))]) (aT (Sln_ (x:=(.node [(.pv (I a0.Op)),(.node [(.pv (Sx (⟨#[]⟩:ByteArray))),(.pv (.sl true 2 []))]),(.pv (Sx a0.Var)),(.pv (.sl true 5 []))])) 8 [3] 9333 5 NM SC SC SC) (Slm_ SC)) (fun i11 s11 hi h=>?_) (fun s11 h=>?_)
        ·have w:=ws_ (i:=i11) (by omega)
         refine S ?_
         refine aG cs (by omega) (fun cs=>S ?_)
         obtain⟨v73,hv73,h⟩:=rb_ h
         refine ar (f:=(al false)) hv73 SC (S ?_)
         obtain⟨v77,hv77,h⟩:=rb_ h
         refine aj [false,false,false] (ih _ _ _ _ hv77) SC (S ?_)
         refine ae (DHa_ [10] [1232,1233]) (S ?_)
         refine ai cs h (fun cs h=>S ?_) (fun cs h=>S ?_)
         ·obtain⟨v87,hv87,h⟩:=rb_ h
          refine aQ (f:=(al true)) (fun a=>Ft.psize _ a) hv87 SC SC (S ?_)
          have h:=rs_ h
          refine aA ⟨_,h,?_⟩
          refine aT (Slm_1 (S:=[(1,.val (.pv (Sx a1))),(3,.box (.pv ((al false) a0))),(5,.box (.pv ((am false) a2))),(6,.box (.node [(.pv (I (0:Int))),(.node [(.pv (Sx (⟨#[]⟩:ByteArray))),(.pv (.sl true 2 []))]),(.pv (Sx (⟨#[]⟩:ByteArray))),(.pv (.sl true 5 []))])),(8,.box (.node [(.pv (I a0.Op)),(.node [(.pv (Sx (⟨#[]⟩:ByteArray))),(.pv (.sl true 2 []))]),(.pv (Sx a0.Var)),(.own 1392)])),(9,.val (.pv (I (IntKind.i64.wrap ((i11:Int)+(1:Int))))))]) (O:=[(1392,(5,v87.map (al true)))]) SW SW) ?_
          refine Slr_ 1392 9333 (by decide) NM ?_
          exact Slm_ SW
         ·cases rs_ h
          exact ag SC
        ·refine S ?_
         refine aJ cs (by omega) (fun cs=>S ?_)
         cases rs_ h
         exact ag SC
      ·obtain⟨v55,hv55,h⟩:=rb_ h
       refine aj [false] (slO_2 hv55) SC (S ?_)
       cases rs_ h
       exact ag SC
    ·refine Mkv_ (b:=false) (sz:=5) (es:=a0.Parts.map (al false)) (x:=(.pv ((al false) a0))) 0 [3] SC fun hl0=>?_; rw[aC] at hl0
     replace h:=rl_ h
     refine aI h (fun i11 s11=>[(1,.val (.pv (Sx a1))),(3,.box (.pv ((al false) a0))),(5,.box (.pv ((am false) a2))),(6,.box (.node [(.pv (I (0:Int))),(.node [(.pv (Sx (⟨#[]⟩:ByteArray))),(.pv (.sl true 2 []))]),(.pv (Sx (⟨#[]⟩:ByteArray))),(.pv (.sl true 5 []))])),(8,.box (.node [(.pv (I a0.Op)),(.node [(.pv (Sx (⟨#[]⟩:ByteArray))),(.pv (.sl true 2 []))]),(.pv (Sx a0.Var)),(.own 9333)])),(9,.val (.pv (I (i11:Int))))]) (fun i11 s11=>[(9333,(5,s11.map (al true)))]) (aT (Sln_ (x:=(.node [(.pv (I a0.Op)),(.node [(.pv (Sx (⟨#[]⟩:ByteArray))),(.pv (.sl true 2 []))]),(.pv (Sx a0.Var)),(.pv (.sl true 5 []))])) 8 [3] 9333 5 NM SC SC SC) (Slm_ SC)) (fun i11 s11 hi h=>?_) (fun s11 h=>?_)
     ·have w:=ws_ (i:=i11) (by omega)
      refine S ?_
      refine aG cs (by omega) (fun cs=>S ?_)
      obtain⟨v73,hv73,h⟩:=rb_ h
      refine ar (f:=(al false)) hv73 SC (S ?_)
      obtain⟨v77,hv77,h⟩:=rb_ h
      refine aj [false,false,false] (ih _ _ _ _ hv77) SC (S ?_)
      refine ae (DHa_ [10] [1232,1233]) (S ?_)
      refine ai cs h (fun cs h=>S ?_) (fun cs h=>S ?_)
      ·obtain⟨v87,hv87,h⟩:=rb_ h
       refine aQ (f:=(al true)) (fun a=>Ft.psize _ a) hv87 SC SC (S ?_)
       have h:=rs_ h
       refine aA ⟨_,h,?_⟩
       refine aT (Slm_1 (S:=[(1,.val (.pv (Sx a1))),(3,.box (.pv ((al false) a0))),(5,.box (.pv ((am false) a2))),(6,.box (.node [(.pv (I (0:Int))),(.node [(.pv (Sx (⟨#[]⟩:ByteArray))),(.pv (.sl true 2 []))]),(.pv (Sx (⟨#[]⟩:ByteArray))),(.pv (.sl true 5 []))])),(8,.box (.node [(.pv (I a0.Op)),(.node [(.pv (Sx (⟨#[]⟩:ByteArray))),(.pv (.sl true 2 []))]),(.pv (Sx a0.Var)),(.own 1392)])),(9,.val (.pv (I (IntKind.i64.wrap ((i11:Int)+(1:Int))))))]) (O:=[(1392,(5,v87.map (al true)))]) SW SW) ?_
       refine Slr_ 1392 9333 (by decide) NM ?_
       exact Slm_ SW
      ·cases rs_ h
       exact ag SC
     ·refine S ?_
      refine aJ cs (by omega) (fun cs=>S ?_)
      cases rs_ h
      exact ag SC
theorem slP_12{a0:Ft}{a1:ByteArray}{a2:Tt}{r:Ft×Bool}(h:slP_10 a0 a1 a2=some r):Sat ah 191 [((al false) a0),(Sx a1),((am false) a2)] (.tup [((al true) r.1),(B r.2)]):=by
 obtain⟨n,hn⟩:=ls_ h
 exact(slP_11 n) _ _ _ _ hn

theorem slN_11{a0:Sa}  {r:List ByteArray}(h:slN_7 a0=some r):Sat ah 193 [((ao false) a0)] (.sl false 1 (r.map Sx)):=by
 obtain⟨h,cs⟩:=Ro_ h
 unfold slN_7 at h
 refine au (nt:=38) (rs:=[.tmp 2]) (n:=100000) Tryz.func193 rfl rfl rfl rfl (by simp) (S ?_)
 refine Mkv_ (b:=false) (sz:=5) (es:=a0.Left.map (al false)) (x:=(.pv ((ao false) a0))) 0 [0] SC fun hl0=>?_; rw[aC] at hl0
 replace h:=rl_ h
 refine aI h (fun i3 s3=>[(1,.box (.pv ((ao false) a0))),(3,.val (.pv (.sl false 1 (s3.map Sx)))),(4,.val (.pv (I (i3:Int))))]) (fun i3 s3=>[]) (aT (Sld_ (x:=(.own 96)) (sz:=(1)) (es:=([]).map Sx) 3 [] 96 SC) (Slm_ SC)) (fun i3 s3 hi h=>?_) (fun s3 h=>?_)
 ·have w:=ws_ (i:=i3) (by omega)
  refine S ?_
  refine aG cs (by omega) (fun cs=>S ?_)
  obtain⟨v18,hv18,h⟩:=rb_ h
  refine ar (f:=(al false)) hv18 SC (S ?_)
  obtain⟨v21,hv21,h⟩:=rb_ h
  refine aj [false,false,true] (bA (args:=[(.sl false 1 (s3.map Sx)),((al false) v18),(.sl true 1 (([]).map Sx))]) [false,false,true] (by have gg:=slI_7 hv21; simp only[gv_t,gv_f,gv_n,vs_,va_,vl_,vrB_,vrI_,aF,RB,RS] at gg ⊢; exact gg)) SC (S ?_)
  have h:=rs_ h
  refine aA ⟨_,h,?_⟩
  exact Slm_ SW
 ·refine S ?_
  refine aJ cs (by omega) (fun cs=>S ?_)
  refine Mkb_ (b:=false) (sz:=5) (es:=a0.Right.map (al false)) (x:=(.pv ((ao false) a0))) 1 [1] SC fun hl1=>?_; rw[aC] at hl1
  replace h:=rl_ h
  refine aI h (fun i7 s7=>[(1,.box (.pv ((ao false) a0))),(3,.val (.pv (.sl false 1 (s7.map Sx)))),(5,.val (.pv (I (i7:Int))))]) (fun i7 s7=>[]) (Slm_ SC) (fun i7 s7 hi h=>?_) (fun s7 h=>?_)
  ·have w:=ws_ (i:=i7) (by omega)
   refine S ?_
   refine aG cs (by omega) (fun cs=>S ?_)
   obtain⟨v33,hv33,h⟩:=rb_ h
   refine ar (f:=(al false)) hv33 SC (S ?_)
   obtain⟨v36,hv36,h⟩:=rb_ h
   refine aj [false,false,true] (bA (args:=[(.sl false 1 (s7.map Sx)),((al false) v33),(.sl true 1 (([]).map Sx))]) [false,false,true] (by have gg:=slI_7 hv36; simp only[gv_t,gv_f,gv_n,vs_,va_,vl_,vrB_,vrI_,aF,RB,RS] at gg ⊢; exact gg)) SC (S ?_)
   have h:=rs_ h
   refine aA ⟨_,h,?_⟩
   exact Slm_ SW
  ·refine S ?_
   refine aJ cs (by omega) (fun cs=>S ?_)
   cases rs_ h
   exact aL SC

theorem slQ_1{a0:Sa}{a1:Int}{a2:Int}{a3:Ft}{a4:Tt}  {r:(List Sa)×Bool}(h:slQ_ a0 a1 a2 a3 a4=some r):Sat ah 184 [((ao false) a0),(I a1),(I a2),((al false) a3),((am false) a4)] (.tup [(.sl true 2 (r.1.map (ao true))),(B r.2)]):=by
 obtain⟨h,cs⟩:=Ro_ h
 unfold slQ_ at h
 refine au (nt:=78) (rs:=[.tmp 10,.tmp 11]) (n:=100000) Tryz.func184 rfl rfl rfl rfl (by simp) (S ?_)
 obtain⟨v17,hv17,h⟩:=rb_ h
 refine aj [false] (slG_5 hv17) SC (S ?_)
 refine ai cs h (fun cs h=>S ?_) (fun cs h=>S ?_)
 ·obtain⟨v23,hv23,h⟩:=rb_ h
  refine ar (f:=(al false)) hv23 SC (S ?_)
  obtain⟨v28,hv28,h⟩:=rb_ h
  refine aj [false,false,false] (slP_12 hv28) SC (S ?_)
  refine ae (DHa_ [12] [448,449]) (S ?_)
  refine ai cs h (fun cs h=>S ?_) (fun cs h=>S ?_)
  ·refine ai cs h (fun cs h=>S ?_) (fun cs h=>S ?_)
   ·obtain⟨v43,hv43,h⟩:=rb_ h
    refine aj [false,false,false,false,false] (slN_ hv43) SC (S ?_)
    cases rs_ h
    exact ag SC
   ·refine ai cs h (fun cs h=>S ?_) (fun cs h=>S ?_)
    ·obtain⟨v50,hv50,h⟩:=rb_ h
     refine aj [false,false,false,false,false] (slN_ hv50) SC (S ?_)
     cases rs_ h
     exact ag SC
    ·obtain⟨v54,hv54,h⟩:=rb_ h
     refine aj [false] (slV_2 hv54) SC (S ?_)
     refine ai cs h (fun cs h=>S ?_) (fun cs h=>S ?_)
     ·obtain⟨v58,hv58,h⟩:=rb_ h
      refine aj [false] (slN_11 hv58) SC (S ?_)
      obtain⟨v61,hv61,h⟩:=rb_ h
      refine aj [false,false] (slI_4 hv61) SC (S ?_)
      refine ae (DHa_ [] []) (S ?_)
      refine ai cs h (fun cs h=>S ?_) (fun cs h=>S ?_)
      ·cases rs_ h
       exact ag SC
      ·refine ai cs h (fun cs h=>S ?_) (fun cs h=>S ?_)
       ·obtain⟨v70,hv70,h⟩:=rb_ h
        refine aj [false,false,false,false,false] (slN_ hv70) SC (S ?_)
        cases rs_ h
        exact ag SC
       ·obtain⟨v76,hv76,h⟩:=rb_ h
        refine aj [false,false,false,false,false] (slN_ hv76) SC (S ?_)
        cases rs_ h
        exact ag SC
     ·refine ae (DHa_ [] []) (S ?_)
      cases rs_ h
      exact ag SC
  ·cases rs_ h
   exact ag SC
 ·cases rs_ h
  exact ag SC

theorem slP_5{a0:Sa}{a1:Int}{a2:Int}{a3:List Ft}  {r:List Sa}(h:slP_ a0 a1 a2 a3=some r):Sat ah 185 [((ao false) a0),(I a1),(I a2),(.sl false 5 (a3.map (al false)))] (.sl true 2 (r.map (ao true))):=by
 obtain⟨h,cs⟩:=Ro_ h
 unfold slP_ at h
 refine au (nt:=96) (rs:=[.tmp 8]) (n:=100000) Tryz.func185 rfl rfl rfl rfl (by simp) (S ?_)
 obtain⟨v14,hv14,h⟩:=rb_ h
 refine SlcH.mk (f:=(al false)) hv14 SC (S ?_)
 refine ai cs h (fun cs h=>S ?_) (fun cs h=>S ?_)
 ·obtain⟨v22,hv22,h⟩:=rb_ h
  refine aj [false,false,false,false,false] (slN_ hv22) SC (S ?_)
  cases rs_ h
  exact ag SC
 ·refine ai cs h (fun cs h=>S ?_) (fun cs h=>S ?_)
  ·obtain⟨v30,hv30,h⟩:=rb_ h
   refine aj [false,false,false,false,false] (slN_ hv30) SC (S ?_)
   cases rs_ h
   exact ag SC
  ·obtain⟨v33,hv33,h⟩:=rb_ h
   refine SlcH.mk (f:=(al false)) hv33 SC (S ?_)
   refine ai cs h (fun cs h=>S ?_) (fun cs h=>S ?_)
   ·obtain⟨v41,hv41,h⟩:=rb_ h
    refine aj [false,false,false,false,false] (slN_ hv41) SC (S ?_)
    cases rs_ h
    exact ag SC
   ·refine ai cs h (fun cs h=>S ?_) (fun cs h=>S ?_)
    ·obtain⟨v49,hv49,h⟩:=rb_ h
     refine aj [false,false,false,false,false] (slN_ hv49) SC (S ?_)
     obtain⟨v54,hv54,h⟩:=rb_ h
     refine aj [false,false,false,false,false] (slN_ hv54) SC (S ?_)
     refine ae (DHa_ [] [784,785,864,865,880]) (S ?_)
     cases rs_ h
     exact ag SC
    ·refine ai cs h (fun cs h=>S ?_) (fun cs h=>S ?_)
     ·obtain⟨v62,hv62,h⟩:=rb_ h
      refine aj [false,false,false,false,false] (slN_ hv62) SC (S ?_)
      obtain⟨v67,hv67,h⟩:=rb_ h
      refine aj [false,false,false,false,false] (slN_ hv67) SC (S ?_)
      refine ae (DHa_ [] [992,993,1072,1073,1088]) (S ?_)
      cases rs_ h
      exact ag SC
     ·refine ai cs h (fun cs h=>S ?_) (fun cs h=>S ?_)
      ·obtain⟨v75,hv75,h⟩:=rb_ h
       refine aj [false,false,false,false,false] (slN_ hv75) SC (S ?_)
       cases rs_ h
       exact ag SC
      ·refine ai cs h (fun cs h=>S ?_) (fun cs h=>S ?_)
       ·obtain⟨v83,hv83,h⟩:=rb_ h
        refine aj [false,false,false,false,false] (slN_ hv83) SC (S ?_)
        obtain⟨v88,hv88,h⟩:=rb_ h
        refine aj [false,false,false,false,false] (slN_ hv88) SC (S ?_)
        refine ae (DHa_ [] [1328,1329,1408,1409,1424]) (S ?_)
        cases rs_ h
        exact ag SC
       ·obtain⟨v94,hv94,h⟩:=rb_ h
        refine aj [false,false,false,false,false] (slN_ hv94) SC (S ?_)
        cases rs_ h
        exact ag SC

theorem slR_3{a0:Sa}{a1:Dt}  {r:(List Sa)×Bool}(h:slR_ a0 a1=some r):Sat ah 165 [((ao false) a0),((av false) a1)] (.tup [(.sl true 2 (r.1.map (ao true))),(B r.2)]):=by
 obtain⟨h,cs⟩:=Ro_ h
 unfold slR_ at h
 refine au (nt:=130) (rs:=[.tmp 4,.tmp 5]) (n:=100000) Tryz.func165 rfl rfl rfl rfl (by simp) (S ?_)
 obtain⟨v14,hv14,h⟩:=rb_ h
 refine aj [false,false,false] (slI_2 hv14) SC (S ?_)
 refine ai cs h (fun cs h=>S ?_) (fun cs h=>S ?_)
 ·refine ai cs h (fun cs h=>S ?_) (fun cs h=>S ?_)
  ·obtain⟨v46,hv46,h⟩:=rb_ h
   refine aj [false,false,false,false,false] (slN_ hv46) SC (S ?_)
   obtain⟨v50,hv50,h⟩:=rb_ h
   refine aj [false,false,false,false,false] (slN_ hv50) SC (S ?_)
   refine ai cs h (fun cs h=>S ?_) (fun cs h=>S ?_)
   ·obtain⟨v58,hv58,h⟩:=rb_ h
    refine aj [false] (slG_4 hv58) SC (S ?_)
    refine ae (DHa_ [] [704,736,737,784,800,801,816]) (S ?_)
    cases rs_ h
    exact ag SC
   ·refine ae (DHa_ [] [704,736,737,784,800,801,816]) (S ?_)
    cases rs_ h
    exact ag SC
  ·obtain⟨v32,hv32,h⟩:=rb_ h
   refine aj [false,false] (slS_5 hv32) SC (S ?_)
   refine ai cs h (fun cs h=>S ?_) (fun cs h=>S ?_)
   ·obtain⟨v64,hv64,h⟩:=rb_ h
    refine aj [false] (slO_6 hv64) SC (S ?_)
    refine ai cs h (fun cs h=>S ?_) (fun cs h=>S ?_)
    ·obtain⟨v69,hv69,h⟩:=rb_ h
     refine aj [false,false,false] (slI_2 hv69) SC (S ?_)
     refine ai cs h (fun cs h=>S ?_) (fun cs h=>S ?_)
     ·obtain⟨v77,hv77,h⟩:=rb_ h
      refine aj [false,false,false] (slI_2 hv77) SC (S ?_)
      refine ai cs h (fun cs h=>S ?_) (fun cs h=>S ?_)
      ·obtain⟨v84,hv84,h⟩:=rb_ h
       refine ar (f:=(al false)) hv84 SC (S ?_)
       refine ai cs h (fun cs h=>S ?_) (fun cs h=>S ?_)
       ·refine ai cs h (fun cs h=>S ?_) (fun cs h=>S ?_)
        ·cases rs_ h
         exact ag SC
        ·obtain⟨v97,hv97,h⟩:=rb_ h
         refine aj [false,false] (slH_1 hv97) SC (S ?_)
         cases rs_ h
         exact ag SC
       ·obtain⟨v103,hv103,h⟩:=rb_ h
        refine aj [false] (slO_8 hv103) SC (S ?_)
        refine ae (DHa_ [] []) (S ?_)
        refine ai cs h (fun cs h=>S ?_) (fun cs h=>S ?_)
        ·refine ai cs h (fun cs h=>S ?_) (fun cs h=>S ?_)
         ·cases rs_ h
          exact ag SC
         ·obtain⟨v119,hv119,h⟩:=rb_ h
          refine aj [false,false,false,false,false] (slQ_1 hv119) SC (S ?_)
          cases rs_ h
          exact ag SC
        ·cases rs_ h
         exact ag SC
      ·cases rs_ h
       exact ag SC
     ·cases rs_ h
      exact ag SC
    ·obtain⟨v69,hv69,h⟩:=rb_ h
     refine aj [false,false,false] (slI_2 hv69) SC (S ?_)
     refine ai cs h (fun cs h=>S ?_) (fun cs h=>S ?_)
     ·obtain⟨v77,hv77,h⟩:=rb_ h
      refine aj [false,false,false] (slI_2 hv77) SC (S ?_)
      refine ai cs h (fun cs h=>S ?_) (fun cs h=>S ?_)
      ·obtain⟨v84,hv84,h⟩:=rb_ h
       refine ar (f:=(al false)) hv84 SC (S ?_)
       refine ai cs h (fun cs h=>S ?_) (fun cs h=>S ?_)
       ·refine ai cs h (fun cs h=>S ?_) (fun cs h=>S ?_)
        ·cases rs_ h
         exact ag SC
        ·obtain⟨v97,hv97,h⟩:=rb_ h
         refine aj [false,false] (slH_1 hv97) SC (S ?_)
         cases rs_ h
         exact ag SC
       ·obtain⟨v103,hv103,h⟩:=rb_ h
        refine aj [false] (slO_8 hv103) SC (S ?_)
        refine ae (DHa_ [] []) (S ?_)
        refine ai cs h (fun cs h=>S ?_) (fun cs h=>S ?_)
        ·refine ai cs h (fun cs h=>S ?_) (fun cs h=>S ?_)
         ·cases rs_ h
          exact ag SC
         ·obtain⟨v119,hv119,h⟩:=rb_ h
          refine aj [false,false,false,false,false] (slQ_1 hv119) SC (S ?_)
          cases rs_ h
          exact ag SC
        ·cases rs_ h
         exact ag SC
      ·cases rs_ h
       exact ag SC
     ·cases rs_ h
      exact ag SC
   ·cases rs_ h
    exact ag SC
 ·obtain⟨v21,hv21,h⟩:=rb_ h
  refine aj [false,false] (slS_18 hv21) SC (S ?_)
  refine ai cs h (fun cs h=>S ?_) (fun cs h=>S ?_)
  ·refine ai cs h (fun cs h=>S ?_) (fun cs h=>S ?_)
   ·obtain⟨v46,hv46,h⟩:=rb_ h
    refine aj [false,false,false,false,false] (slN_ hv46) SC (S ?_)
    obtain⟨v50,hv50,h⟩:=rb_ h
    refine aj [false,false,false,false,false] (slN_ hv50) SC (S ?_)
    refine ai cs h (fun cs h=>S ?_) (fun cs h=>S ?_)
    ·obtain⟨v58,hv58,h⟩:=rb_ h
     refine aj [false] (slG_4 hv58) SC (S ?_)
     refine ae (DHa_ [] [704,736,737,784,800,801,816]) (S ?_)
     cases rs_ h
     exact ag SC
    ·refine ae (DHa_ [] [704,736,737,784,800,801,816]) (S ?_)
     cases rs_ h
     exact ag SC
   ·obtain⟨v32,hv32,h⟩:=rb_ h
    refine aj [false,false] (slS_5 hv32) SC (S ?_)
    refine ai cs h (fun cs h=>S ?_) (fun cs h=>S ?_)
    ·obtain⟨v64,hv64,h⟩:=rb_ h
     refine aj [false] (slO_6 hv64) SC (S ?_)
     refine ai cs h (fun cs h=>S ?_) (fun cs h=>S ?_)
     ·obtain⟨v69,hv69,h⟩:=rb_ h
      refine aj [false,false,false] (slI_2 hv69) SC (S ?_)
      refine ai cs h (fun cs h=>S ?_) (fun cs h=>S ?_)
      ·obtain⟨v77,hv77,h⟩:=rb_ h
       refine aj [false,false,false] (slI_2 hv77) SC (S ?_)
       refine ai cs h (fun cs h=>S ?_) (fun cs h=>S ?_)
       ·obtain⟨v84,hv84,h⟩:=rb_ h
        refine ar (f:=(al false)) hv84 SC (S ?_)
        refine ai cs h (fun cs h=>S ?_) (fun cs h=>S ?_)
        ·refine ai cs h (fun cs h=>S ?_) (fun cs h=>S ?_)
         ·cases rs_ h
          exact ag SC
         ·obtain⟨v97,hv97,h⟩:=rb_ h
          refine aj [false,false] (slH_1 hv97) SC (S ?_)
          cases rs_ h
          exact ag SC
        ·obtain⟨v103,hv103,h⟩:=rb_ h
         refine aj [false] (slO_8 hv103) SC (S ?_)
         refine ae (DHa_ [] []) (S ?_)
         refine ai cs h (fun cs h=>S ?_) (fun cs h=>S ?_)
         ·refine ai cs h (fun cs h=>S ?_) (fun cs h=>S ?_)
          ·cases rs_ h
           exact ag SC
          ·obtain⟨v129,hv129,h⟩:=rb_ h
           refine aj [false,false,false,false] (slP_5 hv129) SC (S ?_)
           cases rs_ h
           exact ag SC
         ·cases rs_ h
          exact ag SC
       ·cases rs_ h
        exact ag SC
      ·cases rs_ h
       exact ag SC
     ·obtain⟨v69,hv69,h⟩:=rb_ h
      refine aj [false,false,false] (slI_2 hv69) SC (S ?_)
      refine ai cs h (fun cs h=>S ?_) (fun cs h=>S ?_)
      ·obtain⟨v77,hv77,h⟩:=rb_ h
       refine aj [false,false,false] (slI_2 hv77) SC (S ?_)
       refine ai cs h (fun cs h=>S ?_) (fun cs h=>S ?_)
       ·obtain⟨v84,hv84,h⟩:=rb_ h
        refine ar (f:=(al false)) hv84 SC (S ?_)
        refine ai cs h (fun cs h=>S ?_) (fun cs h=>S ?_)
        ·refine ai cs h (fun cs h=>S ?_) (fun cs h=>S ?_)
         ·cases rs_ h
          exact ag SC
         ·obtain⟨v97,hv97,h⟩:=rb_ h
          refine aj [false,false] (slH_1 hv97) SC (S ?_)
          cases rs_ h
          exact ag SC
        ·obtain⟨v103,hv103,h⟩:=rb_ h
         refine aj [false] (slO_8 hv103) SC (S ?_)
         refine ae (DHa_ [] []) (S ?_)
         refine ai cs h (fun cs h=>S ?_) (fun cs h=>S ?_)
         ·refine ai cs h (fun cs h=>S ?_) (fun cs h=>S ?_)
          ·cases rs_ h
           exact ag SC
          ·obtain⟨v129,hv129,h⟩:=rb_ h
           refine aj [false,false,false,false] (slP_5 hv129) SC (S ?_)
           cases rs_ h
           exact ag SC
         ·cases rs_ h
          exact ag SC
       ·cases rs_ h
        exact ag SC
      ·cases rs_ h
       exact ag SC
    ·cases rs_ h
     exact ag SC
  ·cases rs_ h
   exact ag SC

theorem slP_8{a0:Sa}{a1:Dt}  {r:(List Sa)×Bool}(h:slP_3 a0 a1=some r):Sat ah 145 [((ao false) a0),((av false) a1)] (.tup [(.sl false 2 (r.1.map (ao false))),(B r.2)]):=by
 obtain⟨h,cs⟩:=Ro_ h
 unfold slP_3 at h
 refine au (nt:=33) (rs:=[.tmp 4,.tmp 5]) (n:=100000) Tryz.func145 rfl rfl rfl rfl (by simp) (S ?_)
 obtain⟨v12,hv12,h⟩:=rb_ h
 refine aj [false,false] (SvO_ (res':=(.tup [(.sl false 2 (v12.1.map (ao false))),(B v12.2)])) (slR_3 hv12) (by simp only[vt_,vs_,va_,vl_,aF,RB,RS])) SC (S ?_)
 refine aN (b:=false) (sz:=2) (es:=v12.1.map (ao false)) 6 SC fun hl6=>?_; rw[aC] at hl6
 replace h:=rl_ h
 refine aI h (fun i3 s3=>[(6,.val (.pv (.sl false 2 (v12.1.map (ao false))))),(7,.val (.pv (B s3))),(8,.val (.pv (I (i3:Int))))]) (fun i3 s3=>[]) (Slm_ SC) (fun i3 s3 hi h=>?_) (fun s3 h=>?_)
 ·have w:=ws_ (i:=i3) (by omega)
  refine S ?_
  refine aG cs (by omega) (fun cs=>S ?_)
  refine ai cs h (fun cs h=>S ?_) (fun cs h=>S ?_)
  ·obtain⟨v25,hv25,h⟩:=rb_ h
   refine ar (f:=(ao false)) hv25 SC (S ?_)
   obtain⟨v27,hv27,h⟩:=rb_ h
   refine aj [false] (slG_1 hv27) SC (S ?_)
   have h:=rs_ h
   refine aA ⟨_,h,?_⟩
   exact Slm_ SW
  ·have h:=rs_ h
   refine aA ⟨_,h,?_⟩
   exact Slm_ SW
 ·refine S ?_
  refine aJ cs (by omega) (fun cs=>S ?_)
  refine ai cs h (fun cs h=>S ?_) (fun cs h=>S ?_)
  ·cases rs_ h
   exact aL SC
  ·cases rs_ h
   exact aL SC

theorem slS_11{a0:List Ft}{a1:List Ft}  {r:Bool}(h:slS_1 a0 a1=some r):Sat ah 148 [(.sl false 5 (a0.map (al false))),(.sl false 5 (a1.map (al false)))] (B r):=by
 obtain⟨h,cs⟩:=Ro_ h
 unfold slS_1 at h
 refine au (nt:=27) (rs:=[.tmp 4]) (n:=100000) Tryz.func148 rfl rfl rfl rfl (by simp) (S ?_)
 refine ai cs h (fun cs h=>S ?_) (fun cs h=>S ?_)
 ·refine aN (b:=false) (sz:=5) (es:=a0.map (al false)) 0 SC fun hl0=>?_; rw[aC] at hl0
  replace h:=rl_ h
  refine aI h (fun i4 s4=>[(0,.val (.pv (.sl false 5 (a0.map (al false))))),(1,.val (.pv (.sl false 5 (a1.map (al false))))),(5,.val (.pv (I (i4:Int))))]) (fun i4 s4=>[]) (Slm_ SC) (fun i4 s4 hi h=>?_) (fun s4 h=>?_)
  ·have w:=ws_ (i:=i4) (by omega)
   refine S ?_
   refine aG cs (by omega) (fun cs=>S ?_)
   obtain⟨v19,hv19,h⟩:=rb_ h
   refine ar (f:=(al false)) hv19 SC (S ?_)
   obtain⟨v23,hv23,h⟩:=rb_ h
   refine ar (f:=(al false)) hv23 SC (S ?_)
   obtain⟨v25,hv25,h⟩:=rb_ h
   refine aj [false,false] (slS_5 hv25) SC (S ?_)
   refine ae (DHa_ [] []) (S ?_)
   refine ai cs h (fun cs h=>S ?_) (fun cs h=>S ?_)
   ·have h:=rs_ h
    refine aA ⟨_,h,?_⟩
    exact Slm_ SW
   ·cases rs_ h
    exact ag SC
  ·refine S ?_
   refine aJ cs (by omega) (fun cs=>S ?_)
   cases rs_ h
   exact ag SC
 ·cases rs_ h
  exact ag SC

theorem slS_17{a0:Sa}{a1:Sa}  {r:Bool}(h:slS_6 a0 a1=some r):Sat ah 121 [((ao false) a0),((ao false) a1)] (B r):=by
 obtain⟨h,cs⟩:=Ro_ h
 unfold slS_6 at h
 refine au (nt:=17) (rs:=[.tmp 4]) (n:=100000) Tryz.func121 rfl rfl rfl rfl (by simp) (S ?_)
 obtain⟨v9,hv9,h⟩:=rb_ h
 refine aj [false,false] (slS_11 hv9) SC (S ?_)
 refine ai cs h (fun cs h=>S ?_) (fun cs h=>S ?_)
 ·obtain⟨v15,hv15,h⟩:=rb_ h
  refine aj [false,false] (slS_11 hv15) SC (S ?_)
  cases rs_ h
  exact ag SC
 ·cases rs_ h
  exact ag SC

theorem slN_12{a0:Dt}  {r:Bool}(h:slN_5 a0=some r):Sat ah 116 [((av false) a0)] (B r):=by
 obtain⟨h,cs⟩:=Ro_ h
 unfold slN_5 at h
 refine au (nt:=45) (rs:=[.tmp 2]) (n:=100000) Tryz.func116 rfl rfl rfl rfl (by simp) (S ?_)
 obtain⟨v8,hv8,h⟩:=rb_ h
 refine aj [false] (slG_1 hv8) SC (S ?_)
 refine ai cs h (fun cs h=>S ?_) (fun cs h=>S ?_)
 ·obtain⟨v14,hv14,h⟩:=rb_ h
  refine aj [false,false] (slP_8 hv14) SC (S ?_)
  refine ai cs h (fun cs h=>S ?_) (fun cs h=>S ?_)
  ·refine ai cs h (fun cs h=>S ?_) (fun cs h=>S ?_)
   ·refine aN (b:=false) (sz:=2) (es:=v14.1.map (ao false)) 3 SC fun hl3=>?_; rw[aC] at hl3
    replace h:=rl_ h
    refine aI h (fun i7 s7=>[(1,.box (.pv ((av false) a0))),(3,.val (.pv (.sl false 2 (v14.1.map (ao false))))),(5,.val (.pv (I (i7:Int))))]) (fun i7 s7=>[]) (Slm_ SC) (fun i7 s7 hi h=>?_) (fun s7 h=>?_)
    ·have w:=ws_ (i:=i7) (by omega)
     refine S ?_
     refine aG cs (by omega) (fun cs=>S ?_)
     obtain⟨v35,hv35,h⟩:=rb_ h
     refine ar (f:=(ao false)) hv35 SC (S ?_)
     obtain⟨v40,hv40,h⟩:=rb_ h
     refine ar (f:=(av false)) hv40 SC (S ?_)
     obtain⟨v43,hv43,h⟩:=rb_ h
     refine aj [false,false] (slS_17 hv43) SC (S ?_)
     refine ae (DHa_ [] []) (S ?_)
     refine ai cs h (fun cs h=>S ?_) (fun cs h=>S ?_)
     ·have h:=rs_ h
      refine aA ⟨_,h,?_⟩
      exact Slm_ SW
     ·cases rs_ h
      exact ag SC
    ·refine S ?_
     refine aJ cs (by omega) (fun cs=>S ?_)
     cases rs_ h
     exact ag SC
   ·cases rs_ h
    exact ag SC
  ·cases rs_ h
   exact ag SC
 ·cases rs_ h
  exact ag SC

theorem slO_13{a0:List Int}  {r:List Int}(h:slO_10 a0=some r):Sat ah 117 [(.sl false 1 (a0.map I))] (.sl true 1 (r.map I)):=by
 obtain⟨h,cs⟩:=Ro_ h
 unfold slO_10 at h
 refine au (nt:=6) (rs:=[.tmp 2]) (n:=100000) Tryz.func117 rfl rfl rfl rfl (by simp) (S ?_)
 obtain⟨v5,hv5,h⟩:=rb_ h
 refine aQ (f:=I) (fun _=>rfl) hv5 SC SC (S ?_)
 cases rs_ h
 exact ag SC

theorem slW_2(n:Nat):(∀ (a0:Dt) (a1:List Int) (r:(List Int)×Bool),slW_ n a0 a1=some r→Sat ah 78 [((av false) a0),(.sl false 1 (a1.map I))] (.tup [(.sl false 1 (r.1.map I)),(B r.2)])):=by
 induction n with
 | zero=>exact fun _ _ _ h=>by simp[slW_] at h
 | succ n ih=>
  refine fun a0 a1 r h=>?_
  obtain⟨h,cs⟩:=Ro_ h
  rw[slW_] at h
  refine au (nt:=37) (rs:=[.tmp 4,.tmp 5]) (n:=100000) Tryz.func78 rfl rfl rfl rfl (by simp) (S ?_)
  obtain⟨v10,hv10,h⟩:=rb_ h
  refine aj [false] (slN_12 hv10) SC (S ?_)
  refine ai cs h (fun cs h=>S ?_) (fun cs h=>S ?_)
  ·refine Mkv_ (b:=false) (sz:=12) (es:=a0.Parts.map (av false)) (x:=(.pv ((av false) a0))) 0 [5] SC fun hl0=>?_; rw[aC] at hl0
   replace h:=rl_ h
   refine aI h (fun i4 s4=>[(1,.val (.pv (.sl false 1 (a1.map I)))),(2,.box (.pv ((av false) a0))),(6,.val (.pv (I (i4:Int))))]) (fun i4 s4=>[]) (Slm_ SC) (fun i4 s4 hi h=>?_) (fun s4 h=>?_)
   ·have w:=ws_ (i:=i4) (by omega)
    refine S ?_
    refine aG cs (by omega) (fun cs=>S ?_)
    obtain⟨v24,hv24,h⟩:=rb_ h
    refine ar (f:=(av false)) hv24 SC (S ?_)
    obtain⟨v27,hv27,h⟩:=rb_ h
    refine aj [false] (slO_13 hv27) SC (S ?_)
    obtain⟨v30,hv30,h⟩:=rb_ h
    refine aQ (f:=I) (fun _=>rfl) hv30 SC SC (S ?_)
    obtain⟨v31,hv31,h⟩:=rb_ h
    refine aj [false,true] (bA (args:=[((av false) v24),(.sl true 1 (v30.map I))]) [false,true] (by have gg:=ih _ _ _ hv31; simp only[gv_t,gv_f,gv_n,vs_,va_,vl_,vrB_,vrI_,aF,RB,RS] at gg ⊢; exact gg)) SC (S ?_)
    refine ae (DHa_ [] [432,464,480]) (S ?_)
    refine ai cs h (fun cs h=>S ?_) (fun cs h=>S ?_)
    ·cases rs_ h
     exact aL SC
    ·have h:=rs_ h
     refine aA ⟨_,h,?_⟩
     exact Slm_ SW
   ·refine S ?_
    refine aJ cs (by omega) (fun cs=>S ?_)
    cases rs_ h
    exact aL SC
  ·cases rs_ h
   exact aL SC
theorem slW_3{a0:Dt}{a1:List Int}{r:(List Int)×Bool}(h:slW_1 a0 a1=some r):Sat ah 78 [((av false) a0),(.sl false 1 (a1.map I))] (.tup [(.sl false 1 (r.1.map I)),(B r.2)]):=by
 obtain⟨n,hn⟩:=ls_ h
 exact(slW_2 n) _ _ _ hn

theorem slV_5{a0:Dt}  {r:Bool}(h:slV_3 a0=some r):Sat ah 40 [((av false) a0)] (B r):=by
 obtain⟨h,cs⟩:=Ro_ h
 unfold slV_3 at h
 refine au (nt:=16) (rs:=[.tmp 2]) (n:=100000) Tryz.func40 rfl rfl rfl rfl (by simp) (S ?_)
 obtain⟨v6,hv6,h⟩:=rb_ h
 refine aj [false,false] (slS_23 hv6) SC (S ?_)
 refine ai cs h (fun cs h=>S ?_) (fun cs h=>S ?_)
 ·cases rs_ h
  exact ag SC
 ·obtain⟨v11,hv11,h⟩:=rb_ h
  refine aj [false,true] (bA (args:=[((av false) a0),(.sl true 1 (([]).map I))]) [false,true] (by have gg:=slW_3 hv11; simp only[gv_t,gv_f,gv_n,vs_,va_,vl_,vrB_,vrI_,aF,RB,RS] at gg ⊢; exact gg)) SC (S ?_)
  cases rs_ h
  exact ag SC

theorem slL_5{a0:Dt}{a1:List Bool}{a2:List Bool}  {r:Sa}(h:slL_1 a0 a1 a2=some r):Sat ah 91 [((av false) a0),(.sl false 1 (a1.map B)),(.sl false 1 (a2.map B))] ((ao true) r):=by
 obtain⟨h,cs⟩:=Ro_ h
 unfold slL_1 at h
 refine au (nt:=85) (rs:=[.cell 6 39]) (n:=100000) Tryz.func91 rfl rfl rfl rfl (by simp) (S ?_)
 refine ai cs h (fun cs h=>S ?_) (fun cs h=>S ?_)
 ·obtain⟨v19,hv19,h⟩:=rb_ h
  refine ar (f:=B) hv19 SC (S ?_)
  refine ai cs h (fun cs h=>S ?_) (fun cs h=>S ?_)
  ·obtain⟨v28,hv28,h⟩:=rb_ h
   refine ar (f:=(al false)) hv28 SC (S ?_)
   obtain⟨v30,hv30,h⟩:=rb_ h
   refine aj [false] (slO_2 hv30) SC (S ?_)
   obtain⟨v32,hv32,h⟩:=rb_ h
   refine aQ (f:=(al true)) (fun a=>Ft.psize _ a) hv32 SC SC (S ?_)
   refine ae (DHa_ [] [480,481,496,512]) (S ?_)
   cases rs_ h
   exact ag SC
  ·cases rs_ h
   exact ag SC
 ·obtain⟨v40,hv40,h⟩:=rb_ h
  refine ar (f:=(al false)) hv40 SC (S ?_)
  obtain⟨v45,hv45,h⟩:=rb_ h
  refine ar (f:=B) hv45 SC (S ?_)
  refine ai cs h (fun cs h=>S ?_) (fun cs h=>S ?_)
  ·obtain⟨v50,hv50,h⟩:=rb_ h
   refine aj [false] (slO_2 hv50) SC (S ?_)
   obtain⟨v52,hv52,h⟩:=rb_ h
   refine aQ (f:=(al true)) (fun a=>Ft.psize _ a) hv52 SC SC (S ?_)
   refine ae (DHa_ [] [800,801,816,832]) (S ?_)
   refine ai cs h (fun cs h=>S ?_) (fun cs h=>S ?_)
   ·cases rs_ h
    exact ag SC
   ·refine aN (b:=false) (sz:=1) (es:=a2.map B) 2 SC fun hl2=>?_; rw[aC] at hl2
    replace h:=rl_ h
    refine aI h (fun i12 s12=>[(2,.val (.pv (.sl false 1 (a2.map B)))),(3,.box (.pv ((av false) a0))),(6,.box (.node [(.pv (.sl true 5 [])),(.pv (.sl true 5 []))])),(7,.box (.node [(.own 832),(.own 176)])),(8,.box (.pv ((al false) v40))),(9,.val (.pv (I (i12:Int))))]) (fun i12 s12=>[(832,(5,v52.map (al true))),(176,(5,([]).map (al false)))]) (Slm_ SC) (fun i12 s12 hi h=>?_) (fun s12 h=>?_)
    ·have w:=ws_ (i:=i12) (by omega)
     refine S ?_
     refine aG cs (by omega) (fun cs=>S ?_)
     obtain⟨v68,hv68,h⟩:=rb_ h
     refine ar (f:=(al false)) hv68 SC (S ?_)
     obtain⟨v71,hv71,h⟩:=rb_ h
     refine aj [false,false] (slS_5 hv71) SC (S ?_)
     refine ae (DHa_ [] []) (S ?_)
     refine ai cs h (fun cs h=>S ?_) (fun cs h=>S ?_)
     ·obtain⟨v74,hv74,h⟩:=rb_ h
      refine ar (f:=B) hv74 SC (S ?_)
      refine ai cs h (fun cs h=>S ?_) (fun cs h=>S ?_)
      ·obtain⟨v79,hv79,h⟩:=rb_ h
       refine aj [false] (slO_2 hv79) SC (S ?_)
       obtain⟨v81,hv81,h⟩:=rb_ h
       refine aQ (f:=(al true)) (fun a=>Ft.psize _ a) hv81 SC SC (S ?_)
       refine ae (DHa_ [] [1264,1265,1280,1296]) (S ?_)
       cases rs_ h
       exact ag SC
      ·cases rs_ h
       exact ag SC
     ·have h:=rs_ h
      refine aA ⟨_,h,?_⟩
      exact Slm_ SW
    ·refine S ?_
     refine aJ cs (by omega) (fun cs=>S ?_)
     cases rs_ h
     exact ag SC
  ·refine ai cs h (fun cs h=>S ?_) (fun cs h=>S ?_)
   ·cases rs_ h
    exact ag SC
   ·refine aN (b:=false) (sz:=1) (es:=a2.map B) 2 SC fun hl2=>?_; rw[aC] at hl2
    replace h:=rl_ h
    refine aI h (fun i12 s12=>[(2,.val (.pv (.sl false 1 (a2.map B)))),(3,.box (.pv ((av false) a0))),(6,.box (.node [(.pv (.sl true 5 [])),(.pv (.sl true 5 []))])),(7,.box (.node [(.own 160),(.own 176)])),(8,.box (.pv ((al false) v40))),(9,.val (.pv (I (i12:Int))))]) (fun i12 s12=>[(160,(5,([]).map (al false))),(176,(5,([]).map (al false)))]) (Slm_ SC) (fun i12 s12 hi h=>?_) (fun s12 h=>?_)
    ·have w:=ws_ (i:=i12) (by omega)
     refine S ?_
     refine aG cs (by omega) (fun cs=>S ?_)
     obtain⟨v68,hv68,h⟩:=rb_ h
     refine ar (f:=(al false)) hv68 SC (S ?_)
     obtain⟨v71,hv71,h⟩:=rb_ h
     refine aj [false,false] (slS_5 hv71) SC (S ?_)
     refine ae (DHa_ [] []) (S ?_)
     refine ai cs h (fun cs h=>S ?_) (fun cs h=>S ?_)
     ·obtain⟨v74,hv74,h⟩:=rb_ h
      refine ar (f:=B) hv74 SC (S ?_)
      refine ai cs h (fun cs h=>S ?_) (fun cs h=>S ?_)
      ·obtain⟨v79,hv79,h⟩:=rb_ h
       refine aj [false] (slO_2 hv79) SC (S ?_)
       obtain⟨v81,hv81,h⟩:=rb_ h
       refine aQ (f:=(al true)) (fun a=>Ft.psize _ a) hv81 SC SC (S ?_)
       refine ae (DHa_ [] [1264,1265,1280,1296]) (S ?_)
       cases rs_ h
       exact ag SC
      ·cases rs_ h
       exact ag SC
     ·have h:=rs_ h
      refine aA ⟨_,h,?_⟩
      exact Slm_ SW
    ·refine S ?_
     refine aJ cs (by omega) (fun cs=>S ?_)
     cases rs_ h
     exact ag SC

theorem slM_6{a0:Dt}{a1:List Bool}{a2:List Bool}  {r:Bool}(h:slM_3 a0 a1 a2=some r):Sat ah 86 [((av false) a0),(.sl false 1 (a1.map B)),(.sl false 1 (a2.map B))] (B r):=by
 obtain⟨h,cs⟩:=Ro_ h
 unfold slM_3 at h
 refine au (nt:=23) (rs:=[.tmp 6]) (n:=100000) Tryz.func86 rfl rfl rfl rfl (by simp) (S ?_)
 refine ai cs h (fun cs h=>S ?_) (fun cs h=>S ?_)
 ·cases rs_ h
  exact ag SC
 ·obtain⟨v12,hv12,h⟩:=rb_ h
  refine aj [false] (slO_6 hv12) SC (S ?_)
  refine ai cs h (fun cs h=>S ?_) (fun cs h=>S ?_)
  ·obtain⟨v16,hv16,h⟩:=rb_ h
   refine ar (f:=B) hv16 SC (S ?_)
   cases rs_ h
   exact ag SC
  ·obtain⟨v21,hv21,h⟩:=rb_ h
   refine ar (f:=B) hv21 SC (S ?_)
   cases rs_ h
   exact ag SC

theorem slR_2{a0:Dt}{a1:Bool}  {r:Int}(h:slR_1 a0 a1=some r):Sat ah 88 [((av false) a0),(B a1)] (I r):=by
 obtain⟨h,cs⟩:=Ro_ h
 unfold slR_1 at h
 refine au (nt:=20) (rs:=[.tmp 4]) (n:=100000) Tryz.func88 rfl rfl rfl rfl (by simp) (S ?_)
 refine ai cs h (fun cs h=>S ?_) (fun cs h=>S ?_)
 ·cases rs_ h
  exact ag SC
 ·refine ai cs h (fun cs h=>S ?_) (fun cs h=>S ?_)
  ·cases rs_ h
   exact ag SC
  ·refine ai cs h (fun cs h=>S ?_) (fun cs h=>S ?_)
   ·cases rs_ h
    exact ag SC
   ·refine ai cs h (fun cs h=>S ?_) (fun cs h=>S ?_)
    ·cases rs_ h
     exact ag SC
    ·refine ai cs h (fun cs h=>S ?_) (fun cs h=>S ?_)
     ·cases rs_ h
      exact ag SC
     ·obtain⟨v15,hv15,h⟩:=rb_ h
      refine aj [false] (slO_6 hv15) SC (S ?_)
      refine ai cs h (fun cs h=>S ?_) (fun cs h=>S ?_)
      ·cases rs_ h
       exact ag SC
      ·cases rs_ h
       exact ag SC

theorem slS_15{a0:List Bool}{a1:Int}{a2:Int}{a3:Bool}  {r:List Bool}(h:slS_9 a0 a1 a2 a3=some r):Sat ah 87 [(.sl false 1 (a0.map B)),(I a1),(I a2),(B a3)] (.sl true 1 (r.map B)):=by
 obtain⟨h,cs⟩:=Ro_ h
 unfold slS_9 at h
 refine au (nt:=37) (rs:=[.tmp 8]) (n:=100000) Tryz.func87 rfl rfl rfl rfl (by simp) (S ?_)
 refine aN (b:=false) (sz:=1) (es:=a0.map B) 0 SC fun hl0=>?_; rw[aC] at hl0
 replace h:=rl_ h
 refine aI h (fun i3 s3=>[(0,.val (.pv (.sl false 1 (a0.map B)))),(1,.val (.pv (I a1))),(2,.val (.pv (I a2))),(3,.val (.pv (B a3))),(9,.val (.own 176)),(10,.val (.pv (I (i3:Int))))]) (fun i3 s3=>[(176,(1,s3.map B))]) (Slm_ SC) (fun i3 s3 hi h=>?_) (fun s3 h=>?_)
 ·have w:=ws_ (i:=i3) (by omega)
  refine S ?_
  refine aG cs (by omega) (fun cs=>S ?_)
  refine ai cs h (fun cs h=>S ?_) (fun cs h=>S ?_)
  ·have h:=rs_ h
   refine aA ⟨_,h,?_⟩
   exact Slm_ SW
  ·obtain⟨v24,hv24,h⟩:=rb_ h
   refine ar (f:=B) hv24 SC (S ?_)
   obtain⟨v27,hv27,h⟩:=rb_ h
   refine aQ (f:=B) (fun _=>rfl) hv27 SC SC (S ?_)
   have h:=rs_ h
   refine aA ⟨_,h,?_⟩
   refine aT (Slm_1 (S:=[(0,.val (.pv (.sl false 1 (a0.map B)))),(1,.val (.pv (I a1))),(2,.val (.pv (I a2))),(3,.val (.pv (B a3))),(9,.val (.own 432)),(10,.val (.pv (I (IntKind.i64.wrap ((i3:Int)+(1:Int))))))]) (O:=[(432,(1,v27.map B))]) SW SW) ?_
   refine Slr_ 432 176 (by decide) NM ?_
   exact Slm_ SW
 ·refine S ?_
  refine aJ cs (by omega) (fun cs=>S ?_)
  replace h:=rl_ h
  refine Mg.whileN h (fun s7=>[(2,.val (.pv (I a2))),(3,.val (.pv (B a3))),(9,.val (.own 176))]) (fun s7=>[(176,(1,s7.map B))]) (Slm_ SC) (fun n7 s7 h=>?_)
  refine S ?_
  refine ai cs h (fun cs h=>S ?_) (fun cs h=>S ?_)
  ·obtain⟨v35,hv35,h⟩:=rb_ h
   refine aQ (f:=B) (fun _=>rfl) hv35 SC SC (S ?_)
   have h:=rs_ h
   refine aA ⟨_,h,?_⟩
   refine aT (Slm_1 (S:=[(2,.val (.pv (I a2))),(3,.val (.pv (B a3))),(9,.val (.own 560))]) (O:=[(560,(1,v35.map B))]) SC SC) ?_
   refine Slr_ 560 176 (by decide) NM ?_
   exact Slm_ SC
  ·have h:=rs_ h
   cases rs_ h
   exact ag SC

theorem slM_5{a0:Dt}{a1:Int}{a2:List Bool}{a3:List Bool}  {r:(List Bool)×(List Bool)}(h:slM_2 a0 a1 a2 a3=some r):Sat ah 54 [((av false) a0),(I a1),(.sl false 1 (a2.map B)),(.sl false 1 (a3.map B))] (.tup [(.sl true 1 (r.1.map B)),(.sl true 1 (r.2.map B))]):=by
 obtain⟨h,cs⟩:=Ro_ h
 unfold slM_2 at h
 refine au (nt:=38) (rs:=[.tmp 8,.tmp 9]) (n:=100000) Tryz.func54 rfl rfl rfl rfl (by simp) (S ?_)
 obtain⟨v15,hv15,h⟩:=rb_ h
 refine aj [false,false,false] (slM_6 hv15) SC (S ?_)
 obtain⟨v19,hv19,h⟩:=rb_ h
 refine ar (f:=(av false)) hv19 SC (S ?_)
 obtain⟨v24,hv24,h⟩:=rb_ h
 refine aj [false,false] (slR_2 hv24) SC (S ?_)
 obtain⟨v29,hv29,h⟩:=rb_ h
 refine aj [false,false,false,false] (slS_15 hv29) SC (S ?_)
 obtain⟨v32,hv32,h⟩:=rb_ h
 refine aj [false,false] (slR_2 hv32) SC (S ?_)
 obtain⟨v37,hv37,h⟩:=rb_ h
 refine aj [false,false,false,false] (slS_15 hv37) SC (S ?_)
 refine ae (DHa_ [] [464,592]) (S ?_)
 cases rs_ h
 exact ag SC

theorem slP_6{a0:List Sa}{a1:Sa}  {r:List Sa}(h:slP_2 a0 a1=some r):Sat ah 92 [(.sl true 2 (a0.map (ao false))),((ao false) a1)] (.sl true 2 (r.map (ao false))):=by
 obtain⟨h,cs⟩:=Ro_ h
 unfold slP_2 at h
 refine au (nt:=23) (rs:=[.tmp 4]) (n:=100000) Tryz.func92 rfl rfl rfl rfl (by simp) (S ?_)
 refine Mg.know_own (sz:=2) (es:=a0.map (ao false)) 9000 SC fun hl9000=>?_; rw[aC] at hl9000
 replace h:=rl_ h
 refine aI h (fun i2 s2=>[(0,.val (.own 9000)),(3,.box (.pv ((ao false) a1))),(5,.val (.pv (I (i2:Int))))]) (fun i2 s2=>[(9000,(2,a0.map (ao false)))]) (Slm_ SC) (fun i2 s2 hi h=>?_) (fun s2 h=>?_)
 ·have w:=ws_ (i:=i2) (by omega)
  refine S ?_
  refine aG cs (by omega) (fun cs=>S ?_)
  obtain⟨v14,hv14,h⟩:=rb_ h
  refine ar (f:=(ao false)) hv14 SC (S ?_)
  obtain⟨v15,hv15,h⟩:=rb_ h
  refine EldH.mk (f:=(ao false)) hv15 rfl SC (S ?_)
  obtain⟨v17,hv17,h⟩:=rb_ h
  refine aj [false,false] (slS_17 hv17) SC (S ?_)
  refine ae (DHa_ [] []) (S ?_)
  refine ai cs h (fun cs h=>S ?_) (fun cs h=>S ?_)
  ·cases rs_ h
   exact ag SC
  ·have h:=rs_ h
   refine aA ⟨_,h,?_⟩
   exact Slm_ SW
 ·refine S ?_
  refine aJ cs (by omega) (fun cs=>S ?_)
  obtain⟨v22,hv22,h⟩:=rb_ h
  refine aQ (f:=(ao false)) (fun a=>Sa.psize _ a) hv22 SC SC (S ?_)
  cases rs_ h
  exact ag SC

theorem slL_4(n:Nat):(∀ (a0:Dt) (a1:List Bool) (a2:List Bool) (r:(List Sa)×Bool),slL_ n a0 a1 a2=some r→Sat ah 58 [((av false) a0),(.sl false 1 (a1.map B)),(.sl false 1 (a2.map B))] (.tup [(.sl false 2 (r.1.map (ao false))),(B r.2)])):=by
 induction n with
 | zero=>exact fun _ _ _ _ h=>by simp[slL_] at h
 | succ n ih=>
  refine fun a0 a1 a2 r h=>?_
  obtain⟨h,cs⟩:=Ro_ h
  rw[slL_] at h
  refine au (nt:=159) (rs:=[.tmp 6,.tmp 7]) (n:=100000) Tryz.func58 rfl rfl rfl rfl (by simp) (S ?_)
  refine ai cs h (fun cs h=>S ?_) (fun cs h=>S ?_)
  ·obtain⟨v27,hv27,h⟩:=rb_ h
   refine aj [false,false,false] (slL_5 hv27) SC (S ?_)
   cases rs_ h
   exact aL SC
  ·obtain⟨v33,hv33,h⟩:=rb_ h
   refine aj [false,false,false,false] (slM_5 hv33) SC (S ?_)
   obtain⟨v39,hv39,h⟩:=rb_ h
   refine ar (f:=(av false)) hv39 SC (S ?_)
   obtain⟨v43,hv43,h⟩:=rb_ h
   refine aj [false,true,true] (bA (args:=[((av false) v39),(.sl true 1 (v33.1.map B)),(.sl true 1 (v33.2.map B))]) [false,true,true] (by have gg:=ih _ _ _ _ hv43; simp only[gv_t,gv_f,gv_n,vs_,va_,vl_,vrB_,vrI_,aF,RB,RS] at gg ⊢; exact gg)) SC (S ?_)
   refine ai cs h (fun cs h=>S ?_) (fun cs h=>S ?_)
   ·refine ai cs h (fun cs h=>S ?_) (fun cs h=>S ?_)
    ·cases rs_ h
     exact aL SC
    ·obtain⟨v60,hv60,h⟩:=rb_ h
     refine aj [false,false,false,false] (slM_5 hv60) SC (S ?_)
     obtain⟨v66,hv66,h⟩:=rb_ h
     refine ar (f:=(av false)) hv66 SC (S ?_)
     obtain⟨v70,hv70,h⟩:=rb_ h
     refine aj [false,true,true] (bA (args:=[((av false) v66),(.sl true 1 (v60.1.map B)),(.sl true 1 (v60.2.map B))]) [false,true,true] (by have gg:=ih _ _ _ _ hv70; simp only[gv_t,gv_f,gv_n,vs_,va_,vl_,vrB_,vrI_,aF,RB,RS] at gg ⊢; exact gg)) SC (S ?_)
     refine ai cs h (fun cs h=>S ?_) (fun cs h=>S ?_)
     ·obtain⟨v80,hv80,h⟩:=rb_ h
      refine aj [false,false,false] (slM_6 hv80) SC (S ?_)
      refine ai cs h (fun cs h=>S ?_) (fun cs h=>S ?_)
      ·refine aN (b:=false) (sz:=2) (es:=v43.1.map (ao false)) 10 SC fun hl10=>?_; rw[aC] at hl10
       replace h:=rl_ h
       refine aI h (fun i14 s14=>[(10,.val (.pv (.sl false 2 (v43.1.map (ao false))))),(12,.val (.pv (.sl false 2 (v70.1.map (ao false))))),(14,.val (.own 1216)),(15,.val (.pv (I (i14:Int))))]) (fun i14 s14=>[(1216,(2,s14.map (ao false)))]) (Slm_ SC) (fun i14 s14 hi h=>?_) (fun s14 h=>?_)
       ·have w:=ws_ (i:=i14) (by omega)
        refine S ?_
        refine aG cs (by omega) (fun cs=>S ?_)
        obtain⟨v90,hv90,h⟩:=rb_ h
        refine ar (f:=(ao false)) hv90 SC (S ?_)
        obtain⟨v92,hv92,h⟩:=rb_ h
        refine aj [true,false] (slP_6 hv92) SC (S ?_)
        have h:=rs_ h
        refine aA ⟨_,h,?_⟩
        refine aT (Slm_1 (S:=[(10,.val (.pv (.sl false 2 (v43.1.map (ao false))))),(12,.val (.pv (.sl false 2 (v70.1.map (ao false))))),(14,.val (.own 1472)),(15,.val (.pv (I (IntKind.i64.wrap ((i14:Int)+(1:Int))))))]) (O:=[(1472,(2,v92.map (ao false)))]) SW SW) ?_
        refine Slr_ 1472 1216 (by decide) NM ?_
        exact Slm_ SW
       ·refine S ?_
        refine aJ cs (by omega) (fun cs=>S ?_)
        refine aN (b:=false) (sz:=2) (es:=v70.1.map (ao false)) 12 SC fun hl12=>?_; rw[aC] at hl12
        replace h:=rl_ h
        refine aI h (fun i18 s18=>[(12,.val (.pv (.sl false 2 (v70.1.map (ao false))))),(14,.val (.own 1216)),(16,.val (.pv (I (i18:Int))))]) (fun i18 s18=>[(1216,(2,s18.map (ao false)))]) (Slm_ SC) (fun i18 s18 hi h=>?_) (fun s18 h=>?_)
        ·have w:=ws_ (i:=i18) (by omega)
         refine S ?_
         refine aG cs (by omega) (fun cs=>S ?_)
         obtain⟨v102,hv102,h⟩:=rb_ h
         refine ar (f:=(ao false)) hv102 SC (S ?_)
         obtain⟨v104,hv104,h⟩:=rb_ h
         refine aj [true,false] (slP_6 hv104) SC (S ?_)
         have h:=rs_ h
         refine aA ⟨_,h,?_⟩
         refine aT (Slm_1 (S:=[(12,.val (.pv (.sl false 2 (v70.1.map (ao false))))),(14,.val (.own 1664)),(16,.val (.pv (I (IntKind.i64.wrap ((i18:Int)+(1:Int))))))]) (O:=[(1664,(2,v104.map (ao false)))]) SW SW) ?_
         refine Slr_ 1664 1216 (by decide) NM ?_
         exact Slm_ SW
        ·refine S ?_
         refine aJ cs (by omega) (fun cs=>S ?_)
         refine Mg.know_own (sz:=2) (es:=s18.map (ao false)) 1216 SC fun hl1216=>?_; rw[aC] at hl1216
         replace h:=rl_ h
         refine aI h (fun i29 s29=>[(14,.val (.own 1216)),(19,.val (.pv (I (i29:Int))))]) (fun i29 s29=>[(1216,(2,s18.map (ao false)))]) (Slm_ SC) (fun i29 s29 hi h=>?_) (fun s29 h=>?_)
         ·have w:=ws_ (i:=i29) (by omega)
          refine S ?_
          refine aG cs (by omega) (fun cs=>S ?_)
          obtain⟨v150,hv150,h⟩:=rb_ h
          refine ar (f:=(ao false)) hv150 SC (S ?_)
          obtain⟨v151,hv151,h⟩:=rb_ h
          refine EldH.mk (f:=(ao false)) hv151 rfl SC (S ?_)
          obtain⟨v152,hv152,h⟩:=rb_ h
          refine aj [false] (slG_1 hv152) SC (S ?_)
          refine ai cs h (fun cs h=>S ?_) (fun cs h=>S ?_)
          ·have h:=rs_ h
           refine aA ⟨_,h,?_⟩
           exact Slm_ SW
          ·cases rs_ h
           exact aL SC
         ·refine S ?_
          refine aJ cs (by omega) (fun cs=>S ?_)
          cases rs_ h
          exact aL SC
      ·refine aN (b:=false) (sz:=2) (es:=v43.1.map (ao false)) 10 SC fun hl10=>?_; rw[aC] at hl10
       replace h:=rl_ h
       refine aI h (fun i22 s22=>[(10,.val (.pv (.sl false 2 (v43.1.map (ao false))))),(12,.val (.pv (.sl false 2 (v70.1.map (ao false))))),(14,.val (.own 1216)),(17,.val (.pv (I (i22:Int))))]) (fun i22 s22=>[(1216,(2,s22.map (ao false)))]) (Slm_ SC) (fun i22 s22 hi h=>?_) (fun s22 h=>?_)
       ·have w:=ws_ (i:=i22) (by omega)
        refine S ?_
        refine aG cs (by omega) (fun cs=>S ?_)
        refine aN (b:=false) (sz:=2) (es:=v70.1.map (ao false)) 12 SC fun hl12=>?_; rw[aC] at hl12
        replace h:=rl_ h
        refine aI h (fun i25 s25=>[(10,.val (.pv (.sl false 2 (v43.1.map (ao false))))),(12,.val (.pv (.sl false 2 (v70.1.map (ao false))))),(14,.val (.own 1216)),(17,.val (.pv (I (i22:Int)))),(18,.val (.pv (I (i25:Int))))]) (fun i25 s25=>[(1216,(2,s25.map (ao false)))]) (Slm_ SC) (fun i25 s25 hi h=>?_) (fun s25 h=>?_)
        ·have w:=ws_ (i:=i25) (by omega)
         refine S ?_
         refine aG cs (by omega) (fun cs=>S ?_)
         obtain⟨v120,hv120,h⟩:=rb_ h
         refine ar (f:=(ao false)) hv120 SC (S ?_)
         obtain⟨v125,hv125,h⟩:=rb_ h
         refine ar (f:=(ao false)) hv125 SC (S ?_)
         obtain⟨v128,hv128,h⟩:=rb_ h
         refine aj [false,false,false] (slC_1 hv128) SC (S ?_)
         obtain⟨v131,hv131,h⟩:=rb_ h
         refine ar (f:=(ao false)) hv131 SC (S ?_)
         obtain⟨v136,hv136,h⟩:=rb_ h
         refine ar (f:=(ao false)) hv136 SC (S ?_)
         obtain⟨v139,hv139,h⟩:=rb_ h
         refine aj [false,false,false] (slC_1 hv139) SC (S ?_)
         obtain⟨v141,hv141,h⟩:=rb_ h
         refine aj [true,true] (bA (args:=[(.sl true 2 (s25.map (ao false))),(.agg [(.sl true 5 (v128.map (al true))),(.sl true 5 (v139.map (al true)))])]) [false,true] (by have gg:=slP_6 hv141; simp only[gv_t,gv_f,gv_n,vs_,va_,vl_,vrB_,vrI_,aF,RB,RS] at gg ⊢; exact gg)) SC (S ?_)
         refine ae (DHa_ [] [2048,2224,2256]) (S ?_)
         have h:=rs_ h
         refine aA ⟨_,h,?_⟩
         refine aT (Slm_1 (S:=[(10,.val (.pv (.sl false 2 (v43.1.map (ao false))))),(12,.val (.pv (.sl false 2 (v70.1.map (ao false))))),(14,.val (.own 2256)),(17,.val (.pv (I (i22:Int)))),(18,.val (.pv (I (IntKind.i64.wrap ((i25:Int)+(1:Int))))))]) (O:=[(2256,(2,v141.map (ao false)))]) SW SW) ?_
         refine Slr_ 2256 1216 (by decide) NM ?_
         exact Slm_ SW
        ·refine S ?_
         refine aJ cs (by omega) (fun cs=>S ?_)
         have h:=rs_ h
         refine aA ⟨_,h,?_⟩
         exact Slm_ SW
       ·refine S ?_
        refine aJ cs (by omega) (fun cs=>S ?_)
        refine Mg.know_own (sz:=2) (es:=s22.map (ao false)) 1216 SC fun hl1216=>?_; rw[aC] at hl1216
        replace h:=rl_ h
        refine aI h (fun i29 s29=>[(14,.val (.own 1216)),(19,.val (.pv (I (i29:Int))))]) (fun i29 s29=>[(1216,(2,s22.map (ao false)))]) (Slm_ SC) (fun i29 s29 hi h=>?_) (fun s29 h=>?_)
        ·have w:=ws_ (i:=i29) (by omega)
         refine S ?_
         refine aG cs (by omega) (fun cs=>S ?_)
         obtain⟨v150,hv150,h⟩:=rb_ h
         refine ar (f:=(ao false)) hv150 SC (S ?_)
         obtain⟨v151,hv151,h⟩:=rb_ h
         refine EldH.mk (f:=(ao false)) hv151 rfl SC (S ?_)
         obtain⟨v152,hv152,h⟩:=rb_ h
         refine aj [false] (slG_1 hv152) SC (S ?_)
         refine ai cs h (fun cs h=>S ?_) (fun cs h=>S ?_)
         ·have h:=rs_ h
          refine aA ⟨_,h,?_⟩
          exact Slm_ SW
         ·cases rs_ h
          exact aL SC
        ·refine S ?_
         refine aJ cs (by omega) (fun cs=>S ?_)
         cases rs_ h
         exact aL SC
     ·cases rs_ h
      exact aL SC
   ·cases rs_ h
    exact aL SC
theorem slL_2{a0:Dt}{a1:List Bool}{a2:List Bool}{r:(List Sa)×Bool}(h:slL_3 a0 a1 a2=some r):Sat ah 58 [((av false) a0),(.sl false 1 (a1.map B)),(.sl false 1 (a2.map B))] (.tup [(.sl false 2 (r.1.map (ao false))),(B r.2)]):=by
 obtain⟨n,hn⟩:=ls_ h
 exact(slL_4 n) _ _ _ _ hn

theorem sCS_8{a0:Dt}  {r:(List Sa)×Bool}(h:sCS_5 a0=some r):Sat ah 23 [((av false) a0)] (.tup [(.sl false 2 (r.1.map (ao false))),(B r.2)]):=by
 obtain⟨h,cs⟩:=Ro_ h
 unfold sCS_5 at h
 refine au (nt:=29) (rs:=[.tmp 2,.tmp 3]) (n:=100000) Tryz.func23 rfl rfl rfl rfl (by simp) (S ?_)
 obtain⟨v7,hv7,h⟩:=rb_ h
 refine aj [false] (slV_5 hv7) SC (S ?_)
 refine ai cs h (fun cs h=>S ?_) (fun cs h=>S ?_)
 ·obtain⟨n16,hn16,h⟩:=rb_ h
  refine MknH.mk hn16 (S ?_)
  obtain⟨n21,hn21,h⟩:=rb_ h
  refine MknH.mk hn21 (S ?_)
  obtain⟨v22,hv22,h⟩:=rb_ h
  refine aj [false,true,true] (bA (args:=[((av false) a0),(.sl true 1 ((List.replicate n16 false).map B)),(.sl true 1 ((List.replicate n21 false).map B))]) [false,true,true] (by have gg:=slL_2 hv22; simp only[gv_t,gv_f,gv_n,vs_,va_,vl_,vrB_,vrI_,aF,RB,RS] at gg ⊢; exact gg)) SC (S ?_)
  refine ae (DHa_ [] [256,336]) (S ?_)
  refine ai cs h (fun cs h=>S ?_) (fun cs h=>S ?_)
  ·cases rs_ h
   exact aL SC
  ·cases rs_ h
   exact aL SC
 ·cases rs_ h
  exact aL SC

theorem irN_2(n:Nat):(∀ (a0:Dt) (r:Int),irN_ n a0=some r→Sat ah 118 [((av false) a0)] (I r)):=by
 induction n with
 | zero=>exact fun _ _ h=>by simp[irN_] at h
 | succ n ih=>
  refine fun a0 r h=>?_
  obtain⟨h,cs⟩:=Ro_ h
  rw[irN_] at h
  refine au (nt:=22) (rs:=[.tmp 2]) (n:=100000) Tryz.func118 rfl rfl rfl rfl (by simp) (S ?_)
  refine aN (b:=false) (sz:=12) (es:=a0.Parts.map (av false)) 7 SC fun hl7=>?_; rw[aC] at hl7
  replace h:=rl_ h
  refine aI h (fun i3 s3=>[(3,.val (.pv (I s3))),(7,.val (.pv (.sl false 12 (a0.Parts.map (av false))))),(8,.val (.pv (I (a0.Parts.length:Int)))),(9,.val (.pv (I (i3:Int))))]) (fun i3 s3=>[]) (Slm_ SC) (fun i3 s3 hi h=>?_) (fun s3 h=>?_)
  ·have w:=ws_ (i:=i3) (by omega)
   refine S ?_
   refine aG cs (by omega) (fun cs=>S ?_)
   obtain⟨v11,hv11,h⟩:=rb_ h
   refine ar (f:=(av false)) hv11 SC (S ?_)
   refine ai cs h (fun cs h=>S ?_) (fun cs h=>S ?_)
   ·cases rs_ h
    exact ag SC
   ·obtain⟨v18,hv18,h⟩:=rb_ h
    refine aj [false] (ih _ _ hv18) SC (S ?_)
    have h:=rs_ h
    refine aA ⟨_,h,?_⟩
    exact Slm_ SW
  ·refine S ?_
   refine aJ cs (by omega) (fun cs=>S ?_)
   cases rs_ h
   exact ag SC
theorem irN_3{a0:Dt}{r:Int}(h:irN_1 a0=some r):Sat ah 118 [((av false) a0)] (I r):=by
 obtain⟨n,hn⟩:=ls_ h
 exact(irN_2 n) _ _ hn

theorem isO_2(n:Nat):(∀ (a0:Ft) (r:Int),isO_ n a0=some r→Sat ah 82 [((al false) a0)] (I r)):=by
 induction n with
 | zero=>exact fun _ _ h=>by simp[isO_] at h
 | succ n ih=>
  refine fun a0 r h=>?_
  obtain⟨h,cs⟩:=Ro_ h
  rw[isO_] at h
  refine au (nt:=22) (rs:=[.tmp 2]) (n:=100000) Tryz.func82 rfl rfl rfl rfl (by simp) (S ?_)
  refine aN (b:=false) (sz:=5) (es:=a0.Parts.map (al false)) 7 SC fun hl7=>?_; rw[aC] at hl7
  replace h:=rl_ h
  refine aI h (fun i3 s3=>[(3,.val (.pv (I s3))),(7,.val (.pv (.sl false 5 (a0.Parts.map (al false))))),(8,.val (.pv (I (a0.Parts.length:Int)))),(9,.val (.pv (I (i3:Int))))]) (fun i3 s3=>[]) (Slm_ SC) (fun i3 s3 hi h=>?_) (fun s3 h=>?_)
  ·have w:=ws_ (i:=i3) (by omega)
   refine S ?_
   refine aG cs (by omega) (fun cs=>S ?_)
   obtain⟨v11,hv11,h⟩:=rb_ h
   refine ar (f:=(al false)) hv11 SC (S ?_)
   refine ai cs h (fun cs h=>S ?_) (fun cs h=>S ?_)
   ·cases rs_ h
    exact ag SC
   ·obtain⟨v18,hv18,h⟩:=rb_ h
    refine aj [false] (ih _ _ hv18) SC (S ?_)
    have h:=rs_ h
    refine aA ⟨_,h,?_⟩
    exact Slm_ SW
  ·refine S ?_
   refine aJ cs (by omega) (fun cs=>S ?_)
   cases rs_ h
   exact ag SC
theorem isO_3{a0:Ft}{r:Int}(h:isO_1 a0=some r):Sat ah 82 [((al false) a0)] (I r):=by
 obtain⟨n,hn⟩:=ls_ h
 exact(isO_2 n) _ _ hn

theorem iiQ_{a0:Int}  {r:Bool}(h:iiQ_2 a0=some r):Sat ah 134 [(I a0)] (B r):=by
 obtain⟨h,cs⟩:=Ro_ h
 unfold iiQ_2 at h
 refine au (nt:=9) (rs:=[.tmp 2]) (n:=100000) Tryz.func134 rfl rfl rfl rfl (by simp) (S ?_)
 refine ai cs h (fun cs h=>S ?_) (fun cs h=>S ?_)
 ·cases rs_ h
  exact ag SC
 ·cases rs_ h
  exact ag SC

theorem iiB_1{a0:Int}  {r:Bool}(h:iiB_ a0=some r):Sat ah 135 [(I a0)] (B r):=by
 obtain⟨h,cs⟩:=Ro_ h
 unfold iiB_ at h
 refine au (nt:=13) (rs:=[.tmp 2]) (n:=100000) Tryz.func135 rfl rfl rfl rfl (by simp) (S ?_)
 refine ai cs h (fun cs h=>S ?_) (fun cs h=>S ?_)
 ·cases rs_ h
  exact ag SC
 ·refine ai cs h (fun cs h=>S ?_) (fun cs h=>S ?_)
  ·cases rs_ h
   exact ag SC
  ·cases rs_ h
   exact ag SC

theorem iiU_1{a0:Int}  {r:Bool}(h:iiU_ a0=some r):Sat ah 155 [((Ik .u8) a0)] (B r):=by
 obtain⟨h,cs⟩:=Ro_ h
 unfold iiU_ at h
 refine au (nt:=9) (rs:=[.tmp 2]) (n:=100000) Tryz.func155 rfl rfl rfl rfl (by simp) (S ?_)
 refine ai cs h (fun cs h=>S ?_) (fun cs h=>S ?_)
 ·cases rs_ h
  exact ag SC
 ·cases rs_ h
  exact ag SC

theorem iiL_1{a0:Int}  {r:Bool}(h:iiL_ a0=some r):Sat ah 156 [((Ik .u8) a0)] (B r):=by
 obtain⟨h,cs⟩:=Ro_ h
 unfold iiL_ at h
 refine au (nt:=9) (rs:=[.tmp 2]) (n:=100000) Tryz.func156 rfl rfl rfl rfl (by simp) (S ?_)
 refine ai cs h (fun cs h=>S ?_) (fun cs h=>S ?_)
 ·cases rs_ h
  exact ag SC
 ·cases rs_ h
  exact ag SC

theorem iiD_1{a0:Int}  {r:Bool}(h:iiD_ a0=some r):Sat ah 157 [((Ik .u8) a0)] (B r):=by
 obtain⟨h,cs⟩:=Ro_ h
 unfold iiD_ at h
 refine au (nt:=9) (rs:=[.tmp 2]) (n:=100000) Tryz.func157 rfl rfl rfl rfl (by simp) (S ?_)
 refine ai cs h (fun cs h=>S ?_) (fun cs h=>S ?_)
 ·cases rs_ h
  exact ag SC
 ·cases rs_ h
  exact ag SC

theorem iws_{a0:Int}{a1:Int}{a2:Int}  {r:Bool}(h:iw_ a0 a1 a2=some r):Sat ah 56 [(I a0),(I a1),(I a2)] (B r):=by
 obtain⟨h,cs⟩:=Ro_ h
 unfold iw_ at h
 refine au (nt:=15) (rs:=[.tmp 6]) (n:=100000) Tryz.func56 rfl rfl rfl rfl (by simp) (S ?_)
 refine ai cs h (fun cs h=>S ?_) (fun cs h=>S ?_)
 ·cases rs_ h
  exact ag SC
 ·cases rs_ h
  exact ag SC

theorem iiV_1{a0:ByteArray}  {r:Bool}(h:iiV_ a0=some r):Sat ah 136 [(Sx a0)] (B r):=by
 obtain⟨h,cs⟩:=Ro_ h
 unfold iiV_ at h
 refine au (nt:=40) (rs:=[.tmp 2]) (n:=100000) Tryz.func136 rfl rfl rfl rfl (by simp) (S ?_)
 obtain⟨N2,hN2,h⟩:=rb_ h
 obtain⟨hN2a,hN2b⟩:=bs_ hN2
 replace h:=rl_ h
 refine aI h (fun i2 s2=>[(0,.val (.pv (Sx a0))),(5,.val (.pv (I (a0.size:Int)))),(6,.val (.pv (I (i2:Int))))]) (fun i2 s2=>[]) (Slm_ SC) (fun i2 s2 hi h=>?_) (fun s2 h=>?_)
 ·have w:=ws_ (i:=i2) (by omega)
  refine S ?_
  refine aG cs (by omega) (fun cs=>S ?_)
  refine ai cs h (fun cs h=>S ?_) (fun cs h=>S ?_)
  ·obtain⟨v14,hv14,h⟩:=rb_ h
   refine bz hv14 (S ?_)
   obtain⟨v15,hv15,h⟩:=rb_ h
   refine aj [false] (iiU_1 hv15) SC (S ?_)
   refine ai cs h (fun cs h=>S ?_) (fun cs h=>S ?_)
   ·refine ai cs h (fun cs h=>S ?_) (fun cs h=>S ?_)
    ·obtain⟨v24,hv24,h⟩:=rb_ h
     refine bz hv24 (S ?_)
     obtain⟨v25,hv25,h⟩:=rb_ h
     refine aj [false] (iiL_1 hv25) SC (S ?_)
     refine ai cs h (fun cs h=>S ?_) (fun cs h=>S ?_)
     ·have h:=rs_ h
      refine aA ⟨_,h,?_⟩
      exact Slm_ SW
     ·obtain⟨v31,hv31,h⟩:=rb_ h
      refine bz hv31 (S ?_)
      obtain⟨v32,hv32,h⟩:=rb_ h
      refine aj [false] (iiD_1 hv32) SC (S ?_)
      refine ai cs h (fun cs h=>S ?_) (fun cs h=>S ?_)
      ·have h:=rs_ h
       refine aA ⟨_,h,?_⟩
       exact Slm_ SW
      ·cases rs_ h
       exact ag SC
    ·have h:=rs_ h
     refine aA ⟨_,h,?_⟩
     exact Slm_ SW
   ·cases rs_ h
    exact ag SC
  ·refine ai cs h (fun cs h=>S ?_) (fun cs h=>S ?_)
   ·obtain⟨v24,hv24,h⟩:=rb_ h
    refine bz hv24 (S ?_)
    obtain⟨v25,hv25,h⟩:=rb_ h
    refine aj [false] (iiL_1 hv25) SC (S ?_)
    refine ai cs h (fun cs h=>S ?_) (fun cs h=>S ?_)
    ·have h:=rs_ h
     refine aA ⟨_,h,?_⟩
     exact Slm_ SW
    ·obtain⟨v31,hv31,h⟩:=rb_ h
     refine bz hv31 (S ?_)
     obtain⟨v32,hv32,h⟩:=rb_ h
     refine aj [false] (iiD_1 hv32) SC (S ?_)
     refine ai cs h (fun cs h=>S ?_) (fun cs h=>S ?_)
     ·have h:=rs_ h
      refine aA ⟨_,h,?_⟩
      exact Slm_ SW
     ·cases rs_ h
      exact ag SC
   ·have h:=rs_ h
    refine aA ⟨_,h,?_⟩
    exact Slm_ SW
 ·refine S ?_
  refine aJ cs (by omega) (fun cs=>S ?_)
  obtain⟨v39,hv39,h⟩:=rb_ h
  refine aj [false,false,false] (iws_ hv39) SC (S ?_)
  cases rs_ h
  exact ag SC

theorem iiE_1{a0:Tt}  {r:Bool}(h:iiE_ a0=some r):Sat ah 158 [((am false) a0)] (B r):=by
 obtain⟨h,cs⟩:=Ro_ h
 unfold iiE_ at h
 refine au (nt:=6) (rs:=[.tmp 2]) (n:=100000) Tryz.func158 rfl rfl rfl rfl (by simp) (S ?_)
 cases rs_ h
 exact ag SC

theorem isN_3(n:Nat):(∀ (a0:Tt) (r:Int),isN_1 n a0=some r→Sat ah 175 [((am false) a0)] (I r)):=by
 induction n with
 | zero=>exact fun _ _ h=>by simp[isN_1] at h
 | succ n ih=>
  refine fun a0 r h=>?_
  obtain⟨h,cs⟩:=Ro_ h
  rw[isN_1] at h
  refine au (nt:=22) (rs:=[.tmp 2]) (n:=100000) Tryz.func175 rfl rfl rfl rfl (by simp) (S ?_)
  refine aN (b:=false) (sz:=2) (es:=a0.Args.map (am false)) 7 SC fun hl7=>?_; rw[aC] at hl7
  replace h:=rl_ h
  refine aI h (fun i3 s3=>[(3,.val (.pv (I s3))),(7,.val (.pv (.sl false 2 (a0.Args.map (am false))))),(8,.val (.pv (I (a0.Args.length:Int)))),(9,.val (.pv (I (i3:Int))))]) (fun i3 s3=>[]) (Slm_ SC) (fun i3 s3 hi h=>?_) (fun s3 h=>?_)
  ·have w:=ws_ (i:=i3) (by omega)
   refine S ?_
   refine aG cs (by omega) (fun cs=>S ?_)
   obtain⟨v11,hv11,h⟩:=rb_ h
   refine ar (f:=(am false)) hv11 SC (S ?_)
   refine ai cs h (fun cs h=>S ?_) (fun cs h=>S ?_)
   ·cases rs_ h
    exact ag SC
   ·obtain⟨v18,hv18,h⟩:=rb_ h
    refine aj [false] (ih _ _ hv18) SC (S ?_)
    have h:=rs_ h
    refine aA ⟨_,h,?_⟩
    exact Slm_ SW
  ·refine S ?_
   refine aJ cs (by omega) (fun cs=>S ?_)
   cases rs_ h
   exact ag SC
theorem iss_1{a0:Tt}{r:Int}(h:is_2 a0=some r):Sat ah 175 [((am false) a0)] (I r):=by
 obtain⟨n,hn⟩:=ls_ h
 exact(isN_3 n) _ _ hn

theorem idN_1(n:Nat):(∀ (a0:Tt) (r:Int),idN_ n a0=some r→Sat ah 176 [((am false) a0)] (I r)):=by
 induction n with
 | zero=>exact fun _ _ h=>by simp[idN_] at h
 | succ n ih=>
  refine fun a0 r h=>?_
  obtain⟨h,cs⟩:=Ro_ h
  rw[idN_] at h
  refine au (nt:=20) (rs:=[.tmp 2]) (n:=100000) Tryz.func176 rfl rfl rfl rfl (by simp) (S ?_)
  refine aN (b:=false) (sz:=2) (es:=a0.Args.map (am false)) 7 SC fun hl7=>?_; rw[aC] at hl7
  replace h:=rl_ h
  refine aI h (fun i3 s3=>[(3,.val (.pv (I s3))),(7,.val (.pv (.sl false 2 (a0.Args.map (am false))))),(8,.val (.pv (I (a0.Args.length:Int)))),(9,.val (.pv (I (i3:Int))))]) (fun i3 s3=>[]) (Slm_ SC) (fun i3 s3 hi h=>?_) (fun s3 h=>?_)
  ·have w:=ws_ (i:=i3) (by omega)
   refine S ?_
   refine aG cs (by omega) (fun cs=>S ?_)
   obtain⟨v11,hv11,h⟩:=rb_ h
   refine ar (f:=(am false)) hv11 SC (S ?_)
   obtain⟨v15,hv15,h⟩:=rb_ h
   refine aj [false] (ih _ _ hv15) SC (S ?_)
   have h:=rs_ h
   refine aA ⟨_,h,?_⟩
   exact Slm_ SW
  ·refine S ?_
   refine aJ cs (by omega) (fun cs=>S ?_)
   cases rs_ h
   exact ag SC
theorem ids_{a0:Tt}{r:Int}(h:id_ a0=some r):Sat ah 176 [((am false) a0)] (I r):=by
 obtain⟨n,hn⟩:=ls_ h
 exact(idN_1 n) _ _ hn

theorem iiS_3{a0:Tt}  {r:Bool}(h:iiS_1 a0=some r):Sat ah 159 [((am false) a0)] (B r):=by
 obtain⟨h,cs⟩:=Ro_ h
 unfold iiS_1 at h
 refine au (nt:=11) (rs:=[.tmp 2]) (n:=100000) Tryz.func159 rfl rfl rfl rfl (by simp) (S ?_)
 obtain⟨v4,hv4,h⟩:=rb_ h
 refine aj [false] (iss_1 hv4) SC (S ?_)
 refine ai cs h (fun cs h=>S ?_) (fun cs h=>S ?_)
 ·obtain⟨v8,hv8,h⟩:=rb_ h
  refine aj [false] (ids_ hv8) SC (S ?_)
  cases rs_ h
  exact ag SC
 ·cases rs_ h
  exact ag SC

theorem irs_   {r:List ByteArray}(h:ir_  =some r):Sat ah 180 [] (.sl true 1 (r.map Sx)):=by
 obtain⟨h,cs⟩:=Ro_ h
 unfold ir_ at h
 refine au (nt:=2) (rs:=[.tmp 0]) (n:=100000) Tryz.func180 rfl rfl rfl rfl (by simp) (S ?_)
 cases rs_ h
 exact ag SC

theorem sIS_1{a0:List ByteArray}{a1:ByteArray}  {r:Int}(h:sIS_ a0 a1=some r):Sat ah 190 [(.sl false 1 (a0.map Sx)),(Sx a1)] (I r):=by
 obtain⟨h,cs⟩:=Ro_ h
 unfold sIS_ at h
 refine au (nt:=19) (rs:=[.tmp 4]) (n:=100000) Tryz.func190 rfl rfl rfl rfl (by simp) (S ?_)
 refine aN (b:=false) (sz:=1) (es:=a0.map Sx) 0 SC fun hl0=>?_; rw[aC] at hl0
 replace h:=rl_ h
 refine aI h (fun i2 s2=>[(0,.val (.pv (.sl false 1 (a0.map Sx)))),(1,.val (.pv (Sx a1))),(7,.val (.pv (I (a0.length:Int)))),(8,.val (.pv (I (i2:Int))))]) (fun i2 s2=>[]) (Slm_ SC) (fun i2 s2 hi h=>?_) (fun s2 h=>?_)
 ·have w:=ws_ (i:=i2) (by omega)
  refine S ?_
  refine aG cs (by omega) (fun cs=>S ?_)
  obtain⟨v14,hv14,h⟩:=rb_ h
  refine ar (f:=Sx) hv14 SC (S ?_)
  refine ai cs h (fun cs h=>S ?_) (fun cs h=>S ?_)
  ·cases rs_ h
   exact ag SC
  ·have h:=rs_ h
   refine aA ⟨_,h,?_⟩
   exact Slm_ SW
 ·refine S ?_
  refine aJ cs (by omega) (fun cs=>S ?_)
  cases rs_ h
  exact ag SC

theorem sCS_3{a0:List ByteArray}{a1:ByteArray}  {r:Bool}(h:sCS_1 a0 a1=some r):Sat ah 179 [(.sl false 1 (a0.map Sx)),(Sx a1)] (B r):=by
 obtain⟨h,cs⟩:=Ro_ h
 unfold sCS_1 at h
 refine au (nt:=9) (rs:=[.tmp 4]) (n:=100000) Tryz.func179 rfl rfl rfl rfl (by simp) (S ?_)
 obtain⟨v7,hv7,h⟩:=rb_ h
 refine aj [false,false] (sIS_1 hv7) SC (S ?_)
 cases rs_ h
 exact ag SC

theorem iiS_2{a0:ByteArray}  {r:Bool}(h:iiS_ a0=some r):Sat ah 161 [(Sx a0)] (B r):=by
 obtain⟨h,cs⟩:=Ro_ h
 unfold iiS_ at h
 refine au (nt:=48) (rs:=[.tmp 2]) (n:=100000) Tryz.func161 rfl rfl rfl rfl (by simp) (S ?_)
 obtain⟨N2,hN2,h⟩:=rb_ h
 obtain⟨hN2a,hN2b⟩:=bs_ hN2
 replace h:=rl_ h
 refine aI h (fun i2 s2=>[(0,.val (.pv (Sx a0))),(5,.val (.pv (I (a0.size:Int)))),(6,.val (.pv (I (i2:Int))))]) (fun i2 s2=>[]) (Slm_ SC) (fun i2 s2 hi h=>?_) (fun s2 h=>?_)
 ·have w:=ws_ (i:=i2) (by omega)
  refine S ?_
  refine aG cs (by omega) (fun cs=>S ?_)
  refine ai cs h (fun cs h=>S ?_) (fun cs h=>S ?_)
  ·obtain⟨v14,hv14,h⟩:=rb_ h
   refine bz hv14 (S ?_)
   obtain⟨v15,hv15,h⟩:=rb_ h
   refine aj [false] (iiL_1 hv15) SC (S ?_)
   refine ai cs h (fun cs h=>S ?_) (fun cs h=>S ?_)
   ·obtain⟨v21,hv21,h⟩:=rb_ h
    refine bz hv21 (S ?_)
    obtain⟨v22,hv22,h⟩:=rb_ h
    refine aj [false] (iiL_1 hv22) SC (S ?_)
    refine ai cs h (fun cs h=>S ?_) (fun cs h=>S ?_)
    ·have h:=rs_ h
     refine aA ⟨_,h,?_⟩
     exact Slm_ SW
    ·obtain⟨v27,hv27,h⟩:=rb_ h
     refine bz hv27 (S ?_)
     obtain⟨v28,hv28,h⟩:=rb_ h
     refine aj [false] (iiD_1 hv28) SC (S ?_)
     refine ai cs h (fun cs h=>S ?_) (fun cs h=>S ?_)
     ·have h:=rs_ h
      refine aA ⟨_,h,?_⟩
      exact Slm_ SW
     ·obtain⟨v34,hv34,h⟩:=rb_ h
      refine bz hv34 (S ?_)
      refine ai cs h (fun cs h=>S ?_) (fun cs h=>S ?_)
      ·have h:=rs_ h
       refine aA ⟨_,h,?_⟩
       exact Slm_ SW
      ·cases rs_ h
       exact ag SC
   ·cases rs_ h
    exact ag SC
  ·obtain⟨v21,hv21,h⟩:=rb_ h
   refine bz hv21 (S ?_)
   obtain⟨v22,hv22,h⟩:=rb_ h
   refine aj [false] (iiL_1 hv22) SC (S ?_)
   refine ai cs h (fun cs h=>S ?_) (fun cs h=>S ?_)
   ·have h:=rs_ h
    refine aA ⟨_,h,?_⟩
    exact Slm_ SW
   ·obtain⟨v27,hv27,h⟩:=rb_ h
    refine bz hv27 (S ?_)
    obtain⟨v28,hv28,h⟩:=rb_ h
    refine aj [false] (iiD_1 hv28) SC (S ?_)
    refine ai cs h (fun cs h=>S ?_) (fun cs h=>S ?_)
    ·have h:=rs_ h
     refine aA ⟨_,h,?_⟩
     exact Slm_ SW
    ·obtain⟨v34,hv34,h⟩:=rb_ h
     refine bz hv34 (S ?_)
     refine ai cs h (fun cs h=>S ?_) (fun cs h=>S ?_)
     ·have h:=rs_ h
      refine aA ⟨_,h,?_⟩
      exact Slm_ SW
     ·cases rs_ h
      exact ag SC
 ·refine S ?_
  refine aJ cs (by omega) (fun cs=>S ?_)
  obtain⟨v41,hv41,h⟩:=rb_ h
  refine aj [false,false,false] (iws_ hv41) SC (S ?_)
  refine ai cs h (fun cs h=>S ?_) (fun cs h=>S ?_)
  ·obtain⟨v43,hv43,h⟩:=rb_ h
   refine aj [] (irs_ hv43) SC (S ?_)
   obtain⟨v45,hv45,h⟩:=rb_ h
   refine aj [false,false] (sCS_3 hv45) SC (S ?_)
   cases rs_ h
   exact ag SC
  ·cases rs_ h
   exact ag SC

theorem sIF_5{a0:List Tt}{a1:Tt→Option Bool}{a1_id:FuncId}{a1_cs:List PV}(a1_ok:∀ y0 r,a1 y0=some r→Sat ah a1_id (((am false) y0)::a1_cs) (B r))(a1_cz:CapsOk a1_cs=True){r:Int}(h:sIF_3 a0 a1=some r):Sat ah 189 [(.sl false 2 (a0.map (am false))),.clo a1_id a1_cs] (I r):=by
 obtain⟨h,cs⟩:=Ro_ h
 unfold sIF_3 at h
 have cs:=ae a1_cz cs
 refine au (nt:=19) (rs:=[.tmp 4]) (n:=100000) Tryz.func189 rfl rfl rfl rfl (by simp) (S ?_)
 refine aN (b:=false) (sz:=2) (es:=a0.map (am false)) 0 SC fun hl0=>?_; rw[aC] at hl0
 replace h:=rl_ h
 refine aI h (fun i2 s2=>[(0,.val (.pv (.sl false 2 (a0.map (am false))))),(1,.val (.pv (.clo a1_id a1_cs))),(7,.val (.pv (I (a0.length:Int)))),(8,.val (.pv (I (i2:Int))))]) (fun i2 s2=>[]) (Slm_ SC) (fun i2 s2 hi h=>?_) (fun s2 h=>?_)
 ·have w:=ws_ (i:=i2) (by omega)
  refine S ?_
  refine aG cs (by omega) (fun cs=>S ?_)
  obtain⟨v14,hv14,h⟩:=rb_ h
  refine ar (f:=(am false)) hv14 SC (S ?_)
  obtain⟨v16,hv16,h⟩:=rb_ h
  refine aj [false] (a1_ok _ _ hv16) SC (S ?_)
  refine ai cs h (fun cs h=>S ?_) (fun cs h=>S ?_)
  ·cases rs_ h
   exact ag SC
  ·have h:=rs_ h
   refine aA ⟨_,h,?_⟩
   exact Slm_ SW
 ·refine S ?_
  refine aJ cs (by omega) (fun cs=>S ?_)
  cases rs_ h
  exact ag SC

theorem sCF_5{a0:List Tt}{a1:Tt→Option Bool}{a1_id:FuncId}{a1_cs:List PV}(a1_ok:∀ y0 r,a1 y0=some r→Sat ah a1_id (((am false) y0)::a1_cs) (B r))(a1_cz:CapsOk a1_cs=True){r:Bool}(h:sCF_4 a0 a1=some r):Sat ah 177 [(.sl false 2 (a0.map (am false))),.clo a1_id a1_cs] (B r):=by
 obtain⟨h,cs⟩:=Ro_ h
 unfold sCF_4 at h
 have cs:=ae a1_cz cs
 refine au (nt:=9) (rs:=[.tmp 4]) (n:=100000) Tryz.func177 rfl rfl rfl rfl (by simp) (S ?_)
 obtain⟨v7,hv7,h⟩:=rb_ h
 refine aj [false,false] (sIF_5 a1_ok a1_cz hv7) SC (S ?_)
 cases rs_ h
 exact ag SC

theorem ihN_4(n:Nat):(∀ (a0:Tt) (r:Bool),ihN_ n a0=some r→Sat ah 160 [((am false) a0)] (B r))∧(∀ (a0:Tt) (r:Bool),ihN_1 n a0=some r→Sat ah 178 [((am false) a0)] (B r)):=by
 induction n with
 | zero=>exact⟨fun _ _ h=>by simp[ihN_] at h,fun _ _ h=>by simp[ihN_1] at h⟩
 | succ n ih=>
  refine⟨fun a0 r h=>?_,fun a0 r h=>?_⟩
  ·obtain⟨h,cs⟩:=Ro_ h
   rw[ihN_] at h
   refine au (nt:=25) (rs:=[.tmp 2]) (n:=100000) Tryz.func160 rfl rfl rfl rfl (by simp) (S ?_)
   obtain⟨v5,hv5,h⟩:=rb_ h
   refine aj [false] (iiV_1 hv5) SC (S ?_)
   refine ai cs h (fun cs h=>S ?_) (fun cs h=>S ?_)
   ·cases rs_ h
    exact ag SC
   ·obtain⟨v12,hv12,h⟩:=rb_ h
    refine aj [false] (iiS_2 hv12) SC (S ?_)
    refine ai cs h (fun cs h=>S ?_) (fun cs h=>S ?_)
    ·refine ai cs h (fun cs h=>S ?_) (fun cs h=>S ?_)
     ·obtain⟨v22,hv22,h⟩:=rb_ h
      refine aj [false,false] (sCF_5 (fun _ _ hh=>ih.2 _ _ hh) (by simp only[COn_,COc_]) hv22) SC (S ?_)
      cases rs_ h
      exact ag SC
     ·cases rs_ h
      exact ag SC
    ·cases rs_ h
     exact ag SC
  ·obtain⟨h,cs⟩:=Ro_ h
   rw[ihN_1] at h
   refine au (nt:=6) (rs:=[.tmp 2]) (n:=100000) Tryz.func178 rfl rfl rfl rfl (by simp) (S ?_)
   obtain⟨v4,hv4,h⟩:=rb_ h
   refine aj [false] (ih.1 _ _ hv4) SC (S ?_)
   cases rs_ h
   exact ag SC
theorem ihN_3{a0:Tt}{r:Bool}(h:ihN_2 a0=some r):Sat ah 160 [((am false) a0)] (B r):=by
 obtain⟨n,hn⟩:=ls_ h
 exact(ihN_4 n).1 _ _ hn
theorem ihN_7{a0:Tt}{r:Bool}(h:ihN_6 a0=some r):Sat ah 178 [((am false) a0)] (B r):=by
 obtain⟨n,hn⟩:=ls_ h
 exact(ihN_4 n).2 _ _ hn

theorem iIV_10{a0:Tt}  {r:Bool}(h:iIV_7 a0=some r):Sat ah 162 [((am false) a0)] (B r):=by
 obtain⟨h,cs⟩:=Ro_ h
 unfold iIV_7 at h
 refine au (nt:=9) (rs:=[.tmp 2]) (n:=100000) Tryz.func162 rfl rfl rfl rfl (by simp) (S ?_)
 obtain⟨v4,hv4,h⟩:=rb_ h
 refine aj [false] (iiS_3 hv4) SC (S ?_)
 refine ai cs h (fun cs h=>S ?_) (fun cs h=>S ?_)
 ·obtain⟨v7,hv7,h⟩:=rb_ h
  refine aj [false] (ihN_3 hv7) SC (S ?_)
  cases rs_ h
  exact ag SC
 ·cases rs_ h
  exact ag SC

theorem iIV_{a0:Tt}  {r:Bool}(h:iIV_1 a0=some r):Sat ah 137 [((am false) a0)] (B r):=by
 obtain⟨h,cs⟩:=Ro_ h
 unfold iIV_1 at h
 refine au (nt:=34) (rs:=[.tmp 2]) (n:=100000) Tryz.func137 rfl rfl rfl rfl (by simp) (S ?_)
 obtain⟨v4,hv4,h⟩:=rb_ h
 refine aj [false] (iiE_1 hv4) SC (S ?_)
 refine ai cs h (fun cs h=>S ?_) (fun cs h=>S ?_)
 ·refine ai cs h (fun cs h=>S ?_) (fun cs h=>S ?_)
  ·obtain⟨v11,hv11,h⟩:=rb_ h
   refine aj [false] (iiS_3 hv11) SC (S ?_)
   refine ai cs h (fun cs h=>S ?_) (fun cs h=>S ?_)
   ·obtain⟨v16,hv16,h⟩:=rb_ h
    refine ar (f:=(am false)) hv16 SC (S ?_)
    obtain⟨v18,hv18,h⟩:=rb_ h
    refine aj [false] (ihN_3 hv18) SC (S ?_)
    refine ai cs h (fun cs h=>S ?_) (fun cs h=>S ?_)
    ·obtain⟨v23,hv23,h⟩:=rb_ h
     refine ar (f:=(am false)) hv23 SC (S ?_)
     obtain⟨v25,hv25,h⟩:=rb_ h
     refine aj [false] (ihN_3 hv25) SC (S ?_)
     cases rs_ h
     exact ag SC
    ·cases rs_ h
     exact ag SC
   ·cases rs_ h
    exact ag SC
  ·cases rs_ h
   exact ag SC
 ·obtain⟨v29,hv29,h⟩:=rb_ h
  refine aj [false] (iiS_2 hv29) SC (S ?_)
  refine ai cs h (fun cs h=>S ?_) (fun cs h=>S ?_)
  ·obtain⟨v32,hv32,h⟩:=rb_ h
   refine aj [false] (iIV_10 hv32) SC (S ?_)
   cases rs_ h
   exact ag SC
  ·cases rs_ h
   exact ag SC

theorem iiZ_{a0:Tt}  {r:Bool}(h:iiZ_1 a0=some r):Sat ah 138 [((am false) a0)] (B r):=by
 obtain⟨h,cs⟩:=Ro_ h
 unfold iiZ_1 at h
 refine au (nt:=12) (rs:=[.tmp 2]) (n:=100000) Tryz.func138 rfl rfl rfl rfl (by simp) (S ?_)
 refine ai cs h (fun cs h=>S ?_) (fun cs h=>S ?_)
 ·cases rs_ h
  exact ag SC
 ·cases rs_ h
  exact ag SC

theorem sIF_2{a0:List Ft}{a1:Ft→Option Bool}{a1_id:FuncId}{a1_cs:List PV}(a1_ok:∀ y0 r,a1 y0=some r→Sat ah a1_id (((al false) y0)::a1_cs) (B r))(a1_cz:CapsOk a1_cs=True){r:Int}(h:sIF_ a0 a1=some r):Sat ah 123 [(.sl false 5 (a0.map (al false))),.clo a1_id a1_cs] (I r):=by
 obtain⟨h,cs⟩:=Ro_ h
 unfold sIF_ at h
 have cs:=ae a1_cz cs
 refine au (nt:=19) (rs:=[.tmp 4]) (n:=100000) Tryz.func123 rfl rfl rfl rfl (by simp) (S ?_)
 refine aN (b:=false) (sz:=5) (es:=a0.map (al false)) 0 SC fun hl0=>?_; rw[aC] at hl0
 replace h:=rl_ h
 refine aI h (fun i2 s2=>[(0,.val (.pv (.sl false 5 (a0.map (al false))))),(1,.val (.pv (.clo a1_id a1_cs))),(7,.val (.pv (I (a0.length:Int)))),(8,.val (.pv (I (i2:Int))))]) (fun i2 s2=>[]) (Slm_ SC) (fun i2 s2 hi h=>?_) (fun s2 h=>?_)
 ·have w:=ws_ (i:=i2) (by omega)
  refine S ?_
  refine aG cs (by omega) (fun cs=>S ?_)
  obtain⟨v14,hv14,h⟩:=rb_ h
  refine ar (f:=(al false)) hv14 SC (S ?_)
  obtain⟨v16,hv16,h⟩:=rb_ h
  refine aj [false] (a1_ok _ _ hv16) SC (S ?_)
  refine ai cs h (fun cs h=>S ?_) (fun cs h=>S ?_)
  ·cases rs_ h
   exact ag SC
  ·have h:=rs_ h
   refine aA ⟨_,h,?_⟩
   exact Slm_ SW
 ·refine S ?_
  refine aJ cs (by omega) (fun cs=>S ?_)
  cases rs_ h
  exact ag SC

theorem sCF_1{a0:List Ft}{a1:Ft→Option Bool}{a1_id:FuncId}{a1_cs:List PV}(a1_ok:∀ y0 r,a1 y0=some r→Sat ah a1_id (((al false) y0)::a1_cs) (B r))(a1_cz:CapsOk a1_cs=True){r:Bool}(h:sCF_ a0 a1=some r):Sat ah 132 [(.sl false 5 (a0.map (al false))),.clo a1_id a1_cs] (B r):=by
 obtain⟨h,cs⟩:=Ro_ h
 unfold sCF_ at h
 have cs:=ae a1_cz cs
 refine au (nt:=9) (rs:=[.tmp 4]) (n:=100000) Tryz.func132 rfl rfl rfl rfl (by simp) (S ?_)
 obtain⟨v7,hv7,h⟩:=rb_ h
 refine aj [false,false] (sIF_2 a1_ok a1_cz hv7) SC (S ?_)
 cases rs_ h
 exact ag SC

end Go.Proofs.YtkoghcphkdecoaaGreat
