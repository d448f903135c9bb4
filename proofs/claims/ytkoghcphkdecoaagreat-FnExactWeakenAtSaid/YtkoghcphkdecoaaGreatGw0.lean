/- Lemmas of the proof; each says what it shows. -/
import Derived.Test.YtkoghcphkdecoaaGreatGm
import Derived.Test.YtkoghcphkdecoaaGreatGf
import Derived.Test.YtkoghcphkdecoaaGreatGsrt
import Derived.Test.YtkoghcphkdecoaaGreatGjnv
set_option linter.unusedSimpArgs false
set_option linter.unusedVariables false
set_option linter.defProp false
set_option maxRecDepth 4000
namespace Go.Proofs.YtkoghcphkdecoaaGreat
open Go.Av
open And renaming intro→ag
open AppH renaming mk→aO
open CallH renaming mk→ai
open CondH renaming run→ak,t2→aD,f2→aE
open Dt renaming pv→al
open FinH renaming l→ah,r→aL
open Ft renaming pv→ae
open IdxH renaming mk→ar
open List renaming length_map→aB
open Mg renaming know_sl→aR,forN→aF
open PV renaming views→aI
open RdH renaming mk→aA
open Sa renaming pv→aP
open Sat renaming of_m→av
open SidxH renaming mk→bB
open St renaming le_trans→aM
open Tryz renaming prog→aj
open Tt renaming pv→am
set_option maxHeartbeats 4000000
theorem sTN_1(n:Nat):(∀ (a0:Tt) (a1:Int) (r:Int),sTN_ n a0 a1=some r→Sat aj 38 [((am false) a0),(I a1)] (I r))∧(∀ (a0:List Tt) (a1:Int) (r:Int),sTS_ n a0 a1=some r→Sat aj 76 [(.sl false 2 (a0.map (am false))),(I a1)] (I r)):=by
 induction n with
 | zero=>exact⟨fun _ _ _ h=>by simp[sTN_] at h,fun _ _ _ h=>by simp[sTS_] at h⟩
 | succ n ih=>
  refine⟨fun a0 a1 r h=>?_,fun a0 a1 r h=>?_⟩
  ·obtain⟨h,cs⟩:=Ro_ h
   rw[sTN_] at h
   refine av (nt:=19) (rs:=[.tmp 4]) (n:=100000) Tryz.func38 rfl rfl rfl rfl (by simp) (S ?_)
   refine ak cs h (fun cs h=>S ?_) (fun cs h=>S ?_)
   ·cases rs_ h
    exact ah SC
   ·obtain⟨v15,hv15,h⟩:=rb_ h
    refine ai [false,false] (ih.2 _ _ _ hv15) SC (S ?_)
    refine ak cs h (fun cs h=>S ?_) (fun cs h=>S ?_)
    ·cases rs_ h
     exact ah SC
    ·cases rs_ h
     exact ah SC
  ·obtain⟨h,cs⟩:=Ro_ h
   rw[sTS_] at h
   refine av (nt:=27) (rs:=[.tmp 4]) (n:=100000) Tryz.func76 rfl rfl rfl rfl (by simp) (S ?_)
   refine ak cs h (fun cs h=>S ?_) (fun cs h=>S ?_)
   ·cases rs_ h
    exact ah SC
   ·refine aR (b:=false) (sz:=2) (es:=a0.map (am false)) 0 SC fun hl0=>?_; rw[aB] at hl0
    replace h:=rl_ h
    refine aF h (fun i5 s5=>[(0,.val (.pv (.sl false 2 (a0.map (am false))))),(1,.val (.pv (I s5))),(5,.val (.pv (I (i5:Int))))]) (fun i5 s5=>[]) (Slm_ SC) (fun i5 s5 hi h=>?_) (fun s5 h=>?_)
    ·have w:=ws_ (i:=i5) (by omega)
     refine S ?_
     refine aD cs (by omega) (fun cs=>S ?_)
     obtain⟨v20,hv20,h⟩:=rb_ h
     refine ar (f:=(am false)) hv20 SC (S ?_)
     obtain⟨v23,hv23,h⟩:=rb_ h
     refine ai [false,false] (ih.1 _ _ _ hv23) SC (S ?_)
     refine ak cs h (fun cs h=>S ?_) (fun cs h=>S ?_)
     ·cases rs_ h
      exact ah SC
     ·have h:=rs_ h
      refine aA ⟨_,h,?_⟩
      exact Slm_ SW
    ·refine S ?_
     refine aE cs (by omega) (fun cs=>S ?_)
     cases rs_ h
     exact ah SC
theorem sTs_{a0:Tt}{a1:Int}{r:Int}(h:sT_1 a0 a1=some r):Sat aj 38 [((am false) a0),(I a1)] (I r):=by
 obtain⟨n,hn⟩:=ls_ h
 exact(sTN_1 n).1 _ _ _ hn
theorem sTS_2{a0:List Tt}{a1:Int}{r:Int}(h:sTS_1 a0 a1=some r):Sat aj 76 [(.sl false 2 (a0.map (am false))),(I a1)] (I r):=by
 obtain⟨n,hn⟩:=ls_ h
 exact(sTN_1 n).2 _ _ _ hn

theorem sFN_1(n:Nat):(∀ (a0:Ft) (a1:Int) (r:Int),sFN_ n a0 a1=some r→Sat aj 28 [((ae false) a0),(I a1)] (I r))∧(∀ (a0:List Ft) (a1:Int) (r:Int),sFS_ n a0 a1=some r→Sat aj 63 [(.sl false 5 (a0.map (ae false))),(I a1)] (I r)):=by
 induction n with
 | zero=>exact⟨fun _ _ _ h=>by simp[sFN_] at h,fun _ _ _ h=>by simp[sFS_] at h⟩
 | succ n ih=>
  refine⟨fun a0 a1 r h=>?_,fun a0 a1 r h=>?_⟩
  ·obtain⟨h,cs⟩:=Ro_ h
   rw[sFN_] at h
   refine av (nt:=25) (rs:=[.tmp 4]) (n:=100000) Tryz.func28 rfl rfl rfl rfl (by simp) (S ?_)
   obtain⟨v8,hv8,h⟩:=rb_ h
   refine ai [false,false] (sTs_ hv8) SC (S ?_)
   refine ak cs h (fun cs h=>S ?_) (fun cs h=>S ?_)
   ·cases rs_ h
    exact ah SC
   ·refine ak cs h (fun cs h=>S ?_) (fun cs h=>S ?_)
    ·cases rs_ h
     exact ah SC
    ·obtain⟨v21,hv21,h⟩:=rb_ h
     refine ai [false,false] (ih.2 _ _ _ hv21) SC (S ?_)
     refine ak cs h (fun cs h=>S ?_) (fun cs h=>S ?_)
     ·cases rs_ h
      exact ah SC
     ·cases rs_ h
      exact ah SC
  ·obtain⟨h,cs⟩:=Ro_ h
   rw[sFS_] at h
   refine av (nt:=27) (rs:=[.tmp 4]) (n:=100000) Tryz.func63 rfl rfl rfl rfl (by simp) (S ?_)
   refine ak cs h (fun cs h=>S ?_) (fun cs h=>S ?_)
   ·cases rs_ h
    exact ah SC
   ·refine aR (b:=false) (sz:=5) (es:=a0.map (ae false)) 0 SC fun hl0=>?_; rw[aB] at hl0
    replace h:=rl_ h
    refine aF h (fun i5 s5=>[(0,.val (.pv (.sl false 5 (a0.map (ae false))))),(1,.val (.pv (I s5))),(5,.val (.pv (I (i5:Int))))]) (fun i5 s5=>[]) (Slm_ SC) (fun i5 s5 hi h=>?_) (fun s5 h=>?_)
    ·have w:=ws_ (i:=i5) (by omega)
     refine S ?_
     refine aD cs (by omega) (fun cs=>S ?_)
     obtain⟨v20,hv20,h⟩:=rb_ h
     refine ar (f:=(ae false)) hv20 SC (S ?_)
     obtain⟨v23,hv23,h⟩:=rb_ h
     refine ai [false,false] (ih.1 _ _ _ hv23) SC (S ?_)
     refine ak cs h (fun cs h=>S ?_) (fun cs h=>S ?_)
     ·cases rs_ h
      exact ah SC
     ·have h:=rs_ h
      refine aA ⟨_,h,?_⟩
      exact Slm_ SW
    ·refine S ?_
     refine aE cs (by omega) (fun cs=>S ?_)
     cases rs_ h
     exact ah SC
theorem sFs_{a0:Ft}{a1:Int}{r:Int}(h:sF_ a0 a1=some r):Sat aj 28 [((ae false) a0),(I a1)] (I r):=by
 obtain⟨n,hn⟩:=ls_ h
 exact(sFN_1 n).1 _ _ _ hn
theorem sFS_2{a0:List Ft}{a1:Int}{r:Int}(h:sFS_1 a0 a1=some r):Sat aj 63 [(.sl false 5 (a0.map (ae false))),(I a1)] (I r):=by
 obtain⟨n,hn⟩:=ls_ h
 exact(sFN_1 n).2 _ _ _ hn

theorem sSs_{a0:Sa}{a1:Int}  {r:Int}(h:sS_ a0 a1=some r):Sat aj 37 [((aP false) a0),(I a1)] (I r):=by
 obtain⟨h,cs⟩:=Ro_ h
 unfold sS_ at h
 refine av (nt:=18) (rs:=[.tmp 4]) (n:=100000) Tryz.func37 rfl rfl rfl rfl (by simp) (S ?_)
 obtain⟨v8,hv8,h⟩:=rb_ h
 refine ai [false,false] (sFS_2 hv8) SC (S ?_)
 refine ak cs h (fun cs h=>S ?_) (fun cs h=>S ?_)
 ·cases rs_ h
  exact ah SC
 ·obtain⟨v14,hv14,h⟩:=rb_ h
  refine ai [false,false] (sFS_2 hv14) SC (S ?_)
  refine ak cs h (fun cs h=>S ?_) (fun cs h=>S ?_)
  ·cases rs_ h
   exact ah SC
  ·cases rs_ h
   exact ah SC

theorem sDN_1(n:Nat):(∀ (a0:Dt) (a1:Int) (r:Int),sDN_ n a0 a1=some r→Sat aj 8 [((al false) a0),(I a1)] (I r))∧(∀ (a0:List Dt) (a1:Int) (r:Int),sDS_ n a0 a1=some r→Sat aj 39 [(.sl false 12 (a0.map (al false))),(I a1)] (I r)):=by
 induction n with
 | zero=>exact⟨fun _ _ _ h=>by simp[sDN_] at h,fun _ _ _ h=>by simp[sDS_] at h⟩
 | succ n ih=>
  refine⟨fun a0 a1 r h=>?_,fun a0 a1 r h=>?_⟩
  ·obtain⟨h,cs⟩:=Ro_ h
   rw[sDN_] at h
   refine av (nt:=30) (rs:=[.tmp 4]) (n:=100000) Tryz.func8 rfl rfl rfl rfl (by simp) (S ?_)
   obtain⟨v8,hv8,h⟩:=rb_ h
   refine ai [false,false] (sSs_ hv8) SC (S ?_)
   refine ak cs h (fun cs h=>S ?_) (fun cs h=>S ?_)
   ·cases rs_ h
    exact ah SC
   ·obtain⟨v14,hv14,h⟩:=rb_ h
    refine ai [false,false] (sTs_ hv14) SC (S ?_)
    refine ak cs h (fun cs h=>S ?_) (fun cs h=>S ?_)
    ·cases rs_ h
     exact ah SC
    ·obtain⟨v20,hv20,h⟩:=rb_ h
     refine ai [false,false] (sFs_ hv20) SC (S ?_)
     refine ak cs h (fun cs h=>S ?_) (fun cs h=>S ?_)
     ·cases rs_ h
      exact ah SC
     ·obtain⟨v26,hv26,h⟩:=rb_ h
      refine ai [false,false] (ih.2 _ _ _ hv26) SC (S ?_)
      refine ak cs h (fun cs h=>S ?_) (fun cs h=>S ?_)
      ·cases rs_ h
       exact ah SC
      ·cases rs_ h
       exact ah SC
  ·obtain⟨h,cs⟩:=Ro_ h
   rw[sDS_] at h
   refine av (nt:=27) (rs:=[.tmp 4]) (n:=100000) Tryz.func39 rfl rfl rfl rfl (by simp) (S ?_)
   refine ak cs h (fun cs h=>S ?_) (fun cs h=>S ?_)
   ·cases rs_ h
    exact ah SC
   ·refine aR (b:=false) (sz:=12) (es:=a0.map (al false)) 0 SC fun hl0=>?_; rw[aB] at hl0
    replace h:=rl_ h
    refine aF h (fun i5 s5=>[(0,.val (.pv (.sl false 12 (a0.map (al false))))),(1,.val (.pv (I s5))),(5,.val (.pv (I (i5:Int))))]) (fun i5 s5=>[]) (Slm_ SC) (fun i5 s5 hi h=>?_) (fun s5 h=>?_)
    ·have w:=ws_ (i:=i5) (by omega)
     refine S ?_
     refine aD cs (by omega) (fun cs=>S ?_)
     obtain⟨v20,hv20,h⟩:=rb_ h
     refine ar (f:=(al false)) hv20 SC (S ?_)
     obtain⟨v23,hv23,h⟩:=rb_ h
     refine ai [false,false] (ih.1 _ _ _ hv23) SC (S ?_)
     refine ak cs h (fun cs h=>S ?_) (fun cs h=>S ?_)
     ·cases rs_ h
      exact ah SC
     ·have h:=rs_ h
      refine aA ⟨_,h,?_⟩
      exact Slm_ SW
    ·refine S ?_
     refine aE cs (by omega) (fun cs=>S ?_)
     cases rs_ h
     exact ah SC
theorem sDs_{a0:Dt}{a1:Int}{r:Int}(h:sD_ a0 a1=some r):Sat aj 8 [((al false) a0),(I a1)] (I r):=by
 obtain⟨n,hn⟩:=ls_ h
 exact(sDN_1 n).1 _ _ _ hn
theorem sDS_2{a0:List Dt}{a1:Int}{r:Int}(h:sDS_1 a0 a1=some r):Sat aj 39 [(.sl false 12 (a0.map (al false))),(I a1)] (I r):=by
 obtain⟨n,hn⟩:=ls_ h
 exact(sDN_1 n).2 _ _ _ hn

theorem tTN_1(n:Nat):(∀ (a0:Tt) (r:Tt),tTN_ n a0=some r→Sat aj 43 [((am false) a0)] ((am true) r))∧(∀ (a0:List Tt) (r:List Tt),tTS_ n a0=some r→Sat aj 80 [(.sl false 2 (a0.map (am false)))] (.sl true 2 (r.map (am true)))):=by
 induction n with
 | zero=>exact⟨fun _ _ h=>by simp[tTN_] at h,fun _ _ h=>by simp[tTS_] at h⟩
 | succ n ih=>
  refine⟨fun a0 r h=>?_,fun a0 r h=>?_⟩
  ·obtain⟨h,cs⟩:=Ro_ h
   rw[tTN_] at h
   refine av (nt:=12) (rs:=[.cell 2 42]) (n:=100000) Tryz.func43 rfl rfl rfl rfl (by simp) (S ?_)
   obtain⟨v9,hv9,h⟩:=rb_ h
   refine ai [false] (ih.2 _ _ hv9) SC (S ?_)
   cases rs_ h
   exact ah SC
  ·obtain⟨h,cs⟩:=Ro_ h
   rw[tTS_] at h
   refine av (nt:=23) (rs:=[.tmp 2]) (n:=100000) Tryz.func80 rfl rfl rfl rfl (by simp) (S ?_)
   obtain⟨n7,hn7,h⟩:=rb_ h
   refine MknH.mk hn7 (S ?_)
   refine aR (b:=false) (sz:=2) (es:=a0.map (am false)) 0 SC fun hl0=>?_; rw[aB] at hl0
   replace h:=rl_ h
   refine aF h (fun i3 s3=>[(0,.val (.pv (.sl false 2 (a0.map (am false))))),(3,.val (.own 112)),(4,.val (.pv (I (i3:Int))))]) (fun i3 s3=>[(112,(2,s3.map (am true)))]) (Slm_ SC) (fun i3 s3 hi h=>?_) (fun s3 h=>?_)
   ·have w:=ws_ (i:=i3) (by omega)
    refine S ?_
    refine aD cs (by omega) (fun cs=>S ?_)
    obtain⟨v18,hv18,h⟩:=rb_ h
    refine ar (f:=(am false)) hv18 SC (S ?_)
    obtain⟨v20,hv20,h⟩:=rb_ h
    refine ai [false] (ih.1 _ _ hv20) SC (S ?_)
    obtain⟨v21,hv21,h⟩:=rb_ h
    refine ar (f:=(am true)) hv21 SC (S ?_)
    obtain⟨w2,hw2,h⟩:=rb_ h
    refine EldH.mk (f:=(am true)) hw2 rfl SC (S ?_)
    have h:=rs_ h
    refine aA ⟨_,h,?_⟩
    exact Slm_ SW
   ·refine S ?_
    refine aE cs (by omega) (fun cs=>S ?_)
    cases rs_ h
    exact ah SC
theorem tTs_{a0:Tt}{r:Tt}(h:tT_ a0=some r):Sat aj 43 [((am false) a0)] ((am true) r):=by
 obtain⟨n,hn⟩:=ls_ h
 exact(tTN_1 n).1 _ _ hn
theorem tTS_2{a0:List Tt}{r:List Tt}(h:tTS_1 a0=some r):Sat aj 80 [(.sl false 2 (a0.map (am false)))] (.sl true 2 (r.map (am true))):=by
 obtain⟨n,hn⟩:=ls_ h
 exact(tTN_1 n).2 _ _ hn

theorem tFN_1(n:Nat):(∀ (a0:Ft) (r:Ft),tFN_ n a0=some r→Sat aj 30 [((ae false) a0)] ((ae true) r))∧(∀ (a0:List Ft) (r:List Ft),tFS_ n a0=some r→Sat aj 66 [(.sl false 5 (a0.map (ae false)))] (.sl true 5 (r.map (ae true)))):=by
 induction n with
 | zero=>exact⟨fun _ _ h=>by simp[tFN_] at h,fun _ _ h=>by simp[tFS_] at h⟩
 | succ n ih=>
  refine⟨fun a0 r h=>?_,fun a0 r h=>?_⟩
  ·obtain⟨h,cs⟩:=Ro_ h
   rw[tFN_] at h
   refine av (nt:=19) (rs:=[.cell 2 44]) (n:=100000) Tryz.func30 rfl rfl rfl rfl (by simp) (S ?_)
   obtain⟨v9,hv9,h⟩:=rb_ h
   refine ai [false] (tTs_ hv9) SC (S ?_)
   obtain⟨v16,hv16,h⟩:=rb_ h
   refine ai [false] (ih.2 _ _ hv16) SC (S ?_)
   cases rs_ h
   exact ah SC
  ·obtain⟨h,cs⟩:=Ro_ h
   rw[tFS_] at h
   refine av (nt:=23) (rs:=[.tmp 2]) (n:=100000) Tryz.func66 rfl rfl rfl rfl (by simp) (S ?_)
   obtain⟨n7,hn7,h⟩:=rb_ h
   refine MknH.mk hn7 (S ?_)
   refine aR (b:=false) (sz:=5) (es:=a0.map (ae false)) 0 SC fun hl0=>?_; rw[aB] at hl0
   replace h:=rl_ h
   refine aF h (fun i3 s3=>[(0,.val (.pv (.sl false 5 (a0.map (ae false))))),(3,.val (.own 112)),(4,.val (.pv (I (i3:Int))))]) (fun i3 s3=>[(112,(5,s3.map (ae true)))]) (Slm_ SC) (fun i3 s3 hi h=>?_) (fun s3 h=>?_)
   ·have w:=ws_ (i:=i3) (by omega)
    refine S ?_
    refine aD cs (by omega) (fun cs=>S ?_)
    obtain⟨v18,hv18,h⟩:=rb_ h
    refine ar (f:=(ae false)) hv18 SC (S ?_)
    obtain⟨v20,hv20,h⟩:=rb_ h
    refine ai [false] (ih.1 _ _ hv20) SC (S ?_)
    obtain⟨v21,hv21,h⟩:=rb_ h
    refine ar (f:=(ae true)) hv21 SC (S ?_)
    obtain⟨w2,hw2,h⟩:=rb_ h
    refine EldH.mk (f:=(ae true)) hw2 rfl SC (S ?_)
    have h:=rs_ h
    refine aA ⟨_,h,?_⟩
    exact Slm_ SW
   ·refine S ?_
    refine aE cs (by omega) (fun cs=>S ?_)
    cases rs_ h
    exact ah SC
theorem tFs_{a0:Ft}{r:Ft}(h:tF_ a0=some r):Sat aj 30 [((ae false) a0)] ((ae true) r):=by
 obtain⟨n,hn⟩:=ls_ h
 exact(tFN_1 n).1 _ _ hn
theorem tFS_2{a0:List Ft}{r:List Ft}(h:tFS_1 a0=some r):Sat aj 66 [(.sl false 5 (a0.map (ae false)))] (.sl true 5 (r.map (ae true))):=by
 obtain⟨n,hn⟩:=ls_ h
 exact(tFN_1 n).2 _ _ hn

theorem tSs_{a0:Sa}  {r:Sa}(h:tS_ a0=some r):Sat aj 42 [((aP false) a0)] ((aP true) r):=by
 obtain⟨h,cs⟩:=Ro_ h
 unfold tS_ at h
 refine av (nt:=13) (rs:=[.cell 2 39]) (n:=100000) Tryz.func42 rfl rfl rfl rfl (by simp) (S ?_)
 obtain⟨v6,hv6,h⟩:=rb_ h
 refine ai [false] (tFS_2 hv6) SC (S ?_)
 obtain⟨v10,hv10,h⟩:=rb_ h
 refine ai [false] (tFS_2 hv10) SC (S ?_)
 cases rs_ h
 exact ah SC

theorem tDN_1(n:Nat):(∀ (a0:Dt) (r:Dt),tDN_ n a0=some r→Sat aj 10 [((al false) a0)] ((al true) r))∧(∀ (a0:List Dt) (r:List Dt),tDS_ n a0=some r→Sat aj 44 [(.sl false 12 (a0.map (al false)))] (.sl true 12 (r.map (al true)))):=by
 induction n with
 | zero=>exact⟨fun _ _ h=>by simp[tDN_] at h,fun _ _ h=>by simp[tDS_] at h⟩
 | succ n ih=>
  refine⟨fun a0 r h=>?_,fun a0 r h=>?_⟩
  ·obtain⟨h,cs⟩:=Ro_ h
   rw[tDN_] at h
   refine av (nt:=27) (rs:=[.cell 2 47]) (n:=100000) Tryz.func10 rfl rfl rfl rfl (by simp) (S ?_)
   obtain⟨v9,hv9,h⟩:=rb_ h
   refine ai [false] (tSs_ hv9) SC (S ?_)
   obtain⟨v16,hv16,h⟩:=rb_ h
   refine ai [false] (tTs_ hv16) SC (S ?_)
   obtain⟨v20,hv20,h⟩:=rb_ h
   refine ai [false] (tFs_ hv20) SC (S ?_)
   obtain⟨v24,hv24,h⟩:=rb_ h
   refine ai [false] (ih.2 _ _ hv24) SC (S ?_)
   cases rs_ h
   exact ah SC
  ·obtain⟨h,cs⟩:=Ro_ h
   rw[tDS_] at h
   refine av (nt:=23) (rs:=[.tmp 2]) (n:=100000) Tryz.func44 rfl rfl rfl rfl (by simp) (S ?_)
   obtain⟨n7,hn7,h⟩:=rb_ h
   refine MknH.mk hn7 (S ?_)
   refine aR (b:=false) (sz:=12) (es:=a0.map (al false)) 0 SC fun hl0=>?_; rw[aB] at hl0
   replace h:=rl_ h
   refine aF h (fun i3 s3=>[(0,.val (.pv (.sl false 12 (a0.map (al false))))),(3,.val (.own 112)),(4,.val (.pv (I (i3:Int))))]) (fun i3 s3=>[(112,(12,s3.map (al true)))]) (Slm_ SC) (fun i3 s3 hi h=>?_) (fun s3 h=>?_)
   ·have w:=ws_ (i:=i3) (by omega)
    refine S ?_
    refine aD cs (by omega) (fun cs=>S ?_)
    obtain⟨v18,hv18,h⟩:=rb_ h
    refine ar (f:=(al false)) hv18 SC (S ?_)
    obtain⟨v20,hv20,h⟩:=rb_ h
    refine ai [false] (ih.1 _ _ hv20) SC (S ?_)
    obtain⟨v21,hv21,h⟩:=rb_ h
    refine ar (f:=(al true)) hv21 SC (S ?_)
    obtain⟨w2,hw2,h⟩:=rb_ h
    refine EldH.mk (f:=(al true)) hw2 rfl SC (S ?_)
    have h:=rs_ h
    refine aA ⟨_,h,?_⟩
    exact Slm_ SW
   ·refine S ?_
    refine aE cs (by omega) (fun cs=>S ?_)
    cases rs_ h
    exact ah SC
theorem tDs_{a0:Dt}{r:Dt}(h:tD_ a0=some r):Sat aj 10 [((al false) a0)] ((al true) r):=by
 obtain⟨n,hn⟩:=ls_ h
 exact(tDN_1 n).1 _ _ hn
theorem tDS_2{a0:List Dt}{r:List Dt}(h:tDS_1 a0=some r):Sat aj 44 [(.sl false 12 (a0.map (al false)))] (.sl true 12 (r.map (al true))):=by
 obtain⟨n,hn⟩:=ls_ h
 exact(tDN_1 n).2 _ _ hn

theorem slS_17(n:Nat):(∀ (a0:Dt) (a1:Int) (r:Int),slS_ n a0 a1=some r→Sat aj 77 [((al false) a0),(I a1)] (I r)):=by
 induction n with
 | zero=>exact fun _ _ _ h=>by simp[slS_] at h
 | succ n ih=>
  refine fun a0 a1 r h=>?_
  obtain⟨h,cs⟩:=Ro_ h
  rw[slS_] at h
  refine av (nt:=31) (rs:=[.tmp 4]) (n:=100000) Tryz.func77 rfl rfl rfl rfl (by simp) (S ?_)
  refine Mkv_ (b:=false) (sz:=12) (es:=a0.Parts.map (al false)) (x:=(.pv ((al false) a0))) 0 [5] SC fun hl0=>?_; rw[aB] at hl0
  replace h:=rl_ h
  refine aF h (fun i3 s3=>[(1,.val (.pv (I a1))),(2,.box (.pv ((al false) a0))),(5,.val (.pv (I s3))),(6,.val (.pv (I (i3:Int))))]) (fun i3 s3=>[]) (Slm_ SC) (fun i3 s3 hi h=>?_) (fun s3 h=>?_)
  ·have w:=ws_ (i:=i3) (by omega)
   refine S ?_
   refine aD cs (by omega) (fun cs=>S ?_)
   refine ak cs h (fun cs h=>S ?_) (fun cs h=>S ?_)
   ·obtain⟨v23,hv23,h⟩:=rb_ h
    refine ar (f:=(al false)) hv23 SC (S ?_)
    obtain⟨v28,hv28,h⟩:=rb_ h
    refine ai [false,false] (ih _ _ _ hv28) SC (S ?_)
    have h:=rs_ h
    refine aA ⟨_,h,?_⟩
    exact Slm_ SW
   ·cases rs_ h
    exact ah SC
  ·refine S ?_
   refine aE cs (by omega) (fun cs=>S ?_)
   cases rs_ h
   exact ah SC
theorem slS_20{a0:Dt}{a1:Int}{r:Int}(h:slS_15 a0 a1=some r):Sat aj 77 [((al false) a0),(I a1)] (I r):=by
 obtain⟨n,hn⟩:=ls_ h
 exact(slS_17 n) _ _ _ hn

theorem slM_5(n:Nat):(∀ (a0:Ft) (a1:Int) (r:Int),slM_ n a0 a1=some r→Sat aj 104 [((ae false) a0),(I a1)] (I r)):=by
 induction n with
 | zero=>exact fun _ _ _ h=>by simp[slM_] at h
 | succ n ih=>
  refine fun a0 a1 r h=>?_
  obtain⟨h,cs⟩:=Ro_ h
  rw[slM_] at h
  refine av (nt:=31) (rs:=[.tmp 4]) (n:=100000) Tryz.func104 rfl rfl rfl rfl (by simp) (S ?_)
  refine Mkv_ (b:=false) (sz:=5) (es:=a0.Parts.map (ae false)) (x:=(.pv ((ae false) a0))) 0 [3] SC fun hl0=>?_; rw[aB] at hl0
  replace h:=rl_ h
  refine aF h (fun i3 s3=>[(1,.val (.pv (I a1))),(2,.box (.pv ((ae false) a0))),(5,.val (.pv (I s3))),(6,.val (.pv (I (i3:Int))))]) (fun i3 s3=>[]) (Slm_ SC) (fun i3 s3 hi h=>?_) (fun s3 h=>?_)
  ·have w:=ws_ (i:=i3) (by omega)
   refine S ?_
   refine aD cs (by omega) (fun cs=>S ?_)
   refine ak cs h (fun cs h=>S ?_) (fun cs h=>S ?_)
   ·obtain⟨v23,hv23,h⟩:=rb_ h
    refine ar (f:=(ae false)) hv23 SC (S ?_)
    obtain⟨v28,hv28,h⟩:=rb_ h
    refine ai [false,false] (ih _ _ _ hv28) SC (S ?_)
    have h:=rs_ h
    refine aA ⟨_,h,?_⟩
    exact Slm_ SW
   ·cases rs_ h
    exact ah SC
  ·refine S ?_
   refine aE cs (by omega) (fun cs=>S ?_)
   cases rs_ h
   exact ah SC
theorem slM_7{a0:Ft}{a1:Int}{r:Int}(h:slM_3 a0 a1=some r):Sat aj 104 [((ae false) a0),(I a1)] (I r):=by
 obtain⟨n,hn⟩:=ls_ h
 exact(slM_5 n) _ _ _ hn

theorem slN_2{a0:Tt}  {r:Bool}(h:slN_3 a0=some r):Sat aj 152 [((am false) a0)] (B r):=by
 obtain⟨h,cs⟩:=Ro_ h
 unfold slN_3 at h
 refine av (nt:=12) (rs:=[.tmp 2]) (n:=100000) Tryz.func152 rfl rfl rfl rfl (by simp) (S ?_)
 refine ak cs h (fun cs h=>S ?_) (fun cs h=>S ?_)
 ·cases rs_ h
  exact ah SC
 ·cases rs_ h
  exact ah SC

theorem slM_6(n:Nat):(∀ (a0:Tt) (a1:Int) (r:Int),slM_1 n a0 a1=some r→Sat aj 187 [((am false) a0),(I a1)] (I r)):=by
 induction n with
 | zero=>exact fun _ _ _ h=>by simp[slM_1] at h
 | succ n ih=>
  refine fun a0 a1 r h=>?_
  obtain⟨h,cs⟩:=Ro_ h
  rw[slM_1] at h
  refine av (nt:=31) (rs:=[.tmp 4]) (n:=100000) Tryz.func187 rfl rfl rfl rfl (by simp) (S ?_)
  refine Mkv_ (b:=false) (sz:=2) (es:=a0.Args.map (am false)) (x:=(.pv ((am false) a0))) 0 [1] SC fun hl0=>?_; rw[aB] at hl0
  replace h:=rl_ h
  refine aF h (fun i3 s3=>[(1,.val (.pv (I a1))),(2,.box (.pv ((am false) a0))),(5,.val (.pv (I s3))),(6,.val (.pv (I (i3:Int))))]) (fun i3 s3=>[]) (Slm_ SC) (fun i3 s3 hi h=>?_) (fun s3 h=>?_)
  ·have w:=ws_ (i:=i3) (by omega)
   refine S ?_
   refine aD cs (by omega) (fun cs=>S ?_)
   refine ak cs h (fun cs h=>S ?_) (fun cs h=>S ?_)
   ·obtain⟨v23,hv23,h⟩:=rb_ h
    refine ar (f:=(am false)) hv23 SC (S ?_)
    obtain⟨v28,hv28,h⟩:=rb_ h
    refine ai [false,false] (ih _ _ _ hv28) SC (S ?_)
    have h:=rs_ h
    refine aA ⟨_,h,?_⟩
    exact Slm_ SW
   ·cases rs_ h
    exact ah SC
  ·refine S ?_
   refine aE cs (by omega) (fun cs=>S ?_)
   cases rs_ h
   exact ah SC
theorem slM_8{a0:Tt}{a1:Int}{r:Int}(h:slM_4 a0 a1=some r):Sat aj 187 [((am false) a0),(I a1)] (I r):=by
 obtain⟨n,hn⟩:=ls_ h
 exact(slM_6 n) _ _ _ hn

theorem slM_9{a0:Int}{a1:Int}  {r:Int}(h:slM_2 a0 a1=some r):Sat aj 196 [(I a0),(I a1)] (I r):=by
 obtain⟨h,cs⟩:=Ro_ h
 unfold slM_2 at h
 refine av (nt:=10) (rs:=[.tmp 4]) (n:=100000) Tryz.func196 rfl rfl rfl rfl (by simp) (S ?_)
 refine ak cs h (fun cs h=>S ?_) (fun cs h=>S ?_)
 ·cases rs_ h
  exact ah SC
 ·cases rs_ h
  exact ah SC

theorem slD_2(n:Nat):(∀ (a0:Tt) (r:Int),slD_ n a0=some r→Sat aj 188 [((am false) a0)] (I r)):=by
 induction n with
 | zero=>exact fun _ _ h=>by simp[slD_] at h
 | succ n ih=>
  refine fun a0 r h=>?_
  obtain⟨h,cs⟩:=Ro_ h
  rw[slD_] at h
  refine av (nt:=22) (rs:=[.tmp 2]) (n:=100000) Tryz.func188 rfl rfl rfl rfl (by simp) (S ?_)
  refine Mkv_ (b:=false) (sz:=2) (es:=a0.Args.map (am false)) (x:=(.pv ((am false) a0))) 0 [1] SC fun hl0=>?_; rw[aB] at hl0
  replace h:=rl_ h
  refine aF h (fun i3 s3=>[(1,.box (.pv ((am false) a0))),(3,.val (.pv (I s3))),(4,.val (.pv (I (i3:Int))))]) (fun i3 s3=>[]) (Slm_ SC) (fun i3 s3 hi h=>?_) (fun s3 h=>?_)
  ·have w:=ws_ (i:=i3) (by omega)
   refine S ?_
   refine aD cs (by omega) (fun cs=>S ?_)
   obtain⟨v16,hv16,h⟩:=rb_ h
   refine ar (f:=(am false)) hv16 SC (S ?_)
   obtain⟨v18,hv18,h⟩:=rb_ h
   refine ai [false] (ih _ _ hv18) SC (S ?_)
   obtain⟨v19,hv19,h⟩:=rb_ h
   refine ai [false,false] (slM_9 hv19) SC (S ?_)
   have h:=rs_ h
   refine aA ⟨_,h,?_⟩
   exact Slm_ SW
  ·refine S ?_
   refine aE cs (by omega) (fun cs=>S ?_)
   cases rs_ h
   exact ah SC
theorem slD_3{a0:Tt}{r:Int}(h:slD_1 a0=some r):Sat aj 188 [((am false) a0)] (I r):=by
 obtain⟨n,hn⟩:=ls_ h
 exact(slD_2 n) _ _ hn

theorem slF_7{a0:Tt}  {r:Bool}(h:slF_2 a0=some r):Sat aj 170 [((am false) a0)] (B r):=by
 obtain⟨h,cs⟩:=Ro_ h
 unfold slF_2 at h
 refine av (nt:=11) (rs:=[.tmp 2]) (n:=100000) Tryz.func170 rfl rfl rfl rfl (by simp) (S ?_)
 obtain⟨v4,hv4,h⟩:=rb_ h
 refine ai [false,false] (slM_8 hv4) SC (S ?_)
 refine ak cs h (fun cs h=>S ?_) (fun cs h=>S ?_)
 ·obtain⟨v8,hv8,h⟩:=rb_ h
  refine ai [false] (slD_3 hv8) SC (S ?_)
  cases rs_ h
  exact ah SC
 ·cases rs_ h
  exact ah SC

theorem slI_2{a0:Int}{a1:Int}{a2:Int}  {r:Bool}(h:slI_4 a0 a1 a2=some r):Sat aj 53 [(I a0),(I a1),(I a2)] (B r):=by
 obtain⟨h,cs⟩:=Ro_ h
 unfold slI_4 at h
 refine av (nt:=15) (rs:=[.tmp 6]) (n:=100000) Tryz.func53 rfl rfl rfl rfl (by simp) (S ?_)
 refine ak cs h (fun cs h=>S ?_) (fun cs h=>S ?_)
 ·cases rs_ h
  exact ah SC
 ·cases rs_ h
  exact ah SC

theorem slS_13{a0:Int}  {r:Bool}(h:slS_6 a0=some r):Sat aj 174 [((Ik .u8) a0)] (B r):=by
 obtain⟨h,cs⟩:=Ro_ h
 unfold slS_6 at h
 refine av (nt:=17) (rs:=[.tmp 2]) (n:=100000) Tryz.func174 rfl rfl rfl rfl (by simp) (S ?_)
 refine ak cs h (fun cs h=>S ?_) (fun cs h=>S ?_)
 ·refine ak cs h (fun cs h=>S ?_) (fun cs h=>S ?_)
  ·cases rs_ h
   exact ah SC
  ·refine ak cs h (fun cs h=>S ?_) (fun cs h=>S ?_)
   ·cases rs_ h
    exact ah SC
   ·cases rs_ h
    exact ah SC
 ·refine ak cs h (fun cs h=>S ?_) (fun cs h=>S ?_)
  ·cases rs_ h
   exact ah SC
  ·cases rs_ h
   exact ah SC

theorem slV_4{a0:ByteArray}  {r:Bool}(h:slV_2 a0=some r):Sat aj 154 [(Sx a0)] (B r):=by
 obtain⟨h,cs⟩:=Ro_ h
 unfold slV_2 at h
 refine av (nt:=29) (rs:=[.tmp 2]) (n:=100000) Tryz.func154 rfl rfl rfl rfl (by simp) (S ?_)
 obtain⟨v6,hv6,h⟩:=rb_ h
 refine ai [false,false,false] (slI_2 hv6) SC (S ?_)
 refine ak cs h (fun cs h=>S ?_) (fun cs h=>S ?_)
 ·obtain⟨v10,hv10,h⟩:=rb_ h
  refine bB hv10 (S ?_)
  refine ak cs h (fun cs h=>S ?_) (fun cs h=>S ?_)
  ·cases rs_ h
   exact ah SC
  ·obtain⟨v15,hv15,h⟩:=rb_ h
   refine bB hv15 (S ?_)
   refine ak cs h (fun cs h=>S ?_) (fun cs h=>S ?_)
   ·cases rs_ h
    exact ah SC
   ·obtain⟨N4,hN4,h⟩:=rb_ h
    obtain⟨hN4a,hN4b⟩:=bs_ hN4
    replace h:=rl_ h
    refine MfA_ (N:=N4) (a:=1) h (fun i4 s4=>[(0,.val (.pv (Sx a0))),(3,.val (.pv (I (i4:Int))))]) (fun i4 s4=>[]) (Slm_ SC) (fun i4 s4 hi hj h=>?_) (fun j4 s4 hj h=>?_)
    ·have w:=ws_ (i:=i4) (by omega)
     refine S ?_
     refine aD cs (by omega) (fun cs=>S ?_)
     obtain⟨v26,hv26,h⟩:=rb_ h
     refine bB hv26 (S ?_)
     obtain⟨v27,hv27,h⟩:=rb_ h
     refine ai [false] (slS_13 hv27) SC (S ?_)
     refine ak cs h (fun cs h=>S ?_) (fun cs h=>S ?_)
     ·have h:=rs_ h
      refine aA ⟨_,h,?_⟩
      exact Slm_ SW
     ·cases rs_ h
      exact ah SC
    ·refine S ?_
     refine aE cs (by omega) (fun cs=>S ?_)
     cases rs_ h
     exact ah SC
 ·cases rs_ h
  exact ah SC

theorem slS_11{a0:ByteArray}  {r:Bool}(h:slS_4 a0=some r):Sat aj 172 [(Sx a0)] (B r):=by
 obtain⟨h,cs⟩:=Ro_ h
 unfold slS_4 at h
 refine av (nt:=45) (rs:=[.tmp 2]) (n:=100000) Tryz.func172 rfl rfl rfl rfl (by simp) (S ?_)
 obtain⟨v6,hv6,h⟩:=rb_ h
 refine ai [false,false,false] (slI_2 hv6) SC (S ?_)
 refine ak cs h (fun cs h=>S ?_) (fun cs h=>S ?_)
 ·obtain⟨v10,hv10,h⟩:=rb_ h
  refine bB hv10 (S ?_)
  refine ak cs h (fun cs h=>S ?_) (fun cs h=>S ?_)
  ·cases rs_ h
   exact ah SC
  ·obtain⟨v15,hv15,h⟩:=rb_ h
   refine bB hv15 (S ?_)
   refine ak cs h (fun cs h=>S ?_) (fun cs h=>S ?_)
   ·cases rs_ h
    exact ah SC
   ·refine ak cs h (fun cs h=>S ?_) (fun cs h=>S ?_)
    ·cases rs_ h
     exact ah SC
    ·refine ak cs h (fun cs h=>S ?_) (fun cs h=>S ?_)
     ·cases rs_ h
      exact ah SC
     ·refine ak cs h (fun cs h=>S ?_) (fun cs h=>S ?_)
      ·cases rs_ h
       exact ah SC
      ·refine ak cs h (fun cs h=>S ?_) (fun cs h=>S ?_)
       ·cases rs_ h
        exact ah SC
       ·refine ak cs h (fun cs h=>S ?_) (fun cs h=>S ?_)
        ·cases rs_ h
         exact ah SC
        ·refine ak cs h (fun cs h=>S ?_) (fun cs h=>S ?_)
         ·cases rs_ h
          exact ah SC
         ·refine ak cs h (fun cs h=>S ?_) (fun cs h=>S ?_)
          ·cases rs_ h
           exact ah SC
          ·refine ak cs h (fun cs h=>S ?_) (fun cs h=>S ?_)
           ·cases rs_ h
            exact ah SC
           ·obtain⟨N14,hN14,h⟩:=rb_ h
            obtain⟨hN14a,hN14b⟩:=bs_ hN14
            replace h:=rl_ h
            refine MfA_ (N:=N14) (a:=1) h (fun i14 s14=>[(0,.val (.pv (Sx a0))),(3,.val (.pv (I (i14:Int))))]) (fun i14 s14=>[]) (Slm_ SC) (fun i14 s14 hi hj h=>?_) (fun j14 s14 hj h=>?_)
            ·have w:=ws_ (i:=i14) (by omega)
             refine S ?_
             refine aD cs (by omega) (fun cs=>S ?_)
             obtain⟨v36,hv36,h⟩:=rb_ h
             refine bB hv36 (S ?_)
             obtain⟨v37,hv37,h⟩:=rb_ h
             refine ai [false] (slS_13 hv37) SC (S ?_)
             refine ak cs h (fun cs h=>S ?_) (fun cs h=>S ?_)
             ·have h:=rs_ h
              refine aA ⟨_,h,?_⟩
              exact Slm_ SW
             ·obtain⟨v42,hv42,h⟩:=rb_ h
              refine bB hv42 (S ?_)
              refine ak cs h (fun cs h=>S ?_) (fun cs h=>S ?_)
              ·have h:=rs_ h
               refine aA ⟨_,h,?_⟩
               exact Slm_ SW
              ·cases rs_ h
               exact ah SC
            ·refine S ?_
             refine aE cs (by omega) (fun cs=>S ?_)
             cases rs_ h
             exact ah SC
 ·cases rs_ h
  exact ah SC

theorem slN_10(n:Nat):(∀ (a0:Tt) (r:Bool),slN_4 n a0=some r→Sat aj 171 [((am false) a0)] (B r)):=by
 induction n with
 | zero=>exact fun _ _ h=>by simp[slN_4] at h
 | succ n ih=>
  refine fun a0 r h=>?_
  obtain⟨h,cs⟩:=Ro_ h
  rw[slN_4] at h
  refine av (nt:=35) (rs:=[.tmp 2]) (n:=100000) Tryz.func171 rfl rfl rfl rfl (by simp) (S ?_)
  obtain⟨v6,hv6,h⟩:=rb_ h
  refine ai [false] (slV_4 hv6) SC (S ?_)
  refine ak cs h (fun cs h=>S ?_) (fun cs h=>S ?_)
  ·cases rs_ h
   exact ah SC
  ·obtain⟨v13,hv13,h⟩:=rb_ h
   refine ai [false] (slS_11 hv13) SC (S ?_)
   refine ak cs h (fun cs h=>S ?_) (fun cs h=>S ?_)
   ·refine ak cs h (fun cs h=>S ?_) (fun cs h=>S ?_)
    ·cases rs_ h
     exact ah SC
    ·refine aR (b:=false) (sz:=2) (es:=a0.Args.map (am false)) 17 SC fun hl17=>?_; rw[aB] at hl17
     replace h:=rl_ h
     refine aF h (fun i6 s6=>[(1,.box (.pv ((am false) a0))),(3,.val (.pv (I (i6:Int))))]) (fun i6 s6=>[]) (Slm_ SC) (fun i6 s6 hi h=>?_) (fun s6 h=>?_)
     ·have w:=ws_ (i:=i6) (by omega)
      refine S ?_
      refine aD cs (by omega) (fun cs=>S ?_)
      obtain⟨v31,hv31,h⟩:=rb_ h
      refine ar (f:=(am false)) hv31 SC (S ?_)
      obtain⟨v33,hv33,h⟩:=rb_ h
      refine ai [false] (ih _ _ hv33) SC (S ?_)
      refine ak cs h (fun cs h=>S ?_) (fun cs h=>S ?_)
      ·have h:=rs_ h
       refine aA ⟨_,h,?_⟩
       exact Slm_ SW
      ·cases rs_ h
       exact ah SC
     ·refine S ?_
      refine aE cs (by omega) (fun cs=>S ?_)
      cases rs_ h
      exact ah SC
   ·cases rs_ h
    exact ah SC
theorem slN_8{a0:Tt}{r:Bool}(h:slN_6 a0=some r):Sat aj 171 [((am false) a0)] (B r):=by
 obtain⟨n,hn⟩:=ls_ h
 exact(slN_10 n) _ _ hn

theorem slG_5{a0:Tt}  {r:Bool}(h:slG_3 a0=some r):Sat aj 173 [((am false) a0)] (B r):=by
 obtain⟨h,cs⟩:=Ro_ h
 unfold slG_3 at h
 refine av (nt:=9) (rs:=[.tmp 2]) (n:=100000) Tryz.func173 rfl rfl rfl rfl (by simp) (S ?_)
 obtain⟨v4,hv4,h⟩:=rb_ h
 refine ai [false] (slF_7 hv4) SC (S ?_)
 refine ak cs h (fun cs h=>S ?_) (fun cs h=>S ?_)
 ·obtain⟨v7,hv7,h⟩:=rb_ h
  refine ai [false] (slN_8 hv7) SC (S ?_)
  cases rs_ h
  exact ah SC
 ·cases rs_ h
  exact ah SC

theorem slA_3{a0:Tt}  {r:Bool}(h:slA_1 a0=some r):Sat aj 153 [((am false) a0)] (B r):=by
 obtain⟨h,cs⟩:=Ro_ h
 unfold slA_1 at h
 refine av (nt:=35) (rs:=[.tmp 2]) (n:=100000) Tryz.func153 rfl rfl rfl rfl (by simp) (S ?_)
 refine ak cs h (fun cs h=>S ?_) (fun cs h=>S ?_)
 ·refine ak cs h (fun cs h=>S ?_) (fun cs h=>S ?_)
  ·obtain⟨v12,hv12,h⟩:=rb_ h
   refine ai [false] (slF_7 hv12) SC (S ?_)
   refine ak cs h (fun cs h=>S ?_) (fun cs h=>S ?_)
   ·obtain⟨v17,hv17,h⟩:=rb_ h
    refine ar (f:=(am false)) hv17 SC (S ?_)
    obtain⟨v19,hv19,h⟩:=rb_ h
    refine ai [false] (slN_8 hv19) SC (S ?_)
    refine ak cs h (fun cs h=>S ?_) (fun cs h=>S ?_)
    ·obtain⟨v24,hv24,h⟩:=rb_ h
     refine ar (f:=(am false)) hv24 SC (S ?_)
     obtain⟨v26,hv26,h⟩:=rb_ h
     refine ai [false] (slN_8 hv26) SC (S ?_)
     cases rs_ h
     exact ah SC
    ·cases rs_ h
     exact ah SC
   ·cases rs_ h
    exact ah SC
  ·cases rs_ h
   exact ah SC
 ·obtain⟨v30,hv30,h⟩:=rb_ h
  refine ai [false] (slS_11 hv30) SC (S ?_)
  refine ak cs h (fun cs h=>S ?_) (fun cs h=>S ?_)
  ·obtain⟨v33,hv33,h⟩:=rb_ h
   refine ai [false] (slG_5 hv33) SC (S ?_)
   cases rs_ h
   exact ah SC
  ·cases rs_ h
   exact ah SC

theorem slF_10{a0:Ft}  {r:Bool}(h:slF_3 a0=some r):Sat aj 133 [((ae false) a0)] (B r):=by
 obtain⟨h,cs⟩:=Ro_ h
 unfold slF_3 at h
 refine av (nt:=83) (rs:=[.tmp 2]) (n:=100000) Tryz.func133 rfl rfl rfl rfl (by simp) (S ?_)
 refine ak cs h (fun cs h=>S ?_) (fun cs h=>S ?_)
 ·refine ak cs h (fun cs h=>S ?_) (fun cs h=>S ?_)
  ·obtain⟨v17,hv17,h⟩:=rb_ h
   refine ai [false] (slN_2 hv17) SC (S ?_)
   refine ak cs h (fun cs h=>S ?_) (fun cs h=>S ?_)
   ·cases rs_ h
    exact ah SC
   ·cases rs_ h
    exact ah SC
  ·cases rs_ h
   exact ah SC
 ·refine ak cs h (fun cs h=>S ?_) (fun cs h=>S ?_)
  ·refine ak cs h (fun cs h=>S ?_) (fun cs h=>S ?_)
   ·obtain⟨v17,hv17,h⟩:=rb_ h
    refine ai [false] (slN_2 hv17) SC (S ?_)
    refine ak cs h (fun cs h=>S ?_) (fun cs h=>S ?_)
    ·cases rs_ h
     exact ah SC
    ·cases rs_ h
     exact ah SC
   ·cases rs_ h
    exact ah SC
  ·refine ak cs h (fun cs h=>S ?_) (fun cs h=>S ?_)
   ·refine ak cs h (fun cs h=>S ?_) (fun cs h=>S ?_)
    ·obtain⟨v31,hv31,h⟩:=rb_ h
     refine ai [false] (slA_3 hv31) SC (S ?_)
     refine ak cs h (fun cs h=>S ?_) (fun cs h=>S ?_)
     ·cases rs_ h
      exact ah SC
     ·cases rs_ h
      exact ah SC
    ·cases rs_ h
     exact ah SC
   ·refine ak cs h (fun cs h=>S ?_) (fun cs h=>S ?_)
    ·refine ak cs h (fun cs h=>S ?_) (fun cs h=>S ?_)
     ·obtain⟨v45,hv45,h⟩:=rb_ h
      refine ai [false] (slN_2 hv45) SC (S ?_)
      refine ak cs h (fun cs h=>S ?_) (fun cs h=>S ?_)
      ·cases rs_ h
       exact ah SC
      ·cases rs_ h
       exact ah SC
     ·cases rs_ h
      exact ah SC
    ·refine ak cs h (fun cs h=>S ?_) (fun cs h=>S ?_)
     ·refine ak cs h (fun cs h=>S ?_) (fun cs h=>S ?_)
      ·obtain⟨v61,hv61,h⟩:=rb_ h
       refine ai [false] (slN_2 hv61) SC (S ?_)
       refine ak cs h (fun cs h=>S ?_) (fun cs h=>S ?_)
       ·cases rs_ h
        exact ah SC
       ·cases rs_ h
        exact ah SC
      ·cases rs_ h
       exact ah SC
     ·refine ak cs h (fun cs h=>S ?_) (fun cs h=>S ?_)
      ·refine ak cs h (fun cs h=>S ?_) (fun cs h=>S ?_)
       ·obtain⟨v61,hv61,h⟩:=rb_ h
        refine ai [false] (slN_2 hv61) SC (S ?_)
        refine ak cs h (fun cs h=>S ?_) (fun cs h=>S ?_)
        ·cases rs_ h
         exact ah SC
        ·cases rs_ h
         exact ah SC
       ·cases rs_ h
        exact ah SC
      ·refine ak cs h (fun cs h=>S ?_) (fun cs h=>S ?_)
       ·refine ak cs h (fun cs h=>S ?_) (fun cs h=>S ?_)
        ·obtain⟨v61,hv61,h⟩:=rb_ h
         refine ai [false] (slN_2 hv61) SC (S ?_)
         refine ak cs h (fun cs h=>S ?_) (fun cs h=>S ?_)
         ·cases rs_ h
          exact ah SC
         ·cases rs_ h
          exact ah SC
        ·cases rs_ h
         exact ah SC
       ·refine ak cs h (fun cs h=>S ?_) (fun cs h=>S ?_)
        ·refine ak cs h (fun cs h=>S ?_) (fun cs h=>S ?_)
         ·obtain⟨v76,hv76,h⟩:=rb_ h
          refine ai [false] (slN_2 hv76) SC (S ?_)
          refine ak cs h (fun cs h=>S ?_) (fun cs h=>S ?_)
          ·obtain⟨v81,hv81,h⟩:=rb_ h
           refine ai [false] (slV_4 hv81) SC (S ?_)
           cases rs_ h
           exact ah SC
          ·cases rs_ h
           exact ah SC
         ·cases rs_ h
          exact ah SC
        ·refine ak cs h (fun cs h=>S ?_) (fun cs h=>S ?_)
         ·refine ak cs h (fun cs h=>S ?_) (fun cs h=>S ?_)
          ·obtain⟨v76,hv76,h⟩:=rb_ h
           refine ai [false] (slN_2 hv76) SC (S ?_)
           refine ak cs h (fun cs h=>S ?_) (fun cs h=>S ?_)
           ·obtain⟨v81,hv81,h⟩:=rb_ h
            refine ai [false] (slV_4 hv81) SC (S ?_)
            cases rs_ h
            exact ah SC
           ·cases rs_ h
            exact ah SC
          ·cases rs_ h
           exact ah SC
         ·cases rs_ h
          exact ah SC

theorem slF_8(n:Nat):(∀ (a0:Ft) (r:Bool),slF_ n a0=some r→Sat aj 105 [((ae false) a0)] (B r)):=by
 induction n with
 | zero=>exact fun _ _ h=>by simp[slF_] at h
 | succ n ih=>
  refine fun a0 r h=>?_
  obtain⟨h,cs⟩:=Ro_ h
  rw[slF_] at h
  refine av (nt:=21) (rs:=[.tmp 2]) (n:=100000) Tryz.func105 rfl rfl rfl rfl (by simp) (S ?_)
  obtain⟨v5,hv5,h⟩:=rb_ h
  refine ai [false] (slF_10 hv5) SC (S ?_)
  refine ak cs h (fun cs h=>S ?_) (fun cs h=>S ?_)
  ·refine Mkv_ (b:=false) (sz:=5) (es:=a0.Parts.map (ae false)) (x:=(.pv ((ae false) a0))) 0 [3] SC fun hl0=>?_; rw[aB] at hl0
   replace h:=rl_ h
   refine aF h (fun i4 s4=>[(1,.box (.pv ((ae false) a0))),(3,.val (.pv (I (i4:Int))))]) (fun i4 s4=>[]) (Slm_ SC) (fun i4 s4 hi h=>?_) (fun s4 h=>?_)
   ·have w:=ws_ (i:=i4) (by omega)
    refine S ?_
    refine aD cs (by omega) (fun cs=>S ?_)
    obtain⟨v17,hv17,h⟩:=rb_ h
    refine ar (f:=(ae false)) hv17 SC (S ?_)
    obtain⟨v19,hv19,h⟩:=rb_ h
    refine ai [false] (ih _ _ hv19) SC (S ?_)
    refine ak cs h (fun cs h=>S ?_) (fun cs h=>S ?_)
    ·have h:=rs_ h
     refine aA ⟨_,h,?_⟩
     exact Slm_ SW
    ·cases rs_ h
     exact ah SC
   ·refine S ?_
    refine aE cs (by omega) (fun cs=>S ?_)
    cases rs_ h
    exact ah SC
  ·cases rs_ h
   exact ah SC
theorem slF_9{a0:Ft}{r:Bool}(h:slF_5 a0=some r):Sat aj 105 [((ae false) a0)] (B r):=by
 obtain⟨n,hn⟩:=ls_ h
 exact(slF_8 n) _ _ hn

theorem slG_2{a0:Ft}  {r:Bool}(h:slG_ a0=some r):Sat aj 64 [((ae false) a0)] (B r):=by
 obtain⟨h,cs⟩:=Ro_ h
 unfold slG_ at h
 refine av (nt:=10) (rs:=[.tmp 2]) (n:=100000) Tryz.func64 rfl rfl rfl rfl (by simp) (S ?_)
 obtain⟨v4,hv4,h⟩:=rb_ h
 refine ai [false,false] (slM_7 hv4) SC (S ?_)
 refine ak cs h (fun cs h=>S ?_) (fun cs h=>S ?_)
 ·obtain⟨v8,hv8,h⟩:=rb_ h
  refine ai [false] (slF_9 hv8) SC (S ?_)
  cases rs_ h
  exact ah SC
 ·cases rs_ h
  exact ah SC

theorem slS_14{a0:List Ft}  {r:Bool}(h:slS_7 a0=some r):Sat aj 122 [(.sl false 5 (a0.map (ae false)))] (B r):=by
 obtain⟨h,cs⟩:=Ro_ h
 unfold slS_7 at h
 refine av (nt:=23) (rs:=[.tmp 2]) (n:=100000) Tryz.func122 rfl rfl rfl rfl (by simp) (S ?_)
 refine aR (b:=false) (sz:=5) (es:=a0.map (ae false)) 0 SC fun hl0=>?_; rw[aB] at hl0
 replace h:=rl_ h
 refine aF h (fun i2 s2=>[(0,.val (.pv (.sl false 5 (a0.map (ae false))))),(3,.val (.pv (I (i2:Int))))]) (fun i2 s2=>[]) (Slm_ SC) (fun i2 s2 hi h=>?_) (fun s2 h=>?_)
 ·have w:=ws_ (i:=i2) (by omega)
  refine S ?_
  refine aD cs (by omega) (fun cs=>S ?_)
  refine ak cs h (fun cs h=>S ?_) (fun cs h=>S ?_)
  ·obtain⟨v16,hv16,h⟩:=rb_ h
   refine ar (f:=(ae false)) hv16 SC (S ?_)
   obtain⟨v18,hv18,h⟩:=rb_ h
   refine ai [false] (slG_2 hv18) SC (S ?_)
   refine ak cs h (fun cs h=>S ?_) (fun cs h=>S ?_)
   ·have h:=rs_ h
    refine aA ⟨_,h,?_⟩
    exact Slm_ SW
   ·cases rs_ h
    exact ah SC
  ·cases rs_ h
   exact ah SC
 ·refine S ?_
  refine aE cs (by omega) (fun cs=>S ?_)
  cases rs_ h
  exact ah SC

theorem slG_4{a0:Sa}  {r:Bool}(h:slG_1 a0=some r):Sat aj 94 [((aP false) a0)] (B r):=by
 obtain⟨h,cs⟩:=Ro_ h
 unfold slG_1 at h
 refine av (nt:=11) (rs:=[.tmp 2]) (n:=100000) Tryz.func94 rfl rfl rfl rfl (by simp) (S ?_)
 obtain⟨v5,hv5,h⟩:=rb_ h
 refine ai [false] (slS_14 hv5) SC (S ?_)
 refine ak cs h (fun cs h=>S ?_) (fun cs h=>S ?_)
 ·obtain⟨v9,hv9,h⟩:=rb_ h
  refine ai [false] (slS_14 hv9) SC (S ?_)
  cases rs_ h
  exact ah SC
 ·cases rs_ h
  exact ah SC

theorem slS_19(n:Nat):(∀ (a0:Tt) (a1:Tt) (r:Bool),slS_2 n a0 a1=some r→Sat aj 147 [((am false) a0),((am false) a1)] (B r)):=by
 induction n with
 | zero=>exact fun _ _ _ h=>by simp[slS_2] at h
 | succ n ih=>
  refine fun a0 a1 r h=>?_
  obtain⟨h,cs⟩:=Ro_ h
  rw[slS_2] at h
  refine av (nt:=39) (rs:=[.tmp 4]) (n:=100000) Tryz.func147 rfl rfl rfl rfl (by simp) (S ?_)
  refine ak cs h (fun cs h=>S ?_) (fun cs h=>S ?_)
  ·refine ak cs h (fun cs h=>S ?_) (fun cs h=>S ?_)
   ·refine aR (b:=false) (sz:=2) (es:=a0.Args.map (am false)) 13 SC fun hl13=>?_; rw[aB] at hl13
    replace h:=rl_ h
    refine aF h (fun i4 s4=>[(2,.box (.pv ((am false) a0))),(3,.box (.pv ((am false) a1))),(5,.val (.pv (I (i4:Int))))]) (fun i4 s4=>[]) (Slm_ SC) (fun i4 s4 hi h=>?_) (fun s4 h=>?_)
    ·have w:=ws_ (i:=i4) (by omega)
     refine S ?_
     refine aD cs (by omega) (fun cs=>S ?_)
     obtain⟨v30,hv30,h⟩:=rb_ h
     refine ar (f:=(am false)) hv30 SC (S ?_)
     obtain⟨v35,hv35,h⟩:=rb_ h
     refine ar (f:=(am false)) hv35 SC (S ?_)
     obtain⟨v37,hv37,h⟩:=rb_ h
     refine ai [false,false] (ih _ _ _ hv37) SC (S ?_)
     refine ag (DHa_ [] []) (S ?_)
     refine ak cs h (fun cs h=>S ?_) (fun cs h=>S ?_)
     ·have h:=rs_ h
      refine aA ⟨_,h,?_⟩
      exact Slm_ SW
     ·cases rs_ h
      exact ah SC
    ·refine S ?_
     refine aE cs (by omega) (fun cs=>S ?_)
     cases rs_ h
     exact ah SC
   ·cases rs_ h
    exact ah SC
  ·cases rs_ h
   exact ah SC
theorem slS_16{a0:Tt}{a1:Tt}{r:Bool}(h:slS_12 a0 a1=some r):Sat aj 147 [((am false) a0),((am false) a1)] (B r):=by
 obtain⟨n,hn⟩:=ls_ h
 exact(slS_19 n) _ _ _ hn

theorem slS_18(n:Nat):(∀ (a0:Ft) (a1:Ft) (r:Bool),slS_1 n a0 a1=some r→Sat aj 120 [((ae false) a0),((ae false) a1)] (B r)):=by
 induction n with
 | zero=>exact fun _ _ _ h=>by simp[slS_1] at h
 | succ n ih=>
  refine fun a0 a1 r h=>?_
  obtain⟨h,cs⟩:=Ro_ h
  rw[slS_1] at h
  refine av (nt:=54) (rs:=[.tmp 4]) (n:=100000) Tryz.func120 rfl rfl rfl rfl (by simp) (S ?_)
  refine ak cs h (fun cs h=>S ?_) (fun cs h=>S ?_)
  ·refine ak cs h (fun cs h=>S ?_) (fun cs h=>S ?_)
   ·obtain⟨v23,hv23,h⟩:=rb_ h
    refine ai [false,false] (slS_16 hv23) SC (S ?_)
    refine ak cs h (fun cs h=>S ?_) (fun cs h=>S ?_)
    ·refine ak cs h (fun cs h=>S ?_) (fun cs h=>S ?_)
     ·refine aR (b:=false) (sz:=5) (es:=a0.Parts.map (ae false)) 28 SC fun hl28=>?_; rw[aB] at hl28
      replace h:=rl_ h
      refine aF h (fun i4 s4=>[(2,.box (.pv ((ae false) a0))),(3,.box (.pv ((ae false) a1))),(5,.val (.pv (I (i4:Int))))]) (fun i4 s4=>[]) (Slm_ SC) (fun i4 s4 hi h=>?_) (fun s4 h=>?_)
      ·have w:=ws_ (i:=i4) (by omega)
       refine S ?_
       refine aD cs (by omega) (fun cs=>S ?_)
       obtain⟨v45,hv45,h⟩:=rb_ h
       refine ar (f:=(ae false)) hv45 SC (S ?_)
       obtain⟨v50,hv50,h⟩:=rb_ h
       refine ar (f:=(ae false)) hv50 SC (S ?_)
       obtain⟨v52,hv52,h⟩:=rb_ h
       refine ai [false,false] (ih _ _ _ hv52) SC (S ?_)
       refine ag (DHa_ [] []) (S ?_)
       refine ak cs h (fun cs h=>S ?_) (fun cs h=>S ?_)
       ·have h:=rs_ h
        refine aA ⟨_,h,?_⟩
        exact Slm_ SW
       ·cases rs_ h
        exact ah SC
      ·refine S ?_
       refine aE cs (by omega) (fun cs=>S ?_)
       cases rs_ h
       exact ah SC
     ·cases rs_ h
      exact ah SC
    ·cases rs_ h
     exact ah SC
   ·cases rs_ h
    exact ah SC
  ·cases rs_ h
   exact ah SC
theorem slS_9{a0:Ft}{a1:Ft}{r:Bool}(h:slS_5 a0 a1=some r):Sat aj 120 [((ae false) a0),((ae false) a1)] (B r):=by
 obtain⟨n,hn⟩:=ls_ h
 exact(slS_18 n) _ _ _ hn

theorem slO_12(n:Nat):(∀ (a0:Tt) (r:Tt),slO_6 n a0=some r→Sat aj 106 [((am false) a0)] ((am true) r)):=by
 induction n with
 | zero=>exact fun _ _ h=>by simp[slO_6] at h
 | succ n ih=>
  refine fun a0 r h=>?_
  obtain⟨h,cs⟩:=Ro_ h
  rw[slO_6] at h
  refine av (nt:=27) (rs:=[.cell 2 42]) (n:=100000) Tryz.func106 rfl rfl rfl rfl (by simp) (S ?_)
  refine Mkv_ (b:=false) (sz:=2) (es:=a0.Args.map (am false)) (x:=(.pv ((am false) a0))) 0 [1] SC fun hl0=>?_; rw[aB] at hl0
  replace h:=rl_ h
  refine aF h (fun i3 s3=>[(1,.box (.pv ((am false) a0))),(2,.box (.node [(.pv (Sx ⟨#[]⟩)),(.pv (.sl true 2 []))])),(3,.box (.node [(.pv (Sx a0.Name)),(.own 9309)])),(4,.val (.pv (I (i3:Int))))]) (fun i3 s3=>[(9309,(2,s3.map (am true)))]) (aM (Sln_ (x:=(.node [(.pv (Sx a0.Name)),(.pv (.sl true 2 []))])) 3 [1] 9309 2 NM SC SC SC) (Slm_ SC)) (fun i3 s3 hi h=>?_) (fun s3 h=>?_)
  ·have w:=ws_ (i:=i3) (by omega)
   refine S ?_
   refine aD cs (by omega) (fun cs=>S ?_)
   obtain⟨v20,hv20,h⟩:=rb_ h
   refine ar (f:=(am false)) hv20 SC (S ?_)
   obtain⟨v22,hv22,h⟩:=rb_ h
   refine ai [false] (ih _ _ hv22) SC (S ?_)
   obtain⟨v24,hv24,h⟩:=rb_ h
   refine aO (f:=(am true)) (fun a=>Tt.psize _ a) hv24 SC SC (S ?_)
   refine ag (DHa_ [] [352,368,384]) (S ?_)
   have h:=rs_ h
   refine aA ⟨_,h,?_⟩
   refine aM (Slm_1 (S:=[(1,.box (.pv ((am false) a0))),(2,.box (.node [(.pv (Sx ⟨#[]⟩)),(.pv (.sl true 2 []))])),(3,.box (.node [(.pv (Sx a0.Name)),(.own 384)])),(4,.val (.pv (I (IntKind.i64.wrap ((i3:Int)+1)))))]) (O:=[(384,(2,v24.map (am true)))]) SW SW) ?_
   refine Slr_ 384 9309 (by decide) NM ?_
   exact Slm_ SW
  ·refine S ?_
   refine aE cs (by omega) (fun cs=>S ?_)
   cases rs_ h
   exact ah SC
theorem slO_7{a0:Tt}{r:Tt}(h:slO_8 a0=some r):Sat aj 106 [((am false) a0)] ((am true) r):=by
 obtain⟨n,hn⟩:=ls_ h
 exact(slO_12 n) _ _ hn

theorem slO_11(n:Nat):(∀ (a0:Ft) (r:Ft),slO_5 n a0=some r→Sat aj 107 [((ae false) a0)] ((ae true) r)):=by
 induction n with
 | zero=>exact fun _ _ h=>by simp[slO_5] at h
 | succ n ih=>
  refine fun a0 r h=>?_
  obtain⟨h,cs⟩:=Ro_ h
  rw[slO_5] at h
  refine av (nt:=32) (rs:=[.cell 2 44]) (n:=100000) Tryz.func107 rfl rfl rfl rfl (by simp) (S ?_)
  obtain⟨v9,hv9,h⟩:=rb_ h
  refine ai [false] (slO_7 hv9) SC (S ?_)
  refine ag (DHa_ [3] [144]) (S ?_)
  refine Mkv_ (b:=false) (sz:=5) (es:=a0.Parts.map (ae false)) (x:=(.pv ((ae false) a0))) 0 [3] SC fun hl0=>?_; rw[aB] at hl0
  replace h:=rl_ h
  refine aF h (fun i3 s3=>[(1,.box (.pv ((ae false) a0))),(2,.box (.node [(.pv (I 0)),(.node [(.pv (Sx ⟨#[]⟩)),(.pv (.sl true 2 []))]),(.pv (Sx ⟨#[]⟩)),(.pv (.sl true 5 []))])),(3,.box (.node [(.pv (I a0.Op)),(.node [(.pv (Sx v9.Name)),(.own 144)]),(.pv (Sx a0.Var)),(.own 9309)])),(4,.val (.pv (I (i3:Int))))]) (fun i3 s3=>[(144,(2,v9.Args.map (am true))),(9309,(5,s3.map (ae true)))]) (aM (Sln_ (x:=(.node [(.pv (I a0.Op)),(.node [(.pv (Sx v9.Name)),(.own 144)]),(.pv (Sx a0.Var)),(.pv (.sl true 5 []))])) 3 [3] 9309 5 NM SC SC SC) (Slm_ SC)) (fun i3 s3 hi h=>?_) (fun s3 h=>?_)
  ·have w:=ws_ (i:=i3) (by omega)
   refine S ?_
   refine aD cs (by omega) (fun cs=>S ?_)
   obtain⟨v25,hv25,h⟩:=rb_ h
   refine ar (f:=(ae false)) hv25 SC (S ?_)
   obtain⟨v27,hv27,h⟩:=rb_ h
   refine ai [false] (ih _ _ hv27) SC (S ?_)
   obtain⟨v29,hv29,h⟩:=rb_ h
   refine aO (f:=(ae true)) (fun a=>Ft.psize _ a) hv29 SC SC (S ?_)
   refine ag (DHa_ [] [432,433,448,464]) (S ?_)
   have h:=rs_ h
   refine aA ⟨_,h,?_⟩
   refine aM (Slm_1 (S:=[(1,.box (.pv ((ae false) a0))),(2,.box (.node [(.pv (I 0)),(.node [(.pv (Sx ⟨#[]⟩)),(.pv (.sl true 2 []))]),(.pv (Sx ⟨#[]⟩)),(.pv (.sl true 5 []))])),(3,.box (.node [(.pv (I a0.Op)),(.node [(.pv (Sx v9.Name)),(.own 144)]),(.pv (Sx a0.Var)),(.own 464)])),(4,.val (.pv (I (IntKind.i64.wrap ((i3:Int)+1)))))]) (O:=[(144,(2,v9.Args.map (am true))),(464,(5,v29.map (ae true)))]) SW SW) ?_
   refine Slr_ 464 9309 (by decide) NM ?_
   exact Slm_ SW
  ·refine S ?_
   refine aE cs (by omega) (fun cs=>S ?_)
   cases rs_ h
   exact ah SC
theorem slO_2{a0:Ft}{r:Ft}(h:slO_3 a0=some r):Sat aj 107 [((ae false) a0)] ((ae true) r):=by
 obtain⟨n,hn⟩:=ls_ h
 exact(slO_11 n) _ _ hn

theorem slC_1{a0:List Ft}{a1:Int}{a2:List Ft}  {r:List Ft}(h:slC_ a0 a1 a2=some r):Sat aj 93 [(.sl false 5 (a0.map (ae false))),(I a1),(.sl false 5 (a2.map (ae false)))] (.sl true 5 (r.map (ae true))):=by
 obtain⟨h,cs⟩:=Ro_ h
 unfold slC_ at h
 refine av (nt:=43) (rs:=[.tmp 6]) (n:=100000) Tryz.func93 rfl rfl rfl rfl (by simp) (S ?_)
 refine aR (b:=false) (sz:=5) (es:=a0.map (ae false)) 0 SC fun hl0=>?_; rw[aB] at hl0
 replace h:=rl_ h
 refine aF h (fun i3 s3=>[(0,.val (.pv (.sl false 5 (a0.map (ae false))))),(1,.val (.pv (I a1))),(2,.val (.pv (.sl false 5 (a2.map (ae false))))),(7,.val (.own 160)),(8,.val (.pv (I (i3:Int))))]) (fun i3 s3=>[(160,(5,s3.map (ae true)))]) (Slm_ SC) (fun i3 s3 hi h=>?_) (fun s3 h=>?_)
 ·have w:=ws_ (i:=i3) (by omega)
  refine S ?_
  refine aD cs (by omega) (fun cs=>S ?_)
  refine ak cs h (fun cs h=>S ?_) (fun cs h=>S ?_)
  ·have h:=rs_ h
   refine aA ⟨_,h,?_⟩
   exact Slm_ SW
  ·obtain⟨v23,hv23,h⟩:=rb_ h
   refine ar (f:=(ae false)) hv23 SC (S ?_)
   obtain⟨v25,hv25,h⟩:=rb_ h
   refine ai [false] (slO_2 hv25) SC (S ?_)
   obtain⟨v27,hv27,h⟩:=rb_ h
   refine aO (f:=(ae true)) (fun a=>Ft.psize _ a) hv27 SC SC (S ?_)
   have h:=rs_ h
   refine aA ⟨_,h,?_⟩
   refine aM (Slm_1 (S:=[(0,.val (.pv (.sl false 5 (a0.map (ae false))))),(1,.val (.pv (I a1))),(2,.val (.pv (.sl false 5 (a2.map (ae false))))),(7,.val (.own 432)),(8,.val (.pv (I (IntKind.i64.wrap ((i3:Int)+1)))))]) (O:=[(432,(5,v27.map (ae true)))]) SW SW) ?_
   refine Slr_ 432 160 (by decide) NM ?_
   exact Slm_ SW
 ·refine S ?_
  refine aE cs (by omega) (fun cs=>S ?_)
  refine aR (b:=false) (sz:=5) (es:=a2.map (ae false)) 2 SC fun hl2=>?_; rw[aB] at hl2
  replace h:=rl_ h
  refine aF h (fun i8 s8=>[(2,.val (.pv (.sl false 5 (a2.map (ae false))))),(7,.val (.own 160)),(9,.val (.pv (I (i8:Int))))]) (fun i8 s8=>[(160,(5,s8.map (ae true)))]) (Slm_ SC) (fun i8 s8 hi h=>?_) (fun s8 h=>?_)
  ·have w:=ws_ (i:=i8) (by omega)
   refine S ?_
   refine aD cs (by omega) (fun cs=>S ?_)
   obtain⟨v37,hv37,h⟩:=rb_ h
   refine ar (f:=(ae false)) hv37 SC (S ?_)
   obtain⟨v39,hv39,h⟩:=rb_ h
   refine ai [false] (slO_2 hv39) SC (S ?_)
   obtain⟨v41,hv41,h⟩:=rb_ h
   refine aO (f:=(ae true)) (fun a=>Ft.psize _ a) hv41 SC SC (S ?_)
   have h:=rs_ h
   refine aA ⟨_,h,?_⟩
   refine aM (Slm_1 (S:=[(2,.val (.pv (.sl false 5 (a2.map (ae false))))),(7,.val (.own 656)),(9,.val (.pv (I (IntKind.i64.wrap ((i8:Int)+1)))))]) (O:=[(656,(5,v41.map (ae true)))]) SW SW) ?_
   refine Slr_ 656 160 (by decide) NM ?_
   exact Slm_ SW
  ·refine S ?_
   refine aE cs (by omega) (fun cs=>S ?_)
   cases rs_ h
   exact ah SC

theorem slN_{a0:Sa}{a1:Int}{a2:List Ft}{a3:Int}{a4:List Ft}  {r:Sa}(h:slN_1 a0 a1 a2 a3 a4=some r):Sat aj 108 [((aP false) a0),(I a1),(.sl false 5 (a2.map (ae false))),(I a3),(.sl false 5 (a4.map (ae false)))] ((aP true) r):=by
 obtain⟨h,cs⟩:=Ro_ h
 unfold slN_1 at h
 refine av (nt:=22) (rs:=[.cell 10 39]) (n:=100000) Tryz.func108 rfl rfl rfl rfl (by simp) (S ?_)
 obtain⟨v15,hv15,h⟩:=rb_ h
 refine ai [false,false,false] (slC_1 hv15) SC (S ?_)
 obtain⟨v20,hv20,h⟩:=rb_ h
 refine ai [false,false,false] (slC_1 hv20) SC (S ?_)
 refine ag (DHa_ [] [240,320]) (S ?_)
 cases rs_ h
 exact ah SC

theorem slO_4{a0:Int}  {r:Bool}(h:slO_ a0=some r):Sat aj 109 [(I a0)] (B r):=by
 obtain⟨h,cs⟩:=Ro_ h
 unfold slO_ at h
 refine av (nt:=12) (rs:=[.tmp 2]) (n:=100000) Tryz.func109 rfl rfl rfl rfl (by simp) (S ?_)
 refine ak cs h (fun cs h=>S ?_) (fun cs h=>S ?_)
 ·cases rs_ h
  exact ah SC
 ·refine ak cs h (fun cs h=>S ?_) (fun cs h=>S ?_)
  ·cases rs_ h
   exact ah SC
  ·refine ak cs h (fun cs h=>S ?_) (fun cs h=>S ?_)
   ·cases rs_ h
    exact ah SC
   ·refine ak cs h (fun cs h=>S ?_) (fun cs h=>S ?_)
    ·cases rs_ h
     exact ah SC
    ·refine ak cs h (fun cs h=>S ?_) (fun cs h=>S ?_)
     ·cases rs_ h
      exact ah SC
     ·refine ak cs h (fun cs h=>S ?_) (fun cs h=>S ?_)
      ·cases rs_ h
       exact ah SC
      ·refine ak cs h (fun cs h=>S ?_) (fun cs h=>S ?_)
       ·cases rs_ h
        exact ah SC
       ·cases rs_ h
        exact ah SC

theorem slH_1{a0:List Ft}{a1:Ft}  {r:Bool}(h:slH_ a0 a1=some r):Sat aj 182 [(.sl false 5 (a0.map (ae false))),((ae false) a1)] (B r):=by
 obtain⟨h,cs⟩:=Ro_ h
 unfold slH_ at h
 refine av (nt:=18) (rs:=[.tmp 4]) (n:=100000) Tryz.func182 rfl rfl rfl rfl (by simp) (S ?_)
 refine aR (b:=false) (sz:=5) (es:=a0.map (ae false)) 0 SC fun hl0=>?_; rw[aB] at hl0
 replace h:=rl_ h
 refine aF h (fun i2 s2=>[(0,.val (.pv (.sl false 5 (a0.map (ae false))))),(3,.box (.pv ((ae false) a1))),(5,.val (.pv (I (i2:Int))))]) (fun i2 s2=>[]) (Slm_ SC) (fun i2 s2 hi h=>?_) (fun s2 h=>?_)
 ·have w:=ws_ (i:=i2) (by omega)
  refine S ?_
  refine aD cs (by omega) (fun cs=>S ?_)
  obtain⟨v14,hv14,h⟩:=rb_ h
  refine ar (f:=(ae false)) hv14 SC (S ?_)
  obtain⟨v17,hv17,h⟩:=rb_ h
  refine ai [false,false] (slS_9 hv17) SC (S ?_)
  refine ag (DHa_ [] []) (S ?_)
  refine ak cs h (fun cs h=>S ?_) (fun cs h=>S ?_)
  ·cases rs_ h
   exact ah SC
  ·have h:=rs_ h
   refine aA ⟨_,h,?_⟩
   exact Slm_ SW
 ·refine S ?_
  refine aE cs (by omega) (fun cs=>S ?_)
  cases rs_ h
  exact ah SC

theorem slO_9{a0:Int}  {r:Int}(h:slO_1 a0=some r):Sat aj 183 [(I a0)] (I r):=by
 obtain⟨h,cs⟩:=Ro_ h
 unfold slO_1 at h
 refine av (nt:=24) (rs:=[.tmp 2]) (n:=100000) Tryz.func183 rfl rfl rfl rfl (by simp) (S ?_)
 refine ak cs h (fun cs h=>S ?_) (fun cs h=>S ?_)
 ·cases rs_ h
  exact ah SC
 ·refine ak cs h (fun cs h=>S ?_) (fun cs h=>S ?_)
  ·cases rs_ h
   exact ah SC
  ·refine ak cs h (fun cs h=>S ?_) (fun cs h=>S ?_)
   ·cases rs_ h
    exact ah SC
   ·refine ak cs h (fun cs h=>S ?_) (fun cs h=>S ?_)
    ·cases rs_ h
     exact ah SC
    ·refine ak cs h (fun cs h=>S ?_) (fun cs h=>S ?_)
     ·cases rs_ h
      exact ah SC
     ·refine ak cs h (fun cs h=>S ?_) (fun cs h=>S ?_)
      ·cases rs_ h
       exact ah SC
      ·refine ak cs h (fun cs h=>S ?_) (fun cs h=>S ?_)
       ·cases rs_ h
        exact ah SC
       ·refine ak cs h (fun cs h=>S ?_) (fun cs h=>S ?_)
        ·cases rs_ h
         exact ah SC
        ·refine ak cs h (fun cs h=>S ?_) (fun cs h=>S ?_)
         ·cases rs_ h
          exact ah SC
         ·refine ak cs h (fun cs h=>S ?_) (fun cs h=>S ?_)
          ·cases rs_ h
           exact ah SC
          ·refine ak cs h (fun cs h=>S ?_) (fun cs h=>S ?_)
           ·cases rs_ h
            exact ah SC
           ·refine ak cs h (fun cs h=>S ?_) (fun cs h=>S ?_)
            ·cases rs_ h
             exact ah SC
            ·refine ak cs h (fun cs h=>S ?_) (fun cs h=>S ?_)
             ·cases rs_ h
              exact ah SC
             ·cases rs_ h
              exact ah SC

theorem slP_11{a0:Sb}{a1:ByteArray}{a2:Tt}  {r:Sb}(h:slP_5 a0 a1 a2=some r):Sat aj 198 [((Sb.pv false) a0),(Sx a1),((am false) a2)] ((Sb.pv false) r):=by
 obtain⟨h,cs⟩:=Ro_ h
 unfold slP_5 at h
 refine av (nt:=51) (rs:=[.cell 6 181]) (n:=100000) Tryz.func198 rfl rfl rfl rfl (by simp) (S ?_)
 refine ak cs h (fun cs h=>S ?_) (fun cs h=>S ?_)
 ·cases rs_ h
  exact aL SC
 ·refine Mkv_ (b:=false) (sz:=3) (es:=a0.Bindings.map (Bt.pv false)) (x:=(.pv ((Sb.pv false) a0))) 0 [0] SC fun hl0=>?_; rw[aB] at hl0
  replace h:=rl_ h
  refine aF h (fun i4 s4=>[(1,.val (.pv (Sx a1))),(3,.box (.pv ((Sb.pv false) a0))),(5,.box (.pv ((am false) a2))),(6,.box (.node [(.pv (.sl true 3 []))])),(7,.val (.pv (I (i4:Int))))]) (fun i4 s4=>[]) (Slm_ SC) (fun i4 s4 hi h=>?_) (fun s4 h=>?_)
  ·have w:=ws_ (i:=i4) (by omega)
   refine S ?_
   refine aD cs (by omega) (fun cs=>S ?_)
   obtain⟨v23,hv23,h⟩:=rb_ h
   refine ar (f:=(Bt.pv false)) hv23 SC (S ?_)
   refine ak cs h (fun cs h=>S ?_) (fun cs h=>S ?_)
   ·have h:=rs_ h
    refine aA ⟨_,h,?_⟩
    exact Slm_ SW
   ·obtain⟨v35,hv35,h⟩:=rb_ h
    refine SlcH.mk (f:=(Bt.pv false)) hv35 SC (S ?_)
    obtain⟨v36,hv36,h⟩:=rb_ h
    refine aO (f:=(Bt.pv false)) (fun a=>Bt.psize _ a) hv36 SC SC (S ?_)
    obtain⟨v40,hv40,h⟩:=rb_ h
    refine ai [false] (SvO_ (res':=((am false) v40)) (slO_7 hv40) (by simp only[vt_,vs_,va_,vl_,aI,RB,RS])) SC (S ?_)
    obtain⟨v43,hv43,h⟩:=rb_ h
    refine aO (f:=(Bt.pv false)) (fun a=>Bt.psize _ a) hv43 SC SC (S ?_)
    obtain⟨v48,hv48,h⟩:=rb_ h
    refine SlcH.mk (f:=(Bt.pv false)) hv48 SC (S ?_)
    obtain⟨v49,hv49,h⟩:=rb_ h
    refine aO (f:=(Bt.pv false)) (fun a=>Bt.psize _ a) hv49 SC SC (S ?_)
    cases rs_ h
    exact aL SC
  ·refine S ?_
   refine aE cs (by omega) (fun cs=>S ?_)
   obtain⟨v35,hv35,h⟩:=rb_ h
   refine SlcH.mk (f:=(Bt.pv false)) hv35 SC (S ?_)
   obtain⟨v36,hv36,h⟩:=rb_ h
   refine aO (f:=(Bt.pv false)) (fun a=>Bt.psize _ a) hv36 SC SC (S ?_)
   obtain⟨v40,hv40,h⟩:=rb_ h
   refine ai [false] (SvO_ (res':=((am false) v40)) (slO_7 hv40) (by simp only[vt_,vs_,va_,vl_,aI,RB,RS])) SC (S ?_)
   obtain⟨v43,hv43,h⟩:=rb_ h
   refine aO (f:=(Bt.pv false)) (fun a=>Bt.psize _ a) hv43 SC SC (S ?_)
   obtain⟨v48,hv48,h⟩:=rb_ h
   refine SlcH.mk (f:=(Bt.pv false)) hv48 SC (S ?_)
   obtain⟨v49,hv49,h⟩:=rb_ h
   refine aO (f:=(Bt.pv false)) (fun a=>Bt.psize _ a) hv49 SC SC (S ?_)
   cases rs_ h
   exact aL SC

theorem slF_11{a0:Sb}{a1:ByteArray}  {r:Int}(h:slF_4 a0 a1=some r):Sat aj 207 [((Sb.pv false) a0),(Sx a1)] (I r):=by
 obtain⟨h,cs⟩:=Ro_ h
 unfold slF_4 at h
 refine av (nt:=22) (rs:=[.tmp 4]) (n:=100000) Tryz.func207 rfl rfl rfl rfl (by simp) (S ?_)
 refine Mkv_ (b:=false) (sz:=3) (es:=a0.Bindings.map (Bt.pv false)) (x:=(.pv ((Sb.pv false) a0))) 0 [0] SC fun hl0=>?_; rw[aB] at hl0
 replace h:=rl_ h
 refine aF h (fun i2 s2=>[(1,.val (.pv (Sx a1))),(2,.box (.pv ((Sb.pv false) a0))),(5,.val (.pv (I (i2:Int))))]) (fun i2 s2=>[]) (Slm_ SC) (fun i2 s2 hi h=>?_) (fun s2 h=>?_)
 ·have w:=ws_ (i:=i2) (by omega)
  refine S ?_
  refine aD cs (by omega) (fun cs=>S ?_)
  obtain⟨v16,hv16,h⟩:=rb_ h
  refine ar (f:=(Bt.pv false)) hv16 SC (S ?_)
  refine ak cs h (fun cs h=>S ?_) (fun cs h=>S ?_)
  ·cases rs_ h
   exact ah SC
  ·have h:=rs_ h
   refine aA ⟨_,h,?_⟩
   exact Slm_ SW
 ·refine S ?_
  refine aE cs (by omega) (fun cs=>S ?_)
  cases rs_ h
  exact ah SC

theorem slA_4(n:Nat):(∀ (a0:Sb) (a1:Tt) (r:Tt),slA_ n a0 a1=some r→Sat aj 197 [((Sb.pv false) a0),((am false) a1)] ((am true) r)):=by
 induction n with
 | zero=>exact fun _ _ _ h=>by simp[slA_] at h
 | succ n ih=>
  refine fun a0 a1 r h=>?_
  obtain⟨h,cs⟩:=Ro_ h
  rw[slA_] at h
  refine av (nt:=50) (rs:=[.cell 4 42]) (n:=100000) Tryz.func197 rfl rfl rfl rfl (by simp) (S ?_)
  obtain⟨v10,hv10,h⟩:=rb_ h
  refine ai [false] (slV_4 hv10) SC (S ?_)
  refine ak cs h (fun cs h=>S ?_) (fun cs h=>S ?_)
  ·obtain⟨v14,hv14,h⟩:=rb_ h
   refine ai [false,false] (slF_11 hv14) SC (S ?_)
   refine ak cs h (fun cs h=>S ?_) (fun cs h=>S ?_)
   ·obtain⟨v20,hv20,h⟩:=rb_ h
    refine ar (f:=(Bt.pv false)) hv20 SC (S ?_)
    obtain⟨v23,hv23,h⟩:=rb_ h
    refine ai [false] (slO_7 hv23) SC (S ?_)
    cases rs_ h
    exact ah SC
   ·cases rs_ h
    exact ah SC
  ·refine Mkv_ (b:=false) (sz:=2) (es:=a1.Args.map (am false)) (x:=(.pv ((am false) a1))) 1 [1] SC fun hl1=>?_; rw[aB] at hl1
   replace h:=rl_ h
   refine aF h (fun i8 s8=>[(2,.box (.pv ((Sb.pv false) a0))),(3,.box (.pv ((am false) a1))),(4,.box (.node [(.pv (Sx ⟨#[]⟩)),(.pv (.sl true 2 []))])),(6,.box (.node [(.pv (Sx a1.Name)),(.own 9324)])),(7,.val (.pv (I (i8:Int))))]) (fun i8 s8=>[(9324,(2,s8.map (am true)))]) (aM (Sln_ (x:=(.node [(.pv (Sx a1.Name)),(.pv (.sl true 2 []))])) 6 [1] 9324 2 NM SC SC SC) (Slm_ SC)) (fun i8 s8 hi h=>?_) (fun s8 h=>?_)
   ·have w:=ws_ (i:=i8) (by omega)
    refine S ?_
    refine aD cs (by omega) (fun cs=>S ?_)
    obtain⟨v43,hv43,h⟩:=rb_ h
    refine ar (f:=(am false)) hv43 SC (S ?_)
    obtain⟨v45,hv45,h⟩:=rb_ h
    refine ai [false,false] (ih _ _ _ hv45) SC (S ?_)
    obtain⟨v47,hv47,h⟩:=rb_ h
    refine aO (f:=(am true)) (fun a=>Tt.psize _ a) hv47 SC SC (S ?_)
    refine ag (DHa_ [] [720,736,752]) (S ?_)
    have h:=rs_ h
    refine aA ⟨_,h,?_⟩
    refine aM (Slm_1 (S:=[(2,.box (.pv ((Sb.pv false) a0))),(3,.box (.pv ((am false) a1))),(4,.box (.node [(.pv (Sx ⟨#[]⟩)),(.pv (.sl true 2 []))])),(6,.box (.node [(.pv (Sx a1.Name)),(.own 752)])),(7,.val (.pv (I (IntKind.i64.wrap ((i8:Int)+1)))))]) (O:=[(752,(2,v47.map (am true)))]) SW SW) ?_
    refine Slr_ 752 9324 (by decide) NM ?_
    exact Slm_ SW
   ·refine S ?_
    refine aE cs (by omega) (fun cs=>S ?_)
    cases rs_ h
    exact ah SC
theorem slA_5{a0:Sb}{a1:Tt}{r:Tt}(h:slA_2 a0 a1=some r):Sat aj 197 [((Sb.pv false) a0),((am false) a1)] ((am true) r):=by
 obtain⟨n,hn⟩:=ls_ h
 exact(slA_4 n) _ _ _ hn

theorem slP_6{a0:List ByteArray}{a1:ByteArray}  {r:List ByteArray}(h:slP_3 a0 a1=some r):Sat aj 209 [(.sl false 1 (a0.map Sx)),(Sx a1)] (.sl false 1 (r.map Sx)):=by
 obtain⟨h,cs⟩:=Ro_ h
 unfold slP_3 at h
 refine av (nt:=45) (rs:=[.tmp 4]) (n:=100000) Tryz.func209 rfl rfl rfl rfl (by simp) (S ?_)
 refine aR (b:=false) (sz:=1) (es:=a0.map Sx) 0 SC fun hl0=>?_; rw[aB] at hl0
 replace h:=rl_ h
 refine aF h (fun i2 s2=>[(0,.val (.pv (.sl false 1 (a0.map Sx)))),(1,.val (.pv (Sx a1))),(5,.val (.pv (I (i2:Int))))]) (fun i2 s2=>[]) (Slm_ SC) (fun i2 s2 hi h=>?_) (fun s2 h=>?_)
 ·have w:=ws_ (i:=i2) (by omega)
  refine S ?_
  refine aD cs (by omega) (fun cs=>S ?_)
  obtain⟨v13,hv13,h⟩:=rb_ h
  refine ar (f:=Sx) hv13 SC (S ?_)
  refine ak cs h (fun cs h=>S ?_) (fun cs h=>S ?_)
  ·have h:=rs_ h
   refine aA ⟨_,h,?_⟩
   exact Slm_ SW
  ·obtain⟨v27,hv27,h⟩:=rb_ h
   refine ar (f:=Sx) hv27 SC (S ?_)
   refine ak cs h (fun cs h=>S ?_) (fun cs h=>S ?_)
   ·cases rs_ h
    exact aL SC
   ·obtain⟨v36,hv36,h⟩:=rb_ h
    refine SlcH.mk (f:=Sx) hv36 SC (S ?_)
    obtain⟨v37,hv37,h⟩:=rb_ h
    refine aO (f:=Sx) (fun _=>rfl) hv37 SC SC (S ?_)
    obtain⟨v40,hv40,h⟩:=rb_ h
    refine aO (f:=Sx) (fun _=>rfl) hv40 SC SC (S ?_)
    obtain⟨v43,hv43,h⟩:=rb_ h
    refine SlcH.mk (f:=Sx) hv43 SC (S ?_)
    obtain⟨v44,hv44,h⟩:=rb_ h
    refine aO (f:=Sx) (fun _=>rfl) hv44 SC SC (S ?_)
    refine ag (DHa_ [] [528,592,624,640,704]) (S ?_)
    cases rs_ h
    exact aL SC
 ·refine S ?_
  refine aE cs (by omega) (fun cs=>S ?_)
  obtain⟨v36,hv36,h⟩:=rb_ h
  refine SlcH.mk (f:=Sx) hv36 SC (S ?_)
  obtain⟨v37,hv37,h⟩:=rb_ h
  refine aO (f:=Sx) (fun _=>rfl) hv37 SC SC (S ?_)
  obtain⟨v40,hv40,h⟩:=rb_ h
  refine aO (f:=Sx) (fun _=>rfl) hv40 SC SC (S ?_)
  obtain⟨v43,hv43,h⟩:=rb_ h
  refine SlcH.mk (f:=Sx) hv43 SC (S ?_)
  obtain⟨v44,hv44,h⟩:=rb_ h
  refine aO (f:=Sx) (fun _=>rfl) hv44 SC SC (S ?_)
  refine ag (DHa_ [] [528,592,624,640,704]) (S ?_)
  cases rs_ h
  exact aL SC

theorem slI_14(n:Nat):(∀ (a0:List ByteArray) (a1:Tt) (r:List ByteArray),slI_3 n a0 a1=some r→Sat aj 208 [(.sl false 1 (a0.map Sx)),((am false) a1)] (.sl false 1 (r.map Sx))):=by
 induction n with
 | zero=>exact fun _ _ _ h=>by simp[slI_3] at h
 | succ n ih=>
  refine fun a0 a1 r h=>?_
  obtain⟨h,cs⟩:=Ro_ h
  rw[slI_3] at h
  refine av (nt:=28) (rs:=[.tmp 4]) (n:=100000) Tryz.func208 rfl rfl rfl rfl (by simp) (S ?_)
  obtain⟨v8,hv8,h⟩:=rb_ h
  refine ai [false] (slV_4 hv8) SC (S ?_)
  refine ak cs h (fun cs h=>S ?_) (fun cs h=>S ?_)
  ·obtain⟨v12,hv12,h⟩:=rb_ h
   refine ai [false,false] (slP_6 hv12) SC (S ?_)
   cases rs_ h
   exact aL SC
  ·refine Mkv_ (b:=false) (sz:=2) (es:=a1.Args.map (am false)) (x:=(.pv ((am false) a1))) 1 [1] SC fun hl1=>?_; rw[aB] at hl1
   replace h:=rl_ h
   refine aF h (fun i4 s4=>[(0,.val (.pv (.sl false 1 (s4.map Sx)))),(3,.box (.pv ((am false) a1))),(5,.val (.pv (I (i4:Int))))]) (fun i4 s4=>[]) (Slm_ SC) (fun i4 s4 hi h=>?_) (fun s4 h=>?_)
   ·have w:=ws_ (i:=i4) (by omega)
    refine S ?_
    refine aD cs (by omega) (fun cs=>S ?_)
    obtain⟨v24,hv24,h⟩:=rb_ h
    refine ar (f:=(am false)) hv24 SC (S ?_)
    obtain⟨v26,hv26,h⟩:=rb_ h
    refine ai [false,false] (ih _ _ _ hv26) SC (S ?_)
    have h:=rs_ h
    refine aA ⟨_,h,?_⟩
    exact Slm_ SW
   ·refine S ?_
    refine aE cs (by omega) (fun cs=>S ?_)
    cases rs_ h
    exact aL SC
theorem slI_15{a0:List ByteArray}{a1:Tt}{r:List ByteArray}(h:slI_11 a0 a1=some r):Sat aj 208 [(.sl false 1 (a0.map Sx)),((am false) a1)] (.sl false 1 (r.map Sx)):=by
 obtain⟨n,hn⟩:=ls_ h
 exact(slI_14 n) _ _ _ hn

theorem slV_5{a0:Tt}  {r:List ByteArray}(h:slV_3 a0=some r):Sat aj 200 [((am false) a0)] (.sl false 1 (r.map Sx)):=by
 obtain⟨h,cs⟩:=Ro_ h
 unfold slV_3 at h
 refine av (nt:=6) (rs:=[.tmp 2]) (n:=100000) Tryz.func200 rfl rfl rfl rfl (by simp) (S ?_)
 obtain⟨v5,hv5,h⟩:=rb_ h
 refine ai [true,false] (Sat.give (args:=[(.sl true 1 (([]).map Sx)),((am false) a0)]) [true,false] (by have gg:=slI_15 hv5; simp only[gv_t,gv_f,gv_n,vs_,va_,vl_,vrB_,vrI_,aI,RB,RS] at gg ⊢; exact gg)) SC (S ?_)
 cases rs_ h
 exact aL SC

theorem slI_6{a0:List ByteArray}{a1:ByteArray}  {r:Bool}(h:slI_7 a0 a1=some r):Sat aj 192 [(.sl false 1 (a0.map Sx)),(Sx a1)] (B r):=by
 obtain⟨h,cs⟩:=Ro_ h
 unfold slI_7 at h
 refine av (nt:=18) (rs:=[.tmp 4]) (n:=100000) Tryz.func192 rfl rfl rfl rfl (by simp) (S ?_)
 refine aR (b:=false) (sz:=1) (es:=a0.map Sx) 0 SC fun hl0=>?_; rw[aB] at hl0
 replace h:=rl_ h
 refine aF h (fun i2 s2=>[(0,.val (.pv (.sl false 1 (a0.map Sx)))),(1,.val (.pv (Sx a1))),(5,.val (.pv (I (i2:Int))))]) (fun i2 s2=>[]) (Slm_ SC) (fun i2 s2 hi h=>?_) (fun s2 h=>?_)
 ·have w:=ws_ (i:=i2) (by omega)
  refine S ?_
  refine aD cs (by omega) (fun cs=>S ?_)
  obtain⟨v14,hv14,h⟩:=rb_ h
  refine ar (f:=Sx) hv14 SC (S ?_)
  refine ak cs h (fun cs h=>S ?_) (fun cs h=>S ?_)
  ·cases rs_ h
   exact ah SC
  ·have h:=rs_ h
   refine aA ⟨_,h,?_⟩
   exact Slm_ SW
 ·refine S ?_
  refine aE cs (by omega) (fun cs=>S ?_)
  cases rs_ h
  exact ah SC

theorem slI_13(n:Nat):(∀ (a0:List ByteArray) (a1:Ft) (a2:List ByteArray) (r:List ByteArray),slI_1 n a0 a1 a2=some r→Sat aj 201 [(.sl false 1 (a0.map Sx)),((ae false) a1),(.sl false 1 (a2.map Sx))] (.sl false 1 (r.map Sx))):=by
 induction n with
 | zero=>exact fun _ _ _ _ h=>by simp[slI_1] at h
 | succ n ih=>
  refine fun a0 a1 a2 r h=>?_
  obtain⟨h,cs⟩:=Ro_ h
  rw[slI_1] at h
  refine av (nt:=66) (rs:=[.tmp 6]) (n:=100000) Tryz.func201 rfl rfl rfl rfl (by simp) (S ?_)
  refine ak cs h (fun cs h=>S ?_) (fun cs h=>S ?_)
  ·obtain⟨v15,hv15,h⟩:=rb_ h
   refine ai [false] (slV_5 hv15) SC (S ?_)
   refine aR (b:=false) (sz:=1) (es:=v15.map Sx) 7 SC fun hl7=>?_; rw[aB] at hl7
   replace h:=rl_ h
   refine aF h (fun i4 s4=>[(0,.val (.pv (.sl false 1 (s4.map Sx)))),(2,.val (.pv (.sl false 1 (a2.map Sx)))),(4,.box (.pv ((ae false) a1))),(7,.val (.pv (.sl false 1 (v15.map Sx)))),(8,.val (.pv (I (i4:Int))))]) (fun i4 s4=>[]) (Slm_ SC) (fun i4 s4 hi h=>?_) (fun s4 h=>?_)
   ·have w:=ws_ (i:=i4) (by omega)
    refine S ?_
    refine aD cs (by omega) (fun cs=>S ?_)
    obtain⟨v25,hv25,h⟩:=rb_ h
    refine ar (f:=Sx) hv25 SC (S ?_)
    obtain⟨v27,hv27,h⟩:=rb_ h
    refine ai [false,false] (slI_6 hv27) SC (S ?_)
    refine ak cs h (fun cs h=>S ?_) (fun cs h=>S ?_)
    ·have h:=rs_ h
     refine aA ⟨_,h,?_⟩
     exact Slm_ SW
    ·obtain⟨v32,hv32,h⟩:=rb_ h
     refine ar (f:=Sx) hv32 SC (S ?_)
     obtain⟨v34,hv34,h⟩:=rb_ h
     refine ai [false,false] (slP_6 hv34) SC (S ?_)
     have h:=rs_ h
     refine aA ⟨_,h,?_⟩
     exact Slm_ SW
   ·refine S ?_
    refine aE cs (by omega) (fun cs=>S ?_)
    refine ak cs h (fun cs h=>S ?_) (fun cs h=>S ?_)
    ·obtain⟨v45,hv45,h⟩:=rb_ h
     refine aO (f:=Sx) (fun _=>rfl) hv45 SC SC (S ?_)
     obtain⟨v49,hv49,h⟩:=rb_ h
     refine aO (f:=Sx) (fun _=>rfl) hv49 SC SC (S ?_)
     refine ag (DHa_ [] [688,720,768,784]) (S ?_)
     refine Mkb_ (b:=false) (sz:=5) (es:=a1.Parts.map (ae false)) (x:=(.pv ((ae false) a1))) 4 [3] SC fun hl4=>?_; rw[aB] at hl4
     replace h:=rl_ h
     refine aF h (fun i11 s11=>[(0,.val (.pv (.sl false 1 (s11.map Sx)))),(2,.val (.pv (.sl false 1 (v49.map Sx)))),(4,.box (.pv ((ae false) a1))),(9,.val (.pv (I (i11:Int))))]) (fun i11 s11=>[]) (aM (Sld_ (x:=(.own 784)) (sz:=(1)) (es:=v49.map Sx) 2 [] 784 SC) (Slm_ SC)) (fun i11 s11 hi h=>?_) (fun s11 h=>?_)
     ·have w:=ws_ (i:=i11) (by omega)
      refine S ?_
      refine aD cs (by omega) (fun cs=>S ?_)
      obtain⟨v61,hv61,h⟩:=rb_ h
      refine ar (f:=(ae false)) hv61 SC (S ?_)
      obtain⟨v64,hv64,h⟩:=rb_ h
      refine ai [false,false,false] (ih _ _ _ _ hv64) SC (S ?_)
      have h:=rs_ h
      refine aA ⟨_,h,?_⟩
      exact Slm_ SW
     ·refine S ?_
      refine aE cs (by omega) (fun cs=>S ?_)
      cases rs_ h
      exact aL SC
    ·refine ak cs h (fun cs h=>S ?_) (fun cs h=>S ?_)
     ·obtain⟨v45,hv45,h⟩:=rb_ h
      refine aO (f:=Sx) (fun _=>rfl) hv45 SC SC (S ?_)
      obtain⟨v49,hv49,h⟩:=rb_ h
      refine aO (f:=Sx) (fun _=>rfl) hv49 SC SC (S ?_)
      refine ag (DHa_ [] [688,720,768,784]) (S ?_)
      refine Mkb_ (b:=false) (sz:=5) (es:=a1.Parts.map (ae false)) (x:=(.pv ((ae false) a1))) 4 [3] SC fun hl4=>?_; rw[aB] at hl4
      replace h:=rl_ h
      refine aF h (fun i11 s11=>[(0,.val (.pv (.sl false 1 (s11.map Sx)))),(2,.val (.pv (.sl false 1 (v49.map Sx)))),(4,.box (.pv ((ae false) a1))),(9,.val (.pv (I (i11:Int))))]) (fun i11 s11=>[]) (aM (Sld_ (x:=(.own 784)) (sz:=(1)) (es:=v49.map Sx) 2 [] 784 SC) (Slm_ SC)) (fun i11 s11 hi h=>?_) (fun s11 h=>?_)
      ·have w:=ws_ (i:=i11) (by omega)
       refine S ?_
       refine aD cs (by omega) (fun cs=>S ?_)
       obtain⟨v61,hv61,h⟩:=rb_ h
       refine ar (f:=(ae false)) hv61 SC (S ?_)
       obtain⟨v64,hv64,h⟩:=rb_ h
       refine ai [false,false,false] (ih _ _ _ _ hv64) SC (S ?_)
       have h:=rs_ h
       refine aA ⟨_,h,?_⟩
       exact Slm_ SW
      ·refine S ?_
       refine aE cs (by omega) (fun cs=>S ?_)
       cases rs_ h
       exact aL SC
     ·refine Mkb_ (b:=false) (sz:=5) (es:=a1.Parts.map (ae false)) (x:=(.pv ((ae false) a1))) 4 [3] SC fun hl4=>?_; rw[aB] at hl4
      replace h:=rl_ h
      refine aF h (fun i11 s11=>[(0,.val (.pv (.sl false 1 (s11.map Sx)))),(2,.val (.pv (.sl false 1 (a2.map Sx)))),(4,.box (.pv ((ae false) a1))),(9,.val (.pv (I (i11:Int))))]) (fun i11 s11=>[]) (Slm_ SC) (fun i11 s11 hi h=>?_) (fun s11 h=>?_)
      ·have w:=ws_ (i:=i11) (by omega)
       refine S ?_
       refine aD cs (by omega) (fun cs=>S ?_)
       obtain⟨v61,hv61,h⟩:=rb_ h
       refine ar (f:=(ae false)) hv61 SC (S ?_)
       obtain⟨v64,hv64,h⟩:=rb_ h
       refine ai [false,false,false] (ih _ _ _ _ hv64) SC (S ?_)
       have h:=rs_ h
       refine aA ⟨_,h,?_⟩
       exact Slm_ SW
      ·refine S ?_
       refine aE cs (by omega) (fun cs=>S ?_)
       cases rs_ h
       exact aL SC
  ·refine ak cs h (fun cs h=>S ?_) (fun cs h=>S ?_)
   ·obtain⟨v45,hv45,h⟩:=rb_ h
    refine aO (f:=Sx) (fun _=>rfl) hv45 SC SC (S ?_)
    obtain⟨v49,hv49,h⟩:=rb_ h
    refine aO (f:=Sx) (fun _=>rfl) hv49 SC SC (S ?_)
    refine ag (DHa_ [] [688,720,768,784]) (S ?_)
    refine Mkv_ (b:=false) (sz:=5) (es:=a1.Parts.map (ae false)) (x:=(.pv ((ae false) a1))) 1 [3] SC fun hl1=>?_; rw[aB] at hl1
    replace h:=rl_ h
    refine aF h (fun i11 s11=>[(0,.val (.pv (.sl false 1 (s11.map Sx)))),(2,.val (.pv (.sl false 1 (v49.map Sx)))),(4,.box (.pv ((ae false) a1))),(9,.val (.pv (I (i11:Int))))]) (fun i11 s11=>[]) (aM (Sld_ (x:=(.own 784)) (sz:=(1)) (es:=v49.map Sx) 2 [] 784 SC) (Slm_ SC)) (fun i11 s11 hi h=>?_) (fun s11 h=>?_)
    ·have w:=ws_ (i:=i11) (by omega)
     refine S ?_
     refine aD cs (by omega) (fun cs=>S ?_)
     obtain⟨v61,hv61,h⟩:=rb_ h
     refine ar (f:=(ae false)) hv61 SC (S ?_)
     obtain⟨v64,hv64,h⟩:=rb_ h
     refine ai [false,false,false] (ih _ _ _ _ hv64) SC (S ?_)
     have h:=rs_ h
     refine aA ⟨_,h,?_⟩
     exact Slm_ SW
    ·refine S ?_
     refine aE cs (by omega) (fun cs=>S ?_)
     cases rs_ h
     exact aL SC
   ·refine ak cs h (fun cs h=>S ?_) (fun cs h=>S ?_)
    ·obtain⟨v45,hv45,h⟩:=rb_ h
     refine aO (f:=Sx) (fun _=>rfl) hv45 SC SC (S ?_)
     obtain⟨v49,hv49,h⟩:=rb_ h
     refine aO (f:=Sx) (fun _=>rfl) hv49 SC SC (S ?_)
     refine ag (DHa_ [] [688,720,768,784]) (S ?_)
     refine Mkv_ (b:=false) (sz:=5) (es:=a1.Parts.map (ae false)) (x:=(.pv ((ae false) a1))) 1 [3] SC fun hl1=>?_; rw[aB] at hl1
     replace h:=rl_ h
     refine aF h (fun i11 s11=>[(0,.val (.pv (.sl false 1 (s11.map Sx)))),(2,.val (.pv (.sl false 1 (v49.map Sx)))),(4,.box (.pv ((ae false) a1))),(9,.val (.pv (I (i11:Int))))]) (fun i11 s11=>[]) (aM (Sld_ (x:=(.own 784)) (sz:=(1)) (es:=v49.map Sx) 2 [] 784 SC) (Slm_ SC)) (fun i11 s11 hi h=>?_) (fun s11 h=>?_)
     ·have w:=ws_ (i:=i11) (by omega)
      refine S ?_
      refine aD cs (by omega) (fun cs=>S ?_)
      obtain⟨v61,hv61,h⟩:=rb_ h
      refine ar (f:=(ae false)) hv61 SC (S ?_)
      obtain⟨v64,hv64,h⟩:=rb_ h
      refine ai [false,false,false] (ih _ _ _ _ hv64) SC (S ?_)
      have h:=rs_ h
      refine aA ⟨_,h,?_⟩
      exact Slm_ SW
     ·refine S ?_
      refine aE cs (by omega) (fun cs=>S ?_)
      cases rs_ h
      exact aL SC
    ·refine Mkv_ (b:=false) (sz:=5) (es:=a1.Parts.map (ae false)) (x:=(.pv ((ae false) a1))) 1 [3] SC fun hl1=>?_; rw[aB] at hl1
     replace h:=rl_ h
     refine aF h (fun i11 s11=>[(0,.val (.pv (.sl false 1 (s11.map Sx)))),(2,.val (.pv (.sl false 1 (a2.map Sx)))),(4,.box (.pv ((ae false) a1))),(9,.val (.pv (I (i11:Int))))]) (fun i11 s11=>[]) (Slm_ SC) (fun i11 s11 hi h=>?_) (fun s11 h=>?_)
     ·have w:=ws_ (i:=i11) (by omega)
      refine S ?_
      refine aD cs (by omega) (fun cs=>S ?_)
      obtain⟨v61,hv61,h⟩:=rb_ h
      refine ar (f:=(ae false)) hv61 SC (S ?_)
      obtain⟨v64,hv64,h⟩:=rb_ h
      refine ai [false,false,false] (ih _ _ _ _ hv64) SC (S ?_)
      have h:=rs_ h
      refine aA ⟨_,h,?_⟩
      exact Slm_ SW
     ·refine S ?_
      refine aE cs (by omega) (fun cs=>S ?_)
      cases rs_ h
      exact aL SC
theorem slI_10{a0:List ByteArray}{a1:Ft}{a2:List ByteArray}{r:List ByteArray}(h:slI_8 a0 a1 a2=some r):Sat aj 201 [(.sl false 1 (a0.map Sx)),((ae false) a1),(.sl false 1 (a2.map Sx))] (.sl false 1 (r.map Sx)):=by
 obtain⟨n,hn⟩:=ls_ h
 exact(slI_13 n) _ _ _ _ hn

theorem slF_6{a0:Ft}  {r:List ByteArray}(h:slF_1 a0=some r):Sat aj 199 [((ae false) a0)] (.sl false 1 (r.map Sx)):=by
 obtain⟨h,cs⟩:=Ro_ h
 unfold slF_1 at h
 refine av (nt:=7) (rs:=[.tmp 2]) (n:=100000) Tryz.func199 rfl rfl rfl rfl (by simp) (S ?_)
 obtain⟨v6,hv6,h⟩:=rb_ h
 refine ai [true,false,true] (Sat.give (args:=[(.sl true 1 (([]).map Sx)),((ae false) a0),(.sl true 1 (([]).map Sx))]) [true,false,true] (by have gg:=slI_10 hv6; simp only[gv_t,gv_f,gv_n,vs_,va_,vl_,vrB_,vrI_,aI,RB,RS] at gg ⊢; exact gg)) SC (S ?_)
 cases rs_ h
 exact aL SC

theorem slP_9(n:Nat):(∀ (a0:Ft) (a1:ByteArray) (a2:Tt) (r:Ft×Bool),slP_1 n a0 a1 a2=some r→Sat aj 191 [((ae false) a0),(Sx a1),((am false) a2)] (.tup [((ae true) r.1),(B r.2)])):=by
 induction n with
 | zero=>exact fun _ _ _ _ h=>by simp[slP_1] at h
 | succ n ih=>
  refine fun a0 a1 a2 r h=>?_
  obtain⟨h,cs⟩:=Ro_ h
  rw[slP_1] at h
  refine av (nt:=90) (rs:=[.cell 6 44,.tmp 7]) (n:=100000) Tryz.func191 rfl rfl rfl rfl (by simp) (S ?_)
  refine ak cs h (fun cs h=>S ?_) (fun cs h=>S ?_)
  ·obtain⟨v23,hv23,h⟩:=rb_ h
   refine ai [false,false,false] (slP_11 hv23) SC (S ?_)
   obtain⟨v26,hv26,h⟩:=rb_ h
   refine ai [false,false] (slA_5 hv26) SC (S ?_)
   refine ag (DHa_ [] [416]) (S ?_)
   obtain⟨v31,hv31,h⟩:=rb_ h
   refine ai [false] (slA_3 hv31) SC (S ?_)
   refine ag (DHa_ [] []) (S ?_)
   cases rs_ h
   exact ah SC
  ·refine ak cs h (fun cs h=>S ?_) (fun cs h=>S ?_)
   ·refine ak cs h (fun cs h=>S ?_) (fun cs h=>S ?_)
    ·obtain⟨v55,hv55,h⟩:=rb_ h
     refine ai [false] (slO_2 hv55) SC (S ?_)
     cases rs_ h
     exact ah SC
    ·obtain⟨v47,hv47,h⟩:=rb_ h
     refine ar (f:=(ae false)) hv47 SC (S ?_)
     obtain⟨v49,hv49,h⟩:=rb_ h
     refine ai [false] (slF_6 hv49) SC (S ?_)
     obtain⟨v51,hv51,h⟩:=rb_ h
     refine ai [false,false] (slI_6 hv51) SC (S ?_)
     refine ak cs h (fun cs h=>S ?_) (fun cs h=>S ?_)
     ·obtain⟨v57,hv57,h⟩:=rb_ h
      refine ai [false] (slV_5 hv57) SC (S ?_)
      obtain⟨v60,hv60,h⟩:=rb_ h
      refine ai [false,false] (slI_6 hv60) SC (S ?_)
      refine ag (DHa_ [] []) (S ?_)
      refine ak cs h (fun cs h=>S ?_) (fun cs h=>S ?_)
      ·cases rs_ h
       exact ah SC
      ·refine aR (b:=false) (sz:=5) (es:=a0.Parts.map (ae false)) 46 SC fun hl46=>?_; rw[aB] at hl46
       replace h:=rl_ h
       refine aF h (fun i11 s11=>[(1,.val (.pv (Sx a1))),(3,.box (.pv ((ae false) a0))),(5,.box (.pv ((am false) a2))),(6,.box (.node [(.pv (I 0)),(.node [(.pv (Sx ⟨#[]⟩)),(.pv (.sl true 2 []))]),(.pv (Sx ⟨#[]⟩)),(.pv (.sl true 5 []))])),(8,.box (.node [(.pv (I a0.Op)),(.node [(.pv (Sx ⟨#[]⟩)),(.pv (.sl true 2 []))]),(.pv (Sx a0.Var)),(.own 9333)])),(9,.val (.pv (I (i11:Int))))]) (fun i11 s11=>[(9333,(5,s11.map (ae true)))]) (aM (Sln_ (x:=(.node [(.pv (I a0.Op)),(.node [(.pv (Sx ⟨#[]⟩)),(.pv (.sl true 2 []))]),(.pv (Sx a0.Var)),(.pv (.sl true 5 []))])) 8 [3] 9333 5 NM SC SC SC) (Slm_ SC)) (fun i11 s11 hi h=>?_) (fun s11 h=>?_)
       ·have w:=ws_ (i:=i11) (by omega)
        refine S ?_
        refine aD cs (by omega) (fun cs=>S ?_)
        obtain⟨v73,hv73,h⟩:=rb_ h
        refine ar (f:=(ae false)) hv73 SC (S ?_)
        obtain⟨v77,hv77,h⟩:=rb_ h
        refine ai [false,false,false] (ih _ _ _ _ hv77) SC (S ?_)
        refine ag (DHa_ [10] [1232,1233]) (S ?_)
        refine ak cs h (fun cs h=>S ?_) (fun cs h=>S ?_)
        ·obtain⟨v87,hv87,h⟩:=rb_ h
         refine aO (f:=(ae true)) (fun a=>Ft.psize _ a) hv87 SC SC (S ?_)
         have h:=rs_ h
         refine aA ⟨_,h,?_⟩
         refine aM (Slm_1 (S:=[(1,.val (.pv (Sx a1))),(3,.box (.pv ((ae false) a0))),(5,.box (.pv ((am false) a2))),(6,.box (.node [(.pv (I 0)),(.node [(.pv (Sx ⟨#[]⟩)),(.pv (.sl true 2 []))]),(.pv (Sx ⟨#[]⟩)),(.pv (.sl true 5 []))])),(8,.box (.node [(.pv (I a0.Op)),(.node [(.pv (Sx ⟨#[]⟩)),(.pv (.sl true 2 []))]),(.pv (Sx a0.Var)),(.own 1392)])),(9,.val (.pv (I (IntKind.i64.wrap ((i11:Int)+1)))))]) (O:=[(1392,(5,v87.map (ae true)))]) SW SW) ?_
         refine Slr_ 1392 9333 (by decide) NM ?_
         exact Slm_ SW
        ·cases rs_ h
         exact ah SC
       ·refine S ?_
        refine aE cs (by omega) (fun cs=>S ?_)
        cases rs_ h
        exact ah SC
     ·obtain⟨v55,hv55,h⟩:=rb_ h
      refine ai [false] (slO_2 hv55) SC (S ?_)
      cases rs_ h
      exact ah SC
   ·refine ak cs h (fun cs h=>S ?_) (fun cs h=>S ?_)
    ·refine ak cs h (fun cs h=>S ?_) (fun cs h=>S ?_)
     ·obtain⟨v55,hv55,h⟩:=rb_ h
      refine ai [false] (slO_2 hv55) SC (S ?_)
      cases rs_ h
      exact ah SC
     ·obtain⟨v47,hv47,h⟩:=rb_ h
      refine ar (f:=(ae false)) hv47 SC (S ?_)
      obtain⟨v49,hv49,h⟩:=rb_ h
      refine ai [false] (slF_6 hv49) SC (S ?_)
      obtain⟨v51,hv51,h⟩:=rb_ h
      refine ai [false,false] (slI_6 hv51) SC (S ?_)
      refine ak cs h (fun cs h=>S ?_) (fun cs h=>S ?_)
      ·obtain⟨v57,hv57,h⟩:=rb_ h
       refine ai [false] (slV_5 hv57) SC (S ?_)
       obtain⟨v60,hv60,h⟩:=rb_ h
       refine ai [false,false] (slI_6 hv60) SC (S ?_)
       refine ag (DHa_ [] []) (S ?_)
       refine ak cs h (fun cs h=>S ?_) (fun cs h=>S ?_)
       ·cases rs_ h
        exact ah SC
       ·refine aR (b:=false) (sz:=5) (es:=a0.Parts.map (ae false)) 46 SC fun hl46=>?_; rw[aB] at hl46
        replace h:=rl_ h
        refine aF h (fun i11 s11=>[(1,.val (.pv (Sx a1))),(3,.box (.pv ((ae false) a0))),(5,.box (.pv ((am false) a2))),(6,.box (.node [(.pv (I 0)),(.node [(.pv (Sx ⟨#[]⟩)),(.pv (.sl true 2 []))]),(.pv (Sx ⟨#[]⟩)),(.pv (.sl true 5 []))])),(8,.box (.node [(.pv (I a0.Op)),(.node [(.pv (Sx ⟨#[]⟩)),(.pv (.sl true 2 []))]),(.pv (Sx a0.Var)),(.own 9333)])),(9,.val (.pv (I (i11:Int))))]) (fun i11 s11=>[(9333,(5,s11.map (ae true)))]) (aM (Sln_ (x:=(.node [(.pv (I a0.Op)),(.node [(.pv (Sx ⟨#[]⟩)),(.pv (.sl true 2 []))]),(.pv (Sx a0.Var)),(.pv (.sl true 5 []))])) 8 [3] 9333 5 NM SC SC SC) (Slm_ SC)) (fun i11 s11 hi h=>?_) (fun s11 h=>?_)
        ·have w:=ws_ (i:=i11) (by omega)
         refine S ?_
         refine aD cs (by omega) (fun cs=>S ?_)
         obtain⟨v73,hv73,h⟩:=rb_ h
         refine ar (f:=(ae false)) hv73 SC (S ?_)
         obtain⟨v77,hv77,h⟩:=rb_ h
         refine ai [false,false,false] (ih _ _ _ _ hv77) SC (S ?_)
         refine ag (DHa_ [10] [1232,1233]) (S ?_)
         refine ak cs h (fun cs h=>S ?_) (fun cs h=>S ?_)
         ·obtain⟨v87,hv87,h⟩:=rb_ h
          refine aO (f:=(ae true)) (fun a=>Ft.psize _ a) hv87 SC SC (S ?_)
          have h:=rs_ h
          refine aA ⟨_,h,?_⟩
          refine aM (Slm_1 (S:=[(1,.val (.pv (Sx a1))),(3,.box (.pv ((ae false) a0))),(5,.box (.pv ((am false) a2))),(6,.box (.node [(.pv (I 0)),(.node [(.pv (Sx ⟨#[]⟩)),(.pv (.sl true 2 []))]),(.pv (Sx ⟨#[]⟩)),(.pv (.sl true 5 []))])),(8,.box (.node [(.pv (I a0.Op)),(.node [(.pv (Sx ⟨#[]⟩)),(.pv (.sl true 2 []))]),(.pv (Sx a0.Var)),(.own 1392)])),(9,.val (.pv (I (IntKind.i64.wrap ((i11:Int)+1)))))]) (O:=[(1392,(5,v87.map (ae true)))]) SW SW) ?_
          refine Slr_ 1392 9333 (by decide) NM ?_
          exact Slm_ SW
         ·cases rs_ h
          exact ah SC
        ·refine S ?_
         refine aE cs (by omega) (fun cs=>S ?_)
         cases rs_ h
         exact ah SC
      ·obtain⟨v55,hv55,h⟩:=rb_ h
       refine ai [false] (slO_2 hv55) SC (S ?_)
       cases rs_ h
       exact ah SC
    ·refine Mkv_ (b:=false) (sz:=5) (es:=a0.Parts.map (ae false)) (x:=(.pv ((ae false) a0))) 0 [3] SC fun hl0=>?_; rw[aB] at hl0
     replace h:=rl_ h
     refine aF h (fun i11 s11=>[(1,.val (.pv (Sx a1))),(3,.box (.pv ((ae false) a0))),(5,.box (.pv ((am false) a2))),(6,.box (.node [(.pv (I 0)),(.node [(.pv (Sx ⟨#[]⟩)),(.pv (.sl true 2 []))]),(.pv (Sx ⟨#[]⟩)),(.pv (.sl true 5 []))])),(8,.box (.node [(.pv (I a0.Op)),(.node [(.pv (Sx ⟨#[]⟩)),(.pv (.sl true 2 []))]),(.pv (Sx a0.Var)),(.own 9333)])),(9,.val (.pv (I (i11:Int))))]) (fun i11 s11=>[(9333,(5,s11.map (ae true)))]) (aM (Sln_ (x:=(.node [(.pv (I a0.Op)),(.node [(.pv (Sx ⟨#[]⟩)),(.pv (.sl true 2 []))]),(.pv (Sx a0.Var)),(.pv (.sl true 5 []))])) 8 [3] 9333 5 NM SC SC SC) (Slm_ SC)) (fun i11 s11 hi h=>?_) (fun s11 h=>?_)
     ·have w:=ws_ (i:=i11) (by omega)
      refine S ?_
      refine aD cs (by omega) (fun cs=>S ?_)
      obtain⟨v73,hv73,h⟩:=rb_ h
      refine ar (f:=(ae false)) hv73 SC (S ?_)
      obtain⟨v77,hv77,h⟩:=rb_ h
      refine ai [false,false,false] (ih _ _ _ _ hv77) SC (S ?_)
      refine ag (DHa_ [10] [1232,1233]) (S ?_)
      refine ak cs h (fun cs h=>S ?_) (fun cs h=>S ?_)
      ·obtain⟨v87,hv87,h⟩:=rb_ h
       refine aO (f:=(ae true)) (fun a=>Ft.psize _ a) hv87 SC SC (S ?_)
       have h:=rs_ h
       refine aA ⟨_,h,?_⟩
       refine aM (Slm_1 (S:=[(1,.val (.pv (Sx a1))),(3,.box (.pv ((ae false) a0))),(5,.box (.pv ((am false) a2))),(6,.box (.node [(.pv (I 0)),(.node [(.pv (Sx ⟨#[]⟩)),(.pv (.sl true 2 []))]),(.pv (Sx ⟨#[]⟩)),(.pv (.sl true 5 []))])),(8,.box (.node [(.pv (I a0.Op)),(.node [(.pv (Sx ⟨#[]⟩)),(.pv (.sl true 2 []))]),(.pv (Sx a0.Var)),(.own 1392)])),(9,.val (.pv (I (IntKind.i64.wrap ((i11:Int)+1)))))]) (O:=[(1392,(5,v87.map (ae true)))]) SW SW) ?_
       refine Slr_ 1392 9333 (by decide) NM ?_
       exact Slm_ SW
      ·cases rs_ h
       exact ah SC
     ·refine S ?_
      refine aE cs (by omega) (fun cs=>S ?_)
      cases rs_ h
      exact ah SC
theorem slP_10{a0:Ft}{a1:ByteArray}{a2:Tt}{r:Ft×Bool}(h:slP_8 a0 a1 a2=some r):Sat aj 191 [((ae false) a0),(Sx a1),((am false) a2)] (.tup [((ae true) r.1),(B r.2)]):=by
 obtain⟨n,hn⟩:=ls_ h
 exact(slP_9 n) _ _ _ _ hn

theorem slN_11{a0:Sa}  {r:List ByteArray}(h:slN_7 a0=some r):Sat aj 193 [((aP false) a0)] (.sl false 1 (r.map Sx)):=by
 obtain⟨h,cs⟩:=Ro_ h
 unfold slN_7 at h
 refine av (nt:=38) (rs:=[.tmp 2]) (n:=100000) Tryz.func193 rfl rfl rfl rfl (by simp) (S ?_)
 refine Mkv_ (b:=false) (sz:=5) (es:=a0.Left.map (ae false)) (x:=(.pv ((aP false) a0))) 0 [0] SC fun hl0=>?_; rw[aB] at hl0
 replace h:=rl_ h
 refine aF h (fun i3 s3=>[(1,.box (.pv ((aP false) a0))),(3,.val (.pv (.sl false 1 (s3.map Sx)))),(4,.val (.pv (I (i3:Int))))]) (fun i3 s3=>[]) (aM (Sld_ (x:=(.own 96)) (sz:=(1)) (es:=([]).map Sx) 3 [] 96 SC) (Slm_ SC)) (fun i3 s3 hi h=>?_) (fun s3 h=>?_)
 ·have w:=ws_ (i:=i3) (by omega)
  refine S ?_
  refine aD cs (by omega) (fun cs=>S ?_)
  obtain⟨v18,hv18,h⟩:=rb_ h
  refine ar (f:=(ae false)) hv18 SC (S ?_)
  obtain⟨v21,hv21,h⟩:=rb_ h
  refine ai [false,false,true] (Sat.give (args:=[(.sl false 1 (s3.map Sx)),((ae false) v18),(.sl true 1 (([]).map Sx))]) [false,false,true] (by have gg:=slI_10 hv21; simp only[gv_t,gv_f,gv_n,vs_,va_,vl_,vrB_,vrI_,aI,RB,RS] at gg ⊢; exact gg)) SC (S ?_)
  have h:=rs_ h
  refine aA ⟨_,h,?_⟩
  exact Slm_ SW
 ·refine S ?_
  refine aE cs (by omega) (fun cs=>S ?_)
  refine Mkb_ (b:=false) (sz:=5) (es:=a0.Right.map (ae false)) (x:=(.pv ((aP false) a0))) 1 [1] SC fun hl1=>?_; rw[aB] at hl1
  replace h:=rl_ h
  refine aF h (fun i7 s7=>[(1,.box (.pv ((aP false) a0))),(3,.val (.pv (.sl false 1 (s7.map Sx)))),(5,.val (.pv (I (i7:Int))))]) (fun i7 s7=>[]) (Slm_ SC) (fun i7 s7 hi h=>?_) (fun s7 h=>?_)
  ·have w:=ws_ (i:=i7) (by omega)
   refine S ?_
   refine aD cs (by omega) (fun cs=>S ?_)
   obtain⟨v33,hv33,h⟩:=rb_ h
   refine ar (f:=(ae false)) hv33 SC (S ?_)
   obtain⟨v36,hv36,h⟩:=rb_ h
   refine ai [false,false,true] (Sat.give (args:=[(.sl false 1 (s7.map Sx)),((ae false) v33),(.sl true 1 (([]).map Sx))]) [false,false,true] (by have gg:=slI_10 hv36; simp only[gv_t,gv_f,gv_n,vs_,va_,vl_,vrB_,vrI_,aI,RB,RS] at gg ⊢; exact gg)) SC (S ?_)
   have h:=rs_ h
   refine aA ⟨_,h,?_⟩
   exact Slm_ SW
  ·refine S ?_
   refine aE cs (by omega) (fun cs=>S ?_)
   cases rs_ h
   exact aL SC

theorem slQ_1{a0:Sa}{a1:Int}{a2:Int}{a3:Ft}{a4:Tt}  {r:(List Sa)×Bool}(h:slQ_ a0 a1 a2 a3 a4=some r):Sat aj 184 [((aP false) a0),(I a1),(I a2),((ae false) a3),((am false) a4)] (.tup [(.sl true 2 (r.1.map (aP true))),(B r.2)]):=by
 obtain⟨h,cs⟩:=Ro_ h
 unfold slQ_ at h
 refine av (nt:=78) (rs:=[.tmp 10,.tmp 11]) (n:=100000) Tryz.func184 rfl rfl rfl rfl (by simp) (S ?_)
 obtain⟨v17,hv17,h⟩:=rb_ h
 refine ai [false] (slG_5 hv17) SC (S ?_)
 refine ak cs h (fun cs h=>S ?_) (fun cs h=>S ?_)
 ·obtain⟨v23,hv23,h⟩:=rb_ h
  refine ar (f:=(ae false)) hv23 SC (S ?_)
  obtain⟨v28,hv28,h⟩:=rb_ h
  refine ai [false,false,false] (slP_10 hv28) SC (S ?_)
  refine ag (DHa_ [12] [448,449]) (S ?_)
  refine ak cs h (fun cs h=>S ?_) (fun cs h=>S ?_)
  ·refine ak cs h (fun cs h=>S ?_) (fun cs h=>S ?_)
   ·obtain⟨v43,hv43,h⟩:=rb_ h
    refine ai [false,false,false,false,false] (slN_ hv43) SC (S ?_)
    cases rs_ h
    exact ah SC
   ·refine ak cs h (fun cs h=>S ?_) (fun cs h=>S ?_)
    ·obtain⟨v50,hv50,h⟩:=rb_ h
     refine ai [false,false,false,false,false] (slN_ hv50) SC (S ?_)
     cases rs_ h
     exact ah SC
    ·obtain⟨v54,hv54,h⟩:=rb_ h
     refine ai [false] (slV_4 hv54) SC (S ?_)
     refine ak cs h (fun cs h=>S ?_) (fun cs h=>S ?_)
     ·obtain⟨v58,hv58,h⟩:=rb_ h
      refine ai [false] (slN_11 hv58) SC (S ?_)
      obtain⟨v61,hv61,h⟩:=rb_ h
      refine ai [false,false] (slI_6 hv61) SC (S ?_)
      refine ag (DHa_ [] []) (S ?_)
      refine ak cs h (fun cs h=>S ?_) (fun cs h=>S ?_)
      ·cases rs_ h
       exact ah SC
      ·refine ak cs h (fun cs h=>S ?_) (fun cs h=>S ?_)
       ·obtain⟨v70,hv70,h⟩:=rb_ h
        refine ai [false,false,false,false,false] (slN_ hv70) SC (S ?_)
        cases rs_ h
        exact ah SC
       ·obtain⟨v76,hv76,h⟩:=rb_ h
        refine ai [false,false,false,false,false] (slN_ hv76) SC (S ?_)
        cases rs_ h
        exact ah SC
     ·refine ag (DHa_ [] []) (S ?_)
      cases rs_ h
      exact ah SC
  ·cases rs_ h
   exact ah SC
 ·cases rs_ h
  exact ah SC

theorem slP_4{a0:Sa}{a1:Int}{a2:Int}{a3:List Ft}  {r:List Sa}(h:slP_ a0 a1 a2 a3=some r):Sat aj 185 [((aP false) a0),(I a1),(I a2),(.sl false 5 (a3.map (ae false)))] (.sl true 2 (r.map (aP true))):=by
 obtain⟨h,cs⟩:=Ro_ h
 unfold slP_ at h
 refine av (nt:=96) (rs:=[.tmp 8]) (n:=100000) Tryz.func185 rfl rfl rfl rfl (by simp) (S ?_)
 obtain⟨v14,hv14,h⟩:=rb_ h
 refine SlcH.mk (f:=(ae false)) hv14 SC (S ?_)
 refine ak cs h (fun cs h=>S ?_) (fun cs h=>S ?_)
 ·obtain⟨v22,hv22,h⟩:=rb_ h
  refine ai [false,false,false,false,false] (slN_ hv22) SC (S ?_)
  cases rs_ h
  exact ah SC
 ·refine ak cs h (fun cs h=>S ?_) (fun cs h=>S ?_)
  ·obtain⟨v30,hv30,h⟩:=rb_ h
   refine ai [false,false,false,false,false] (slN_ hv30) SC (S ?_)
   cases rs_ h
   exact ah SC
  ·obtain⟨v33,hv33,h⟩:=rb_ h
   refine SlcH.mk (f:=(ae false)) hv33 SC (S ?_)
   refine ak cs h (fun cs h=>S ?_) (fun cs h=>S ?_)
   ·obtain⟨v41,hv41,h⟩:=rb_ h
    refine ai [false,false,false,false,false] (slN_ hv41) SC (S ?_)
    cases rs_ h
    exact ah SC
   ·refine ak cs h (fun cs h=>S ?_) (fun cs h=>S ?_)
    ·obtain⟨v49,hv49,h⟩:=rb_ h
     refine ai [false,false,false,false,false] (slN_ hv49) SC (S ?_)
     obtain⟨v54,hv54,h⟩:=rb_ h
     refine ai [false,false,false,false,false] (slN_ hv54) SC (S ?_)
     refine ag (DHa_ [] [784,785,864,865,880]) (S ?_)
     cases rs_ h
     exact ah SC
    ·refine ak cs h (fun cs h=>S ?_) (fun cs h=>S ?_)
     ·obtain⟨v62,hv62,h⟩:=rb_ h
      refine ai [false,false,false,false,false] (slN_ hv62) SC (S ?_)
      obtain⟨v67,hv67,h⟩:=rb_ h
      refine ai [false,false,false,false,false] (slN_ hv67) SC (S ?_)
      refine ag (DHa_ [] [992,993,1072,1073,1088]) (S ?_)
      cases rs_ h
      exact ah SC
     ·refine ak cs h (fun cs h=>S ?_) (fun cs h=>S ?_)
      ·obtain⟨v75,hv75,h⟩:=rb_ h
       refine ai [false,false,false,false,false] (slN_ hv75) SC (S ?_)
       cases rs_ h
       exact ah SC
      ·refine ak cs h (fun cs h=>S ?_) (fun cs h=>S ?_)
       ·obtain⟨v83,hv83,h⟩:=rb_ h
        refine ai [false,false,false,false,false] (slN_ hv83) SC (S ?_)
        obtain⟨v88,hv88,h⟩:=rb_ h
        refine ai [false,false,false,false,false] (slN_ hv88) SC (S ?_)
        refine ag (DHa_ [] [1328,1329,1408,1409,1424]) (S ?_)
        cases rs_ h
        exact ah SC
       ·obtain⟨v94,hv94,h⟩:=rb_ h
        refine ai [false,false,false,false,false] (slN_ hv94) SC (S ?_)
        cases rs_ h
        exact ah SC

theorem slR_3{a0:Sa}{a1:Dt}  {r:(List Sa)×Bool}(h:slR_ a0 a1=some r):Sat aj 165 [((aP false) a0),((al false) a1)] (.tup [(.sl true 2 (r.1.map (aP true))),(B r.2)]):=by
 obtain⟨h,cs⟩:=Ro_ h
 unfold slR_ at h
 refine av (nt:=130) (rs:=[.tmp 4,.tmp 5]) (n:=100000) Tryz.func165 rfl rfl rfl rfl (by simp) (S ?_)
 obtain⟨v14,hv14,h⟩:=rb_ h
 refine ai [false,false,false] (slI_2 hv14) SC (S ?_)
 refine ak cs h (fun cs h=>S ?_) (fun cs h=>S ?_)
 ·refine ak cs h (fun cs h=>S ?_) (fun cs h=>S ?_)
  ·obtain⟨v46,hv46,h⟩:=rb_ h
   refine ai [false,false,false,false,false] (slN_ hv46) SC (S ?_)
   obtain⟨v50,hv50,h⟩:=rb_ h
   refine ai [false,false,false,false,false] (slN_ hv50) SC (S ?_)
   refine ak cs h (fun cs h=>S ?_) (fun cs h=>S ?_)
   ·obtain⟨v58,hv58,h⟩:=rb_ h
    refine ai [false] (slG_2 hv58) SC (S ?_)
    refine ag (DHa_ [] [704,736,737,784,800,801,816]) (S ?_)
    cases rs_ h
    exact ah SC
   ·refine ag (DHa_ [] [704,736,737,784,800,801,816]) (S ?_)
    cases rs_ h
    exact ah SC
  ·obtain⟨v32,hv32,h⟩:=rb_ h
   refine ai [false,false] (slS_9 hv32) SC (S ?_)
   refine ak cs h (fun cs h=>S ?_) (fun cs h=>S ?_)
   ·obtain⟨v64,hv64,h⟩:=rb_ h
    refine ai [false] (slO_4 hv64) SC (S ?_)
    refine ak cs h (fun cs h=>S ?_) (fun cs h=>S ?_)
    ·obtain⟨v69,hv69,h⟩:=rb_ h
     refine ai [false,false,false] (slI_2 hv69) SC (S ?_)
     refine ak cs h (fun cs h=>S ?_) (fun cs h=>S ?_)
     ·obtain⟨v77,hv77,h⟩:=rb_ h
      refine ai [false,false,false] (slI_2 hv77) SC (S ?_)
      refine ak cs h (fun cs h=>S ?_) (fun cs h=>S ?_)
      ·obtain⟨v84,hv84,h⟩:=rb_ h
       refine ar (f:=(ae false)) hv84 SC (S ?_)
       refine ak cs h (fun cs h=>S ?_) (fun cs h=>S ?_)
       ·refine ak cs h (fun cs h=>S ?_) (fun cs h=>S ?_)
        ·cases rs_ h
         exact ah SC
        ·obtain⟨v97,hv97,h⟩:=rb_ h
         refine ai [false,false] (slH_1 hv97) SC (S ?_)
         cases rs_ h
         exact ah SC
       ·obtain⟨v103,hv103,h⟩:=rb_ h
        refine ai [false] (slO_9 hv103) SC (S ?_)
        refine ag (DHa_ [] []) (S ?_)
        refine ak cs h (fun cs h=>S ?_) (fun cs h=>S ?_)
        ·refine ak cs h (fun cs h=>S ?_) (fun cs h=>S ?_)
         ·cases rs_ h
          exact ah SC
         ·obtain⟨v119,hv119,h⟩:=rb_ h
          refine ai [false,false,false,false,false] (slQ_1 hv119) SC (S ?_)
          cases rs_ h
          exact ah SC
        ·cases rs_ h
         exact ah SC
      ·cases rs_ h
       exact ah SC
     ·cases rs_ h
      exact ah SC
    ·obtain⟨v69,hv69,h⟩:=rb_ h
     refine ai [false,false,false] (slI_2 hv69) SC (S ?_)
     refine ak cs h (fun cs h=>S ?_) (fun cs h=>S ?_)
     ·obtain⟨v77,hv77,h⟩:=rb_ h
      refine ai [false,false,false] (slI_2 hv77) SC (S ?_)
      refine ak cs h (fun cs h=>S ?_) (fun cs h=>S ?_)
      ·obtain⟨v84,hv84,h⟩:=rb_ h
       refine ar (f:=(ae false)) hv84 SC (S ?_)
       refine ak cs h (fun cs h=>S ?_) (fun cs h=>S ?_)
       ·refine ak cs h (fun cs h=>S ?_) (fun cs h=>S ?_)
        ·cases rs_ h
         exact ah SC
        ·obtain⟨v97,hv97,h⟩:=rb_ h
         refine ai [false,false] (slH_1 hv97) SC (S ?_)
         cases rs_ h
         exact ah SC
       ·obtain⟨v103,hv103,h⟩:=rb_ h
        refine ai [false] (slO_9 hv103) SC (S ?_)
        refine ag (DHa_ [] []) (S ?_)
        refine ak cs h (fun cs h=>S ?_) (fun cs h=>S ?_)
        ·refine ak cs h (fun cs h=>S ?_) (fun cs h=>S ?_)
         ·cases rs_ h
          exact ah SC
         ·obtain⟨v119,hv119,h⟩:=rb_ h
          refine ai [false,false,false,false,false] (slQ_1 hv119) SC (S ?_)
          cases rs_ h
          exact ah SC
        ·cases rs_ h
         exact ah SC
      ·cases rs_ h
       exact ah SC
     ·cases rs_ h
      exact ah SC
   ·cases rs_ h
    exact ah SC
 ·obtain⟨v21,hv21,h⟩:=rb_ h
  refine ai [false,false] (slS_16 hv21) SC (S ?_)
  refine ak cs h (fun cs h=>S ?_) (fun cs h=>S ?_)
  ·refine ak cs h (fun cs h=>S ?_) (fun cs h=>S ?_)
   ·obtain⟨v46,hv46,h⟩:=rb_ h
    refine ai [false,false,false,false,false] (slN_ hv46) SC (S ?_)
    obtain⟨v50,hv50,h⟩:=rb_ h
    refine ai [false,false,false,false,false] (slN_ hv50) SC (S ?_)
    refine ak cs h (fun cs h=>S ?_) (fun cs h=>S ?_)
    ·obtain⟨v58,hv58,h⟩:=rb_ h
     refine ai [false] (slG_2 hv58) SC (S ?_)
     refine ag (DHa_ [] [704,736,737,784,800,801,816]) (S ?_)
     cases rs_ h
     exact ah SC
    ·refine ag (DHa_ [] [704,736,737,784,800,801,816]) (S ?_)
     cases rs_ h
     exact ah SC
   ·obtain⟨v32,hv32,h⟩:=rb_ h
    refine ai [false,false] (slS_9 hv32) SC (S ?_)
    refine ak cs h (fun cs h=>S ?_) (fun cs h=>S ?_)
    ·obtain⟨v64,hv64,h⟩:=rb_ h
     refine ai [false] (slO_4 hv64) SC (S ?_)
     refine ak cs h (fun cs h=>S ?_) (fun cs h=>S ?_)
     ·obtain⟨v69,hv69,h⟩:=rb_ h
      refine ai [false,false,false] (slI_2 hv69) SC (S ?_)
      refine ak cs h (fun cs h=>S ?_) (fun cs h=>S ?_)
      ·obtain⟨v77,hv77,h⟩:=rb_ h
       refine ai [false,false,false] (slI_2 hv77) SC (S ?_)
       refine ak cs h (fun cs h=>S ?_) (fun cs h=>S ?_)
       ·obtain⟨v84,hv84,h⟩:=rb_ h
        refine ar (f:=(ae false)) hv84 SC (S ?_)
        refine ak cs h (fun cs h=>S ?_) (fun cs h=>S ?_)
        ·refine ak cs h (fun cs h=>S ?_) (fun cs h=>S ?_)
         ·cases rs_ h
          exact ah SC
         ·obtain⟨v97,hv97,h⟩:=rb_ h
          refine ai [false,false] (slH_1 hv97) SC (S ?_)
          cases rs_ h
          exact ah SC
        ·obtain⟨v103,hv103,h⟩:=rb_ h
         refine ai [false] (slO_9 hv103) SC (S ?_)
         refine ag (DHa_ [] []) (S ?_)
         refine ak cs h (fun cs h=>S ?_) (fun cs h=>S ?_)
         ·refine ak cs h (fun cs h=>S ?_) (fun cs h=>S ?_)
          ·cases rs_ h
           exact ah SC
          ·obtain⟨v129,hv129,h⟩:=rb_ h
           refine ai [false,false,false,false] (slP_4 hv129) SC (S ?_)
           cases rs_ h
           exact ah SC
         ·cases rs_ h
          exact ah SC
       ·cases rs_ h
        exact ah SC
      ·cases rs_ h
       exact ah SC
     ·obtain⟨v69,hv69,h⟩:=rb_ h
      refine ai [false,false,false] (slI_2 hv69) SC (S ?_)
      refine ak cs h (fun cs h=>S ?_) (fun cs h=>S ?_)
      ·obtain⟨v77,hv77,h⟩:=rb_ h
       refine ai [false,false,false] (slI_2 hv77) SC (S ?_)
       refine ak cs h (fun cs h=>S ?_) (fun cs h=>S ?_)
       ·obtain⟨v84,hv84,h⟩:=rb_ h
        refine ar (f:=(ae false)) hv84 SC (S ?_)
        refine ak cs h (fun cs h=>S ?_) (fun cs h=>S ?_)
        ·refine ak cs h (fun cs h=>S ?_) (fun cs h=>S ?_)
         ·cases rs_ h
          exact ah SC
         ·obtain⟨v97,hv97,h⟩:=rb_ h
          refine ai [false,false] (slH_1 hv97) SC (S ?_)
          cases rs_ h
          exact ah SC
        ·obtain⟨v103,hv103,h⟩:=rb_ h
         refine ai [false] (slO_9 hv103) SC (S ?_)
         refine ag (DHa_ [] []) (S ?_)
         refine ak cs h (fun cs h=>S ?_) (fun cs h=>S ?_)
         ·refine ak cs h (fun cs h=>S ?_) (fun cs h=>S ?_)
          ·cases rs_ h
           exact ah SC
          ·obtain⟨v129,hv129,h⟩:=rb_ h
           refine ai [false,false,false,false] (slP_4 hv129) SC (S ?_)
           cases rs_ h
           exact ah SC
         ·cases rs_ h
          exact ah SC
       ·cases rs_ h
        exact ah SC
      ·cases rs_ h
       exact ah SC
    ·cases rs_ h
     exact ah SC
  ·cases rs_ h
   exact ah SC

theorem slP_7{a0:Sa}{a1:Dt}  {r:(List Sa)×Bool}(h:slP_2 a0 a1=some r):Sat aj 145 [((aP false) a0),((al false) a1)] (.tup [(.sl false 2 (r.1.map (aP false))),(B r.2)]):=by
 obtain⟨h,cs⟩:=Ro_ h
 unfold slP_2 at h
 refine av (nt:=33) (rs:=[.tmp 4,.tmp 5]) (n:=100000) Tryz.func145 rfl rfl rfl rfl (by simp) (S ?_)
 obtain⟨v12,hv12,h⟩:=rb_ h
 refine ai [false,false] (SvO_ (res':=(.tup [(.sl false 2 (v12.1.map (aP false))),(B v12.2)])) (slR_3 hv12) (by simp only[vt_,vs_,va_,vl_,aI,RB,RS])) SC (S ?_)
 refine aR (b:=false) (sz:=2) (es:=v12.1.map (aP false)) 6 SC fun hl6=>?_; rw[aB] at hl6
 replace h:=rl_ h
 refine aF h (fun i3 s3=>[(6,.val (.pv (.sl false 2 (v12.1.map (aP false))))),(7,.val (.pv (B s3))),(8,.val (.pv (I (i3:Int))))]) (fun i3 s3=>[]) (Slm_ SC) (fun i3 s3 hi h=>?_) (fun s3 h=>?_)
 ·have w:=ws_ (i:=i3) (by omega)
  refine S ?_
  refine aD cs (by omega) (fun cs=>S ?_)
  refine ak cs h (fun cs h=>S ?_) (fun cs h=>S ?_)
  ·obtain⟨v25,hv25,h⟩:=rb_ h
   refine ar (f:=(aP false)) hv25 SC (S ?_)
   obtain⟨v27,hv27,h⟩:=rb_ h
   refine ai [false] (slG_4 hv27) SC (S ?_)
   have h:=rs_ h
   refine aA ⟨_,h,?_⟩
   exact Slm_ SW
  ·have h:=rs_ h
   refine aA ⟨_,h,?_⟩
   exact Slm_ SW
 ·refine S ?_
  refine aE cs (by omega) (fun cs=>S ?_)
  refine ak cs h (fun cs h=>S ?_) (fun cs h=>S ?_)
  ·cases rs_ h
   exact aL SC
  ·cases rs_ h
   exact aL SC

theorem slS_10{a0:List Ft}{a1:List Ft}  {r:Bool}(h:slS_3 a0 a1=some r):Sat aj 148 [(.sl false 5 (a0.map (ae false))),(.sl false 5 (a1.map (ae false)))] (B r):=by
 obtain⟨h,cs⟩:=Ro_ h
 unfold slS_3 at h
 refine av (nt:=27) (rs:=[.tmp 4]) (n:=100000) Tryz.func148 rfl rfl rfl rfl (by simp) (S ?_)
 refine ak cs h (fun cs h=>S ?_) (fun cs h=>S ?_)
 ·refine aR (b:=false) (sz:=5) (es:=a0.map (ae false)) 0 SC fun hl0=>?_; rw[aB] at hl0
  replace h:=rl_ h
  refine aF h (fun i4 s4=>[(0,.val (.pv (.sl false 5 (a0.map (ae false))))),(1,.val (.pv (.sl false 5 (a1.map (ae false))))),(5,.val (.pv (I (i4:Int))))]) (fun i4 s4=>[]) (Slm_ SC) (fun i4 s4 hi h=>?_) (fun s4 h=>?_)
  ·have w:=ws_ (i:=i4) (by omega)
   refine S ?_
   refine aD cs (by omega) (fun cs=>S ?_)
   obtain⟨v19,hv19,h⟩:=rb_ h
   refine ar (f:=(ae false)) hv19 SC (S ?_)
   obtain⟨v23,hv23,h⟩:=rb_ h
   refine ar (f:=(ae false)) hv23 SC (S ?_)
   obtain⟨v25,hv25,h⟩:=rb_ h
   refine ai [false,false] (slS_9 hv25) SC (S ?_)
   refine ag (DHa_ [] []) (S ?_)
   refine ak cs h (fun cs h=>S ?_) (fun cs h=>S ?_)
   ·have h:=rs_ h
    refine aA ⟨_,h,?_⟩
    exact Slm_ SW
   ·cases rs_ h
    exact ah SC
  ·refine S ?_
   refine aE cs (by omega) (fun cs=>S ?_)
   cases rs_ h
   exact ah SC
 ·cases rs_ h
  exact ah SC

theorem slS_21{a0:Sa}{a1:Sa}  {r:Bool}(h:slS_8 a0 a1=some r):Sat aj 121 [((aP false) a0),((aP false) a1)] (B r):=by
 obtain⟨h,cs⟩:=Ro_ h
 unfold slS_8 at h
 refine av (nt:=17) (rs:=[.tmp 4]) (n:=100000) Tryz.func121 rfl rfl rfl rfl (by simp) (S ?_)
 obtain⟨v9,hv9,h⟩:=rb_ h
 refine ai [false,false] (slS_10 hv9) SC (S ?_)
 refine ak cs h (fun cs h=>S ?_) (fun cs h=>S ?_)
 ·obtain⟨v15,hv15,h⟩:=rb_ h
  refine ai [false,false] (slS_10 hv15) SC (S ?_)
  cases rs_ h
  exact ah SC
 ·cases rs_ h
  exact ah SC

theorem slN_12{a0:Dt}  {r:Bool}(h:slN_5 a0=some r):Sat aj 116 [((al false) a0)] (B r):=by
 obtain⟨h,cs⟩:=Ro_ h
 unfold slN_5 at h
 refine av (nt:=45) (rs:=[.tmp 2]) (n:=100000) Tryz.func116 rfl rfl rfl rfl (by simp) (S ?_)
 obtain⟨v8,hv8,h⟩:=rb_ h
 refine ai [false] (slG_4 hv8) SC (S ?_)
 refine ak cs h (fun cs h=>S ?_) (fun cs h=>S ?_)
 ·obtain⟨v14,hv14,h⟩:=rb_ h
  refine ai [false,false] (slP_7 hv14) SC (S ?_)
  refine ak cs h (fun cs h=>S ?_) (fun cs h=>S ?_)
  ·refine ak cs h (fun cs h=>S ?_) (fun cs h=>S ?_)
   ·refine aR (b:=false) (sz:=2) (es:=v14.1.map (aP false)) 3 SC fun hl3=>?_; rw[aB] at hl3
    replace h:=rl_ h
    refine aF h (fun i7 s7=>[(1,.box (.pv ((al false) a0))),(3,.val (.pv (.sl false 2 (v14.1.map (aP false))))),(5,.val (.pv (I (i7:Int))))]) (fun i7 s7=>[]) (Slm_ SC) (fun i7 s7 hi h=>?_) (fun s7 h=>?_)
    ·have w:=ws_ (i:=i7) (by omega)
     refine S ?_
     refine aD cs (by omega) (fun cs=>S ?_)
     obtain⟨v35,hv35,h⟩:=rb_ h
     refine ar (f:=(aP false)) hv35 SC (S ?_)
     obtain⟨v40,hv40,h⟩:=rb_ h
     refine ar (f:=(al false)) hv40 SC (S ?_)
     obtain⟨v43,hv43,h⟩:=rb_ h
     refine ai [false,false] (slS_21 hv43) SC (S ?_)
     refine ag (DHa_ [] []) (S ?_)
     refine ak cs h (fun cs h=>S ?_) (fun cs h=>S ?_)
     ·have h:=rs_ h
      refine aA ⟨_,h,?_⟩
      exact Slm_ SW
     ·cases rs_ h
      exact ah SC
    ·refine S ?_
     refine aE cs (by omega) (fun cs=>S ?_)
     cases rs_ h
     exact ah SC
   ·cases rs_ h
    exact ah SC
  ·cases rs_ h
   exact ah SC
 ·cases rs_ h
  exact ah SC

theorem slO_13{a0:List Int}  {r:List Int}(h:slO_10 a0=some r):Sat aj 117 [(.sl false 1 (a0.map I))] (.sl true 1 (r.map I)):=by
 obtain⟨h,cs⟩:=Ro_ h
 unfold slO_10 at h
 refine av (nt:=6) (rs:=[.tmp 2]) (n:=100000) Tryz.func117 rfl rfl rfl rfl (by simp) (S ?_)
 obtain⟨v5,hv5,h⟩:=rb_ h
 refine aO (f:=I) (fun _=>rfl) hv5 SC SC (S ?_)
 cases rs_ h
 exact ah SC

theorem slW_2(n:Nat):(∀ (a0:Dt) (a1:List Int) (r:(List Int)×Bool),slW_ n a0 a1=some r→Sat aj 78 [((al false) a0),(.sl false 1 (a1.map I))] (.tup [(.sl false 1 (r.1.map I)),(B r.2)])):=by
 induction n with
 | zero=>exact fun _ _ _ h=>by simp[slW_] at h
 | succ n ih=>
  refine fun a0 a1 r h=>?_
  obtain⟨h,cs⟩:=Ro_ h
  rw[slW_] at h
  refine av (nt:=37) (rs:=[.tmp 4,.tmp 5]) (n:=100000) Tryz.func78 rfl rfl rfl rfl (by simp) (S ?_)
  obtain⟨v10,hv10,h⟩:=rb_ h
  refine ai [false] (slN_12 hv10) SC (S ?_)
  refine ak cs h (fun cs h=>S ?_) (fun cs h=>S ?_)
  ·refine Mkv_ (b:=false) (sz:=12) (es:=a0.Parts.map (al false)) (x:=(.pv ((al false) a0))) 0 [5] SC fun hl0=>?_; rw[aB] at hl0
   replace h:=rl_ h
   refine aF h (fun i4 s4=>[(1,.val (.pv (.sl false 1 (a1.map I)))),(2,.box (.pv ((al false) a0))),(6,.val (.pv (I (i4:Int))))]) (fun i4 s4=>[]) (Slm_ SC) (fun i4 s4 hi h=>?_) (fun s4 h=>?_)
   ·have w:=ws_ (i:=i4) (by omega)
    refine S ?_
    refine aD cs (by omega) (fun cs=>S ?_)
    obtain⟨v24,hv24,h⟩:=rb_ h
    refine ar (f:=(al false)) hv24 SC (S ?_)
    obtain⟨v27,hv27,h⟩:=rb_ h
    refine ai [false] (slO_13 hv27) SC (S ?_)
    obtain⟨v30,hv30,h⟩:=rb_ h
    refine aO (f:=I) (fun _=>rfl) hv30 SC SC (S ?_)
    obtain⟨v31,hv31,h⟩:=rb_ h
    refine ai [false,true] (Sat.give (args:=[((al false) v24),(.sl true 1 (v30.map I))]) [false,true] (by have gg:=ih _ _ _ hv31; simp only[gv_t,gv_f,gv_n,vs_,va_,vl_,vrB_,vrI_,aI,RB,RS] at gg ⊢; exact gg)) SC (S ?_)
    refine ag (DHa_ [] [432,464,480]) (S ?_)
    refine ak cs h (fun cs h=>S ?_) (fun cs h=>S ?_)
    ·cases rs_ h
     exact aL SC
    ·have h:=rs_ h
     refine aA ⟨_,h,?_⟩
     exact Slm_ SW
   ·refine S ?_
    refine aE cs (by omega) (fun cs=>S ?_)
    cases rs_ h
    exact aL SC
  ·cases rs_ h
   exact aL SC
theorem slW_3{a0:Dt}{a1:List Int}{r:(List Int)×Bool}(h:slW_1 a0 a1=some r):Sat aj 78 [((al false) a0),(.sl false 1 (a1.map I))] (.tup [(.sl false 1 (r.1.map I)),(B r.2)]):=by
 obtain⟨n,hn⟩:=ls_ h
 exact(slW_2 n) _ _ _ hn

theorem slV_1{a0:Dt}  {r:Bool}(h:slV_ a0=some r):Sat aj 40 [((al false) a0)] (B r):=by
 obtain⟨h,cs⟩:=Ro_ h
 unfold slV_ at h
 refine av (nt:=16) (rs:=[.tmp 2]) (n:=100000) Tryz.func40 rfl rfl rfl rfl (by simp) (S ?_)
 obtain⟨v6,hv6,h⟩:=rb_ h
 refine ai [false,false] (slS_20 hv6) SC (S ?_)
 refine ak cs h (fun cs h=>S ?_) (fun cs h=>S ?_)
 ·cases rs_ h
  exact ah SC
 ·obtain⟨v11,hv11,h⟩:=rb_ h
  refine ai [false,true] (Sat.give (args:=[((al false) a0),(.sl true 1 (([]).map I))]) [false,true] (by have gg:=slW_3 hv11; simp only[gv_t,gv_f,gv_n,vs_,va_,vl_,vrB_,vrI_,aI,RB,RS] at gg ⊢; exact gg)) SC (S ?_)
  cases rs_ h
  exact ah SC

theorem slR_2{a0:Dt}{a1:Bool}  {r:Int}(h:slR_1 a0 a1=some r):Sat aj 88 [((al false) a0),(B a1)] (I r):=by
 obtain⟨h,cs⟩:=Ro_ h
 unfold slR_1 at h
 refine av (nt:=20) (rs:=[.tmp 4]) (n:=100000) Tryz.func88 rfl rfl rfl rfl (by simp) (S ?_)
 refine ak cs h (fun cs h=>S ?_) (fun cs h=>S ?_)
 ·cases rs_ h
  exact ah SC
 ·refine ak cs h (fun cs h=>S ?_) (fun cs h=>S ?_)
  ·cases rs_ h
   exact ah SC
  ·refine ak cs h (fun cs h=>S ?_) (fun cs h=>S ?_)
   ·cases rs_ h
    exact ah SC
   ·refine ak cs h (fun cs h=>S ?_) (fun cs h=>S ?_)
    ·cases rs_ h
     exact ah SC
    ·refine ak cs h (fun cs h=>S ?_) (fun cs h=>S ?_)
     ·cases rs_ h
      exact ah SC
     ·obtain⟨v15,hv15,h⟩:=rb_ h
      refine ai [false] (slO_4 hv15) SC (S ?_)
      refine ak cs h (fun cs h=>S ?_) (fun cs h=>S ?_)
      ·cases rs_ h
       exact ah SC
      ·cases rs_ h
       exact ah SC

end Go.Proofs.YtkoghcphkdecoaaGreat
