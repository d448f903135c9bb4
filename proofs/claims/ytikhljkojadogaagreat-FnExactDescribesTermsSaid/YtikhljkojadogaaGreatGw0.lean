/- Lemmas of the proof; each says what it shows. -/
import Derived.Test.YtikhljkojadogaaGreatGm
import Derived.Test.YtikhljkojadogaaGreatGf
import Derived.Test.YtikhljkojadogaaGreatGsf
set_option linter.unusedSimpArgs false
set_option linter.unusedVariables false
set_option linter.defProp false
set_option maxRecDepth 4000
namespace Go.Proofs.YtikhljkojadogaaGreat
open Go.Av
open And renaming intro→aa
open AppH renaming mk→aV
open CallH renaming mk→al
open CondH renaming run→ak,t2→aE,f2→aF
open FinH renaming l→ai
open IdxH renaming mk→av
open List renaming length_map→aB
open Mg renaming know_sl→aM,forN→aH
open RdH renaming mk→aw
open Sat renaming of_m→ap
open SidxH renaming mk→a6
open St renaming le_trans→bc
open Tryz renaming prog→ah
open Tt renaming pv→ag
set_option maxHeartbeats 4000000
theorem sTS_3(n:Nat):(∀ (a0:List Tt) (a1:Int) (r:Int),sTS_ n a0 a1=some r→Sat ah 6 [(.sl false 2 (a0.map (ag false))),(I a1)] (I r))∧(∀ (a0:Tt) (a1:Int) (r:Int),sTN_ n a0 a1=some r→Sat ah 18 [((ag false) a0),(I a1)] (I r)):=by
 induction n with
 | zero=>exact⟨fun _ _ _ h=>by simp[sTS_] at h,fun _ _ _ h=>by simp[sTN_] at h⟩
 | succ n ih=>
  refine⟨fun a0 a1 r h=>?_,fun a0 a1 r h=>?_⟩
  ·obtain⟨h,cs⟩:=Ro_ h
   rw[sTS_] at h
   refine ap (nt:=27) (rs:=[.tmp 4]) (n:=100000) Tryz.func6 rfl rfl rfl rfl (by simp) (S ?_)
   refine ak cs h (fun cs h=>S ?_) (fun cs h=>S ?_)
   ·cases rs_ h
    exact ai SC
   ·refine aM (b:=false) (sz:=2) (es:=a0.map (ag false)) 0 SC fun hl0=>?_; rw[aB] at hl0
    replace h:=rl_ h
    refine aH h (fun i5 s5=>[(0,.val (.pv (.sl false 2 (a0.map (ag false))))),(1,.val (.pv (I s5))),(5,.val (.pv (I (i5:Int))))]) (fun i5 s5=>[]) (Slm_ SC) (fun i5 s5 hi h=>?_) (fun s5 h=>?_)
    ·have w:=ws_ (i:=i5) (by omega)
     refine S ?_
     refine aE cs (by omega) (fun cs=>S ?_)
     obtain⟨v20,hv20,h⟩:=rb_ h
     refine av (f:=(ag false)) hv20 SC (S ?_)
     obtain⟨v23,hv23,h⟩:=rb_ h
     refine al [false,false] (ih.2 _ _ _ hv23) SC (S ?_)
     refine ak cs h (fun cs h=>S ?_) (fun cs h=>S ?_)
     ·cases rs_ h
      exact ai SC
     ·have h:=rs_ h
      refine aw ⟨_,h,?_⟩
      exact Slm_ SWx
    ·refine S ?_
     refine aF cs (by omega) (fun cs=>S ?_)
     cases rs_ h
     exact ai SC
  ·obtain⟨h,cs⟩:=Ro_ h
   rw[sTN_] at h
   refine ap (nt:=19) (rs:=[.tmp 4]) (n:=100000) Tryz.func18 rfl rfl rfl rfl (by simp) (S ?_)
   refine ak cs h (fun cs h=>S ?_) (fun cs h=>S ?_)
   ·cases rs_ h
    exact ai SC
   ·obtain⟨v15,hv15,h⟩:=rb_ h
    refine al [false,false] (ih.1 _ _ _ hv15) SC (S ?_)
    refine ak cs h (fun cs h=>S ?_) (fun cs h=>S ?_)
    ·cases rs_ h
     exact ai SC
    ·cases rs_ h
     exact ai SC
theorem sTS_1{a0:List Tt}{a1:Int}{r:Int}(h:sTS_4 a0 a1=some r):Sat ah 6 [(.sl false 2 (a0.map (ag false))),(I a1)] (I r):=by
 obtain⟨n,hn⟩:=ls_ h
 exact(sTS_3 n).1 _ _ _ hn
theorem sTs_2{a0:Tt}{a1:Int}{r:Int}(h:sT_2 a0 a1=some r):Sat ah 18 [((ag false) a0),(I a1)] (I r):=by
 obtain⟨n,hn⟩:=ls_ h
 exact(sTS_3 n).2 _ _ _ hn

theorem sDs_{a0:Dt}{a1:Int}  {r:Int}(h:sD_ a0 a1=some r):Sat ah 5 [((Dt.pv false) a0),(I a1)] (I r):=by
 obtain⟨h,cs⟩:=Ro_ h
 unfold sD_ at h
 refine ap (nt:=18) (rs:=[.tmp 4]) (n:=100000) Tryz.func5 rfl rfl rfl rfl (by simp) (S ?_)
 obtain⟨v8,hv8,h⟩:=rb_ h
 refine al [false,false] (sTS_1 hv8) SC (S ?_)
 refine ak cs h (fun cs h=>S ?_) (fun cs h=>S ?_)
 ·cases rs_ h
  exact ai SC
 ·obtain⟨v14,hv14,h⟩:=rb_ h
  refine al [false,false] (sTS_1 hv14) SC (S ?_)
  refine ak cs h (fun cs h=>S ?_) (fun cs h=>S ?_)
  ·cases rs_ h
   exact ai SC
  ·cases rs_ h
   exact ai SC

theorem tTS_4(n:Nat):(∀ (a0:List Tt) (r:List Tt),tTS_ n a0=some r→Sat ah 9 [(.sl false 2 (a0.map (ag false)))] (.sl true 2 (r.map (ag true))))∧(∀ (a0:Tt) (r:Tt),tTN_ n a0=some r→Sat ah 24 [((ag false) a0)] ((ag true) r)):=by
 induction n with
 | zero=>exact⟨fun _ _ h=>by simp[tTS_] at h,fun _ _ h=>by simp[tTN_] at h⟩
 | succ n ih=>
  refine⟨fun a0 r h=>?_,fun a0 r h=>?_⟩
  ·obtain⟨h,cs⟩:=Ro_ h
   rw[tTS_] at h
   refine ap (nt:=23) (rs:=[.tmp 2]) (n:=100000) Tryz.func9 rfl rfl rfl rfl (by simp) (S ?_)
   obtain⟨n7,hn7,h⟩:=rb_ h
   refine MknH.mk hn7 (S ?_)
   refine aM (b:=false) (sz:=2) (es:=a0.map (ag false)) 0 SC fun hl0=>?_; rw[aB] at hl0
   replace h:=rl_ h
   refine aH h (fun i3 s3=>[(0,.val (.pv (.sl false 2 (a0.map (ag false))))),(3,.val (.own 112)),(4,.val (.pv (I (i3:Int))))]) (fun i3 s3=>[(112,(2,s3.map (ag true)))]) (Slm_ SC) (fun i3 s3 hi h=>?_) (fun s3 h=>?_)
   ·have w:=ws_ (i:=i3) (by omega)
    refine S ?_
    refine aE cs (by omega) (fun cs=>S ?_)
    obtain⟨v18,hv18,h⟩:=rb_ h
    refine av (f:=(ag false)) hv18 SC (S ?_)
    obtain⟨v20,hv20,h⟩:=rb_ h
    refine al [false] (ih.2 _ _ hv20) SC (S ?_)
    obtain⟨v21,hv21,h⟩:=rb_ h
    refine av (f:=(ag true)) hv21 SC (S ?_)
    obtain⟨w2,hw2,h⟩:=rb_ h
    refine EldH.mk (f:=(ag true)) hw2 rfl SC (S ?_)
    have h:=rs_ h
    refine aw ⟨_,h,?_⟩
    exact Slm_ SWx
   ·refine S ?_
    refine aF cs (by omega) (fun cs=>S ?_)
    cases rs_ h
    exact ai SC
  ·obtain⟨h,cs⟩:=Ro_ h
   rw[tTN_] at h
   refine ap (nt:=12) (rs:=[.cell 2 49]) (n:=100000) Tryz.func24 rfl rfl rfl rfl (by simp) (S ?_)
   obtain⟨v9,hv9,h⟩:=rb_ h
   refine al [false] (ih.1 _ _ hv9) SC (S ?_)
   cases rs_ h
   exact ai SC
theorem tTS_1{a0:List Tt}{r:List Tt}(h:tTS_2 a0=some r):Sat ah 9 [(.sl false 2 (a0.map (ag false)))] (.sl true 2 (r.map (ag true))):=by
 obtain⟨n,hn⟩:=ls_ h
 exact(tTS_4 n).1 _ _ hn
theorem tTs_{a0:Tt}{r:Tt}(h:tT_ a0=some r):Sat ah 24 [((ag false) a0)] ((ag true) r):=by
 obtain⟨n,hn⟩:=ls_ h
 exact(tTS_4 n).2 _ _ hn

theorem tDs_{a0:Dt}  {r:Dt}(h:tD_ a0=some r):Sat ah 8 [((Dt.pv false) a0)] ((Dt.pv true) r):=by
 obtain⟨h,cs⟩:=Ro_ h
 unfold tD_ at h
 refine ap (nt:=13) (rs:=[.cell 2 31]) (n:=100000) Tryz.func8 rfl rfl rfl rfl (by simp) (S ?_)
 obtain⟨v6,hv6,h⟩:=rb_ h
 refine al [false] (tTS_1 hv6) SC (S ?_)
 obtain⟨v10,hv10,h⟩:=rb_ h
 refine al [false] (tTS_1 hv10) SC (S ?_)
 cases rs_ h
 exact ai SC

theorem slM_3(n:Nat):(∀ (a0:Tt) (a1:Int) (r:Int),slM_ n a0 a1=some r→Sat ah 89 [((ag false) a0),(I a1)] (I r)):=by
 induction n with
 | zero=>exact fun _ _ _ h=>by simp[slM_] at h
 | succ n ih=>
  refine fun a0 a1 r h=>?_
  obtain⟨h,cs⟩:=Ro_ h
  rw[slM_] at h
  refine ap (nt:=31) (rs:=[.tmp 4]) (n:=100000) Tryz.func89 rfl rfl rfl rfl (by simp) (S ?_)
  refine Mkv_ (b:=false) (sz:=2) (es:=a0.Args.map (ag false)) (x:=(.pv ((ag false) a0))) 0 [1] SC fun hl0=>?_; rw[aB] at hl0
  replace h:=rl_ h
  refine aH h (fun i3 s3=>[(1,.val (.pv (I a1))),(2,.box (.pv ((ag false) a0))),(5,.val (.pv (I s3))),(6,.val (.pv (I (i3:Int))))]) (fun i3 s3=>[]) (Slm_ SC) (fun i3 s3 hi h=>?_) (fun s3 h=>?_)
  ·have w:=ws_ (i:=i3) (by omega)
   refine S ?_
   refine aE cs (by omega) (fun cs=>S ?_)
   refine ak cs h (fun cs h=>S ?_) (fun cs h=>S ?_)
   ·obtain⟨v23,hv23,h⟩:=rb_ h
    refine av (f:=(ag false)) hv23 SC (S ?_)
    obtain⟨v28,hv28,h⟩:=rb_ h
    refine al [false,false] (ih _ _ _ hv28) SC (S ?_)
    have h:=rs_ h
    refine aw ⟨_,h,?_⟩
    exact Slm_ SWx
   ·cases rs_ h
    exact ai SC
  ·refine S ?_
   refine aF cs (by omega) (fun cs=>S ?_)
   cases rs_ h
   exact ai SC
theorem slM_4{a0:Tt}{a1:Int}{r:Int}(h:slM_2 a0 a1=some r):Sat ah 89 [((ag false) a0),(I a1)] (I r):=by
 obtain⟨n,hn⟩:=ls_ h
 exact(slM_3 n) _ _ _ hn

theorem slM_5{a0:Int}{a1:Int}  {r:Int}(h:slM_1 a0 a1=some r):Sat ah 108 [(I a0),(I a1)] (I r):=by
 obtain⟨h,cs⟩:=Ro_ h
 unfold slM_1 at h
 refine ap (nt:=10) (rs:=[.tmp 4]) (n:=100000) Tryz.func108 rfl rfl rfl rfl (by simp) (S ?_)
 refine ak cs h (fun cs h=>S ?_) (fun cs h=>S ?_)
 ·cases rs_ h
  exact ai SC
 ·cases rs_ h
  exact ai SC

theorem slD_2(n:Nat):(∀ (a0:Tt) (r:Int),slD_ n a0=some r→Sat ah 90 [((ag false) a0)] (I r)):=by
 induction n with
 | zero=>exact fun _ _ h=>by simp[slD_] at h
 | succ n ih=>
  refine fun a0 r h=>?_
  obtain⟨h,cs⟩:=Ro_ h
  rw[slD_] at h
  refine ap (nt:=22) (rs:=[.tmp 2]) (n:=100000) Tryz.func90 rfl rfl rfl rfl (by simp) (S ?_)
  refine Mkv_ (b:=false) (sz:=2) (es:=a0.Args.map (ag false)) (x:=(.pv ((ag false) a0))) 0 [1] SC fun hl0=>?_; rw[aB] at hl0
  replace h:=rl_ h
  refine aH h (fun i3 s3=>[(1,.box (.pv ((ag false) a0))),(3,.val (.pv (I s3))),(4,.val (.pv (I (i3:Int))))]) (fun i3 s3=>[]) (Slm_ SC) (fun i3 s3 hi h=>?_) (fun s3 h=>?_)
  ·have w:=ws_ (i:=i3) (by omega)
   refine S ?_
   refine aE cs (by omega) (fun cs=>S ?_)
   obtain⟨v16,hv16,h⟩:=rb_ h
   refine av (f:=(ag false)) hv16 SC (S ?_)
   obtain⟨v18,hv18,h⟩:=rb_ h
   refine al [false] (ih _ _ hv18) SC (S ?_)
   obtain⟨v19,hv19,h⟩:=rb_ h
   refine al [false,false] (slM_5 hv19) SC (S ?_)
   have h:=rs_ h
   refine aw ⟨_,h,?_⟩
   exact Slm_ SWx
  ·refine S ?_
   refine aF cs (by omega) (fun cs=>S ?_)
   cases rs_ h
   exact ai SC
theorem slD_3{a0:Tt}{r:Int}(h:slD_1 a0=some r):Sat ah 90 [((ag false) a0)] (I r):=by
 obtain⟨n,hn⟩:=ls_ h
 exact(slD_2 n) _ _ hn

theorem slF_5{a0:Tt}  {r:Bool}(h:slF_2 a0=some r):Sat ah 61 [((ag false) a0)] (B r):=by
 obtain⟨h,cs⟩:=Ro_ h
 unfold slF_2 at h
 refine ap (nt:=11) (rs:=[.tmp 2]) (n:=100000) Tryz.func61 rfl rfl rfl rfl (by simp) (S ?_)
 obtain⟨v4,hv4,h⟩:=rb_ h
 refine al [false,false] (slM_4 hv4) SC (S ?_)
 refine ak cs h (fun cs h=>S ?_) (fun cs h=>S ?_)
 ·obtain⟨v8,hv8,h⟩:=rb_ h
  refine al [false] (slD_3 hv8) SC (S ?_)
  cases rs_ h
  exact ai SC
 ·cases rs_ h
  exact ai SC

theorem slI_3{a0:Int}{a1:Int}{a2:Int}  {r:Bool}(h:slI_1 a0 a1 a2=some r):Sat ah 94 [(I a0),(I a1),(I a2)] (B r):=by
 obtain⟨h,cs⟩:=Ro_ h
 unfold slI_1 at h
 refine ap (nt:=15) (rs:=[.tmp 6]) (n:=100000) Tryz.func94 rfl rfl rfl rfl (by simp) (S ?_)
 refine ak cs h (fun cs h=>S ?_) (fun cs h=>S ?_)
 ·cases rs_ h
  exact ai SC
 ·cases rs_ h
  exact ai SC

theorem slS_5{a0:Int}  {r:Bool}(h:slS_1 a0=some r):Sat ah 95 [((Ik .u8) a0)] (B r):=by
 obtain⟨h,cs⟩:=Ro_ h
 unfold slS_1 at h
 refine ap (nt:=17) (rs:=[.tmp 2]) (n:=100000) Tryz.func95 rfl rfl rfl rfl (by simp) (S ?_)
 refine ak cs h (fun cs h=>S ?_) (fun cs h=>S ?_)
 ·refine ak cs h (fun cs h=>S ?_) (fun cs h=>S ?_)
  ·cases rs_ h
   exact ai SC
  ·refine ak cs h (fun cs h=>S ?_) (fun cs h=>S ?_)
   ·cases rs_ h
    exact ai SC
   ·cases rs_ h
    exact ai SC
 ·refine ak cs h (fun cs h=>S ?_) (fun cs h=>S ?_)
  ·cases rs_ h
   exact ai SC
  ·cases rs_ h
   exact ai SC

theorem slV_2{a0:ByteArray}  {r:Bool}(h:slV_ a0=some r):Sat ah 66 [(Sx a0)] (B r):=by
 obtain⟨h,cs⟩:=Ro_ h
 unfold slV_ at h
 refine ap (nt:=29) (rs:=[.tmp 2]) (n:=100000) Tryz.func66 rfl rfl rfl rfl (by simp) (S ?_)
 obtain⟨v6,hv6,h⟩:=rb_ h
 refine al [false,false,false] (slI_3 hv6) SC (S ?_)
 refine ak cs h (fun cs h=>S ?_) (fun cs h=>S ?_)
 ·obtain⟨v10,hv10,h⟩:=rb_ h
  refine a6 hv10 (S ?_)
  refine ak cs h (fun cs h=>S ?_) (fun cs h=>S ?_)
  ·cases rs_ h
   exact ai SC
  ·obtain⟨v15,hv15,h⟩:=rb_ h
   refine a6 hv15 (S ?_)
   refine ak cs h (fun cs h=>S ?_) (fun cs h=>S ?_)
   ·cases rs_ h
    exact ai SC
   ·obtain⟨N4,hN4,h⟩:=rb_ h
    obtain⟨hN4a,hN4b⟩:=bs_ hN4
    replace h:=rl_ h
    refine MfA_ (N:=N4) (a:=1) h (fun i4 s4=>[(0,.val (.pv (Sx a0))),(3,.val (.pv (I (i4:Int))))]) (fun i4 s4=>[]) (Slm_ SC) (fun i4 s4 hi hj h=>?_) (fun j4 s4 hj h=>?_)
    ·have w:=ws_ (i:=i4) (by omega)
     refine S ?_
     refine aE cs (by omega) (fun cs=>S ?_)
     obtain⟨v26,hv26,h⟩:=rb_ h
     refine a6 hv26 (S ?_)
     obtain⟨v27,hv27,h⟩:=rb_ h
     refine al [false] (slS_5 hv27) SC (S ?_)
     refine ak cs h (fun cs h=>S ?_) (fun cs h=>S ?_)
     ·have h:=rs_ h
      refine aw ⟨_,h,?_⟩
      exact Slm_ SWx
     ·cases rs_ h
      exact ai SC
    ·refine S ?_
     refine aF cs (by omega) (fun cs=>S ?_)
     cases rs_ h
     exact ai SC
 ·cases rs_ h
  exact ai SC

theorem slS_7{a0:ByteArray}  {r:Bool}(h:slS_2 a0=some r):Sat ah 91 [(Sx a0)] (B r):=by
 obtain⟨h,cs⟩:=Ro_ h
 unfold slS_2 at h
 refine ap (nt:=45) (rs:=[.tmp 2]) (n:=100000) Tryz.func91 rfl rfl rfl rfl (by simp) (S ?_)
 obtain⟨v6,hv6,h⟩:=rb_ h
 refine al [false,false,false] (slI_3 hv6) SC (S ?_)
 refine ak cs h (fun cs h=>S ?_) (fun cs h=>S ?_)
 ·obtain⟨v10,hv10,h⟩:=rb_ h
  refine a6 hv10 (S ?_)
  refine ak cs h (fun cs h=>S ?_) (fun cs h=>S ?_)
  ·cases rs_ h
   exact ai SC
  ·obtain⟨v15,hv15,h⟩:=rb_ h
   refine a6 hv15 (S ?_)
   refine ak cs h (fun cs h=>S ?_) (fun cs h=>S ?_)
   ·cases rs_ h
    exact ai SC
   ·refine ak cs h (fun cs h=>S ?_) (fun cs h=>S ?_)
    ·cases rs_ h
     exact ai SC
    ·refine ak cs h (fun cs h=>S ?_) (fun cs h=>S ?_)
     ·cases rs_ h
      exact ai SC
     ·refine ak cs h (fun cs h=>S ?_) (fun cs h=>S ?_)
      ·cases rs_ h
       exact ai SC
      ·refine ak cs h (fun cs h=>S ?_) (fun cs h=>S ?_)
       ·cases rs_ h
        exact ai SC
       ·refine ak cs h (fun cs h=>S ?_) (fun cs h=>S ?_)
        ·cases rs_ h
         exact ai SC
        ·refine ak cs h (fun cs h=>S ?_) (fun cs h=>S ?_)
         ·cases rs_ h
          exact ai SC
         ·refine ak cs h (fun cs h=>S ?_) (fun cs h=>S ?_)
          ·cases rs_ h
           exact ai SC
          ·refine ak cs h (fun cs h=>S ?_) (fun cs h=>S ?_)
           ·cases rs_ h
            exact ai SC
           ·obtain⟨N14,hN14,h⟩:=rb_ h
            obtain⟨hN14a,hN14b⟩:=bs_ hN14
            replace h:=rl_ h
            refine MfA_ (N:=N14) (a:=1) h (fun i14 s14=>[(0,.val (.pv (Sx a0))),(3,.val (.pv (I (i14:Int))))]) (fun i14 s14=>[]) (Slm_ SC) (fun i14 s14 hi hj h=>?_) (fun j14 s14 hj h=>?_)
            ·have w:=ws_ (i:=i14) (by omega)
             refine S ?_
             refine aE cs (by omega) (fun cs=>S ?_)
             obtain⟨v36,hv36,h⟩:=rb_ h
             refine a6 hv36 (S ?_)
             obtain⟨v37,hv37,h⟩:=rb_ h
             refine al [false] (slS_5 hv37) SC (S ?_)
             refine ak cs h (fun cs h=>S ?_) (fun cs h=>S ?_)
             ·have h:=rs_ h
              refine aw ⟨_,h,?_⟩
              exact Slm_ SWx
             ·obtain⟨v42,hv42,h⟩:=rb_ h
              refine a6 hv42 (S ?_)
              refine ak cs h (fun cs h=>S ?_) (fun cs h=>S ?_)
              ·have h:=rs_ h
               refine aw ⟨_,h,?_⟩
               exact Slm_ SWx
              ·cases rs_ h
               exact ai SC
            ·refine S ?_
             refine aF cs (by omega) (fun cs=>S ?_)
             cases rs_ h
             exact ai SC
 ·cases rs_ h
  exact ai SC

theorem slN_2(n:Nat):(∀ (a0:Tt) (r:Bool),slN_ n a0=some r→Sat ah 62 [((ag false) a0)] (B r)):=by
 induction n with
 | zero=>exact fun _ _ h=>by simp[slN_] at h
 | succ n ih=>
  refine fun a0 r h=>?_
  obtain⟨h,cs⟩:=Ro_ h
  rw[slN_] at h
  refine ap (nt:=35) (rs:=[.tmp 2]) (n:=100000) Tryz.func62 rfl rfl rfl rfl (by simp) (S ?_)
  obtain⟨v6,hv6,h⟩:=rb_ h
  refine al [false] (slV_2 hv6) SC (S ?_)
  refine ak cs h (fun cs h=>S ?_) (fun cs h=>S ?_)
  ·cases rs_ h
   exact ai SC
  ·obtain⟨v13,hv13,h⟩:=rb_ h
   refine al [false] (slS_7 hv13) SC (S ?_)
   refine ak cs h (fun cs h=>S ?_) (fun cs h=>S ?_)
   ·refine ak cs h (fun cs h=>S ?_) (fun cs h=>S ?_)
    ·cases rs_ h
     exact ai SC
    ·refine aM (b:=false) (sz:=2) (es:=a0.Args.map (ag false)) 17 SC fun hl17=>?_; rw[aB] at hl17
     replace h:=rl_ h
     refine aH h (fun i6 s6=>[(1,.box (.pv ((ag false) a0))),(3,.val (.pv (I (i6:Int))))]) (fun i6 s6=>[]) (Slm_ SC) (fun i6 s6 hi h=>?_) (fun s6 h=>?_)
     ·have w:=ws_ (i:=i6) (by omega)
      refine S ?_
      refine aE cs (by omega) (fun cs=>S ?_)
      obtain⟨v31,hv31,h⟩:=rb_ h
      refine av (f:=(ag false)) hv31 SC (S ?_)
      obtain⟨v33,hv33,h⟩:=rb_ h
      refine al [false] (ih _ _ hv33) SC (S ?_)
      refine ak cs h (fun cs h=>S ?_) (fun cs h=>S ?_)
      ·have h:=rs_ h
       refine aw ⟨_,h,?_⟩
       exact Slm_ SWx
      ·cases rs_ h
       exact ai SC
     ·refine S ?_
      refine aF cs (by omega) (fun cs=>S ?_)
      cases rs_ h
      exact ai SC
   ·cases rs_ h
    exact ai SC
theorem slN_3{a0:Tt}{r:Bool}(h:slN_1 a0=some r):Sat ah 62 [((ag false) a0)] (B r):=by
 obtain⟨n,hn⟩:=ls_ h
 exact(slN_2 n) _ _ hn

theorem slG_3{a0:Tt}  {r:Bool}(h:slG_1 a0=some r):Sat ah 36 [((ag false) a0)] (B r):=by
 obtain⟨h,cs⟩:=Ro_ h
 unfold slG_1 at h
 refine ap (nt:=9) (rs:=[.tmp 2]) (n:=100000) Tryz.func36 rfl rfl rfl rfl (by simp) (S ?_)
 obtain⟨v4,hv4,h⟩:=rb_ h
 refine al [false] (slF_5 hv4) SC (S ?_)
 refine ak cs h (fun cs h=>S ?_) (fun cs h=>S ?_)
 ·obtain⟨v7,hv7,h⟩:=rb_ h
  refine al [false] (slN_3 hv7) SC (S ?_)
  cases rs_ h
  exact ai SC
 ·cases rs_ h
  exact ai SC

theorem slP_5{a0:List ByteArray}{a1:ByteArray}  {r:List ByteArray}(h:slP_3 a0 a1=some r):Sat ah 92 [(.sl false 1 (a0.map Sx)),(Sx a1)] (.sl false 1 (r.map Sx)):=by
 obtain⟨h,cs⟩:=Ro_ h
 unfold slP_3 at h
 refine ap (nt:=45) (rs:=[.tmp 4]) (n:=100000) Tryz.func92 rfl rfl rfl rfl (by simp) (S ?_)
 refine aM (b:=false) (sz:=1) (es:=a0.map Sx) 0 SC fun hl0=>?_; rw[aB] at hl0
 replace h:=rl_ h
 refine aH h (fun i2 s2=>[(0,.val (.pv (.sl false 1 (a0.map Sx)))),(1,.val (.pv (Sx a1))),(5,.val (.pv (I (i2:Int))))]) (fun i2 s2=>[]) (Slm_ SC) (fun i2 s2 hi h=>?_) (fun s2 h=>?_)
 ·have w:=ws_ (i:=i2) (by omega)
  refine S ?_
  refine aE cs (by omega) (fun cs=>S ?_)
  obtain⟨v13,hv13,h⟩:=rb_ h
  refine av (f:=Sx) hv13 SC (S ?_)
  refine ak cs h (fun cs h=>S ?_) (fun cs h=>S ?_)
  ·have h:=rs_ h
   refine aw ⟨_,h,?_⟩
   exact Slm_ SWx
  ·obtain⟨v27,hv27,h⟩:=rb_ h
   refine av (f:=Sx) hv27 SC (S ?_)
   refine ak cs h (fun cs h=>S ?_) (fun cs h=>S ?_)
   ·cases rs_ h
    exact FinH.r SC
   ·obtain⟨v36,hv36,h⟩:=rb_ h
    refine SlcH.mk (f:=Sx) hv36 SC (S ?_)
    obtain⟨v37,hv37,h⟩:=rb_ h
    refine aV (f:=Sx) (fun _=>rfl) hv37 SC SC (S ?_)
    obtain⟨v40,hv40,h⟩:=rb_ h
    refine aV (f:=Sx) (fun _=>rfl) hv40 SC SC (S ?_)
    obtain⟨v43,hv43,h⟩:=rb_ h
    refine SlcH.mk (f:=Sx) hv43 SC (S ?_)
    obtain⟨v44,hv44,h⟩:=rb_ h
    refine aV (f:=Sx) (fun _=>rfl) hv44 SC SC (S ?_)
    refine aa (DHa_ [] [528,592,624,640,704]) (S ?_)
    cases rs_ h
    exact FinH.r SC
 ·refine S ?_
  refine aF cs (by omega) (fun cs=>S ?_)
  obtain⟨v36,hv36,h⟩:=rb_ h
  refine SlcH.mk (f:=Sx) hv36 SC (S ?_)
  obtain⟨v37,hv37,h⟩:=rb_ h
  refine aV (f:=Sx) (fun _=>rfl) hv37 SC SC (S ?_)
  obtain⟨v40,hv40,h⟩:=rb_ h
  refine aV (f:=Sx) (fun _=>rfl) hv40 SC SC (S ?_)
  obtain⟨v43,hv43,h⟩:=rb_ h
  refine SlcH.mk (f:=Sx) hv43 SC (S ?_)
  obtain⟨v44,hv44,h⟩:=rb_ h
  refine aV (f:=Sx) (fun _=>rfl) hv44 SC SC (S ?_)
  refine aa (DHa_ [] [528,592,624,640,704]) (S ?_)
  cases rs_ h
  exact FinH.r SC

theorem slI_4(n:Nat):(∀ (a0:List ByteArray) (a1:Tt) (r:List ByteArray),slI_ n a0 a1=some r→Sat ah 63 [(.sl false 1 (a0.map Sx)),((ag false) a1)] (.sl false 1 (r.map Sx))):=by
 induction n with
 | zero=>exact fun _ _ _ h=>by simp[slI_] at h
 | succ n ih=>
  refine fun a0 a1 r h=>?_
  obtain⟨h,cs⟩:=Ro_ h
  rw[slI_] at h
  refine ap (nt:=28) (rs:=[.tmp 4]) (n:=100000) Tryz.func63 rfl rfl rfl rfl (by simp) (S ?_)
  obtain⟨v8,hv8,h⟩:=rb_ h
  refine al [false] (slV_2 hv8) SC (S ?_)
  refine ak cs h (fun cs h=>S ?_) (fun cs h=>S ?_)
  ·obtain⟨v12,hv12,h⟩:=rb_ h
   refine al [false,false] (slP_5 hv12) SC (S ?_)
   cases rs_ h
   exact FinH.r SC
  ·refine Mkv_ (b:=false) (sz:=2) (es:=a1.Args.map (ag false)) (x:=(.pv ((ag false) a1))) 1 [1] SC fun hl1=>?_; rw[aB] at hl1
   replace h:=rl_ h
   refine aH h (fun i4 s4=>[(0,.val (.pv (.sl false 1 (s4.map Sx)))),(3,.box (.pv ((ag false) a1))),(5,.val (.pv (I (i4:Int))))]) (fun i4 s4=>[]) (Slm_ SC) (fun i4 s4 hi h=>?_) (fun s4 h=>?_)
   ·have w:=ws_ (i:=i4) (by omega)
    refine S ?_
    refine aE cs (by omega) (fun cs=>S ?_)
    obtain⟨v24,hv24,h⟩:=rb_ h
    refine av (f:=(ag false)) hv24 SC (S ?_)
    obtain⟨v26,hv26,h⟩:=rb_ h
    refine al [false,false] (ih _ _ _ hv26) SC (S ?_)
    have h:=rs_ h
    refine aw ⟨_,h,?_⟩
    exact Slm_ SWx
   ·refine S ?_
    refine aF cs (by omega) (fun cs=>S ?_)
    cases rs_ h
    exact FinH.r SC
theorem slI_5{a0:List ByteArray}{a1:Tt}{r:List ByteArray}(h:slI_2 a0 a1=some r):Sat ah 63 [(.sl false 1 (a0.map Sx)),((ag false) a1)] (.sl false 1 (r.map Sx)):=by
 obtain⟨n,hn⟩:=ls_ h
 exact(slI_4 n) _ _ _ hn

theorem slV_3{a0:Tt}  {r:List ByteArray}(h:slV_1 a0=some r):Sat ah 37 [((ag false) a0)] (.sl false 1 (r.map Sx)):=by
 obtain⟨h,cs⟩:=Ro_ h
 unfold slV_1 at h
 refine ap (nt:=6) (rs:=[.tmp 2]) (n:=100000) Tryz.func37 rfl rfl rfl rfl (by simp) (S ?_)
 obtain⟨v5,hv5,h⟩:=rb_ h
 refine al [true,false] (Sat.give (args:=[(.sl true 1 (([]).map Sx)),((ag false) a0)]) [true,false] (by have gg:=slI_5 hv5; simp only[gv_t,gv_f,gv_n,vs_,va_,vl_,vrB_,vrI_,PV.views,RB,RS] at gg ⊢; exact gg)) SC (S ?_)
 cases rs_ h
 exact FinH.r SC

theorem slG_4{a0:Tt}  {r:Bool}(h:slG_ a0=some r):Sat ah 39 [((ag false) a0)] (B r):=by
 obtain⟨h,cs⟩:=Ro_ h
 unfold slG_ at h
 refine ap (nt:=7) (rs:=[.tmp 2]) (n:=100000) Tryz.func39 rfl rfl rfl rfl (by simp) (S ?_)
 obtain⟨v4,hv4,h⟩:=rb_ h
 refine al [false] (slV_3 hv4) SC (S ?_)
 cases rs_ h
 exact ai SC

theorem slT_2{a0:List Tt}  {r:Bool}(h:slT_ a0=some r):Sat ah 20 [(.sl false 2 (a0.map (ag false)))] (B r):=by
 obtain⟨h,cs⟩:=Ro_ h
 unfold slT_ at h
 refine ap (nt:=31) (rs:=[.tmp 2]) (n:=100000) Tryz.func20 rfl rfl rfl rfl (by simp) (S ?_)
 refine aM (b:=false) (sz:=2) (es:=a0.map (ag false)) 0 SC fun hl0=>?_; rw[aB] at hl0
 replace h:=rl_ h
 refine aH h (fun i2 s2=>[(0,.val (.pv (.sl false 2 (a0.map (ag false))))),(3,.val (.pv (I (i2:Int))))]) (fun i2 s2=>[]) (Slm_ SC) (fun i2 s2 hi h=>?_) (fun s2 h=>?_)
 ·have w:=ws_ (i:=i2) (by omega)
  refine S ?_
  refine aE cs (by omega) (fun cs=>S ?_)
  refine ak cs h (fun cs h=>S ?_) (fun cs h=>S ?_)
  ·obtain⟨v16,hv16,h⟩:=rb_ h
   refine av (f:=(ag false)) hv16 SC (S ?_)
   obtain⟨v18,hv18,h⟩:=rb_ h
   refine al [false] (slG_3 hv18) SC (S ?_)
   refine ak cs h (fun cs h=>S ?_) (fun cs h=>S ?_)
   ·obtain⟨v23,hv23,h⟩:=rb_ h
    refine av (f:=(ag false)) hv23 SC (S ?_)
    obtain⟨v25,hv25,h⟩:=rb_ h
    refine al [false] (slG_4 hv25) SC (S ?_)
    refine ak cs h (fun cs h=>S ?_) (fun cs h=>S ?_)
    ·have h:=rs_ h
     refine aw ⟨_,h,?_⟩
     exact Slm_ SWx
    ·cases rs_ h
     exact ai SC
   ·cases rs_ h
    exact ai SC
  ·cases rs_ h
   exact ai SC
 ·refine S ?_
  refine aF cs (by omega) (fun cs=>S ?_)
  cases rs_ h
  exact ai SC

theorem slT_3{a0:ByteArray}{a1:ByteArray}  {r:Int}(h:slT_1 a0 a1=some r):Sat ah 67 [(Sx a0),(Sx a1)] (I r):=by
 obtain⟨h,cs⟩:=Ro_ h
 unfold slT_1 at h
 refine ap (nt:=13) (rs:=[.tmp 4]) (n:=100000) Tryz.func67 rfl rfl rfl rfl (by simp) (S ?_)
 refine ak cs h (fun cs h=>S ?_) (fun cs h=>S ?_)
 ·cases rs_ h
  exact ai SC
 ·refine ak cs h (fun cs h=>S ?_) (fun cs h=>S ?_)
  ·cases rs_ h
   exact ai SC
  ·cases rs_ h
   exact ai SC

theorem slC_3(n:Nat):(∀ (a0:Tt) (a1:Tt) (r:Int),slC_ n a0 a1=some r→Sat ah 42 [((ag false) a0),((ag false) a1)] (I r)):=by
 induction n with
 | zero=>exact fun _ _ _ h=>by simp[slC_] at h
 | succ n ih=>
  refine fun a0 a1 r h=>?_
  obtain⟨h,cs⟩:=Ro_ h
  rw[slC_] at h
  refine ap (nt:=75) (rs:=[.tmp 4]) (n:=100000) Tryz.func42 rfl rfl rfl rfl (by simp) (S ?_)
  obtain⟨v11,hv11,h⟩:=rb_ h
  refine al [false] (slV_2 hv11) SC (S ?_)
  obtain⟨v14,hv14,h⟩:=rb_ h
  refine al [false] (slV_2 hv14) SC (S ?_)
  refine aa (DHa_ [] []) (S ?_)
  refine ak cs h (fun cs h=>S ?_) (fun cs h=>S ?_)
  ·refine ak cs h (fun cs h=>S ?_) (fun cs h=>S ?_)
   ·refine ak cs h (fun cs h=>S ?_) (fun cs h=>S ?_)
    ·refine ak cs h (fun cs h=>S ?_) (fun cs h=>S ?_)
     ·cases rs_ h
      exact ai SC
     ·refine ak cs h (fun cs h=>S ?_) (fun cs h=>S ?_)
      ·cases rs_ h
       exact ai SC
      ·refine aM (b:=false) (sz:=2) (es:=a0.Args.map (ag false)) 40 SC fun hl40=>?_; rw[aB] at hl40
       replace h:=rl_ h
       refine aH h (fun i13 s13=>[(2,.box (.pv ((ag false) a0))),(3,.box (.pv ((ag false) a1))),(7,.val (.pv (I (i13:Int))))]) (fun i13 s13=>[]) (Slm_ SC) (fun i13 s13 hi h=>?_) (fun s13 h=>?_)
       ·have w:=ws_ (i:=i13) (by omega)
        refine S ?_
        refine aE cs (by omega) (fun cs=>S ?_)
        obtain⟨v64,hv64,h⟩:=rb_ h
        refine av (f:=(ag false)) hv64 SC (S ?_)
        obtain⟨v69,hv69,h⟩:=rb_ h
        refine av (f:=(ag false)) hv69 SC (S ?_)
        obtain⟨v71,hv71,h⟩:=rb_ h
        refine al [false,false] (ih _ _ _ hv71) SC (S ?_)
        refine aa (DHa_ [] []) (S ?_)
        refine ak cs h (fun cs h=>S ?_) (fun cs h=>S ?_)
        ·have h:=rs_ h
         refine aw ⟨_,h,?_⟩
         exact Slm_ SWx
        ·cases rs_ h
         exact ai SC
       ·refine S ?_
        refine aF cs (by omega) (fun cs=>S ?_)
        cases rs_ h
        exact ai SC
    ·obtain⟨v37,hv37,h⟩:=rb_ h
     refine al [false,false] (slT_3 hv37) SC (S ?_)
     cases rs_ h
     exact ai SC
   ·cases rs_ h
    exact ai SC
  ·refine ak cs h (fun cs h=>S ?_) (fun cs h=>S ?_)
   ·cases rs_ h
    exact ai SC
   ·refine ak cs h (fun cs h=>S ?_) (fun cs h=>S ?_)
    ·refine ak cs h (fun cs h=>S ?_) (fun cs h=>S ?_)
     ·cases rs_ h
      exact ai SC
     ·refine ak cs h (fun cs h=>S ?_) (fun cs h=>S ?_)
      ·cases rs_ h
       exact ai SC
      ·refine aM (b:=false) (sz:=2) (es:=a0.Args.map (ag false)) 40 SC fun hl40=>?_; rw[aB] at hl40
       replace h:=rl_ h
       refine aH h (fun i13 s13=>[(2,.box (.pv ((ag false) a0))),(3,.box (.pv ((ag false) a1))),(7,.val (.pv (I (i13:Int))))]) (fun i13 s13=>[]) (Slm_ SC) (fun i13 s13 hi h=>?_) (fun s13 h=>?_)
       ·have w:=ws_ (i:=i13) (by omega)
        refine S ?_
        refine aE cs (by omega) (fun cs=>S ?_)
        obtain⟨v64,hv64,h⟩:=rb_ h
        refine av (f:=(ag false)) hv64 SC (S ?_)
        obtain⟨v69,hv69,h⟩:=rb_ h
        refine av (f:=(ag false)) hv69 SC (S ?_)
        obtain⟨v71,hv71,h⟩:=rb_ h
        refine al [false,false] (ih _ _ _ hv71) SC (S ?_)
        refine aa (DHa_ [] []) (S ?_)
        refine ak cs h (fun cs h=>S ?_) (fun cs h=>S ?_)
        ·have h:=rs_ h
         refine aw ⟨_,h,?_⟩
         exact Slm_ SWx
        ·cases rs_ h
         exact ai SC
       ·refine S ?_
        refine aF cs (by omega) (fun cs=>S ?_)
        cases rs_ h
        exact ai SC
    ·obtain⟨v37,hv37,h⟩:=rb_ h
     refine al [false,false] (slT_3 hv37) SC (S ?_)
     cases rs_ h
     exact ai SC
theorem slC_2{a0:Tt}{a1:Tt}{r:Int}(h:slC_1 a0 a1=some r):Sat ah 42 [((ag false) a0),((ag false) a1)] (I r):=by
 obtain⟨n,hn⟩:=ls_ h
 exact(slC_3 n) _ _ _ hn

theorem slR_1{a0:List Tt}  {r:Bool}(h:slR_ a0=some r):Sat ah 38 [(.sl false 2 (a0.map (ag false)))] (B r):=by
 obtain⟨h,cs⟩:=Ro_ h
 unfold slR_ at h
 refine ap (nt:=21) (rs:=[.tmp 2]) (n:=100000) Tryz.func38 rfl rfl rfl rfl (by simp) (S ?_)
 refine aM (b:=false) (sz:=2) (es:=a0.map (ag false)) 0 SC fun hl0=>?_; rw[aB] at hl0
 replace h:=rl_ h
 refine MfA_ (N:=a0.length) (a:=1) h (fun i2 s2=>[(0,.val (.pv (.sl false 2 (a0.map (ag false))))),(3,.val (.pv (I (i2:Int))))]) (fun i2 s2=>[]) (Slm_ SC) (fun i2 s2 hi hj h=>?_) (fun j2 s2 hj h=>?_)
 ·have w:=ws_ (i:=i2) (by omega)
  refine S ?_
  refine aE cs (by omega) (fun cs=>S ?_)
  obtain⟨v13,hv13,h⟩:=rb_ h
  refine av (f:=(ag false)) hv13 SC (S ?_)
  obtain⟨v17,hv17,h⟩:=rb_ h
  refine av (f:=(ag false)) hv17 SC (S ?_)
  obtain⟨v19,hv19,h⟩:=rb_ h
  refine al [false,false] (slC_2 hv19) SC (S ?_)
  refine aa (DHa_ [] []) (S ?_)
  refine ak cs h (fun cs h=>S ?_) (fun cs h=>S ?_)
  ·cases rs_ h
   exact ai SC
  ·have h:=rs_ h
   refine aw ⟨_,h,?_⟩
   exact Slm_ SWx
 ·refine S ?_
  refine aF cs (by omega) (fun cs=>S ?_)
  cases rs_ h
  exact ai SC

theorem slG_5{a0:Dt}  {r:Bool}(h:slG_2 a0=some r):Sat ah 19 [((Dt.pv false) a0)] (B r):=by
 obtain⟨h,cs⟩:=Ro_ h
 unfold slG_2 at h
 refine ap (nt:=69) (rs:=[.tmp 2]) (n:=100000) Tryz.func19 rfl rfl rfl rfl (by simp) (S ?_)
 refine ak cs h (fun cs h=>S ?_) (fun cs h=>S ?_)
 ·cases rs_ h
  exact ai SC
 ·refine ak cs h (fun cs h=>S ?_) (fun cs h=>S ?_)
  ·cases rs_ h
   exact ai SC
  ·obtain⟨v18,hv18,h⟩:=rb_ h
   refine al [false] (slT_2 hv18) SC (S ?_)
   refine ak cs h (fun cs h=>S ?_) (fun cs h=>S ?_)
   ·refine aM (b:=false) (sz:=2) (es:=a0.Patterns.map (ag false)) 6 SC fun hl6=>?_; rw[aB] at hl6
    replace h:=rl_ h
    refine aH h (fun i4 s4=>[(1,.box (.pv ((Dt.pv false) a0))),(3,.val (.pv (I (i4:Int))))]) (fun i4 s4=>[]) (Slm_ SC) (fun i4 s4 hi h=>?_) (fun s4 h=>?_)
    ·have w:=ws_ (i:=i4) (by omega)
     refine S ?_
     refine aE cs (by omega) (fun cs=>S ?_)
     obtain⟨v31,hv31,h⟩:=rb_ h
     refine av (f:=(ag false)) hv31 SC (S ?_)
     obtain⟨v33,hv33,h⟩:=rb_ h
     refine al [false] (slG_3 hv33) SC (S ?_)
     refine ak cs h (fun cs h=>S ?_) (fun cs h=>S ?_)
     ·obtain⟨v38,hv38,h⟩:=rb_ h
      refine av (f:=(ag false)) hv38 SC (S ?_)
      obtain⟨v40,hv40,h⟩:=rb_ h
      refine al [false] (slV_3 hv40) SC (S ?_)
      refine ak cs h (fun cs h=>S ?_) (fun cs h=>S ?_)
      ·cases rs_ h
       exact ai SC
      ·refine ak cs h (fun cs h=>S ?_) (fun cs h=>S ?_)
       ·obtain⟨v50,hv50,h⟩:=rb_ h
        refine av (f:=Sx) hv50 SC (S ?_)
        refine ak cs h (fun cs h=>S ?_) (fun cs h=>S ?_)
        ·refine ak cs h (fun cs h=>S ?_) (fun cs h=>S ?_)
         ·cases rs_ h
          exact ai SC
         ·have h:=rs_ h
          refine aw ⟨_,h,?_⟩
          exact Slm_ SWx
        ·cases rs_ h
         exact ai SC
       ·have h:=rs_ h
        refine aw ⟨_,h,?_⟩
        exact Slm_ SWx
     ·cases rs_ h
      exact ai SC
    ·refine S ?_
     refine aF cs (by omega) (fun cs=>S ?_)
     obtain⟨v63,hv63,h⟩:=rb_ h
     refine al [false] (slR_1 hv63) SC (S ?_)
     refine ak cs h (fun cs h=>S ?_) (fun cs h=>S ?_)
     ·obtain⟨v67,hv67,h⟩:=rb_ h
      refine al [false] (slR_1 hv67) SC (S ?_)
      cases rs_ h
      exact ai SC
     ·cases rs_ h
      exact ai SC
   ·cases rs_ h
    exact ai SC

theorem slO_3(n:Nat):(∀ (a0:Tt) (r:Tt),slO_1 n a0=some r→Sat ah 40 [((ag false) a0)] ((ag true) r)):=by
 induction n with
 | zero=>exact fun _ _ h=>by simp[slO_1] at h
 | succ n ih=>
  refine fun a0 r h=>?_
  obtain⟨h,cs⟩:=Ro_ h
  rw[slO_1] at h
  refine ap (nt:=27) (rs:=[.cell 2 49]) (n:=100000) Tryz.func40 rfl rfl rfl rfl (by simp) (S ?_)
  refine Mkv_ (b:=false) (sz:=2) (es:=a0.Args.map (ag false)) (x:=(.pv ((ag false) a0))) 0 [1] SC fun hl0=>?_; rw[aB] at hl0
  replace h:=rl_ h
  refine aH h (fun i3 s3=>[(1,.box (.pv ((ag false) a0))),(2,.box (.node [(.pv (Sx ⟨#[]⟩)),(.pv (.sl true 2 []))])),(3,.box (.node [(.pv (Sx a0.Name)),(.own 9309)])),(4,.val (.pv (I (i3:Int))))]) (fun i3 s3=>[(9309,(2,s3.map (ag true)))]) (bc (Sln_ (x:=(.node [(.pv (Sx a0.Name)),(.pv (.sl true 2 []))])) 3 [1] 9309 2 NM SC SC SC) (Slm_ SC)) (fun i3 s3 hi h=>?_) (fun s3 h=>?_)
  ·have w:=ws_ (i:=i3) (by omega)
   refine S ?_
   refine aE cs (by omega) (fun cs=>S ?_)
   obtain⟨v20,hv20,h⟩:=rb_ h
   refine av (f:=(ag false)) hv20 SC (S ?_)
   obtain⟨v22,hv22,h⟩:=rb_ h
   refine al [false] (ih _ _ hv22) SC (S ?_)
   obtain⟨v24,hv24,h⟩:=rb_ h
   refine aV (f:=(ag true)) (fun a=>Tt.psize _ a) hv24 SC SC (S ?_)
   refine aa (DHa_ [] [352,368,384]) (S ?_)
   have h:=rs_ h
   refine aw ⟨_,h,?_⟩
   refine bc (Slm_1 (S:=[(1,.box (.pv ((ag false) a0))),(2,.box (.node [(.pv (Sx ⟨#[]⟩)),(.pv (.sl true 2 []))])),(3,.box (.node [(.pv (Sx a0.Name)),(.own 384)])),(4,.val (.pv (I (IntKind.i64.wrap ((i3:Int)+1)))))]) (O:=[(384,(2,v24.map (ag true)))]) SWx SWx) ?_
   refine Slr_ 384 9309 (by decide) NM ?_
   exact Slm_ SWx
  ·refine S ?_
   refine aF cs (by omega) (fun cs=>S ?_)
   cases rs_ h
   exact ai SC
theorem slO_2{a0:Tt}{r:Tt}(h:slO_ a0=some r):Sat ah 40 [((ag false) a0)] ((ag true) r):=by
 obtain⟨n,hn⟩:=ls_ h
 exact(slO_3 n) _ _ hn

theorem slS_8(n:Nat):(∀ (a0:Tt) (a1:Tt) (r:Bool),slS_ n a0 a1=some r→Sat ah 43 [((ag false) a0),((ag false) a1)] (B r)):=by
 induction n with
 | zero=>exact fun _ _ _ h=>by simp[slS_] at h
 | succ n ih=>
  refine fun a0 a1 r h=>?_
  obtain⟨h,cs⟩:=Ro_ h
  rw[slS_] at h
  refine ap (nt:=39) (rs:=[.tmp 4]) (n:=100000) Tryz.func43 rfl rfl rfl rfl (by simp) (S ?_)
  refine ak cs h (fun cs h=>S ?_) (fun cs h=>S ?_)
  ·refine ak cs h (fun cs h=>S ?_) (fun cs h=>S ?_)
   ·refine aM (b:=false) (sz:=2) (es:=a0.Args.map (ag false)) 13 SC fun hl13=>?_; rw[aB] at hl13
    replace h:=rl_ h
    refine aH h (fun i4 s4=>[(2,.box (.pv ((ag false) a0))),(3,.box (.pv ((ag false) a1))),(5,.val (.pv (I (i4:Int))))]) (fun i4 s4=>[]) (Slm_ SC) (fun i4 s4 hi h=>?_) (fun s4 h=>?_)
    ·have w:=ws_ (i:=i4) (by omega)
     refine S ?_
     refine aE cs (by omega) (fun cs=>S ?_)
     obtain⟨v30,hv30,h⟩:=rb_ h
     refine av (f:=(ag false)) hv30 SC (S ?_)
     obtain⟨v35,hv35,h⟩:=rb_ h
     refine av (f:=(ag false)) hv35 SC (S ?_)
     obtain⟨v37,hv37,h⟩:=rb_ h
     refine al [false,false] (ih _ _ _ hv37) SC (S ?_)
     refine aa (DHa_ [] []) (S ?_)
     refine ak cs h (fun cs h=>S ?_) (fun cs h=>S ?_)
     ·have h:=rs_ h
      refine aw ⟨_,h,?_⟩
      exact Slm_ SWx
     ·cases rs_ h
      exact ai SC
    ·refine S ?_
     refine aF cs (by omega) (fun cs=>S ?_)
     cases rs_ h
     exact ai SC
   ·cases rs_ h
    exact ai SC
  ·cases rs_ h
   exact ai SC
theorem slS_6{a0:Tt}{a1:Tt}{r:Bool}(h:slS_4 a0 a1=some r):Sat ah 43 [((ag false) a0),((ag false) a1)] (B r):=by
 obtain⟨n,hn⟩:=ls_ h
 exact(slS_8 n) _ _ _ hn

theorem slP_2{a0:List Tt}{a1:Tt}  {r:List Tt}(h:slP_ a0 a1=some r):Sat ah 22 [(.sl false 2 (a0.map (ag false))),((ag false) a1)] (.sl false 2 (r.map (ag false))):=by
 obtain⟨h,cs⟩:=Ro_ h
 unfold slP_ at h
 refine ap (nt:=46) (rs:=[.tmp 4]) (n:=100000) Tryz.func22 rfl rfl rfl rfl (by simp) (S ?_)
 refine aM (b:=false) (sz:=2) (es:=a0.map (ag false)) 0 SC fun hl0=>?_; rw[aB] at hl0
 replace h:=rl_ h
 refine aH h (fun i2 s2=>[(0,.val (.pv (.sl false 2 (a0.map (ag false))))),(3,.box (.pv ((ag false) a1))),(5,.val (.pv (I (i2:Int))))]) (fun i2 s2=>[]) (Slm_ SC) (fun i2 s2 hi h=>?_) (fun s2 h=>?_)
 ·have w:=ws_ (i:=i2) (by omega)
  refine S ?_
  refine aE cs (by omega) (fun cs=>S ?_)
  obtain⟨v13,hv13,h⟩:=rb_ h
  refine av (f:=(ag false)) hv13 SC (S ?_)
  obtain⟨v16,hv16,h⟩:=rb_ h
  refine al [false,false] (slC_2 hv16) SC (S ?_)
  refine aa (DHa_ [] []) (S ?_)
  refine ak cs h (fun cs h=>S ?_) (fun cs h=>S ?_)
  ·have h:=rs_ h
   refine aw ⟨_,h,?_⟩
   exact Slm_ SWx
  ·obtain⟨v28,hv28,h⟩:=rb_ h
   refine av (f:=(ag false)) hv28 SC (S ?_)
   obtain⟨v31,hv31,h⟩:=rb_ h
   refine al [false,false] (slS_6 hv31) SC (S ?_)
   refine aa (DHa_ [] []) (S ?_)
   refine ak cs h (fun cs h=>S ?_) (fun cs h=>S ?_)
   ·cases rs_ h
    exact FinH.r SC
   ·obtain⟨v37,hv37,h⟩:=rb_ h
    refine SlcH.mk (f:=(ag false)) hv37 SC (S ?_)
    obtain⟨v38,hv38,h⟩:=rb_ h
    refine aV (f:=(ag false)) (fun a=>Tt.psize _ a) hv38 SC SC (S ?_)
    obtain⟨v41,hv41,h⟩:=rb_ h
    refine aV (f:=(ag false)) (fun a=>Tt.psize _ a) hv41 SC SC (S ?_)
    obtain⟨v44,hv44,h⟩:=rb_ h
    refine SlcH.mk (f:=(ag false)) hv44 SC (S ?_)
    obtain⟨v45,hv45,h⟩:=rb_ h
    refine aV (f:=(ag false)) (fun a=>Tt.psize _ a) hv45 SC SC (S ?_)
    refine aa (DHa_ [] [544,608,640,656,720]) (S ?_)
    cases rs_ h
    exact FinH.r SC
 ·refine S ?_
  refine aF cs (by omega) (fun cs=>S ?_)
  refine aa (DHa_ [] []) (S ?_)
  refine aa (DHa_ [] []) (S ?_)
  obtain⟨v37,hv37,h⟩:=rb_ h
  refine SlcH.mk (f:=(ag false)) hv37 SC (S ?_)
  obtain⟨v38,hv38,h⟩:=rb_ h
  refine aV (f:=(ag false)) (fun a=>Tt.psize _ a) hv38 SC SC (S ?_)
  obtain⟨v41,hv41,h⟩:=rb_ h
  refine aV (f:=(ag false)) (fun a=>Tt.psize _ a) hv41 SC SC (S ?_)
  obtain⟨v44,hv44,h⟩:=rb_ h
  refine SlcH.mk (f:=(ag false)) hv44 SC (S ?_)
  obtain⟨v45,hv45,h⟩:=rb_ h
  refine aV (f:=(ag false)) (fun a=>Tt.psize _ a) hv45 SC SC (S ?_)
  refine aa (DHa_ [] [544,608,640,656,720]) (S ?_)
  cases rs_ h
  exact FinH.r SC

theorem slP_4{a0:Sa}{a1:ByteArray}{a2:Tt}  {r:Sa}(h:slP_1 a0 a1 a2=some r):Sat ah 65 [((Sa.pv false) a0),(Sx a1),((ag false) a2)] ((Sa.pv false) r):=by
 obtain⟨h,cs⟩:=Ro_ h
 unfold slP_1 at h
 refine ap (nt:=51) (rs:=[.cell 6 76]) (n:=100000) Tryz.func65 rfl rfl rfl rfl (by simp) (S ?_)
 refine ak cs h (fun cs h=>S ?_) (fun cs h=>S ?_)
 ·cases rs_ h
  exact FinH.r SC
 ·refine Mkv_ (b:=false) (sz:=3) (es:=a0.Bindings.map (Bt.pv false)) (x:=(.pv ((Sa.pv false) a0))) 0 [0] SC fun hl0=>?_; rw[aB] at hl0
  replace h:=rl_ h
  refine aH h (fun i4 s4=>[(1,.val (.pv (Sx a1))),(3,.box (.pv ((Sa.pv false) a0))),(5,.box (.pv ((ag false) a2))),(6,.box (.node [(.pv (.sl true 3 []))])),(7,.val (.pv (I (i4:Int))))]) (fun i4 s4=>[]) (Slm_ SC) (fun i4 s4 hi h=>?_) (fun s4 h=>?_)
  ·have w:=ws_ (i:=i4) (by omega)
   refine S ?_
   refine aE cs (by omega) (fun cs=>S ?_)
   obtain⟨v23,hv23,h⟩:=rb_ h
   refine av (f:=(Bt.pv false)) hv23 SC (S ?_)
   refine ak cs h (fun cs h=>S ?_) (fun cs h=>S ?_)
   ·have h:=rs_ h
    refine aw ⟨_,h,?_⟩
    exact Slm_ SWx
   ·obtain⟨v35,hv35,h⟩:=rb_ h
    refine SlcH.mk (f:=(Bt.pv false)) hv35 SC (S ?_)
    obtain⟨v36,hv36,h⟩:=rb_ h
    refine aV (f:=(Bt.pv false)) (fun a=>Bt.psize _ a) hv36 SC SC (S ?_)
    obtain⟨v40,hv40,h⟩:=rb_ h
    refine al [false] (SvO_ (res':=((ag false) v40)) (slO_2 hv40) (by simp only[vt_,vs_,va_,vl_,PV.views,RB,RS])) SC (S ?_)
    obtain⟨v43,hv43,h⟩:=rb_ h
    refine aV (f:=(Bt.pv false)) (fun a=>Bt.psize _ a) hv43 SC SC (S ?_)
    obtain⟨v48,hv48,h⟩:=rb_ h
    refine SlcH.mk (f:=(Bt.pv false)) hv48 SC (S ?_)
    obtain⟨v49,hv49,h⟩:=rb_ h
    refine aV (f:=(Bt.pv false)) (fun a=>Bt.psize _ a) hv49 SC SC (S ?_)
    cases rs_ h
    exact FinH.r SC
  ·refine S ?_
   refine aF cs (by omega) (fun cs=>S ?_)
   obtain⟨v35,hv35,h⟩:=rb_ h
   refine SlcH.mk (f:=(Bt.pv false)) hv35 SC (S ?_)
   obtain⟨v36,hv36,h⟩:=rb_ h
   refine aV (f:=(Bt.pv false)) (fun a=>Bt.psize _ a) hv36 SC SC (S ?_)
   obtain⟨v40,hv40,h⟩:=rb_ h
   refine al [false] (SvO_ (res':=((ag false) v40)) (slO_2 hv40) (by simp only[vt_,vs_,va_,vl_,PV.views,RB,RS])) SC (S ?_)
   obtain⟨v43,hv43,h⟩:=rb_ h
   refine aV (f:=(Bt.pv false)) (fun a=>Bt.psize _ a) hv43 SC SC (S ?_)
   obtain⟨v48,hv48,h⟩:=rb_ h
   refine SlcH.mk (f:=(Bt.pv false)) hv48 SC (S ?_)
   obtain⟨v49,hv49,h⟩:=rb_ h
   refine aV (f:=(Bt.pv false)) (fun a=>Bt.psize _ a) hv49 SC SC (S ?_)
   cases rs_ h
   exact FinH.r SC

theorem slF_4{a0:Sa}{a1:ByteArray}  {r:Int}(h:slF_1 a0 a1=some r):Sat ah 93 [((Sa.pv false) a0),(Sx a1)] (I r):=by
 obtain⟨h,cs⟩:=Ro_ h
 unfold slF_1 at h
 refine ap (nt:=22) (rs:=[.tmp 4]) (n:=100000) Tryz.func93 rfl rfl rfl rfl (by simp) (S ?_)
 refine Mkv_ (b:=false) (sz:=3) (es:=a0.Bindings.map (Bt.pv false)) (x:=(.pv ((Sa.pv false) a0))) 0 [0] SC fun hl0=>?_; rw[aB] at hl0
 replace h:=rl_ h
 refine aH h (fun i2 s2=>[(1,.val (.pv (Sx a1))),(2,.box (.pv ((Sa.pv false) a0))),(5,.val (.pv (I (i2:Int))))]) (fun i2 s2=>[]) (Slm_ SC) (fun i2 s2 hi h=>?_) (fun s2 h=>?_)
 ·have w:=ws_ (i:=i2) (by omega)
  refine S ?_
  refine aE cs (by omega) (fun cs=>S ?_)
  obtain⟨v16,hv16,h⟩:=rb_ h
  refine av (f:=(Bt.pv false)) hv16 SC (S ?_)
  refine ak cs h (fun cs h=>S ?_) (fun cs h=>S ?_)
  ·cases rs_ h
   exact ai SC
  ·have h:=rs_ h
   refine aw ⟨_,h,?_⟩
   exact Slm_ SWx
 ·refine S ?_
  refine aF cs (by omega) (fun cs=>S ?_)
  cases rs_ h
  exact ai SC

theorem slA_2(n:Nat):(∀ (a0:Sa) (a1:Tt) (r:Tt),slA_ n a0 a1=some r→Sat ah 64 [((Sa.pv false) a0),((ag false) a1)] ((ag true) r)):=by
 induction n with
 | zero=>exact fun _ _ _ h=>by simp[slA_] at h
 | succ n ih=>
  refine fun a0 a1 r h=>?_
  obtain⟨h,cs⟩:=Ro_ h
  rw[slA_] at h
  refine ap (nt:=50) (rs:=[.cell 4 49]) (n:=100000) Tryz.func64 rfl rfl rfl rfl (by simp) (S ?_)
  obtain⟨v10,hv10,h⟩:=rb_ h
  refine al [false] (slV_2 hv10) SC (S ?_)
  refine ak cs h (fun cs h=>S ?_) (fun cs h=>S ?_)
  ·obtain⟨v14,hv14,h⟩:=rb_ h
   refine al [false,false] (slF_4 hv14) SC (S ?_)
   refine ak cs h (fun cs h=>S ?_) (fun cs h=>S ?_)
   ·obtain⟨v20,hv20,h⟩:=rb_ h
    refine av (f:=(Bt.pv false)) hv20 SC (S ?_)
    obtain⟨v23,hv23,h⟩:=rb_ h
    refine al [false] (slO_2 hv23) SC (S ?_)
    cases rs_ h
    exact ai SC
   ·cases rs_ h
    exact ai SC
  ·refine Mkv_ (b:=false) (sz:=2) (es:=a1.Args.map (ag false)) (x:=(.pv ((ag false) a1))) 1 [1] SC fun hl1=>?_; rw[aB] at hl1
   replace h:=rl_ h
   refine aH h (fun i8 s8=>[(2,.box (.pv ((Sa.pv false) a0))),(3,.box (.pv ((ag false) a1))),(4,.box (.node [(.pv (Sx ⟨#[]⟩)),(.pv (.sl true 2 []))])),(6,.box (.node [(.pv (Sx a1.Name)),(.own 9324)])),(7,.val (.pv (I (i8:Int))))]) (fun i8 s8=>[(9324,(2,s8.map (ag true)))]) (bc (Sln_ (x:=(.node [(.pv (Sx a1.Name)),(.pv (.sl true 2 []))])) 6 [1] 9324 2 NM SC SC SC) (Slm_ SC)) (fun i8 s8 hi h=>?_) (fun s8 h=>?_)
   ·have w:=ws_ (i:=i8) (by omega)
    refine S ?_
    refine aE cs (by omega) (fun cs=>S ?_)
    obtain⟨v43,hv43,h⟩:=rb_ h
    refine av (f:=(ag false)) hv43 SC (S ?_)
    obtain⟨v45,hv45,h⟩:=rb_ h
    refine al [false,false] (ih _ _ _ hv45) SC (S ?_)
    obtain⟨v47,hv47,h⟩:=rb_ h
    refine aV (f:=(ag true)) (fun a=>Tt.psize _ a) hv47 SC SC (S ?_)
    refine aa (DHa_ [] [720,736,752]) (S ?_)
    have h:=rs_ h
    refine aw ⟨_,h,?_⟩
    refine bc (Slm_1 (S:=[(2,.box (.pv ((Sa.pv false) a0))),(3,.box (.pv ((ag false) a1))),(4,.box (.node [(.pv (Sx ⟨#[]⟩)),(.pv (.sl true 2 []))])),(6,.box (.node [(.pv (Sx a1.Name)),(.own 752)])),(7,.val (.pv (I (IntKind.i64.wrap ((i8:Int)+1)))))]) (O:=[(752,(2,v47.map (ag true)))]) SWx SWx) ?_
    refine Slr_ 752 9324 (by decide) NM ?_
    exact Slm_ SWx
   ·refine S ?_
    refine aF cs (by omega) (fun cs=>S ?_)
    cases rs_ h
    exact ai SC
theorem slA_3{a0:Sa}{a1:Tt}{r:Tt}(h:slA_1 a0 a1=some r):Sat ah 64 [((Sa.pv false) a0),((ag false) a1)] ((ag true) r):=by
 obtain⟨n,hn⟩:=ls_ h
 exact(slA_2 n) _ _ _ hn

theorem slF_3{a0:Tt}{a1:Tt}  {r:Tt}(h:slF_ a0 a1=some r):Sat ah 41 [((ag false) a0),((ag false) a1)] ((ag true) r):=by
 obtain⟨h,cs⟩:=Ro_ h
 unfold slF_ at h
 refine ap (nt:=10) (rs:=[.cell 4 49]) (n:=100000) Tryz.func41 rfl rfl rfl rfl (by simp) (S ?_)
 obtain⟨v7,hv7,h⟩:=rb_ h
 refine al [false,false,false] (slP_4 hv7) SC (S ?_)
 obtain⟨v9,hv9,h⟩:=rb_ h
 refine al [false,false] (slA_3 hv9) SC (S ?_)
 refine aa (DHa_ [] [144]) (S ?_)
 cases rs_ h
 exact ai SC

theorem slL_1{a0:Dt}  {r:(List Tt)×Bool}(h:slL_ a0=some r):Sat ah 21 [((Dt.pv false) a0)] (.tup [(.sl false 2 (r.1.map (ag false))),(B r.2)]):=by
 obtain⟨h,cs⟩:=Ro_ h
 unfold slL_ at h
 refine ap (nt:=57) (rs:=[.tmp 2,.tmp 3]) (n:=100000) Tryz.func21 rfl rfl rfl rfl (by simp) (S ?_)
 refine Mkv_ (b:=false) (sz:=2) (es:=a0.Patterns.map (ag false)) (x:=(.pv ((Dt.pv false) a0))) 0 [0] SC fun hl0=>?_; rw[aB] at hl0
 replace h:=rl_ h
 refine aH h (fun i3 s3=>[(1,.box (.pv ((Dt.pv false) a0))),(4,.val (.pv (.sl false 2 (s3.map (ag false))))),(5,.val (.pv (I (i3:Int))))]) (fun i3 s3=>[]) (bc (Sld_ (x:=(.own 128)) (sz:=(2)) (es:=([]).map (ag false)) 4 [] 128 SC) (Slm_ SC)) (fun i3 s3 hi h=>?_) (fun s3 h=>?_)
 ·have w:=ws_ (i:=i3) (by omega)
  refine S ?_
  refine aE cs (by omega) (fun cs=>S ?_)
  obtain⟨v19,hv19,h⟩:=rb_ h
  refine av (f:=(ag false)) hv19 SC (S ?_)
  obtain⟨v21,hv21,h⟩:=rb_ h
  refine al [false] (slG_4 hv21) SC (S ?_)
  refine ak cs h (fun cs h=>S ?_) (fun cs h=>S ?_)
  ·obtain⟨v26,hv26,h⟩:=rb_ h
   refine av (f:=(ag false)) hv26 SC (S ?_)
   obtain⟨v28,hv28,h⟩:=rb_ h
   refine al [false] (slO_2 hv28) SC (S ?_)
   obtain⟨v29,hv29,h⟩:=rb_ h
   refine al [false,true] (Sat.give (args:=[(.sl false 2 (s3.map (ag false))),(.agg [(Sx v28.Name),(.sl true 2 (v28.Args.map (ag true)))])]) [false,true] (by have gg:=slP_2 hv29; simp only[gv_t,gv_f,gv_n,vs_,va_,vl_,vrB_,vrI_,PV.views,RB,RS] at gg ⊢; exact gg)) SC (S ?_)
   have h:=rs_ h
   refine aw ⟨_,h,?_⟩
   exact Slm_ SWx
  ·refine Mkb_ (b:=false) (sz:=2) (es:=a0.Instances.map (ag false)) (x:=(.pv ((Dt.pv false) a0))) 1 [1] SC fun hl1=>?_; rw[aB] at hl1
   replace h:=rl_ h
   refine aH h (fun i8 s8=>[(1,.box (.pv ((Dt.pv false) a0))),(4,.val (.pv (.sl false 2 (s8.map (ag false))))),(5,.val (.pv (I (i3:Int)))),(6,.val (.pv (I (i8:Int))))]) (fun i8 s8=>[]) (Slm_ SC) (fun i8 s8 hi h=>?_) (fun s8 h=>?_)
   ·have w:=ws_ (i:=i8) (by omega)
    refine S ?_
    refine aE cs (by omega) (fun cs=>S ?_)
    obtain⟨v40,hv40,h⟩:=rb_ h
    refine av (f:=(ag false)) hv40 SC (S ?_)
    obtain⟨v45,hv45,h⟩:=rb_ h
    refine av (f:=(ag false)) hv45 SC (S ?_)
    obtain⟨v47,hv47,h⟩:=rb_ h
    refine al [false,false] (slF_3 hv47) SC (S ?_)
    refine aa (DHa_ [7] [752]) (S ?_)
    obtain⟨v49,hv49,h⟩:=rb_ h
    refine al [false] (slG_3 hv49) SC (S ?_)
    refine ak cs h (fun cs h=>S ?_) (fun cs h=>S ?_)
    ·obtain⟨v54,hv54,h⟩:=rb_ h
     refine al [false] (slO_2 hv54) SC (S ?_)
     obtain⟨v55,hv55,h⟩:=rb_ h
     refine al [false,true] (Sat.give (args:=[(.sl false 2 (s8.map (ag false))),(.agg [(Sx v54.Name),(.sl true 2 (v54.Args.map (ag true)))])]) [false,true] (by have gg:=slP_2 hv55; simp only[gv_t,gv_f,gv_n,vs_,va_,vl_,vrB_,vrI_,PV.views,RB,RS] at gg ⊢; exact gg)) SC (S ?_)
     have h:=rs_ h
     refine aw ⟨_,h,?_⟩
     exact Slm_ SWx
    ·cases rs_ h
     exact FinH.r SC
   ·refine S ?_
    refine aF cs (by omega) (fun cs=>S ?_)
    have h:=rs_ h
    refine aw ⟨_,h,?_⟩
    exact Slm_ SWx
 ·refine S ?_
  refine aF cs (by omega) (fun cs=>S ?_)
  cases rs_ h
  exact FinH.r SC

theorem slS_9{a0:List Tt}{a1:List Tt}  {r:Bool}(h:slS_3 a0 a1=some r):Sat ah 23 [(.sl false 2 (a0.map (ag false))),(.sl false 2 (a1.map (ag false)))] (B r):=by
 obtain⟨h,cs⟩:=Ro_ h
 unfold slS_3 at h
 refine ap (nt:=27) (rs:=[.tmp 4]) (n:=100000) Tryz.func23 rfl rfl rfl rfl (by simp) (S ?_)
 refine ak cs h (fun cs h=>S ?_) (fun cs h=>S ?_)
 ·refine aM (b:=false) (sz:=2) (es:=a0.map (ag false)) 0 SC fun hl0=>?_; rw[aB] at hl0
  replace h:=rl_ h
  refine aH h (fun i4 s4=>[(0,.val (.pv (.sl false 2 (a0.map (ag false))))),(1,.val (.pv (.sl false 2 (a1.map (ag false))))),(5,.val (.pv (I (i4:Int))))]) (fun i4 s4=>[]) (Slm_ SC) (fun i4 s4 hi h=>?_) (fun s4 h=>?_)
  ·have w:=ws_ (i:=i4) (by omega)
   refine S ?_
   refine aE cs (by omega) (fun cs=>S ?_)
   obtain⟨v19,hv19,h⟩:=rb_ h
   refine av (f:=(ag false)) hv19 SC (S ?_)
   obtain⟨v23,hv23,h⟩:=rb_ h
   refine av (f:=(ag false)) hv23 SC (S ?_)
   obtain⟨v25,hv25,h⟩:=rb_ h
   refine al [false,false] (slS_6 hv25) SC (S ?_)
   refine aa (DHa_ [] []) (S ?_)
   refine ak cs h (fun cs h=>S ?_) (fun cs h=>S ?_)
   ·have h:=rs_ h
    refine aw ⟨_,h,?_⟩
    exact Slm_ SWx
   ·cases rs_ h
    exact ai SC
  ·refine S ?_
   refine aF cs (by omega) (fun cs=>S ?_)
   cases rs_ h
   exact ai SC
 ·cases rs_ h
  exact ai SC

theorem sDT_1{a0:Dt}{a1:List Tt}  {r:Bool×Bool}(h:sDT_ a0 a1=some r):Sat ah 7 [((Dt.pv false) a0),(.sl false 2 (a1.map (ag false)))] (.tup [(B r.1),(B r.2)]):=by
 obtain⟨h,cs⟩:=Ro_ h
 unfold sDT_ at h
 refine ap (nt:=41) (rs:=[.tmp 4,.tmp 5]) (n:=100000) Tryz.func7 rfl rfl rfl rfl (by simp) (S ?_)
 obtain⟨v11,hv11,h⟩:=rb_ h
 refine al [false] (slG_5 hv11) SC (S ?_)
 refine ak cs h (fun cs h=>S ?_) (fun cs h=>S ?_)
 ·obtain⟨v15,hv15,h⟩:=rb_ h
  refine al [false] (slT_2 hv15) SC (S ?_)
  refine ak cs h (fun cs h=>S ?_) (fun cs h=>S ?_)
  ·obtain⟨v20,hv20,h⟩:=rb_ h
   refine al [false] (slL_1 hv20) SC (S ?_)
   refine ak cs h (fun cs h=>S ?_) (fun cs h=>S ?_)
   ·refine aM (b:=false) (sz:=2) (es:=a1.map (ag false)) 1 SC fun hl1=>?_; rw[aB] at hl1
    replace h:=rl_ h
    refine aH h (fun i8 s8=>[(1,.val (.pv (.sl false 2 (a1.map (ag false))))),(6,.val (.pv (.sl false 2 (v20.1.map (ag false))))),(8,.val (.pv (.sl false 2 (s8.map (ag false))))),(9,.val (.pv (I (i8:Int))))]) (fun i8 s8=>[]) (bc (Sld_ (x:=(.own 400)) (sz:=(2)) (es:=([]).map (ag false)) 8 [] 400 SC) (Slm_ SC)) (fun i8 s8 hi h=>?_) (fun s8 h=>?_)
    ·have w:=ws_ (i:=i8) (by omega)
     refine S ?_
     refine aE cs (by omega) (fun cs=>S ?_)
     obtain⟨v35,hv35,h⟩:=rb_ h
     refine av (f:=(ag false)) hv35 SC (S ?_)
     obtain⟨v37,hv37,h⟩:=rb_ h
     refine al [false,false] (slP_2 hv37) SC (S ?_)
     have h:=rs_ h
     refine aw ⟨_,h,?_⟩
     exact Slm_ SWx
    ·refine S ?_
     refine aF cs (by omega) (fun cs=>S ?_)
     obtain⟨v40,hv40,h⟩:=rb_ h
     refine al [false,false] (slS_9 hv40) SC (S ?_)
     cases rs_ h
     exact ai SC
   ·cases rs_ h
    exact ai SC
  ·cases rs_ h
   exact ai SC
 ·cases rs_ h
  exact ai SC

theorem isN_1(n:Nat):(∀ (a0:Tt) (r:Int),isN_ n a0=some r→Sat ah 103 [((ag false) a0)] (I r)):=by
 induction n with
 | zero=>exact fun _ _ h=>by simp[isN_] at h
 | succ n ih=>
  refine fun a0 r h=>?_
  obtain⟨h,cs⟩:=Ro_ h
  rw[isN_] at h
  refine ap (nt:=22) (rs:=[.tmp 2]) (n:=100000) Tryz.func103 rfl rfl rfl rfl (by simp) (S ?_)
  refine aM (b:=false) (sz:=2) (es:=a0.Args.map (ag false)) 7 SC fun hl7=>?_; rw[aB] at hl7
  replace h:=rl_ h
  refine aH h (fun i3 s3=>[(3,.val (.pv (I s3))),(7,.val (.pv (.sl false 2 (a0.Args.map (ag false))))),(8,.val (.pv (I (a0.Args.length:Int)))),(9,.val (.pv (I (i3:Int))))]) (fun i3 s3=>[]) (Slm_ SC) (fun i3 s3 hi h=>?_) (fun s3 h=>?_)
  ·have w:=ws_ (i:=i3) (by omega)
   refine S ?_
   refine aE cs (by omega) (fun cs=>S ?_)
   obtain⟨v11,hv11,h⟩:=rb_ h
   refine av (f:=(ag false)) hv11 SC (S ?_)
   refine ak cs h (fun cs h=>S ?_) (fun cs h=>S ?_)
   ·cases rs_ h
    exact ai SC
   ·obtain⟨v18,hv18,h⟩:=rb_ h
    refine al [false] (ih _ _ hv18) SC (S ?_)
    have h:=rs_ h
    refine aw ⟨_,h,?_⟩
    exact Slm_ SWx
  ·refine S ?_
   refine aF cs (by omega) (fun cs=>S ?_)
   cases rs_ h
   exact ai SC
theorem iss_{a0:Tt}{r:Int}(h:is_ a0=some r):Sat ah 103 [((ag false) a0)] (I r):=by
 obtain⟨n,hn⟩:=ls_ h
 exact(isN_1 n) _ _ hn

theorem idN_1(n:Nat):(∀ (a0:Tt) (r:Int),idN_ n a0=some r→Sat ah 104 [((ag false) a0)] (I r)):=by
 induction n with
 | zero=>exact fun _ _ h=>by simp[idN_] at h
 | succ n ih=>
  refine fun a0 r h=>?_
  obtain⟨h,cs⟩:=Ro_ h
  rw[idN_] at h
  refine ap (nt:=20) (rs:=[.tmp 2]) (n:=100000) Tryz.func104 rfl rfl rfl rfl (by simp) (S ?_)
  refine aM (b:=false) (sz:=2) (es:=a0.Args.map (ag false)) 7 SC fun hl7=>?_; rw[aB] at hl7
  replace h:=rl_ h
  refine aH h (fun i3 s3=>[(3,.val (.pv (I s3))),(7,.val (.pv (.sl false 2 (a0.Args.map (ag false))))),(8,.val (.pv (I (a0.Args.length:Int)))),(9,.val (.pv (I (i3:Int))))]) (fun i3 s3=>[]) (Slm_ SC) (fun i3 s3 hi h=>?_) (fun s3 h=>?_)
  ·have w:=ws_ (i:=i3) (by omega)
   refine S ?_
   refine aE cs (by omega) (fun cs=>S ?_)
   obtain⟨v11,hv11,h⟩:=rb_ h
   refine av (f:=(ag false)) hv11 SC (S ?_)
   obtain⟨v15,hv15,h⟩:=rb_ h
   refine al [false] (ih _ _ hv15) SC (S ?_)
   have h:=rs_ h
   refine aw ⟨_,h,?_⟩
   exact Slm_ SWx
  ·refine S ?_
   refine aF cs (by omega) (fun cs=>S ?_)
   cases rs_ h
   exact ai SC
theorem ids_{a0:Tt}{r:Int}(h:id_ a0=some r):Sat ah 104 [((ag false) a0)] (I r):=by
 obtain⟨n,hn⟩:=ls_ h
 exact(idN_1 n) _ _ hn

theorem iiS_3{a0:Tt}  {r:Bool}(h:iiS_1 a0=some r):Sat ah 87 [((ag false) a0)] (B r):=by
 obtain⟨h,cs⟩:=Ro_ h
 unfold iiS_1 at h
 refine ap (nt:=11) (rs:=[.tmp 2]) (n:=100000) Tryz.func87 rfl rfl rfl rfl (by simp) (S ?_)
 obtain⟨v4,hv4,h⟩:=rb_ h
 refine al [false] (iss_ hv4) SC (S ?_)
 refine ak cs h (fun cs h=>S ?_) (fun cs h=>S ?_)
 ·obtain⟨v8,hv8,h⟩:=rb_ h
  refine al [false] (ids_ hv8) SC (S ?_)
  cases rs_ h
  exact ai SC
 ·cases rs_ h
  exact ai SC

theorem iiU_1{a0:Int}  {r:Bool}(h:iiU_ a0=some r):Sat ah 80 [((Ik .u8) a0)] (B r):=by
 obtain⟨h,cs⟩:=Ro_ h
 unfold iiU_ at h
 refine ap (nt:=9) (rs:=[.tmp 2]) (n:=100000) Tryz.func80 rfl rfl rfl rfl (by simp) (S ?_)
 refine ak cs h (fun cs h=>S ?_) (fun cs h=>S ?_)
 ·cases rs_ h
  exact ai SC
 ·cases rs_ h
  exact ai SC

theorem iiL_1{a0:Int}  {r:Bool}(h:iiL_ a0=some r):Sat ah 111 [((Ik .u8) a0)] (B r):=by
 obtain⟨h,cs⟩:=Ro_ h
 unfold iiL_ at h
 refine ap (nt:=9) (rs:=[.tmp 2]) (n:=100000) Tryz.func111 rfl rfl rfl rfl (by simp) (S ?_)
 refine ak cs h (fun cs h=>S ?_) (fun cs h=>S ?_)
 ·cases rs_ h
  exact ai SC
 ·cases rs_ h
  exact ai SC

theorem iiD_1{a0:Int}  {r:Bool}(h:iiD_ a0=some r):Sat ah 112 [((Ik .u8) a0)] (B r):=by
 obtain⟨h,cs⟩:=Ro_ h
 unfold iiD_ at h
 refine ap (nt:=9) (rs:=[.tmp 2]) (n:=100000) Tryz.func112 rfl rfl rfl rfl (by simp) (S ?_)
 refine ak cs h (fun cs h=>S ?_) (fun cs h=>S ?_)
 ·cases rs_ h
  exact ai SC
 ·cases rs_ h
  exact ai SC

theorem iws_{a0:Int}{a1:Int}{a2:Int}  {r:Bool}(h:iw_ a0 a1 a2=some r):Sat ah 113 [(I a0),(I a1),(I a2)] (B r):=by
 obtain⟨h,cs⟩:=Ro_ h
 unfold iw_ at h
 refine ap (nt:=15) (rs:=[.tmp 6]) (n:=100000) Tryz.func113 rfl rfl rfl rfl (by simp) (S ?_)
 refine ak cs h (fun cs h=>S ?_) (fun cs h=>S ?_)
 ·cases rs_ h
  exact ai SC
 ·cases rs_ h
  exact ai SC

theorem iiV_3{a0:ByteArray}  {r:Bool}(h:iiV_ a0=some r):Sat ah 105 [(Sx a0)] (B r):=by
 obtain⟨h,cs⟩:=Ro_ h
 unfold iiV_ at h
 refine ap (nt:=40) (rs:=[.tmp 2]) (n:=100000) Tryz.func105 rfl rfl rfl rfl (by simp) (S ?_)
 obtain⟨N2,hN2,h⟩:=rb_ h
 obtain⟨hN2a,hN2b⟩:=bs_ hN2
 replace h:=rl_ h
 refine aH h (fun i2 s2=>[(0,.val (.pv (Sx a0))),(5,.val (.pv (I (a0.size:Int)))),(6,.val (.pv (I (i2:Int))))]) (fun i2 s2=>[]) (Slm_ SC) (fun i2 s2 hi h=>?_) (fun s2 h=>?_)
 ·have w:=ws_ (i:=i2) (by omega)
  refine S ?_
  refine aE cs (by omega) (fun cs=>S ?_)
  refine ak cs h (fun cs h=>S ?_) (fun cs h=>S ?_)
  ·obtain⟨v14,hv14,h⟩:=rb_ h
   refine a6 hv14 (S ?_)
   obtain⟨v15,hv15,h⟩:=rb_ h
   refine al [false] (iiU_1 hv15) SC (S ?_)
   refine ak cs h (fun cs h=>S ?_) (fun cs h=>S ?_)
   ·refine ak cs h (fun cs h=>S ?_) (fun cs h=>S ?_)
    ·obtain⟨v24,hv24,h⟩:=rb_ h
     refine a6 hv24 (S ?_)
     obtain⟨v25,hv25,h⟩:=rb_ h
     refine al [false] (iiL_1 hv25) SC (S ?_)
     refine ak cs h (fun cs h=>S ?_) (fun cs h=>S ?_)
     ·have h:=rs_ h
      refine aw ⟨_,h,?_⟩
      exact Slm_ SWx
     ·obtain⟨v31,hv31,h⟩:=rb_ h
      refine a6 hv31 (S ?_)
      obtain⟨v32,hv32,h⟩:=rb_ h
      refine al [false] (iiD_1 hv32) SC (S ?_)
      refine ak cs h (fun cs h=>S ?_) (fun cs h=>S ?_)
      ·have h:=rs_ h
       refine aw ⟨_,h,?_⟩
       exact Slm_ SWx
      ·cases rs_ h
       exact ai SC
    ·have h:=rs_ h
     refine aw ⟨_,h,?_⟩
     exact Slm_ SWx
   ·cases rs_ h
    exact ai SC
  ·refine ak cs h (fun cs h=>S ?_) (fun cs h=>S ?_)
   ·obtain⟨v24,hv24,h⟩:=rb_ h
    refine a6 hv24 (S ?_)
    obtain⟨v25,hv25,h⟩:=rb_ h
    refine al [false] (iiL_1 hv25) SC (S ?_)
    refine ak cs h (fun cs h=>S ?_) (fun cs h=>S ?_)
    ·have h:=rs_ h
     refine aw ⟨_,h,?_⟩
     exact Slm_ SWx
    ·obtain⟨v31,hv31,h⟩:=rb_ h
     refine a6 hv31 (S ?_)
     obtain⟨v32,hv32,h⟩:=rb_ h
     refine al [false] (iiD_1 hv32) SC (S ?_)
     refine ak cs h (fun cs h=>S ?_) (fun cs h=>S ?_)
     ·have h:=rs_ h
      refine aw ⟨_,h,?_⟩
      exact Slm_ SWx
     ·cases rs_ h
      exact ai SC
   ·have h:=rs_ h
    refine aw ⟨_,h,?_⟩
    exact Slm_ SWx
 ·refine S ?_
  refine aF cs (by omega) (fun cs=>S ?_)
  obtain⟨v39,hv39,h⟩:=rb_ h
  refine al [false,false,false] (iws_ hv39) SC (S ?_)
  cases rs_ h
  exact ai SC

theorem irs_   {r:List ByteArray}(h:ir_  =some r):Sat ah 114 [] (.sl true 1 (r.map Sx)):=by
 obtain⟨h,cs⟩:=Ro_ h
 unfold ir_ at h
 refine ap (nt:=2) (rs:=[.tmp 0]) (n:=100000) Tryz.func114 rfl rfl rfl rfl (by simp) (S ?_)
 cases rs_ h
 exact ai SC

theorem sIS_1{a0:List ByteArray}{a1:ByteArray}  {r:Int}(h:sIS_ a0 a1=some r):Sat ah 109 [(.sl false 1 (a0.map Sx)),(Sx a1)] (I r):=by
 obtain⟨h,cs⟩:=Ro_ h
 unfold sIS_ at h
 refine ap (nt:=19) (rs:=[.tmp 4]) (n:=100000) Tryz.func109 rfl rfl rfl rfl (by simp) (S ?_)
 refine aM (b:=false) (sz:=1) (es:=a0.map Sx) 0 SC fun hl0=>?_; rw[aB] at hl0
 replace h:=rl_ h
 refine aH h (fun i2 s2=>[(0,.val (.pv (.sl false 1 (a0.map Sx)))),(1,.val (.pv (Sx a1))),(7,.val (.pv (I (a0.length:Int)))),(8,.val (.pv (I (i2:Int))))]) (fun i2 s2=>[]) (Slm_ SC) (fun i2 s2 hi h=>?_) (fun s2 h=>?_)
 ·have w:=ws_ (i:=i2) (by omega)
  refine S ?_
  refine aE cs (by omega) (fun cs=>S ?_)
  obtain⟨v14,hv14,h⟩:=rb_ h
  refine av (f:=Sx) hv14 SC (S ?_)
  refine ak cs h (fun cs h=>S ?_) (fun cs h=>S ?_)
  ·cases rs_ h
   exact ai SC
  ·have h:=rs_ h
   refine aw ⟨_,h,?_⟩
   exact Slm_ SWx
 ·refine S ?_
  refine aF cs (by omega) (fun cs=>S ?_)
  cases rs_ h
  exact ai SC

theorem sCS_1{a0:List ByteArray}{a1:ByteArray}  {r:Bool}(h:sCS_ a0 a1=some r):Sat ah 96 [(.sl false 1 (a0.map Sx)),(Sx a1)] (B r):=by
 obtain⟨h,cs⟩:=Ro_ h
 unfold sCS_ at h
 refine ap (nt:=9) (rs:=[.tmp 4]) (n:=100000) Tryz.func96 rfl rfl rfl rfl (by simp) (S ?_)
 obtain⟨v7,hv7,h⟩:=rb_ h
 refine al [false,false] (sIS_1 hv7) SC (S ?_)
 cases rs_ h
 exact ai SC

theorem iiS_2{a0:ByteArray}  {r:Bool}(h:iiS_ a0=some r):Sat ah 106 [(Sx a0)] (B r):=by
 obtain⟨h,cs⟩:=Ro_ h
 unfold iiS_ at h
 refine ap (nt:=48) (rs:=[.tmp 2]) (n:=100000) Tryz.func106 rfl rfl rfl rfl (by simp) (S ?_)
 obtain⟨N2,hN2,h⟩:=rb_ h
 obtain⟨hN2a,hN2b⟩:=bs_ hN2
 replace h:=rl_ h
 refine aH h (fun i2 s2=>[(0,.val (.pv (Sx a0))),(5,.val (.pv (I (a0.size:Int)))),(6,.val (.pv (I (i2:Int))))]) (fun i2 s2=>[]) (Slm_ SC) (fun i2 s2 hi h=>?_) (fun s2 h=>?_)
 ·have w:=ws_ (i:=i2) (by omega)
  refine S ?_
  refine aE cs (by omega) (fun cs=>S ?_)
  refine ak cs h (fun cs h=>S ?_) (fun cs h=>S ?_)
  ·obtain⟨v14,hv14,h⟩:=rb_ h
   refine a6 hv14 (S ?_)
   obtain⟨v15,hv15,h⟩:=rb_ h
   refine al [false] (iiL_1 hv15) SC (S ?_)
   refine ak cs h (fun cs h=>S ?_) (fun cs h=>S ?_)
   ·obtain⟨v21,hv21,h⟩:=rb_ h
    refine a6 hv21 (S ?_)
    obtain⟨v22,hv22,h⟩:=rb_ h
    refine al [false] (iiL_1 hv22) SC (S ?_)
    refine ak cs h (fun cs h=>S ?_) (fun cs h=>S ?_)
    ·have h:=rs_ h
     refine aw ⟨_,h,?_⟩
     exact Slm_ SWx
    ·obtain⟨v27,hv27,h⟩:=rb_ h
     refine a6 hv27 (S ?_)
     obtain⟨v28,hv28,h⟩:=rb_ h
     refine al [false] (iiD_1 hv28) SC (S ?_)
     refine ak cs h (fun cs h=>S ?_) (fun cs h=>S ?_)
     ·have h:=rs_ h
      refine aw ⟨_,h,?_⟩
      exact Slm_ SWx
     ·obtain⟨v34,hv34,h⟩:=rb_ h
      refine a6 hv34 (S ?_)
      refine ak cs h (fun cs h=>S ?_) (fun cs h=>S ?_)
      ·have h:=rs_ h
       refine aw ⟨_,h,?_⟩
       exact Slm_ SWx
      ·cases rs_ h
       exact ai SC
   ·cases rs_ h
    exact ai SC
  ·obtain⟨v21,hv21,h⟩:=rb_ h
   refine a6 hv21 (S ?_)
   obtain⟨v22,hv22,h⟩:=rb_ h
   refine al [false] (iiL_1 hv22) SC (S ?_)
   refine ak cs h (fun cs h=>S ?_) (fun cs h=>S ?_)
   ·have h:=rs_ h
    refine aw ⟨_,h,?_⟩
    exact Slm_ SWx
   ·obtain⟨v27,hv27,h⟩:=rb_ h
    refine a6 hv27 (S ?_)
    obtain⟨v28,hv28,h⟩:=rb_ h
    refine al [false] (iiD_1 hv28) SC (S ?_)
    refine ak cs h (fun cs h=>S ?_) (fun cs h=>S ?_)
    ·have h:=rs_ h
     refine aw ⟨_,h,?_⟩
     exact Slm_ SWx
    ·obtain⟨v34,hv34,h⟩:=rb_ h
     refine a6 hv34 (S ?_)
     refine ak cs h (fun cs h=>S ?_) (fun cs h=>S ?_)
     ·have h:=rs_ h
      refine aw ⟨_,h,?_⟩
      exact Slm_ SWx
     ·cases rs_ h
      exact ai SC
 ·refine S ?_
  refine aF cs (by omega) (fun cs=>S ?_)
  obtain⟨v41,hv41,h⟩:=rb_ h
  refine al [false,false,false] (iws_ hv41) SC (S ?_)
  refine ak cs h (fun cs h=>S ?_) (fun cs h=>S ?_)
  ·obtain⟨v43,hv43,h⟩:=rb_ h
   refine al [] (irs_ hv43) SC (S ?_)
   obtain⟨v45,hv45,h⟩:=rb_ h
   refine al [false,false] (sCS_1 hv45) SC (S ?_)
   cases rs_ h
   exact ai SC
  ·cases rs_ h
   exact ai SC

theorem sIF_2{a0:List Tt}{a1:Tt→Option Bool}{a1_id:FuncId}{a1_cs:List PV}(a1_ok:∀ y0 r,a1 y0=some r→Sat ah a1_id (((ag false) y0)::a1_cs) (B r))(a1_cz:CO_ a1_cs=True){r:Int}(h:sIF_ a0 a1=some r):Sat ah 44 [(.sl false 2 (a0.map (ag false))),.clo a1_id a1_cs] (I r):=by
 obtain⟨h,cs⟩:=Ro_ h
 unfold sIF_ at h
 have cs:=aa a1_cz cs
 refine ap (nt:=19) (rs:=[.tmp 4]) (n:=100000) Tryz.func44 rfl rfl rfl rfl (by simp) (S ?_)
 refine aM (b:=false) (sz:=2) (es:=a0.map (ag false)) 0 SC fun hl0=>?_; rw[aB] at hl0
 replace h:=rl_ h
 refine aH h (fun i2 s2=>[(0,.val (.pv (.sl false 2 (a0.map (ag false))))),(1,.val (.pv (.clo a1_id a1_cs))),(7,.val (.pv (I (a0.length:Int)))),(8,.val (.pv (I (i2:Int))))]) (fun i2 s2=>[]) (Slm_ SC) (fun i2 s2 hi h=>?_) (fun s2 h=>?_)
 ·have w:=ws_ (i:=i2) (by omega)
  refine S ?_
  refine aE cs (by omega) (fun cs=>S ?_)
  obtain⟨v14,hv14,h⟩:=rb_ h
  refine av (f:=(ag false)) hv14 SC (S ?_)
  obtain⟨v16,hv16,h⟩:=rb_ h
  refine al [false] (a1_ok _ _ hv16) SC (S ?_)
  refine ak cs h (fun cs h=>S ?_) (fun cs h=>S ?_)
  ·cases rs_ h
   exact ai SC
  ·have h:=rs_ h
   refine aw ⟨_,h,?_⟩
   exact Slm_ SWx
 ·refine S ?_
  refine aF cs (by omega) (fun cs=>S ?_)
  cases rs_ h
  exact ai SC

theorem sCF_2{a0:List Tt}{a1:Tt→Option Bool}{a1_id:FuncId}{a1_cs:List PV}(a1_ok:∀ y0 r,a1 y0=some r→Sat ah a1_id (((ag false) y0)::a1_cs) (B r))(a1_cz:CO_ a1_cs=True){r:Bool}(h:sCF_ a0 a1=some r):Sat ah 25 [(.sl false 2 (a0.map (ag false))),.clo a1_id a1_cs] (B r):=by
 obtain⟨h,cs⟩:=Ro_ h
 unfold sCF_ at h
 have cs:=aa a1_cz cs
 refine ap (nt:=9) (rs:=[.tmp 4]) (n:=100000) Tryz.func25 rfl rfl rfl rfl (by simp) (S ?_)
 obtain⟨v7,hv7,h⟩:=rb_ h
 refine al [false,false] (sIF_2 a1_ok a1_cz hv7) SC (S ?_)
 cases rs_ h
 exact ai SC

theorem ihN_2(n:Nat):(∀ (a0:Tt) (r:Bool),ihN_ n a0=some r→Sat ah 88 [((ag false) a0)] (B r))∧(∀ (a0:Tt) (r:Bool),ihN_1 n a0=some r→Sat ah 107 [((ag false) a0)] (B r)):=by
 induction n with
 | zero=>exact⟨fun _ _ h=>by simp[ihN_] at h,fun _ _ h=>by simp[ihN_1] at h⟩
 | succ n ih=>
  refine⟨fun a0 r h=>?_,fun a0 r h=>?_⟩
  ·obtain⟨h,cs⟩:=Ro_ h
   rw[ihN_] at h
   refine ap (nt:=25) (rs:=[.tmp 2]) (n:=100000) Tryz.func88 rfl rfl rfl rfl (by simp) (S ?_)
   obtain⟨v5,hv5,h⟩:=rb_ h
   refine al [false] (iiV_3 hv5) SC (S ?_)
   refine ak cs h (fun cs h=>S ?_) (fun cs h=>S ?_)
   ·cases rs_ h
    exact ai SC
   ·obtain⟨v12,hv12,h⟩:=rb_ h
    refine al [false] (iiS_2 hv12) SC (S ?_)
    refine ak cs h (fun cs h=>S ?_) (fun cs h=>S ?_)
    ·refine ak cs h (fun cs h=>S ?_) (fun cs h=>S ?_)
     ·obtain⟨v22,hv22,h⟩:=rb_ h
      refine al [false,false] (sCF_2 (fun _ _ hh=>ih.2 _ _ hh) (by simp only[COn_,COc_]) hv22) SC (S ?_)
      cases rs_ h
      exact ai SC
     ·cases rs_ h
      exact ai SC
    ·cases rs_ h
     exact ai SC
  ·obtain⟨h,cs⟩:=Ro_ h
   rw[ihN_1] at h
   refine ap (nt:=6) (rs:=[.tmp 2]) (n:=100000) Tryz.func107 rfl rfl rfl rfl (by simp) (S ?_)
   obtain⟨v4,hv4,h⟩:=rb_ h
   refine al [false] (ih.1 _ _ hv4) SC (S ?_)
   cases rs_ h
   exact ai SC
theorem ihN_4{a0:Tt}{r:Bool}(h:ihN_3 a0=some r):Sat ah 88 [((ag false) a0)] (B r):=by
 obtain⟨n,hn⟩:=ls_ h
 exact(ihN_2 n).1 _ _ hn
theorem ihN_7{a0:Tt}{r:Bool}(h:ihN_6 a0=some r):Sat ah 107 [((ag false) a0)] (B r):=by
 obtain⟨n,hn⟩:=ls_ h
 exact(ihN_2 n).2 _ _ hn

theorem iIV_3{a0:Tt}  {r:Bool}(h:iIV_2 a0=some r):Sat ah 60 [((ag false) a0)] (B r):=by
 obtain⟨h,cs⟩:=Ro_ h
 unfold iIV_2 at h
 refine ap (nt:=9) (rs:=[.tmp 2]) (n:=100000) Tryz.func60 rfl rfl rfl rfl (by simp) (S ?_)
 obtain⟨v4,hv4,h⟩:=rb_ h
 refine al [false] (iiS_3 hv4) SC (S ?_)
 refine ak cs h (fun cs h=>S ?_) (fun cs h=>S ?_)
 ·obtain⟨v7,hv7,h⟩:=rb_ h
  refine al [false] (ihN_4 hv7) SC (S ?_)
  cases rs_ h
  exact ai SC
 ·cases rs_ h
  exact ai SC

theorem iiV_2{a0:Tt}  {r:Bool}(h:iiV_1 a0=some r):Sat ah 50 [((ag false) a0)] (B r):=by
 obtain⟨h,cs⟩:=Ro_ h
 unfold iiV_1 at h
 refine ap (nt:=7) (rs:=[.tmp 2]) (n:=100000) Tryz.func50 rfl rfl rfl rfl (by simp) (S ?_)
 obtain⟨v5,hv5,h⟩:=rb_ h
 refine a6 hv5 (S ?_)
 obtain⟨v6,hv6,h⟩:=rb_ h
 refine al [false] (iiU_1 hv6) SC (S ?_)
 cases rs_ h
 exact ai SC

theorem icN_5(n:Nat):(∀ (a0:List ByteArray) (a1:Tt) (r:List ByteArray),icN_1 n a0 a1=some r→Sat ah 68 [(.sl true 1 (a0.map Sx)),((ag false) a1)] (.sl true 1 (r.map Sx))):=by
 induction n with
 | zero=>exact fun _ _ _ h=>by simp[icN_1] at h
 | succ n ih=>
  refine fun a0 a1 r h=>?_
  obtain⟨h,cs⟩:=Ro_ h
  rw[icN_1] at h
  refine ap (nt:=38) (rs:=[.tmp 4]) (n:=100000) Tryz.func68 rfl rfl rfl rfl (by simp) (S ?_)
  refine ak cs h (fun cs h=>S ?_) (fun cs h=>S ?_)
  ·obtain⟨v13,hv13,h⟩:=rb_ h
   refine al [false] (iiV_2 hv13) SC (S ?_)
   refine ak cs h (fun cs h=>S ?_) (fun cs h=>S ?_)
   ·obtain⟨v18,hv18,h⟩:=rb_ h
    refine al [false,false] (sCS_1 hv18) SC (S ?_)
    refine ak cs h (fun cs h=>S ?_) (fun cs h=>S ?_)
    ·cases rs_ h
     exact ai SC
    ·obtain⟨v24,hv24,h⟩:=rb_ h
     refine aV (f:=Sx) (fun _=>rfl) hv24 SC SC (S ?_)
     cases rs_ h
     exact ai SC
   ·refine aM (b:=false) (sz:=2) (es:=a1.Args.map (ag false)) 8 SC fun hl8=>?_; rw[aB] at hl8
    replace h:=rl_ h
    refine aH h (fun i6 s6=>[(0,.val (.own 9000)),(27,.val (.pv (.sl false 2 (a1.Args.map (ag false))))),(28,.val (.pv (I (a1.Args.length:Int)))),(29,.val (.pv (I (i6:Int))))]) (fun i6 s6=>[(9000,(1,s6.map Sx))]) (Slm_ SC) (fun i6 s6 hi h=>?_) (fun s6 h=>?_)
    ·have w:=ws_ (i:=i6) (by omega)
     refine S ?_
     refine aE cs (by omega) (fun cs=>S ?_)
     obtain⟨v31,hv31,h⟩:=rb_ h
     refine av (f:=(ag false)) hv31 SC (S ?_)
     obtain⟨v35,hv35,h⟩:=rb_ h
     refine al [true,false] (ih _ _ _ hv35) SC (S ?_)
     have h:=rs_ h
     refine aw ⟨_,h,?_⟩
     refine bc (Slm_1 (S:=[(0,.val (.own 560)),(27,.val (.pv (.sl false 2 (a1.Args.map (ag false))))),(28,.val (.pv (I (a1.Args.length:Int)))),(29,.val (.pv (I (IntKind.i64.wrap ((i6:Int)+1)))))]) (O:=[(560,(1,v35.map Sx))]) SWx SWx) ?_
     refine Slr_ 560 9000 (by decide) NM ?_
     exact Slm_ SWx
    ·refine S ?_
     refine aF cs (by omega) (fun cs=>S ?_)
     cases rs_ h
     exact ai SC
  ·refine aM (b:=false) (sz:=2) (es:=a1.Args.map (ag false)) 8 SC fun hl8=>?_; rw[aB] at hl8
   replace h:=rl_ h
   refine aH h (fun i6 s6=>[(0,.val (.own 9000)),(27,.val (.pv (.sl false 2 (a1.Args.map (ag false))))),(28,.val (.pv (I (a1.Args.length:Int)))),(29,.val (.pv (I (i6:Int))))]) (fun i6 s6=>[(9000,(1,s6.map Sx))]) (Slm_ SC) (fun i6 s6 hi h=>?_) (fun s6 h=>?_)
   ·have w:=ws_ (i:=i6) (by omega)
    refine S ?_
    refine aE cs (by omega) (fun cs=>S ?_)
    obtain⟨v31,hv31,h⟩:=rb_ h
    refine av (f:=(ag false)) hv31 SC (S ?_)
    obtain⟨v35,hv35,h⟩:=rb_ h
    refine al [true,false] (ih _ _ _ hv35) SC (S ?_)
    have h:=rs_ h
    refine aw ⟨_,h,?_⟩
    refine bc (Slm_1 (S:=[(0,.val (.own 560)),(27,.val (.pv (.sl false 2 (a1.Args.map (ag false))))),(28,.val (.pv (I (a1.Args.length:Int)))),(29,.val (.pv (I (IntKind.i64.wrap ((i6:Int)+1)))))]) (O:=[(560,(1,v35.map Sx))]) SWx SWx) ?_
    refine Slr_ 560 9000 (by decide) NM ?_
    exact Slm_ SWx
   ·refine S ?_
    refine aF cs (by omega) (fun cs=>S ?_)
    cases rs_ h
    exact ai SC
theorem ics_{a0:List ByteArray}{a1:Tt}{r:List ByteArray}(h:ic_ a0 a1=some r):Sat ah 68 [(.sl true 1 (a0.map Sx)),((ag false) a1)] (.sl true 1 (r.map Sx)):=by
 obtain⟨n,hn⟩:=ls_ h
 exact(icN_5 n) _ _ _ hn

theorem iiG_1{a0:Tt}  {r:Bool}(h:iiG_ a0=some r):Sat ah 45 [((ag false) a0)] (B r):=by
 obtain⟨h,cs⟩:=Ro_ h
 unfold iiG_ at h
 refine ap (nt:=11) (rs:=[.tmp 2]) (n:=100000) Tryz.func45 rfl rfl rfl rfl (by simp) (S ?_)
 obtain⟨v4,hv4,h⟩:=rb_ h
 refine al [false] (iIV_3 hv4) SC (S ?_)
 refine ak cs h (fun cs h=>S ?_) (fun cs h=>S ?_)
 ·obtain⟨v7,hv7,h⟩:=rb_ h
  refine al [true,false] (ics_ hv7) SC (S ?_)
  cases rs_ h
  exact ai SC
 ·cases rs_ h
  exact ai SC

theorem inG_1{a0:Tt}  {r:Bool}(h:inG_ a0=some r):Sat ah 26 [((ag false) a0)] (B r):=by
 obtain⟨h,cs⟩:=Ro_ h
 unfold inG_ at h
 refine ap (nt:=6) (rs:=[.tmp 2]) (n:=100000) Tryz.func26 rfl rfl rfl rfl (by simp) (S ?_)
 obtain⟨v4,hv4,h⟩:=rb_ h
 refine al [false] (iiG_1 hv4) SC (S ?_)
 cases rs_ h
 exact ai SC

theorem iiP_2{a0:ByteArray}  {r:Bool}(h:iiP_1 a0=some r):Sat ah 84 [(Sx a0)] (B r):=by
 obtain⟨h,cs⟩:=Ro_ h
 unfold iiP_1 at h
 refine ap (nt:=5) (rs:=[.tmp 2]) (n:=100000) Tryz.func84 rfl rfl rfl rfl (by simp) (S ?_)
 cases rs_ h
 exact ai SC

theorem sIF_3{a0:List ByteArray}{a1:ByteArray→Option Bool}{a1_id:FuncId}{a1_cs:List PV}(a1_ok:∀ y0 r,a1 y0=some r→Sat ah a1_id ((Sx y0)::a1_cs) (B r))(a1_cz:CO_ a1_cs=True){r:Int}(h:sIF_1 a0 a1=some r):Sat ah 102 [(.sl false 1 (a0.map Sx)),.clo a1_id a1_cs] (I r):=by
 obtain⟨h,cs⟩:=Ro_ h
 unfold sIF_1 at h
 have cs:=aa a1_cz cs
 refine ap (nt:=19) (rs:=[.tmp 4]) (n:=100000) Tryz.func102 rfl rfl rfl rfl (by simp) (S ?_)
 refine aM (b:=false) (sz:=1) (es:=a0.map Sx) 0 SC fun hl0=>?_; rw[aB] at hl0
 replace h:=rl_ h
 refine aH h (fun i2 s2=>[(0,.val (.pv (.sl false 1 (a0.map Sx)))),(1,.val (.pv (.clo a1_id a1_cs))),(7,.val (.pv (I (a0.length:Int)))),(8,.val (.pv (I (i2:Int))))]) (fun i2 s2=>[]) (Slm_ SC) (fun i2 s2 hi h=>?_) (fun s2 h=>?_)
 ·have w:=ws_ (i:=i2) (by omega)
  refine S ?_
  refine aE cs (by omega) (fun cs=>S ?_)
  obtain⟨v14,hv14,h⟩:=rb_ h
  refine av (f:=Sx) hv14 SC (S ?_)
  obtain⟨v16,hv16,h⟩:=rb_ h
  refine al [false] (a1_ok _ _ hv16) SC (S ?_)
  refine ak cs h (fun cs h=>S ?_) (fun cs h=>S ?_)
  ·cases rs_ h
   exact ai SC
  ·have h:=rs_ h
   refine aw ⟨_,h,?_⟩
   exact Slm_ SWx
 ·refine S ?_
  refine aF cs (by omega) (fun cs=>S ?_)
  cases rs_ h
  exact ai SC

theorem sCF_5{a0:List ByteArray}{a1:ByteArray→Option Bool}{a1_id:FuncId}{a1_cs:List PV}(a1_ok:∀ y0 r,a1 y0=some r→Sat ah a1_id ((Sx y0)::a1_cs) (B r))(a1_cz:CO_ a1_cs=True){r:Bool}(h:sCF_4 a0 a1=some r):Sat ah 83 [(.sl false 1 (a0.map Sx)),.clo a1_id a1_cs] (B r):=by
 obtain⟨h,cs⟩:=Ro_ h
 unfold sCF_4 at h
 have cs:=aa a1_cz cs
 refine ap (nt:=9) (rs:=[.tmp 4]) (n:=100000) Tryz.func83 rfl rfl rfl rfl (by simp) (S ?_)
 obtain⟨v7,hv7,h⟩:=rb_ h
 refine al [false,false] (sIF_3 a1_ok a1_cz hv7) SC (S ?_)
 cases rs_ h
 exact ai SC

theorem iiP_3{a0:Tt}  {r:Bool}(h:iiP_ a0=some r):Sat ah 56 [((ag false) a0)] (B r):=by
 obtain⟨h,cs⟩:=Ro_ h
 unfold iiP_ at h
 refine ap (nt:=11) (rs:=[.tmp 2]) (n:=100000) Tryz.func56 rfl rfl rfl rfl (by simp) (S ?_)
 obtain⟨v4,hv4,h⟩:=rb_ h
 refine al [false] (iIV_3 hv4) SC (S ?_)
 refine ak cs h (fun cs h=>S ?_) (fun cs h=>S ?_)
 ·obtain⟨v7,hv7,h⟩:=rb_ h
  refine al [true,false] (ics_ hv7) SC (S ?_)
  obtain⟨v8,hv8,h⟩:=rb_ h
  refine al [false,false] (sCF_5 (fun _ _ hh=>iiP_2 hh) (by simp only[COn_,COc_]) hv8) SC (S ?_)
  cases rs_ h
  exact ai SC
 ·cases rs_ h
  exact ai SC

theorem iIV_4{a0:Tt}  {r:Bool}(h:iIV_ a0=some r):Sat ah 55 [((ag false) a0)] (B r):=by
 obtain⟨h,cs⟩:=Ro_ h
 unfold iIV_ at h
 refine ap (nt:=6) (rs:=[.tmp 2]) (n:=100000) Tryz.func55 rfl rfl rfl rfl (by simp) (S ?_)
 obtain⟨v4,hv4,h⟩:=rb_ h
 refine al [false] (iiP_3 hv4) SC (S ?_)
 cases rs_ h
 exact ai SC

theorem ciN_2{a0:ByteArray}  {r:Bool}(h:ciN_ a0=some r):Sat ah 81 [(Sx a0)] (B r):=by
 obtain⟨h,cs⟩:=Ro_ h
 unfold ciN_ at h
 refine ap (nt:=6) (rs:=[.tmp 2]) (n:=100000) Tryz.func81 rfl rfl rfl rfl (by simp) (S ?_)
 cases rs_ h
 exact ai SC

theorem cCs_1{a0:ByteArray}{a1:ByteArray}  {r:Int}(h:cCs_ a0 a1=some r):Sat ah 52 [(Sx a0),(Sx a1)] (I r):=by
 obtain⟨h,cs⟩:=Ro_ h
 unfold cCs_ at h
 refine ap (nt:=20) (rs:=[.tmp 4]) (n:=100000) Tryz.func52 rfl rfl rfl rfl (by simp) (S ?_)
 obtain⟨v8,hv8,h⟩:=rb_ h
 refine al [false] (ciN_2 hv8) SC (S ?_)
 obtain⟨v10,hv10,h⟩:=rb_ h
 refine al [false] (ciN_2 hv10) SC (S ?_)
 refine ak cs h (fun cs h=>S ?_) (fun cs h=>S ?_)
 ·refine ak cs h (fun cs h=>S ?_) (fun cs h=>S ?_)
  ·cases rs_ h
   exact ai SC
  ·cases rs_ h
   exact ai SC
 ·refine ak cs h (fun cs h=>S ?_) (fun cs h=>S ?_)
  ·cases rs_ h
   exact ai SC
  ·refine ak cs h (fun cs h=>S ?_) (fun cs h=>S ?_)
   ·cases rs_ h
    exact ai SC
   ·refine ak cs h (fun cs h=>S ?_) (fun cs h=>S ?_)
    ·cases rs_ h
     exact ai SC
    ·cases rs_ h
     exact ai SC

theorem ciN_3{a0:Int}  {r:Bool}(h:ciN_1 a0=some r):Sat ah 82 [(I a0)] (B r):=by
 obtain⟨h,cs⟩:=Ro_ h
 unfold ciN_1 at h
 refine ap (nt:=6) (rs:=[.tmp 2]) (n:=100000) Tryz.func82 rfl rfl rfl rfl (by simp) (S ?_)
 cases rs_ h
 exact ai SC

theorem cCi_1{a0:Int}{a1:Int}  {r:Int}(h:cCi_ a0 a1=some r):Sat ah 53 [(I a0),(I a1)] (I r):=by
 obtain⟨h,cs⟩:=Ro_ h
 unfold cCi_ at h
 refine ap (nt:=20) (rs:=[.tmp 4]) (n:=100000) Tryz.func53 rfl rfl rfl rfl (by simp) (S ?_)
 obtain⟨v8,hv8,h⟩:=rb_ h
 refine al [false] (ciN_3 hv8) SC (S ?_)
 obtain⟨v10,hv10,h⟩:=rb_ h
 refine al [false] (ciN_3 hv10) SC (S ?_)
 refine ak cs h (fun cs h=>S ?_) (fun cs h=>S ?_)
 ·refine ak cs h (fun cs h=>S ?_) (fun cs h=>S ?_)
  ·cases rs_ h
   exact ai SC
  ·cases rs_ h
   exact ai SC
 ·refine ak cs h (fun cs h=>S ?_) (fun cs h=>S ?_)
  ·cases rs_ h
   exact ai SC
  ·refine ak cs h (fun cs h=>S ?_) (fun cs h=>S ?_)
   ·cases rs_ h
    exact ai SC
   ·refine ak cs h (fun cs h=>S ?_) (fun cs h=>S ?_)
    ·cases rs_ h
     exact ai SC
    ·cases rs_ h
     exact ai SC

theorem cOi_1{a0:List Int}  {r:Int}(h:cOi_ a0=some r):Sat ah 51 [(.sl false 1 (a0.map I))] (I r):=by
 obtain⟨h,cs⟩:=Ro_ h
 unfold cOi_ at h
 refine ap (nt:=18) (rs:=[.tmp 2]) (n:=100000) Tryz.func51 rfl rfl rfl rfl (by simp) (S ?_)
 refine aM (b:=false) (sz:=1) (es:=a0.map I) 0 SC fun hl0=>?_; rw[aB] at hl0
 replace h:=rl_ h
 refine aH h (fun i3 s3=>[(3,.val (.pv (I 0))),(6,.val (.pv (.sl false 1 (a0.map I)))),(7,.val (.pv (I (a0.length:Int)))),(8,.val (.pv (I (i3:Int))))]) (fun i3 s3=>[]) (Slm_ SC) (fun i3 s3 hi h=>?_) (fun s3 h=>?_)
 ·have w:=ws_ (i:=i3) (by omega)
  refine S ?_
  refine aE cs (by omega) (fun cs=>S ?_)
  obtain⟨v10,hv10,h⟩:=rb_ h
  refine av (f:=I) hv10 SC (S ?_)
  refine ak cs h (fun cs h=>S ?_) (fun cs h=>S ?_)
  ·have h:=rs_ h
   refine aw ⟨_,h,?_⟩
   exact Slm_ SWx
  ·cases rs_ h
   exact ai SC
 ·refine S ?_
  refine aF cs (by omega) (fun cs=>S ?_)
  cases rs_ h
  exact ai SC

theorem sCF_3{a0:List Tt}{a1:List Tt}{a2:Tt→Tt→Option Int}{a2_id:FuncId}{a2_cs:List PV}(a2_ok:∀ y0 y1 r,a2 y0 y1=some r→Sat ah a2_id (((ag false) y0)::((ag false) y1)::a2_cs) (I r))(a2_cz:CO_ a2_cs=True){r:Int}(h:sCF_1 a0 a1 a2=some r):Sat ah 54 [(.sl false 2 (a0.map (ag false))),(.sl false 2 (a1.map (ag false))),.clo a2_id a2_cs] (I r):=by
 obtain⟨h,cs⟩:=Ro_ h
 unfold sCF_1 at h
 have cs:=aa a2_cz cs
 refine ap (nt:=39) (rs:=[.tmp 6]) (n:=100000) Tryz.func54 rfl rfl rfl rfl (by simp) (S ?_)
 refine aM (b:=false) (sz:=2) (es:=a0.map (ag false)) 0 SC fun hl0=>?_; rw[aB] at hl0
 replace h:=rl_ h
 refine aH h (fun i2 s2=>[(0,.val (.pv (.sl false 2 (a0.map (ag false))))),(1,.val (.pv (.sl false 2 (a1.map (ag false))))),(2,.val (.pv (.clo a2_id a2_cs))),(11,.val (.pv (.sl false 2 (a0.map (ag false))))),(12,.val (.pv (I (a0.length:Int)))),(13,.val (.pv (I (i2:Int))))]) (fun i2 s2=>[]) (Slm_ SC) (fun i2 s2 hi h=>?_) (fun s2 h=>?_)
 ·have w:=ws_ (i:=i2) (by omega)
  refine S ?_
  refine aE cs (by omega) (fun cs=>S ?_)
  obtain⟨v16,hv16,h⟩:=rb_ h
  refine av (f:=(ag false)) hv16 SC (S ?_)
  refine ak cs h (fun cs h=>S ?_) (fun cs h=>S ?_)
  ·cases rs_ h
   exact ai SC
  ·obtain⟨v24,hv24,h⟩:=rb_ h
   refine av (f:=(ag false)) hv24 SC (S ?_)
   obtain⟨v29,hv29,h⟩:=rb_ h
   refine al [false,false] (a2_ok _ _ _ hv29) SC (S ?_)
   refine ak cs h (fun cs h=>S ?_) (fun cs h=>S ?_)
   ·have h:=rs_ h
    refine aw ⟨_,h,?_⟩
    exact Slm_ SWx
   ·cases rs_ h
    exact ai SC
 ·refine S ?_
  refine aF cs (by omega) (fun cs=>S ?_)
  refine ak cs h (fun cs h=>S ?_) (fun cs h=>S ?_)
  ·cases rs_ h
   exact ai SC
  ·cases rs_ h
   exact ai SC

theorem icT_8(n:Nat):(∀ (a0:Tt) (a1:Tt) (r:Int),icT_ n a0 a1=some r→Sat ah 29 [((ag false) a0),((ag false) a1)] (I r)):=by
 induction n with
 | zero=>exact fun _ _ _ h=>by simp[icT_] at h
 | succ n ih=>
  refine fun a0 a1 r h=>?_
  obtain⟨h,cs⟩:=Ro_ h
  rw[icT_] at h
  refine ap (nt:=46) (rs:=[.tmp 4]) (n:=100000) Tryz.func29 rfl rfl rfl rfl (by simp) (S ?_)
  obtain⟨v9,hv9,h⟩:=rb_ h
  refine al [false] (iiV_2 hv9) SC (S ?_)
  obtain⟨v11,hv11,h⟩:=rb_ h
  refine al [false] (iiV_2 hv11) SC (S ?_)
  refine aa (DHa_ [] []) (S ?_)
  refine ak cs h (fun cs h=>S ?_) (fun cs h=>S ?_)
  ·refine ak cs h (fun cs h=>S ?_) (fun cs h=>S ?_)
   ·obtain⟨v28,hv28,h⟩:=rb_ h
    refine al [false,false] (cCs_1 hv28) SC (S ?_)
    obtain⟨v35,hv35,h⟩:=rb_ h
    refine al [false,false] (cCi_1 hv35) SC (S ?_)
    obtain⟨v37,hv37,h⟩:=rb_ h
    refine al [false] (cOi_1 hv37) SC (S ?_)
    refine aa (DHa_ [] [576]) (S ?_)
    refine ak cs h (fun cs h=>S ?_) (fun cs h=>S ?_)
    ·obtain⟨v45,hv45,h⟩:=rb_ h
     refine al [false,false,false] (sCF_3 (fun _ _ _ hh=>ih _ _ _ hh) (by simp only[COn_,COc_]) hv45) SC (S ?_)
     cases rs_ h
     exact ai SC
    ·cases rs_ h
     exact ai SC
   ·cases rs_ h
    exact ai SC
  ·refine ak cs h (fun cs h=>S ?_) (fun cs h=>S ?_)
   ·cases rs_ h
    exact ai SC
   ·obtain⟨v28,hv28,h⟩:=rb_ h
    refine al [false,false] (cCs_1 hv28) SC (S ?_)
    obtain⟨v35,hv35,h⟩:=rb_ h
    refine al [false,false] (cCi_1 hv35) SC (S ?_)
    obtain⟨v37,hv37,h⟩:=rb_ h
    refine al [false] (cOi_1 hv37) SC (S ?_)
    refine aa (DHa_ [] [576]) (S ?_)
    refine ak cs h (fun cs h=>S ?_) (fun cs h=>S ?_)
    ·obtain⟨v45,hv45,h⟩:=rb_ h
     refine al [false,false,false] (sCF_3 (fun _ _ _ hh=>ih _ _ _ hh) (by simp only[COn_,COc_]) hv45) SC (S ?_)
     cases rs_ h
     exact ai SC
    ·cases rs_ h
     exact ai SC
theorem icT_4{a0:Tt}{a1:Tt}{r:Int}(h:icT_2 a0 a1=some r):Sat ah 29 [((ag false) a0),((ag false) a1)] (I r):=by
 obtain⟨n,hn⟩:=ls_ h
 exact(icT_8 n) _ _ _ hn

theorem iaA_3{a0:List Tt}  {r:Bool}(h:iaA_ a0=some r):Sat ah 57 [(.sl false 2 (a0.map (ag false)))] (B r):=by
 obtain⟨h,cs⟩:=Ro_ h
 unfold iaA_ at h
 refine ap (nt:=28) (rs:=[.tmp 2]) (n:=100000) Tryz.func57 rfl rfl rfl rfl (by simp) (S ?_)
 refine aM (b:=false) (sz:=2) (es:=a0.map (ag false)) 0 SC fun hl0=>?_; rw[aB] at hl0
 replace h:=rl_ h
 refine aH h (fun i2 s2=>[(0,.val (.pv (.sl false 2 (a0.map (ag false))))),(5,.val (.pv (I (a0.length:Int)))),(6,.val (.pv (I (i2:Int))))]) (fun i2 s2=>[]) (Slm_ SC) (fun i2 s2 hi h=>?_) (fun s2 h=>?_)
 ·have w:=ws_ (i:=i2) (by omega)
  refine S ?_
  refine aE cs (by omega) (fun cs=>S ?_)
  refine ak cs h (fun cs h=>S ?_) (fun cs h=>S ?_)
  ·obtain⟨v15,hv15,h⟩:=rb_ h
   refine av (f:=(ag false)) hv15 SC (S ?_)
   obtain⟨v19,hv19,h⟩:=rb_ h
   refine av (f:=(ag false)) hv19 SC (S ?_)
   obtain⟨v21,hv21,h⟩:=rb_ h
   refine al [false,false] (icT_4 hv21) SC (S ?_)
   refine aa (DHa_ [] []) (S ?_)
   refine ak cs h (fun cs h=>S ?_) (fun cs h=>S ?_)
   ·cases rs_ h
    exact ai SC
   ·have h:=rs_ h
    refine aw ⟨_,h,?_⟩
    exact Slm_ SWx
  ·refine aa (DHa_ [] []) (S ?_)
   have h:=rs_ h
   refine aw ⟨_,h,?_⟩
   exact Slm_ SWx
 ·refine S ?_
  refine aF cs (by omega) (fun cs=>S ?_)
  cases rs_ h
  exact ai SC

theorem iIV_5{a0:Dt}  {r:Bool}(h:iIV_1 a0=some r):Sat ah 33 [((Dt.pv false) a0)] (B r):=by
 obtain⟨h,cs⟩:=Ro_ h
 unfold iIV_1 at h
 refine ap (nt:=31) (rs:=[.tmp 2]) (n:=100000) Tryz.func33 rfl rfl rfl rfl (by simp) (S ?_)
 obtain⟨v5,hv5,h⟩:=rb_ h
 refine al [false,false] (sCF_2 (fun _ _ hh=>inG_1 hh) (by simp only[COn_,COc_]) hv5) SC (S ?_)
 refine ak cs h (fun cs h=>S ?_) (fun cs h=>S ?_)
 ·cases rs_ h
  exact ai SC
 ·obtain⟨v9,hv9,h⟩:=rb_ h
  refine al [false,false] (sCF_2 (fun _ _ hh=>iIV_4 hh) (by simp only[COn_,COc_]) hv9) SC (S ?_)
  refine ak cs h (fun cs h=>S ?_) (fun cs h=>S ?_)
  ·cases rs_ h
   exact ai SC
  ·obtain⟨v13,hv13,h⟩:=rb_ h
   refine al [false] (iaA_3 hv13) SC (S ?_)
   refine ak cs h (fun cs h=>S ?_) (fun cs h=>S ?_)
   ·obtain⟨v17,hv17,h⟩:=rb_ h
    refine al [false] (iaA_3 hv17) SC (S ?_)
    refine ak cs h (fun cs h=>S ?_) (fun cs h=>S ?_)
    ·refine ak cs h (fun cs h=>S ?_) (fun cs h=>S ?_)
     ·cases rs_ h
      exact ai SC
     ·obtain⟨v27,hv27,h⟩:=rb_ h
      refine al [false,false] (sCF_2 (fun _ _ hh=>inG_1 hh) (by simp only[COn_,COc_]) hv27) SC (S ?_)
      cases rs_ h
      exact ai SC
    ·cases rs_ h
     exact ai SC
   ·cases rs_ h
    exact ai SC

theorem icN_3(n:Nat):(∀ (a0:Tt) (a1:ByteArray) (r:Int),icN_ n a0 a1=some r→Sat ah 85 [((ag false) a0),(Sx a1)] (I r)):=by
 induction n with
 | zero=>exact fun _ _ _ h=>by simp[icN_] at h
 | succ n ih=>
  refine fun a0 a1 r h=>?_
  obtain⟨h,cs⟩:=Ro_ h
  rw[icN_] at h
  refine ap (nt:=26) (rs:=[.tmp 4]) (n:=100000) Tryz.func85 rfl rfl rfl rfl (by simp) (S ?_)
  refine ak cs h (fun cs h=>S ?_) (fun cs h=>S ?_)
  ·refine aM (b:=false) (sz:=2) (es:=a0.Args.map (ag false)) 13 SC fun hl13=>?_; rw[aB] at hl13
   replace h:=rl_ h
   refine aH h (fun i5 s5=>[(1,.val (.pv (Sx a1))),(5,.val (.pv (I s5))),(13,.val (.pv (.sl false 2 (a0.Args.map (ag false))))),(14,.val (.pv (I (a0.Args.length:Int)))),(15,.val (.pv (I (i5:Int))))]) (fun i5 s5=>[]) (Slm_ SC) (fun i5 s5 hi h=>?_) (fun s5 h=>?_)
   ·have w:=ws_ (i:=i5) (by omega)
    refine S ?_
    refine aE cs (by omega) (fun cs=>S ?_)
    obtain⟨v17,hv17,h⟩:=rb_ h
    refine av (f:=(ag false)) hv17 SC (S ?_)
    obtain⟨v22,hv22,h⟩:=rb_ h
    refine al [false,false] (ih _ _ _ hv22) SC (S ?_)
    have h:=rs_ h
    refine aw ⟨_,h,?_⟩
    exact Slm_ SWx
   ·refine S ?_
    refine aF cs (by omega) (fun cs=>S ?_)
    cases rs_ h
    exact ai SC
  ·refine aM (b:=false) (sz:=2) (es:=a0.Args.map (ag false)) 13 SC fun hl13=>?_; rw[aB] at hl13
   replace h:=rl_ h
   refine aH h (fun i5 s5=>[(1,.val (.pv (Sx a1))),(5,.val (.pv (I s5))),(13,.val (.pv (.sl false 2 (a0.Args.map (ag false))))),(14,.val (.pv (I (a0.Args.length:Int)))),(15,.val (.pv (I (i5:Int))))]) (fun i5 s5=>[]) (Slm_ SC) (fun i5 s5 hi h=>?_) (fun s5 h=>?_)
   ·have w:=ws_ (i:=i5) (by omega)
    refine S ?_
    refine aE cs (by omega) (fun cs=>S ?_)
    obtain⟨v17,hv17,h⟩:=rb_ h
    refine av (f:=(ag false)) hv17 SC (S ?_)
    obtain⟨v22,hv22,h⟩:=rb_ h
    refine al [false,false] (ih _ _ _ hv22) SC (S ?_)
    have h:=rs_ h
    refine aw ⟨_,h,?_⟩
    exact Slm_ SWx
   ·refine S ?_
    refine aF cs (by omega) (fun cs=>S ?_)
    cases rs_ h
    exact ai SC
theorem icN_4{a0:Tt}{a1:ByteArray}{r:Int}(h:icN_2 a0 a1=some r):Sat ah 85 [((ag false) a0),(Sx a1)] (I r):=by
 obtain⟨n,hn⟩:=ls_ h
 exact(icN_3 n) _ _ _ hn

theorem ios_{a0:ByteArray}{a1:Tt}  {r:Bool}(h:io_ a0 a1=some r):Sat ah 58 [(Sx a0),((ag false) a1)] (B r):=by
 obtain⟨h,cs⟩:=Ro_ h
 unfold io_ at h
 refine ap (nt:=9) (rs:=[.tmp 4]) (n:=100000) Tryz.func58 rfl rfl rfl rfl (by simp) (S ?_)
 obtain⟨v7,hv7,h⟩:=rb_ h
 refine al [false,false] (icN_4 hv7) SC (S ?_)
 cases rs_ h
 exact ai SC

theorem sEF_1{a0:List Tt}{a1:List Tt}{a2:Tt→Tt→Option Bool}{a2_id:FuncId}{a2_cs:List PV}(a2_ok:∀ y0 y1 r,a2 y0 y1=some r→Sat ah a2_id (((ag false) y0)::((ag false) y1)::a2_cs) (B r))(a2_cz:CO_ a2_cs=True){r:Bool}(h:sEF_ a0 a1 a2=some r):Sat ah 30 [(.sl false 2 (a0.map (ag false))),(.sl false 2 (a1.map (ag false))),.clo a2_id a2_cs] (B r):=by
 obtain⟨h,cs⟩:=Ro_ h
 unfold sEF_ at h
 have cs:=aa a2_cz cs
 refine ap (nt:=32) (rs:=[.tmp 6]) (n:=100000) Tryz.func30 rfl rfl rfl rfl (by simp) (S ?_)
 refine ak cs h (fun cs h=>S ?_) (fun cs h=>S ?_)
 ·refine aM (b:=false) (sz:=2) (es:=a0.map (ag false)) 0 SC fun hl0=>?_; rw[aB] at hl0
  replace h:=rl_ h
  refine aH h (fun i4 s4=>[(1,.val (.pv (.sl false 2 (a1.map (ag false))))),(2,.val (.pv (.clo a2_id a2_cs))),(15,.val (.pv (.sl false 2 (a0.map (ag false))))),(16,.val (.pv (I (a0.length:Int)))),(17,.val (.pv (I (i4:Int))))]) (fun i4 s4=>[]) (Slm_ SC) (fun i4 s4 hi h=>?_) (fun s4 h=>?_)
  ·have w:=ws_ (i:=i4) (by omega)
   refine S ?_
   refine aE cs (by omega) (fun cs=>S ?_)
   obtain⟨v20,hv20,h⟩:=rb_ h
   refine av (f:=(ag false)) hv20 SC (S ?_)
   obtain⟨v24,hv24,h⟩:=rb_ h
   refine av (f:=(ag false)) hv24 SC (S ?_)
   obtain⟨v29,hv29,h⟩:=rb_ h
   refine al [false,false] (a2_ok _ _ _ hv29) SC (S ?_)
   refine ak cs h (fun cs h=>S ?_) (fun cs h=>S ?_)
   ·have h:=rs_ h
    refine aw ⟨_,h,?_⟩
    exact Slm_ SWx
   ·cases rs_ h
    exact ai SC
  ·refine S ?_
   refine aF cs (by omega) (fun cs=>S ?_)
   cases rs_ h
   exact ai SC
 ·cases rs_ h
  exact ai SC

theorem iET_3(n:Nat):(∀ (a0:Tt) (a1:Tt) (r:Bool),iET_ n a0 a1=some r→Sat ah 31 [((ag false) a0),((ag false) a1)] (B r)):=by
 induction n with
 | zero=>exact fun _ _ _ h=>by simp[iET_] at h
 | succ n ih=>
  refine fun a0 a1 r h=>?_
  obtain⟨h,cs⟩:=Ro_ h
  rw[iET_] at h
  refine ap (nt:=17) (rs:=[.tmp 4]) (n:=100000) Tryz.func31 rfl rfl rfl rfl (by simp) (S ?_)
  refine ak cs h (fun cs h=>S ?_) (fun cs h=>S ?_)
  ·obtain⟨v15,hv15,h⟩:=rb_ h
   refine al [false,false,false] (sEF_1 (fun _ _ _ hh=>ih _ _ _ hh) (by simp only[COn_,COc_]) hv15) SC (S ?_)
   cases rs_ h
   exact ai SC
  ·cases rs_ h
   exact ai SC
theorem iET_2{a0:Tt}{a1:Tt}{r:Bool}(h:iET_1 a0 a1=some r):Sat ah 31 [((ag false) a0),((ag false) a1)] (B r):=by
 obtain⟨n,hn⟩:=ls_ h
 exact(iET_3 n) _ _ _ hn

theorem iaA_5{a0:Tt}{b0:Tt}  {r:Bool}(h:iaA_2 a0 b0=some r):Sat ah 46 [((ag false) a0),.ptr ((ag false) b0)] (B r):=by
 obtain⟨h,cs⟩:=Ro_ h
 unfold iaA_2 at h
 refine ap (nt:=7) (rs:=[.tmp 3]) (n:=100000) Tryz.func46 rfl rfl rfl rfl (by simp) (S ?_)
 obtain⟨v6,hv6,h⟩:=rb_ h
 refine al [false,false] (iET_2 hv6) SC (S ?_)
 cases rs_ h
 exact ai SC

theorem icT_6(n:Nat):(∀ (a0:Tt) (r:Tt),icT_1 n a0=some r→Sat ah 47 [((ag false) a0)] ((ag true) r))∧(∀ (a0:List Tt) (r:List Tt),icT_3 n a0=some r→Sat ah 69 [(.sl false 2 (a0.map (ag false)))] (.sl true 2 (r.map (ag true)))):=by
 induction n with
 | zero=>exact⟨fun _ _ h=>by simp[icT_1] at h,fun _ _ h=>by simp[icT_3] at h⟩
 | succ n ih=>
  refine⟨fun a0 r h=>?_,fun a0 r h=>?_⟩
  ·obtain⟨h,cs⟩:=Ro_ h
   rw[icT_1] at h
   refine ap (nt:=9) (rs:=[.cell 2 49]) (n:=100000) Tryz.func47 rfl rfl rfl rfl (by simp) (S ?_)
   obtain⟨v7,hv7,h⟩:=rb_ h
   refine al [false] (ih.2 _ _ hv7) SC (S ?_)
   refine aa (DHa_ [] [112]) (S ?_)
   cases rs_ h
   exact ai SC
  ·obtain⟨h,cs⟩:=Ro_ h
   rw[icT_3] at h
   refine ap (nt:=26) (rs:=[.tmp 2]) (n:=100000) Tryz.func69 rfl rfl rfl rfl (by simp) (S ?_)
   refine ak cs h (fun cs h=>S ?_) (fun cs h=>S ?_)
   ·cases rs_ h
    exact ai SC
   ·obtain⟨n11,hn11,h⟩:=rb_ h
    refine MknH.mk hn11 (S ?_)
    refine aM (b:=false) (sz:=2) (es:=a0.map (ag false)) 0 SC fun hl0=>?_; rw[aB] at hl0
    replace h:=rl_ h
    refine aH h (fun i5 s5=>[(3,.val (.own 176)),(12,.val (.pv (.sl false 2 (a0.map (ag false))))),(13,.val (.pv (I (a0.length:Int)))),(14,.val (.pv (I (i5:Int))))]) (fun i5 s5=>[(176,(2,s5.map (ag true)))]) (Slm_ SC) (fun i5 s5 hi h=>?_) (fun s5 h=>?_)
    ·have w:=ws_ (i:=i5) (by omega)
     refine S ?_
     refine aE cs (by omega) (fun cs=>S ?_)
     obtain⟨v17,hv17,h⟩:=rb_ h
     refine av (f:=(ag false)) hv17 SC (S ?_)
     obtain⟨v22,hv22,h⟩:=rb_ h
     refine al [false] (ih.1 _ _ hv22) SC (S ?_)
     obtain⟨v23,hv23,h⟩:=rb_ h
     refine av (f:=(ag true)) hv23 SC (S ?_)
     obtain⟨w3,hw3,h⟩:=rb_ h
     refine EldH.mk (f:=(ag true)) hw3 rfl SC (S ?_)
     have h:=rs_ h
     refine aw ⟨_,h,?_⟩
     exact Slm_ SWx
    ·refine S ?_
     refine aF cs (by omega) (fun cs=>S ?_)
     cases rs_ h
     exact ai SC
theorem icT_7{a0:Tt}{r:Tt}(h:icT_5 a0=some r):Sat ah 47 [((ag false) a0)] ((ag true) r):=by
 obtain⟨n,hn⟩:=ls_ h
 exact(icT_6 n).1 _ _ hn
theorem icT_10{a0:List Tt}{r:List Tt}(h:icT_9 a0=some r):Sat ah 69 [(.sl false 2 (a0.map (ag false)))] (.sl true 2 (r.map (ag true))):=by
 obtain⟨n,hn⟩:=ls_ h
 exact(icT_6 n).2 _ _ hn

theorem iaA_4{a0:List Tt}{a1:Tt}  {r:List Tt}(h:iaA_1 a0 a1=some r):Sat ah 27 [(.sl true 2 (a0.map (ag true))),((ag false) a1)] (.sl true 2 (r.map (ag true))):=by
 obtain⟨h,cs⟩:=Ro_ h
 unfold iaA_1 at h
 refine ap (nt:=14) (rs:=[.tmp 4]) (n:=100000) Tryz.func27 rfl rfl rfl rfl (by simp) (S ?_)
 refine MfH.fr (S ?_)
 obtain⟨v7,hv7,h⟩:=rb_ h
 refine al [false,false] (sCF_2 (fun _ _ hh=>iaA_5 hh) (by simp only[COn_,COc_]) hv7) SC (S ?_)
 refine ak cs h (fun cs h=>S ?_) (fun cs h=>S ?_)
 ·cases rs_ h
  exact ai SC
 ·obtain⟨v11,hv11,h⟩:=rb_ h
  refine al [false] (icT_7 hv11) SC (S ?_)
  obtain⟨v13,hv13,h⟩:=rb_ h
  refine aV (f:=(ag true)) (fun a=>Tt.psize _ a) hv13 SC SC (S ?_)
  cases rs_ h
  exact ai SC

theorem irV_2(n:Nat):(∀ (a0:Tt) (a1:GMap Tt) (r:Tt),irV_ n a0 a1=some r→SatH ah 86 [((ag false) a0)] [] .mp [] (.mp (gmap (ag false) a1.es) a1.clock) (.mp (gmap (ag false) a1.es) a1.clock) ((ag true) r)):=by
 induction n with
 | zero=>exact fun _ _ _ h=>by simp[irV_] at h
 | succ n ih=>
  refine fun a0 a1 r h=>?_
  obtain⟨h,cs⟩:=Ro_ h
  rw[irV_] at h
  refine SHo_ (nt:=46) (rs:=[.cell 4 49]) (n:=100000) 1 Tryz.func86 rfl rfl rfl rfl rfl (Nat.le_of_ble_eq_true rfl) (by decide) (by first | exact Nat.le_of_ble_eq_true rfl | exact SC) (S ?_)
  refine HHl_ (E:=49) (r:=1) (sh:=.mp) (ps:=[]) (m:=a1) (f:=(ag false)) (k:=a0.Name) (z0:=(Tt.mk ⟨#[]⟩ ([]))) mt_98 mz_49 SC (S ?_)
  refine ak cs h (fun cs h=>S ?_) (fun cs h=>S ?_)
  ·refine ak cs h (fun cs h=>S ?_) (fun cs h=>S ?_)
   ·obtain⟨v25,hv25,h⟩:=rb_ h
    refine al [false] (icT_7 hv25) SC (S ?_)
    cases rs_ h
    exact RetHB.l SC
   ·refine aM (b:=false) (sz:=2) (es:=a0.Args.map (ag false)) 20 SC fun hl20=>?_; rw[aB] at hl20
    replace h:=rl_ h
    refine aH h (fun i6 s6=>[(1,.hold .mp [] (.mp (gmap (ag false) (a1).es) (a1).clock)),(4,.box (.node [(.pv (Sx ⟨#[]⟩)),(.pv (.sl true 2 []))])),(7,.box (.node [(.pv (Sx a0.Name)),(.own 9318)])),(30,.val (.pv (.sl false 2 (a0.Args.map (ag false))))),(31,.val (.pv (I (a0.Args.length:Int)))),(32,.val (.pv (I (i6:Int)))),(20000,gh 1)]) (fun i6 s6=>[(9318,(2,s6.map (ag true)))]) (bc (Sln_ (x:=(.node [(.pv (Sx a0.Name)),(.pv (.sl true 2 []))])) 7 [1] 9318 2 NM SC SC SC) (Slm_ SC)) (fun i6 s6 hi h=>?_) (fun s6 h=>?_)
    ·have w:=ws_ (i:=i6) (by omega)
     refine S ?_
     refine aE cs (by omega) (fun cs=>S ?_)
     obtain⟨v34,hv34,h⟩:=rb_ h
     refine av (f:=(ag false)) hv34 SC (S ?_)
     obtain⟨v40,hv40,h⟩:=rb_ h
     refine HandH.call (r:=1) (hc:=.mp (gmap (ag false) (a1).es) (a1).clock) 1 [_] [] [(.pv ((ag false) v34))] [] [false] (ih _ _ _ hv40) rfl rfl rfl SC (S ?_)
     obtain⟨v42,hv42,h⟩:=rb_ h
     refine aV (f:=(ag true)) (fun a=>Tt.psize _ a) hv42 SC SC (S ?_)
     refine aa (DHa_ [] [640,656,672]) (S ?_)
     have h:=rs_ h
     refine aw ⟨_,h,?_⟩
     refine bc (Slm_1 (S:=[(1,.hold .mp [] (.mp (gmap (ag false) (a1).es) (a1).clock)),(4,.box (.node [(.pv (Sx ⟨#[]⟩)),(.pv (.sl true 2 []))])),(7,.box (.node [(.pv (Sx a0.Name)),(.own 672)])),(30,.val (.pv (.sl false 2 (a0.Args.map (ag false))))),(31,.val (.pv (I (a0.Args.length:Int)))),(32,.val (.pv (I (IntKind.i64.wrap ((i6:Int)+1))))),(20000,gh 1)]) (O:=[(672,(2,v42.map (ag true)))]) SWx SWx) ?_
     refine Slr_ 672 9318 (by decide) NM ?_
     exact Slm_ SWx
    ·refine S ?_
     refine aF cs (by omega) (fun cs=>S ?_)
     cases rs_ h
     exact RetHB.l SC
  ·refine aM (b:=false) (sz:=2) (es:=a0.Args.map (ag false)) 30 SC fun hl30=>?_; rw[aB] at hl30
   replace h:=rl_ h
   refine aH h (fun i6 s6=>[(1,.hold .mp [] (.mp (gmap (ag false) (a1).es) (a1).clock)),(4,.box (.node [(.pv (Sx ⟨#[]⟩)),(.pv (.sl true 2 []))])),(7,.box (.node [(.pv (Sx a0.Name)),(.own 9318)])),(30,.val (.pv (.sl false 2 (a0.Args.map (ag false))))),(31,.val (.pv (I (a0.Args.length:Int)))),(32,.val (.pv (I (i6:Int)))),(20000,gh 1)]) (fun i6 s6=>[(9318,(2,s6.map (ag true)))]) (bc (Sln_ (x:=(.node [(.pv (Sx a0.Name)),(.pv (.sl true 2 []))])) 7 [1] 9318 2 NM SC SC SC) (Slm_ SC)) (fun i6 s6 hi h=>?_) (fun s6 h=>?_)
   ·have w:=ws_ (i:=i6) (by omega)
    refine S ?_
    refine aE cs (by omega) (fun cs=>S ?_)
    obtain⟨v34,hv34,h⟩:=rb_ h
    refine av (f:=(ag false)) hv34 SC (S ?_)
    obtain⟨v40,hv40,h⟩:=rb_ h
    refine HandH.call (r:=1) (hc:=.mp (gmap (ag false) (a1).es) (a1).clock) 1 [_] [] [(.pv ((ag false) v34))] [] [false] (ih _ _ _ hv40) rfl rfl rfl SC (S ?_)
    obtain⟨v42,hv42,h⟩:=rb_ h
    refine aV (f:=(ag true)) (fun a=>Tt.psize _ a) hv42 SC SC (S ?_)
    refine aa (DHa_ [] [640,656,672]) (S ?_)
    have h:=rs_ h
    refine aw ⟨_,h,?_⟩
    refine bc (Slm_1 (S:=[(1,.hold .mp [] (.mp (gmap (ag false) (a1).es) (a1).clock)),(4,.box (.node [(.pv (Sx ⟨#[]⟩)),(.pv (.sl true 2 []))])),(7,.box (.node [(.pv (Sx a0.Name)),(.own 672)])),(30,.val (.pv (.sl false 2 (a0.Args.map (ag false))))),(31,.val (.pv (I (a0.Args.length:Int)))),(32,.val (.pv (I (IntKind.i64.wrap ((i6:Int)+1))))),(20000,gh 1)]) (O:=[(672,(2,v42.map (ag true)))]) SWx SWx) ?_
    refine Slr_ 672 9318 (by decide) NM ?_
    exact Slm_ SWx
   ·refine S ?_
    refine aF cs (by omega) (fun cs=>S ?_)
    cases rs_ h
    exact RetHB.l SC
theorem irV_3{a0:Tt}{a1:GMap Tt}{r:Tt}(h:irV_1 a0 a1=some r):SatH ah 86 [((ag false) a0)] [] .mp [] (.mp (gmap (ag false) a1.es) a1.clock) (.mp (gmap (ag false) a1.es) a1.clock) ((ag true) r):=by
 obtain⟨n,hn⟩:=ls_ h
 exact(irV_2 n) _ _ _ hn

theorem ifs_{a0:Tt}{a1:Tt}  {r:Tt}(h:if_ a0 a1=some r):Sat ah 59 [((ag false) a0),((ag false) a1)] ((ag true) r):=by
 obtain⟨h,cs⟩:=Ro_ h
 unfold if_ at h
 refine ap (nt:=10) (rs:=[.cell 4 49]) (n:=100000) Tryz.func59 rfl rfl rfl rfl (by simp) (S ?_)
 refine HandH.makeMap (α:=Tt) (ag false) (by decide) (S ?_)
 refine HHi_ (E:=49) (r:=6) (sh:=.mp) (ps:=[]) (m:=(GMap.empty:GMap Tt)) (f:=(ag false)) (k:=(⟨#[65]⟩:ByteArray)) (v0:=a1) (c:=(.pv ((ag false) a1))) mt_98 SC (S ?_)
 obtain⟨v9,hv9,h⟩:=rb_ h
 refine HandH.call (r:=6) (hc:=.mp (gmap (ag false) (GMap.put (GMap.empty:GMap Tt) (⟨#[65]⟩:ByteArray) a1).es) (GMap.put (GMap.empty:GMap Tt) (⟨#[65]⟩:ByteArray) a1).clock) 1 [_] [] [(.pv ((ag false) a0))] [] [false] (irV_3 hv9) rfl rfl rfl SC (S ?_)
 cases rs_ h
 exact ai SC

theorem sSF_1{a0:List Tt}{r:Unit×List Tt}(h:sSF_ a0=some r):SatIO ah 28 [.sl true 2 (a0.map (ag true)),.clo 29 []] [.sl true 2 (r.2.map (ag true)),.clo 29 []] (.tup []):=sTs_1 (fun h=>icT_4 h) h

theorem ils_{a0:Dt}  {r:(List Tt)×Bool}(h:il_ a0=some r):Sat ah 34 [((Dt.pv false) a0)] (.tup [(.sl true 2 (r.1.map (ag true))),(B r.2)]):=by
 obtain⟨h,cs⟩:=Ro_ h
 unfold il_ at h
 refine ap (nt:=45) (rs:=[.tmp 2,.tmp 3]) (n:=100000) Tryz.func34 rfl rfl rfl rfl (by simp) (S ?_)
 refine aM (b:=false) (sz:=2) (es:=a0.Patterns.map (ag false)) 12 SC fun hl12=>?_; rw[aB] at hl12
 replace h:=rl_ h
 refine aH h (fun i3 s3=>[(1,.box (.pv ((Dt.pv false) a0))),(4,.val (.own 160)),(12,.val (.pv (.sl false 2 (a0.Patterns.map (ag false))))),(13,.val (.pv (I (a0.Patterns.length:Int)))),(14,.val (.pv (I (i3:Int))))]) (fun i3 s3=>[(160,(2,s3.map (ag true)))]) (Slm_ SC) (fun i3 s3 hi h=>?_) (fun s3 h=>?_)
 ·have w:=ws_ (i:=i3) (by omega)
  refine S ?_
  refine aE cs (by omega) (fun cs=>S ?_)
  obtain⟨v16,hv16,h⟩:=rb_ h
  refine av (f:=(ag false)) hv16 SC (S ?_)
  obtain⟨v19,hv19,h⟩:=rb_ h
  refine al [false,false] (ios_ hv19) SC (S ?_)
  refine ak cs h (fun cs h=>S ?_) (fun cs h=>S ?_)
  ·refine aM (b:=false) (sz:=2) (es:=a0.Instances.map (ag false)) 25 SC fun hl25=>?_; rw[aB] at hl25
   replace h:=rl_ h
   refine aH h (fun i8 s8=>[(1,.box (.pv ((Dt.pv false) a0))),(4,.val (.own 160)),(6,.box (.pv ((ag false) v16))),(12,.val (.pv (.sl false 2 (a0.Patterns.map (ag false))))),(13,.val (.pv (I (a0.Patterns.length:Int)))),(14,.val (.pv (I (i3:Int)))),(25,.val (.pv (.sl false 2 (a0.Instances.map (ag false))))),(26,.val (.pv (I (a0.Instances.length:Int)))),(27,.val (.pv (I (i8:Int))))]) (fun i8 s8=>[(160,(2,s8.map (ag true)))]) (Slm_ SC) (fun i8 s8 hi h=>?_) (fun s8 h=>?_)
   ·have w:=ws_ (i:=i8) (by omega)
    refine S ?_
    refine aE cs (by omega) (fun cs=>S ?_)
    obtain⟨v29,hv29,h⟩:=rb_ h
    refine av (f:=(ag false)) hv29 SC (S ?_)
    obtain⟨v33,hv33,h⟩:=rb_ h
    refine al [false,false] (ifs_ hv33) SC (S ?_)
    obtain⟨v35,hv35,h⟩:=rb_ h
    refine al [false] (iIV_3 hv35) SC (S ?_)
    refine ak cs h (fun cs h=>S ?_) (fun cs h=>S ?_)
    ·obtain⟨v39,hv39,h⟩:=rb_ h
     refine al [true,false] (iaA_4 hv39) SC (S ?_)
     have h:=rs_ h
     refine aw ⟨_,h,?_⟩
     refine bc (Slm_1 (S:=[(1,.box (.pv ((Dt.pv false) a0))),(4,.val (.own 624)),(6,.box (.pv ((ag false) v16))),(12,.val (.pv (.sl false 2 (a0.Patterns.map (ag false))))),(13,.val (.pv (I (a0.Patterns.length:Int)))),(14,.val (.pv (I (i3:Int)))),(25,.val (.pv (.sl false 2 (a0.Instances.map (ag false))))),(26,.val (.pv (I (a0.Instances.length:Int)))),(27,.val (.pv (I (IntKind.i64.wrap ((i8:Int)+1)))))]) (O:=[(624,(2,v39.map (ag true)))]) SWx SWx) ?_
     refine Slr_ 624 160 (by decide) NM ?_
     exact Slm_ SWx
    ·cases rs_ h
     exact ai SC
   ·refine S ?_
    refine aF cs (by omega) (fun cs=>S ?_)
    have h:=rs_ h
    refine aw ⟨_,h,?_⟩
    exact Slm_ SWx
  ·obtain⟨v23,hv23,h⟩:=rb_ h
   refine al [true,false] (iaA_4 hv23) SC (S ?_)
   have h:=rs_ h
   refine aw ⟨_,h,?_⟩
   refine bc (Slm_1 (S:=[(1,.box (.pv ((Dt.pv false) a0))),(4,.val (.own 368)),(12,.val (.pv (.sl false 2 (a0.Patterns.map (ag false))))),(13,.val (.pv (I (a0.Patterns.length:Int)))),(14,.val (.pv (I (IntKind.i64.wrap ((i3:Int)+1)))))]) (O:=[(368,(2,v23.map (ag true)))]) SWx SWx) ?_
   refine Slr_ 368 160 (by decide) NM ?_
   exact Slm_ SWx
 ·refine S ?_
  refine aF cs (by omega) (fun cs=>S ?_)
  obtain⟨v43,hv43,h⟩:=rb_ h
  refine CHi_ [(.own 160),(.pv (.clo 29 []))] [(160,(2,v43.2.map (ag true)))] (sSF_1 hv43) SC (S ?_)
  cases rs_ h
  exact ai SC

theorem iLO_1{a0:Dt}  {r:(List Tt)×Bool}(h:iLO_ a0=some r):Sat ah 14 [((Dt.pv false) a0)] (.tup [(.sl true 2 (r.1.map (ag true))),(B r.2)]):=by
 obtain⟨h,cs⟩:=Ro_ h
 unfold iLO_ at h
 refine ap (nt:=11) (rs:=[.tmp 2,.tmp 3]) (n:=100000) Tryz.func14 rfl rfl rfl rfl (by simp) (S ?_)
 obtain⟨v5,hv5,h⟩:=rb_ h
 refine al [false] (iIV_5 hv5) SC (S ?_)
 refine ak cs h (fun cs h=>S ?_) (fun cs h=>S ?_)
 ·obtain⟨v8,hv8,h⟩:=rb_ h
  refine al [false] (ils_ hv8) SC (S ?_)
  cases rs_ h
  exact ai SC
 ·cases rs_ h
  exact ai SC

theorem iDT_1{a0:Dt}{a1:List Tt}  {r:Bool×Bool}(h:iDT_ a0 a1=some r):Sat ah 10 [((Dt.pv false) a0),(.sl false 2 (a1.map (ag false)))] (.tup [(B r.1),(B r.2)]):=by
 obtain⟨h,cs⟩:=Ro_ h
 unfold iDT_ at h
 refine ap (nt:=43) (rs:=[.tmp 4,.tmp 5]) (n:=100000) Tryz.func10 rfl rfl rfl rfl (by simp) (S ?_)
 obtain⟨v13,hv13,h⟩:=rb_ h
 refine al [false] (iLO_1 hv13) SC (S ?_)
 refine ak cs h (fun cs h=>S ?_) (fun cs h=>S ?_)
 ·refine ak cs h (fun cs h=>S ?_) (fun cs h=>S ?_)
  ·cases rs_ h
   exact ai SC
  ·obtain⟨v25,hv25,h⟩:=rb_ h
   refine al [false,false] (sCF_2 (fun _ _ hh=>inG_1 hh) (by simp only[COn_,COc_]) hv25) SC (S ?_)
   refine ak cs h (fun cs h=>S ?_) (fun cs h=>S ?_)
   ·cases rs_ h
    exact ai SC
   ·refine aM (b:=false) (sz:=2) (es:=a1.map (ag false)) 1 SC fun hl1=>?_; rw[aB] at hl1
    replace h:=rl_ h
    refine aH h (fun i6 s6=>[(6,.val (.own 208)),(8,.val (.own 432)),(28,.val (.pv (.sl false 2 (a1.map (ag false))))),(29,.val (.pv (I (a1.length:Int)))),(30,.val (.pv (I (i6:Int))))]) (fun i6 s6=>[(208,(2,v13.1.map (ag true))),(432,(2,s6.map (ag true)))]) (Slm_ SC) (fun i6 s6 hi h=>?_) (fun s6 h=>?_)
    ·have w:=ws_ (i:=i6) (by omega)
     refine S ?_
     refine aE cs (by omega) (fun cs=>S ?_)
     obtain⟨v32,hv32,h⟩:=rb_ h
     refine av (f:=(ag false)) hv32 SC (S ?_)
     obtain⟨v36,hv36,h⟩:=rb_ h
     refine al [true,false] (iaA_4 hv36) SC (S ?_)
     have h:=rs_ h
     refine aw ⟨_,h,?_⟩
     refine bc (Slm_1 (S:=[(6,.val (.own 208)),(8,.val (.own 576)),(28,.val (.pv (.sl false 2 (a1.map (ag false))))),(29,.val (.pv (I (a1.length:Int)))),(30,.val (.pv (I (IntKind.i64.wrap ((i6:Int)+1)))))]) (O:=[(208,(2,v13.1.map (ag true))),(576,(2,v36.map (ag true)))]) SWx SWx) ?_
     refine Slr_ 576 432 (by decide) NM ?_
     exact Slm_ SWx
    ·refine S ?_
     refine aF cs (by omega) (fun cs=>S ?_)
     obtain⟨v39,hv39,h⟩:=rb_ h
     refine CHi_ [(.own 432),(.pv (.clo 29 []))] [(432,(2,v39.2.map (ag true)))] (sSF_1 hv39) SC (S ?_)
     obtain⟨v42,hv42,h⟩:=rb_ h
     refine al [false,false,false] (sEF_1 (fun _ _ _ hh=>iET_2 hh) (by simp only[COn_,COc_]) hv42) SC (S ?_)
     cases rs_ h
     exact ai SC
 ·cases rs_ h
  exact ai SC

theorem eTS_3(n:Nat):(∀ (a0:List Tt) (a1:List Tt) (r:Bool),eTS_ n a0 a1=some r→Sat ah 12 [(.sl false 2 (a0.map (ag false))),(.sl false 2 (a1.map (ag false)))] (B r))∧(∀ (a0:Tt) (a1:Tt) (r:Bool),eTN_ n a0 a1=some r→Sat ah 32 [((ag false) a0),((ag false) a1)] (B r)):=by
 induction n with
 | zero=>exact⟨fun _ _ _ h=>by simp[eTS_] at h,fun _ _ _ h=>by simp[eTN_] at h⟩
 | succ n ih=>
  refine⟨fun a0 a1 r h=>?_,fun a0 a1 r h=>?_⟩
  ·obtain⟨h,cs⟩:=Ro_ h
   rw[eTS_] at h
   refine ap (nt:=27) (rs:=[.tmp 4]) (n:=100000) Tryz.func12 rfl rfl rfl rfl (by simp) (S ?_)
   refine ak cs h (fun cs h=>S ?_) (fun cs h=>S ?_)
   ·refine aM (b:=false) (sz:=2) (es:=a0.map (ag false)) 0 SC fun hl0=>?_; rw[aB] at hl0
    replace h:=rl_ h
    refine aH h (fun i4 s4=>[(0,.val (.pv (.sl false 2 (a0.map (ag false))))),(1,.val (.pv (.sl false 2 (a1.map (ag false))))),(5,.val (.pv (I (i4:Int))))]) (fun i4 s4=>[]) (Slm_ SC) (fun i4 s4 hi h=>?_) (fun s4 h=>?_)
    ·have w:=ws_ (i:=i4) (by omega)
     refine S ?_
     refine aE cs (by omega) (fun cs=>S ?_)
     obtain⟨v19,hv19,h⟩:=rb_ h
     refine av (f:=(ag false)) hv19 SC (S ?_)
     obtain⟨v23,hv23,h⟩:=rb_ h
     refine av (f:=(ag false)) hv23 SC (S ?_)
     obtain⟨v25,hv25,h⟩:=rb_ h
     refine al [false,false] (ih.2 _ _ _ hv25) SC (S ?_)
     refine aa (DHa_ [] []) (S ?_)
     refine ak cs h (fun cs h=>S ?_) (fun cs h=>S ?_)
     ·have h:=rs_ h
      refine aw ⟨_,h,?_⟩
      exact Slm_ SWx
     ·cases rs_ h
      exact ai SC
    ·refine S ?_
     refine aF cs (by omega) (fun cs=>S ?_)
     cases rs_ h
     exact ai SC
   ·cases rs_ h
    exact ai SC
  ·obtain⟨h,cs⟩:=Ro_ h
   rw[eTN_] at h
   refine ap (nt:=16) (rs:=[.tmp 4]) (n:=100000) Tryz.func32 rfl rfl rfl rfl (by simp) (S ?_)
   refine ak cs h (fun cs h=>S ?_) (fun cs h=>S ?_)
   ·obtain⟨v14,hv14,h⟩:=rb_ h
    refine al [false,false] (ih.1 _ _ _ hv14) SC (S ?_)
    refine ak cs h (fun cs h=>S ?_) (fun cs h=>S ?_)
    ·cases rs_ h
     exact ai SC
    ·cases rs_ h
     exact ai SC
   ·cases rs_ h
    exact ai SC
theorem eTS_2{a0:List Tt}{a1:List Tt}{r:Bool}(h:eTS_4 a0 a1=some r):Sat ah 12 [(.sl false 2 (a0.map (ag false))),(.sl false 2 (a1.map (ag false)))] (B r):=by
 obtain⟨n,hn⟩:=ls_ h
 exact(eTS_3 n).1 _ _ _ hn
theorem eTs_{a0:Tt}{a1:Tt}{r:Bool}(h:eT_ a0 a1=some r):Sat ah 32 [((ag false) a0),((ag false) a1)] (B r):=by
 obtain⟨n,hn⟩:=ls_ h
 exact(eTS_3 n).2 _ _ _ hn

theorem eDs_{a0:Dt}{a1:Dt}  {r:Bool}(h:eD_ a0 a1=some r):Sat ah 11 [((Dt.pv false) a0),((Dt.pv false) a1)] (B r):=by
 obtain⟨h,cs⟩:=Ro_ h
 unfold eD_ at h
 refine ap (nt:=17) (rs:=[.tmp 4]) (n:=100000) Tryz.func11 rfl rfl rfl rfl (by simp) (S ?_)
 obtain⟨v9,hv9,h⟩:=rb_ h
 refine al [false,false] (eTS_2 hv9) SC (S ?_)
 refine ak cs h (fun cs h=>S ?_) (fun cs h=>S ?_)
 ·obtain⟨v15,hv15,h⟩:=rb_ h
  refine al [false,false] (eTS_2 hv15) SC (S ?_)
  refine ak cs h (fun cs h=>S ?_) (fun cs h=>S ?_)
  ·cases rs_ h
   exact ai SC
  ·cases rs_ h
   exact ai SC
 ·cases rs_ h
  exact ai SC

theorem FnExactDescribesTerms_sat{a0:Dt}{a1:List Tt}  {r:Bool}(h:FnExactDescribesTerms a0 a1=some r):Sat ah 3 [((Dt.pv false) a0),(.sl false 2 (a1.map (ag false)))] (B r):=by
 obtain⟨h,cs⟩:=Ro_ h
 unfold FnExactDescribesTerms at h
 refine ap (nt:=58) (rs:=[.tmp 4]) (n:=100000) Tryz.func3 rfl rfl rfl rfl (by simp) (S ?_)
 obtain⟨v14,hv14,h⟩:=rb_ h
 refine al [false,false] (sDs_ hv14) SC (S ?_)
 refine ak cs h (fun cs h=>S ?_) (fun cs h=>S ?_)
 ·cases rs_ h
  exact ai SC
 ·obtain⟨v19,hv19,h⟩:=rb_ h
  refine al [false,false] (sTS_1 hv19) SC (S ?_)
  refine ak cs h (fun cs h=>S ?_) (fun cs h=>S ?_)
  ·cases rs_ h
   exact ai SC
  ·obtain⟨v24,hv24,h⟩:=rb_ h
   refine al [false] (tDs_ hv24) SC (S ?_)
   obtain⟨v26,hv26,h⟩:=rb_ h
   refine al [false] (tTS_1 hv26) SC (S ?_)
   obtain⟨v27,hv27,h⟩:=rb_ h
   refine al [false,false] (sDT_1 hv27) SC (S ?_)
   obtain⟨v31,hv31,h⟩:=rb_ h
   refine al [false] (tDs_ hv31) SC (S ?_)
   obtain⟨v33,hv33,h⟩:=rb_ h
   refine al [false] (tTS_1 hv33) SC (S ?_)
   obtain⟨v37,hv37,h⟩:=rb_ h
   refine al [false,false] (iDT_1 hv37) SC (S ?_)
   refine ak cs h (fun cs h=>S ?_) (fun cs h=>S ?_)
   ·refine ak cs h (fun cs h=>S ?_) (fun cs h=>S ?_)
    ·obtain⟨v50,hv50,h⟩:=rb_ h
     refine al [false] (tDs_ hv50) SC (S ?_)
     obtain⟨v51,hv51,h⟩:=rb_ h
     refine al [false,false] (eDs_ hv51) SC (S ?_)
     refine aa (DHa_ [] [800,801]) (S ?_)
     refine ak cs h (fun cs h=>S ?_) (fun cs h=>S ?_)
     ·obtain⟨v55,hv55,h⟩:=rb_ h
      refine al [false] (tTS_1 hv55) SC (S ?_)
      obtain⟨v56,hv56,h⟩:=rb_ h
      refine al [false,false] (eTS_2 hv56) SC (S ?_)
      refine ak cs h (fun cs h=>S ?_) (fun cs h=>S ?_)
      ·cases rs_ h
       exact ai SC
      ·cases rs_ h
       exact ai SC
     ·cases rs_ h
      exact ai SC
    ·cases rs_ h
     exact ai SC
   ·cases rs_ h
    exact ai SC

end Go.Proofs.YtikhljkojadogaaGreat
