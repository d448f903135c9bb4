/- Lemmas of the proof; each says what it shows. -/
import Derived.Test.YtpfobcjmfobiaaaGm
import Derived.Test.YtpfobcjmfobiaaaGf
set_option linter.unusedSimpArgs false
set_option linter.unusedVariables false
set_option linter.defProp false
set_option maxRecDepth 4000
namespace Go.Proofs.Ytpfobcjmfobiaaa
open Go.Av
open And renaming intro→aa
open CallH renaming mk→al
open CondH renaming run→aj,t2→aG,f2→aH
open FinH renaming l→ai
open IdxH renaming mk→az
open List renaming length_map→aK
open Mg renaming know_sl→aU,forN→aN
open RdH renaming mk→av
open Sat renaming of_m→aq
open SidxH renaming mk→aY
open St renaming le_trans→aV
open Try renaming prog→ah
open Tt renaming pv→ae
open VSeq renaming step→aP
set_option maxHeartbeats 4000000
theorem sTS_1(n:Nat):(∀ (a0:List Tt) (a1:Int) (r:Int),sTS_ n a0 a1=some r→Sat ah 4 [(.sl false 2 (a0.map (ae false))),(I a1)] (I r))∧(∀ (a0:Tt) (a1:Int) (r:Int),sTN_ n a0 a1=some r→Sat ah 14 [((ae false) a0),(I a1)] (I r)):=by
 induction n with
 | zero=>exact⟨fun _ _ _ h=>by simp[sTS_] at h,fun _ _ _ h=>by simp[sTN_] at h⟩
 | succ n ih=>
  refine⟨fun a0 a1 r h=>?_,fun a0 a1 r h=>?_⟩
  ·obtain⟨h,cs⟩:=Ro_ h
   rw[sTS_] at h
   refine aq (nt:=27) (rs:=[.tmp 4]) (n:=100000) Try.func4 rfl rfl rfl rfl (by simp) (S ?_)
   refine aj cs h (fun cs h=>S ?_) (fun cs h=>S ?_)
   ·cases rs_ h
    exact ai SC
   ·refine aU (b:=false) (sz:=2) (es:=a0.map (ae false)) 0 SC fun hl0=>?_; rw[aK] at hl0
    replace h:=rl_ h
    refine aN h (fun i5 s5=>[(0,.val (.pv (.sl false 2 (a0.map (ae false))))),(1,.val (.pv (I s5))),(5,.val (.pv (I (i5:Int))))]) (fun i5 s5=>[]) (Slm_ SC) (fun i5 s5 hi h=>?_) (fun s5 h=>?_)
    ·have w:=ws_ (i:=i5) (by omega)
     refine S ?_
     refine aG cs (by omega) (fun cs=>S ?_)
     obtain⟨v20,hv20,h⟩:=rb_ h
     refine az (f:=(ae false)) hv20 SC (S ?_)
     obtain⟨v23,hv23,h⟩:=rb_ h
     refine al [false,false] (ih.2 _ _ _ hv23) SC (S ?_)
     refine aj cs h (fun cs h=>S ?_) (fun cs h=>S ?_)
     ·cases rs_ h
      exact ai SC
     ·have h:=rs_ h
      refine av ⟨_,h,?_⟩
      exact Slm_ SWx
    ·refine S ?_
     refine aH cs (by omega) (fun cs=>S ?_)
     cases rs_ h
     exact ai SC
  ·obtain⟨h,cs⟩:=Ro_ h
   rw[sTN_] at h
   refine aq (nt:=19) (rs:=[.tmp 4]) (n:=100000) Try.func14 rfl rfl rfl rfl (by simp) (S ?_)
   refine aj cs h (fun cs h=>S ?_) (fun cs h=>S ?_)
   ·cases rs_ h
    exact ai SC
   ·obtain⟨v15,hv15,h⟩:=rb_ h
    refine al [false,false] (ih.1 _ _ _ hv15) SC (S ?_)
    refine aj cs h (fun cs h=>S ?_) (fun cs h=>S ?_)
    ·cases rs_ h
     exact ai SC
    ·cases rs_ h
     exact ai SC
theorem sTS_3{a0:List Tt}{a1:Int}{r:Int}(h:sTS_2 a0 a1=some r):Sat ah 4 [(.sl false 2 (a0.map (ae false))),(I a1)] (I r):=by
 obtain⟨n,hn⟩:=ls_ h
 exact(sTS_1 n).1 _ _ _ hn
theorem sTs_{a0:Tt}{a1:Int}{r:Int}(h:sT_1 a0 a1=some r):Sat ah 14 [((ae false) a0),(I a1)] (I r):=by
 obtain⟨n,hn⟩:=ls_ h
 exact(sTS_1 n).2 _ _ _ hn

theorem tTS_3(n:Nat):(∀ (a0:List Tt) (r:List Tt),tTS_ n a0=some r→Sat ah 6 [(.sl false 2 (a0.map (ae false)))] (.sl true 2 (r.map (ae true))))∧(∀ (a0:Tt) (r:Tt),tTN_ n a0=some r→Sat ah 18 [((ae false) a0)] ((ae true) r)):=by
 induction n with
 | zero=>exact⟨fun _ _ h=>by simp[tTS_] at h,fun _ _ h=>by simp[tTN_] at h⟩
 | succ n ih=>
  refine⟨fun a0 r h=>?_,fun a0 r h=>?_⟩
  ·obtain⟨h,cs⟩:=Ro_ h
   rw[tTS_] at h
   refine aq (nt:=23) (rs:=[.tmp 2]) (n:=100000) Try.func6 rfl rfl rfl rfl (by simp) (S ?_)
   obtain⟨n7,hn7,h⟩:=rb_ h
   refine MknH.mk hn7 (S ?_)
   refine aU (b:=false) (sz:=2) (es:=a0.map (ae false)) 0 SC fun hl0=>?_; rw[aK] at hl0
   replace h:=rl_ h
   refine aN h (fun i3 s3=>[(0,.val (.pv (.sl false 2 (a0.map (ae false))))),(3,.val (.own 112)),(4,.val (.pv (I (i3:Int))))]) (fun i3 s3=>[(112,(2,s3.map (ae true)))]) (Slm_ SC) (fun i3 s3 hi h=>?_) (fun s3 h=>?_)
   ·have w:=ws_ (i:=i3) (by omega)
    refine S ?_
    refine aG cs (by omega) (fun cs=>S ?_)
    obtain⟨v18,hv18,h⟩:=rb_ h
    refine az (f:=(ae false)) hv18 SC (S ?_)
    obtain⟨v20,hv20,h⟩:=rb_ h
    refine al [false] (ih.2 _ _ hv20) SC (S ?_)
    obtain⟨v21,hv21,h⟩:=rb_ h
    refine az (f:=(ae true)) hv21 SC (S ?_)
    obtain⟨w2,hw2,h⟩:=rb_ h
    refine EldH.mk (f:=(ae true)) hw2 rfl SC (S ?_)
    have h:=rs_ h
    refine av ⟨_,h,?_⟩
    exact Slm_ SWx
   ·refine S ?_
    refine aH cs (by omega) (fun cs=>S ?_)
    cases rs_ h
    exact ai SC
  ·obtain⟨h,cs⟩:=Ro_ h
   rw[tTN_] at h
   refine aq (nt:=12) (rs:=[.cell 2 26]) (n:=100000) Try.func18 rfl rfl rfl rfl (by simp) (S ?_)
   obtain⟨v9,hv9,h⟩:=rb_ h
   refine al [false] (ih.1 _ _ hv9) SC (S ?_)
   cases rs_ h
   exact ai SC
theorem tTS_1{a0:List Tt}{r:List Tt}(h:tTS_2 a0=some r):Sat ah 6 [(.sl false 2 (a0.map (ae false)))] (.sl true 2 (r.map (ae true))):=by
 obtain⟨n,hn⟩:=ls_ h
 exact(tTS_3 n).1 _ _ hn
theorem tTs_{a0:Tt}{r:Tt}(h:tT_ a0=some r):Sat ah 18 [((ae false) a0)] ((ae true) r):=by
 obtain⟨n,hn⟩:=ls_ h
 exact(tTS_3 n).2 _ _ hn

theorem slI_2{a0:Int}{a1:Int}{a2:Int}  {r:Bool}(h:slI_1 a0 a1 a2=some r):Sat ah 15 [(I a0),(I a1),(I a2)] (B r):=by
 obtain⟨h,cs⟩:=Ro_ h
 unfold slI_1 at h
 refine aq (nt:=15) (rs:=[.tmp 6]) (n:=100000) Try.func15 rfl rfl rfl rfl (by simp) (S ?_)
 refine aj cs h (fun cs h=>S ?_) (fun cs h=>S ?_)
 ·cases rs_ h
  exact ai SC
 ·cases rs_ h
  exact ai SC

theorem slM_3(n:Nat):(∀ (a0:Tt) (a1:Int) (r:Int),slM_ n a0 a1=some r→Sat ah 43 [((ae false) a0),(I a1)] (I r)):=by
 induction n with
 | zero=>exact fun _ _ _ h=>by simp[slM_] at h
 | succ n ih=>
  refine fun a0 a1 r h=>?_
  obtain⟨h,cs⟩:=Ro_ h
  rw[slM_] at h
  refine aq (nt:=31) (rs:=[.tmp 4]) (n:=100000) Try.func43 rfl rfl rfl rfl (by simp) (S ?_)
  refine Mkv_ (b:=false) (sz:=2) (es:=a0.Args.map (ae false)) (x:=(.pv ((ae false) a0))) 0 [1] SC fun hl0=>?_; rw[aK] at hl0
  replace h:=rl_ h
  refine aN h (fun i3 s3=>[(1,.val (.pv (I a1))),(2,.box (.pv ((ae false) a0))),(5,.val (.pv (I s3))),(6,.val (.pv (I (i3:Int))))]) (fun i3 s3=>[]) (Slm_ SC) (fun i3 s3 hi h=>?_) (fun s3 h=>?_)
  ·have w:=ws_ (i:=i3) (by omega)
   refine S ?_
   refine aG cs (by omega) (fun cs=>S ?_)
   refine aj cs h (fun cs h=>S ?_) (fun cs h=>S ?_)
   ·obtain⟨v23,hv23,h⟩:=rb_ h
    refine az (f:=(ae false)) hv23 SC (S ?_)
    obtain⟨v28,hv28,h⟩:=rb_ h
    refine al [false,false] (ih _ _ _ hv28) SC (S ?_)
    have h:=rs_ h
    refine av ⟨_,h,?_⟩
    exact Slm_ SWx
   ·cases rs_ h
    exact ai SC
  ·refine S ?_
   refine aH cs (by omega) (fun cs=>S ?_)
   cases rs_ h
   exact ai SC
theorem slM_4{a0:Tt}{a1:Int}{r:Int}(h:slM_2 a0 a1=some r):Sat ah 43 [((ae false) a0),(I a1)] (I r):=by
 obtain⟨n,hn⟩:=ls_ h
 exact(slM_3 n) _ _ _ hn

theorem slM_5{a0:Int}{a1:Int}  {r:Int}(h:slM_1 a0 a1=some r):Sat ah 52 [(I a0),(I a1)] (I r):=by
 obtain⟨h,cs⟩:=Ro_ h
 unfold slM_1 at h
 refine aq (nt:=10) (rs:=[.tmp 4]) (n:=100000) Try.func52 rfl rfl rfl rfl (by simp) (S ?_)
 refine aj cs h (fun cs h=>S ?_) (fun cs h=>S ?_)
 ·cases rs_ h
  exact ai SC
 ·cases rs_ h
  exact ai SC

theorem slD_2(n:Nat):(∀ (a0:Tt) (r:Int),slD_ n a0=some r→Sat ah 44 [((ae false) a0)] (I r)):=by
 induction n with
 | zero=>exact fun _ _ h=>by simp[slD_] at h
 | succ n ih=>
  refine fun a0 r h=>?_
  obtain⟨h,cs⟩:=Ro_ h
  rw[slD_] at h
  refine aq (nt:=22) (rs:=[.tmp 2]) (n:=100000) Try.func44 rfl rfl rfl rfl (by simp) (S ?_)
  refine Mkv_ (b:=false) (sz:=2) (es:=a0.Args.map (ae false)) (x:=(.pv ((ae false) a0))) 0 [1] SC fun hl0=>?_; rw[aK] at hl0
  replace h:=rl_ h
  refine aN h (fun i3 s3=>[(1,.box (.pv ((ae false) a0))),(3,.val (.pv (I s3))),(4,.val (.pv (I (i3:Int))))]) (fun i3 s3=>[]) (Slm_ SC) (fun i3 s3 hi h=>?_) (fun s3 h=>?_)
  ·have w:=ws_ (i:=i3) (by omega)
   refine S ?_
   refine aG cs (by omega) (fun cs=>S ?_)
   obtain⟨v16,hv16,h⟩:=rb_ h
   refine az (f:=(ae false)) hv16 SC (S ?_)
   obtain⟨v18,hv18,h⟩:=rb_ h
   refine al [false] (ih _ _ hv18) SC (S ?_)
   obtain⟨v19,hv19,h⟩:=rb_ h
   refine al [false,false] (slM_5 hv19) SC (S ?_)
   have h:=rs_ h
   refine av ⟨_,h,?_⟩
   exact Slm_ SWx
  ·refine S ?_
   refine aH cs (by omega) (fun cs=>S ?_)
   cases rs_ h
   exact ai SC
theorem slD_3{a0:Tt}{r:Int}(h:slD_1 a0=some r):Sat ah 44 [((ae false) a0)] (I r):=by
 obtain⟨n,hn⟩:=ls_ h
 exact(slD_2 n) _ _ hn

theorem slF_1{a0:Tt}  {r:Bool}(h:slF_ a0=some r):Sat ah 38 [((ae false) a0)] (B r):=by
 obtain⟨h,cs⟩:=Ro_ h
 unfold slF_ at h
 refine aq (nt:=11) (rs:=[.tmp 2]) (n:=100000) Try.func38 rfl rfl rfl rfl (by simp) (S ?_)
 obtain⟨v4,hv4,h⟩:=rb_ h
 refine al [false,false] (slM_4 hv4) SC (S ?_)
 refine aj cs h (fun cs h=>S ?_) (fun cs h=>S ?_)
 ·obtain⟨v8,hv8,h⟩:=rb_ h
  refine al [false] (slD_3 hv8) SC (S ?_)
  cases rs_ h
  exact ai SC
 ·cases rs_ h
  exact ai SC

theorem slS_5{a0:Int}  {r:Bool}(h:slS_1 a0=some r):Sat ah 53 [((Ik .u8) a0)] (B r):=by
 obtain⟨h,cs⟩:=Ro_ h
 unfold slS_1 at h
 refine aq (nt:=17) (rs:=[.tmp 2]) (n:=100000) Try.func53 rfl rfl rfl rfl (by simp) (S ?_)
 refine aj cs h (fun cs h=>S ?_) (fun cs h=>S ?_)
 ·refine aj cs h (fun cs h=>S ?_) (fun cs h=>S ?_)
  ·cases rs_ h
   exact ai SC
  ·refine aj cs h (fun cs h=>S ?_) (fun cs h=>S ?_)
   ·cases rs_ h
    exact ai SC
   ·cases rs_ h
    exact ai SC
 ·refine aj cs h (fun cs h=>S ?_) (fun cs h=>S ?_)
  ·cases rs_ h
   exact ai SC
  ·cases rs_ h
   exact ai SC

theorem slV_2{a0:ByteArray}  {r:Bool}(h:slV_ a0=some r):Sat ah 45 [(Sx a0)] (B r):=by
 obtain⟨h,cs⟩:=Ro_ h
 unfold slV_ at h
 refine aq (nt:=29) (rs:=[.tmp 2]) (n:=100000) Try.func45 rfl rfl rfl rfl (by simp) (S ?_)
 obtain⟨v6,hv6,h⟩:=rb_ h
 refine al [false,false,false] (slI_2 hv6) SC (S ?_)
 refine aj cs h (fun cs h=>S ?_) (fun cs h=>S ?_)
 ·obtain⟨v10,hv10,h⟩:=rb_ h
  refine aY hv10 (S ?_)
  refine aj cs h (fun cs h=>S ?_) (fun cs h=>S ?_)
  ·cases rs_ h
   exact ai SC
  ·obtain⟨v15,hv15,h⟩:=rb_ h
   refine aY hv15 (S ?_)
   refine aj cs h (fun cs h=>S ?_) (fun cs h=>S ?_)
   ·cases rs_ h
    exact ai SC
   ·obtain⟨N4,hN4,h⟩:=rb_ h
    obtain⟨hN4a,hN4b⟩:=bs_ hN4
    replace h:=rl_ h
    refine MfA_ (N:=N4) (a:=1) h (fun i4 s4=>[(0,.val (.pv (Sx a0))),(3,.val (.pv (I (i4:Int))))]) (fun i4 s4=>[]) (Slm_ SC) (fun i4 s4 hi hj h=>?_) (fun j4 s4 hj h=>?_)
    ·have w:=ws_ (i:=i4) (by omega)
     refine S ?_
     refine aG cs (by omega) (fun cs=>S ?_)
     obtain⟨v26,hv26,h⟩:=rb_ h
     refine aY hv26 (S ?_)
     obtain⟨v27,hv27,h⟩:=rb_ h
     refine al [false] (slS_5 hv27) SC (S ?_)
     refine aj cs h (fun cs h=>S ?_) (fun cs h=>S ?_)
     ·have h:=rs_ h
      refine av ⟨_,h,?_⟩
      exact Slm_ SWx
     ·cases rs_ h
      exact ai SC
    ·refine S ?_
     refine aH cs (by omega) (fun cs=>S ?_)
     cases rs_ h
     exact ai SC
 ·cases rs_ h
  exact ai SC

theorem slS_7{a0:ByteArray}  {r:Bool}(h:slS_2 a0=some r):Sat ah 46 [(Sx a0)] (B r):=by
 obtain⟨h,cs⟩:=Ro_ h
 unfold slS_2 at h
 refine aq (nt:=45) (rs:=[.tmp 2]) (n:=100000) Try.func46 rfl rfl rfl rfl (by simp) (S ?_)
 obtain⟨v6,hv6,h⟩:=rb_ h
 refine al [false,false,false] (slI_2 hv6) SC (S ?_)
 refine aj cs h (fun cs h=>S ?_) (fun cs h=>S ?_)
 ·obtain⟨v10,hv10,h⟩:=rb_ h
  refine aY hv10 (S ?_)
  refine aj cs h (fun cs h=>S ?_) (fun cs h=>S ?_)
  ·cases rs_ h
   exact ai SC
  ·obtain⟨v15,hv15,h⟩:=rb_ h
   refine aY hv15 (S ?_)
   refine aj cs h (fun cs h=>S ?_) (fun cs h=>S ?_)
   ·cases rs_ h
    exact ai SC
   ·refine aj cs h (fun cs h=>S ?_) (fun cs h=>S ?_)
    ·cases rs_ h
     exact ai SC
    ·refine aj cs h (fun cs h=>S ?_) (fun cs h=>S ?_)
     ·cases rs_ h
      exact ai SC
     ·refine aj cs h (fun cs h=>S ?_) (fun cs h=>S ?_)
      ·cases rs_ h
       exact ai SC
      ·refine aj cs h (fun cs h=>S ?_) (fun cs h=>S ?_)
       ·cases rs_ h
        exact ai SC
       ·refine aj cs h (fun cs h=>S ?_) (fun cs h=>S ?_)
        ·cases rs_ h
         exact ai SC
        ·refine aj cs h (fun cs h=>S ?_) (fun cs h=>S ?_)
         ·cases rs_ h
          exact ai SC
         ·refine aj cs h (fun cs h=>S ?_) (fun cs h=>S ?_)
          ·cases rs_ h
           exact ai SC
          ·refine aj cs h (fun cs h=>S ?_) (fun cs h=>S ?_)
           ·cases rs_ h
            exact ai SC
           ·obtain⟨N14,hN14,h⟩:=rb_ h
            obtain⟨hN14a,hN14b⟩:=bs_ hN14
            replace h:=rl_ h
            refine MfA_ (N:=N14) (a:=1) h (fun i14 s14=>[(0,.val (.pv (Sx a0))),(3,.val (.pv (I (i14:Int))))]) (fun i14 s14=>[]) (Slm_ SC) (fun i14 s14 hi hj h=>?_) (fun j14 s14 hj h=>?_)
            ·have w:=ws_ (i:=i14) (by omega)
             refine S ?_
             refine aG cs (by omega) (fun cs=>S ?_)
             obtain⟨v36,hv36,h⟩:=rb_ h
             refine aY hv36 (S ?_)
             obtain⟨v37,hv37,h⟩:=rb_ h
             refine al [false] (slS_5 hv37) SC (S ?_)
             refine aj cs h (fun cs h=>S ?_) (fun cs h=>S ?_)
             ·have h:=rs_ h
              refine av ⟨_,h,?_⟩
              exact Slm_ SWx
             ·obtain⟨v42,hv42,h⟩:=rb_ h
              refine aY hv42 (S ?_)
              refine aj cs h (fun cs h=>S ?_) (fun cs h=>S ?_)
              ·have h:=rs_ h
               refine av ⟨_,h,?_⟩
               exact Slm_ SWx
              ·cases rs_ h
               exact ai SC
            ·refine S ?_
             refine aH cs (by omega) (fun cs=>S ?_)
             cases rs_ h
             exact ai SC
 ·cases rs_ h
  exact ai SC

theorem slN_2(n:Nat):(∀ (a0:Tt) (r:Bool),slN_ n a0=some r→Sat ah 39 [((ae false) a0)] (B r)):=by
 induction n with
 | zero=>exact fun _ _ h=>by simp[slN_] at h
 | succ n ih=>
  refine fun a0 r h=>?_
  obtain⟨h,cs⟩:=Ro_ h
  rw[slN_] at h
  refine aq (nt:=35) (rs:=[.tmp 2]) (n:=100000) Try.func39 rfl rfl rfl rfl (by simp) (S ?_)
  obtain⟨v6,hv6,h⟩:=rb_ h
  refine al [false] (slV_2 hv6) SC (S ?_)
  refine aj cs h (fun cs h=>S ?_) (fun cs h=>S ?_)
  ·cases rs_ h
   exact ai SC
  ·obtain⟨v13,hv13,h⟩:=rb_ h
   refine al [false] (slS_7 hv13) SC (S ?_)
   refine aj cs h (fun cs h=>S ?_) (fun cs h=>S ?_)
   ·refine aj cs h (fun cs h=>S ?_) (fun cs h=>S ?_)
    ·cases rs_ h
     exact ai SC
    ·refine aU (b:=false) (sz:=2) (es:=a0.Args.map (ae false)) 17 SC fun hl17=>?_; rw[aK] at hl17
     replace h:=rl_ h
     refine aN h (fun i6 s6=>[(1,.box (.pv ((ae false) a0))),(3,.val (.pv (I (i6:Int))))]) (fun i6 s6=>[]) (Slm_ SC) (fun i6 s6 hi h=>?_) (fun s6 h=>?_)
     ·have w:=ws_ (i:=i6) (by omega)
      refine S ?_
      refine aG cs (by omega) (fun cs=>S ?_)
      obtain⟨v31,hv31,h⟩:=rb_ h
      refine az (f:=(ae false)) hv31 SC (S ?_)
      obtain⟨v33,hv33,h⟩:=rb_ h
      refine al [false] (ih _ _ hv33) SC (S ?_)
      refine aj cs h (fun cs h=>S ?_) (fun cs h=>S ?_)
      ·have h:=rs_ h
       refine av ⟨_,h,?_⟩
       exact Slm_ SWx
      ·cases rs_ h
       exact ai SC
     ·refine S ?_
      refine aH cs (by omega) (fun cs=>S ?_)
      cases rs_ h
      exact ai SC
   ·cases rs_ h
    exact ai SC
theorem slN_3{a0:Tt}{r:Bool}(h:slN_1 a0=some r):Sat ah 39 [((ae false) a0)] (B r):=by
 obtain⟨n,hn⟩:=ls_ h
 exact(slN_2 n) _ _ hn

theorem slG_7{a0:Tt}  {r:Bool}(h:slG_2 a0=some r):Sat ah 24 [((ae false) a0)] (B r):=by
 obtain⟨h,cs⟩:=Ro_ h
 unfold slG_2 at h
 refine aq (nt:=9) (rs:=[.tmp 2]) (n:=100000) Try.func24 rfl rfl rfl rfl (by simp) (S ?_)
 obtain⟨v4,hv4,h⟩:=rb_ h
 refine al [false] (slF_1 hv4) SC (S ?_)
 refine aj cs h (fun cs h=>S ?_) (fun cs h=>S ?_)
 ·obtain⟨v7,hv7,h⟩:=rb_ h
  refine al [false] (slN_3 hv7) SC (S ?_)
  cases rs_ h
  exact ai SC
 ·cases rs_ h
  exact ai SC

theorem slP_1{a0:List ByteArray}{a1:ByteArray}  {r:List ByteArray}(h:slP_ a0 a1=some r):Sat ah 54 [(.sl false 1 (a0.map Sx)),(Sx a1)] (.sl false 1 (r.map Sx)):=by
 obtain⟨h,cs⟩:=Ro_ h
 unfold slP_ at h
 refine aq (nt:=45) (rs:=[.tmp 4]) (n:=100000) Try.func54 rfl rfl rfl rfl (by simp) (S ?_)
 refine aU (b:=false) (sz:=1) (es:=a0.map Sx) 0 SC fun hl0=>?_; rw[aK] at hl0
 replace h:=rl_ h
 refine aN h (fun i2 s2=>[(0,.val (.pv (.sl false 1 (a0.map Sx)))),(1,.val (.pv (Sx a1))),(5,.val (.pv (I (i2:Int))))]) (fun i2 s2=>[]) (Slm_ SC) (fun i2 s2 hi h=>?_) (fun s2 h=>?_)
 ·have w:=ws_ (i:=i2) (by omega)
  refine S ?_
  refine aG cs (by omega) (fun cs=>S ?_)
  obtain⟨v13,hv13,h⟩:=rb_ h
  refine az (f:=Sx) hv13 SC (S ?_)
  refine aj cs h (fun cs h=>S ?_) (fun cs h=>S ?_)
  ·have h:=rs_ h
   refine av ⟨_,h,?_⟩
   exact Slm_ SWx
  ·obtain⟨v27,hv27,h⟩:=rb_ h
   refine az (f:=Sx) hv27 SC (S ?_)
   refine aj cs h (fun cs h=>S ?_) (fun cs h=>S ?_)
   ·cases rs_ h
    exact FinH.r SC
   ·obtain⟨v36,hv36,h⟩:=rb_ h
    refine SlcH.mk (f:=Sx) hv36 SC (S ?_)
    obtain⟨v37,hv37,h⟩:=rb_ h
    refine AppH.mk (f:=Sx) (fun _=>rfl) hv37 SC SC (S ?_)
    obtain⟨v40,hv40,h⟩:=rb_ h
    refine AppH.mk (f:=Sx) (fun _=>rfl) hv40 SC SC (S ?_)
    obtain⟨v43,hv43,h⟩:=rb_ h
    refine SlcH.mk (f:=Sx) hv43 SC (S ?_)
    obtain⟨v44,hv44,h⟩:=rb_ h
    refine AppH.mk (f:=Sx) (fun _=>rfl) hv44 SC SC (S ?_)
    refine aa (DHa_ [] [528,592,624,640,704]) (S ?_)
    cases rs_ h
    exact FinH.r SC
 ·refine S ?_
  refine aH cs (by omega) (fun cs=>S ?_)
  obtain⟨v36,hv36,h⟩:=rb_ h
  refine SlcH.mk (f:=Sx) hv36 SC (S ?_)
  obtain⟨v37,hv37,h⟩:=rb_ h
  refine AppH.mk (f:=Sx) (fun _=>rfl) hv37 SC SC (S ?_)
  obtain⟨v40,hv40,h⟩:=rb_ h
  refine AppH.mk (f:=Sx) (fun _=>rfl) hv40 SC SC (S ?_)
  obtain⟨v43,hv43,h⟩:=rb_ h
  refine SlcH.mk (f:=Sx) hv43 SC (S ?_)
  obtain⟨v44,hv44,h⟩:=rb_ h
  refine AppH.mk (f:=Sx) (fun _=>rfl) hv44 SC SC (S ?_)
  refine aa (DHa_ [] [528,592,624,640,704]) (S ?_)
  cases rs_ h
  exact FinH.r SC

theorem slI_4(n:Nat):(∀ (a0:List ByteArray) (a1:Tt) (r:List ByteArray),slI_ n a0 a1=some r→Sat ah 47 [(.sl false 1 (a0.map Sx)),((ae false) a1)] (.sl false 1 (r.map Sx))):=by
 induction n with
 | zero=>exact fun _ _ _ h=>by simp[slI_] at h
 | succ n ih=>
  refine fun a0 a1 r h=>?_
  obtain⟨h,cs⟩:=Ro_ h
  rw[slI_] at h
  refine aq (nt:=28) (rs:=[.tmp 4]) (n:=100000) Try.func47 rfl rfl rfl rfl (by simp) (S ?_)
  obtain⟨v8,hv8,h⟩:=rb_ h
  refine al [false] (slV_2 hv8) SC (S ?_)
  refine aj cs h (fun cs h=>S ?_) (fun cs h=>S ?_)
  ·obtain⟨v12,hv12,h⟩:=rb_ h
   refine al [false,false] (slP_1 hv12) SC (S ?_)
   cases rs_ h
   exact FinH.r SC
  ·refine Mkv_ (b:=false) (sz:=2) (es:=a1.Args.map (ae false)) (x:=(.pv ((ae false) a1))) 1 [1] SC fun hl1=>?_; rw[aK] at hl1
   replace h:=rl_ h
   refine aN h (fun i4 s4=>[(0,.val (.pv (.sl false 1 (s4.map Sx)))),(3,.box (.pv ((ae false) a1))),(5,.val (.pv (I (i4:Int))))]) (fun i4 s4=>[]) (Slm_ SC) (fun i4 s4 hi h=>?_) (fun s4 h=>?_)
   ·have w:=ws_ (i:=i4) (by omega)
    refine S ?_
    refine aG cs (by omega) (fun cs=>S ?_)
    obtain⟨v24,hv24,h⟩:=rb_ h
    refine az (f:=(ae false)) hv24 SC (S ?_)
    obtain⟨v26,hv26,h⟩:=rb_ h
    refine al [false,false] (ih _ _ _ hv26) SC (S ?_)
    have h:=rs_ h
    refine av ⟨_,h,?_⟩
    exact Slm_ SWx
   ·refine S ?_
    refine aH cs (by omega) (fun cs=>S ?_)
    cases rs_ h
    exact FinH.r SC
theorem slI_5{a0:List ByteArray}{a1:Tt}{r:List ByteArray}(h:slI_3 a0 a1=some r):Sat ah 47 [(.sl false 1 (a0.map Sx)),((ae false) a1)] (.sl false 1 (r.map Sx)):=by
 obtain⟨n,hn⟩:=ls_ h
 exact(slI_4 n) _ _ _ hn

theorem slV_3{a0:Tt}  {r:List ByteArray}(h:slV_1 a0=some r):Sat ah 40 [((ae false) a0)] (.sl false 1 (r.map Sx)):=by
 obtain⟨h,cs⟩:=Ro_ h
 unfold slV_1 at h
 refine aq (nt:=6) (rs:=[.tmp 2]) (n:=100000) Try.func40 rfl rfl rfl rfl (by simp) (S ?_)
 obtain⟨v5,hv5,h⟩:=rb_ h
 refine al [true,false] (Sg_ (args:=[(.sl true 1 (([]).map Sx)),((ae false) a0)]) [true,false] (by have gg:=slI_5 hv5; simp only[gv_t,gv_f,gv_n,vs_,va_,vl_,vrB_,vrI_,PV.views,RB,RS] at gg ⊢; exact gg)) SC (S ?_)
 cases rs_ h
 exact FinH.r SC

theorem slG_6{a0:Tt}  {r:Bool}(h:slG_1 a0=some r):Sat ah 25 [((ae false) a0)] (B r):=by
 obtain⟨h,cs⟩:=Ro_ h
 unfold slG_1 at h
 refine aq (nt:=7) (rs:=[.tmp 2]) (n:=100000) Try.func25 rfl rfl rfl rfl (by simp) (S ?_)
 obtain⟨v4,hv4,h⟩:=rb_ h
 refine al [false] (slV_3 hv4) SC (S ?_)
 cases rs_ h
 exact ai SC

theorem slT_1{a0:List Tt}  {r:Bool}(h:slT_ a0=some r):Sat ah 16 [(.sl false 2 (a0.map (ae false)))] (B r):=by
 obtain⟨h,cs⟩:=Ro_ h
 unfold slT_ at h
 refine aq (nt:=31) (rs:=[.tmp 2]) (n:=100000) Try.func16 rfl rfl rfl rfl (by simp) (S ?_)
 refine aU (b:=false) (sz:=2) (es:=a0.map (ae false)) 0 SC fun hl0=>?_; rw[aK] at hl0
 replace h:=rl_ h
 refine aN h (fun i2 s2=>[(0,.val (.pv (.sl false 2 (a0.map (ae false))))),(3,.val (.pv (I (i2:Int))))]) (fun i2 s2=>[]) (Slm_ SC) (fun i2 s2 hi h=>?_) (fun s2 h=>?_)
 ·have w:=ws_ (i:=i2) (by omega)
  refine S ?_
  refine aG cs (by omega) (fun cs=>S ?_)
  refine aj cs h (fun cs h=>S ?_) (fun cs h=>S ?_)
  ·obtain⟨v16,hv16,h⟩:=rb_ h
   refine az (f:=(ae false)) hv16 SC (S ?_)
   obtain⟨v18,hv18,h⟩:=rb_ h
   refine al [false] (slG_7 hv18) SC (S ?_)
   refine aj cs h (fun cs h=>S ?_) (fun cs h=>S ?_)
   ·obtain⟨v23,hv23,h⟩:=rb_ h
    refine az (f:=(ae false)) hv23 SC (S ?_)
    obtain⟨v25,hv25,h⟩:=rb_ h
    refine al [false] (slG_6 hv25) SC (S ?_)
    refine aj cs h (fun cs h=>S ?_) (fun cs h=>S ?_)
    ·have h:=rs_ h
     refine av ⟨_,h,?_⟩
     exact Slm_ SWx
    ·cases rs_ h
     exact ai SC
   ·cases rs_ h
    exact ai SC
  ·cases rs_ h
   exact ai SC
 ·refine S ?_
  refine aH cs (by omega) (fun cs=>S ?_)
  cases rs_ h
  exact ai SC

theorem slS_8(n:Nat):(∀ (a0:Tt) (a1:Tt) (r:Bool),slS_ n a0 a1=some r→Sat ah 26 [((ae false) a0),((ae false) a1)] (B r)):=by
 induction n with
 | zero=>exact fun _ _ _ h=>by simp[slS_] at h
 | succ n ih=>
  refine fun a0 a1 r h=>?_
  obtain⟨h,cs⟩:=Ro_ h
  rw[slS_] at h
  refine aq (nt:=39) (rs:=[.tmp 4]) (n:=100000) Try.func26 rfl rfl rfl rfl (by simp) (S ?_)
  refine aj cs h (fun cs h=>S ?_) (fun cs h=>S ?_)
  ·refine aj cs h (fun cs h=>S ?_) (fun cs h=>S ?_)
   ·refine aU (b:=false) (sz:=2) (es:=a0.Args.map (ae false)) 13 SC fun hl13=>?_; rw[aK] at hl13
    replace h:=rl_ h
    refine aN h (fun i4 s4=>[(2,.box (.pv ((ae false) a0))),(3,.box (.pv ((ae false) a1))),(5,.val (.pv (I (i4:Int))))]) (fun i4 s4=>[]) (Slm_ SC) (fun i4 s4 hi h=>?_) (fun s4 h=>?_)
    ·have w:=ws_ (i:=i4) (by omega)
     refine S ?_
     refine aG cs (by omega) (fun cs=>S ?_)
     obtain⟨v30,hv30,h⟩:=rb_ h
     refine az (f:=(ae false)) hv30 SC (S ?_)
     obtain⟨v35,hv35,h⟩:=rb_ h
     refine az (f:=(ae false)) hv35 SC (S ?_)
     obtain⟨v37,hv37,h⟩:=rb_ h
     refine al [false,false] (ih _ _ _ hv37) SC (S ?_)
     refine aa (DHa_ [] []) (S ?_)
     refine aj cs h (fun cs h=>S ?_) (fun cs h=>S ?_)
     ·have h:=rs_ h
      refine av ⟨_,h,?_⟩
      exact Slm_ SWx
     ·cases rs_ h
      exact ai SC
    ·refine S ?_
     refine aH cs (by omega) (fun cs=>S ?_)
     cases rs_ h
     exact ai SC
   ·cases rs_ h
    exact ai SC
  ·cases rs_ h
   exact ai SC
theorem slS_6{a0:Tt}{a1:Tt}{r:Bool}(h:slS_3 a0 a1=some r):Sat ah 26 [((ae false) a0),((ae false) a1)] (B r):=by
 obtain⟨n,hn⟩:=ls_ h
 exact(slS_8 n) _ _ _ hn

theorem slO_3(n:Nat):(∀ (a0:Tt) (r:Tt),slO_ n a0=some r→Sat ah 27 [((ae false) a0)] ((ae true) r)):=by
 induction n with
 | zero=>exact fun _ _ h=>by simp[slO_] at h
 | succ n ih=>
  refine fun a0 r h=>?_
  obtain⟨h,cs⟩:=Ro_ h
  rw[slO_] at h
  refine aq (nt:=27) (rs:=[.cell 2 26]) (n:=100000) Try.func27 rfl rfl rfl rfl (by simp) (S ?_)
  refine Mkv_ (b:=false) (sz:=2) (es:=a0.Args.map (ae false)) (x:=(.pv ((ae false) a0))) 0 [1] SC fun hl0=>?_; rw[aK] at hl0
  replace h:=rl_ h
  refine aN h (fun i3 s3=>[(1,.box (.pv ((ae false) a0))),(2,.box (.node [(.pv (Sx ⟨#[]⟩)),(.pv (.sl true 2 []))])),(3,.box (.node [(.pv (Sx a0.Name)),(.own 9309)])),(4,.val (.pv (I (i3:Int))))]) (fun i3 s3=>[(9309,(2,s3.map (ae true)))]) (aV (Sln_ (x:=(.node [(.pv (Sx a0.Name)),(.pv (.sl true 2 []))])) 3 [1] 9309 2 NM SC SC SC) (Slm_ SC)) (fun i3 s3 hi h=>?_) (fun s3 h=>?_)
  ·have w:=ws_ (i:=i3) (by omega)
   refine S ?_
   refine aG cs (by omega) (fun cs=>S ?_)
   obtain⟨v20,hv20,h⟩:=rb_ h
   refine az (f:=(ae false)) hv20 SC (S ?_)
   obtain⟨v22,hv22,h⟩:=rb_ h
   refine al [false] (ih _ _ hv22) SC (S ?_)
   obtain⟨v24,hv24,h⟩:=rb_ h
   refine AppH.mk (f:=(ae true)) (fun a=>Tp_ _ a) hv24 SC SC (S ?_)
   refine aa (DHa_ [] [352,368,384]) (S ?_)
   have h:=rs_ h
   refine av ⟨_,h,?_⟩
   refine aV (Slm_1 (S:=[(1,.box (.pv ((ae false) a0))),(2,.box (.node [(.pv (Sx ⟨#[]⟩)),(.pv (.sl true 2 []))])),(3,.box (.node [(.pv (Sx a0.Name)),(.own 384)])),(4,.val (.pv (I (IntKind.i64.wrap ((i3:Int)+1)))))]) (O:=[(384,(2,v24.map (ae true)))]) SWx SWx) ?_
   refine Slr_ 384 9309 (by decide) NM ?_
   exact Slm_ SWx
  ·refine S ?_
   refine aH cs (by omega) (fun cs=>S ?_)
   cases rs_ h
   exact ai SC
theorem slO_2{a0:Tt}{r:Tt}(h:slO_1 a0=some r):Sat ah 27 [((ae false) a0)] ((ae true) r):=by
 obtain⟨n,hn⟩:=ls_ h
 exact(slO_3 n) _ _ hn

theorem slC_1{a0:List Tt}  {r:List Tt}(h:slC_ a0=some r):Sat ah 28 [(.sl false 2 (a0.map (ae false)))] (.sl true 2 (r.map (ae true))):=by
 obtain⟨h,cs⟩:=Ro_ h
 unfold slC_ at h
 refine aq (nt:=21) (rs:=[.tmp 2]) (n:=100000) Try.func28 rfl rfl rfl rfl (by simp) (S ?_)
 refine aU (b:=false) (sz:=2) (es:=a0.map (ae false)) 0 SC fun hl0=>?_; rw[aK] at hl0
 replace h:=rl_ h
 refine aN h (fun i3 s3=>[(0,.val (.pv (.sl false 2 (a0.map (ae false))))),(3,.val (.own 80)),(4,.val (.pv (I (i3:Int))))]) (fun i3 s3=>[(80,(2,s3.map (ae true)))]) (Slm_ SC) (fun i3 s3 hi h=>?_) (fun s3 h=>?_)
 ·have w:=ws_ (i:=i3) (by omega)
  refine S ?_
  refine aG cs (by omega) (fun cs=>S ?_)
  obtain⟨v15,hv15,h⟩:=rb_ h
  refine az (f:=(ae false)) hv15 SC (S ?_)
  obtain⟨v17,hv17,h⟩:=rb_ h
  refine al [false] (slO_2 hv17) SC (S ?_)
  obtain⟨v19,hv19,h⟩:=rb_ h
  refine AppH.mk (f:=(ae true)) (fun a=>Tp_ _ a) hv19 SC SC (S ?_)
  have h:=rs_ h
  refine av ⟨_,h,?_⟩
  refine aV (Slm_1 (S:=[(0,.val (.pv (.sl false 2 (a0.map (ae false))))),(3,.val (.own 304)),(4,.val (.pv (I (IntKind.i64.wrap ((i3:Int)+1)))))]) (O:=[(304,(2,v19.map (ae true)))]) SWx SWx) ?_
  refine Slr_ 304 80 (by decide) NM ?_
  exact Slm_ SWx
 ·refine S ?_
  refine aH cs (by omega) (fun cs=>S ?_)
  cases rs_ h
  exact ai SC

theorem slS_9{a0:List Tt}{a1:List Tt}  {r:Bool}(h:slS_4 a0 a1=some r):Sat ah 29 [(.sl false 2 (a0.map (ae false))),(.sl false 2 (a1.map (ae false)))] (B r):=by
 obtain⟨h,cs⟩:=Ro_ h
 unfold slS_4 at h
 refine aq (nt:=27) (rs:=[.tmp 4]) (n:=100000) Try.func29 rfl rfl rfl rfl (by simp) (S ?_)
 refine aj cs h (fun cs h=>S ?_) (fun cs h=>S ?_)
 ·refine aU (b:=false) (sz:=2) (es:=a0.map (ae false)) 0 SC fun hl0=>?_; rw[aK] at hl0
  replace h:=rl_ h
  refine aN h (fun i4 s4=>[(0,.val (.pv (.sl false 2 (a0.map (ae false))))),(1,.val (.pv (.sl false 2 (a1.map (ae false))))),(5,.val (.pv (I (i4:Int))))]) (fun i4 s4=>[]) (Slm_ SC) (fun i4 s4 hi h=>?_) (fun s4 h=>?_)
  ·have w:=ws_ (i:=i4) (by omega)
   refine S ?_
   refine aG cs (by omega) (fun cs=>S ?_)
   obtain⟨v19,hv19,h⟩:=rb_ h
   refine az (f:=(ae false)) hv19 SC (S ?_)
   obtain⟨v23,hv23,h⟩:=rb_ h
   refine az (f:=(ae false)) hv23 SC (S ?_)
   obtain⟨v25,hv25,h⟩:=rb_ h
   refine al [false,false] (slS_6 hv25) SC (S ?_)
   refine aa (DHa_ [] []) (S ?_)
   refine aj cs h (fun cs h=>S ?_) (fun cs h=>S ?_)
   ·have h:=rs_ h
    refine av ⟨_,h,?_⟩
    exact Slm_ SWx
   ·cases rs_ h
    exact ai SC
  ·refine S ?_
   refine aH cs (by omega) (fun cs=>S ?_)
   cases rs_ h
   exact ai SC
 ·cases rs_ h
  exact ai SC

theorem slG_4(n:Nat):(∀ (a0:List Tt) (r:Tt×(List Tt)),slG_ n a0=some r→Sat ah 17 [(.sl false 2 (a0.map (ae false)))] (.tup [((ae true) r.1),(.sl true 2 (r.2.map (ae true)))])):=by
 induction n with
 | zero=>exact fun _ _ h=>by simp[slG_] at h
 | succ n ih=>
  refine fun a0 r h=>?_
  obtain⟨h,cs⟩:=Ro_ h
  rw[slG_] at h
  refine aq (nt:=130) (rs:=[.cell 2 26,.tmp 3]) (n:=100000) Try.func17 rfl rfl rfl rfl (by simp) (S ?_)
  obtain⟨v17,hv17,h⟩:=rb_ h
  refine az (f:=(ae false)) hv17 SC (S ?_)
  refine aU (b:=false) (sz:=2) (es:=a0.map (ae false)) 0 SC fun hl0=>?_; rw[aK] at hl0
  replace h:=rl_ h
  refine MfA_ (N:=a0.length) (a:=1) h (fun i4 s4=>[(0,.val (.pv (.sl false 2 (a0.map (ae false))))),(2,.box (.node [(.pv (Sx ⟨#[]⟩)),(.pv (.sl true 2 []))])),(4,.box (.pv ((ae false) v17))),(5,.val (.pv (B s4.1))),(6,.val (.pv (B s4.2))),(7,.val (.pv (I (i4:Int))))]) (fun i4 s4=>[]) (Slm_ SC) (fun i4 s4 hi hj h=>?_) (fun j4 s4 hj h=>?_)
  ·have w:=ws_ (i:=i4) (by omega)
   refine S ?_
   refine aG cs (by omega) (fun cs=>S ?_)
   refine aj cs h (fun cs h=>S ?_) (fun cs h=>S ?_)
   ·obtain⟨v30,hv30,h⟩:=rb_ h
    refine az (f:=(ae false)) hv30 SC (S ?_)
    obtain⟨v32,hv32,h⟩:=rb_ h
    refine al [false,false] (slS_6 hv32) SC (S ?_)
    refine aa (DHa_ [] []) (S ?_)
    refine aj cs h (fun cs h=>S ?_) (fun cs h=>S ?_)
    ·obtain⟨v38,hv38,h⟩:=rb_ h
     refine az (f:=(ae false)) hv38 SC (S ?_)
     refine aj cs h (fun cs h=>S ?_) (fun cs h=>S ?_)
     ·obtain⟨v48,hv48,h⟩:=rb_ h
      refine az (f:=(ae false)) hv48 SC (S ?_)
      refine aa (DHa_ [] []) (S ?_)
      have h:=rs_ h
      refine av ⟨_,h,?_⟩
      exact Slm_ SWx
     ·refine aa (DHa_ [] []) (S ?_)
      have h:=rs_ h
      refine av ⟨_,h,?_⟩
      exact Slm_ SWx
    ·refine aa (DHa_ [] []) (S ?_)
     have h:=rs_ h
     refine av ⟨_,h,?_⟩
     exact Slm_ SWx
   ·refine aa (DHa_ [] []) (S ?_)
    refine aj cs h (fun cs h=>S ?_) (fun cs h=>S ?_)
    ·obtain⟨v38,hv38,h⟩:=rb_ h
     refine az (f:=(ae false)) hv38 SC (S ?_)
     refine aj cs h (fun cs h=>S ?_) (fun cs h=>S ?_)
     ·obtain⟨v48,hv48,h⟩:=rb_ h
      refine az (f:=(ae false)) hv48 SC (S ?_)
      refine aa (DHa_ [] []) (S ?_)
      have h:=rs_ h
      refine av ⟨_,h,?_⟩
      exact Slm_ SWx
     ·refine aa (DHa_ [] []) (S ?_)
      have h:=rs_ h
      refine av ⟨_,h,?_⟩
      exact Slm_ SWx
    ·refine aa (DHa_ [] []) (S ?_)
     have h:=rs_ h
     refine av ⟨_,h,?_⟩
     exact Slm_ SWx
  ·refine S ?_
   refine aH cs (by omega) (fun cs=>S ?_)
   refine aj cs h (fun cs h=>S ?_) (fun cs h=>S ?_)
   ·obtain⟨v59,hv59,h⟩:=rb_ h
    refine al [false] (slO_2 hv59) SC (S ?_)
    cases rs_ h
    exact ai SC
   ·refine aj cs h (fun cs h=>S ?_) (fun cs h=>S ?_)
    ·refine Mkb_ (b:=false) (sz:=2) (es:=v17.Args.map (ae false)) (x:=(.pv ((ae false) v17))) 4 [1] SC fun hl4=>?_; rw[aK] at hl4
     replace h:=rl_ h
     refine aN h (fun i16 s16=>[(0,.val (.pv (.sl false 2 (a0.map (ae false))))),(2,.box (.node [(.pv (Sx ⟨#[]⟩)),(.pv (.sl true 2 []))])),(4,.box (.pv ((ae false) v17))),(8,.box (.node [(.pv (Sx (⟨#[65]⟩:ByteArray))),(.pv (.sl true 2 []))])),(9,.box (.node [(.pv (Sx v17.Name)),(.own 9348)])),(10,.val (.own 1120)),(11,.val (.pv (I (i16:Int))))]) (fun i16 s16=>[(9348,(2,s16.2.map (ae true))),(1120,(2,s16.1.map (ae true)))]) (aV (Sln_ (x:=(.node [(.pv (Sx v17.Name)),(.pv (.sl true 2 []))])) 9 [1] 9348 2 NM SC SC SC) (Slm_ SC)) (fun i16 s16 hi h=>?_) (fun s16 h=>?_)
     ·have w:=ws_ (i:=i16) (by omega)
      refine S ?_
      refine aG cs (by omega) (fun cs=>S ?_)
      refine aU (b:=false) (sz:=2) (es:=a0.map (ae false)) 0 SC fun hl0=>?_; rw[aK] at hl0
      replace h:=rl_ h
      refine aN h (fun i20 s20=>[(0,.val (.pv (.sl false 2 (a0.map (ae false))))),(2,.box (.node [(.pv (Sx ⟨#[]⟩)),(.pv (.sl true 2 []))])),(4,.box (.pv ((ae false) v17))),(8,.box (.node [(.pv (Sx (⟨#[65]⟩:ByteArray))),(.pv (.sl true 2 []))])),(9,.box (.node [(.pv (Sx v17.Name)),(.own 9348)])),(10,.val (.own 1120)),(11,.val (.pv (I (i16:Int)))),(12,.val (.own 1248)),(13,.val (.pv (I (i20:Int))))]) (fun i20 s20=>[(9348,(2,s16.2.map (ae true))),(1120,(2,s16.1.map (ae true))),(1248,(2,s20.map (ae false)))]) (Slm_ SC) (fun i20 s20 hi h=>?_) (fun s20 h=>?_)
      ·have w:=ws_ (i:=i20) (by omega)
       refine S ?_
       refine aG cs (by omega) (fun cs=>S ?_)
       obtain⟨v88,hv88,h⟩:=rb_ h
       refine az (f:=(ae false)) hv88 SC (S ?_)
       obtain⟨v92,hv92,h⟩:=rb_ h
       refine az (f:=(ae false)) hv92 SC (S ?_)
       obtain⟨v95,hv95,h⟩:=rb_ h
       refine AppH.mk (f:=(ae false)) (fun a=>Tp_ _ a) hv95 SC SC (S ?_)
       have h:=rs_ h
       refine av ⟨_,h,?_⟩
       refine aV (Slm_1 (S:=[(0,.val (.pv (.sl false 2 (a0.map (ae false))))),(2,.box (.node [(.pv (Sx ⟨#[]⟩)),(.pv (.sl true 2 []))])),(4,.box (.pv ((ae false) v17))),(8,.box (.node [(.pv (Sx (⟨#[65]⟩:ByteArray))),(.pv (.sl true 2 []))])),(9,.box (.node [(.pv (Sx v17.Name)),(.own 9348)])),(10,.val (.own 1120)),(11,.val (.pv (I (i16:Int)))),(12,.val (.own 1520)),(13,.val (.pv (I (IntKind.i64.wrap ((i20:Int)+1)))))]) (O:=[(9348,(2,s16.2.map (ae true))),(1120,(2,s16.1.map (ae true))),(1520,(2,v95.map (ae false)))]) SWx SWx) ?_
       refine Slr_ 1520 1248 (by decide) NM ?_
       exact Slm_ SWx
      ·refine S ?_
       refine aH cs (by omega) (fun cs=>S ?_)
       obtain⟨v98,hv98,h⟩:=rb_ h
       refine al [false] (ih _ _ hv98) SC (S ?_)
       refine aj cs h (fun cs h=>S ?_) (fun cs h=>S ?_)
       ·refine aj cs h (fun cs h=>S ?_) (fun cs h=>S ?_)
        ·obtain⟨v112,hv112,h⟩:=rb_ h
         refine al [false,false] (slS_9 hv112) SC (S ?_)
         refine aj cs h (fun cs h=>S ?_) (fun cs h=>S ?_)
         ·obtain⟨v126,hv126,h⟩:=rb_ h
          refine AppH.mk (f:=(ae true)) (fun a=>Tp_ _ a) hv126 SC SC (S ?_)
          have h:=rs_ h
          refine av ⟨_,h,?_⟩
          refine aV (Slm_1 (S:=[(0,.val (.pv (.sl false 2 (a0.map (ae false))))),(2,.box (.node [(.pv (Sx ⟨#[]⟩)),(.pv (.sl true 2 []))])),(4,.box (.pv ((ae false) v17))),(8,.box (.node [(.pv (Sx (⟨#[65]⟩:ByteArray))),(.pv (.sl true 2 []))])),(9,.box (.node [(.pv (Sx v17.Name)),(.own 2016)])),(10,.val (.own 1569)),(11,.val (.pv (I (IntKind.i64.wrap ((i16:Int)+1)))))]) (O:=[(2016,(2,v126.map (ae true))),(1569,(2,v98.2.map (ae true)))]) SWx SWx) ?_
          refine Slr_ 2016 9348 (by decide) NM ?_
          refine aV (Slm_1 (S:=[(0,.val (.pv (.sl false 2 (a0.map (ae false))))),(2,.box (.node [(.pv (Sx ⟨#[]⟩)),(.pv (.sl true 2 []))])),(4,.box (.pv ((ae false) v17))),(8,.box (.node [(.pv (Sx (⟨#[65]⟩:ByteArray))),(.pv (.sl true 2 []))])),(9,.box (.node [(.pv (Sx v17.Name)),(.own 9348)])),(10,.val (.own 1569)),(11,.val (.pv (I (IntKind.i64.wrap ((i16:Int)+1)))))]) (O:=[(9348,(2,v126.map (ae true))),(1569,(2,v98.2.map (ae true)))]) SWx SWx) ?_
          refine Slr_ 1569 1120 (by decide) NM ?_
          exact Slm_ SWx
         ·obtain⟨v117,hv117,h⟩:=rb_ h
          refine al [false] (slC_1 hv117) SC (S ?_)
          refine aa (DHa_ [] [1872]) (S ?_)
          cases rs_ h
          exact ai SC
        ·obtain⟨v126,hv126,h⟩:=rb_ h
         refine AppH.mk (f:=(ae true)) (fun a=>Tp_ _ a) hv126 SC SC (S ?_)
         have h:=rs_ h
         refine av ⟨_,h,?_⟩
         refine aV (Slm_1 (S:=[(0,.val (.pv (.sl false 2 (a0.map (ae false))))),(2,.box (.node [(.pv (Sx ⟨#[]⟩)),(.pv (.sl true 2 []))])),(4,.box (.pv ((ae false) v17))),(8,.box (.node [(.pv (Sx (⟨#[65]⟩:ByteArray))),(.pv (.sl true 2 []))])),(9,.box (.node [(.pv (Sx v17.Name)),(.own 2016)])),(10,.val (.own 1569)),(11,.val (.pv (I (IntKind.i64.wrap ((i16:Int)+1)))))]) (O:=[(2016,(2,v126.map (ae true))),(1569,(2,v98.2.map (ae true)))]) SWx SWx) ?_
         refine Slr_ 2016 9348 (by decide) NM ?_
         refine aV (Slm_1 (S:=[(0,.val (.pv (.sl false 2 (a0.map (ae false))))),(2,.box (.node [(.pv (Sx ⟨#[]⟩)),(.pv (.sl true 2 []))])),(4,.box (.pv ((ae false) v17))),(8,.box (.node [(.pv (Sx (⟨#[65]⟩:ByteArray))),(.pv (.sl true 2 []))])),(9,.box (.node [(.pv (Sx v17.Name)),(.own 9348)])),(10,.val (.own 1569)),(11,.val (.pv (I (IntKind.i64.wrap ((i16:Int)+1)))))]) (O:=[(9348,(2,v126.map (ae true))),(1569,(2,v98.2.map (ae true)))]) SWx SWx) ?_
         refine Slr_ 1569 1120 (by decide) NM ?_
         exact Slm_ SWx
       ·obtain⟨v126,hv126,h⟩:=rb_ h
        refine AppH.mk (f:=(ae true)) (fun a=>Tp_ _ a) hv126 SC SC (S ?_)
        have h:=rs_ h
        refine av ⟨_,h,?_⟩
        refine aV (Slm_1 (S:=[(0,.val (.pv (.sl false 2 (a0.map (ae false))))),(2,.box (.node [(.pv (Sx ⟨#[]⟩)),(.pv (.sl true 2 []))])),(4,.box (.pv ((ae false) v17))),(8,.box (.node [(.pv (Sx (⟨#[65]⟩:ByteArray))),(.pv (.sl true 2 []))])),(9,.box (.node [(.pv (Sx v17.Name)),(.own 2016)])),(10,.val (.own 1120)),(11,.val (.pv (I (IntKind.i64.wrap ((i16:Int)+1)))))]) (O:=[(2016,(2,v126.map (ae true))),(1120,(2,s16.1.map (ae true)))]) SWx SWx) ?_
        refine Slr_ 2016 9348 (by decide) NM ?_
        exact Slm_ SWx
     ·refine S ?_
      refine aH cs (by omega) (fun cs=>S ?_)
      cases rs_ h
      exact ai SC
    ·obtain⟨v66,hv66,h⟩:=rb_ h
     refine al [false] (slC_1 hv66) SC (S ?_)
     refine aa (DHa_ [] [1056]) (S ?_)
     cases rs_ h
     exact ai SC
theorem slG_5{a0:List Tt}{r:Tt×(List Tt)}(h:slG_3 a0=some r):Sat ah 17 [(.sl false 2 (a0.map (ae false)))] (.tup [((ae true) r.1),(.sl true 2 (r.2.map (ae true)))]):=by
 obtain⟨n,hn⟩:=ls_ h
 exact(slG_4 n) _ _ hn

theorem sGT_1{a0:List Tt}  {r:Tt×(List Tt)×Bool}(h:sGT_ a0=some r):Sat ah 5 [(.sl false 2 (a0.map (ae false)))] (.tup [((ae true) r.1),(.sl true 2 (r.2.1.map (ae true))),(B r.2.2)]):=by
 obtain⟨h,cs⟩:=Ro_ h
 unfold sGT_ at h
 refine aq (nt:=25) (rs:=[.cell 2 26,.tmp 3,.tmp 4]) (n:=100000) Try.func5 rfl rfl rfl rfl (by simp) (S ?_)
 obtain⟨v9,hv9,h⟩:=rb_ h
 refine al [false,false,false] (slI_2 hv9) SC (S ?_)
 refine aj cs h (fun cs h=>S ?_) (fun cs h=>S ?_)
 ·obtain⟨v13,hv13,h⟩:=rb_ h
  refine al [false] (slT_1 hv13) SC (S ?_)
  refine aj cs h (fun cs h=>S ?_) (fun cs h=>S ?_)
  ·obtain⟨v20,hv20,h⟩:=rb_ h
   refine al [false] (slG_5 hv20) SC (S ?_)
   cases rs_ h
   exact ai SC
  ·cases rs_ h
   exact ai SC
 ·cases rs_ h
  exact ai SC

theorem iws_{a0:Int}{a1:Int}{a2:Int}  {r:Bool}(h:iw_ a0 a1 a2=some r):Sat ah 19 [(I a0),(I a1),(I a2)] (B r):=by
 obtain⟨h,cs⟩:=Ro_ h
 unfold iw_ at h
 refine aq (nt:=15) (rs:=[.tmp 6]) (n:=100000) Try.func19 rfl rfl rfl rfl (by simp) (S ?_)
 refine aj cs h (fun cs h=>S ?_) (fun cs h=>S ?_)
 ·cases rs_ h
  exact ai SC
 ·cases rs_ h
  exact ai SC

theorem isN_1(n:Nat):(∀ (a0:Tt) (r:Int),isN_ n a0=some r→Sat ah 55 [((ae false) a0)] (I r)):=by
 induction n with
 | zero=>exact fun _ _ h=>by simp[isN_] at h
 | succ n ih=>
  refine fun a0 r h=>?_
  obtain⟨h,cs⟩:=Ro_ h
  rw[isN_] at h
  refine aq (nt:=22) (rs:=[.tmp 2]) (n:=100000) Try.func55 rfl rfl rfl rfl (by simp) (S ?_)
  refine aU (b:=false) (sz:=2) (es:=a0.Args.map (ae false)) 7 SC fun hl7=>?_; rw[aK] at hl7
  replace h:=rl_ h
  refine aN h (fun i3 s3=>[(3,.val (.pv (I s3))),(7,.val (.pv (.sl false 2 (a0.Args.map (ae false))))),(8,.val (.pv (I (a0.Args.length:Int)))),(9,.val (.pv (I (i3:Int))))]) (fun i3 s3=>[]) (Slm_ SC) (fun i3 s3 hi h=>?_) (fun s3 h=>?_)
  ·have w:=ws_ (i:=i3) (by omega)
   refine S ?_
   refine aG cs (by omega) (fun cs=>S ?_)
   obtain⟨v11,hv11,h⟩:=rb_ h
   refine az (f:=(ae false)) hv11 SC (S ?_)
   refine aj cs h (fun cs h=>S ?_) (fun cs h=>S ?_)
   ·cases rs_ h
    exact ai SC
   ·obtain⟨v18,hv18,h⟩:=rb_ h
    refine al [false] (ih _ _ hv18) SC (S ?_)
    have h:=rs_ h
    refine av ⟨_,h,?_⟩
    exact Slm_ SWx
  ·refine S ?_
   refine aH cs (by omega) (fun cs=>S ?_)
   cases rs_ h
   exact ai SC
theorem iss_{a0:Tt}{r:Int}(h:is_ a0=some r):Sat ah 55 [((ae false) a0)] (I r):=by
 obtain⟨n,hn⟩:=ls_ h
 exact(isN_1 n) _ _ hn

theorem idN_1(n:Nat):(∀ (a0:Tt) (r:Int),idN_ n a0=some r→Sat ah 56 [((ae false) a0)] (I r)):=by
 induction n with
 | zero=>exact fun _ _ h=>by simp[idN_] at h
 | succ n ih=>
  refine fun a0 r h=>?_
  obtain⟨h,cs⟩:=Ro_ h
  rw[idN_] at h
  refine aq (nt:=20) (rs:=[.tmp 2]) (n:=100000) Try.func56 rfl rfl rfl rfl (by simp) (S ?_)
  refine aU (b:=false) (sz:=2) (es:=a0.Args.map (ae false)) 7 SC fun hl7=>?_; rw[aK] at hl7
  replace h:=rl_ h
  refine aN h (fun i3 s3=>[(3,.val (.pv (I s3))),(7,.val (.pv (.sl false 2 (a0.Args.map (ae false))))),(8,.val (.pv (I (a0.Args.length:Int)))),(9,.val (.pv (I (i3:Int))))]) (fun i3 s3=>[]) (Slm_ SC) (fun i3 s3 hi h=>?_) (fun s3 h=>?_)
  ·have w:=ws_ (i:=i3) (by omega)
   refine S ?_
   refine aG cs (by omega) (fun cs=>S ?_)
   obtain⟨v11,hv11,h⟩:=rb_ h
   refine az (f:=(ae false)) hv11 SC (S ?_)
   obtain⟨v15,hv15,h⟩:=rb_ h
   refine al [false] (ih _ _ hv15) SC (S ?_)
   have h:=rs_ h
   refine av ⟨_,h,?_⟩
   exact Slm_ SWx
  ·refine S ?_
   refine aH cs (by omega) (fun cs=>S ?_)
   cases rs_ h
   exact ai SC
theorem ids_{a0:Tt}{r:Int}(h:id_ a0=some r):Sat ah 56 [((ae false) a0)] (I r):=by
 obtain⟨n,hn⟩:=ls_ h
 exact(idN_1 n) _ _ hn

theorem iiS_3{a0:Tt}  {r:Bool}(h:iiS_1 a0=some r):Sat ah 48 [((ae false) a0)] (B r):=by
 obtain⟨h,cs⟩:=Ro_ h
 unfold iiS_1 at h
 refine aq (nt:=11) (rs:=[.tmp 2]) (n:=100000) Try.func48 rfl rfl rfl rfl (by simp) (S ?_)
 obtain⟨v4,hv4,h⟩:=rb_ h
 refine al [false] (iss_ hv4) SC (S ?_)
 refine aj cs h (fun cs h=>S ?_) (fun cs h=>S ?_)
 ·obtain⟨v8,hv8,h⟩:=rb_ h
  refine al [false] (ids_ hv8) SC (S ?_)
  cases rs_ h
  exact ai SC
 ·cases rs_ h
  exact ai SC

theorem iiU_1{a0:Int}  {r:Bool}(h:iiU_ a0=some r):Sat ah 60 [((Ik .u8) a0)] (B r):=by
 obtain⟨h,cs⟩:=Ro_ h
 unfold iiU_ at h
 refine aq (nt:=9) (rs:=[.tmp 2]) (n:=100000) Try.func60 rfl rfl rfl rfl (by simp) (S ?_)
 refine aj cs h (fun cs h=>S ?_) (fun cs h=>S ?_)
 ·cases rs_ h
  exact ai SC
 ·cases rs_ h
  exact ai SC

theorem iiL_1{a0:Int}  {r:Bool}(h:iiL_ a0=some r):Sat ah 62 [((Ik .u8) a0)] (B r):=by
 obtain⟨h,cs⟩:=Ro_ h
 unfold iiL_ at h
 refine aq (nt:=9) (rs:=[.tmp 2]) (n:=100000) Try.func62 rfl rfl rfl rfl (by simp) (S ?_)
 refine aj cs h (fun cs h=>S ?_) (fun cs h=>S ?_)
 ·cases rs_ h
  exact ai SC
 ·cases rs_ h
  exact ai SC

theorem iiD_1{a0:Int}  {r:Bool}(h:iiD_ a0=some r):Sat ah 63 [((Ik .u8) a0)] (B r):=by
 obtain⟨h,cs⟩:=Ro_ h
 unfold iiD_ at h
 refine aq (nt:=9) (rs:=[.tmp 2]) (n:=100000) Try.func63 rfl rfl rfl rfl (by simp) (S ?_)
 refine aj cs h (fun cs h=>S ?_) (fun cs h=>S ?_)
 ·cases rs_ h
  exact ai SC
 ·cases rs_ h
  exact ai SC

theorem iiV_2{a0:ByteArray}  {r:Bool}(h:iiV_ a0=some r):Sat ah 57 [(Sx a0)] (B r):=by
 obtain⟨h,cs⟩:=Ro_ h
 unfold iiV_ at h
 refine aq (nt:=40) (rs:=[.tmp 2]) (n:=100000) Try.func57 rfl rfl rfl rfl (by simp) (S ?_)
 obtain⟨N2,hN2,h⟩:=rb_ h
 obtain⟨hN2a,hN2b⟩:=bs_ hN2
 replace h:=rl_ h
 refine aN h (fun i2 s2=>[(0,.val (.pv (Sx a0))),(5,.val (.pv (I (a0.size:Int)))),(6,.val (.pv (I (i2:Int))))]) (fun i2 s2=>[]) (Slm_ SC) (fun i2 s2 hi h=>?_) (fun s2 h=>?_)
 ·have w:=ws_ (i:=i2) (by omega)
  refine S ?_
  refine aG cs (by omega) (fun cs=>S ?_)
  refine aj cs h (fun cs h=>S ?_) (fun cs h=>S ?_)
  ·obtain⟨v14,hv14,h⟩:=rb_ h
   refine aY hv14 (S ?_)
   obtain⟨v15,hv15,h⟩:=rb_ h
   refine al [false] (iiU_1 hv15) SC (S ?_)
   refine aj cs h (fun cs h=>S ?_) (fun cs h=>S ?_)
   ·refine aj cs h (fun cs h=>S ?_) (fun cs h=>S ?_)
    ·obtain⟨v24,hv24,h⟩:=rb_ h
     refine aY hv24 (S ?_)
     obtain⟨v25,hv25,h⟩:=rb_ h
     refine al [false] (iiL_1 hv25) SC (S ?_)
     refine aj cs h (fun cs h=>S ?_) (fun cs h=>S ?_)
     ·have h:=rs_ h
      refine av ⟨_,h,?_⟩
      exact Slm_ SWx
     ·obtain⟨v31,hv31,h⟩:=rb_ h
      refine aY hv31 (S ?_)
      obtain⟨v32,hv32,h⟩:=rb_ h
      refine al [false] (iiD_1 hv32) SC (S ?_)
      refine aj cs h (fun cs h=>S ?_) (fun cs h=>S ?_)
      ·have h:=rs_ h
       refine av ⟨_,h,?_⟩
       exact Slm_ SWx
      ·cases rs_ h
       exact ai SC
    ·have h:=rs_ h
     refine av ⟨_,h,?_⟩
     exact Slm_ SWx
   ·cases rs_ h
    exact ai SC
  ·refine aj cs h (fun cs h=>S ?_) (fun cs h=>S ?_)
   ·obtain⟨v24,hv24,h⟩:=rb_ h
    refine aY hv24 (S ?_)
    obtain⟨v25,hv25,h⟩:=rb_ h
    refine al [false] (iiL_1 hv25) SC (S ?_)
    refine aj cs h (fun cs h=>S ?_) (fun cs h=>S ?_)
    ·have h:=rs_ h
     refine av ⟨_,h,?_⟩
     exact Slm_ SWx
    ·obtain⟨v31,hv31,h⟩:=rb_ h
     refine aY hv31 (S ?_)
     obtain⟨v32,hv32,h⟩:=rb_ h
     refine al [false] (iiD_1 hv32) SC (S ?_)
     refine aj cs h (fun cs h=>S ?_) (fun cs h=>S ?_)
     ·have h:=rs_ h
      refine av ⟨_,h,?_⟩
      exact Slm_ SWx
     ·cases rs_ h
      exact ai SC
   ·have h:=rs_ h
    refine av ⟨_,h,?_⟩
    exact Slm_ SWx
 ·refine S ?_
  refine aH cs (by omega) (fun cs=>S ?_)
  obtain⟨v39,hv39,h⟩:=rb_ h
  refine al [false,false,false] (iws_ hv39) SC (S ?_)
  cases rs_ h
  exact ai SC

theorem irs_   {r:List ByteArray}(h:ir_  =some r):Sat ah 64 [] (.sl true 1 (r.map Sx)):=by
 obtain⟨h,cs⟩:=Ro_ h
 unfold ir_ at h
 refine aq (nt:=2) (rs:=[.tmp 0]) (n:=100000) Try.func64 rfl rfl rfl rfl (by simp) (S ?_)
 cases rs_ h
 exact ai SC

theorem sIS_1{a0:List ByteArray}{a1:ByteArray}  {r:Int}(h:sIS_ a0 a1=some r):Sat ah 61 [(.sl false 1 (a0.map Sx)),(Sx a1)] (I r):=by
 obtain⟨h,cs⟩:=Ro_ h
 unfold sIS_ at h
 refine aq (nt:=19) (rs:=[.tmp 4]) (n:=100000) Try.func61 rfl rfl rfl rfl (by simp) (S ?_)
 refine aU (b:=false) (sz:=1) (es:=a0.map Sx) 0 SC fun hl0=>?_; rw[aK] at hl0
 replace h:=rl_ h
 refine aN h (fun i2 s2=>[(0,.val (.pv (.sl false 1 (a0.map Sx)))),(1,.val (.pv (Sx a1))),(7,.val (.pv (I (a0.length:Int)))),(8,.val (.pv (I (i2:Int))))]) (fun i2 s2=>[]) (Slm_ SC) (fun i2 s2 hi h=>?_) (fun s2 h=>?_)
 ·have w:=ws_ (i:=i2) (by omega)
  refine S ?_
  refine aG cs (by omega) (fun cs=>S ?_)
  obtain⟨v14,hv14,h⟩:=rb_ h
  refine az (f:=Sx) hv14 SC (S ?_)
  refine aj cs h (fun cs h=>S ?_) (fun cs h=>S ?_)
  ·cases rs_ h
   exact ai SC
  ·have h:=rs_ h
   refine av ⟨_,h,?_⟩
   exact Slm_ SWx
 ·refine S ?_
  refine aH cs (by omega) (fun cs=>S ?_)
  cases rs_ h
  exact ai SC

theorem sCS_1{a0:List ByteArray}{a1:ByteArray}  {r:Bool}(h:sCS_ a0 a1=some r):Sat ah 51 [(.sl false 1 (a0.map Sx)),(Sx a1)] (B r):=by
 obtain⟨h,cs⟩:=Ro_ h
 unfold sCS_ at h
 refine aq (nt:=9) (rs:=[.tmp 4]) (n:=100000) Try.func51 rfl rfl rfl rfl (by simp) (S ?_)
 obtain⟨v7,hv7,h⟩:=rb_ h
 refine al [false,false] (sIS_1 hv7) SC (S ?_)
 cases rs_ h
 exact ai SC

theorem iiS_2{a0:ByteArray}  {r:Bool}(h:iiS_ a0=some r):Sat ah 58 [(Sx a0)] (B r):=by
 obtain⟨h,cs⟩:=Ro_ h
 unfold iiS_ at h
 refine aq (nt:=48) (rs:=[.tmp 2]) (n:=100000) Try.func58 rfl rfl rfl rfl (by simp) (S ?_)
 obtain⟨N2,hN2,h⟩:=rb_ h
 obtain⟨hN2a,hN2b⟩:=bs_ hN2
 replace h:=rl_ h
 refine aN h (fun i2 s2=>[(0,.val (.pv (Sx a0))),(5,.val (.pv (I (a0.size:Int)))),(6,.val (.pv (I (i2:Int))))]) (fun i2 s2=>[]) (Slm_ SC) (fun i2 s2 hi h=>?_) (fun s2 h=>?_)
 ·have w:=ws_ (i:=i2) (by omega)
  refine S ?_
  refine aG cs (by omega) (fun cs=>S ?_)
  refine aj cs h (fun cs h=>S ?_) (fun cs h=>S ?_)
  ·obtain⟨v14,hv14,h⟩:=rb_ h
   refine aY hv14 (S ?_)
   obtain⟨v15,hv15,h⟩:=rb_ h
   refine al [false] (iiL_1 hv15) SC (S ?_)
   refine aj cs h (fun cs h=>S ?_) (fun cs h=>S ?_)
   ·obtain⟨v21,hv21,h⟩:=rb_ h
    refine aY hv21 (S ?_)
    obtain⟨v22,hv22,h⟩:=rb_ h
    refine al [false] (iiL_1 hv22) SC (S ?_)
    refine aj cs h (fun cs h=>S ?_) (fun cs h=>S ?_)
    ·have h:=rs_ h
     refine av ⟨_,h,?_⟩
     exact Slm_ SWx
    ·obtain⟨v27,hv27,h⟩:=rb_ h
     refine aY hv27 (S ?_)
     obtain⟨v28,hv28,h⟩:=rb_ h
     refine al [false] (iiD_1 hv28) SC (S ?_)
     refine aj cs h (fun cs h=>S ?_) (fun cs h=>S ?_)
     ·have h:=rs_ h
      refine av ⟨_,h,?_⟩
      exact Slm_ SWx
     ·obtain⟨v34,hv34,h⟩:=rb_ h
      refine aY hv34 (S ?_)
      refine aj cs h (fun cs h=>S ?_) (fun cs h=>S ?_)
      ·have h:=rs_ h
       refine av ⟨_,h,?_⟩
       exact Slm_ SWx
      ·cases rs_ h
       exact ai SC
   ·cases rs_ h
    exact ai SC
  ·obtain⟨v21,hv21,h⟩:=rb_ h
   refine aY hv21 (S ?_)
   obtain⟨v22,hv22,h⟩:=rb_ h
   refine al [false] (iiL_1 hv22) SC (S ?_)
   refine aj cs h (fun cs h=>S ?_) (fun cs h=>S ?_)
   ·have h:=rs_ h
    refine av ⟨_,h,?_⟩
    exact Slm_ SWx
   ·obtain⟨v27,hv27,h⟩:=rb_ h
    refine aY hv27 (S ?_)
    obtain⟨v28,hv28,h⟩:=rb_ h
    refine al [false] (iiD_1 hv28) SC (S ?_)
    refine aj cs h (fun cs h=>S ?_) (fun cs h=>S ?_)
    ·have h:=rs_ h
     refine av ⟨_,h,?_⟩
     exact Slm_ SWx
    ·obtain⟨v34,hv34,h⟩:=rb_ h
     refine aY hv34 (S ?_)
     refine aj cs h (fun cs h=>S ?_) (fun cs h=>S ?_)
     ·have h:=rs_ h
      refine av ⟨_,h,?_⟩
      exact Slm_ SWx
     ·cases rs_ h
      exact ai SC
 ·refine S ?_
  refine aH cs (by omega) (fun cs=>S ?_)
  obtain⟨v41,hv41,h⟩:=rb_ h
  refine al [false,false,false] (iws_ hv41) SC (S ?_)
  refine aj cs h (fun cs h=>S ?_) (fun cs h=>S ?_)
  ·obtain⟨v43,hv43,h⟩:=rb_ h
   refine al [] (irs_ hv43) SC (S ?_)
   obtain⟨v45,hv45,h⟩:=rb_ h
   refine al [false,false] (sCS_1 hv45) SC (S ?_)
   cases rs_ h
   exact ai SC
  ·cases rs_ h
   exact ai SC

theorem sIF_1{a0:List Tt}{a1:Tt→Option Bool}{a1_id:FuncId}{a1_cs:List PV}(a1_ok:∀ y0 r,a1 y0=some r→Sat ah a1_id (((ae false) y0)::a1_cs) (B r))(a1_cz:CO_ a1_cs=True){r:Int}(h:sIF_ a0 a1=some r):Sat ah 30 [(.sl false 2 (a0.map (ae false))),.clo a1_id a1_cs] (I r):=by
 obtain⟨h,cs⟩:=Ro_ h
 unfold sIF_ at h
 have cs:=aa a1_cz cs
 refine aq (nt:=19) (rs:=[.tmp 4]) (n:=100000) Try.func30 rfl rfl rfl rfl (by simp) (S ?_)
 refine aU (b:=false) (sz:=2) (es:=a0.map (ae false)) 0 SC fun hl0=>?_; rw[aK] at hl0
 replace h:=rl_ h
 refine aN h (fun i2 s2=>[(0,.val (.pv (.sl false 2 (a0.map (ae false))))),(1,.val (.pv (.clo a1_id a1_cs))),(7,.val (.pv (I (a0.length:Int)))),(8,.val (.pv (I (i2:Int))))]) (fun i2 s2=>[]) (Slm_ SC) (fun i2 s2 hi h=>?_) (fun s2 h=>?_)
 ·have w:=ws_ (i:=i2) (by omega)
  refine S ?_
  refine aG cs (by omega) (fun cs=>S ?_)
  obtain⟨v14,hv14,h⟩:=rb_ h
  refine az (f:=(ae false)) hv14 SC (S ?_)
  obtain⟨v16,hv16,h⟩:=rb_ h
  refine al [false] (a1_ok _ _ hv16) SC (S ?_)
  refine aj cs h (fun cs h=>S ?_) (fun cs h=>S ?_)
  ·cases rs_ h
   exact ai SC
  ·have h:=rs_ h
   refine av ⟨_,h,?_⟩
   exact Slm_ SWx
 ·refine S ?_
  refine aH cs (by omega) (fun cs=>S ?_)
  cases rs_ h
  exact ai SC

theorem sCF_1{a0:List Tt}{a1:Tt→Option Bool}{a1_id:FuncId}{a1_cs:List PV}(a1_ok:∀ y0 r,a1 y0=some r→Sat ah a1_id (((ae false) y0)::a1_cs) (B r))(a1_cz:CO_ a1_cs=True){r:Bool}(h:sCF_ a0 a1=some r):Sat ah 20 [(.sl false 2 (a0.map (ae false))),.clo a1_id a1_cs] (B r):=by
 obtain⟨h,cs⟩:=Ro_ h
 unfold sCF_ at h
 have cs:=aa a1_cz cs
 refine aq (nt:=9) (rs:=[.tmp 4]) (n:=100000) Try.func20 rfl rfl rfl rfl (by simp) (S ?_)
 obtain⟨v7,hv7,h⟩:=rb_ h
 refine al [false,false] (sIF_1 a1_ok a1_cz hv7) SC (S ?_)
 cases rs_ h
 exact ai SC

theorem ihN_2(n:Nat):(∀ (a0:Tt) (r:Bool),ihN_ n a0=some r→Sat ah 49 [((ae false) a0)] (B r))∧(∀ (a0:Tt) (r:Bool),ihN_1 n a0=some r→Sat ah 59 [((ae false) a0)] (B r)):=by
 induction n with
 | zero=>exact⟨fun _ _ h=>by simp[ihN_] at h,fun _ _ h=>by simp[ihN_1] at h⟩
 | succ n ih=>
  refine⟨fun a0 r h=>?_,fun a0 r h=>?_⟩
  ·obtain⟨h,cs⟩:=Ro_ h
   rw[ihN_] at h
   refine aq (nt:=25) (rs:=[.tmp 2]) (n:=100000) Try.func49 rfl rfl rfl rfl (by simp) (S ?_)
   obtain⟨v5,hv5,h⟩:=rb_ h
   refine al [false] (iiV_2 hv5) SC (S ?_)
   refine aj cs h (fun cs h=>S ?_) (fun cs h=>S ?_)
   ·cases rs_ h
    exact ai SC
   ·obtain⟨v12,hv12,h⟩:=rb_ h
    refine al [false] (iiS_2 hv12) SC (S ?_)
    refine aj cs h (fun cs h=>S ?_) (fun cs h=>S ?_)
    ·refine aj cs h (fun cs h=>S ?_) (fun cs h=>S ?_)
     ·obtain⟨v22,hv22,h⟩:=rb_ h
      refine al [false,false] (sCF_1 (fun _ _ hh=>ih.2 _ _ hh) (by simp only[COn_,COc_]) hv22) SC (S ?_)
      cases rs_ h
      exact ai SC
     ·cases rs_ h
      exact ai SC
    ·cases rs_ h
     exact ai SC
  ·obtain⟨h,cs⟩:=Ro_ h
   rw[ihN_1] at h
   refine aq (nt:=6) (rs:=[.tmp 2]) (n:=100000) Try.func59 rfl rfl rfl rfl (by simp) (S ?_)
   obtain⟨v4,hv4,h⟩:=rb_ h
   refine al [false] (ih.1 _ _ hv4) SC (S ?_)
   cases rs_ h
   exact ai SC
theorem ihN_4{a0:Tt}{r:Bool}(h:ihN_3 a0=some r):Sat ah 49 [((ae false) a0)] (B r):=by
 obtain⟨n,hn⟩:=ls_ h
 exact(ihN_2 n).1 _ _ hn
theorem ihN_7{a0:Tt}{r:Bool}(h:ihN_6 a0=some r):Sat ah 59 [((ae false) a0)] (B r):=by
 obtain⟨n,hn⟩:=ls_ h
 exact(ihN_2 n).2 _ _ hn

theorem iIV_1{a0:Tt}  {r:Bool}(h:iIV_ a0=some r):Sat ah 41 [((ae false) a0)] (B r):=by
 obtain⟨h,cs⟩:=Ro_ h
 unfold iIV_ at h
 refine aq (nt:=9) (rs:=[.tmp 2]) (n:=100000) Try.func41 rfl rfl rfl rfl (by simp) (S ?_)
 obtain⟨v4,hv4,h⟩:=rb_ h
 refine al [false] (iiS_3 hv4) SC (S ?_)
 refine aj cs h (fun cs h=>S ?_) (fun cs h=>S ?_)
 ·obtain⟨v7,hv7,h⟩:=rb_ h
  refine al [false] (ihN_4 hv7) SC (S ?_)
  cases rs_ h
  exact ai SC
 ·cases rs_ h
  exact ai SC

theorem iiV_3{a0:Tt}  {r:Bool}(h:iiV_1 a0=some r):Sat ah 50 [((ae false) a0)] (B r):=by
 obtain⟨h,cs⟩:=Ro_ h
 unfold iiV_1 at h
 refine aq (nt:=7) (rs:=[.tmp 2]) (n:=100000) Try.func50 rfl rfl rfl rfl (by simp) (S ?_)
 obtain⟨v5,hv5,h⟩:=rb_ h
 refine aY hv5 (S ?_)
 obtain⟨v6,hv6,h⟩:=rb_ h
 refine al [false] (iiU_1 hv6) SC (S ?_)
 cases rs_ h
 exact ai SC

theorem icN_1(n:Nat):(∀ (a0:List ByteArray) (a1:Tt) (r:List ByteArray),icN_ n a0 a1=some r→Sat ah 42 [(.sl true 1 (a0.map Sx)),((ae false) a1)] (.sl true 1 (r.map Sx))):=by
 induction n with
 | zero=>exact fun _ _ _ h=>by simp[icN_] at h
 | succ n ih=>
  refine fun a0 a1 r h=>?_
  obtain⟨h,cs⟩:=Ro_ h
  rw[icN_] at h
  refine aq (nt:=38) (rs:=[.tmp 4]) (n:=100000) Try.func42 rfl rfl rfl rfl (by simp) (S ?_)
  refine aj cs h (fun cs h=>S ?_) (fun cs h=>S ?_)
  ·obtain⟨v13,hv13,h⟩:=rb_ h
   refine al [false] (iiV_3 hv13) SC (S ?_)
   refine aj cs h (fun cs h=>S ?_) (fun cs h=>S ?_)
   ·obtain⟨v18,hv18,h⟩:=rb_ h
    refine al [false,false] (sCS_1 hv18) SC (S ?_)
    refine aj cs h (fun cs h=>S ?_) (fun cs h=>S ?_)
    ·cases rs_ h
     exact ai SC
    ·obtain⟨v24,hv24,h⟩:=rb_ h
     refine AppH.mk (f:=Sx) (fun _=>rfl) hv24 SC SC (S ?_)
     cases rs_ h
     exact ai SC
   ·refine aU (b:=false) (sz:=2) (es:=a1.Args.map (ae false)) 8 SC fun hl8=>?_; rw[aK] at hl8
    replace h:=rl_ h
    refine aN h (fun i6 s6=>[(0,.val (.own 9000)),(27,.val (.pv (.sl false 2 (a1.Args.map (ae false))))),(28,.val (.pv (I (a1.Args.length:Int)))),(29,.val (.pv (I (i6:Int))))]) (fun i6 s6=>[(9000,(1,s6.map Sx))]) (Slm_ SC) (fun i6 s6 hi h=>?_) (fun s6 h=>?_)
    ·have w:=ws_ (i:=i6) (by omega)
     refine S ?_
     refine aG cs (by omega) (fun cs=>S ?_)
     obtain⟨v31,hv31,h⟩:=rb_ h
     refine az (f:=(ae false)) hv31 SC (S ?_)
     obtain⟨v35,hv35,h⟩:=rb_ h
     refine al [true,false] (ih _ _ _ hv35) SC (S ?_)
     have h:=rs_ h
     refine av ⟨_,h,?_⟩
     refine aV (Slm_1 (S:=[(0,.val (.own 560)),(27,.val (.pv (.sl false 2 (a1.Args.map (ae false))))),(28,.val (.pv (I (a1.Args.length:Int)))),(29,.val (.pv (I (IntKind.i64.wrap ((i6:Int)+1)))))]) (O:=[(560,(1,v35.map Sx))]) SWx SWx) ?_
     refine Slr_ 560 9000 (by decide) NM ?_
     exact Slm_ SWx
    ·refine S ?_
     refine aH cs (by omega) (fun cs=>S ?_)
     cases rs_ h
     exact ai SC
  ·refine aU (b:=false) (sz:=2) (es:=a1.Args.map (ae false)) 8 SC fun hl8=>?_; rw[aK] at hl8
   replace h:=rl_ h
   refine aN h (fun i6 s6=>[(0,.val (.own 9000)),(27,.val (.pv (.sl false 2 (a1.Args.map (ae false))))),(28,.val (.pv (I (a1.Args.length:Int)))),(29,.val (.pv (I (i6:Int))))]) (fun i6 s6=>[(9000,(1,s6.map Sx))]) (Slm_ SC) (fun i6 s6 hi h=>?_) (fun s6 h=>?_)
   ·have w:=ws_ (i:=i6) (by omega)
    refine S ?_
    refine aG cs (by omega) (fun cs=>S ?_)
    obtain⟨v31,hv31,h⟩:=rb_ h
    refine az (f:=(ae false)) hv31 SC (S ?_)
    obtain⟨v35,hv35,h⟩:=rb_ h
    refine al [true,false] (ih _ _ _ hv35) SC (S ?_)
    have h:=rs_ h
    refine av ⟨_,h,?_⟩
    refine aV (Slm_1 (S:=[(0,.val (.own 560)),(27,.val (.pv (.sl false 2 (a1.Args.map (ae false))))),(28,.val (.pv (I (a1.Args.length:Int)))),(29,.val (.pv (I (IntKind.i64.wrap ((i6:Int)+1)))))]) (O:=[(560,(1,v35.map Sx))]) SWx SWx) ?_
    refine Slr_ 560 9000 (by decide) NM ?_
    exact Slm_ SWx
   ·refine S ?_
    refine aH cs (by omega) (fun cs=>S ?_)
    cases rs_ h
    exact ai SC
theorem ics_{a0:List ByteArray}{a1:Tt}{r:List ByteArray}(h:ic_ a0 a1=some r):Sat ah 42 [(.sl true 1 (a0.map Sx)),((ae false) a1)] (.sl true 1 (r.map Sx)):=by
 obtain⟨n,hn⟩:=ls_ h
 exact(icN_1 n) _ _ _ hn

theorem iiG_1{a0:Tt}  {r:Bool}(h:iiG_ a0=some r):Sat ah 31 [((ae false) a0)] (B r):=by
 obtain⟨h,cs⟩:=Ro_ h
 unfold iiG_ at h
 refine aq (nt:=11) (rs:=[.tmp 2]) (n:=100000) Try.func31 rfl rfl rfl rfl (by simp) (S ?_)
 obtain⟨v4,hv4,h⟩:=rb_ h
 refine al [false] (iIV_1 hv4) SC (S ?_)
 refine aj cs h (fun cs h=>S ?_) (fun cs h=>S ?_)
 ·obtain⟨v7,hv7,h⟩:=rb_ h
  refine al [true,false] (ics_ hv7) SC (S ?_)
  cases rs_ h
  exact ai SC
 ·cases rs_ h
  exact ai SC

theorem inG_1{a0:Tt}  {r:Bool}(h:inG_ a0=some r):Sat ah 21 [((ae false) a0)] (B r):=by
 obtain⟨h,cs⟩:=Ro_ h
 unfold inG_ at h
 refine aq (nt:=6) (rs:=[.tmp 2]) (n:=100000) Try.func21 rfl rfl rfl rfl (by simp) (S ?_)
 obtain⟨v4,hv4,h⟩:=rb_ h
 refine al [false] (iiG_1 hv4) SC (S ?_)
 cases rs_ h
 exact ai SC

theorem sEF_1{a0:List Tt}{a1:List Tt}{a2:Tt→Tt→Option Bool}{a2_id:FuncId}{a2_cs:List PV}(a2_ok:∀ y0 y1 r,a2 y0 y1=some r→Sat ah a2_id (((ae false) y0)::((ae false) y1)::a2_cs) (B r))(a2_cz:CO_ a2_cs=True){r:Bool}(h:sEF_ a0 a1 a2=some r):Sat ah 37 [(.sl false 2 (a0.map (ae false))),(.sl false 2 (a1.map (ae false))),.clo a2_id a2_cs] (B r):=by
 obtain⟨h,cs⟩:=Ro_ h
 unfold sEF_ at h
 have cs:=aa a2_cz cs
 refine aq (nt:=32) (rs:=[.tmp 6]) (n:=100000) Try.func37 rfl rfl rfl rfl (by simp) (S ?_)
 refine aj cs h (fun cs h=>S ?_) (fun cs h=>S ?_)
 ·refine aU (b:=false) (sz:=2) (es:=a0.map (ae false)) 0 SC fun hl0=>?_; rw[aK] at hl0
  replace h:=rl_ h
  refine aN h (fun i4 s4=>[(1,.val (.pv (.sl false 2 (a1.map (ae false))))),(2,.val (.pv (.clo a2_id a2_cs))),(15,.val (.pv (.sl false 2 (a0.map (ae false))))),(16,.val (.pv (I (a0.length:Int)))),(17,.val (.pv (I (i4:Int))))]) (fun i4 s4=>[]) (Slm_ SC) (fun i4 s4 hi h=>?_) (fun s4 h=>?_)
  ·have w:=ws_ (i:=i4) (by omega)
   refine S ?_
   refine aG cs (by omega) (fun cs=>S ?_)
   obtain⟨v20,hv20,h⟩:=rb_ h
   refine az (f:=(ae false)) hv20 SC (S ?_)
   obtain⟨v24,hv24,h⟩:=rb_ h
   refine az (f:=(ae false)) hv24 SC (S ?_)
   obtain⟨v29,hv29,h⟩:=rb_ h
   refine al [false,false] (a2_ok _ _ _ hv29) SC (S ?_)
   refine aj cs h (fun cs h=>S ?_) (fun cs h=>S ?_)
   ·have h:=rs_ h
    refine av ⟨_,h,?_⟩
    exact Slm_ SWx
   ·cases rs_ h
    exact ai SC
  ·refine S ?_
   refine aH cs (by omega) (fun cs=>S ?_)
   cases rs_ h
   exact ai SC
 ·cases rs_ h
  exact ai SC

theorem iET_3(n:Nat):(∀ (a0:Tt) (a1:Tt) (r:Bool),iET_ n a0 a1=some r→Sat ah 33 [((ae false) a0),((ae false) a1)] (B r)):=by
 induction n with
 | zero=>exact fun _ _ _ h=>by simp[iET_] at h
 | succ n ih=>
  refine fun a0 a1 r h=>?_
  obtain⟨h,cs⟩:=Ro_ h
  rw[iET_] at h
  refine aq (nt:=17) (rs:=[.tmp 4]) (n:=100000) Try.func33 rfl rfl rfl rfl (by simp) (S ?_)
  refine aj cs h (fun cs h=>S ?_) (fun cs h=>S ?_)
  ·obtain⟨v15,hv15,h⟩:=rb_ h
   refine al [false,false,false] (sEF_1 (fun _ _ _ hh=>ih _ _ _ hh) (by simp only[COn_,COc_]) hv15) SC (S ?_)
   cases rs_ h
   exact ai SC
  ·cases rs_ h
   exact ai SC
theorem iET_2{a0:Tt}{a1:Tt}{r:Bool}(h:iET_1 a0 a1=some r):Sat ah 33 [((ae false) a0),((ae false) a1)] (B r):=by
 obtain⟨n,hn⟩:=ls_ h
 exact(iET_3 n) _ _ _ hn

theorem ig1_1{a0:Tt}{b0:Tt}  {r:Bool}(h:ig1_ a0 b0=some r):Sat ah 32 [((ae false) a0),.ptr ((ae false) b0)] (B r):=by
 obtain⟨h,cs⟩:=Ro_ h
 unfold ig1_ at h
 refine aq (nt:=8) (rs:=[.tmp 3]) (n:=100000) Try.func32 rfl rfl rfl rfl (by simp) (S ?_)
 obtain⟨v6,hv6,h⟩:=rb_ h
 refine al [false,false] (iET_2 hv6) SC (S ?_)
 cases rs_ h
 exact ai SC

theorem icT_4(n:Nat):(∀ (a0:Tt) (r:Tt),icT_ n a0=some r→Sat ah 34 [((ae false) a0)] ((ae true) r))∧(∀ (a0:List Tt) (r:List Tt),icT_1 n a0=some r→Sat ah 36 [(.sl false 2 (a0.map (ae false)))] (.sl true 2 (r.map (ae true)))):=by
 induction n with
 | zero=>exact⟨fun _ _ h=>by simp[icT_] at h,fun _ _ h=>by simp[icT_1] at h⟩
 | succ n ih=>
  refine⟨fun a0 r h=>?_,fun a0 r h=>?_⟩
  ·obtain⟨h,cs⟩:=Ro_ h
   rw[icT_] at h
   refine aq (nt:=9) (rs:=[.cell 2 26]) (n:=100000) Try.func34 rfl rfl rfl rfl (by simp) (S ?_)
   obtain⟨v7,hv7,h⟩:=rb_ h
   refine al [false] (ih.2 _ _ hv7) SC (S ?_)
   refine aa (DHa_ [] [112]) (S ?_)
   cases rs_ h
   exact ai SC
  ·obtain⟨h,cs⟩:=Ro_ h
   rw[icT_1] at h
   refine aq (nt:=26) (rs:=[.tmp 2]) (n:=100000) Try.func36 rfl rfl rfl rfl (by simp) (S ?_)
   refine aj cs h (fun cs h=>S ?_) (fun cs h=>S ?_)
   ·cases rs_ h
    exact ai SC
   ·obtain⟨n11,hn11,h⟩:=rb_ h
    refine MknH.mk hn11 (S ?_)
    refine aU (b:=false) (sz:=2) (es:=a0.map (ae false)) 0 SC fun hl0=>?_; rw[aK] at hl0
    replace h:=rl_ h
    refine aN h (fun i5 s5=>[(3,.val (.own 176)),(12,.val (.pv (.sl false 2 (a0.map (ae false))))),(13,.val (.pv (I (a0.length:Int)))),(14,.val (.pv (I (i5:Int))))]) (fun i5 s5=>[(176,(2,s5.map (ae true)))]) (Slm_ SC) (fun i5 s5 hi h=>?_) (fun s5 h=>?_)
    ·have w:=ws_ (i:=i5) (by omega)
     refine S ?_
     refine aG cs (by omega) (fun cs=>S ?_)
     obtain⟨v17,hv17,h⟩:=rb_ h
     refine az (f:=(ae false)) hv17 SC (S ?_)
     obtain⟨v22,hv22,h⟩:=rb_ h
     refine al [false] (ih.1 _ _ hv22) SC (S ?_)
     obtain⟨v23,hv23,h⟩:=rb_ h
     refine az (f:=(ae true)) hv23 SC (S ?_)
     obtain⟨w3,hw3,h⟩:=rb_ h
     refine EldH.mk (f:=(ae true)) hw3 rfl SC (S ?_)
     have h:=rs_ h
     refine av ⟨_,h,?_⟩
     exact Slm_ SWx
    ·refine S ?_
     refine aH cs (by omega) (fun cs=>S ?_)
     cases rs_ h
     exact ai SC
theorem icT_6{a0:Tt}{r:Tt}(h:icT_5 a0=some r):Sat ah 34 [((ae false) a0)] ((ae true) r):=by
 obtain⟨n,hn⟩:=ls_ h
 exact(icT_4 n).1 _ _ hn
theorem icT_3{a0:List Tt}{r:List Tt}(h:icT_2 a0=some r):Sat ah 36 [(.sl false 2 (a0.map (ae false)))] (.sl true 2 (r.map (ae true))):=by
 obtain⟨n,hn⟩:=ls_ h
 exact(icT_4 n).2 _ _ hn

theorem ig2_1{a0:Tt}{b0:Tt}  {r:Bool}(h:ig2_ a0 b0=some r):Sat ah 35 [((ae false) a0),.ptr ((ae false) b0)] (B r):=by
 obtain⟨h,cs⟩:=Ro_ h
 unfold ig2_ at h
 refine aq (nt:=18) (rs:=[.tmp 3]) (n:=100000) Try.func35 rfl rfl rfl rfl (by simp) (S ?_)
 refine aj cs h (fun cs h=>S ?_) (fun cs h=>S ?_)
 ·cases rs_ h
  exact ai SC
 ·cases rs_ h
  exact ai SC

def nslT:List Tt→PV
 | []=>.lit (.slice none 0 0)
 | x::xs=>.sl true 2 ((x::xs).map (ae true))
@[push_cast] theorem nslT_n:nslT []=.lit (.slice none 0 0):=rfl
@[push_cast] theorem nslT_c (x:Tt) (xs:List Tt):nslT (x::xs)=.sl true 2 ((x::xs).map (ae true)):=rfl
def nslV(c:Nat):List Tt→SlotV
 | []=>.val (.pv (.sl true 2 []))
 | _::_=>.val (.own c)
@[push_cast] theorem nslV_n (c:Nat):nslV c []=.val (.pv (.sl true 2 [])):=rfl
@[push_cast] theorem nslV_c (c:Nat) (x:Tt) (xs:List Tt):nslV c (x::xs)=.val (.own c):=rfl
def nslO(c:Nat):List Tt→List (Nat×(Nat×List PV))→List (Nat×(Nat×List PV))
 | [],O=>O
 | x::xs,O=>O++[(c,(2,(x::xs).map (ae true)))]
@[push_cast] theorem nslO_n (c:Nat) (O:List (Nat×(Nat×List PV))):nslO c [] O=O:=rfl
@[push_cast] theorem nslO_c (c:Nat) (x:Tt) (xs:List Tt) (o:Nat×(Nat×List PV)):nslO c (x::xs) [o]=[o,(c,(2,(x::xs).map (ae true)))]:=rfl
theorem igN_1(n:Nat):(∀ (a0:List Tt) (r:Tt×(List Tt)),igN_ n a0=some r→Sat ah 22 [(.sl false 2 (a0.map (ae false)))] (.tup [((ae true) r.1),nslT r.2])):=by
 induction n with
 | zero=>exact fun _ _ h=>by simp[igN_] at h
 | succ n ih=>
  refine fun a0 r h=>?_
  obtain⟨h,cs⟩:=Ro_ h
  rw[igN_] at h
  refine Son_ (nt:=83) (rs:=[.cell 2 26,.tmp 3]) (n:=100000) Try.func22 rfl rfl rfl rfl (by simp) (S ?_)
  obtain⟨v15,hv15,h⟩:=rb_ h
  refine az (f:=(ae false)) hv15 SC (S ?_)
  refine MfH.fr (S ?_)
  obtain⟨v19,hv19,h⟩:=rb_ h
  refine al [false,false] (sCF_1 (fun _ _ hh=>ig1_1 hh) (by simp only[COn_,COc_]) hv19) SC (S ?_)
  refine aj cs h (fun cs h=>S ?_) (fun cs h=>S ?_)
  ·refine MfH.fr (S ?_)
   obtain⟨v26,hv26,h⟩:=rb_ h
   refine al [false,false] (sCF_1 (fun _ _ hh=>ig2_1 hh) (by simp only[COn_,COc_]) hv26) SC (S ?_)
   refine aj cs h (fun cs h=>S ?_) (fun cs h=>S ?_)
   ·obtain⟨v29,hv29,h⟩:=rb_ h
    cases v29 with
    | nil=>exact rn_ h
    | cons p ps=>
     refine al [false] (icT_3 hv29) SC (S ?_)
     refine aa (DHa_ [] [464]) (S ?_)
     cases rs_ h
     exact FinN.mk (ai SC)
   ·refine aU (b:=false) (sz:=2) (es:=v15.Args.map (ae false)) 34 SC fun hl34=>?_; rw[aK] at hl34
    replace h:=rl_ h
    refine aN h (fun i10 s10=>[(0,.val (.pv (.sl false 2 (a0.map (ae false))))),(2,.box (.node [(.pv (Sx ⟨#[]⟩)),(.pv (.sl true 2 []))])),(5,.box (.node [(.pv (Sx (⟨#[65]⟩:ByteArray))),(.pv (.sl true 2 []))])),(6,.box (.node [(.pv (Sx v15.Name)),(.own 9330)])),(7,nslV 9331 s10.2),(35,.val (.pv (I (v15.Args.length:Int)))),(36,.val (.pv (I (i10:Int))))]) (fun i10 s10=>nslO 9331 s10.2 [(9330,(2,s10.1.map (ae true)))]) (aV (Sln_ (x:=(.node [(.pv (Sx v15.Name)),(.pv (.sl true 2 []))])) 6 [1] 9330 2 NM SC SC SC) (Slm_ SC)) (fun i10 s10 hi h=>?_) (fun s10 h=>?_)
    ·obtain⟨q1,q2⟩:=s10
     cases q2 with
     | nil=>
      have w:=ws_ (i:=i10) (by omega)
      refine S ?_
      refine aG cs (by omega) (fun cs=>S ?_)
      refine aU (b:=false) (sz:=2) (es:=a0.map (ae false)) 0 SC fun hl0=>?_; rw[aK] at hl0
      replace h:=rl_ h
      refine aN h (fun i14 s14=>[(0,.val (.pv (.sl false 2 (a0.map (ae false))))),(2,.box (.node [(.pv (Sx ⟨#[]⟩)),(.pv (.sl true 2 []))])),(5,.box (.node [(.pv (Sx (⟨#[65]⟩:ByteArray))),(.pv (.sl true 2 []))])),(6,.box (.node [(.pv (Sx v15.Name)),(.own 9330)])),(7,.val (.pv (.sl true 2 []))),(8,.val (.pv (I (i10:Int)))),(9,.val (.own 624)),(35,.val (.pv (I (v15.Args.length:Int)))),(36,.val (.pv (I (i10:Int)))),(40,.val (.pv (.sl false 2 (a0.map (ae false))))),(41,.val (.pv (I (a0.length:Int)))),(42,.val (.pv (I (i14:Int))))]) (fun i14 s14=>[(9330,(2,q1.map (ae true))),(624,(2,s14.map (ae false)))]) (Slm_ SC) (fun i14 s14 hi h=>?_) (fun s14 h=>?_)
      ·have w:=ws_ (i:=i14) (by omega)
       refine S ?_
       refine aG cs (by omega) (fun cs=>S ?_)
       obtain⟨v44,hv44,h⟩:=rb_ h
       refine az (f:=(ae false)) hv44 SC (S ?_)
       obtain⟨v50,hv50,h⟩:=rb_ h
       refine az (f:=(ae false)) hv50 SC (S ?_)
       obtain⟨v53,hv53,h⟩:=rb_ h
       refine AppH.mk (f:=(ae false)) (fun a=>Tp_ _ a) hv53 SC SC (S ?_)
       have h:=rs_ h
       refine av ⟨_,h,?_⟩
       refine aV (Slm_1 (S:=[(0,.val (.pv (.sl false 2 (a0.map (ae false))))),(2,.box (.node [(.pv (Sx ⟨#[]⟩)),(.pv (.sl true 2 []))])),(5,.box (.node [(.pv (Sx (⟨#[65]⟩:ByteArray))),(.pv (.sl true 2 []))])),(6,.box (.node [(.pv (Sx v15.Name)),(.own 9330)])),(7,.val (.pv (.sl true 2 []))),(8,.val (.pv (I (i10:Int)))),(9,.val (.own 848)),(35,.val (.pv (I (v15.Args.length:Int)))),(36,.val (.pv (I (i10:Int)))),(40,.val (.pv (.sl false 2 (a0.map (ae false))))),(41,.val (.pv (I (a0.length:Int)))),(42,.val (.pv (I (IntKind.i64.wrap ((i14:Int)+1)))))]) (O:=[(9330,(2,q1.map (ae true))),(848,(2,v53.map (ae false)))]) SWx SWx) ?_
       refine Slr_ 848 624 (by decide) NM ?_
       exact Slm_ SWx
      ·refine S ?_
       refine aH cs (by omega) (fun cs=>S ?_)
       obtain⟨⟨u1,u2⟩,hv57,h⟩:=rb_ h
       cases u2 with
       | nil=>
        have hs:Sat ah 22 [(.sl false 2 (s14.map (ae false)))] (.tup [((ae true) u1),.lit (.slice none 0 0)]):=ih _ _ hv57
        refine al [false] hs SC (S ?_)
        obtain⟨v64,hv64,h⟩:=rb_ h
        refine AppH.mk (f:=(ae true)) (fun a=>Tp_ _ a) hv64 SC SC (S ?_)
        have h:=rs_ h
        refine av ⟨_,h,?_⟩
        refine aV (Slm_1 (S:=[(0,.val (.pv (.sl false 2 (a0.map (ae false))))),(2,.box (.node [(.pv (Sx ⟨#[]⟩)),(.pv (.sl true 2 []))])),(5,.box (.node [(.pv (Sx (⟨#[65]⟩:ByteArray))),(.pv (.sl true 2 []))])),(6,.box (.node [(.pv (Sx v15.Name)),(.own 1024)])),(7,.val (.pv (.sl true 2 []))),(35,.val (.pv (I (v15.Args.length:Int)))),(36,.val (.pv (I (IntKind.i64.wrap ((i10:Int)+1)))))]) (O:=[(1024,(2,v64.map (ae true)))]) SWx SWx) ?_
        refine Slr_ 1024 9330 (by decide) NM ?_
        exact Slm_ SWx
       | cons y ys=>
        have hs:Sat ah 22 [(.sl false 2 (s14.map (ae false)))] (.tup [((ae true) u1),.sl true 2 ((y::ys).map (ae true))]):=ih _ _ hv57
        refine al [false] hs SC (S ?_)
        obtain⟨v64,hv64,h⟩:=rb_ h
        refine AppH.mk (f:=(ae true)) (fun a=>Tp_ _ a) hv64 SC SC (S ?_)
        have h:=rs_ h
        refine av ⟨_,h,?_⟩
        refine aV (Slm_1 (S:=[(0,.val (.pv (.sl false 2 (a0.map (ae false))))),(2,.box (.node [(.pv (Sx ⟨#[]⟩)),(.pv (.sl true 2 []))])),(5,.box (.node [(.pv (Sx (⟨#[65]⟩:ByteArray))),(.pv (.sl true 2 []))])),(6,.box (.node [(.pv (Sx v15.Name)),(.own 1024)])),(7,.val (.own 913)),(35,.val (.pv (I (v15.Args.length:Int)))),(36,.val (.pv (I (IntKind.i64.wrap ((i10:Int)+1)))))]) (O:=[(1024,(2,v64.map (ae true))),(913,(2,(y::ys).map (ae true)))]) SWx SWx) ?_
        refine Slr_ 1024 9330 (by decide) NM ?_
        refine aV (Slm_1 (S:=[(0,.val (.pv (.sl false 2 (a0.map (ae false))))),(2,.box (.node [(.pv (Sx ⟨#[]⟩)),(.pv (.sl true 2 []))])),(5,.box (.node [(.pv (Sx (⟨#[65]⟩:ByteArray))),(.pv (.sl true 2 []))])),(6,.box (.node [(.pv (Sx v15.Name)),(.own 9330)])),(7,.val (.own 913)),(35,.val (.pv (I (v15.Args.length:Int)))),(36,.val (.pv (I (IntKind.i64.wrap ((i10:Int)+1)))))]) (O:=[(9330,(2,v64.map (ae true))),(913,(2,(y::ys).map (ae true)))]) SWx SWx) ?_
        refine Slr_ 913 9331 (by decide) NM ?_
        exact Slm_ SWx
     | cons z zs=>
      have w:=ws_ (i:=i10) (by omega)
      refine S ?_
      refine aG cs (by omega) (fun cs=>S ?_)
      refine aU (b:=false) (sz:=2) (es:=a0.map (ae false)) 0 SC fun hl0=>?_; rw[aK] at hl0
      replace h:=rl_ h
      refine aN h (fun i14 s14=>[(0,.val (.pv (.sl false 2 (a0.map (ae false))))),(2,.box (.node [(.pv (Sx ⟨#[]⟩)),(.pv (.sl true 2 []))])),(5,.box (.node [(.pv (Sx (⟨#[65]⟩:ByteArray))),(.pv (.sl true 2 []))])),(6,.box (.node [(.pv (Sx v15.Name)),(.own 9330)])),(7,.val (.own 9331)),(8,.val (.pv (I (i10:Int)))),(9,.val (.own 624)),(35,.val (.pv (I (v15.Args.length:Int)))),(36,.val (.pv (I (i10:Int)))),(40,.val (.pv (.sl false 2 (a0.map (ae false))))),(41,.val (.pv (I (a0.length:Int)))),(42,.val (.pv (I (i14:Int))))]) (fun i14 s14=>[(9330,(2,q1.map (ae true))),(9331,(2,(z::zs).map (ae true))),(624,(2,s14.map (ae false)))]) (Slm_ SC) (fun i14 s14 hi h=>?_) (fun s14 h=>?_)
      ·have w:=ws_ (i:=i14) (by omega)
       refine S ?_
       refine aG cs (by omega) (fun cs=>S ?_)
       obtain⟨v44,hv44,h⟩:=rb_ h
       refine az (f:=(ae false)) hv44 SC (S ?_)
       obtain⟨v50,hv50,h⟩:=rb_ h
       refine az (f:=(ae false)) hv50 SC (S ?_)
       obtain⟨v53,hv53,h⟩:=rb_ h
       refine AppH.mk (f:=(ae false)) (fun a=>Tp_ _ a) hv53 SC SC (S ?_)
       have h:=rs_ h
       refine av ⟨_,h,?_⟩
       refine aV (Slm_1 (S:=[(0,.val (.pv (.sl false 2 (a0.map (ae false))))),(2,.box (.node [(.pv (Sx ⟨#[]⟩)),(.pv (.sl true 2 []))])),(5,.box (.node [(.pv (Sx (⟨#[65]⟩:ByteArray))),(.pv (.sl true 2 []))])),(6,.box (.node [(.pv (Sx v15.Name)),(.own 9330)])),(7,.val (.own 9331)),(8,.val (.pv (I (i10:Int)))),(9,.val (.own 848)),(35,.val (.pv (I (v15.Args.length:Int)))),(36,.val (.pv (I (i10:Int)))),(40,.val (.pv (.sl false 2 (a0.map (ae false))))),(41,.val (.pv (I (a0.length:Int)))),(42,.val (.pv (I (IntKind.i64.wrap ((i14:Int)+1)))))]) (O:=[(9330,(2,q1.map (ae true))),(9331,(2,(z::zs).map (ae true))),(848,(2,v53.map (ae false)))]) SWx SWx) ?_
       refine Slr_ 848 624 (by decide) NM ?_
       exact Slm_ SWx
      ·refine S ?_
       refine aH cs (by omega) (fun cs=>S ?_)
       obtain⟨⟨u1,u2⟩,hv57,h⟩:=rb_ h
       cases u2 with
       | nil=>
        have hs:Sat ah 22 [(.sl false 2 (s14.map (ae false)))] (.tup [((ae true) u1),.lit (.slice none 0 0)]):=ih _ _ hv57
        refine al [false] hs SC (S ?_)
        obtain⟨v64,hv64,h⟩:=rb_ h
        refine AppH.mk (f:=(ae true)) (fun a=>Tp_ _ a) hv64 SC SC (S ?_)
        have h:=rs_ h
        refine av ⟨_,h,?_⟩
        refine aV (Slm_1 (S:=[(0,.val (.pv (.sl false 2 (a0.map (ae false))))),(2,.box (.node [(.pv (Sx ⟨#[]⟩)),(.pv (.sl true 2 []))])),(5,.box (.node [(.pv (Sx (⟨#[65]⟩:ByteArray))),(.pv (.sl true 2 []))])),(6,.box (.node [(.pv (Sx v15.Name)),(.own 1024)])),(7,.val (.own 9331)),(35,.val (.pv (I (v15.Args.length:Int)))),(36,.val (.pv (I (IntKind.i64.wrap ((i10:Int)+1)))))]) (O:=[(1024,(2,v64.map (ae true))),(9331,(2,(z::zs).map (ae true)))]) SWx SWx) ?_
        refine Slr_ 1024 9330 (by decide) NM ?_
        exact Slm_ SWx
       | cons y ys=>
        have hs:Sat ah 22 [(.sl false 2 (s14.map (ae false)))] (.tup [((ae true) u1),.sl true 2 ((y::ys).map (ae true))]):=ih _ _ hv57
        refine al [false] hs SC (S ?_)
        obtain⟨v64,hv64,h⟩:=rb_ h
        refine AppH.mk (f:=(ae true)) (fun a=>Tp_ _ a) hv64 SC SC (S ?_)
        obtain⟨v73,hv73,h⟩:=rb_ h
        refine al [false,false,false] (sEF_1 (fun _ _ _ hh=>iET_2 hh) (by simp only[COn_,COc_]) hv73) SC (S ?_)
        refine aj cs h (fun cs h=>S ?_) (fun cs h=>S ?_)
        ·have h:=rs_ h
         refine av ⟨_,h,?_⟩
         refine aV (Slm_1 (S:=[(0,.val (.pv (.sl false 2 (a0.map (ae false))))),(2,.box (.node [(.pv (Sx ⟨#[]⟩)),(.pv (.sl true 2 []))])),(5,.box (.node [(.pv (Sx (⟨#[65]⟩:ByteArray))),(.pv (.sl true 2 []))])),(6,.box (.node [(.pv (Sx v15.Name)),(.own 1024)])),(7,.val (.own 913)),(35,.val (.pv (I (v15.Args.length:Int)))),(36,.val (.pv (I (IntKind.i64.wrap ((i10:Int)+1)))))]) (O:=[(1024,(2,v64.map (ae true))),(913,(2,(y::ys).map (ae true)))]) SWx SWx) ?_
         refine Slr_ 1024 9330 (by decide) NM ?_
         refine aV (Slm_1 (S:=[(0,.val (.pv (.sl false 2 (a0.map (ae false))))),(2,.box (.node [(.pv (Sx ⟨#[]⟩)),(.pv (.sl true 2 []))])),(5,.box (.node [(.pv (Sx (⟨#[65]⟩:ByteArray))),(.pv (.sl true 2 []))])),(6,.box (.node [(.pv (Sx v15.Name)),(.own 9330)])),(7,.val (.own 913)),(35,.val (.pv (I (v15.Args.length:Int)))),(36,.val (.pv (I (IntKind.i64.wrap ((i10:Int)+1)))))]) (O:=[(9330,(2,v64.map (ae true))),(913,(2,(y::ys).map (ae true)))]) SWx SWx) ?_
         refine Slr_ 913 9331 (by decide) NM ?_
         exact Slm_ SWx
        ·obtain⟨v78,hv78,h⟩:=rb_ h
         cases v78 with
         | nil=>exact rn_ h
         | cons p ps=>
          refine al [false] (icT_3 hv78) SC (S ?_)
          refine aa (DHa_ [] [1248]) (S ?_)
          cases rs_ h
          exact FinN.mk (ai SC)
    ·obtain⟨q1,q2⟩:=s10
     cases q2 with
     | nil=>
      refine S ?_
      refine aH cs (by omega) (fun cs=>S ?_)
      cases rs_ h
      exact FinN.nil 3 2 SC (ai SC)
     | cons z zs=>
      refine S ?_
      refine aH cs (by omega) (fun cs=>S ?_)
      cases rs_ h
      exact FinN.mk (ai SC)
  ·obtain⟨v22,hv22,h⟩:=rb_ h
   refine al [false] (icT_6 hv22) SC (S ?_)
   cases rs_ h
   exact FinN.nil 3 2 SC (ai SC)
theorem igs_{a0:List Tt}{r:Tt×(List Tt)}(h:ig_ a0=some r):Sat ah 22 [(.sl false 2 (a0.map (ae false)))] (.tup [((ae true) r.1),(.sl true 2 (r.2.map (ae true)))]):=by
 obtain⟨n,hn⟩:=ls_ h
 obtain⟨r1,r2⟩:=r
 have hs:=(igN_1 n) _ _ hn
 cases r2 with
 | nil=>exact SnR_ hs
 | cons x xs=>exact hs

theorem iGT_1{a0:List Tt}  {r:Tt×(List Tt)×Bool}(h:iGT_ a0=some r):Sat ah 7 [(.sl false 2 (a0.map (ae false)))] (.tup [((ae true) r.1),(.sl true 2 (r.2.1.map (ae true))),(B r.2.2)]):=by
 obtain⟨h,cs⟩:=Ro_ h
 unfold iGT_ at h
 refine aq (nt:=23) (rs:=[.cell 2 26,.tmp 3,.tmp 4]) (n:=100000) Try.func7 rfl rfl rfl rfl (by simp) (S ?_)
 obtain⟨v9,hv9,h⟩:=rb_ h
 refine al [false,false,false] (iws_ hv9) SC (S ?_)
 refine aj cs h (fun cs h=>S ?_) (fun cs h=>S ?_)
 ·obtain⟨v13,hv13,h⟩:=rb_ h
  refine al [false,false] (sCF_1 (fun _ _ hh=>inG_1 hh) (by simp only[COn_,COc_]) hv13) SC (S ?_)
  refine aj cs h (fun cs h=>S ?_) (fun cs h=>S ?_)
  ·cases rs_ h
   exact ai SC
  ·obtain⟨v18,hv18,h⟩:=rb_ h
   refine al [false] (igs_ hv18) SC (S ?_)
   cases rs_ h
   exact ai SC
 ·cases rs_ h
  exact ai SC

theorem eTN_2(n:Nat):(∀ (a0:Tt) (a1:Tt) (r:Bool),eTN_ n a0 a1=some r→Sat ah 8 [((ae false) a0),((ae false) a1)] (B r))∧(∀ (a0:List Tt) (a1:List Tt) (r:Bool),eTS_ n a0 a1=some r→Sat ah 9 [(.sl false 2 (a0.map (ae false))),(.sl false 2 (a1.map (ae false)))] (B r)):=by
 induction n with
 | zero=>exact⟨fun _ _ _ h=>by simp[eTN_] at h,fun _ _ _ h=>by simp[eTS_] at h⟩
 | succ n ih=>
  refine⟨fun a0 a1 r h=>?_,fun a0 a1 r h=>?_⟩
  ·obtain⟨h,cs⟩:=Ro_ h
   rw[eTN_] at h
   refine aq (nt:=16) (rs:=[.tmp 4]) (n:=100000) Try.func8 rfl rfl rfl rfl (by simp) (S ?_)
   refine aj cs h (fun cs h=>S ?_) (fun cs h=>S ?_)
   ·obtain⟨v14,hv14,h⟩:=rb_ h
    refine al [false,false] (ih.2 _ _ _ hv14) SC (S ?_)
    refine aj cs h (fun cs h=>S ?_) (fun cs h=>S ?_)
    ·cases rs_ h
     exact ai SC
    ·cases rs_ h
     exact ai SC
   ·cases rs_ h
    exact ai SC
  ·obtain⟨h,cs⟩:=Ro_ h
   rw[eTS_] at h
   refine aq (nt:=27) (rs:=[.tmp 4]) (n:=100000) Try.func9 rfl rfl rfl rfl (by simp) (S ?_)
   refine aj cs h (fun cs h=>S ?_) (fun cs h=>S ?_)
   ·refine aU (b:=false) (sz:=2) (es:=a0.map (ae false)) 0 SC fun hl0=>?_; rw[aK] at hl0
    replace h:=rl_ h
    refine aN h (fun i4 s4=>[(0,.val (.pv (.sl false 2 (a0.map (ae false))))),(1,.val (.pv (.sl false 2 (a1.map (ae false))))),(5,.val (.pv (I (i4:Int))))]) (fun i4 s4=>[]) (Slm_ SC) (fun i4 s4 hi h=>?_) (fun s4 h=>?_)
    ·have w:=ws_ (i:=i4) (by omega)
     refine S ?_
     refine aG cs (by omega) (fun cs=>S ?_)
     obtain⟨v19,hv19,h⟩:=rb_ h
     refine az (f:=(ae false)) hv19 SC (S ?_)
     obtain⟨v23,hv23,h⟩:=rb_ h
     refine az (f:=(ae false)) hv23 SC (S ?_)
     obtain⟨v25,hv25,h⟩:=rb_ h
     refine al [false,false] (ih.1 _ _ _ hv25) SC (S ?_)
     refine aa (DHa_ [] []) (S ?_)
     refine aj cs h (fun cs h=>S ?_) (fun cs h=>S ?_)
     ·have h:=rs_ h
      refine av ⟨_,h,?_⟩
      exact Slm_ SWx
     ·cases rs_ h
      exact ai SC
    ·refine S ?_
     refine aH cs (by omega) (fun cs=>S ?_)
     cases rs_ h
     exact ai SC
   ·cases rs_ h
    exact ai SC
theorem eTs_{a0:Tt}{a1:Tt}{r:Bool}(h:eT_ a0 a1=some r):Sat ah 8 [((ae false) a0),((ae false) a1)] (B r):=by
 obtain⟨n,hn⟩:=ls_ h
 exact(eTN_2 n).1 _ _ _ hn
theorem eTS_1{a0:List Tt}{a1:List Tt}{r:Bool}(h:eTS_2 a0 a1=some r):Sat ah 9 [(.sl false 2 (a0.map (ae false))),(.sl false 2 (a1.map (ae false)))] (B r):=by
 obtain⟨n,hn⟩:=ls_ h
 exact(eTN_2 n).2 _ _ _ hn

theorem mTs_{a0:Int}  {r:ByteArray}(h:mT_ a0=some r):Sat ah 23 [(I a0)] (Sx r):=by
 obtain⟨h,cs⟩:=Ro_ h
 unfold mT_ at h
 refine aq (nt:=20) (rs:=[.tmp 2]) (n:=100000) Try.func23 rfl rfl rfl rfl (by simp) (S ?_)
 refine aj cs h (fun cs h=>S ?_) (fun cs h=>S ?_)
 ·cases rs_ h
  exact ai SC
 ·replace h:=rl_ h
  refine Mg.whileN h (fun s4=>[(0,.val (.pv (I s4.1))),(3,.val (.pv (Sx s4.2)))]) (fun s4=>[]) (Slm_ SC) (fun n4 s4 h=>?_)
  refine S ?_
  refine aj cs h (fun cs h=>S ?_) (fun cs h=>S ?_)
  ·obtain⟨v9,hv9,h⟩:=rb_ h
   refine remH.mk hv9 (S ?_)
   obtain⟨v13,hv13,h⟩:=rb_ h
   refine BstrH.mk hv13 SC (S ?_)
   obtain⟨v15,hv15,h⟩:=rb_ h
   refine SappH.mk hv15 (S ?_)
   obtain⟨v17,hv17,h⟩:=rb_ h
   refine quoH.mk hv17 (S ?_)
   have h:=rs_ h
   refine av ⟨_,h,?_⟩
   exact Slm_ SC
  ·have h:=rs_ h
   obtain⟨v19,hv19,h⟩:=rb_ h
   refine SappH.mk hv19 (S ?_)
   cases rs_ h
   exact ai SC

theorem mTS_5(n:Nat):(∀ (a0:List Tt) (a1:Int) (r:Int×(List Tt)),mTS_ n a0 a1=some r→SatIO ah 10 [(.sl true 2 (a0.map (ae true))),(I a1)] [(.sl true 2 (r.2.map (ae true))),(I a1)] (I r.1)):=by
 induction n with
 | zero=>exact fun _ _ _ h=>by simp[mTS_] at h
 | succ n ih=>
  refine fun a0 a1 r h=>?_
  obtain⟨h,cs⟩:=Ro_ h
  rw[mTS_] at h
  refine SIo_ (nt:=28) (rs:=[.tmp 4]) (n:=100000) Try.func10 rfl rfl rfl rfl (by simp) (S ?_)
  refine aP (S ?_)
  refine VSeq.nil (Nat.le_of_eq rfl) (S ?_)
  refine aP (S ?_)
  refine VSeq.nil (Nat.le_of_eq rfl) (S ?_)
  replace h:=rl_ h
  refine MgI.whileN h (fun s2=>[(0,.val (.own 10000)),(1,.val (.pv (I s2.2.1))),(5,.val (.pv (I s2.2.2)))]) (fun s2=>[(10000,(2,s2.1.map (ae true)))]) (Slm_ SC) (fun n2 s2 h=>?_)
  refine S ?_
  refine aP (S ?_)
  refine aP (S ?_)
  refine aP (S ?_)
  refine aP (S ?_)
  refine VSeq.nil (Nat.le_of_eq rfl) (S ?_)
  refine aj cs h (fun cs h=>S ?_) (fun cs h=>S ?_)
  ·refine aP (S ?_)
   refine aP (S ?_)
   refine aP (S ?_)
   refine aP (S ?_)
   obtain⟨v15,hv15,h⟩:=rb_ h
   refine al [false] (mTs_ hv15) SC (S ?_)
   refine aP (S ?_)
   obtain⟨v16,hv16,h⟩:=rb_ h
   refine az (f:=(ae true)) hv16 SC (S ?_)
   refine aP (S ?_)
   refine aP (S ?_)
   obtain⟨w2,hw2,h⟩:=rb_ h
   refine EldH.mk (f:=(ae true)) hw2 rfl SC (S ?_)
   refine VSeq.nil (Nat.le_of_eq rfl) (S ?_)
   refine aP (S ?_)
   refine aP (S ?_)
   refine aP (S ?_)
   refine VSeq.nil (Nat.le_of_eq rfl) (S ?_)
   refine aP (S ?_)
   refine aP (S ?_)
   refine aP (S ?_)
   obtain⟨v22,hv22,h⟩:=rb_ h
   refine az (f:=(ae true)) hv22 SC (S ?_)
   refine aP (S ?_)
   obtain⟨w3,hw3,h⟩:=rb_ h
   obtain⟨v26,hv26,h⟩:=rb_ h
   refine Vei_ (fx:=(ae true)) (c:=10000) (sz:=2) (p:=[1]) (off:=1) (h1:=rfl) (h3:=rfl) (h2:=rfl) rfl rfl rfl rfl rfl rfl rfl rfl rfl hw3 (ih _ _ _ hv26) SC SC (S ?_)
   refine aP (S ?_)
   refine VSeq.nil (Nat.le_of_eq rfl) (S ?_)
   refine aP (S ?_)
   refine aP (S ?_)
   refine aP (S ?_)
   refine VSeq.nil (Nat.le_of_eq rfl) (S ?_)
   have h:=rs_ h
   refine av ⟨_,h,?_⟩
   exact Slm_ SC
  ·have h:=rs_ h
   refine aP (S ?_)
   refine aP (S ?_)
   refine VSeq.nil (Nat.le_of_eq rfl) (S ?_)
   cases rs_ h
   exact FinIO.mk SC
theorem mTS_2{a0:List Tt}{a1:Int}{r:Int×(List Tt)}(h:mTS_3 a0 a1=some r):SatIO ah 10 [(.sl true 2 (a0.map (ae true))),(I a1)] [(.sl true 2 (r.2.map (ae true))),(I a1)] (I r.1):=by
 obtain⟨n,hn⟩:=ls_ h
 exact(mTS_5 n) _ _ _ hn

theorem mTs_1{a0:Tt}{a1:Int}  {r:Int×(List Tt)}(h:mT_1 a0 a1=some r):SatIO ah 11 [((ae true) a0),(I a1)] [((ae true) (Tt.mk a0.Name r.2)),(I a1)] (I r.1):=by
 obtain⟨h,cs⟩:=Ro_ h
 unfold mT_1 at h
 refine SatIO.of_m (nt:=10) (rs:=[.tmp 4]) (n:=100000) Try.func11 rfl rfl rfl rfl (by simp) (S ?_)
 obtain⟨v8,hv8,h⟩:=rb_ h
 refine CHi_ [(.own 10000),(.pv (I a1))] [(10000,(2,v8.2.map (ae true)))] (mTS_2 hv8) SC (S ?_)
 cases rs_ h
 exact FinIO.mk SC

theorem hTS_3(n:Nat):(∀ (a0:List Tt) (a1:Int) (r:Int),hTS_ n a0 a1=some r→Sat ah 13 [(.sl false 2 (a0.map (ae false))),(I a1)] (I r)):=by
 induction n with
 | zero=>exact fun _ _ _ h=>by simp[hTS_] at h
 | succ n ih=>
  refine fun a0 a1 r h=>?_
  obtain⟨h,cs⟩:=Ro_ h
  rw[hTS_] at h
  refine aq (nt:=32) (rs:=[.tmp 4]) (n:=100000) Try.func13 rfl rfl rfl rfl (by simp) (S ?_)
  refine aU (b:=false) (sz:=2) (es:=a0.map (ae false)) 0 SC fun hl0=>?_; rw[aK] at hl0
  replace h:=rl_ h
  refine aN h (fun i2 s2=>[(0,.val (.pv (.sl false 2 (a0.map (ae false))))),(1,.val (.pv (I s2))),(5,.val (.pv (I (i2:Int))))]) (fun i2 s2=>[]) (Slm_ SC) (fun i2 s2 hi h=>?_) (fun s2 h=>?_)
  ·have w:=ws_ (i:=i2) (by omega)
   refine S ?_
   refine aG cs (by omega) (fun cs=>S ?_)
   obtain⟨v14,hv14,h⟩:=rb_ h
   refine az (f:=(ae false)) hv14 SC (S ?_)
   obtain⟨v18,hv18,h⟩:=rb_ h
   refine al [false] (mTs_ hv18) SC (S ?_)
   refine aa (DHa_ [] []) (S ?_)
   refine aj cs h (fun cs h=>S ?_) (fun cs h=>S ?_)
   ·obtain⟨v24,hv24,h⟩:=rb_ h
    refine az (f:=(ae false)) hv24 SC (S ?_)
    obtain⟨v28,hv28,h⟩:=rb_ h
    refine al [false,false] (ih _ _ _ hv28) SC (S ?_)
    refine aj cs h (fun cs h=>S ?_) (fun cs h=>S ?_)
    ·cases rs_ h
     exact ai SC
    ·have h:=rs_ h
     refine av ⟨_,h,?_⟩
     exact Slm_ SWx
   ·cases rs_ h
    exact ai SC
  ·refine S ?_
   refine aH cs (by omega) (fun cs=>S ?_)
   cases rs_ h
   exact ai SC
theorem hTS_1{a0:List Tt}{a1:Int}{r:Int}(h:hTS_2 a0 a1=some r):Sat ah 13 [(.sl false 2 (a0.map (ae false))),(I a1)] (I r):=by
 obtain⟨n,hn⟩:=ls_ h
 exact(hTS_3 n) _ _ _ hn

theorem hTs_{a0:Tt}{a1:Int}  {r:Int}(h:hT_ a0 a1=some r):Sat ah 12 [((ae false) a0),(I a1)] (I r):=by
 obtain⟨h,cs⟩:=Ro_ h
 unfold hT_ at h
 refine aq (nt:=12) (rs:=[.tmp 4]) (n:=100000) Try.func12 rfl rfl rfl rfl (by simp) (S ?_)
 obtain⟨v8,hv8,h⟩:=rb_ h
 refine al [false,false] (hTS_1 hv8) SC (S ?_)
 refine aj cs h (fun cs h=>S ?_) (fun cs h=>S ?_)
 ·cases rs_ h
  exact ai SC
 ·cases rs_ h
  exact ai SC

theorem FnExactGeneralizeTerms_sat{a0:List Tt}  {r:Bool}(h:FnExactGeneralizeTerms a0=some r):Sat ah 3 [(.sl false 2 (a0.map (ae false)))] (B r):=by
 obtain⟨h,cs⟩:=Ro_ h
 unfold FnExactGeneralizeTerms at h
 refine aq (nt:=133) (rs:=[.tmp 2]) (n:=100000) Try.func3 rfl rfl rfl rfl (by simp) (S ?_)
 obtain⟨v19,hv19,h⟩:=rb_ h
 refine al [false,false] (sTS_3 hv19) SC (S ?_)
 refine aj cs h (fun cs h=>S ?_) (fun cs h=>S ?_)
 ·cases rs_ h
  exact ai SC
 ·obtain⟨v24,hv24,h⟩:=rb_ h
  refine al [false] (tTS_1 hv24) SC (S ?_)
  obtain⟨v25,hv25,h⟩:=rb_ h
  refine al [false] (sGT_1 hv25) SC (S ?_)
  obtain⟨v30,hv30,h⟩:=rb_ h
  refine al [false] (tTS_1 hv30) SC (S ?_)
  obtain⟨v33,hv33,h⟩:=rb_ h
  refine al [false] (iGT_1 hv33) SC (S ?_)
  obtain⟨v39,hv39,h⟩:=rb_ h
  refine al [false,false] (eTs_ hv39) SC (S ?_)
  refine aj cs h (fun cs h=>S ?_) (fun cs h=>S ?_)
  ·obtain⟨v44,hv44,h⟩:=rb_ h
   refine al [false,false] (eTS_1 hv44) SC (S ?_)
   refine aj cs h (fun cs h=>S ?_) (fun cs h=>S ?_)
   ·refine aj cs h (fun cs h=>S ?_) (fun cs h=>S ?_)
    ·obtain⟨v54,hv54,h⟩:=rb_ h
     refine al [false] (tTS_1 hv54) SC (S ?_)
     obtain⟨v55,hv55,h⟩:=rb_ h
     refine al [false,false] (eTS_1 hv55) SC (S ?_)
     refine aj cs h (fun cs h=>S ?_) (fun cs h=>S ?_)
     ·obtain⟨v59,hv59,h⟩:=rb_ h
      refine CHi_ [(.own 480),(.pv (I 1))] [(480,(2,v59.2.map (ae true)))] (mTS_2 hv59) SC (S ?_)
      refine aj cs h (fun cs h=>S ?_) (fun cs h=>S ?_)
      ·cases rs_ h
       exact ai SC
      ·obtain⟨v65,hv65,h⟩:=rb_ h
       refine al [false,false] (eTs_ hv65) SC (S ?_)
       refine aj cs h (fun cs h=>S ?_) (fun cs h=>S ?_)
       ·obtain⟨v71,hv71,h⟩:=rb_ h
        refine al [false,false] (eTS_1 hv71) SC (S ?_)
        refine aj cs h (fun cs h=>S ?_) (fun cs h=>S ?_)
        ·obtain⟨v81,hv81,h⟩:=rb_ h
         refine CHi_ [(.node [(.pv (Sx v33.1.Name)),(.own 528)]),(.pv (I 1))] [(528,(2,v81.2.map (ae true)))] (mTs_1 hv81) SC (S ?_)
         obtain⟨v84,hv84,h⟩:=rb_ h
         refine CHi_ [(.own 529),(.pv (I v81.1))] [(529,(2,v84.2.map (ae true)))] (mTS_2 hv84) SC (S ?_)
         obtain⟨v87,hv87,h⟩:=rb_ h
         refine al [false,false] (hTs_ hv87) SC (S ?_)
         refine aj cs h (fun cs h=>S ?_) (fun cs h=>S ?_)
         ·cases rs_ h
          exact ai SC
         ·obtain⟨v92,hv92,h⟩:=rb_ h
          refine al [false,false] (hTS_1 hv92) SC (S ?_)
          refine aj cs h (fun cs h=>S ?_) (fun cs h=>S ?_)
          ·cases rs_ h
           exact ai SC
          ·refine aj cs h (fun cs h=>S ?_) (fun cs h=>S ?_)
           ·obtain⟨v100,hv100,h⟩:=rb_ h
            refine al [false] (tTS_1 hv100) SC (S ?_)
            obtain⟨v101,hv101,h⟩:=rb_ h
            refine al [false] (iGT_1 hv101) SC (S ?_)
            obtain⟨v107,hv107,h⟩:=rb_ h
            refine al [false,false] (eTs_ hv107) SC (S ?_)
            refine aj cs h (fun cs h=>S ?_) (fun cs h=>S ?_)
            ·obtain⟨v112,hv112,h⟩:=rb_ h
             refine al [false,false] (eTS_1 hv112) SC (S ?_)
             refine aj cs h (fun cs h=>S ?_) (fun cs h=>S ?_)
             ·refine aj cs h (fun cs h=>S ?_) (fun cs h=>S ?_)
              ·obtain⟨v122,hv122,h⟩:=rb_ h
               refine al [false,false] (hTs_ hv122) SC (S ?_)
               refine aj cs h (fun cs h=>S ?_) (fun cs h=>S ?_)
               ·cases rs_ h
                exact ai SC
               ·obtain⟨v127,hv127,h⟩:=rb_ h
                refine al [false,false] (hTS_1 hv127) SC (S ?_)
                refine aj cs h (fun cs h=>S ?_) (fun cs h=>S ?_)
                ·cases rs_ h
                 exact ai SC
                ·refine aj cs h (fun cs h=>S ?_) (fun cs h=>S ?_)
                 ·cases rs_ h
                  exact ai SC
                 ·cases rs_ h
                  exact ai SC
              ·cases rs_ h
               exact ai SC
             ·cases rs_ h
              exact ai SC
            ·cases rs_ h
             exact ai SC
           ·cases rs_ h
            exact ai SC
        ·cases rs_ h
         exact ai SC
       ·cases rs_ h
        exact ai SC
     ·cases rs_ h
      exact ai SC
    ·cases rs_ h
     exact ai SC
   ·cases rs_ h
    exact ai SC
  ·cases rs_ h
   exact ai SC

end Go.Proofs.Ytpfobcjmfobiaaa
