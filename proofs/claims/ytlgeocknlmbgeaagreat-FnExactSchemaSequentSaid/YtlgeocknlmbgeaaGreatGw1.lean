/- A part of the proof: lemmas only; nothing is claimed here beyond what each lemma says. -/
import Derived.Test.YtlgeocknlmbgeaaGreatGw0
set_option linter.unusedSimpArgs false
set_option linter.unusedVariables false
set_option linter.defProp false
set_option maxRecDepth 4000
namespace Go.Proofs.YtlgeocknlmbgeaaGreat
open Go.Av
open And renaming intro→ae
open AppH renaming mk→aR
open CallH renaming mk→aj
open CondH renaming run→ai,t2→aG,f2→aH
open Dt renaming pv→aw
open FinH renaming l→ag,r→aM
open Ft renaming pv→ak
open IdxH renaming mk→au
open List renaming length_map→aF
open Mg renaming know_sl→aO,forN→aI
open Nat renaming le_of_ble_eq_true→bF
open PV renaming views→aE
open RdH renaming mk→aC
open Sa renaming pv→aK
open Sat renaming of_m→aq
open St renaming le_trans→aZ
open Tryz renaming prog→ah
open Tt renaming pv→am
open VSeq renaming step→ap,nil→aQ
set_option maxHeartbeats 4000000
theorem imO_1{a0:Int}  {r:Bool×Int}(h:imO_ a0=some r):Sat ah 217 [(I a0)] (.tup [(B r.1),(I r.2)]):=by
 obtain⟨h,cs⟩:=Ro_ h
 unfold imO_ at h
 refine aq (nt:=36) (rs:=[.tmp 2,.tmp 3]) (n:=100000) Tryz.func217 rfl rfl rfl rfl (by simp) (S ?_)
 refine ai cs h (fun cs h=>S ?_) (fun cs h=>S ?_)
 ·cases rs_ h
  exact ag SC
 ·refine ai cs h (fun cs h=>S ?_) (fun cs h=>S ?_)
  ·cases rs_ h
   exact ag SC
  ·refine ai cs h (fun cs h=>S ?_) (fun cs h=>S ?_)
   ·cases rs_ h
    exact ag SC
   ·refine ai cs h (fun cs h=>S ?_) (fun cs h=>S ?_)
    ·cases rs_ h
     exact ag SC
    ·refine ai cs h (fun cs h=>S ?_) (fun cs h=>S ?_)
     ·cases rs_ h
      exact ag SC
     ·refine ai cs h (fun cs h=>S ?_) (fun cs h=>S ?_)
      ·cases rs_ h
       exact ag SC
      ·refine ai cs h (fun cs h=>S ?_) (fun cs h=>S ?_)
       ·cases rs_ h
        exact ag SC
       ·refine ai cs h (fun cs h=>S ?_) (fun cs h=>S ?_)
        ·cases rs_ h
         exact ag SC
        ·refine ai cs h (fun cs h=>S ?_) (fun cs h=>S ?_)
         ·cases rs_ h
          exact ag SC
         ·refine ai cs h (fun cs h=>S ?_) (fun cs h=>S ?_)
          ·cases rs_ h
           exact ag SC
          ·refine ai cs h (fun cs h=>S ?_) (fun cs h=>S ?_)
           ·cases rs_ h
            exact ag SC
           ·refine ai cs h (fun cs h=>S ?_) (fun cs h=>S ?_)
            ·cases rs_ h
             exact ag SC
            ·cases rs_ h
             exact ag SC

theorem imF_1{a0:Sa}{a1:Dt}  {r:Ft×Bool}(h:imF_ a0 a1=some r):Sat ah 211 [((aK false) a0),((aw false) a1)] (.tup [((ak false) r.1),(B r.2)]):=by
 obtain⟨h,cs⟩:=Ro_ h
 unfold imF_ at h
 refine aq (nt:=47) (rs:=[.cell 4 42,.tmp 5]) (n:=100000) Tryz.func211 rfl rfl rfl rfl (by simp) (S ?_)
 obtain⟨v12,hv12,h⟩:=rb_ h
 refine aj [false] (imO_1 hv12) SC (S ?_)
 refine ai cs h (fun cs h=>S ?_) (fun cs h=>S ?_)
 ·obtain⟨v25,hv25,h⟩:=rb_ h
  refine aj [false,false,false] (iws_ hv25) SC (S ?_)
  refine ai cs h (fun cs h=>S ?_) (fun cs h=>S ?_)
  ·refine ai cs h (fun cs h=>S ?_) (fun cs h=>S ?_)
   ·obtain⟨v45,hv45,h⟩:=rb_ h
    refine au (f:=(ak false)) hv45 SC (S ?_)
    cases rs_ h
    exact aM SC
   ·obtain⟨v34,hv34,h⟩:=rb_ h
    refine au (f:=(ak false)) hv34 SC (S ?_)
    refine ai cs h (fun cs h=>S ?_) (fun cs h=>S ?_)
    ·obtain⟨v45,hv45,h⟩:=rb_ h
     refine au (f:=(ak false)) hv45 SC (S ?_)
     cases rs_ h
     exact aM SC
    ·cases rs_ h
     exact aM SC
  ·cases rs_ h
   exact aM SC
 ·obtain⟨v25,hv25,h⟩:=rb_ h
  refine aj [false,false,false] (iws_ hv25) SC (S ?_)
  refine ai cs h (fun cs h=>S ?_) (fun cs h=>S ?_)
  ·refine ai cs h (fun cs h=>S ?_) (fun cs h=>S ?_)
   ·obtain⟨v45,hv45,h⟩:=rb_ h
    refine au (f:=(ak false)) hv45 SC (S ?_)
    cases rs_ h
    exact aM SC
   ·obtain⟨v34,hv34,h⟩:=rb_ h
    refine au (f:=(ak false)) hv34 SC (S ?_)
    refine ai cs h (fun cs h=>S ?_) (fun cs h=>S ?_)
    ·obtain⟨v45,hv45,h⟩:=rb_ h
     refine au (f:=(ak false)) hv45 SC (S ?_)
     cases rs_ h
     exact aM SC
    ·cases rs_ h
     exact aM SC
  ·cases rs_ h
   exact aM SC

theorem imR_1{a0:Int}  {r:Bool}(h:imR_ a0=some r):Sat ah 218 [(I a0)] (B r):=by
 obtain⟨h,cs⟩:=Ro_ h
 unfold imR_ at h
 refine aq (nt:=9) (rs:=[.tmp 2]) (n:=100000) Tryz.func218 rfl rfl rfl rfl (by simp) (S ?_)
 refine ai cs h (fun cs h=>S ?_) (fun cs h=>S ?_)
 ·cases rs_ h
  exact ag SC
 ·cases rs_ h
  exact ag SC

theorem iiV_3{a0:Tt}  {r:Bool}(h:iiV_2 a0=some r):Sat ah 193 [((am false) a0)] (B r):=by
 obtain⟨h,cs⟩:=Ro_ h
 unfold iiV_2 at h
 refine aq (nt:=7) (rs:=[.tmp 2]) (n:=100000) Tryz.func193 rfl rfl rfl rfl (by simp) (S ?_)
 obtain⟨v5,hv5,h⟩:=rb_ h
 refine SidxH.mk hv5 (S ?_)
 obtain⟨v6,hv6,h⟩:=rb_ h
 refine aj [false] (iiU_1 hv6) SC (S ?_)
 cases rs_ h
 exact ag SC

theorem icN_5(n:Nat):(∀ (a0:List ByteArray) (a1:Tt) (r:List ByteArray),icN_1 n a0 a1=some r→Sat ah 176 [(.sl true 1 (a0.map Sx)),((am false) a1)] (.sl true 1 (r.map Sx))):=by
 induction n with
 | zero=>exact fun _ _ _ h=>by simp[icN_1] at h
 | succ n ih=>
  refine fun a0 a1 r h=>?_
  obtain⟨h,cs⟩:=Ro_ h
  rw[icN_1] at h
  refine aq (nt:=38) (rs:=[.tmp 4]) (n:=100000) Tryz.func176 rfl rfl rfl rfl (by simp) (S ?_)
  refine ai cs h (fun cs h=>S ?_) (fun cs h=>S ?_)
  ·obtain⟨v13,hv13,h⟩:=rb_ h
   refine aj [false] (iiV_3 hv13) SC (S ?_)
   refine ai cs h (fun cs h=>S ?_) (fun cs h=>S ?_)
   ·obtain⟨v18,hv18,h⟩:=rb_ h
    refine aj [false,false] (sCS_2 hv18) SC (S ?_)
    refine ai cs h (fun cs h=>S ?_) (fun cs h=>S ?_)
    ·cases rs_ h
     exact ag SC
    ·obtain⟨v24,hv24,h⟩:=rb_ h
     refine aR (f:=Sx) (fun _=>rfl) hv24 SC SC (S ?_)
     cases rs_ h
     exact ag SC
   ·refine aO (b:=false) (sz:=2) (es:=a1.Args.map (am false)) 8 SC fun hl8=>?_; rw[aF] at hl8
    replace h:=rl_ h
    refine aI h (fun i6 s6=>[(0,.val (.own 9000)),(27,.val (.pv (.sl false 2 (a1.Args.map (am false))))),(28,.val (.pv (I (a1.Args.length:Int)))),(29,.val (.pv (I (i6:Int))))]) (fun i6 s6=>[(9000,(1,s6.map Sx))]) (Slm_ SC) (fun i6 s6 hi h=>?_) (fun s6 h=>?_)
    ·have w:=ws_ (i:=i6) (by omega)
     refine S ?_
     refine aG cs (by omega) (fun cs=>S ?_)
     obtain⟨v31,hv31,h⟩:=rb_ h
     refine au (f:=(am false)) hv31 SC (S ?_)
     obtain⟨v35,hv35,h⟩:=rb_ h
     refine aj [true,false] (ih _ _ _ hv35) SC (S ?_)
     have h:=rs_ h
     refine aC ⟨_,h,?_⟩
     refine aZ (Slm_1 (S:=[(0,.val (.own 560)),(27,.val (.pv (.sl false 2 (a1.Args.map (am false))))),(28,.val (.pv (I (a1.Args.length:Int)))),(29,.val (.pv (I (IntKind.i64.wrap ((i6:Int)+(1:Int))))))]) (O:=[(560,(1,v35.map Sx))]) SW SW) ?_
     refine Slr_ 560 9000 (by decide) NM ?_
     exact Slm_ SW
    ·refine S ?_
     refine aH cs (by omega) (fun cs=>S ?_)
     cases rs_ h
     exact ag SC
  ·refine aO (b:=false) (sz:=2) (es:=a1.Args.map (am false)) 8 SC fun hl8=>?_; rw[aF] at hl8
   replace h:=rl_ h
   refine aI h (fun i6 s6=>[(0,.val (.own 9000)),(27,.val (.pv (.sl false 2 (a1.Args.map (am false))))),(28,.val (.pv (I (a1.Args.length:Int)))),(29,.val (.pv (I (i6:Int))))]) (fun i6 s6=>[(9000,(1,s6.map Sx))]) (Slm_ SC) (fun i6 s6 hi h=>?_) (fun s6 h=>?_)
   ·have w:=ws_ (i:=i6) (by omega)
    refine S ?_
    refine aG cs (by omega) (fun cs=>S ?_)
    obtain⟨v31,hv31,h⟩:=rb_ h
    refine au (f:=(am false)) hv31 SC (S ?_)
    obtain⟨v35,hv35,h⟩:=rb_ h
    refine aj [true,false] (ih _ _ _ hv35) SC (S ?_)
    have h:=rs_ h
    refine aC ⟨_,h,?_⟩
    refine aZ (Slm_1 (S:=[(0,.val (.own 560)),(27,.val (.pv (.sl false 2 (a1.Args.map (am false))))),(28,.val (.pv (I (a1.Args.length:Int)))),(29,.val (.pv (I (IntKind.i64.wrap ((i6:Int)+(1:Int))))))]) (O:=[(560,(1,v35.map Sx))]) SW SW) ?_
    refine Slr_ 560 9000 (by decide) NM ?_
    exact Slm_ SW
   ·refine S ?_
    refine aH cs (by omega) (fun cs=>S ?_)
    cases rs_ h
    exact ag SC
theorem ics_{a0:List ByteArray}{a1:Tt}{r:List ByteArray}(h:ic_ a0 a1=some r):Sat ah 176 [(.sl true 1 (a0.map Sx)),((am false) a1)] (.sl true 1 (r.map Sx)):=by
 obtain⟨n,hn⟩:=ls_ h
 exact(icN_5 n) _ _ _ hn


theorem ivs_{a0:Tt}  {r:List ByteArray}(h:iv_ a0=some r):Sat ah 159 [((am false) a0)] (.sl true 1 (r.map Sx)):=by
 obtain⟨h,cs⟩:=Ro_ h
 unfold iv_ at h
 refine aq (nt:=10) (rs:=[.tmp 2]) (n:=100000) Tryz.func159 rfl rfl rfl rfl (by simp) (S ?_)
 obtain⟨v6,hv6,h⟩:=rb_ h
 refine aj [true,false] (ics_ hv6) SC (S ?_)
 obtain⟨v8,hv8,h⟩:=rb_ h
 refine CHi_1 [(.own 96)] [(96,(1,v8.2.map Sx))] (sSS_2 hv8) SC (S ?_)
 cases rs_ h
 exact ag SC

theorem sCS_7{a0:List ByteArray}  {r:List ByteArray}(h:sCS_4 a0=some r):Sat ah 160 [(.sl false 1 (a0.map Sx))] (.sl true 1 (r.map Sx)):=by
 obtain⟨h,cs⟩:=Ro_ h
 unfold sCS_4 at h
 refine aq (nt:=8) (rs:=[.tmp 2]) (n:=100000) Tryz.func160 rfl rfl rfl rfl (by simp) (S ?_)
 refine NilH.mk (fun e=>?_) ?_
 ·obtain rfl:a0=[]:=List.map_eq_nil_iff.1 e
  simp only[app_nn,Option.bind_some] at h
  refine S ?_
  cases rs_ h
  exact ag SC
 ·skip
  refine S ?_
  obtain⟨v7,hv7,h⟩:=rb_ h
  refine aR (f:=Sx) (fun _=>rfl) hv7 SC SC (S ?_)
  cases rs_ h
  exact ag SC

theorem igN_1(n:Nat):(∀ (a0:List ByteArray) (a1:Ft) (a2:List ByteArray) (r:List ByteArray),igN_ n a0 a1 a2=some r→Sat ah 135 [(.sl true 1 (a0.map Sx)),((ak false) a1),(.sl false 1 (a2.map Sx))] (.sl true 1 (r.map Sx))):=by
 induction n with
 | zero=>exact fun _ _ _ _ h=>by simp[igN_] at h
 | succ n ih=>
  refine fun a0 a1 a2 r h=>?_
  obtain⟨h,cs⟩:=Ro_ h
  rw[igN_] at h
  refine aq (nt:=60) (rs:=[.tmp 6]) (n:=100000) Tryz.func135 rfl rfl rfl rfl (by simp) (S ?_)
  refine ai cs h (fun cs h=>S ?_) (fun cs h=>S ?_)
  ·obtain⟨v16,hv16,h⟩:=rb_ h
   refine aj [false] (ivs_ hv16) SC (S ?_)
   refine Mg.know_own (sz:=1) (es:=v16.map Sx) 256 SC fun hl256=>?_; rw[aF] at hl256
   replace h:=rl_ h
   refine aI h (fun i3 s3=>[(0,.val (.own 9000)),(2,.val (.pv (.sl false 1 (a2.map Sx)))),(16,.val (.own 256)),(17,.val (.pv (I (v16.length:Int)))),(18,.val (.pv (I (i3:Int))))]) (fun i3 s3=>[(9000,(1,s3.map Sx)),(256,(1,v16.map Sx))]) (Slm_ SC) (fun i3 s3 hi h=>?_) (fun s3 h=>?_)
   ·have w:=ws_ (i:=i3) (by omega)
    refine S ?_
    refine aG cs (by omega) (fun cs=>S ?_)
    obtain⟨v20,hv20,h⟩:=rb_ h
    refine au (f:=Sx) hv20 SC (S ?_)
    obtain⟨v21,hv21,h⟩:=rb_ h
    refine EldH.mk (f:=Sx) hv21 rfl SC (S ?_)
    obtain⟨v24,hv24,h⟩:=rb_ h
    refine aj [false,false] (sCS_2 hv24) SC (S ?_)
    refine ai cs h (fun cs h=>S ?_) (fun cs h=>S ?_)
    ·have h:=rs_ h
     refine aC ⟨_,h,?_⟩
     exact Slm_ SW
    ·obtain⟨v29,hv29,h⟩:=rb_ h
     refine aj [false,false] (sCS_2 hv29) SC (S ?_)
     refine ai cs h (fun cs h=>S ?_) (fun cs h=>S ?_)
     ·have h:=rs_ h
      refine aC ⟨_,h,?_⟩
      exact Slm_ SW
     ·obtain⟨v35,hv35,h⟩:=rb_ h
      refine aR (f:=Sx) (fun _=>rfl) hv35 SC SC (S ?_)
      have h:=rs_ h
      refine aC ⟨_,h,?_⟩
      refine aZ (Slm_1 (S:=[(0,.val (.own 560)),(2,.val (.pv (.sl false 1 (a2.map Sx)))),(16,.val (.own 256)),(17,.val (.pv (I (v16.length:Int)))),(18,.val (.pv (I (IntKind.i64.wrap ((i3:Int)+(1:Int))))))]) (O:=[(560,(1,v35.map Sx)),(256,(1,v16.map Sx))]) SW SW) ?_
      refine Slr_ 560 9000 (by decide) NM ?_
      exact Slm_ SW
   ·refine S ?_
    refine aH cs (by omega) (fun cs=>S ?_)
    cases rs_ h
    exact ag SC
  ·obtain⟨v40,hv40,h⟩:=rb_ h
   refine aj [false] (iiQ_ hv40) SC (S ?_)
   refine ai cs h (fun cs h=>S ?_) (fun cs h=>S ?_)
   ·obtain⟨v42,hv42,h⟩:=rb_ h
    refine aj [false] (sCS_7 hv42) SC (S ?_)
    obtain⟨v46,hv46,h⟩:=rb_ h
    refine aR (f:=Sx) (fun _=>rfl) hv46 SC SC (S ?_)
    refine ae (DHa_ [] [672,720,736]) (S ?_)
    refine aO (b:=false) (sz:=5) (es:=a1.Parts.map (ak false)) 48 SC fun hl48=>?_; rw[aF] at hl48
    replace h:=rl_ h
    refine aI h (fun i12 s12=>[(0,.val (.own 9000)),(2,.val (.own 736)),(48,.val (.pv (.sl false 5 (a1.Parts.map (ak false))))),(49,.val (.pv (I (a1.Parts.length:Int)))),(50,.val (.pv (I (i12:Int))))]) (fun i12 s12=>[(9000,(1,s12.map Sx)),(736,(1,v46.map Sx))]) (Slm_ SC) (fun i12 s12 hi h=>?_) (fun s12 h=>?_)
    ·have w:=ws_ (i:=i12) (by omega)
     refine S ?_
     refine aG cs (by omega) (fun cs=>S ?_)
     obtain⟨v52,hv52,h⟩:=rb_ h
     refine au (f:=(ak false)) hv52 SC (S ?_)
     obtain⟨v57,hv57,h⟩:=rb_ h
     refine aj [true,false,false] (ih _ _ _ _ hv57) SC (S ?_)
     have h:=rs_ h
     refine aC ⟨_,h,?_⟩
     refine aZ (Slm_1 (S:=[(0,.val (.own 912)),(2,.val (.own 736)),(48,.val (.pv (.sl false 5 (a1.Parts.map (ak false))))),(49,.val (.pv (I (a1.Parts.length:Int)))),(50,.val (.pv (I (IntKind.i64.wrap ((i12:Int)+(1:Int))))))]) (O:=[(912,(1,v57.map Sx)),(736,(1,v46.map Sx))]) SW SW) ?_
     refine Slr_ 912 9000 (by decide) NM ?_
     exact Slm_ SW
    ·refine S ?_
     refine aH cs (by omega) (fun cs=>S ?_)
     cases rs_ h
     exact ag SC
   ·refine aO (b:=false) (sz:=5) (es:=a1.Parts.map (ak false)) 48 SC fun hl48=>?_; rw[aF] at hl48
    replace h:=rl_ h
    refine aI h (fun i12 s12=>[(0,.val (.own 9000)),(2,.val (.pv (.sl false 1 (a2.map Sx)))),(48,.val (.pv (.sl false 5 (a1.Parts.map (ak false))))),(49,.val (.pv (I (a1.Parts.length:Int)))),(50,.val (.pv (I (i12:Int))))]) (fun i12 s12=>[(9000,(1,s12.map Sx))]) (Slm_ SC) (fun i12 s12 hi h=>?_) (fun s12 h=>?_)
    ·have w:=ws_ (i:=i12) (by omega)
     refine S ?_
     refine aG cs (by omega) (fun cs=>S ?_)
     obtain⟨v52,hv52,h⟩:=rb_ h
     refine au (f:=(ak false)) hv52 SC (S ?_)
     obtain⟨v57,hv57,h⟩:=rb_ h
     refine aj [true,false,false] (ih _ _ _ _ hv57) SC (S ?_)
     have h:=rs_ h
     refine aC ⟨_,h,?_⟩
     refine aZ (Slm_1 (S:=[(0,.val (.own 912)),(2,.val (.pv (.sl false 1 (a2.map Sx)))),(48,.val (.pv (.sl false 5 (a1.Parts.map (ak false))))),(49,.val (.pv (I (a1.Parts.length:Int)))),(50,.val (.pv (I (IntKind.i64.wrap ((i12:Int)+(1:Int))))))]) (O:=[(912,(1,v57.map Sx))]) SW SW) ?_
     refine Slr_ 912 9000 (by decide) NM ?_
     exact Slm_ SW
    ·refine S ?_
     refine aH cs (by omega) (fun cs=>S ?_)
     cases rs_ h
     exact ag SC
theorem igs_{a0:List ByteArray}{a1:Ft}{a2:List ByteArray}{r:List ByteArray}(h:ig_ a0 a1 a2=some r):Sat ah 135 [(.sl true 1 (a0.map Sx)),((ak false) a1),(.sl false 1 (a2.map Sx))] (.sl true 1 (r.map Sx)):=by
 obtain⟨n,hn⟩:=ls_ h
 exact(igN_1 n) _ _ _ _ hn

theorem ifs_{a0:Ft}  {r:List ByteArray}(h:if_ a0=some r):Sat ah 95 [((ak false) a0)] (.sl true 1 (r.map Sx)):=by
 obtain⟨h,cs⟩:=Ro_ h
 unfold if_ at h
 refine aq (nt:=10) (rs:=[.tmp 2]) (n:=100000) Tryz.func95 rfl rfl rfl rfl (by simp) (S ?_)
 obtain⟨v6,hv6,h⟩:=rb_ h
 refine aj [true,false,false] (igs_ hv6) SC (S ?_)
 obtain⟨v8,hv8,h⟩:=rb_ h
 refine CHi_1 [(.own 96)] [(96,(1,v8.2.map Sx))] (sSS_2 hv8) SC (S ?_)
 cases rs_ h
 exact ag SC

theorem iiF_3{a0:Ft}{b0:ByteArray}  {r:Bool}(h:iiF_ a0 b0=some r):Sat ah 220 [((ak false) a0),.ptr (Sx b0)] (B r):=by
 obtain⟨h,cs⟩:=Ro_ h
 unfold iiF_ at h
 refine aq (nt:=8) (rs:=[.tmp 3]) (n:=100000) Tryz.func220 rfl rfl rfl rfl (by simp) (S ?_)
 obtain⟨v5,hv5,h⟩:=rb_ h
 refine aj [false] (ifs_ hv5) SC (S ?_)
 obtain⟨v7,hv7,h⟩:=rb_ h
 refine aj [false,false] (sCS_2 hv7) SC (S ?_)
 refine ae (DHa_ [] [80]) (S ?_)
 cases rs_ h
 exact ag SC

theorem iiF_5{a0:Sa}{a1:ByteArray}  {r:Bool}(h:iiF_2 a0 a1=some r):Sat ah 219 [((aK false) a0),(Sx a1)] (B r):=by
 obtain⟨h,cs⟩:=Ro_ h
 unfold iiF_2 at h
 refine aq (nt:=17) (rs:=[.tmp 4]) (n:=100000) Tryz.func219 rfl rfl rfl rfl (by simp) (S ?_)
 refine MfH.fr (S ?_)
 obtain⟨v10,hv10,h⟩:=rb_ h
 refine aj [false,false] (sCF_1 (fun _ _ hh=>iiF_3 hh) (by simp only[COn_,COc_]) hv10) SC (S ?_)
 refine ai cs h (fun cs h=>S ?_) (fun cs h=>S ?_)
 ·cases rs_ h
  exact ag SC
 ·obtain⟨v15,hv15,h⟩:=rb_ h
  refine aj [false,false] (sCF_1 (fun _ _ hh=>iiF_3 hh) (by simp only[COn_,COc_]) hv15) SC (S ?_)
  cases rs_ h
  exact ag SC

theorem icT_4(n:Nat):(∀ (a0:Tt) (r:Tt),icT_ n a0=some r→Sat ah 137 [((am false) a0)] ((am true) r))∧(∀ (a0:List Tt) (r:List Tt),icT_1 n a0=some r→Sat ah 163 [(.sl false 2 (a0.map (am false)))] (.sl true 2 (r.map (am true)))):=by
 induction n with
 | zero=>exact⟨fun _ _ h=>by simp[icT_] at h,fun _ _ h=>by simp[icT_1] at h⟩
 | succ n ih=>
  refine⟨fun a0 r h=>?_,fun a0 r h=>?_⟩
  ·obtain⟨h,cs⟩:=Ro_ h
   rw[icT_] at h
   refine aq (nt:=9) (rs:=[.cell 2 39]) (n:=100000) Tryz.func137 rfl rfl rfl rfl (by simp) (S ?_)
   obtain⟨v7,hv7,h⟩:=rb_ h
   refine aj [false] (ih.2 _ _ hv7) SC (S ?_)
   refine ae (DHa_ [] [112]) (S ?_)
   cases rs_ h
   exact ag SC
  ·obtain⟨h,cs⟩:=Ro_ h
   rw[icT_1] at h
   refine aq (nt:=26) (rs:=[.tmp 2]) (n:=100000) Tryz.func163 rfl rfl rfl rfl (by simp) (S ?_)
   refine ai cs h (fun cs h=>S ?_) (fun cs h=>S ?_)
   ·cases rs_ h
    exact ag SC
   ·obtain⟨n11,hn11,h⟩:=rb_ h
    refine MknH.mk hn11 (S ?_)
    refine aO (b:=false) (sz:=2) (es:=a0.map (am false)) 0 SC fun hl0=>?_; rw[aF] at hl0
    replace h:=rl_ h
    refine aI h (fun i5 s5=>[(3,.val (.own 176)),(12,.val (.pv (.sl false 2 (a0.map (am false))))),(13,.val (.pv (I (a0.length:Int)))),(14,.val (.pv (I (i5:Int))))]) (fun i5 s5=>[(176,(2,s5.map (am true)))]) (Slm_ SC) (fun i5 s5 hi h=>?_) (fun s5 h=>?_)
    ·have w:=ws_ (i:=i5) (by omega)
     refine S ?_
     refine aG cs (by omega) (fun cs=>S ?_)
     obtain⟨v17,hv17,h⟩:=rb_ h
     refine au (f:=(am false)) hv17 SC (S ?_)
     obtain⟨v22,hv22,h⟩:=rb_ h
     refine aj [false] (ih.1 _ _ hv22) SC (S ?_)
     obtain⟨v23,hv23,h⟩:=rb_ h
     refine au (f:=(am true)) hv23 SC (S ?_)
     obtain⟨w3,hw3,h⟩:=rb_ h
     refine EldH.mk (f:=(am true)) hw3 rfl SC (S ?_)
     have h:=rs_ h
     refine aC ⟨_,h,?_⟩
     exact Slm_ SW
    ·refine S ?_
     refine aH cs (by omega) (fun cs=>S ?_)
     cases rs_ h
     exact ag SC
theorem icT_3{a0:Tt}{r:Tt}(h:icT_2 a0=some r):Sat ah 137 [((am false) a0)] ((am true) r):=by
 obtain⟨n,hn⟩:=ls_ h
 exact(icT_4 n).1 _ _ hn
theorem icT_6{a0:List Tt}{r:List Tt}(h:icT_5 a0=some r):Sat ah 163 [(.sl false 2 (a0.map (am false)))] (.sl true 2 (r.map (am true))):=by
 obtain⟨n,hn⟩:=ls_ h
 exact(icT_4 n).2 _ _ hn

theorem imP_3{a0:Ft}{a1:Ft→Option Ft}{a1_id:FuncId}{a1_cs:List PV}(a1_ok:∀ y0 r,a1 y0=some r→Sat ah a1_id (((ak false) y0)::a1_cs) ((ak true) r))(a1_cz:CapsOk a1_cs=True){r:Ft}(h:imP_2 a0 a1=some r):Sat ah 98 [((ak false) a0),.clo a1_id a1_cs] ((ak true) r):=by
 obtain⟨h,cs⟩:=Ro_ h
 unfold imP_2 at h
 have cs:=ae a1_cz cs
 refine aq (nt:=33) (rs:=[.cell 4 42]) (n:=100000) Tryz.func98 rfl rfl rfl rfl (by simp) (S ?_)
 obtain⟨v12,hv12,h⟩:=rb_ h
 refine aj [false] (icT_3 hv12) SC (S ?_)
 refine ae (DHa_ [5] [192]) (S ?_)
 refine aO (b:=false) (sz:=5) (es:=a0.Parts.map (ak false)) 17 SC fun hl17=>?_; rw[aF] at hl17
 replace h:=rl_ h
 refine aI h (fun i3 s3=>[(1,.val (.pv (.clo a1_id a1_cs))),(4,.box (.node [(.pv (I (0:Int))),(.node [(.pv (Sx (⟨#[]⟩:ByteArray))),(.pv (.sl true 2 []))]),(.pv (Sx (⟨#[]⟩:ByteArray))),(.pv (.sl true 5 []))])),(5,.box (.node [(.pv (I a0.Op)),(.node [(.pv (Sx v12.Name)),(.own 192)]),(.pv (Sx a0.Var)),(.own 9309)])),(17,.val (.pv (.sl false 5 (a0.Parts.map (ak false))))),(18,.val (.pv (I (a0.Parts.length:Int)))),(19,.val (.pv (I (i3:Int))))]) (fun i3 s3=>[(192,(2,v12.Args.map (am true))),(9309,(5,s3.map (ak true)))]) (aZ (Sln_ (x:=(.node [(.pv (I a0.Op)),(.node [(.pv (Sx v12.Name)),(.own 192)]),(.pv (Sx a0.Var)),(.pv (.sl true 5 []))])) 5 [3] 9309 5 NM SC SC SC) (Slm_ SC)) (fun i3 s3 hi h=>?_) (fun s3 h=>?_)
 ·have w:=ws_ (i:=i3) (by omega)
  refine S ?_
  refine aG cs (by omega) (fun cs=>S ?_)
  obtain⟨v21,hv21,h⟩:=rb_ h
  refine au (f:=(ak false)) hv21 SC (S ?_)
  obtain⟨v27,hv27,h⟩:=rb_ h
  refine aj [false] (a1_ok _ _ hv27) SC (S ?_)
  obtain⟨v29,hv29,h⟩:=rb_ h
  refine aR (f:=(ak true)) (fun a=>Ft.psize _ a) hv29 SC SC (S ?_)
  refine ae (DHa_ [] [432,433,448,464]) (S ?_)
  have h:=rs_ h
  refine aC ⟨_,h,?_⟩
  refine aZ (Slm_1 (S:=[(1,.val (.pv (.clo a1_id a1_cs))),(4,.box (.node [(.pv (I (0:Int))),(.node [(.pv (Sx (⟨#[]⟩:ByteArray))),(.pv (.sl true 2 []))]),(.pv (Sx (⟨#[]⟩:ByteArray))),(.pv (.sl true 5 []))])),(5,.box (.node [(.pv (I a0.Op)),(.node [(.pv (Sx v12.Name)),(.own 192)]),(.pv (Sx a0.Var)),(.own 464)])),(17,.val (.pv (.sl false 5 (a0.Parts.map (ak false))))),(18,.val (.pv (I (a0.Parts.length:Int)))),(19,.val (.pv (I (IntKind.i64.wrap ((i3:Int)+(1:Int))))))]) (O:=[(192,(2,v12.Args.map (am true))),(464,(5,v29.map (ak true)))]) SW SW) ?_
  refine Slr_ 464 9309 (by decide) NM ?_
  exact Slm_ SW
 ·refine S ?_
  refine aH cs (by omega) (fun cs=>S ?_)
  cases rs_ h
  exact ag SC

theorem icF_5(n:Nat):(∀ (a0:Ft) (r:Ft),icF_ n a0=some r→Sat ah 46 [((ak false) a0)] ((ak true) r)):=by
 induction n with
 | zero=>exact fun _ _ h=>by simp[icF_] at h
 | succ n ih=>
  refine fun a0 r h=>?_
  obtain⟨h,cs⟩:=Ro_ h
  rw[icF_] at h
  refine aq (nt:=5) (rs:=[.cell 2 42]) (n:=100000) Tryz.func46 rfl rfl rfl rfl (by simp) (S ?_)
  obtain⟨v4,hv4,h⟩:=rb_ h
  refine aj [false,false] (imP_3 (fun _ _ hh=>ih _ _ hh) (by simp only[COn_,COc_]) hv4) SC (S ?_)
  cases rs_ h
  exact ag SC
theorem icF_3{a0:Ft}{r:Ft}(h:icF_2 a0=some r):Sat ah 46 [((ak false) a0)] ((ak true) r):=by
 obtain⟨n,hn⟩:=ls_ h
 exact(icF_5 n) _ _ hn

theorem icN_3(n:Nat):(∀ (a0:Tt) (a1:ByteArray) (r:Int),icN_ n a0 a1=some r→Sat ah 174 [((am false) a0),(Sx a1)] (I r)):=by
 induction n with
 | zero=>exact fun _ _ _ h=>by simp[icN_] at h
 | succ n ih=>
  refine fun a0 a1 r h=>?_
  obtain⟨h,cs⟩:=Ro_ h
  rw[icN_] at h
  refine aq (nt:=26) (rs:=[.tmp 4]) (n:=100000) Tryz.func174 rfl rfl rfl rfl (by simp) (S ?_)
  refine ai cs h (fun cs h=>S ?_) (fun cs h=>S ?_)
  ·refine aO (b:=false) (sz:=2) (es:=a0.Args.map (am false)) 13 SC fun hl13=>?_; rw[aF] at hl13
   replace h:=rl_ h
   refine aI h (fun i5 s5=>[(1,.val (.pv (Sx a1))),(5,.val (.pv (I s5))),(13,.val (.pv (.sl false 2 (a0.Args.map (am false))))),(14,.val (.pv (I (a0.Args.length:Int)))),(15,.val (.pv (I (i5:Int))))]) (fun i5 s5=>[]) (Slm_ SC) (fun i5 s5 hi h=>?_) (fun s5 h=>?_)
   ·have w:=ws_ (i:=i5) (by omega)
    refine S ?_
    refine aG cs (by omega) (fun cs=>S ?_)
    obtain⟨v17,hv17,h⟩:=rb_ h
    refine au (f:=(am false)) hv17 SC (S ?_)
    obtain⟨v22,hv22,h⟩:=rb_ h
    refine aj [false,false] (ih _ _ _ hv22) SC (S ?_)
    have h:=rs_ h
    refine aC ⟨_,h,?_⟩
    exact Slm_ SW
   ·refine S ?_
    refine aH cs (by omega) (fun cs=>S ?_)
    cases rs_ h
    exact ag SC
  ·refine aO (b:=false) (sz:=2) (es:=a0.Args.map (am false)) 13 SC fun hl13=>?_; rw[aF] at hl13
   replace h:=rl_ h
   refine aI h (fun i5 s5=>[(1,.val (.pv (Sx a1))),(5,.val (.pv (I s5))),(13,.val (.pv (.sl false 2 (a0.Args.map (am false))))),(14,.val (.pv (I (a0.Args.length:Int)))),(15,.val (.pv (I (i5:Int))))]) (fun i5 s5=>[]) (Slm_ SC) (fun i5 s5 hi h=>?_) (fun s5 h=>?_)
   ·have w:=ws_ (i:=i5) (by omega)
    refine S ?_
    refine aG cs (by omega) (fun cs=>S ?_)
    obtain⟨v17,hv17,h⟩:=rb_ h
    refine au (f:=(am false)) hv17 SC (S ?_)
    obtain⟨v22,hv22,h⟩:=rb_ h
    refine aj [false,false] (ih _ _ _ hv22) SC (S ?_)
    have h:=rs_ h
    refine aC ⟨_,h,?_⟩
    exact Slm_ SW
   ·refine S ?_
    refine aH cs (by omega) (fun cs=>S ?_)
    cases rs_ h
    exact ag SC
theorem icN_4{a0:Tt}{a1:ByteArray}{r:Int}(h:icN_2 a0 a1=some r):Sat ah 174 [((am false) a0),(Sx a1)] (I r):=by
 obtain⟨n,hn⟩:=ls_ h
 exact(icN_3 n) _ _ _ hn

theorem ios_{a0:ByteArray}{a1:Tt}  {r:Bool}(h:io_ a0 a1=some r):Sat ah 155 [(Sx a0),((am false) a1)] (B r):=by
 obtain⟨h,cs⟩:=Ro_ h
 unfold io_ at h
 refine aq (nt:=9) (rs:=[.tmp 4]) (n:=100000) Tryz.func155 rfl rfl rfl rfl (by simp) (S ?_)
 obtain⟨v7,hv7,h⟩:=rb_ h
 refine aj [false,false] (icN_4 hv7) SC (S ?_)
 cases rs_ h
 exact ag SC

theorem ciN_1{a0:ByteArray}  {r:Bool}(h:ciN_ a0=some r):Sat ah 199 [(Sx a0)] (B r):=by
 obtain⟨h,cs⟩:=Ro_ h
 unfold ciN_ at h
 refine aq (nt:=6) (rs:=[.tmp 2]) (n:=100000) Tryz.func199 rfl rfl rfl rfl (by simp) (S ?_)
 cases rs_ h
 exact ag SC

theorem cCs_1{a0:ByteArray}{a1:ByteArray}  {r:Int}(h:cCs_ a0 a1=some r):Sat ah 192 [(Sx a0),(Sx a1)] (I r):=by
 obtain⟨h,cs⟩:=Ro_ h
 unfold cCs_ at h
 refine aq (nt:=20) (rs:=[.tmp 4]) (n:=100000) Tryz.func192 rfl rfl rfl rfl (by simp) (S ?_)
 obtain⟨v8,hv8,h⟩:=rb_ h
 refine aj [false] (ciN_1 hv8) SC (S ?_)
 obtain⟨v10,hv10,h⟩:=rb_ h
 refine aj [false] (ciN_1 hv10) SC (S ?_)
 refine ai cs h (fun cs h=>S ?_) (fun cs h=>S ?_)
 ·refine ai cs h (fun cs h=>S ?_) (fun cs h=>S ?_)
  ·cases rs_ h
   exact ag SC
  ·cases rs_ h
   exact ag SC
 ·refine ai cs h (fun cs h=>S ?_) (fun cs h=>S ?_)
  ·cases rs_ h
   exact ag SC
  ·refine ai cs h (fun cs h=>S ?_) (fun cs h=>S ?_)
   ·cases rs_ h
    exact ag SC
   ·refine ai cs h (fun cs h=>S ?_) (fun cs h=>S ?_)
    ·cases rs_ h
     exact ag SC
    ·cases rs_ h
     exact ag SC

theorem iSt_2{a0:Bt}{a1:ByteArray}  {r:Int}(h:iSt_ a0 a1=some r):Sat ah 191 [((Bt.pv false) a0),(Sx a1)] (I r):=by
 obtain⟨h,cs⟩:=Ro_ h
 unfold iSt_ at h
 refine aq (nt:=9) (rs:=[.tmp 4]) (n:=100000) Tryz.func191 rfl rfl rfl rfl (by simp) (S ?_)
 obtain⟨v8,hv8,h⟩:=rb_ h
 refine aj [false,false] (cCs_1 hv8) SC (S ?_)
 cases rs_ h
 exact ag SC

theorem sBS_1{a0:List Bt}{a1:ByteArray}{a2:Bt→ByteArray→Option Int}{a2_id:FuncId}{a2_cs:List PV}(a2_ok:∀ y0 y1 r,a2 y0 y1=some r→Sat ah a2_id (((Bt.pv false) y0)::(Sx y1)::a2_cs) (I r))(a2_cz:CapsOk a2_cs=True){r:Int×Bool}(h:sBS_ a0 a1 a2=some r):Sat ah 190 [(.sl false 3 (a0.map (Bt.pv false))),(Sx a1),.clo a2_id a2_cs] (.tup [(I r.1),(B r.2)]):=by
 obtain⟨h,cs⟩:=Ro_ h
 unfold sBS_ at h
 have cs:=ae a2_cz cs
 refine aq (nt:=49) (rs:=[.tmp 6,.tmp 7]) (n:=100000) Tryz.func190 rfl rfl rfl rfl (by simp) (S ?_)
 replace h:=rl_ h
 refine Mg.whileN h (fun s3=>[(0,.val (.pv (.sl false 3 (a0.map (Bt.pv false))))),(1,.val (.pv (Sx a1))),(2,.val (.pv (.clo a2_id a2_cs))),(8,.val (.pv (I (a0.length:Int)))),(9,.val (.pv (I s3.1))),(10,.val (.pv (I s3.2)))]) (fun s3=>[]) (Slm_ SC) (fun n3 s3 h=>?_)
 refine S ?_
 refine ai cs h (fun cs h=>S ?_) (fun cs h=>S ?_)
 ·obtain⟨v22,hv22,h⟩:=rb_ h
  refine ShrH.mk hv22 (S ?_)
  obtain⟨v27,hv27,h⟩:=rb_ h
  refine au (f:=(Bt.pv false)) hv27 SC (S ?_)
  obtain⟨v30,hv30,h⟩:=rb_ h
  refine aj [false,false] (a2_ok _ _ _ hv30) SC (S ?_)
  refine ai cs h (fun cs h=>S ?_) (fun cs h=>S ?_)
  ·have h:=rs_ h
   refine aC ⟨_,h,?_⟩
   exact Slm_ SC
  ·have h:=rs_ h
   refine aC ⟨_,h,?_⟩
   exact Slm_ SC
 ·have h:=rs_ h
  refine ai cs h (fun cs h=>S ?_) (fun cs h=>S ?_)
  ·obtain⟨v43,hv43,h⟩:=rb_ h
   refine au (f:=(Bt.pv false)) hv43 SC (S ?_)
   obtain⟨v46,hv46,h⟩:=rb_ h
   refine aj [false,false] (a2_ok _ _ _ hv46) SC (S ?_)
   cases rs_ h
   exact ag SC
  ·cases rs_ h
   exact ag SC

theorem iSt_3{a0:Sc}{a1:ByteArray}  {r:Tt×Bool}(h:iSt_1 a0 a1=some r):Sat ah 175 [((Sc.pv false) a0),(Sx a1)] (.tup [((am false) r.1),(B r.2)]):=by
 obtain⟨h,cs⟩:=Ro_ h
 unfold iSt_1 at h
 refine aq (nt:=24) (rs:=[.cell 4 39,.tmp 5]) (n:=100000) Tryz.func175 rfl rfl rfl rfl (by simp) (S ?_)
 obtain⟨v12,hv12,h⟩:=rb_ h
 refine aj [false,false,false] (sBS_1 (fun _ _ _ hh=>iSt_2 hh) (by simp only[COn_,COc_]) hv12) SC (S ?_)
 refine ai cs h (fun cs h=>S ?_) (fun cs h=>S ?_)
 ·obtain⟨v21,hv21,h⟩:=rb_ h
  refine au (f:=(Bt.pv false)) hv21 SC (S ?_)
  cases rs_ h
  exact aM SC
 ·cases rs_ h
  exact aM SC

theorem iSa_3(n:Nat):(∀ (a0:Sc) (a1:Tt) (r:Tt),iSa_ n a0 a1=some r→Sat ah 157 [((Sc.pv false) a0),((am false) a1)] ((am true) r)):=by
 induction n with
 | zero=>exact fun _ _ _ h=>by simp[iSa_] at h
 | succ n ih=>
  refine fun a0 a1 r h=>?_
  obtain⟨h,cs⟩:=Ro_ h
  rw[iSa_] at h
  refine aq (nt:=51) (rs:=[.cell 4 39]) (n:=100000) Tryz.func157 rfl rfl rfl rfl (by simp) (S ?_)
  refine ai cs h (fun cs h=>S ?_) (fun cs h=>S ?_)
  ·obtain⟨v18,hv18,h⟩:=rb_ h
   refine aj [false,false] (iSt_3 hv18) SC (S ?_)
   refine ai cs h (fun cs h=>S ?_) (fun cs h=>S ?_)
   ·obtain⟨v23,hv23,h⟩:=rb_ h
    refine aj [false] (icT_3 hv23) SC (S ?_)
    cases rs_ h
    exact ag SC
   ·cases rs_ h
    exact ag SC
  ·obtain⟨n32,hn32,h⟩:=rb_ h
   refine MknH.mk hn32 (S ?_)
   refine ae (DHa_ [7] [512]) (S ?_)
   refine aO (b:=false) (sz:=2) (es:=a1.Args.map (am false)) 11 SC fun hl11=>?_; rw[aF] at hl11
   replace h:=rl_ h
   refine aI h (fun i8 s8=>[(2,.box (.pv ((Sc.pv false) a0))),(4,.box (.node [(.pv (Sx (⟨#[]⟩:ByteArray))),(.pv (.sl true 2 []))])),(7,.box (.node [(.pv (Sx a1.Name)),(.own 512)])),(35,.val (.pv (.sl false 2 (a1.Args.map (am false))))),(36,.val (.pv (I (a1.Args.length:Int)))),(37,.val (.pv (I (i8:Int))))]) (fun i8 s8=>[(512,(2,s8.map (am true)))]) (Slm_ SC) (fun i8 s8 hi h=>?_) (fun s8 h=>?_)
   ·have w:=ws_ (i:=i8) (by omega)
    refine S ?_
    refine aG cs (by omega) (fun cs=>S ?_)
    obtain⟨v40,hv40,h⟩:=rb_ h
    refine au (f:=(am false)) hv40 SC (S ?_)
    obtain⟨v47,hv47,h⟩:=rb_ h
    refine aj [false,false] (ih _ _ _ hv47) SC (S ?_)
    obtain⟨v48,hv48,h⟩:=rb_ h
    refine au (f:=(am true)) hv48 SC (S ?_)
    obtain⟨w4,hw4,h⟩:=rb_ h
    refine EldH.mk (f:=(am true)) hw4 rfl SC (S ?_)
    refine ae (DHa_ [] [752]) (S ?_)
    have h:=rs_ h
    refine aC ⟨_,h,?_⟩
    exact Slm_ SW
   ·refine S ?_
    refine aH cs (by omega) (fun cs=>S ?_)
    cases rs_ h
    exact ag SC
theorem iSa_2{a0:Sc}{a1:Tt}{r:Tt}(h:iSa_1 a0 a1=some r):Sat ah 157 [((Sc.pv false) a0),((am false) a1)] ((am true) r):=by
 obtain⟨n,hn⟩:=ls_ h
 exact(iSa_3 n) _ _ _ hn

theorem imP_1{a0:Ft}{a1:Ft→Bool→Option (Ft×Bool)}{a1_s:Bool}{a1_id:FuncId}{a1_pat:List Bool}{a1_ps a1_p1 a1_p2:List PV}(a1_ok:∀ y0 s r,a1 y0 s=some r→SatH ah a1_id (((ak false) y0)::a1_p1) a1_p2 .ptr [] (.pv (B s)) (.pv (B r.2)) ((ak true) r.1))(a1_sp:sP_ a1_pat a1_ps=some (a1_p1,a1_p2))(a1_cz:CapsOk a1_ps){r:Ft×Bool}(h:imP_ a0 a1 a1_s=some r):SatH ah 98 [((ak false) a0)] [] (.clo a1_id a1_pat) a1_ps (.pv (B a1_s)) (.pv (B r.2)) ((ak true) r.1):=by
 obtain⟨h,cs⟩:=Ro_ h
 unfold imP_ at h
 refine SHo_ (nt:=33) (rs:=[.cell 4 42]) (n:=100000) 1 Tryz.func98 rfl rfl rfl rfl rfl (bF rfl) (by decide) (by first | exact bF rfl | exact SC) (S ?_)
 obtain⟨v12,hv12,h⟩:=rb_ h
 refine aj [false] (icT_3 hv12) SC (S ?_)
 refine ae (DHa_ [5] [192]) (S ?_)
 refine aO (b:=false) (sz:=5) (es:=a0.Parts.map (ak false)) 17 SC fun hl17=>?_; rw[aF] at hl17
 replace h:=rl_ h
 refine aI h (fun i3 s3=>[(1,.hold (.clo a1_id a1_pat) a1_ps (.cv (.pv (B s3.1)))),(4,.box (.node [(.pv (I (0:Int))),(.node [(.pv (Sx (⟨#[]⟩:ByteArray))),(.pv (.sl true 2 []))]),(.pv (Sx (⟨#[]⟩:ByteArray))),(.pv (.sl true 5 []))])),(5,.box (.node [(.pv (I a0.Op)),(.node [(.pv (Sx v12.Name)),(.own 192)]),(.pv (Sx a0.Var)),(.own 9309)])),(17,.val (.pv (.sl false 5 (a0.Parts.map (ak false))))),(18,.val (.pv (I (a0.Parts.length:Int)))),(19,.val (.pv (I (i3:Int)))),(20000,gh 1)]) (fun i3 s3=>[(192,(2,v12.Args.map (am true))),(9309,(5,s3.2.map (ak true)))]) (aZ (Sln_ (x:=(.node [(.pv (I a0.Op)),(.node [(.pv (Sx v12.Name)),(.own 192)]),(.pv (Sx a0.Var)),(.pv (.sl true 5 []))])) 5 [3] 9309 5 NM SC SC SC) (Slm_ SC)) (fun i3 s3 hi h=>?_) (fun s3 h=>?_)
 ·have w:=ws_ (i:=i3) (by omega)
  refine S ?_
  refine aG cs (by omega) (fun cs=>S ?_)
  obtain⟨v21,hv21,h⟩:=rb_ h
  refine au (f:=(ak false)) hv21 SC (S ?_)
  obtain⟨v27,hv27,h⟩:=rb_ h
  refine HHc_ (r:=1) (hc:=.cv (.pv (B s3.1))) (pre:=[((ak false) v21)]) a1_pat a1_ps a1_p1 a1_p2 [(.pv ((ak false) v21))] [false] (a1_ok _ _ _ hv27) a1_sp a1_cz SC (S ?_)
  obtain⟨v29,hv29,h⟩:=rb_ h
  refine aR (f:=(ak true)) (fun a=>Ft.psize _ a) hv29 SC SC (S ?_)
  refine ae (DHa_ [] [432,433,448,464]) (S ?_)
  have h:=rs_ h
  refine aC ⟨_,h,?_⟩
  refine aZ (Slm_1 (S:=[(1,.hold (.clo a1_id a1_pat) a1_ps (.cv (.pv (B v27.2)))),(4,.box (.node [(.pv (I (0:Int))),(.node [(.pv (Sx (⟨#[]⟩:ByteArray))),(.pv (.sl true 2 []))]),(.pv (Sx (⟨#[]⟩:ByteArray))),(.pv (.sl true 5 []))])),(5,.box (.node [(.pv (I a0.Op)),(.node [(.pv (Sx v12.Name)),(.own 192)]),(.pv (Sx a0.Var)),(.own 464)])),(17,.val (.pv (.sl false 5 (a0.Parts.map (ak false))))),(18,.val (.pv (I (a0.Parts.length:Int)))),(19,.val (.pv (I (IntKind.i64.wrap ((i3:Int)+(1:Int)))))),(20000,gh 1)]) (O:=[(192,(2,v12.Args.map (am true))),(464,(5,v29.map (ak true)))]) SW SW) ?_
  refine Slr_ 464 9309 (by decide) NM ?_
  exact Slm_ SW
 ·refine S ?_
  refine aH cs (by omega) (fun cs=>S ?_)
  cases rs_ h
  exact RetHB.l SC

theorem isN_2(n:Nat):(∀ (a0:Ft) (a1:ByteArray) (a2:Tt) (r:Ft×Bool),isN_ n a0 a1 a2=some r→Sat ah 130 [((ak false) a0),(Sx a1),((am false) a2)] (.tup [((ak true) r.1),(B r.2)]))∧(∀ (a0:Ft) (b0:ByteArray) (b1:Tt) (b2:Bool) (r:Ft×Bool),is1_ n a0 b0 b1 b2=some r→SatH ah 156 [((ak false) a0),.ptr (Sx b0),.ptr ((am false) b1)] [] .ptr [] (.pv (B b2)) (.pv (B r.2)) ((ak true) r.1)):=by
 induction n with
 | zero=>exact⟨fun _ _ _ _ h=>by simp[isN_] at h,fun _ _ _ _ _ h=>by simp[is1_] at h⟩
 | succ n ih=>
  refine⟨fun a0 a1 a2 r h=>?_,fun a0 b0 b1 b2 r h=>?_⟩
  ·obtain⟨h,cs⟩:=Ro_ h
   rw[isN_] at h
   refine aq (nt:=55) (rs:=[.cell 6 42,.tmp 7]) (n:=100000) Tryz.func130 rfl rfl rfl rfl (by simp) (S ?_)
   obtain⟨v12,hv12,h⟩:=rb_ h
   refine aj [false] (iiQ_ hv12) SC (S ?_)
   refine ai cs h (fun cs h=>S ?_) (fun cs h=>S ?_)
   ·refine ai cs h (fun cs h=>S ?_) (fun cs h=>S ?_)
    ·refine ae (DHa_ [] []) (S ?_)
     obtain⟨v27,hv27,h⟩:=rb_ h
     refine aj [false] (icF_3 hv27) SC (S ?_)
     cases rs_ h
     exact ag SC
    ·obtain⟨v20,hv20,h⟩:=rb_ h
     refine aj [false] (ifs_ hv20) SC (S ?_)
     obtain⟨v22,hv22,h⟩:=rb_ h
     refine aj [false,false] (sCS_2 hv22) SC (S ?_)
     refine ae (DHa_ [] [320]) (S ?_)
     refine ai cs h (fun cs h=>S ?_) (fun cs h=>S ?_)
     ·obtain⟨v30,hv30,h⟩:=rb_ h
      refine aj [false] (iiQ_ hv30) SC (S ?_)
      refine ai cs h (fun cs h=>S ?_) (fun cs h=>S ?_)
      ·obtain⟨v35,hv35,h⟩:=rb_ h
       refine aj [false,false] (ios_ hv35) SC (S ?_)
       refine ai cs h (fun cs h=>S ?_) (fun cs h=>S ?_)
       ·cases rs_ h
        exact ag SC
       ·refine MfH.hcl (r:=8) (x:=(.pv (B true))) [.tmp 4,.tmp 5] [] [(4,(Sx a1)),(5,((am false) a2))] [false,false,true] [(.ptr (Sx a1)),(.ptr ((am false) a2))] rfl rfl rfl SC (S ?_)
        obtain⟨v40,hv40,h⟩:=rb_ h
        refine HandH.call (r:=8) (hc:=.cv (.pv (B true))) 1 [_] [] [(.pv ((ak false) a0))] [] [false] (imP_1 (a1_id:=156) (a1_pat:=[false,false,true]) (a1_ps:=[(.ptr (Sx a1)),(.ptr ((am false) a2))]) (a1_p1:=[(.ptr (Sx a1)),(.ptr ((am false) a2))]) (a1_p2:=[]) (a1_ok:=fun _ _ _ hh=>ih.2 _ _ _ _ _ hh) (a1_sp:=rfl) (a1_cz:=by simp only[COn_,COc_]) hv40) rfl rfl rfl SC (S ?_)
        refine ai cs h (fun cs h=>S ?_) (fun cs h=>S ?_)
        ·obtain⟨v51,hv51,h⟩:=rb_ h
         refine aj [false,false] (iSa_2 hv51) SC (S ?_)
         refine ae (DHa_ [] []) (S ?_)
         cases rs_ h
         exact ag SC
        ·refine ae (DHa_ [] []) (S ?_)
         cases rs_ h
         exact ag SC
      ·refine MfH.hcl (r:=8) (x:=(.pv (B true))) [.tmp 4,.tmp 5] [] [(4,(Sx a1)),(5,((am false) a2))] [false,false,true] [(.ptr (Sx a1)),(.ptr ((am false) a2))] rfl rfl rfl SC (S ?_)
       obtain⟨v40,hv40,h⟩:=rb_ h
       refine HandH.call (r:=8) (hc:=.cv (.pv (B true))) 1 [_] [] [(.pv ((ak false) a0))] [] [false] (imP_1 (a1_id:=156) (a1_pat:=[false,false,true]) (a1_ps:=[(.ptr (Sx a1)),(.ptr ((am false) a2))]) (a1_p1:=[(.ptr (Sx a1)),(.ptr ((am false) a2))]) (a1_p2:=[]) (a1_ok:=fun _ _ _ hh=>ih.2 _ _ _ _ _ hh) (a1_sp:=rfl) (a1_cz:=by simp only[COn_,COc_]) hv40) rfl rfl rfl SC (S ?_)
       refine ai cs h (fun cs h=>S ?_) (fun cs h=>S ?_)
       ·obtain⟨v51,hv51,h⟩:=rb_ h
        refine aj [false,false] (iSa_2 hv51) SC (S ?_)
        refine ae (DHa_ [] []) (S ?_)
        cases rs_ h
        exact ag SC
       ·refine ae (DHa_ [] []) (S ?_)
        cases rs_ h
        exact ag SC
     ·obtain⟨v27,hv27,h⟩:=rb_ h
      refine aj [false] (icF_3 hv27) SC (S ?_)
      cases rs_ h
      exact ag SC
   ·refine ae (DHa_ [] []) (S ?_)
    obtain⟨v30,hv30,h⟩:=rb_ h
    refine aj [false] (iiQ_ hv30) SC (S ?_)
    refine ai cs h (fun cs h=>S ?_) (fun cs h=>S ?_)
    ·obtain⟨v35,hv35,h⟩:=rb_ h
     refine aj [false,false] (ios_ hv35) SC (S ?_)
     refine ai cs h (fun cs h=>S ?_) (fun cs h=>S ?_)
     ·cases rs_ h
      exact ag SC
     ·refine MfH.hcl (r:=8) (x:=(.pv (B true))) [.tmp 4,.tmp 5] [] [(4,(Sx a1)),(5,((am false) a2))] [false,false,true] [(.ptr (Sx a1)),(.ptr ((am false) a2))] rfl rfl rfl SC (S ?_)
      obtain⟨v40,hv40,h⟩:=rb_ h
      refine HandH.call (r:=8) (hc:=.cv (.pv (B true))) 1 [_] [] [(.pv ((ak false) a0))] [] [false] (imP_1 (a1_id:=156) (a1_pat:=[false,false,true]) (a1_ps:=[(.ptr (Sx a1)),(.ptr ((am false) a2))]) (a1_p1:=[(.ptr (Sx a1)),(.ptr ((am false) a2))]) (a1_p2:=[]) (a1_ok:=fun _ _ _ hh=>ih.2 _ _ _ _ _ hh) (a1_sp:=rfl) (a1_cz:=by simp only[COn_,COc_]) hv40) rfl rfl rfl SC (S ?_)
      refine ai cs h (fun cs h=>S ?_) (fun cs h=>S ?_)
      ·obtain⟨v51,hv51,h⟩:=rb_ h
       refine aj [false,false] (iSa_2 hv51) SC (S ?_)
       refine ae (DHa_ [] []) (S ?_)
       cases rs_ h
       exact ag SC
      ·refine ae (DHa_ [] []) (S ?_)
       cases rs_ h
       exact ag SC
    ·refine MfH.hcl (r:=8) (x:=(.pv (B true))) [.tmp 4,.tmp 5] [] [(4,(Sx a1)),(5,((am false) a2))] [false,false,true] [(.ptr (Sx a1)),(.ptr ((am false) a2))] rfl rfl rfl SC (S ?_)
     obtain⟨v40,hv40,h⟩:=rb_ h
     refine HandH.call (r:=8) (hc:=.cv (.pv (B true))) 1 [_] [] [(.pv ((ak false) a0))] [] [false] (imP_1 (a1_id:=156) (a1_pat:=[false,false,true]) (a1_ps:=[(.ptr (Sx a1)),(.ptr ((am false) a2))]) (a1_p1:=[(.ptr (Sx a1)),(.ptr ((am false) a2))]) (a1_p2:=[]) (a1_ok:=fun _ _ _ hh=>ih.2 _ _ _ _ _ hh) (a1_sp:=rfl) (a1_cz:=by simp only[COn_,COc_]) hv40) rfl rfl rfl SC (S ?_)
     refine ai cs h (fun cs h=>S ?_) (fun cs h=>S ?_)
     ·obtain⟨v51,hv51,h⟩:=rb_ h
      refine aj [false,false] (iSa_2 hv51) SC (S ?_)
      refine ae (DHa_ [] []) (S ?_)
      cases rs_ h
      exact ag SC
     ·refine ae (DHa_ [] []) (S ?_)
      cases rs_ h
      exact ag SC
  ·obtain⟨h,cs⟩:=Ro_ h
   rw[is1_] at h
   refine SHo_ (nt:=20) (rs:=[.cell 5 42]) (n:=100000) 3 Tryz.func156 rfl rfl rfl rfl rfl (bF rfl) (by decide) (by first | exact bF rfl | exact SC) (S ?_)
   obtain⟨v12,hv12,h⟩:=rb_ h
   refine aj [false,false,false] (ih.1 _ _ _ _ hv12) SC (S ?_)
   refine ai cs h (fun cs h=>S ?_) (fun cs h=>S ?_)
   ·cases rs_ h
    exact RetHB.l SC
   ·cases rs_ h
    exact RetHB.l SC
theorem iss_{a0:Ft}{a1:ByteArray}{a2:Tt}{r:Ft×Bool}(h:is_1 a0 a1 a2=some r):Sat ah 130 [((ak false) a0),(Sx a1),((am false) a2)] (.tup [((ak true) r.1),(B r.2)]):=by
 obtain⟨n,hn⟩:=ls_ h
 exact(isN_2 n).1 _ _ _ _ hn
theorem is1_2{a0:Ft}{b0:ByteArray}{b1:Tt}{b2:Bool}{r:Ft×Bool}(h:is1_1 a0 b0 b1 b2=some r):SatH ah 156 [((ak false) a0),.ptr (Sx b0),.ptr ((am false) b1)] [] .ptr [] (.pv (B b2)) (.pv (B r.2)) ((ak true) r.1):=by
 obtain⟨n,hn⟩:=ls_ h
 exact(isN_2 n).2 _ _ _ _ _ hn

theorem iiF_6{a0:Ft}  {r:Ft×Bool}(h:iiF_1 a0=some r):Sat ah 131 [((ak false) a0)] (.tup [((ak false) r.1),(B r.2)]):=by
 obtain⟨h,cs⟩:=Ro_ h
 unfold iiF_1 at h
 refine aq (nt:=9) (rs:=[.cell 2 42,.tmp 3]) (n:=100000) Tryz.func131 rfl rfl rfl rfl (by simp) (S ?_)
 obtain⟨v5,hv5,h⟩:=rb_ h
 refine aj [false] (iIV_5 hv5) SC (S ?_)
 refine ai cs h (fun cs h=>S ?_) (fun cs h=>S ?_)
 ·cases rs_ h
  exact aM SC
 ·cases rs_ h
  exact aM SC

theorem iiF_4{a0:Ft}  {r:Ft×Bool}(h:iiF_1 a0=some r):Sat ah 131 [((ak true) a0)] (.tup [((ak true) r.1),(B r.2)]):=by
 obtain⟨h,cs⟩:=Ro_ h
 unfold iiF_1 at h
 refine aq (nt:=9) (rs:=[.cell 2 42,.tmp 3]) (n:=100000) Tryz.func131 rfl rfl rfl rfl (by simp) (S ?_)
 obtain⟨v5,hv5,h⟩:=rb_ h
 refine aj [false] (iIV_5 hv5) SC (S ?_)
 refine ai cs h (fun cs h=>S ?_) (fun cs h=>S ?_)
 ·cases rs_ h
  exact ag SC
 ·cases rs_ h
  exact ag SC

theorem iSF_1{a0:Ft}{a1:ByteArray}{a2:Tt}  {r:Ft×Bool}(h:iSF_ a0 a1 a2=some r):Sat ah 89 [((ak false) a0),(Sx a1),((am false) a2)] (.tup [((ak true) r.1),(B r.2)]):=by
 obtain⟨h,cs⟩:=Ro_ h
 unfold iSF_ at h
 refine aq (nt:=38) (rs:=[.cell 6 42,.tmp 7]) (n:=100000) Tryz.func89 rfl rfl rfl rfl (by simp) (S ?_)
 obtain⟨v11,hv11,h⟩:=rb_ h
 refine aj [false] (iIV_5 hv11) SC (S ?_)
 refine ai cs h (fun cs h=>S ?_) (fun cs h=>S ?_)
 ·obtain⟨v15,hv15,h⟩:=rb_ h
  refine aj [false] (iiV_1 hv15) SC (S ?_)
  refine ai cs h (fun cs h=>S ?_) (fun cs h=>S ?_)
  ·obtain⟨v20,hv20,h⟩:=rb_ h
   refine aj [false] (iIV_12 hv20) SC (S ?_)
   refine ai cs h (fun cs h=>S ?_) (fun cs h=>S ?_)
   ·obtain⟨v28,hv28,h⟩:=rb_ h
    refine aj [false,false,false] (iss_ hv28) SC (S ?_)
    refine ai cs h (fun cs h=>S ?_) (fun cs h=>S ?_)
    ·obtain⟨v35,hv35,h⟩:=rb_ h
     refine aj [true] (iiF_4 hv35) SC (S ?_)
     cases rs_ h
     exact ag SC
    ·cases rs_ h
     exact ag SC
   ·cases rs_ h
    exact ag SC
  ·cases rs_ h
   exact ag SC
 ·cases rs_ h
  exact ag SC

theorem iis_{a0:Sa}{a1:Dt}{a2:Ft}  {r:(List Sa)×Bool}(h:ii_ a0 a1 a2=some r):Sat ah 212 [((aK false) a0),((aw false) a1),((ak false) a2)] (.tup [(.sl true 2 (r.1.map (aK true))),(B r.2)]):=by
 obtain⟨h,cs⟩:=Ro_ h
 unfold ii_ at h
 refine aq (nt:=59) (rs:=[.tmp 6,.tmp 7]) (n:=100000) Tryz.func212 rfl rfl rfl rfl (by simp) (S ?_)
 obtain⟨v14,hv14,h⟩:=rb_ h
 refine aj [false] (imR_1 hv14) SC (S ?_)
 refine ai cs h (fun cs h=>S ?_) (fun cs h=>S ?_)
 ·obtain⟨v33,hv33,h⟩:=rb_ h
  refine au (f:=(ak false)) hv33 SC (S ?_)
  obtain⟨v39,hv39,h⟩:=rb_ h
  refine aj [false,false,false] (iSF_1 hv39) SC (S ?_)
  refine ae (DHa_ [8] [624,625]) (S ?_)
  refine ai cs h (fun cs h=>S ?_) (fun cs h=>S ?_)
  ·obtain⟨v47,hv47,h⟩:=rb_ h
   refine aj [false] (imO_1 hv47) SC (S ?_)
   refine ai cs h (fun cs h=>S ?_) (fun cs h=>S ?_)
   ·cases rs_ h
    exact ag SC
   ·cases rs_ h
    exact ag SC
  ·cases rs_ h
   exact ag SC
 ·obtain⟨v20,hv20,h⟩:=rb_ h
  refine aj [false] (iiV_1 hv20) SC (S ?_)
  refine ai cs h (fun cs h=>S ?_) (fun cs h=>S ?_)
  ·obtain⟨v27,hv27,h⟩:=rb_ h
   refine aj [false,false] (iiF_5 hv27) SC (S ?_)
   refine ai cs h (fun cs h=>S ?_) (fun cs h=>S ?_)
   ·cases rs_ h
    exact ag SC
   ·obtain⟨v33,hv33,h⟩:=rb_ h
    refine au (f:=(ak false)) hv33 SC (S ?_)
    obtain⟨v39,hv39,h⟩:=rb_ h
    refine aj [false,false,false] (iSF_1 hv39) SC (S ?_)
    refine ae (DHa_ [8] [624,625]) (S ?_)
    refine ai cs h (fun cs h=>S ?_) (fun cs h=>S ?_)
    ·obtain⟨v47,hv47,h⟩:=rb_ h
     refine aj [false] (imO_1 hv47) SC (S ?_)
     refine ai cs h (fun cs h=>S ?_) (fun cs h=>S ?_)
     ·cases rs_ h
      exact ag SC
     ·cases rs_ h
      exact ag SC
    ·cases rs_ h
     exact ag SC
  ·cases rs_ h
   exact ag SC

theorem ia1_1{a0:Int}{b0:Ft}  {r:List Ft}(h:ia1_ a0 b0=some r):Sat ah 213 [(I a0),.ptr ((ak false) b0)] (.sl true 5 (r.map (ak false))):=by
 obtain⟨h,cs⟩:=Ro_ h
 unfold ia1_ at h
 refine aq (nt:=10) (rs:=[.tmp 3]) (n:=100000) Tryz.func213 rfl rfl rfl rfl (by simp) (S ?_)
 obtain⟨v7,hv7,h⟩:=rb_ h
 refine au (f:=(ak false)) hv7 SC (S ?_)
 cases rs_ h
 exact ag SC

theorem ia2_1{a0:Ft}{b0:Ft}  {r:Bool}(h:ia2_ a0 b0=some r):Sat ah 214 [((ak false) a0),.ptr ((ak false) b0)] (B r):=by
 obtain⟨h,cs⟩:=Ro_ h
 unfold ia2_ at h
 refine aq (nt:=7) (rs:=[.tmp 3]) (n:=100000) Tryz.func214 rfl rfl rfl rfl (by simp) (S ?_)
 obtain⟨v6,hv6,h⟩:=rb_ h
 refine aj [false,false] (isF_3 hv6) SC (S ?_)
 cases rs_ h
 exact ag SC

theorem ias_{a0:Sa}{a1:Dt}  {r:(List Sa)×Bool}(h:ia_ a0 a1=some r):Sat ah 205 [((aK false) a0),((aw false) a1)] (.tup [(.sl false 2 (r.1.map (aK false))),(B r.2)]):=by
 obtain⟨h,cs⟩:=Ro_ h
 unfold ia_ at h
 refine aq (nt:=147) (rs:=[.tmp 4,.tmp 5]) (n:=100000) Tryz.func205 rfl rfl rfl rfl (by simp) (SB ?_)
 refine ai cs h (fun cs h=>SB ?_) (fun cs h=>SB ?_)
 ·refine ai cs h (fun cs h=>SB ?_) (fun cs h=>SB ?_)
  ·obtain⟨v18,hv18,h⟩:=rb_ h
   refine aj [false] (iiZ_ hv18) SC (SB ?_)
   refine ai cs h (fun cs h=>SB ?_) (fun cs h=>SB ?_)
   ·obtain⟨v24,hv24,h⟩:=rb_ h
    refine aj [false] (iIV_5 hv24) SC (SB ?_)
    refine ai cs h (fun cs h=>SB ?_) (fun cs h=>SB ?_)
    ·refine OrR.v [((ak false) a1.Cut)] (SB ?_)
     refine OrR.v [((ak false) a1.Cut)] (SB ?_)
     refine OrR.l (SB ?_)
     cases rs_ h
     exact aM SC
    ·cases rs_ h
     exact aM SC
   ·cases rs_ h
    exact aM SC
  ·cases rs_ h
   exact aM SC
 ·obtain⟨v38,hv38,h⟩:=rb_ h
  refine aj [false,false,false] (iws_ hv38) SC (SB ?_)
  refine ai cs h (fun cs h=>SB ?_) (fun cs h=>SB ?_)
  ·obtain⟨v44,hv44,h⟩:=rb_ h
   refine aj [false,false] (isF_3 hv44) SC (SB ?_)
   refine ai cs h (fun cs h=>SB ?_) (fun cs h=>SB ?_)
   ·obtain⟨v50,hv50,h⟩:=rb_ h
    refine aj [false] (iiQ_3 hv50) SC (SB ?_)
    obtain⟨v53,hv53,h⟩:=rb_ h
    refine aj [false] (iiZ_ hv53) SC (SB ?_)
    refine ae (DHa_ [] []) (SB ?_)
    refine ai cs h (fun cs h=>SB ?_) (fun cs h=>SB ?_)
    ·obtain⟨v60,hv60,h⟩:=rb_ h
     refine aj [false,false] (imF_1 hv60) SC (SB ?_)
     refine ai cs h (fun cs h=>SB ?_) (fun cs h=>SB ?_)
     ·obtain⟨v67,hv67,h⟩:=rb_ h
      refine aj [false] (iiQ_3 hv67) SC (SB ?_)
      refine ai cs h (fun cs h=>SB ?_) (fun cs h=>SB ?_)
      ·obtain⟨v71,hv71,h⟩:=rb_ h
       refine aj [false,false,false] (iis_ hv71) SC (SB ?_)
       cases rs_ h
       exact aM SC
      ·refine MfH.fr (SB ?_)
       refine ai cs h (fun cs h=>SB ?_) (fun cs h=>SB ?_)
       ·refine ai cs h (fun cs h=>SB ?_) (fun cs h=>SB ?_)
        ·cases rs_ h
         exact aM SC
        ·refine MfH.fr (SB ?_)
         obtain⟨v86,hv86,h⟩:=rb_ h
         refine aj [false,false] (sCF_1 (fun _ _ hh=>ia2_1 hh) (by simp only[COn_,COc_]) hv86) SC (SB ?_)
         cases rs_ h
         exact aM SC
       ·refine ai cs h (fun cs h=>SB ?_) (fun cs h=>SB ?_)
        ·cases rs_ h
         exact aM SC
        ·refine ai cs h (fun cs h=>SB ?_) (fun cs h=>SB ?_)
         ·obtain⟨v93,hv93,h⟩:=rb_ h
          refine aj [false] (SvO_ (res':=(.sl false 5 (v93.map (ak false)))) (ia1_1 hv93) (by simp only[vt_,vs_,va_,vl_,aE,RB,RS])) SC (SB ?_)
          refine OrR.l (SB ?_)
          cases rs_ h
          exact aM SC
         ·refine ai cs h (fun cs h=>SB ?_) (fun cs h=>SB ?_)
          ·obtain⟨v99,hv99,h⟩:=rb_ h
           refine aj [false] (SvO_ (res':=(.sl false 5 (v99.map (ak false)))) (ia1_1 hv99) (by simp only[vt_,vs_,va_,vl_,aE,RB,RS])) SC (SB ?_)
           refine OrR.l (SB ?_)
           cases rs_ h
           exact aM SC
          ·refine ai cs h (fun cs h=>SB ?_) (fun cs h=>SB ?_)
           ·refine OrR.l (SB ?_)
            cases rs_ h
            exact aM SC
           ·refine ai cs h (fun cs h=>SB ?_) (fun cs h=>SB ?_)
            ·obtain⟨v111,hv111,h⟩:=rb_ h
             refine aj [false] (SvO_ (res':=(.sl false 5 (v111.map (ak false)))) (ia1_1 hv111) (by simp only[vt_,vs_,va_,vl_,aE,RB,RS])) SC (SB ?_)
             obtain⟨v114,hv114,h⟩:=rb_ h
             refine aj [false] (SvO_ (res':=(.sl false 5 (v114.map (ak false)))) (ia1_1 hv114) (by simp only[vt_,vs_,va_,vl_,aE,RB,RS])) SC (SB ?_)
             refine OrR.l (SB ?_)
             cases rs_ h
             exact aM SC
            ·refine ai cs h (fun cs h=>SB ?_) (fun cs h=>SB ?_)
             ·obtain⟨v120,hv120,h⟩:=rb_ h
              refine aj [false] (SvO_ (res':=(.sl false 5 (v120.map (ak false)))) (ia1_1 hv120) (by simp only[vt_,vs_,va_,vl_,aE,RB,RS])) SC (SB ?_)
              obtain⟨v123,hv123,h⟩:=rb_ h
              refine aj [false] (SvO_ (res':=(.sl false 5 (v123.map (ak false)))) (ia1_1 hv123) (by simp only[vt_,vs_,va_,vl_,aE,RB,RS])) SC (SB ?_)
              refine OrR.l (SB ?_)
              cases rs_ h
              exact aM SC
             ·refine ai cs h (fun cs h=>SB ?_) (fun cs h=>SB ?_)
              ·refine OrR.l (SB ?_)
               cases rs_ h
               exact aM SC
              ·refine ai cs h (fun cs h=>SB ?_) (fun cs h=>SB ?_)
               ·obtain⟨v135,hv135,h⟩:=rb_ h
                refine aj [false] (SvO_ (res':=(.sl false 5 (v135.map (ak false)))) (ia1_1 hv135) (by simp only[vt_,vs_,va_,vl_,aE,RB,RS])) SC (SB ?_)
                obtain⟨v138,hv138,h⟩:=rb_ h
                refine aj [false] (SvO_ (res':=(.sl false 5 (v138.map (ak false)))) (ia1_1 hv138) (by simp only[vt_,vs_,va_,vl_,aE,RB,RS])) SC (SB ?_)
                refine OrR.l (SB ?_)
                cases rs_ h
                exact aM SC
               ·obtain⟨v142,hv142,h⟩:=rb_ h
                refine aj [false] (SvO_ (res':=(.sl false 5 (v142.map (ak false)))) (ia1_1 hv142) (by simp only[vt_,vs_,va_,vl_,aE,RB,RS])) SC (SB ?_)
                obtain⟨v144,hv144,h⟩:=rb_ h
                refine aj [false] (SvO_ (res':=(.sl false 5 (v144.map (ak false)))) (ia1_1 hv144) (by simp only[vt_,vs_,va_,vl_,aE,RB,RS])) SC (SB ?_)
                refine OrR.l (SB ?_)
                cases rs_ h
                exact aM SC
     ·cases rs_ h
      exact aM SC
    ·cases rs_ h
     exact aM SC
   ·refine ae (DHa_ [] []) (SB ?_)
    cases rs_ h
    exact aM SC
  ·refine ae (DHa_ [] []) (SB ?_)
   cases rs_ h
   exact aM SC

theorem iDr_3{a0:Dt}{a1:Bool}{a2:Int}  {r:Bool}(h:iDr_1 a0 a1 a2=some r):Sat ah 216 [((aw false) a0),(B a1),(I a2)] (B r):=by
 obtain⟨h,cs⟩:=Ro_ h
 unfold iDr_1 at h
 refine aq (nt:=32) (rs:=[.tmp 6]) (n:=100000) Tryz.func216 rfl rfl rfl rfl (by simp) (S ?_)
 refine ai cs h (fun cs h=>S ?_) (fun cs h=>S ?_)
 ·cases rs_ h
  exact ag SC
 ·obtain⟨v15,hv15,h⟩:=rb_ h
  refine aj [false] (imR_1 hv15) SC (S ?_)
  refine ai cs h (fun cs h=>S ?_) (fun cs h=>S ?_)
  ·cases rs_ h
   exact ag SC
  ·obtain⟨v20,hv20,h⟩:=rb_ h
   refine aj [false] (imO_1 hv20) SC (S ?_)
   refine ai cs h (fun cs h=>S ?_) (fun cs h=>S ?_)
   ·cases rs_ h
    exact ag SC
   ·cases rs_ h
    exact ag SC

theorem iDr_2{a0:Dt}{a1:List Ft}{a2:Bool}  {r:List Ft}(h:iDr_ a0 a1 a2=some r):Sat ah 208 [((aw false) a0),(.sl false 5 (a1.map (ak false))),(B a2)] (.sl true 5 (r.map (ak false))):=by
 obtain⟨h,cs⟩:=Ro_ h
 unfold iDr_ at h
 refine aq (nt:=29) (rs:=[.tmp 6]) (n:=100000) Tryz.func208 rfl rfl rfl rfl (by simp) (S ?_)
 refine aO (b:=false) (sz:=5) (es:=a1.map (ak false)) 1 SC fun hl1=>?_; rw[aF] at hl1
 replace h:=rl_ h
 refine aI h (fun i3 s3=>[(2,.val (.pv (B a2))),(3,.box (.pv ((aw false) a0))),(7,.val (.own 160)),(11,.val (.pv (.sl false 5 (a1.map (ak false))))),(12,.val (.pv (I (a1.length:Int)))),(13,.val (.pv (I (i3:Int))))]) (fun i3 s3=>[(160,(5,s3.map (ak false)))]) (Slm_ SC) (fun i3 s3 hi h=>?_) (fun s3 h=>?_)
 ·have w:=ws_ (i:=i3) (by omega)
  refine S ?_
  refine aG cs (by omega) (fun cs=>S ?_)
  obtain⟨v16,hv16,h⟩:=rb_ h
  refine au (f:=(ak false)) hv16 SC (S ?_)
  obtain⟨v21,hv21,h⟩:=rb_ h
  refine aj [false,false,false] (iDr_3 hv21) SC (S ?_)
  refine ai cs h (fun cs h=>S ?_) (fun cs h=>S ?_)
  ·have h:=rs_ h
   refine aC ⟨_,h,?_⟩
   exact Slm_ SW
  ·obtain⟨v26,hv26,h⟩:=rb_ h
   refine aR (f:=(ak false)) (fun a=>Ft.psize _ a) hv26 SC SC (S ?_)
   have h:=rs_ h
   refine aC ⟨_,h,?_⟩
   refine aZ (Slm_1 (S:=[(2,.val (.pv (B a2))),(3,.box (.pv ((aw false) a0))),(7,.val (.own 416)),(11,.val (.pv (.sl false 5 (a1.map (ak false))))),(12,.val (.pv (I (a1.length:Int)))),(13,.val (.pv (I (IntKind.i64.wrap ((i3:Int)+(1:Int))))))]) (O:=[(416,(5,v26.map (ak false)))]) SW SW) ?_
   refine Slr_ 416 160 (by decide) NM ?_
   exact Slm_ SW
 ·refine S ?_
  refine aH cs (by omega) (fun cs=>S ?_)
  cases rs_ h
  exact ag SC

theorem sGS_1{a1:Int}  {r:List Ft}(h:sGS_ a1=some r):Sat ah 215 [(.lit (.slice none 0 0)),(I a1)] (.sl true 5 (r.map (ak false))):=by
 obtain⟨h,cs⟩:=Ro_ h
 unfold sGS_ at h
 refine Son_ (sz:=5) (nt:=27) (rs:=[.tmp 4]) (n:=100000) Tryz.func215 rfl rfl rfl rfl (by simp) (S ?_)
 refine ai cs h (fun cs h=>S ?_) (fun cs h=>S ?_)
 ·exact rn_ h
 ·refine ai cs h (fun cs h=>S ?_) (fun cs h=>S ?_)
  ·obtain⟨n22,hn22,h⟩:=rb_ h
   refine AppzH.mk hn22 (S ?_)
   obtain⟨v25,hv25,h⟩:=rb_ h
   refine SlcOH.mk (f:=(ak true)) hv25 SC ?_
   obtain rfl:=sn_4 hv25
   refine S ?_
   refine S ?_
   cases rs_ h
   exact ag SC
  ·cases rs_ h
   exact ag SC

theorem sCS_5{a0:List (List Ft)}  {r:List Ft}(h:sCS_1 a0=some r):Sat ah 207 [(.sl false 1 (a0.map (Lv false 5 (ak false))))] (.sl true 5 (r.map (ak false))):=by
 obtain⟨h,cs⟩:=Ro_ h
 unfold sCS_1 at h
 refine aq (nt:=36) (rs:=[.tmp 2]) (n:=100000) Tryz.func207 rfl rfl rfl rfl (by simp) (S ?_)
 refine aO (b:=false) (sz:=1) (es:=a0.map (Lv false 5 (ak false))) 0 SC fun hl0=>?_; rw[aF] at hl0
 replace h:=rl_ h
 refine aI h (fun i3 s3=>[(0,.val (.pv (.sl false 1 (a0.map (Lv false 5 (ak false)))))),(3,.val (.pv (I s3))),(9,.val (.pv (.sl false 1 (a0.map (Lv false 5 (ak false)))))),(10,.val (.pv (I (a0.length:Int)))),(11,.val (.pv (I (i3:Int))))]) (fun i3 s3=>[]) (Slm_ SC) (fun i3 s3 hi h=>?_) (fun s3 h=>?_)
 ·have w:=ws_ (i:=i3) (by omega)
  refine S ?_
  refine aG cs (by omega) (fun cs=>S ?_)
  obtain⟨v13,hv13,h⟩:=rb_ h
  refine au (f:=(Lv false 5 (ak false))) hv13 SC (S ?_)
  refine ai cs h (fun cs h=>S ?_) (fun cs h=>S ?_)
  ·exact rn_ h
  ·have h:=rs_ h
   refine aC ⟨_,h,?_⟩
   exact Slm_ SW
 ·refine S ?_
  refine aH cs (by omega) (fun cs=>S ?_)
  obtain⟨v24,hv24,h⟩:=rb_ h
  refine CHn_ (h:=sGS_1 hv24) (by refine S ?_; exact NM) (S ?_)
  refine aO (b:=false) (sz:=1) (es:=a0.map (Lv false 5 (ak false))) 0 SC fun hl0=>?_; rw[aF] at hl0
  replace h:=rl_ h
  refine aI h (fun i11 s11=>[(6,.val (.own 384)),(25,.val (.pv (.sl false 1 (a0.map (Lv false 5 (ak false)))))),(26,.val (.pv (I (a0.length:Int)))),(27,.val (.pv (I (i11:Int))))]) (fun i11 s11=>[(384,(5,s11.map (ak false)))]) (Slm_ SC) (fun i11 s11 hi h=>?_) (fun s11 h=>?_)
  ·have w:=ws_ (i:=i11) (by omega)
   refine S ?_
   refine aG cs (by omega) (fun cs=>S ?_)
   obtain⟨v29,hv29,h⟩:=rb_ h
   refine au (f:=(Lv false 5 (ak false))) hv29 SC (S ?_)
   obtain⟨v33,hv33,h⟩:=rb_ h
   refine aR (f:=(ak false)) (fun a=>Ft.psize _ a) hv33 SC SC (S ?_)
   have h:=rs_ h
   refine aC ⟨_,h,?_⟩
   refine aZ (Slm_1 (S:=[(6,.val (.own 528)),(25,.val (.pv (.sl false 1 (a0.map (Lv false 5 (ak false)))))),(26,.val (.pv (I (a0.length:Int)))),(27,.val (.pv (I (IntKind.i64.wrap ((i11:Int)+(1:Int))))))]) (O:=[(528,(5,v33.map (ak false)))]) SW SW) ?_
   refine Slr_ 528 384 (by decide) NM ?_
   exact Slm_ SW
  ·refine S ?_
   cases rs_ h
   exact ag SC

theorem icF_4{a0:List Ft}  {r:List Ft}(h:icF_1 a0=some r):Sat ah 44 [(.sl false 5 (a0.map (ak false)))] (.sl true 5 (r.map (ak true))):=by
 obtain⟨h,cs⟩:=Ro_ h
 unfold icF_1 at h
 refine aq (nt:=20) (rs:=[.tmp 2]) (n:=100000) Tryz.func44 rfl rfl rfl rfl (by simp) (S ?_)
 refine aO (b:=false) (sz:=5) (es:=a0.map (ak false)) 0 SC fun hl0=>?_; rw[aF] at hl0
 replace h:=rl_ h
 refine aI h (fun i3 s3=>[(3,.val (.own 96)),(7,.val (.pv (.sl false 5 (a0.map (ak false))))),(8,.val (.pv (I (a0.length:Int)))),(9,.val (.pv (I (i3:Int))))]) (fun i3 s3=>[(96,(5,s3.map (ak true)))]) (Slm_ SC) (fun i3 s3 hi h=>?_) (fun s3 h=>?_)
 ·have w:=ws_ (i:=i3) (by omega)
  refine S ?_
  refine aG cs (by omega) (fun cs=>S ?_)
  obtain⟨v11,hv11,h⟩:=rb_ h
  refine au (f:=(ak false)) hv11 SC (S ?_)
  obtain⟨v15,hv15,h⟩:=rb_ h
  refine aj [false] (icF_3 hv15) SC (S ?_)
  obtain⟨v17,hv17,h⟩:=rb_ h
  refine aR (f:=(ak true)) (fun a=>Ft.psize _ a) hv17 SC SC (S ?_)
  have h:=rs_ h
  refine aC ⟨_,h,?_⟩
  refine aZ (Slm_1 (S:=[(3,.val (.own 272)),(7,.val (.pv (.sl false 5 (a0.map (ak false))))),(8,.val (.pv (I (a0.length:Int)))),(9,.val (.pv (I (IntKind.i64.wrap ((i3:Int)+(1:Int))))))]) (O:=[(272,(5,v17.map (ak true)))]) SW SW) ?_
  refine Slr_ 272 96 (by decide) NM ?_
  exact Slm_ SW
 ·refine S ?_
  refine aH cs (by omega) (fun cs=>S ?_)
  cases rs_ h
  exact ag SC

theorem icS_1{a0:Sa}  {r:Sa}(h:icS_ a0=some r):Sat ah 206 [((aK false) a0)] ((aK true) r):=by
 obtain⟨h,cs⟩:=Ro_ h
 unfold icS_ at h
 refine aq (nt:=10) (rs:=[.cell 2 44]) (n:=100000) Tryz.func206 rfl rfl rfl rfl (by simp) (S ?_)
 obtain⟨v5,hv5,h⟩:=rb_ h
 refine aj [false] (icF_4 hv5) SC (S ?_)
 obtain⟨v8,hv8,h⟩:=rb_ h
 refine aj [false] (icF_4 hv8) SC (S ?_)
 refine ae (DHa_ [] [80,128]) (S ?_)
 cases rs_ h
 exact ag SC

theorem ips_{a0:Sa}{a1:Dt}  {r:(List Sa)×Bool}(h:ip_ a0 a1=some r):Sat ah 189 [((aK false) a0),((aw false) a1)] (.tup [(.sl true 2 (r.1.map (aK true))),(B r.2)]):=by
 obtain⟨h,cs⟩:=Ro_ h
 unfold ip_ at h
 refine aq (nt:=54) (rs:=[.tmp 4,.tmp 5]) (n:=100000) Tryz.func189 rfl rfl rfl rfl (by simp) (S ?_)
 obtain⟨v15,hv15,h⟩:=rb_ h
 refine aj [false,false] (ias_ hv15) SC (S ?_)
 refine ai cs h (fun cs h=>S ?_) (fun cs h=>S ?_)
 ·refine aO (b:=false) (sz:=2) (es:=v15.1.map (aK false)) 6 SC fun hl6=>?_; rw[aF] at hl6
  replace h:=rl_ h
  refine aI h (fun i6 s6=>[(2,.box (.pv ((aK false) a0))),(3,.box (.pv ((aw false) a1))),(8,.val (.own 320)),(21,.val (.pv (.sl false 2 (v15.1.map (aK false))))),(22,.val (.pv (I (v15.1.length:Int)))),(23,.val (.pv (I (i6:Int))))]) (fun i6 s6=>[(320,(2,s6.map (aK true)))]) (Slm_ SC) (fun i6 s6 hi h=>?_) (fun s6 h=>?_)
  ·have w:=ws_ (i:=i6) (by omega)
   refine S ?_
   refine aG cs (by omega) (fun cs=>S ?_)
   obtain⟨v25,hv25,h⟩:=rb_ h
   refine au (f:=(aK false)) hv25 SC (S ?_)
   obtain⟨v30,hv30,h⟩:=rb_ h
   refine aj [false,false,false] (SvO_ (res':=(.sl false 5 (v30.map (ak false)))) (iDr_2 hv30) (by simp only[vt_,vs_,va_,vl_,aE,RB,RS])) SC (S ?_)
   obtain⟨v34,hv34,h⟩:=rb_ h
   refine aj [true] (Sat.give (args:=[(.sl true 1 (([v30,v25.Left]).map (Lv false 5 (ak false))))]) [true] (by have gg:=sCS_5 hv34; simp only[gv_t,gv_f,gv_n,vs_,va_,vl_,aE,RB,RS] at gg ⊢; exact gg)) SC (S ?_)
   obtain⟨v38,hv38,h⟩:=rb_ h
   refine aj [false,false,false] (SvO_ (res':=(.sl false 5 (v38.map (ak false)))) (iDr_2 hv38) (by simp only[vt_,vs_,va_,vl_,aE,RB,RS])) SC (S ?_)
   obtain⟨v42,hv42,h⟩:=rb_ h
   refine aj [true] (Sat.give (args:=[(.sl true 1 (([v38,v25.Right]).map (Lv false 5 (ak false))))]) [true] (by have gg:=sCS_5 hv42; simp only[gv_t,gv_f,gv_n,vs_,va_,vl_,aE,RB,RS] at gg ⊢; exact gg)) SC (S ?_)
   obtain⟨v44,hv44,h⟩:=rb_ h
   refine aj [false] (icS_1 hv44) SC (S ?_)
   refine ae (DHa_ [11] [528,544,656,672,704,705]) (S ?_)
   obtain⟨v46,hv46,h⟩:=rb_ h
   refine aj [false] (iIV_9 hv46) SC (S ?_)
   refine ai cs h (fun cs h=>S ?_) (fun cs h=>S ?_)
   ·obtain⟨v51,hv51,h⟩:=rb_ h
    refine aR (f:=(aK true)) (fun a=>Sa.psize _ a) hv51 SC SC (S ?_)
    have h:=rs_ h
    refine aC ⟨_,h,?_⟩
    refine aZ (Slm_1 (S:=[(2,.box (.pv ((aK false) a0))),(3,.box (.pv ((aw false) a1))),(8,.val (.own 816)),(21,.val (.pv (.sl false 2 (v15.1.map (aK false))))),(22,.val (.pv (I (v15.1.length:Int)))),(23,.val (.pv (I (IntKind.i64.wrap ((i6:Int)+(1:Int))))))]) (O:=[(816,(2,v51.map (aK true)))]) SW SW) ?_
    refine Slr_ 816 320 (by decide) NM ?_
    exact Slm_ SW
   ·cases rs_ h
    exact ag SC
  ·refine S ?_
   refine aH cs (by omega) (fun cs=>S ?_)
   cases rs_ h
   exact ag SC
 ·cases rs_ h
  exact ag SC

theorem iPO_1{a0:Sa}{a1:Dt}  {r:(List Sa)×Bool}(h:iPO_ a0 a1=some r):Sat ah 170 [((aK false) a0),((aw false) a1)] (.tup [(.sl true 2 (r.1.map (aK true))),(B r.2)]):=by
 obtain⟨h,cs⟩:=Ro_ h
 unfold iPO_ at h
 refine aq (nt:=14) (rs:=[.tmp 4,.tmp 5]) (n:=100000) Tryz.func170 rfl rfl rfl rfl (by simp) (S ?_)
 obtain⟨v7,hv7,h⟩:=rb_ h
 refine aj [false] (iIV_9 hv7) SC (S ?_)
 refine ai cs h (fun cs h=>S ?_) (fun cs h=>S ?_)
 ·obtain⟨v11,hv11,h⟩:=rb_ h
  refine aj [false,false] (ips_ hv11) SC (S ?_)
  cases rs_ h
  exact ag SC
 ·cases rs_ h
  exact ag SC

theorem isF_4{a0:List Ft}{a1:List Ft}  {r:Bool}(h:isF_1 a0 a1=some r):Sat ah 37 [(.sl false 5 (a0.map (ak false))),(.sl false 5 (a1.map (ak false)))] (B r):=by
 obtain⟨h,cs⟩:=Ro_ h
 unfold isF_1 at h
 refine aq (nt:=8) (rs:=[.tmp 4]) (n:=100000) Tryz.func37 rfl rfl rfl rfl (by simp) (S ?_)
 obtain⟨v7,hv7,h⟩:=rb_ h
 refine aj [false,false,false] (sEF_3 (fun _ _ _ hh=>isF_3 hh) (by simp only[COn_,COc_]) hv7) SC (S ?_)
 cases rs_ h
 exact ag SC

theorem isS_1{a0:Sa}{a1:Sa}  {r:Bool}(h:isS_ a0 a1=some r):Sat ah 173 [((aK false) a0),((aK false) a1)] (B r):=by
 obtain⟨h,cs⟩:=Ro_ h
 unfold isS_ at h
 refine aq (nt:=17) (rs:=[.tmp 4]) (n:=100000) Tryz.func173 rfl rfl rfl rfl (by simp) (S ?_)
 obtain⟨v9,hv9,h⟩:=rb_ h
 refine aj [false,false] (isF_4 hv9) SC (S ?_)
 refine ai cs h (fun cs h=>S ?_) (fun cs h=>S ?_)
 ·obtain⟨v15,hv15,h⟩:=rb_ h
  refine aj [false,false] (isF_4 hv15) SC (S ?_)
  cases rs_ h
  exact ag SC
 ·cases rs_ h
  exact ag SC

theorem iiR_2{a0:Sa}{a1:Dt}  {r:Bool}(h:iiR_1 a0 a1=some r):Sat ah 172 [((aK false) a0),((aw false) a1)] (B r):=by
 obtain⟨h,cs⟩:=Ro_ h
 unfold iiR_1 at h
 refine aq (nt:=9) (rs:=[.tmp 4]) (n:=100000) Tryz.func172 rfl rfl rfl rfl (by simp) (S ?_)
 obtain⟨v8,hv8,h⟩:=rb_ h
 refine aj [false,false] (isS_1 hv8) SC (S ?_)
 cases rs_ h
 exact ag SC

theorem sEF_4{a0:List Sa}{a1:List Dt}{a2:Sa→Dt→Option Bool}{a2_id:FuncId}{a2_cs:List PV}(a2_ok:∀ y0 y1 r,a2 y0 y1=some r→Sat ah a2_id (((aK false) y0)::((aw false) y1)::a2_cs) (B r))(a2_cz:CapsOk a2_cs=True){r:Bool}(h:sEF_1 a0 a1 a2=some r):Sat ah 171 [(.sl false 2 (a0.map (aK false))),(.sl false 12 (a1.map (aw false))),.clo a2_id a2_cs] (B r):=by
 obtain⟨h,cs⟩:=Ro_ h
 unfold sEF_1 at h
 have cs:=ae a2_cz cs
 refine aq (nt:=32) (rs:=[.tmp 6]) (n:=100000) Tryz.func171 rfl rfl rfl rfl (by simp) (S ?_)
 refine ai cs h (fun cs h=>S ?_) (fun cs h=>S ?_)
 ·refine aO (b:=false) (sz:=2) (es:=a0.map (aK false)) 0 SC fun hl0=>?_; rw[aF] at hl0
  replace h:=rl_ h
  refine aI h (fun i4 s4=>[(1,.val (.pv (.sl false 12 (a1.map (aw false))))),(2,.val (.pv (.clo a2_id a2_cs))),(15,.val (.pv (.sl false 2 (a0.map (aK false))))),(16,.val (.pv (I (a0.length:Int)))),(17,.val (.pv (I (i4:Int))))]) (fun i4 s4=>[]) (Slm_ SC) (fun i4 s4 hi h=>?_) (fun s4 h=>?_)
  ·have w:=ws_ (i:=i4) (by omega)
   refine S ?_
   refine aG cs (by omega) (fun cs=>S ?_)
   obtain⟨v20,hv20,h⟩:=rb_ h
   refine au (f:=(aK false)) hv20 SC (S ?_)
   obtain⟨v24,hv24,h⟩:=rb_ h
   refine au (f:=(aw false)) hv24 SC (S ?_)
   obtain⟨v29,hv29,h⟩:=rb_ h
   refine aj [false,false] (a2_ok _ _ _ hv29) SC (S ?_)
   refine ai cs h (fun cs h=>S ?_) (fun cs h=>S ?_)
   ·have h:=rs_ h
    refine aC ⟨_,h,?_⟩
    exact Slm_ SW
   ·cases rs_ h
    exact ag SC
  ·refine S ?_
   refine aH cs (by omega) (fun cs=>S ?_)
   cases rs_ h
   exact ag SC
 ·cases rs_ h
  exact ag SC

theorem iiR_3{a0:Dt}  {r:Bool}(h:iiR_ a0=some r):Sat ah 154 [((aw false) a0)] (B r):=by
 obtain⟨h,cs⟩:=Ro_ h
 unfold iiR_ at h
 refine aq (nt:=19) (rs:=[.tmp 2]) (n:=100000) Tryz.func154 rfl rfl rfl rfl (by simp) (S ?_)
 obtain⟨v9,hv9,h⟩:=rb_ h
 refine aj [false,false] (iPO_1 hv9) SC (S ?_)
 refine ai cs h (fun cs h=>S ?_) (fun cs h=>S ?_)
 ·obtain⟨v17,hv17,h⟩:=rb_ h
  refine aj [false,false,false] (sEF_4 (fun _ _ _ hh=>iiR_2 hh) (by simp only[COn_,COc_]) hv17) SC (S ?_)
  cases rs_ h
  exact ag SC
 ·cases rs_ h
  exact ag SC

theorem ifW_2(n:Nat):(∀ (a0:Dt) (r:(List Int)×Bool),ifW_ n a0=some r→Sat ah 129 [((aw false) a0)] (.tup [(.sl true 1 (r.1.map I)),(B r.2)])):=by
 induction n with
 | zero=>exact fun _ _ h=>by simp[ifW_] at h
 | succ n ih=>
  refine fun a0 r h=>?_
  obtain⟨h,cs⟩:=Ro_ h
  rw[ifW_] at h
  refine aq (nt:=31) (rs:=[.tmp 2,.tmp 3]) (n:=100000) Tryz.func129 rfl rfl rfl rfl (by simp) (S ?_)
  obtain⟨v9,hv9,h⟩:=rb_ h
  refine aj [false] (iiR_3 hv9) SC (S ?_)
  refine ai cs h (fun cs h=>S ?_) (fun cs h=>S ?_)
  ·refine aO (b:=false) (sz:=12) (es:=a0.Parts.map (aw false)) 13 SC fun hl13=>?_; rw[aF] at hl13
   replace h:=rl_ h
   refine aI h (fun i4 s4=>[(13,.val (.pv (.sl false 12 (a0.Parts.map (aw false))))),(14,.val (.pv (I (a0.Parts.length:Int)))),(15,.val (.pv (I (i4:Int))))]) (fun i4 s4=>[]) (Slm_ SC) (fun i4 s4 hi h=>?_) (fun s4 h=>?_)
   ·have w:=ws_ (i:=i4) (by omega)
    refine S ?_
    refine aG cs (by omega) (fun cs=>S ?_)
    obtain⟨v18,hv18,h⟩:=rb_ h
    refine au (f:=(aw false)) hv18 SC (S ?_)
    obtain⟨v22,hv22,h⟩:=rb_ h
    refine aj [false] (ih _ _ hv22) SC (S ?_)
    refine ai cs h (fun cs h=>S ?_) (fun cs h=>S ?_)
    ·obtain⟨v29,hv29,h⟩:=rb_ h
     refine aR (f:=I) (fun _=>rfl) hv29 SC SC (S ?_)
     cases rs_ h
     exact ag SC
    ·have h:=rs_ h
     refine aC ⟨_,h,?_⟩
     exact Slm_ SW
   ·refine S ?_
    refine aH cs (by omega) (fun cs=>S ?_)
    cases rs_ h
    exact ag SC
  ·cases rs_ h
   exact ag SC
theorem ifW_3{a0:Dt}{r:(List Int)×Bool}(h:ifW_1 a0=some r):Sat ah 129 [((aw false) a0)] (.tup [(.sl true 1 (r.1.map I)),(B r.2)]):=by
 obtain⟨n,hn⟩:=ls_ h
 exact(ifW_2 n) _ _ hn

theorem iFW_1{a0:Dt}  {r:(List Int)×Bool×Bool}(h:iFW_ a0=some r):Sat ah 88 [((aw false) a0)] (.tup [(.sl true 1 (r.1.map I)),(B r.2.1),(B r.2.2)]):=by
 obtain⟨h,cs⟩:=Ro_ h
 unfold iFW_ at h
 refine aq (nt:=17) (rs:=[.tmp 2,.tmp 3,.tmp 4]) (n:=100000) Tryz.func88 rfl rfl rfl rfl (by simp) (S ?_)
 obtain⟨v8,hv8,h⟩:=rb_ h
 refine aj [false] (irN_3 hv8) SC (S ?_)
 refine ai cs h (fun cs h=>S ?_) (fun cs h=>S ?_)
 ·cases rs_ h
  exact ag SC
 ·obtain⟨v12,hv12,h⟩:=rb_ h
  refine aj [false] (ifW_3 hv12) SC (S ?_)
  cases rs_ h
  exact ag SC

theorem iIV_10{a0:Dt}  {r:Bool}(h:iIV_4 a0=some r):Sat ah 33 [((aw false) a0)] (B r):=by
 obtain⟨h,cs⟩:=Ro_ h
 unfold iIV_4 at h
 refine aq (nt:=17) (rs:=[.tmp 2]) (n:=100000) Tryz.func33 rfl rfl rfl rfl (by simp) (S ?_)
 obtain⟨v8,hv8,h⟩:=rb_ h
 refine aj [false] (iFW_1 hv8) SC (S ?_)
 refine ai cs h (fun cs h=>S ?_) (fun cs h=>S ?_)
 ·cases rs_ h
  exact ag SC
 ·cases rs_ h
  exact ag SC

theorem izs_   {r:Tt}(h:iz_  =some r):Sat ah 35 [] ((am true) r):=by
 obtain⟨h,cs⟩:=Ro_ h
 unfold iz_ at h
 refine aq (nt:=2) (rs:=[.cell 0 39]) (n:=100000) Tryz.func35 rfl rfl rfl rfl (by simp) (S ?_)
 cases rs_ h
 exact ag SC

theorem iSi_1{a0:Sb}{a1:List Ft}{a2:Tt}  {r:Bool}(h:iSi_ a0 a1 a2=some r):Sat ah 34 [((Sb.pv false) a0),(.sl false 5 (a1.map (ak false))),((am false) a2)] (B r):=by
 obtain⟨h,cs⟩:=Ro_ h
 unfold iSi_ at h
 refine aq (nt:=31) (rs:=[.tmp 6]) (n:=100000) Tryz.func34 rfl rfl rfl rfl (by simp) (S ?_)
 obtain⟨v15,hv15,h⟩:=rb_ h
 refine aj [false,false,false] (iSF_1 hv15) SC (S ?_)
 refine ai cs h (fun cs h=>S ?_) (fun cs h=>S ?_)
 ·refine ai cs h (fun cs h=>S ?_) (fun cs h=>S ?_)
  ·obtain⟨v26,hv26,h⟩:=rb_ h
   refine au (f:=(ak false)) hv26 SC (S ?_)
   obtain⟨v29,hv29,h⟩:=rb_ h
   refine aj [false,false] (isF_3 hv29) SC (S ?_)
   refine ae (DHa_ [] []) (S ?_)
   cases rs_ h
   exact ag SC
  ·refine ae (DHa_ [] []) (S ?_)
   cases rs_ h
   exact ag SC
 ·refine ae (DHa_ [] []) (S ?_)
  cases rs_ h
  exact ag SC

theorem iss_1{a0:Tt}  {r:Tt}(h:is_ a0=some r):Sat ah 36 [((am true) a0)] ((am true) r):=by
 obtain⟨h,cs⟩:=Ro_ h
 unfold is_ at h
 refine aq (nt:=6) (rs:=[.cell 2 39]) (n:=100000) Tryz.func36 rfl rfl rfl rfl (by simp) (S ?_)
 cases rs_ h
 exact ag SC

theorem sCS_6{a0:List Ft}  {r:List Ft}(h:sCS_3 a0=some r):Sat ah 38 [(.sl false 5 (a0.map (ak false)))] (.sl true 5 (r.map (ak false))):=by
 obtain⟨h,cs⟩:=Ro_ h
 unfold sCS_3 at h
 refine aq (nt:=8) (rs:=[.tmp 2]) (n:=100000) Tryz.func38 rfl rfl rfl rfl (by simp) (S ?_)
 refine NilH.mk (fun e=>?_) ?_
 ·obtain rfl:a0=[]:=List.map_eq_nil_iff.1 e
  simp only[app_nn,Option.bind_some] at h
  refine S ?_
  cases rs_ h
  exact ag SC
 ·skip
  refine S ?_
  obtain⟨v7,hv7,h⟩:=rb_ h
  refine aR (f:=(ak false)) (fun a=>Ft.psize _ a) hv7 SC SC (S ?_)
  cases rs_ h
  exact ag SC

theorem iiN_2{a0:Ft}{b0:ByteArray}  {r:Bool}(h:iiN_ a0 b0=some r):Sat ah 93 [((ak false) a0),.ptr (Sx b0)] (B r):=by
 obtain⟨h,cs⟩:=Ro_ h
 unfold iiN_ at h
 refine aq (nt:=8) (rs:=[.tmp 3]) (n:=100000) Tryz.func93 rfl rfl rfl rfl (by simp) (S ?_)
 obtain⟨v5,hv5,h⟩:=rb_ h
 refine aj [false] (ifs_ hv5) SC (S ?_)
 obtain⟨v7,hv7,h⟩:=rb_ h
 refine aj [false,false] (sCS_2 hv7) SC (S ?_)
 refine ae (DHa_ [] [80]) (S ?_)
 cases rs_ h
 exact ag SC

theorem iiN_3{a0:ByteArray}{a1:List Ft}  {r:Bool}(h:iiN_1 a0 a1=some r):Sat ah 39 [(Sx a0),(.sl false 5 (a1.map (ak false)))] (B r):=by
 obtain⟨h,cs⟩:=Ro_ h
 unfold iiN_1 at h
 refine aq (nt:=9) (rs:=[.tmp 4]) (n:=100000) Tryz.func39 rfl rfl rfl rfl (by simp) (S ?_)
 refine MfH.fr (S ?_)
 obtain⟨v7,hv7,h⟩:=rb_ h
 refine aj [false,false] (sCF_1 (fun _ _ hh=>iiN_2 hh) (by simp only[COn_,COc_]) hv7) SC (S ?_)
 cases rs_ h
 exact ag SC

theorem iIV_13{a0:Sb}  {r:Bool}(h:iIV_8 a0=some r):Sat ah 9 [((Sb.pv false) a0)] (B r):=by
 obtain⟨h,cs⟩:=Ro_ h
 unfold iIV_8 at h
 refine aq (nt:=68) (rs:=[.tmp 2]) (n:=100000) Tryz.func9 rfl rfl rfl rfl (by simp) (S ?_)
 obtain⟨v6,hv6,h⟩:=rb_ h
 refine aj [false] (iiV_1 hv6) SC (S ?_)
 refine ai cs h (fun cs h=>S ?_) (fun cs h=>S ?_)
 ·obtain⟨v11,hv11,h⟩:=rb_ h
  refine aj [false] (iIV_5 hv11) SC (S ?_)
  refine ai cs h (fun cs h=>S ?_) (fun cs h=>S ?_)
  ·obtain⟨v17,hv17,h⟩:=rb_ h
   refine aj [false] (iIV_10 hv17) SC (S ?_)
   refine ai cs h (fun cs h=>S ?_) (fun cs h=>S ?_)
   ·obtain⟨v23,hv23,h⟩:=rb_ h
    refine aj [false] (iIV_10 hv23) SC (S ?_)
    refine ai cs h (fun cs h=>S ?_) (fun cs h=>S ?_)
    ·obtain⟨v35,hv35,h⟩:=rb_ h
     refine aj [] (izs_ hv35) SC (S ?_)
     obtain⟨v36,hv36,h⟩:=rb_ h
     refine aj [false,false,false] (iSi_1 hv36) SC (S ?_)
     refine ai cs h (fun cs h=>S ?_) (fun cs h=>S ?_)
     ·obtain⟨v46,hv46,h⟩:=rb_ h
      refine aj [true] (iss_1 hv46) SC (S ?_)
      obtain⟨v47,hv47,h⟩:=rb_ h
      refine aj [false,false,false] (iSi_1 hv47) SC (S ?_)
      refine ai cs h (fun cs h=>S ?_) (fun cs h=>S ?_)
      ·obtain⟨v55,hv55,h⟩:=rb_ h
       refine aj [false] (sCS_6 hv55) SC (S ?_)
       obtain⟨v59,hv59,h⟩:=rb_ h
       refine aR (f:=(ak false)) (fun a=>Ft.psize _ a) hv59 SC SC (S ?_)
       obtain⟨v60,hv60,h⟩:=rb_ h
       refine aj [false,false] (isF_4 hv60) SC (S ?_)
       refine ai cs h (fun cs h=>S ?_) (fun cs h=>S ?_)
       ·obtain⟨v66,hv66,h⟩:=rb_ h
        refine aj [false,false] (iiN_3 hv66) SC (S ?_)
        refine ae (DHa_ [] [560,736,880,928,944]) (S ?_)
        cases rs_ h
        exact ag SC
       ·refine ae (DHa_ [] [560,736,880,928,944]) (S ?_)
        cases rs_ h
        exact ag SC
      ·refine ae (DHa_ [] [560,736]) (S ?_)
       cases rs_ h
       exact ag SC
     ·refine ae (DHa_ [] [560]) (S ?_)
      cases rs_ h
      exact ag SC
    ·cases rs_ h
     exact ag SC
   ·cases rs_ h
    exact ag SC
  ·cases rs_ h
   exact ag SC
 ·cases rs_ h
  exact ag SC

theorem iqs_{a0:Int}{a1:ByteArray}{a2:Ft}  {r:Ft}(h:iq_ a0 a1 a2=some r):Sat ah 45 [(I a0),(Sx a1),((ak false) a2)] ((ak false) r):=by
 obtain⟨h,cs⟩:=Ro_ h
 unfold iq_ at h
 refine aq (nt:=12) (rs:=[.cell 6 42]) (n:=100000) Tryz.func45 rfl rfl rfl rfl (by simp) (S ?_)
 cases rs_ h
 exact aM SC

theorem iqo_{a0:Int}{a1:ByteArray}{a2:Ft}  {r:Ft}(h:iq_ a0 a1 a2=some r):Sat ah 45 [(I a0),(Sx a1),((ak true) a2)] ((ak true) r):=by
 obtain⟨h,cs⟩:=Ro_ h
 unfold iq_ at h
 refine aq (nt:=12) (rs:=[.cell 6 42]) (n:=100000) Tryz.func45 rfl rfl rfl rfl (by simp) (S ?_)
 cases rs_ h
 exact ag SC

theorem iSS_1{a0:Sb}  {r:Sa×Bool}(h:iSS_ a0=some r):Sat ah 12 [((Sb.pv false) a0)] (.tup [((aK true) r.1),(B r.2)]):=by
 obtain⟨h,cs⟩:=Ro_ h
 unfold iSS_ at h
 refine aq (nt:=27) (rs:=[.cell 2 44,.tmp 3]) (n:=100000) Tryz.func12 rfl rfl rfl rfl (by simp) (S ?_)
 obtain⟨v6,hv6,h⟩:=rb_ h
 refine aj [false] (iIV_13 hv6) SC (S ?_)
 refine ai cs h (fun cs h=>S ?_) (fun cs h=>S ?_)
 ·obtain⟨v13,hv13,h⟩:=rb_ h
  refine aj [false] (icF_4 hv13) SC (S ?_)
  obtain⟨v18,hv18,h⟩:=rb_ h
  refine aj [false] (icF_3 hv18) SC (S ?_)
  obtain⟨v19,hv19,h⟩:=rb_ h
  refine aj [false,false,true] (iqo_ hv19) SC (S ?_)
  refine ae (DHa_ [4] [208,288,289,304,305,320]) (S ?_)
  obtain⟨v23,hv23,h⟩:=rb_ h
  refine aj [false] (iIV_9 hv23) SC (S ?_)
  refine ai cs h (fun cs h=>S ?_) (fun cs h=>S ?_)
  ·cases rs_ h
   exact ag SC
  ·cases rs_ h
   exact ag SC
 ·cases rs_ h
  exact ag SC

theorem eTN_1(n:Nat):(∀ (a0:Tt) (a1:Tt) (r:Bool),eTN_ n a0 a1=some r→Sat ah 24 [((am false) a0),((am false) a1)] (B r))∧(∀ (a0:List Tt) (a1:List Tt) (r:Bool),eTS_ n a0 a1=some r→Sat ah 67 [(.sl false 2 (a0.map (am false))),(.sl false 2 (a1.map (am false)))] (B r)):=by
 induction n with
 | zero=>exact⟨fun _ _ _ h=>by simp[eTN_] at h,fun _ _ _ h=>by simp[eTS_] at h⟩
 | succ n ih=>
  refine⟨fun a0 a1 r h=>?_,fun a0 a1 r h=>?_⟩
  ·obtain⟨h,cs⟩:=Ro_ h
   rw[eTN_] at h
   refine aq (nt:=16) (rs:=[.tmp 4]) (n:=100000) Tryz.func24 rfl rfl rfl rfl (by simp) (S ?_)
   refine ai cs h (fun cs h=>S ?_) (fun cs h=>S ?_)
   ·obtain⟨v14,hv14,h⟩:=rb_ h
    refine aj [false,false] (ih.2 _ _ _ hv14) SC (S ?_)
    refine ai cs h (fun cs h=>S ?_) (fun cs h=>S ?_)
    ·cases rs_ h
     exact ag SC
    ·cases rs_ h
     exact ag SC
   ·cases rs_ h
    exact ag SC
  ·obtain⟨h,cs⟩:=Ro_ h
   rw[eTS_] at h
   refine aq (nt:=27) (rs:=[.tmp 4]) (n:=100000) Tryz.func67 rfl rfl rfl rfl (by simp) (S ?_)
   refine ai cs h (fun cs h=>S ?_) (fun cs h=>S ?_)
   ·refine aO (b:=false) (sz:=2) (es:=a0.map (am false)) 0 SC fun hl0=>?_; rw[aF] at hl0
    replace h:=rl_ h
    refine aI h (fun i4 s4=>[(0,.val (.pv (.sl false 2 (a0.map (am false))))),(1,.val (.pv (.sl false 2 (a1.map (am false))))),(5,.val (.pv (I (i4:Int))))]) (fun i4 s4=>[]) (Slm_ SC) (fun i4 s4 hi h=>?_) (fun s4 h=>?_)
    ·have w:=ws_ (i:=i4) (by omega)
     refine S ?_
     refine aG cs (by omega) (fun cs=>S ?_)
     obtain⟨v19,hv19,h⟩:=rb_ h
     refine au (f:=(am false)) hv19 SC (S ?_)
     obtain⟨v23,hv23,h⟩:=rb_ h
     refine au (f:=(am false)) hv23 SC (S ?_)
     obtain⟨v25,hv25,h⟩:=rb_ h
     refine aj [false,false] (ih.1 _ _ _ hv25) SC (S ?_)
     refine ae (DHa_ [] []) (S ?_)
     refine ai cs h (fun cs h=>S ?_) (fun cs h=>S ?_)
     ·have h:=rs_ h
      refine aC ⟨_,h,?_⟩
      exact Slm_ SW
     ·cases rs_ h
      exact ag SC
    ·refine S ?_
     refine aH cs (by omega) (fun cs=>S ?_)
     cases rs_ h
     exact ag SC
   ·cases rs_ h
    exact ag SC
theorem eTs_{a0:Tt}{a1:Tt}{r:Bool}(h:eqTerm a0 a1=some r):Sat ah 24 [((am false) a0),((am false) a1)] (B r):=by
 obtain⟨n,hn⟩:=ls_ h
 exact(eTN_1 n).1 _ _ _ hn
theorem eTS_1{a0:List Tt}{a1:List Tt}{r:Bool}(h:eTS_2 a0 a1=some r):Sat ah 67 [(.sl false 2 (a0.map (am false))),(.sl false 2 (a1.map (am false)))] (B r):=by
 obtain⟨n,hn⟩:=ls_ h
 exact(eTN_1 n).2 _ _ _ hn

theorem eFN_2(n:Nat):(∀ (a0:Ft) (a1:Ft) (r:Bool),eFN_ n a0 a1=some r→Sat ah 40 [((ak false) a0),((ak false) a1)] (B r))∧(∀ (a0:List Ft) (a1:List Ft) (r:Bool),eFS_ n a0 a1=some r→Sat ah 48 [(.sl false 5 (a0.map (ak false))),(.sl false 5 (a1.map (ak false)))] (B r)):=by
 induction n with
 | zero=>exact⟨fun _ _ _ h=>by simp[eFN_] at h,fun _ _ _ h=>by simp[eFS_] at h⟩
 | succ n ih=>
  refine⟨fun a0 a1 r h=>?_,fun a0 a1 r h=>?_⟩
  ·obtain⟨h,cs⟩:=Ro_ h
   rw[eFN_] at h
   refine aq (nt:=27) (rs:=[.tmp 4]) (n:=100000) Tryz.func40 rfl rfl rfl rfl (by simp) (S ?_)
   refine ai cs h (fun cs h=>S ?_) (fun cs h=>S ?_)
   ·obtain⟨v14,hv14,h⟩:=rb_ h
    refine aj [false,false] (eTs_ hv14) SC (S ?_)
    refine ai cs h (fun cs h=>S ?_) (fun cs h=>S ?_)
    ·refine ai cs h (fun cs h=>S ?_) (fun cs h=>S ?_)
     ·obtain⟨v25,hv25,h⟩:=rb_ h
      refine aj [false,false] (ih.2 _ _ _ hv25) SC (S ?_)
      refine ai cs h (fun cs h=>S ?_) (fun cs h=>S ?_)
      ·cases rs_ h
       exact ag SC
      ·cases rs_ h
       exact ag SC
     ·cases rs_ h
      exact ag SC
    ·cases rs_ h
     exact ag SC
   ·cases rs_ h
    exact ag SC
  ·obtain⟨h,cs⟩:=Ro_ h
   rw[eFS_] at h
   refine aq (nt:=27) (rs:=[.tmp 4]) (n:=100000) Tryz.func48 rfl rfl rfl rfl (by simp) (S ?_)
   refine ai cs h (fun cs h=>S ?_) (fun cs h=>S ?_)
   ·refine aO (b:=false) (sz:=5) (es:=a0.map (ak false)) 0 SC fun hl0=>?_; rw[aF] at hl0
    replace h:=rl_ h
    refine aI h (fun i4 s4=>[(0,.val (.pv (.sl false 5 (a0.map (ak false))))),(1,.val (.pv (.sl false 5 (a1.map (ak false))))),(5,.val (.pv (I (i4:Int))))]) (fun i4 s4=>[]) (Slm_ SC) (fun i4 s4 hi h=>?_) (fun s4 h=>?_)
    ·have w:=ws_ (i:=i4) (by omega)
     refine S ?_
     refine aG cs (by omega) (fun cs=>S ?_)
     obtain⟨v19,hv19,h⟩:=rb_ h
     refine au (f:=(ak false)) hv19 SC (S ?_)
     obtain⟨v23,hv23,h⟩:=rb_ h
     refine au (f:=(ak false)) hv23 SC (S ?_)
     obtain⟨v25,hv25,h⟩:=rb_ h
     refine aj [false,false] (ih.1 _ _ _ hv25) SC (S ?_)
     refine ae (DHa_ [] []) (S ?_)
     refine ai cs h (fun cs h=>S ?_) (fun cs h=>S ?_)
     ·have h:=rs_ h
      refine aC ⟨_,h,?_⟩
      exact Slm_ SW
     ·cases rs_ h
      exact ag SC
    ·refine S ?_
     refine aH cs (by omega) (fun cs=>S ?_)
     cases rs_ h
     exact ag SC
   ·cases rs_ h
    exact ag SC
theorem eFs_{a0:Ft}{a1:Ft}{r:Bool}(h:eF_ a0 a1=some r):Sat ah 40 [((ak false) a0),((ak false) a1)] (B r):=by
 obtain⟨n,hn⟩:=ls_ h
 exact(eFN_2 n).1 _ _ _ hn
theorem eFS_3{a0:List Ft}{a1:List Ft}{r:Bool}(h:eFS_2 a0 a1=some r):Sat ah 48 [(.sl false 5 (a0.map (ak false))),(.sl false 5 (a1.map (ak false)))] (B r):=by
 obtain⟨n,hn⟩:=ls_ h
 exact(eFN_2 n).2 _ _ _ hn

theorem eSs_{a0:Sa}{a1:Sa}  {r:Bool}(h:eS_ a0 a1=some r):Sat ah 13 [((aK false) a0),((aK false) a1)] (B r):=by
 obtain⟨h,cs⟩:=Ro_ h
 unfold eS_ at h
 refine aq (nt:=17) (rs:=[.tmp 4]) (n:=100000) Tryz.func13 rfl rfl rfl rfl (by simp) (S ?_)
 obtain⟨v9,hv9,h⟩:=rb_ h
 refine aj [false,false] (eFS_3 hv9) SC (S ?_)
 refine ai cs h (fun cs h=>S ?_) (fun cs h=>S ?_)
 ·obtain⟨v15,hv15,h⟩:=rb_ h
  refine aj [false,false] (eFS_3 hv15) SC (S ?_)
  refine ai cs h (fun cs h=>S ?_) (fun cs h=>S ?_)
  ·cases rs_ h
   exact ag SC
  ·cases rs_ h
   exact ag SC
 ·cases rs_ h
  exact ag SC

theorem eDN_1(n:Nat):(∀ (a0:Dt) (a1:Dt) (r:Bool),eDN_ n a0 a1=some r→Sat ah 23 [((aw false) a0),((aw false) a1)] (B r))∧(∀ (a0:List Dt) (a1:List Dt) (r:Bool),eDS_ n a0 a1=some r→Sat ah 66 [(.sl false 12 (a0.map (aw false))),(.sl false 12 (a1.map (aw false)))] (B r)):=by
 induction n with
 | zero=>exact⟨fun _ _ _ h=>by simp[eDN_] at h,fun _ _ _ h=>by simp[eDS_] at h⟩
 | succ n ih=>
  refine⟨fun a0 a1 r h=>?_,fun a0 a1 r h=>?_⟩
  ·obtain⟨h,cs⟩:=Ro_ h
   rw[eDN_] at h
   refine aq (nt:=39) (rs:=[.tmp 4]) (n:=100000) Tryz.func23 rfl rfl rfl rfl (by simp) (S ?_)
   refine ai cs h (fun cs h=>S ?_) (fun cs h=>S ?_)
   ·obtain⟨v14,hv14,h⟩:=rb_ h
    refine aj [false,false] (eSs_ hv14) SC (S ?_)
    refine ai cs h (fun cs h=>S ?_) (fun cs h=>S ?_)
    ·refine ai cs h (fun cs h=>S ?_) (fun cs h=>S ?_)
     ·obtain⟨v25,hv25,h⟩:=rb_ h
      refine aj [false,false] (eTs_ hv25) SC (S ?_)
      refine ai cs h (fun cs h=>S ?_) (fun cs h=>S ?_)
      ·obtain⟨v31,hv31,h⟩:=rb_ h
       refine aj [false,false] (eFs_ hv31) SC (S ?_)
       refine ai cs h (fun cs h=>S ?_) (fun cs h=>S ?_)
       ·obtain⟨v37,hv37,h⟩:=rb_ h
        refine aj [false,false] (ih.2 _ _ _ hv37) SC (S ?_)
        refine ai cs h (fun cs h=>S ?_) (fun cs h=>S ?_)
        ·cases rs_ h
         exact ag SC
        ·cases rs_ h
         exact ag SC
       ·cases rs_ h
        exact ag SC
      ·cases rs_ h
       exact ag SC
     ·cases rs_ h
      exact ag SC
    ·cases rs_ h
     exact ag SC
   ·cases rs_ h
    exact ag SC
  ·obtain⟨h,cs⟩:=Ro_ h
   rw[eDS_] at h
   refine aq (nt:=27) (rs:=[.tmp 4]) (n:=100000) Tryz.func66 rfl rfl rfl rfl (by simp) (S ?_)
   refine ai cs h (fun cs h=>S ?_) (fun cs h=>S ?_)
   ·refine aO (b:=false) (sz:=12) (es:=a0.map (aw false)) 0 SC fun hl0=>?_; rw[aF] at hl0
    replace h:=rl_ h
    refine aI h (fun i4 s4=>[(0,.val (.pv (.sl false 12 (a0.map (aw false))))),(1,.val (.pv (.sl false 12 (a1.map (aw false))))),(5,.val (.pv (I (i4:Int))))]) (fun i4 s4=>[]) (Slm_ SC) (fun i4 s4 hi h=>?_) (fun s4 h=>?_)
    ·have w:=ws_ (i:=i4) (by omega)
     refine S ?_
     refine aG cs (by omega) (fun cs=>S ?_)
     obtain⟨v19,hv19,h⟩:=rb_ h
     refine au (f:=(aw false)) hv19 SC (S ?_)
     obtain⟨v23,hv23,h⟩:=rb_ h
     refine au (f:=(aw false)) hv23 SC (S ?_)
     obtain⟨v25,hv25,h⟩:=rb_ h
     refine aj [false,false] (ih.1 _ _ _ hv25) SC (S ?_)
     refine ae (DHa_ [] []) (S ?_)
     refine ai cs h (fun cs h=>S ?_) (fun cs h=>S ?_)
     ·have h:=rs_ h
      refine aC ⟨_,h,?_⟩
      exact Slm_ SW
     ·cases rs_ h
      exact ag SC
    ·refine S ?_
     refine aH cs (by omega) (fun cs=>S ?_)
     cases rs_ h
     exact ag SC
   ·cases rs_ h
    exact ag SC
theorem eDs_{a0:Dt}{a1:Dt}{r:Bool}(h:eD_ a0 a1=some r):Sat ah 23 [((aw false) a0),((aw false) a1)] (B r):=by
 obtain⟨n,hn⟩:=ls_ h
 exact(eDN_1 n).1 _ _ _ hn
theorem eDS_2{a0:List Dt}{a1:List Dt}{r:Bool}(h:eDS_1 a0 a1=some r):Sat ah 66 [(.sl false 12 (a0.map (aw false))),(.sl false 12 (a1.map (aw false)))] (B r):=by
 obtain⟨n,hn⟩:=ls_ h
 exact(eDN_1 n).2 _ _ _ hn

theorem eSs_1{a0:Sb}{a1:Sb}  {r:Bool}(h:eS_1 a0 a1=some r):Sat ah 10 [((Sb.pv false) a0),((Sb.pv false) a1)] (B r):=by
 obtain⟨h,cs⟩:=Ro_ h
 unfold eS_1 at h
 refine aq (nt:=28) (rs:=[.tmp 4]) (n:=100000) Tryz.func10 rfl rfl rfl rfl (by simp) (S ?_)
 refine ai cs h (fun cs h=>S ?_) (fun cs h=>S ?_)
 ·obtain⟨v14,hv14,h⟩:=rb_ h
  refine aj [false,false] (eFs_ hv14) SC (S ?_)
  refine ai cs h (fun cs h=>S ?_) (fun cs h=>S ?_)
  ·obtain⟨v20,hv20,h⟩:=rb_ h
   refine aj [false,false] (eDs_ hv20) SC (S ?_)
   refine ai cs h (fun cs h=>S ?_) (fun cs h=>S ?_)
   ·obtain⟨v26,hv26,h⟩:=rb_ h
    refine aj [false,false] (eDs_ hv26) SC (S ?_)
    refine ai cs h (fun cs h=>S ?_) (fun cs h=>S ?_)
    ·cases rs_ h
     exact ag SC
    ·cases rs_ h
     exact ag SC
   ·cases rs_ h
    exact ag SC
  ·cases rs_ h
   exact ag SC
 ·cases rs_ h
  exact ag SC

theorem mTs_{a0:Int}  {r:ByteArray}(h:mT_ a0=some r):Sat ah 100 [(I a0)] (Sx r):=by
 obtain⟨h,cs⟩:=Ro_ h
 unfold mT_ at h
 refine aq (nt:=20) (rs:=[.tmp 2]) (n:=100000) Tryz.func100 rfl rfl rfl rfl (by simp) (S ?_)
 refine ai cs h (fun cs h=>S ?_) (fun cs h=>S ?_)
 ·cases rs_ h
  exact ag SC
 ·replace h:=rl_ h
  refine Mg.whileN h (fun s4=>[(0,.val (.pv (I s4.1))),(3,.val (.pv (Sx s4.2)))]) (fun s4=>[]) (Slm_ SC) (fun n4 s4 h=>?_)
  refine S ?_
  refine ai cs h (fun cs h=>S ?_) (fun cs h=>S ?_)
  ·obtain⟨v9,hv9,h⟩:=rb_ h
   refine remH.mk hv9 (S ?_)
   obtain⟨v13,hv13,h⟩:=rb_ h
   refine BstrH.mk hv13 SC (S ?_)
   obtain⟨v15,hv15,h⟩:=rb_ h
   refine SappH.mk hv15 (S ?_)
   obtain⟨v17,hv17,h⟩:=rb_ h
   refine quoH.mk hv17 (S ?_)
   have h:=rs_ h
   refine aC ⟨_,h,?_⟩
   exact Slm_ SC
  ·have h:=rs_ h
   obtain⟨v19,hv19,h⟩:=rb_ h
   refine SappH.mk hv19 (S ?_)
   cases rs_ h
   exact ag SC

theorem mTS_7(n:Nat):(∀ (a0:List Tt) (a1:Int) (r:Int×(List Tt)),mTS_1 n a0 a1=some r→SatIO ah 69 [(.sl true 2 (a0.map (am true))),(I a1)] [(.sl true 2 (r.2.map (am true))),(I a1)] (I r.1)):=by
 induction n with
 | zero=>exact fun _ _ _ h=>by simp[mTS_1] at h
 | succ n ih=>
  refine fun a0 a1 r h=>?_
  obtain⟨h,cs⟩:=Ro_ h
  rw[mTS_1] at h
  refine SIo_ (nt:=28) (rs:=[.tmp 4]) (n:=100000) Tryz.func69 rfl rfl rfl rfl (by simp) (S ?_)
  refine ap (S ?_)
  refine aQ (Nat.le_of_eq rfl) (S ?_)
  refine ap (S ?_)
  refine aQ (Nat.le_of_eq rfl) (S ?_)
  replace h:=rl_ h
  refine MgI.whileN h (fun s2=>[(0,.val (.own 10000)),(1,.val (.pv (I s2.2.1))),(5,.val (.pv (I s2.2.2)))]) (fun s2=>[(10000,(2,s2.1.map (am true)))]) (Slm_ SC) (fun n2 s2 h=>?_)
  refine S ?_
  refine ap (S ?_)
  refine ap (S ?_)
  refine ap (S ?_)
  refine ap (S ?_)
  refine aQ (Nat.le_of_eq rfl) (S ?_)
  refine ai cs h (fun cs h=>S ?_) (fun cs h=>S ?_)
  ·refine ap (S ?_)
   refine ap (S ?_)
   refine ap (S ?_)
   refine ap (S ?_)
   obtain⟨v15,hv15,h⟩:=rb_ h
   refine aj [false] (mTs_ hv15) SC (S ?_)
   refine ap (S ?_)
   obtain⟨v16,hv16,h⟩:=rb_ h
   refine au (f:=(am true)) hv16 SC (S ?_)
   refine ap (S ?_)
   refine ap (S ?_)
   obtain⟨w2,hw2,h⟩:=rb_ h
   refine EldH.mk (f:=(am true)) hw2 rfl SC (S ?_)
   refine aQ (Nat.le_of_eq rfl) (S ?_)
   refine ap (S ?_)
   refine ap (S ?_)
   refine ap (S ?_)
   refine aQ (Nat.le_of_eq rfl) (S ?_)
   refine ap (S ?_)
   refine ap (S ?_)
   refine ap (S ?_)
   obtain⟨v22,hv22,h⟩:=rb_ h
   refine au (f:=(am true)) hv22 SC (S ?_)
   refine ap (S ?_)
   obtain⟨w3,hw3,h⟩:=rb_ h
   obtain⟨v26,hv26,h⟩:=rb_ h
   refine Vei_ (fx:=(am true)) (c:=10000) (sz:=2) (p:=[1]) (off:=1) (h1:=rfl) (h3:=rfl) (h2:=rfl) rfl rfl rfl rfl rfl rfl rfl rfl rfl hw3 (ih _ _ _ hv26) SC SC (S ?_)
   refine ap (S ?_)
   refine aQ (Nat.le_of_eq rfl) (S ?_)
   refine ap (S ?_)
   refine ap (S ?_)
   refine ap (S ?_)
   refine aQ (Nat.le_of_eq rfl) (S ?_)
   have h:=rs_ h
   refine aC ⟨_,h,?_⟩
   exact Slm_ SC
  ·have h:=rs_ h
   refine ap (S ?_)
   refine ap (S ?_)
   refine aQ (Nat.le_of_eq rfl) (S ?_)
   cases rs_ h
   exact FinIO.mk SC
theorem mTS_2{a0:List Tt}{a1:Int}{r:Int×(List Tt)}(h:mTS_3 a0 a1=some r):SatIO ah 69 [(.sl true 2 (a0.map (am true))),(I a1)] [(.sl true 2 (r.2.map (am true))),(I a1)] (I r.1):=by
 obtain⟨n,hn⟩:=ls_ h
 exact(mTS_7 n) _ _ _ hn

theorem mTs_1{a0:Tt}{a1:Int}  {r:Int×(List Tt)}(h:mT_1 a0 a1=some r):SatIO ah 26 [((am true) a0),(I a1)] [((am true) (Tt.mk a0.Name r.2)),(I a1)] (I r.1):=by
 obtain⟨h,cs⟩:=Ro_ h
 unfold mT_1 at h
 refine SatIO.of_m (nt:=10) (rs:=[.tmp 4]) (n:=100000) Tryz.func26 rfl rfl rfl rfl (by simp) (S ?_)
 obtain⟨v8,hv8,h⟩:=rb_ h
 refine CHi_ [(.own 10000),(.pv (I a1))] [(10000,(2,v8.2.map (am true)))] (mTS_2 hv8) SC (S ?_)
 cases rs_ h
 exact FinIO.mk SC

theorem mFS_7(n:Nat):(∀ (a0:List Ft) (a1:Int) (r:Int×(List Ft)),mFS_1 n a0 a1=some r→SatIO ah 50 [(.sl true 5 (a0.map (ak true))),(I a1)] [(.sl true 5 (r.2.map (ak true))),(I a1)] (I r.1)):=by
 induction n with
 | zero=>exact fun _ _ _ h=>by simp[mFS_1] at h
 | succ n ih=>
  refine fun a0 a1 r h=>?_
  obtain⟨h,cs⟩:=Ro_ h
  rw[mFS_1] at h
  refine SIo_ (nt:=52) (rs:=[.tmp 4]) (n:=100000) Tryz.func50 rfl rfl rfl rfl (by simp) (S ?_)
  refine ap (S ?_)
  refine aQ (Nat.le_of_eq rfl) (S ?_)
  refine ap (S ?_)
  refine aQ (Nat.le_of_eq rfl) (S ?_)
  replace h:=rl_ h
  refine MgI.whileN h (fun s2=>[(0,.val (.own 10000)),(1,.val (.pv (I s2.2.1))),(5,.val (.pv (I s2.2.2)))]) (fun s2=>[(10000,(5,s2.1.map (ak true)))]) (Slm_ SC) (fun n2 s2 h=>?_)
  refine S ?_
  refine ap (S ?_)
  refine ap (S ?_)
  refine ap (S ?_)
  refine ap (S ?_)
  refine aQ (Nat.le_of_eq rfl) (S ?_)
  refine ai cs h (fun cs h=>S ?_) (fun cs h=>S ?_)
  ·refine ap (S ?_)
   refine ap (S ?_)
   refine ap (S ?_)
   refine ap (S ?_)
   obtain⟨v15,hv15,h⟩:=rb_ h
   refine au (f:=(ak true)) hv15 SC (S ?_)
   refine ap (S ?_)
   refine ap (S ?_)
   obtain⟨w2,hw2,h⟩:=rb_ h
   refine EldH.mk (f:=(ak true)) hw2 rfl SC (S ?_)
   refine aQ (Nat.le_of_eq rfl) (S ?_)
   refine ap (S ?_)
   refine ap (S ?_)
   refine ap (S ?_)
   refine aQ (Nat.le_of_eq rfl) (S ?_)
   refine ap (S ?_)
   refine ap (S ?_)
   refine ap (S ?_)
   refine ap (S ?_)
   obtain⟨v22,hv22,h⟩:=rb_ h
   refine aj [false] (mTs_ hv22) SC (S ?_)
   refine ap (S ?_)
   obtain⟨v23,hv23,h⟩:=rb_ h
   refine au (f:=(ak true)) hv23 SC (S ?_)
   refine ap (S ?_)
   refine ap (S ?_)
   refine ap (S ?_)
   obtain⟨w3,hw3,h⟩:=rb_ h
   refine EldH.mk (f:=(ak true)) hw3 rfl SC (S ?_)
   refine aQ (Nat.le_of_eq rfl) (S ?_)
   refine ap (S ?_)
   refine ap (S ?_)
   refine ap (S ?_)
   refine aQ (Nat.le_of_eq rfl) (S ?_)
   refine ap (S ?_)
   refine ap (S ?_)
   refine ap (S ?_)
   obtain⟨v30,hv30,h⟩:=rb_ h
   refine au (f:=(ak true)) hv30 SC (S ?_)
   refine ap (S ?_)
   refine ap (S ?_)
   obtain⟨w4,hw4,h⟩:=rb_ h
   obtain⟨v35,hv35,h⟩:=rb_ h
   refine Vei_ (fx:=(ak true)) (c:=10000) (sz:=5) (p:=[1,1]) (off:=2) (h1:=rfl) (h3:=rfl) (h2:=rfl) rfl rfl rfl rfl rfl rfl rfl rfl rfl hw4 (mTS_2 hv35) SC SC (S ?_)
   refine ap (S ?_)
   refine aQ (Nat.le_of_eq rfl) (S ?_)
   refine ap (S ?_)
   refine ap (S ?_)
   refine ap (S ?_)
   refine ap (S ?_)
   obtain⟨v39,hv39,h⟩:=rb_ h
   refine aj [false] (mTs_ hv39) SC (S ?_)
   refine ap (S ?_)
   obtain⟨v40,hv40,h⟩:=rb_ h
   refine au (f:=(ak true)) hv40 SC (S ?_)
   refine ap (S ?_)
   refine ap (S ?_)
   obtain⟨w5,hw5,h⟩:=rb_ h
   refine EldH.mk (f:=(ak true)) hw5 rfl SC (S ?_)
   refine aQ (Nat.le_of_eq rfl) (S ?_)
   refine ap (S ?_)
   refine ap (S ?_)
   refine ap (S ?_)
   refine aQ (Nat.le_of_eq rfl) (S ?_)
   refine ap (S ?_)
   refine ap (S ?_)
   refine ap (S ?_)
   obtain⟨v46,hv46,h⟩:=rb_ h
   refine au (f:=(ak true)) hv46 SC (S ?_)
   refine ap (S ?_)
   obtain⟨w6,hw6,h⟩:=rb_ h
   obtain⟨v50,hv50,h⟩:=rb_ h
   refine Vei_ (fx:=(ak true)) (c:=10000) (sz:=5) (p:=[3]) (off:=4) (h1:=rfl) (h3:=rfl) (h2:=rfl) rfl rfl rfl rfl rfl rfl rfl rfl rfl hw6 (ih _ _ _ hv50) SC SC (S ?_)
   refine ap (S ?_)
   refine aQ (Nat.le_of_eq rfl) (S ?_)
   refine ap (S ?_)
   refine ap (S ?_)
   refine ap (S ?_)
   refine aQ (Nat.le_of_eq rfl) (S ?_)
   have h:=rs_ h
   refine aC ⟨_,h,?_⟩
   exact Slm_ SC
  ·have h:=rs_ h
   refine ap (S ?_)
   refine ap (S ?_)
   refine aQ (Nat.le_of_eq rfl) (S ?_)
   cases rs_ h
   exact FinIO.mk SC
theorem mFS_2{a0:List Ft}{a1:Int}{r:Int×(List Ft)}(h:mFS_3 a0 a1=some r):SatIO ah 50 [(.sl true 5 (a0.map (ak true))),(I a1)] [(.sl true 5 (r.2.map (ak true))),(I a1)] (I r.1):=by
 obtain⟨n,hn⟩:=ls_ h
 exact(mFS_7 n) _ _ _ hn

theorem mFs_{a0:Ft}{a1:Int}  {r:Int×(List Tt)×(List Ft)}(h:mF_ a0 a1=some r):SatIO ah 49 [((ak true) a0),(I a1)] [((ak true) (Ft.mk a0.Op (Tt.mk a0.Atom.Name r.2.1) a0.Var r.2.2)),(I a1)] (I r.1):=by
 obtain⟨h,cs⟩:=Ro_ h
 unfold mF_ at h
 refine SatIO.of_m (nt:=14) (rs:=[.tmp 4]) (n:=100000) Tryz.func49 rfl rfl rfl rfl (by simp) (S ?_)
 obtain⟨v8,hv8,h⟩:=rb_ h
 refine CHi_ [(.node [(.pv (Sx a0.Atom.Name)),(.own 10000)]),(.pv (I a1))] [(10000,(2,v8.2.map (am true)))] (mTs_1 hv8) SC (S ?_)
 obtain⟨v12,hv12,h⟩:=rb_ h
 refine CHi_ [(.own 10001),(.pv (I v8.1))] [(10001,(5,v12.2.map (ak true)))] (mFS_2 hv12) SC (S ?_)
 cases rs_ h
 exact FinIO.mk SC

theorem mSs_{a0:Sa}{a1:Int}  {r:Int×(List Ft)×(List Ft)}(h:mS_ a0 a1=some r):SatIO ah 15 [((aK true) a0),(I a1)] [((aK true) (Sa.mk r.2.1 r.2.2)),(I a1)] (I r.1):=by
 obtain⟨h,cs⟩:=Ro_ h
 unfold mS_ at h
 refine SatIO.of_m (nt:=14) (rs:=[.tmp 4]) (n:=100000) Tryz.func15 rfl rfl rfl rfl (by simp) (S ?_)
 obtain⟨v8,hv8,h⟩:=rb_ h
 refine CHi_ [(.own 10000),(.pv (I a1))] [(10000,(5,v8.2.map (ak true)))] (mFS_2 hv8) SC (S ?_)
 obtain⟨v12,hv12,h⟩:=rb_ h
 refine CHi_ [(.own 10001),(.pv (I v8.1))] [(10001,(5,v12.2.map (ak true)))] (mFS_2 hv12) SC (S ?_)
 cases rs_ h
 exact FinIO.mk SC

theorem mDS_4(n:Nat):(∀ (a0:List Dt) (a1:Int) (r:Int×(List Dt)),mDS_ n a0 a1=some r→SatIO ah 68 [(.sl true 12 (a0.map (aw true))),(I a1)] [(.sl true 12 (r.2.map (aw true))),(I a1)] (I r.1)):=by
 induction n with
 | zero=>exact fun _ _ _ h=>by simp[mDS_] at h
 | succ n ih=>
  refine fun a0 a1 r h=>?_
  obtain⟨h,cs⟩:=Ro_ h
  rw[mDS_] at h
  refine SIo_ (nt:=111) (rs:=[.tmp 4]) (n:=100000) Tryz.func68 rfl rfl rfl rfl (by simp) (S ?_)
  refine ap (S ?_)
  refine aQ (Nat.le_of_eq rfl) (S ?_)
  refine ap (S ?_)
  refine aQ (Nat.le_of_eq rfl) (S ?_)
  replace h:=rl_ h
  refine MgI.whileN h (fun s2=>[(0,.val (.own 10000)),(1,.val (.pv (I s2.2.1))),(5,.val (.pv (I s2.2.2)))]) (fun s2=>[(10000,(12,s2.1.map (aw true)))]) (Slm_ SC) (fun n2 s2 h=>?_)
  refine S ?_
  refine ap (S ?_)
  refine ap (S ?_)
  refine ap (S ?_)
  refine ap (S ?_)
  refine aQ (Nat.le_of_eq rfl) (S ?_)
  refine ai cs h (fun cs h=>S ?_) (fun cs h=>S ?_)
  ·refine ap (S ?_)
   refine ap (S ?_)
   refine ap (S ?_)
   refine ap (S ?_)
   obtain⟨v15,hv15,h⟩:=rb_ h
   refine au (f:=(aw true)) hv15 SC (S ?_)
   refine ap (S ?_)
   refine ap (S ?_)
   obtain⟨w2,hw2,h⟩:=rb_ h
   refine EldH.mk (f:=(aw true)) hw2 rfl SC (S ?_)
   refine aQ (Nat.le_of_eq rfl) (S ?_)
   refine ap (S ?_)
   refine ap (S ?_)
   refine ap (S ?_)
   refine aQ (Nat.le_of_eq rfl) (S ?_)
   refine ap (S ?_)
   refine ap (S ?_)
   refine ap (S ?_)
   obtain⟨v21,hv21,h⟩:=rb_ h
   refine au (f:=(aw true)) hv21 SC (S ?_)
   refine ap (S ?_)
   refine ap (S ?_)
   obtain⟨w3,hw3,h⟩:=rb_ h
   obtain⟨v26,hv26,h⟩:=rb_ h
   refine Vei_ (fx:=(aw true)) (c:=10000) (sz:=12) (p:=[1,0]) (off:=1) (h1:=rfl) (h3:=rfl) (h2:=rfl) rfl rfl rfl rfl rfl rfl rfl rfl rfl hw3 (mFS_2 hv26) SC SC (S ?_)
   refine ap (S ?_)
   refine aQ (Nat.le_of_eq rfl) (S ?_)
   refine ap (S ?_)
   refine ap (S ?_)
   refine ap (S ?_)
   obtain⟨v29,hv29,h⟩:=rb_ h
   refine au (f:=(aw true)) hv29 SC (S ?_)
   refine ap (S ?_)
   refine ap (S ?_)
   obtain⟨w4,hw4,h⟩:=rb_ h
   obtain⟨v34,hv34,h⟩:=rb_ h
   refine Vei_ (fx:=(aw true)) (c:=10000) (sz:=12) (p:=[1,1]) (off:=2) (h1:=rfl) (h3:=rfl) (h2:=rfl) rfl rfl rfl rfl rfl rfl rfl rfl rfl hw4 (mFS_2 hv34) SC SC (S ?_)
   refine ap (S ?_)
   refine aQ (Nat.le_of_eq rfl) (S ?_)
   refine ap (S ?_)
   refine ap (S ?_)
   refine ap (S ?_)
   refine ap (S ?_)
   obtain⟨v38,hv38,h⟩:=rb_ h
   refine au (f:=(aw true)) hv38 SC (S ?_)
   refine ap (S ?_)
   refine ap (S ?_)
   obtain⟨w5,hw5,h⟩:=rb_ h
   refine EldH.mk (f:=(aw true)) hw5 rfl SC (S ?_)
   refine aQ (Nat.le_of_eq rfl) (S ?_)
   refine ap (S ?_)
   refine ap (S ?_)
   refine ap (S ?_)
   refine aQ (Nat.le_of_eq rfl) (S ?_)
   refine ap (S ?_)
   refine ap (S ?_)
   refine ap (S ?_)
   refine ap (S ?_)
   obtain⟨v45,hv45,h⟩:=rb_ h
   refine aj [false] (mTs_ hv45) SC (S ?_)
   refine ap (S ?_)
   obtain⟨v46,hv46,h⟩:=rb_ h
   refine au (f:=(aw true)) hv46 SC (S ?_)
   refine ap (S ?_)
   refine ap (S ?_)
   refine ap (S ?_)
   obtain⟨w6,hw6,h⟩:=rb_ h
   refine EldH.mk (f:=(aw true)) hw6 rfl SC (S ?_)
   refine aQ (Nat.le_of_eq rfl) (S ?_)
   refine ap (S ?_)
   refine ap (S ?_)
   refine ap (S ?_)
   refine aQ (Nat.le_of_eq rfl) (S ?_)
   refine ap (S ?_)
   refine ap (S ?_)
   refine ap (S ?_)
   obtain⟨v53,hv53,h⟩:=rb_ h
   refine au (f:=(aw true)) hv53 SC (S ?_)
   refine ap (S ?_)
   refine ap (S ?_)
   obtain⟨w7,hw7,h⟩:=rb_ h
   obtain⟨v58,hv58,h⟩:=rb_ h
   refine Vei_ (fx:=(aw true)) (c:=10000) (sz:=12) (p:=[3,1]) (off:=5) (h1:=rfl) (h3:=rfl) (h2:=rfl) rfl rfl rfl rfl rfl rfl rfl rfl rfl hw7 (mTS_2 hv58) SC SC (S ?_)
   refine ap (S ?_)
   refine aQ (Nat.le_of_eq rfl) (S ?_)
   refine ap (S ?_)
   refine ap (S ?_)
   refine ap (S ?_)
   refine ap (S ?_)
   obtain⟨v62,hv62,h⟩:=rb_ h
   refine au (f:=(aw true)) hv62 SC (S ?_)
   refine ap (S ?_)
   refine ap (S ?_)
   refine ap (S ?_)
   obtain⟨w8,hw8,h⟩:=rb_ h
   refine EldH.mk (f:=(aw true)) hw8 rfl SC (S ?_)
   refine aQ (Nat.le_of_eq rfl) (S ?_)
   refine ap (S ?_)
   refine ap (S ?_)
   refine ap (S ?_)
   refine aQ (Nat.le_of_eq rfl) (S ?_)
   refine ap (S ?_)
   refine ap (S ?_)
   refine ap (S ?_)
   refine ap (S ?_)
   obtain⟨v70,hv70,h⟩:=rb_ h
   refine aj [false] (mTs_ hv70) SC (S ?_)
   refine ap (S ?_)
   obtain⟨v71,hv71,h⟩:=rb_ h
   refine au (f:=(aw true)) hv71 SC (S ?_)
   refine ap (S ?_)
   refine ap (S ?_)
   refine ap (S ?_)
   refine ap (S ?_)
   obtain⟨w9,hw9,h⟩:=rb_ h
   refine EldH.mk (f:=(aw true)) hw9 rfl SC (S ?_)
   refine aQ (Nat.le_of_eq rfl) (S ?_)
   refine ap (S ?_)
   refine ap (S ?_)
   refine ap (S ?_)
   refine aQ (Nat.le_of_eq rfl) (S ?_)
   refine ap (S ?_)
   refine ap (S ?_)
   refine ap (S ?_)
   obtain⟨v79,hv79,h⟩:=rb_ h
   refine au (f:=(aw true)) hv79 SC (S ?_)
   refine ap (S ?_)
   refine ap (S ?_)
   refine ap (S ?_)
   obtain⟨w10,hw10,h⟩:=rb_ h
   obtain⟨v85,hv85,h⟩:=rb_ h
   refine Vei_ (fx:=(aw true)) (c:=10000) (sz:=12) (p:=[4,1,1]) (off:=8) (h1:=rfl) (h3:=rfl) (h2:=rfl) rfl rfl rfl rfl rfl rfl rfl rfl rfl hw10 (mTS_2 hv85) SC SC (S ?_)
   refine ap (S ?_)
   refine aQ (Nat.le_of_eq rfl) (S ?_)
   refine ap (S ?_)
   refine ap (S ?_)
   refine ap (S ?_)
   refine ap (S ?_)
   obtain⟨v89,hv89,h⟩:=rb_ h
   refine aj [false] (mTs_ hv89) SC (S ?_)
   refine ap (S ?_)
   obtain⟨v90,hv90,h⟩:=rb_ h
   refine au (f:=(aw true)) hv90 SC (S ?_)
   refine ap (S ?_)
   refine ap (S ?_)
   refine ap (S ?_)
   obtain⟨w11,hw11,h⟩:=rb_ h
   refine EldH.mk (f:=(aw true)) hw11 rfl SC (S ?_)
   refine aQ (Nat.le_of_eq rfl) (S ?_)
   refine ap (S ?_)
   refine ap (S ?_)
   refine ap (S ?_)
   refine aQ (Nat.le_of_eq rfl) (S ?_)
   refine ap (S ?_)
   refine ap (S ?_)
   refine ap (S ?_)
   obtain⟨v97,hv97,h⟩:=rb_ h
   refine au (f:=(aw true)) hv97 SC (S ?_)
   refine ap (S ?_)
   refine ap (S ?_)
   obtain⟨w12,hw12,h⟩:=rb_ h
   obtain⟨v102,hv102,h⟩:=rb_ h
   refine Vei_ (fx:=(aw true)) (c:=10000) (sz:=12) (p:=[4,3]) (off:=10) (h1:=rfl) (h3:=rfl) (h2:=rfl) rfl rfl rfl rfl rfl rfl rfl rfl rfl hw12 (mFS_2 hv102) SC SC (S ?_)
   refine ap (S ?_)
   refine aQ (Nat.le_of_eq rfl) (S ?_)
   refine ap (S ?_)
   refine ap (S ?_)
   refine ap (S ?_)
   obtain⟨v105,hv105,h⟩:=rb_ h
   refine au (f:=(aw true)) hv105 SC (S ?_)
   refine ap (S ?_)
   obtain⟨w13,hw13,h⟩:=rb_ h
   obtain⟨v109,hv109,h⟩:=rb_ h
   refine Vei_ (fx:=(aw true)) (c:=10000) (sz:=12) (p:=[5]) (off:=11) (h1:=rfl) (h3:=rfl) (h2:=rfl) rfl rfl rfl rfl rfl rfl rfl rfl rfl hw13 (ih _ _ _ hv109) SC SC (S ?_)
   refine ap (S ?_)
   refine aQ (Nat.le_of_eq rfl) (S ?_)
   refine ap (S ?_)
   refine ap (S ?_)
   refine ap (S ?_)
   refine aQ (Nat.le_of_eq rfl) (S ?_)
   have h:=rs_ h
   refine aC ⟨_,h,?_⟩
   exact Slm_ SC
  ·have h:=rs_ h
   refine ap (S ?_)
   refine ap (S ?_)
   refine aQ (Nat.le_of_eq rfl) (S ?_)
   cases rs_ h
   exact FinIO.mk SC
theorem mDS_5{a0:List Dt}{a1:Int}{r:Int×(List Dt)}(h:mDS_3 a0 a1=some r):SatIO ah 68 [(.sl true 12 (a0.map (aw true))),(I a1)] [(.sl true 12 (r.2.map (aw true))),(I a1)] (I r.1):=by
 obtain⟨n,hn⟩:=ls_ h
 exact(mDS_4 n) _ _ _ hn

theorem mDs_{a0:Dt}{a1:Int}  {r:Int×(List Ft)×(List Ft)×(List Tt)×(List Tt)×(List Ft)×(List Dt)}(h:mD_ a0 a1=some r):SatIO ah 25 [((aw true) a0),(I a1)] [((aw true) (Dt.mk a0.Rule (Sa.mk r.2.1 r.2.2.1) a0.Main (Tt.mk a0.Term.Name r.2.2.2.1) (Ft.mk a0.Cut.Op (Tt.mk a0.Cut.Atom.Name r.2.2.2.2.1) a0.Cut.Var r.2.2.2.2.2.1) r.2.2.2.2.2.2)),(I a1)] (I r.1):=by
 obtain⟨h,cs⟩:=Ro_ h
 unfold mD_ at h
 refine SatIO.of_m (nt:=22) (rs:=[.tmp 4]) (n:=100000) Tryz.func25 rfl rfl rfl rfl (by simp) (S ?_)
 obtain⟨v8,hv8,h⟩:=rb_ h
 refine CHi_ [(.node [(.own 10000),(.own 10001)]),(.pv (I a1))] [(10000,(5,v8.2.1.map (ak true))),(10001,(5,v8.2.2.map (ak true)))] (mSs_ hv8) SC (S ?_)
 obtain⟨v12,hv12,h⟩:=rb_ h
 refine CHi_ [(.node [(.pv (Sx a0.Term.Name)),(.own 10002)]),(.pv (I v8.1))] [(10002,(2,v12.2.map (am true)))] (mTs_1 hv12) SC (S ?_)
 obtain⟨v16,hv16,h⟩:=rb_ h
 refine CHi_ [(.node [(.pv (I a0.Cut.Op)),(.node [(.pv (Sx a0.Cut.Atom.Name)),(.own 10003)]),(.pv (Sx a0.Cut.Var)),(.own 10004)]),(.pv (I v12.1))] [(10003,(2,v16.2.1.map (am true))),(10004,(5,v16.2.2.map (ak true)))] (mFs_ hv16) SC (S ?_)
 obtain⟨v20,hv20,h⟩:=rb_ h
 refine CHi_ [(.own 10005),(.pv (I v16.1))] [(10005,(12,v20.2.map (aw true)))] (mDS_5 hv20) SC (S ?_)
 cases rs_ h
 exact FinIO.mk SC

theorem mSs_1{a0:Sb}{a1:Int}  {r:Int×(List Tt)×(List Ft)×(List Ft)×(List Ft)×(List Tt)×(List Tt)×(List Ft)×(List Dt)×(List Ft)×(List Ft)×(List Tt)×(List Tt)×(List Ft)×(List Dt)}(h:mS_1 a0 a1=some r):SatIO ah 14 [((Sb.pv true) a0),(I a1)] [((Sb.pv true) (Sb.mk a0.Var (Ft.mk a0.Formula.Op (Tt.mk a0.Formula.Atom.Name r.2.1) a0.Formula.Var r.2.2.1) (Dt.mk a0.Base.Rule (Sa.mk r.2.2.2.1 r.2.2.2.2.1) a0.Base.Main (Tt.mk a0.Base.Term.Name r.2.2.2.2.2.1) (Ft.mk a0.Base.Cut.Op (Tt.mk a0.Base.Cut.Atom.Name r.2.2.2.2.2.2.1) a0.Base.Cut.Var r.2.2.2.2.2.2.2.1) r.2.2.2.2.2.2.2.2.1) (Dt.mk a0.Step.Rule (Sa.mk r.2.2.2.2.2.2.2.2.2.1 r.2.2.2.2.2.2.2.2.2.2.1) a0.Step.Main (Tt.mk a0.Step.Term.Name r.2.2.2.2.2.2.2.2.2.2.2.1) (Ft.mk a0.Step.Cut.Op (Tt.mk a0.Step.Cut.Atom.Name r.2.2.2.2.2.2.2.2.2.2.2.2.1) a0.Step.Cut.Var r.2.2.2.2.2.2.2.2.2.2.2.2.2.1) r.2.2.2.2.2.2.2.2.2.2.2.2.2.2))),(I a1)] (I r.1):=by
 obtain⟨h,cs⟩:=Ro_ h
 unfold mS_1 at h
 refine SatIO.of_m (nt:=18) (rs:=[.tmp 4]) (n:=100000) Tryz.func14 rfl rfl rfl rfl (by simp) (S ?_)
 obtain⟨v8,hv8,h⟩:=rb_ h
 refine CHi_ [(.node [(.pv (I a0.Formula.Op)),(.node [(.pv (Sx a0.Formula.Atom.Name)),(.own 10000)]),(.pv (Sx a0.Formula.Var)),(.own 10001)]),(.pv (I a1))] [(10000,(2,v8.2.1.map (am true))),(10001,(5,v8.2.2.map (ak true)))] (mFs_ hv8) SC (S ?_)
 obtain⟨v12,hv12,h⟩:=rb_ h
 refine CHi_ [(.node [(.pv (I a0.Base.Rule)),(.node [(.own 10002),(.own 10003)]),(.pv (I a0.Base.Main)),(.node [(.pv (Sx a0.Base.Term.Name)),(.own 10004)]),(.node [(.pv (I a0.Base.Cut.Op)),(.node [(.pv (Sx a0.Base.Cut.Atom.Name)),(.own 10005)]),(.pv (Sx a0.Base.Cut.Var)),(.own 10006)]),(.own 10007)]),(.pv (I v8.1))] [(10002,(5,v12.2.1.map (ak true))),(10003,(5,v12.2.2.1.map (ak true))),(10004,(2,v12.2.2.2.1.map (am true))),(10005,(2,v12.2.2.2.2.1.map (am true))),(10006,(5,v12.2.2.2.2.2.1.map (ak true))),(10007,(12,v12.2.2.2.2.2.2.map (aw true)))] (mDs_ hv12) SC (S ?_)
 obtain⟨v16,hv16,h⟩:=rb_ h
 refine CHi_ [(.node [(.pv (I a0.Step.Rule)),(.node [(.own 10008),(.own 10009)]),(.pv (I a0.Step.Main)),(.node [(.pv (Sx a0.Step.Term.Name)),(.own 10010)]),(.node [(.pv (I a0.Step.Cut.Op)),(.node [(.pv (Sx a0.Step.Cut.Atom.Name)),(.own 10011)]),(.pv (Sx a0.Step.Cut.Var)),(.own 10012)]),(.own 10013)]),(.pv (I v12.1))] [(10008,(5,v16.2.1.map (ak true))),(10009,(5,v16.2.2.1.map (ak true))),(10010,(2,v16.2.2.2.1.map (am true))),(10011,(2,v16.2.2.2.2.1.map (am true))),(10012,(5,v16.2.2.2.2.2.1.map (ak true))),(10013,(12,v16.2.2.2.2.2.2.map (aw true)))] (mDs_ hv16) SC (S ?_)
 cases rs_ h
 exact FinIO.mk SC

theorem hTS_2(n:Nat):(∀ (a0:List Tt) (a1:Int) (r:Int),hTS_ n a0 a1=some r→Sat ah 101 [(.sl false 2 (a0.map (am false))),(I a1)] (I r)):=by
 induction n with
 | zero=>exact fun _ _ _ h=>by simp[hTS_] at h
 | succ n ih=>
  refine fun a0 a1 r h=>?_
  obtain⟨h,cs⟩:=Ro_ h
  rw[hTS_] at h
  refine aq (nt:=32) (rs:=[.tmp 4]) (n:=100000) Tryz.func101 rfl rfl rfl rfl (by simp) (S ?_)
  refine aO (b:=false) (sz:=2) (es:=a0.map (am false)) 0 SC fun hl0=>?_; rw[aF] at hl0
  replace h:=rl_ h
  refine aI h (fun i2 s2=>[(0,.val (.pv (.sl false 2 (a0.map (am false))))),(1,.val (.pv (I s2))),(5,.val (.pv (I (i2:Int))))]) (fun i2 s2=>[]) (Slm_ SC) (fun i2 s2 hi h=>?_) (fun s2 h=>?_)
  ·have w:=ws_ (i:=i2) (by omega)
   refine S ?_
   refine aG cs (by omega) (fun cs=>S ?_)
   obtain⟨v14,hv14,h⟩:=rb_ h
   refine au (f:=(am false)) hv14 SC (S ?_)
   obtain⟨v18,hv18,h⟩:=rb_ h
   refine aj [false] (mTs_ hv18) SC (S ?_)
   refine ae (DHa_ [] []) (S ?_)
   refine ai cs h (fun cs h=>S ?_) (fun cs h=>S ?_)
   ·obtain⟨v24,hv24,h⟩:=rb_ h
    refine au (f:=(am false)) hv24 SC (S ?_)
    obtain⟨v28,hv28,h⟩:=rb_ h
    refine aj [false,false] (ih _ _ _ hv28) SC (S ?_)
    refine ai cs h (fun cs h=>S ?_) (fun cs h=>S ?_)
    ·cases rs_ h
     exact ag SC
    ·have h:=rs_ h
     refine aC ⟨_,h,?_⟩
     exact Slm_ SW
   ·cases rs_ h
    exact ag SC
  ·refine S ?_
   refine aH cs (by omega) (fun cs=>S ?_)
   cases rs_ h
   exact ag SC
theorem hTS_3{a0:List Tt}{a1:Int}{r:Int}(h:hTS_1 a0 a1=some r):Sat ah 101 [(.sl false 2 (a0.map (am false))),(I a1)] (I r):=by
 obtain⟨n,hn⟩:=ls_ h
 exact(hTS_2 n) _ _ _ hn

theorem hFS_3(n:Nat):(∀ (a0:List Ft) (a1:Int) (r:Int),hFS_ n a0 a1=some r→Sat ah 51 [(.sl false 5 (a0.map (ak false))),(I a1)] (I r)):=by
 induction n with
 | zero=>exact fun _ _ _ h=>by simp[hFS_] at h
 | succ n ih=>
  refine fun a0 a1 r h=>?_
  obtain⟨h,cs⟩:=Ro_ h
  rw[hFS_] at h
  refine aq (nt:=62) (rs:=[.tmp 4]) (n:=100000) Tryz.func51 rfl rfl rfl rfl (by simp) (S ?_)
  refine aO (b:=false) (sz:=5) (es:=a0.map (ak false)) 0 SC fun hl0=>?_; rw[aF] at hl0
  replace h:=rl_ h
  refine aI h (fun i2 s2=>[(0,.val (.pv (.sl false 5 (a0.map (ak false))))),(1,.val (.pv (I s2))),(5,.val (.pv (I (i2:Int))))]) (fun i2 s2=>[]) (Slm_ SC) (fun i2 s2 hi h=>?_) (fun s2 h=>?_)
  ·have w:=ws_ (i:=i2) (by omega)
   refine S ?_
   refine aG cs (by omega) (fun cs=>S ?_)
   obtain⟨v14,hv14,h⟩:=rb_ h
   refine au (f:=(ak false)) hv14 SC (S ?_)
   refine ai cs h (fun cs h=>S ?_) (fun cs h=>S ?_)
   ·obtain⟨v23,hv23,h⟩:=rb_ h
    refine au (f:=(ak false)) hv23 SC (S ?_)
    obtain⟨v28,hv28,h⟩:=rb_ h
    refine aj [false] (mTs_ hv28) SC (S ?_)
    refine ae (DHa_ [] []) (S ?_)
    refine ai cs h (fun cs h=>S ?_) (fun cs h=>S ?_)
    ·obtain⟨v34,hv34,h⟩:=rb_ h
     refine au (f:=(ak false)) hv34 SC (S ?_)
     obtain⟨v39,hv39,h⟩:=rb_ h
     refine aj [false,false] (hTS_3 hv39) SC (S ?_)
     refine ai cs h (fun cs h=>S ?_) (fun cs h=>S ?_)
     ·cases rs_ h
      exact ag SC
     ·obtain⟨v44,hv44,h⟩:=rb_ h
      refine au (f:=(ak false)) hv44 SC (S ?_)
      obtain⟨v48,hv48,h⟩:=rb_ h
      refine aj [false] (mTs_ hv48) SC (S ?_)
      refine ae (DHa_ [] []) (S ?_)
      refine ai cs h (fun cs h=>S ?_) (fun cs h=>S ?_)
      ·obtain⟨v54,hv54,h⟩:=rb_ h
       refine au (f:=(ak false)) hv54 SC (S ?_)
       obtain⟨v58,hv58,h⟩:=rb_ h
       refine aj [false,false] (ih _ _ _ hv58) SC (S ?_)
       refine ai cs h (fun cs h=>S ?_) (fun cs h=>S ?_)
       ·cases rs_ h
        exact ag SC
       ·have h:=rs_ h
        refine aC ⟨_,h,?_⟩
        exact Slm_ SW
      ·cases rs_ h
       exact ag SC
    ·cases rs_ h
     exact ag SC
   ·cases rs_ h
    exact ag SC
  ·refine S ?_
   refine aH cs (by omega) (fun cs=>S ?_)
   cases rs_ h
   exact ag SC
theorem hFS_2{a0:List Ft}{a1:Int}{r:Int}(h:hFS_1 a0 a1=some r):Sat ah 51 [(.sl false 5 (a0.map (ak false))),(I a1)] (I r):=by
 obtain⟨n,hn⟩:=ls_ h
 exact(hFS_3 n) _ _ _ hn

theorem hSs_{a0:Sa}{a1:Int}  {r:Int}(h:hS_ a0 a1=some r):Sat ah 16 [((aK false) a0),(I a1)] (I r):=by
 obtain⟨h,cs⟩:=Ro_ h
 unfold hS_ at h
 refine aq (nt:=18) (rs:=[.tmp 4]) (n:=100000) Tryz.func16 rfl rfl rfl rfl (by simp) (S ?_)
 obtain⟨v8,hv8,h⟩:=rb_ h
 refine aj [false,false] (hFS_2 hv8) SC (S ?_)
 refine ai cs h (fun cs h=>S ?_) (fun cs h=>S ?_)
 ·cases rs_ h
  exact ag SC
 ·obtain⟨v14,hv14,h⟩:=rb_ h
  refine aj [false,false] (hFS_2 hv14) SC (S ?_)
  refine ai cs h (fun cs h=>S ?_) (fun cs h=>S ?_)
  ·cases rs_ h
   exact ag SC
  ·cases rs_ h
   exact ag SC

theorem FnExactSchemaSequent_sat{a0:Sb}  {r:Bool}(h:FnExactSchemaSequent a0=some r):Sat ah 4 [((Sb.pv false) a0)] (B r):=by
 obtain⟨h,cs⟩:=Ro_ h
 unfold FnExactSchemaSequent at h
 refine aq (nt:=96) (rs:=[.tmp 2]) (n:=100000) Tryz.func4 rfl rfl rfl rfl (by simp) (S ?_)
 obtain⟨v16,hv16,h⟩:=rb_ h
 refine aj [false,false] (sSs_1 hv16) SC (S ?_)
 refine ai cs h (fun cs h=>S ?_) (fun cs h=>S ?_)
 ·cases rs_ h
  exact ag SC
 ·obtain⟨v21,hv21,h⟩:=rb_ h
  refine aj [false] (tSs_ hv21) SC (S ?_)
  obtain⟨v22,hv22,h⟩:=rb_ h
  refine aj [false] (sSS_3 hv22) SC (S ?_)
  obtain⟨v26,hv26,h⟩:=rb_ h
  refine aj [false] (tSs_ hv26) SC (S ?_)
  obtain⟨v29,hv29,h⟩:=rb_ h
  refine aj [false] (iSS_1 hv29) SC (S ?_)
  obtain⟨v34,hv34,h⟩:=rb_ h
  refine aj [false,false] (eSs_ hv34) SC (S ?_)
  refine ai cs h (fun cs h=>S ?_) (fun cs h=>S ?_)
  ·refine ai cs h (fun cs h=>S ?_) (fun cs h=>S ?_)
   ·obtain⟨v43,hv43,h⟩:=rb_ h
    refine aj [false] (tSs_ hv43) SC (S ?_)
    obtain⟨v44,hv44,h⟩:=rb_ h
    refine aj [false,false] (eSs_1 hv44) SC (S ?_)
    refine ae (DHa_ [] [688,689,690,691,692,693,694,695,696,697,698,699,700,701]) (S ?_)
    refine ai cs h (fun cs h=>S ?_) (fun cs h=>S ?_)
    ·obtain⟨v48,hv48,h⟩:=rb_ h
     refine CHi_ [(.node [(.pv (Sx v26.Var)),(.node [(.pv (I v26.Formula.Op)),(.node [(.pv (Sx v26.Formula.Atom.Name)),(.own 416)]),(.pv (Sx v26.Formula.Var)),(.own 417)]),(.node [(.pv (I v26.Base.Rule)),(.node [(.own 418),(.own 419)]),(.pv (I v26.Base.Main)),(.node [(.pv (Sx v26.Base.Term.Name)),(.own 420)]),(.node [(.pv (I v26.Base.Cut.Op)),(.node [(.pv (Sx v26.Base.Cut.Atom.Name)),(.own 421)]),(.pv (Sx v26.Base.Cut.Var)),(.own 422)]),(.own 423)]),(.node [(.pv (I v26.Step.Rule)),(.node [(.own 424),(.own 425)]),(.pv (I v26.Step.Main)),(.node [(.pv (Sx v26.Step.Term.Name)),(.own 426)]),(.node [(.pv (I v26.Step.Cut.Op)),(.node [(.pv (Sx v26.Step.Cut.Atom.Name)),(.own 427)]),(.pv (Sx v26.Step.Cut.Var)),(.own 428)]),(.own 429)])]),(.pv (I (1:Int)))] [(416,(2,v48.2.1.map (am true))),(417,(5,v48.2.2.1.map (ak true))),(418,(5,v48.2.2.2.1.map (ak true))),(419,(5,v48.2.2.2.2.1.map (ak true))),(420,(2,v48.2.2.2.2.2.1.map (am true))),(421,(2,v48.2.2.2.2.2.2.1.map (am true))),(422,(5,v48.2.2.2.2.2.2.2.1.map (ak true))),(423,(12,v48.2.2.2.2.2.2.2.2.1.map (aw true))),(424,(5,v48.2.2.2.2.2.2.2.2.2.1.map (ak true))),(425,(5,v48.2.2.2.2.2.2.2.2.2.2.1.map (ak true))),(426,(2,v48.2.2.2.2.2.2.2.2.2.2.2.1.map (am true))),(427,(2,v48.2.2.2.2.2.2.2.2.2.2.2.2.1.map (am true))),(428,(5,v48.2.2.2.2.2.2.2.2.2.2.2.2.2.1.map (ak true))),(429,(12,v48.2.2.2.2.2.2.2.2.2.2.2.2.2.2.map (aw true)))] (mSs_1 hv48) SC (S ?_)
     refine ai cs h (fun cs h=>S ?_) (fun cs h=>S ?_)
     ·cases rs_ h
      exact ag SC
     ·obtain⟨v54,hv54,h⟩:=rb_ h
      refine aj [false,false] (eSs_ hv54) SC (S ?_)
      refine ai cs h (fun cs h=>S ?_) (fun cs h=>S ?_)
      ·obtain⟨v64,hv64,h⟩:=rb_ h
       refine CHi_ [(.node [(.own 464),(.own 465)]),(.pv (I (1:Int)))] [(464,(5,v64.2.1.map (ak true))),(465,(5,v64.2.2.map (ak true)))] (mSs_ hv64) SC (S ?_)
       obtain⟨v67,hv67,h⟩:=rb_ h
       refine aj [false,false] (hSs_ hv67) SC (S ?_)
       refine ai cs h (fun cs h=>S ?_) (fun cs h=>S ?_)
       ·cases rs_ h
        exact ag SC
       ·refine ai cs h (fun cs h=>S ?_) (fun cs h=>S ?_)
        ·obtain⟨v75,hv75,h⟩:=rb_ h
         refine aj [false] (tSs_ hv75) SC (S ?_)
         obtain⟨v76,hv76,h⟩:=rb_ h
         refine aj [false] (iSS_1 hv76) SC (S ?_)
         obtain⟨v81,hv81,h⟩:=rb_ h
         refine aj [false,false] (eSs_ hv81) SC (S ?_)
         refine ai cs h (fun cs h=>S ?_) (fun cs h=>S ?_)
         ·refine ai cs h (fun cs h=>S ?_) (fun cs h=>S ?_)
          ·obtain⟨v90,hv90,h⟩:=rb_ h
           refine aj [false,false] (hSs_ hv90) SC (S ?_)
           refine ai cs h (fun cs h=>S ?_) (fun cs h=>S ?_)
           ·cases rs_ h
            exact ag SC
           ·refine ai cs h (fun cs h=>S ?_) (fun cs h=>S ?_)
            ·cases rs_ h
             exact ag SC
            ·cases rs_ h
             exact ag SC
          ·cases rs_ h
           exact ag SC
         ·cases rs_ h
          exact ag SC
        ·cases rs_ h
         exact ag SC
      ·cases rs_ h
       exact ag SC
    ·cases rs_ h
     exact ag SC
   ·cases rs_ h
    exact ag SC
  ·cases rs_ h
   exact ag SC

end Go.Proofs.YtlgeocknlmbgeaaGreat
