/- Lemmas of the proof; each says what it shows. -/
import Derived.Test.YtkmfaliedpidbaaGm
import Derived.Test.YtkmfaliedpidbaaGf
import Derived.Test.YtkmfaliedpidbaaGsrt
import Derived.Test.YtkmfaliedpidbaaGsrl
import Derived.Test.YtkmfaliedpidbaaGlin
set_option linter.unusedSimpArgs false
set_option linter.unusedVariables false
set_option linter.defProp false
set_option maxRecDepth 4000
namespace Go.Proofs.Ytkmfaliedpidbaa
open Go.Av
open And renaming intro→aa
open CallH renaming mk→ap
open CondH renaming run→ak,t2→aR,f2→aS
open FinH renaming l→al
open HandH renaming call→aW
open IdxH renaming mk→az
open List renaming nil_append→bc,length_map→aB
open Lt renaming pv→am
open Nat renaming le_of_ble_eq_true→a7
open PV renaming views→aq
open RdH renaming mk→aE
open Sat renaming of_m→aG
open St renaming le_trans→aO
open Try renaming prog→ah
open VSeq renaming step→au
set_option maxHeartbeats 4000000
theorem vBs_{a0:List Int}  {r:Bool}(h:vBig a0=some r):Sat ah 4 [(.sl false 1 (a0.map (Ik .u8)))] (B r):=by
 obtain⟨h,cs⟩:=Ro_ h
 unfold vBig at h
 refine aG (nt:=6) (rs:=[.tmp 2]) (n:=100000) Try.func4 rfl rfl rfl rfl (by simp) (S ?_)
 cases rs_ h
 exact al SC

theorem slC_9{a0:la}  {r:Int×la}(h:slC_5 a0=some r):SatH ah 37 [] [] .ptr [] (.pv ((la.pv false) a0)) (.pv ((la.pv false) r.2)) (I r.1):=by
 obtain⟨h,cs⟩:=Ro_ h
 unfold slC_5 at h
 refine SHo_ (nt:=62) (rs:=[.tmp 2]) (n:=100000) 0 Try.func37 rfl rfl rfl rfl rfl (a7 rfl) (by decide) (by first | exact a7 rfl | exact SC) (S ?_)
 refine aa (DHa_ [] []) (S ?_)
 refine ak cs h (fun cs h=>S ?_) (fun cs h=>S ?_)
 ·obtain⟨v22,hv22,h⟩:=rb_ h
  refine az (f:=(Ik .u8)) hv22 SC (S ?_)
  refine aa (DHa_ [] []) (S ?_)
  refine aa (DHa_ [] []) (S ?_)
  refine ak cs h (fun cs h=>S ?_) (fun cs h=>S ?_)
  ·cases rs_ h
   exact RetHB.l SC
  ·obtain⟨v59,hv59,h⟩:=rb_ h
   refine ShrH.mk hv59 (S ?_)
   cases rs_ h
   exact RetHB.l SC
 ·refine aa (DHa_ [] []) (S ?_)
  refine ak cs h (fun cs h=>S ?_) (fun cs h=>S ?_)
  ·cases rs_ h
   exact RetHB.l SC
  ·obtain⟨v59,hv59,h⟩:=rb_ h
   refine ShrH.mk hv59 (S ?_)
   cases rs_ h
   exact RetHB.l SC

theorem slC_3{a0:la}{a1:Int}  {r:Int×la}(h:slC_1 a0 a1=some r):SatH ah 21 [] [(I a1)] .ptr [] (.pv ((la.pv false) a0)) (.pv ((la.pv false) r.2)) (I r.1):=by
 obtain⟨h,cs⟩:=Ro_ h
 unfold slC_1 at h
 refine SHo_ (nt:=20) (rs:=[.tmp 4]) (n:=100000) 0 Try.func21 rfl rfl rfl rfl rfl (a7 rfl) (by decide) (by first | exact a7 rfl | exact SC) (S ?_)
 refine ak cs h (fun cs h=>S ?_) (fun cs h=>S ?_)
 ·cases rs_ h
  exact RetHB.l SC
 ·obtain⟨v9,hv9,h⟩:=rb_ h
  refine aW (r:=0) (hc:=.cv (.pv ((la.pv false) a0))) 0 [] [] [] [] [] (slC_9 hv9) rfl rfl rfl SC (S ?_)
  refine ak cs h (fun cs h=>S ?_) (fun cs h=>S ?_)
  ·obtain⟨v15,hv15,h⟩:=rb_ h
   refine aW (r:=0) (hc:=.cv (.pv ((la.pv false) v9.2))) 0 [] [] [] [] [] (slC_9 hv15) rfl rfl rfl SC (S ?_)
   obtain⟨v19,hv19,h⟩:=rb_ h
   refine remH.mk hv19 (S ?_)
   cases rs_ h
   exact RetHB.l SC
  ·obtain⟨v19,hv19,h⟩:=rb_ h
   refine remH.mk hv19 (S ?_)
   cases rs_ h
   exact RetHB.l SC

theorem slC_8{a0:la}{a1:List Int}  {r:Int×la}(h:slC_2 a0 a1=some r):SatH ah 28 [] [(.sl false 1 (a1.map I))] .ptr [] (.pv ((la.pv false) a0)) (.pv ((la.pv false) r.2)) (I r.1):=by
 obtain⟨h,cs⟩:=Ro_ h
 unfold slC_2 at h
 refine SHo_ (nt:=12) (rs:=[.tmp 4]) (n:=100000) 0 Try.func28 rfl rfl rfl rfl rfl (a7 rfl) (by decide) (by first | exact a7 rfl | exact SC) (S ?_)
 obtain⟨v9,hv9,h⟩:=rb_ h
 refine aW (r:=0) (hc:=.cv (.pv ((la.pv false) a0))) 0 [] [_] [] [(.pv (I (a1.length:Int)))] [false] (slC_3 hv9) rfl rfl rfl SC (S ?_)
 obtain⟨v10,hv10,h⟩:=rb_ h
 refine az (f:=I) hv10 SC (S ?_)
 cases rs_ h
 exact RetHB.l SC

theorem slC_11{a0:la}{a1:Int}  {r:Bool×la}(h:slC_6 a0 a1=some r):SatH ah 29 [] [(I a1)] .ptr [] (.pv ((la.pv false) a0)) (.pv ((la.pv false) r.2)) (B r.1):=by
 obtain⟨h,cs⟩:=Ro_ h
 unfold slC_6 at h
 refine SHo_ (nt:=9) (rs:=[.tmp 4]) (n:=100000) 0 Try.func29 rfl rfl rfl rfl rfl (a7 rfl) (by decide) (by first | exact a7 rfl | exact SC) (S ?_)
 obtain⟨v7,hv7,h⟩:=rb_ h
 refine aW (r:=0) (hc:=.cv (.pv ((la.pv false) a0))) 0 [] [_] [] [(.pv (I a1))] [false] (slC_3 hv7) rfl rfl rfl SC (S ?_)
 cases rs_ h
 exact RetHB.l SC

theorem slC_10{a0:la}{a1:List ByteArray}  {r:ByteArray×la}(h:slC_7 a0 a1=some r):SatH ah 20 [] [(.sl false 1 (a1.map Sx))] .ptr [] (.pv ((la.pv false) a0)) (.pv ((la.pv false) r.2)) (Sx r.1):=by
 obtain⟨h,cs⟩:=Ro_ h
 unfold slC_7 at h
 refine SHo_ (nt:=12) (rs:=[.tmp 4]) (n:=100000) 0 Try.func20 rfl rfl rfl rfl rfl (a7 rfl) (by decide) (by first | exact a7 rfl | exact SC) (S ?_)
 obtain⟨v9,hv9,h⟩:=rb_ h
 refine aW (r:=0) (hc:=.cv (.pv ((la.pv false) a0))) 0 [] [_] [] [(.pv (I (a1.length:Int)))] [false] (slC_3 hv9) rfl rfl rfl SC (S ?_)
 obtain⟨v10,hv10,h⟩:=rb_ h
 refine az (f:=Sx) hv10 SC (S ?_)
 cases rs_ h
 exact RetHB.l SC

theorem slC_4{a0:la}  {r:Lt×la}(h:slC_ a0=some r):SatH ah 13 [] [] .ptr [] (.pv ((la.pv false) a0)) (.pv ((la.pv false) r.2)) ((am true) r.1):=by
 obtain⟨h,cs⟩:=Ro_ h
 unfold slC_ at h
 refine SHo_ (nt:=65) (rs:=[.cell 2 27]) (n:=100000) 0 Try.func13 rfl rfl rfl rfl rfl (a7 rfl) (by decide) (by first | exact a7 rfl | exact SC) (S ?_)
 obtain⟨v8,hv8,h⟩:=rb_ h
 refine aW (r:=0) (hc:=.cv (.pv ((la.pv false) a0))) (pre:=[]) (post:=[(.sl true 1 (([(0:Int),(1:Int),(7:Int),(90000:Int)]).map I))]) 0 [] [_] [] [(.own 112)] [true] (SatH.give [true] (slC_8 hv8) (by first | rfl | simp only[gv_t,gv_f,gv_n,vs_,va_,vl_,vI_,vS_,vrB_,vrI_,aq,bc,List.cons_append]) rfl) rfl rfl rfl SC (S ?_)
 replace h:=rl_ h
 refine Mg.forN h (fun i4 s4=>[(0,.box (.pv ((la.pv false) s4.1))),(2,.box (.node [(.pv (.sl true 1 [])),(.pv (.sl true 1 [])),(.pv (I 0))])),(3,.box (.node [(.own 9312),(.own 9313),(.pv (I v8.1))])),(4,.val (.own 160)),(5,.val (.pv (I (i4:Int)))),(20000,gh 0)]) (fun i4 s4=>[(9312,(1,s4.2.1.map Sx)),(9313,(1,s4.2.2.map I)),(160,(1,([(⟨#[88]⟩:ByteArray),(⟨#[89]⟩:ByteArray),(⟨#[90]⟩:ByteArray)]).map Sx))]) (aO (Sln_ (x:=(.node [(.pv (.sl true 1 [])),(.pv (.sl true 1 [])),(.pv (I v8.1))])) 3 [0] 9312 1 NM SC SC SC) (aO (Sln_ (x:=(.node [(.own 9312),(.pv (.sl true 1 [])),(.pv (I v8.1))])) 3 [1] 9313 1 NM SC SC SC) (Slm_ SC))) (fun i4 s4 hi h=>?_) (fun s4 h=>?_)
 ·have w:=ws_ (i:=i4) (by omega)
  refine S ?_
  refine aR cs (by omega) (fun cs=>S ?_)
  obtain⟨v16,hv16,h⟩:=rb_ h
  refine aW (r:=0) (hc:=.cv (.pv ((la.pv false) s4.1))) 0 [] [_] [] [(.pv (I 2))] [false] (slC_11 hv16) rfl rfl rfl SC (S ?_)
  refine ak cs h (fun cs h=>S ?_) (fun cs h=>S ?_)
  ·obtain⟨v21,hv21,h⟩:=rb_ h
   refine az (f:=Sx) hv21 SC (S ?_)
   obtain⟨v22,hv22,h⟩:=rb_ h
   refine EldH.mk (f:=Sx) hv22 rfl SC (S ?_)
   obtain⟨v24,hv24,h⟩:=rb_ h
   refine AppH.mk (f:=Sx) (fun _=>rfl) hv24 SC SC (S ?_)
   refine aa (DHa_ [] [368,384]) (S ?_)
   obtain⟨v30,hv30,h⟩:=rb_ h
   refine aW (r:=0) (hc:=.cv (.pv ((la.pv false) v16.2))) (pre:=[]) (post:=[(.sl true 1 (([(1:Int),(2:Int),(3:Int),(30:Int),(1000:Int)]).map I))]) 0 [] [_] [] [(.own 464)] [true] (SatH.give [true] (slC_8 hv30) (by first | rfl | simp only[gv_t,gv_f,gv_n,vs_,va_,vl_,vI_,vS_,vrB_,vrI_,aq,bc,List.cons_append]) rfl) rfl rfl rfl SC (S ?_)
   obtain⟨v32,hv32,h⟩:=rb_ h
   refine AppH.mk (f:=I) (fun _=>rfl) hv32 SC SC (S ?_)
   refine aa (DHa_ [] [464,496,512]) (S ?_)
   have h:=rs_ h
   refine aE ⟨_,h,?_⟩
   refine aO (Slm_1 (S:=[(0,.box (.pv ((la.pv false) v30.2))),(2,.box (.node [(.pv (.sl true 1 [])),(.pv (.sl true 1 [])),(.pv (I 0))])),(3,.box (.node [(.own 384),(.own 512),(.pv (I v8.1))])),(4,.val (.own 160)),(5,.val (.pv (I (IntKind.i64.wrap ((i4:Int)+1))))),(20000,gh 0)]) (O:=[(384,(1,v24.map Sx)),(512,(1,v32.map I)),(160,(1,([(⟨#[88]⟩:ByteArray),(⟨#[89]⟩:ByteArray),(⟨#[90]⟩:ByteArray)]).map Sx))]) SW SW) ?_
   refine Slr_ 384 9312 (by decide) NM ?_
   refine aO (Slm_1 (S:=[(0,.box (.pv ((la.pv false) v30.2))),(2,.box (.node [(.pv (.sl true 1 [])),(.pv (.sl true 1 [])),(.pv (I 0))])),(3,.box (.node [(.own 9312),(.own 512),(.pv (I v8.1))])),(4,.val (.own 160)),(5,.val (.pv (I (IntKind.i64.wrap ((i4:Int)+1))))),(20000,gh 0)]) (O:=[(9312,(1,v24.map Sx)),(512,(1,v32.map I)),(160,(1,([(⟨#[88]⟩:ByteArray),(⟨#[89]⟩:ByteArray),(⟨#[90]⟩:ByteArray)]).map Sx))]) SW SW) ?_
   refine Slr_ 512 9313 (by decide) NM ?_
   exact Slm_ SW
  ·have h:=rs_ h
   refine aE ⟨_,h,?_⟩
   exact Slm_ SW
 ·refine S ?_
  refine aS cs (by omega) (fun cs=>S ?_)
  obtain⟨v35,hv35,h⟩:=rb_ h
  refine aW (r:=0) (hc:=.cv (.pv ((la.pv false) s4.1))) 0 [] [_] [] [(.pv (I 30))] [false] (slC_3 hv35) rfl rfl rfl SC (S ?_)
  refine ak cs h (fun cs h=>S ?_) (fun cs h=>S ?_)
  ·obtain⟨v42,hv42,h⟩:=rb_ h
   refine aW (r:=0) (hc:=.cv (.pv ((la.pv false) v35.2))) (pre:=[]) (post:=[(.sl true 1 (([(⟨#[65]⟩:ByteArray),(⟨#[97]⟩:ByteArray),(⟨#[90,49]⟩:ByteArray)]).map Sx))]) 0 [] [_] [] [(.own 656)] [true] (SatH.give [true] (slC_10 hv42) (by first | rfl | simp only[gv_t,gv_f,gv_n,vs_,va_,vl_,vI_,vS_,vrB_,vrI_,aq,bc,List.cons_append]) rfl) rfl rfl rfl SC (S ?_)
   obtain⟨v44,hv44,h⟩:=rb_ h
   refine AppH.mk (f:=Sx) (fun _=>rfl) hv44 SC SC (S ?_)
   refine aa (DHa_ [] [656,688,704]) (S ?_)
   obtain⟨v49,hv49,h⟩:=rb_ h
   refine AppH.mk (f:=I) (fun _=>rfl) hv49 SC SC (S ?_)
   cases rs_ h
   exact RetHB.l SC
  ·refine ak cs h (fun cs h=>S ?_) (fun cs h=>S ?_)
   ·obtain⟨v55,hv55,h⟩:=rb_ h
    refine aW (r:=0) (hc:=.cv (.pv ((la.pv false) v35.2))) (pre:=[]) (post:=[(.sl true 1 (([(-1:Int),(100001:Int)]).map I))]) 0 [] [_] [] [(.own 864)] [true] (SatH.give [true] (slC_8 hv55) (by first | rfl | simp only[gv_t,gv_f,gv_n,vs_,va_,vl_,vI_,vS_,vrB_,vrI_,aq,bc,List.cons_append]) rfl) rfl rfl rfl SC (S ?_)
    cases rs_ h
    exact RetHB.l SC
   ·refine ak cs h (fun cs h=>S ?_) (fun cs h=>S ?_)
    ·obtain⟨v62,hv62,h⟩:=rb_ h
     refine AppH.mk (f:=I) (fun _=>rfl) hv62 SC SC (S ?_)
     cases rs_ h
     exact RetHB.l SC
    ·cases rs_ h
     exact RetHB.l SC

theorem sDJ_1{a0:List Int}  {r:Lt×Lt}(h:sDJ_ a0=some r):Sat ah 5 [(.sl false 1 (a0.map (Ik .u8)))] (.tup [((am true) r.1),((am true) r.2)]):=by
 obtain⟨h,cs⟩:=Ro_ h
 unfold sDJ_ at h
 refine aG (nt:=14) (rs:=[.cell 2 27,.cell 3 27]) (n:=100000) Try.func5 rfl rfl rfl rfl (by simp) (S ?_)
 obtain⟨v10,hv10,h⟩:=rb_ h
 refine aW (r:=8) (hc:=.cv (.node [(.pv (.sl false 1 (a0.map (Ik .u8)))),(.pv (I 0)),(.pv ((Ik .u64) (0:Int)))])) 0 [] [] [] [] [] (slC_4 hv10) rfl rfl rfl SC (S ?_)
 obtain⟨v13,hv13,h⟩:=rb_ h
 refine aW (r:=8) (hc:=.cv (.pv ((la.pv false) v10.2))) 0 [] [] [] [] [] (slC_4 hv13) rfl rfl rfl SC (S ?_)
 refine aa (DHa_ [] [208,209]) (S ?_)
 cases rs_ h
 exact al SC

theorem iws_{a0:Int}{a1:Int}{a2:Int}  {r:Bool}(h:iw_ a0 a1 a2=some r):Sat ah 18 [(I a0),(I a1),(I a2)] (B r):=by
 obtain⟨h,cs⟩:=Ro_ h
 unfold iw_ at h
 refine aG (nt:=15) (rs:=[.tmp 6]) (n:=100000) Try.func18 rfl rfl rfl rfl (by simp) (S ?_)
 refine ak cs h (fun cs h=>S ?_) (fun cs h=>S ?_)
 ·cases rs_ h
  exact al SC
 ·cases rs_ h
  exact al SC

theorem iiU_1{a0:Int}  {r:Bool}(h:iiU_ a0=some r):Sat ah 34 [((Ik .u8) a0)] (B r):=by
 obtain⟨h,cs⟩:=Ro_ h
 unfold iiU_ at h
 refine aG (nt:=9) (rs:=[.tmp 2]) (n:=100000) Try.func34 rfl rfl rfl rfl (by simp) (S ?_)
 refine ak cs h (fun cs h=>S ?_) (fun cs h=>S ?_)
 ·cases rs_ h
  exact al SC
 ·cases rs_ h
  exact al SC

theorem iiL_1{a0:Int}  {r:Bool}(h:iiL_ a0=some r):Sat ah 35 [((Ik .u8) a0)] (B r):=by
 obtain⟨h,cs⟩:=Ro_ h
 unfold iiL_ at h
 refine aG (nt:=9) (rs:=[.tmp 2]) (n:=100000) Try.func35 rfl rfl rfl rfl (by simp) (S ?_)
 refine ak cs h (fun cs h=>S ?_) (fun cs h=>S ?_)
 ·cases rs_ h
  exact al SC
 ·cases rs_ h
  exact al SC

theorem iiD_1{a0:Int}  {r:Bool}(h:iiD_ a0=some r):Sat ah 36 [((Ik .u8) a0)] (B r):=by
 obtain⟨h,cs⟩:=Ro_ h
 unfold iiD_ at h
 refine aG (nt:=9) (rs:=[.tmp 2]) (n:=100000) Try.func36 rfl rfl rfl rfl (by simp) (S ?_)
 refine ak cs h (fun cs h=>S ?_) (fun cs h=>S ?_)
 ·cases rs_ h
  exact al SC
 ·cases rs_ h
  exact al SC

theorem iiV_1{a0:ByteArray}  {r:Bool}(h:iiV_ a0=some r):Sat ah 19 [(Sx a0)] (B r):=by
 obtain⟨h,cs⟩:=Ro_ h
 unfold iiV_ at h
 refine aG (nt:=40) (rs:=[.tmp 2]) (n:=100000) Try.func19 rfl rfl rfl rfl (by simp) (S ?_)
 obtain⟨N2,hN2,h⟩:=rb_ h
 obtain⟨hN2a,hN2b⟩:=bs_ hN2
 replace h:=rl_ h
 refine Mg.forN h (fun i2 s2=>[(0,.val (.pv (Sx a0))),(5,.val (.pv (I (a0.size:Int)))),(6,.val (.pv (I (i2:Int))))]) (fun i2 s2=>[]) (Slm_ SC) (fun i2 s2 hi h=>?_) (fun s2 h=>?_)
 ·have w:=ws_ (i:=i2) (by omega)
  refine S ?_
  refine aR cs (by omega) (fun cs=>S ?_)
  refine ak cs h (fun cs h=>S ?_) (fun cs h=>S ?_)
  ·obtain⟨v14,hv14,h⟩:=rb_ h
   refine SidxH.mk hv14 (S ?_)
   obtain⟨v15,hv15,h⟩:=rb_ h
   refine ap [false] (iiU_1 hv15) SC (S ?_)
   refine ak cs h (fun cs h=>S ?_) (fun cs h=>S ?_)
   ·refine ak cs h (fun cs h=>S ?_) (fun cs h=>S ?_)
    ·obtain⟨v24,hv24,h⟩:=rb_ h
     refine SidxH.mk hv24 (S ?_)
     obtain⟨v25,hv25,h⟩:=rb_ h
     refine ap [false] (iiL_1 hv25) SC (S ?_)
     refine ak cs h (fun cs h=>S ?_) (fun cs h=>S ?_)
     ·have h:=rs_ h
      refine aE ⟨_,h,?_⟩
      exact Slm_ SW
     ·obtain⟨v31,hv31,h⟩:=rb_ h
      refine SidxH.mk hv31 (S ?_)
      obtain⟨v32,hv32,h⟩:=rb_ h
      refine ap [false] (iiD_1 hv32) SC (S ?_)
      refine ak cs h (fun cs h=>S ?_) (fun cs h=>S ?_)
      ·have h:=rs_ h
       refine aE ⟨_,h,?_⟩
       exact Slm_ SW
      ·cases rs_ h
       exact al SC
    ·have h:=rs_ h
     refine aE ⟨_,h,?_⟩
     exact Slm_ SW
   ·cases rs_ h
    exact al SC
  ·refine ak cs h (fun cs h=>S ?_) (fun cs h=>S ?_)
   ·obtain⟨v24,hv24,h⟩:=rb_ h
    refine SidxH.mk hv24 (S ?_)
    obtain⟨v25,hv25,h⟩:=rb_ h
    refine ap [false] (iiL_1 hv25) SC (S ?_)
    refine ak cs h (fun cs h=>S ?_) (fun cs h=>S ?_)
    ·have h:=rs_ h
     refine aE ⟨_,h,?_⟩
     exact Slm_ SW
    ·obtain⟨v31,hv31,h⟩:=rb_ h
     refine SidxH.mk hv31 (S ?_)
     obtain⟨v32,hv32,h⟩:=rb_ h
     refine ap [false] (iiD_1 hv32) SC (S ?_)
     refine ak cs h (fun cs h=>S ?_) (fun cs h=>S ?_)
     ·have h:=rs_ h
      refine aE ⟨_,h,?_⟩
      exact Slm_ SW
     ·cases rs_ h
      exact al SC
   ·have h:=rs_ h
    refine aE ⟨_,h,?_⟩
    exact Slm_ SW
 ·refine S ?_
  refine aS cs (by omega) (fun cs=>S ?_)
  obtain⟨v39,hv39,h⟩:=rb_ h
  refine ap [false,false,false] (iws_ hv39) SC (S ?_)
  cases rs_ h
  exact al SC

theorem iIV_1{a0:Lt}  {r:Bool}(h:iIV_ a0=some r):Sat ah 9 [((am false) a0)] (B r):=by
 obtain⟨h,cs⟩:=Ro_ h
 unfold iIV_ at h
 refine aG (nt:=59) (rs:=[.tmp 2]) (n:=100000) Try.func9 rfl rfl rfl rfl (by simp) (S ?_)
 refine ak cs h (fun cs h=>S ?_) (fun cs h=>S ?_)
 ·cases rs_ h
  exact al SC
 ·refine ak cs h (fun cs h=>S ?_) (fun cs h=>S ?_)
  ·obtain⟨v21,hv21,h⟩:=rb_ h
   refine ap [false,false,false] (iws_ hv21) SC (S ?_)
   refine ak cs h (fun cs h=>S ?_) (fun cs h=>S ?_)
   ·refine Mg.know_sl (b:=false) (sz:=1) (es:=a0.Vars.map Sx) 6 SC fun hl6=>?_; rw[aB] at hl6
    replace h:=rl_ h
    refine Mg.forN h (fun i4 s4=>[(1,.box (.pv ((am false) a0))),(25,.val (.pv (.sl false 1 (a0.Vars.map Sx)))),(26,.val (.pv (I (a0.Vars.length:Int)))),(27,.val (.pv (I (i4:Int))))]) (fun i4 s4=>[]) (Slm_ SC) (fun i4 s4 hi h=>?_) (fun s4 h=>?_)
    ·have w:=ws_ (i:=i4) (by omega)
     refine S ?_
     refine aR cs (by omega) (fun cs=>S ?_)
     obtain⟨v30,hv30,h⟩:=rb_ h
     refine az (f:=Sx) hv30 SC (S ?_)
     obtain⟨v33,hv33,h⟩:=rb_ h
     refine ap [false] (iiV_1 hv33) SC (S ?_)
     refine ak cs h (fun cs h=>S ?_) (fun cs h=>S ?_)
     ·refine ak cs h (fun cs h=>S ?_) (fun cs h=>S ?_)
      ·obtain⟨v44,hv44,h⟩:=rb_ h
       refine az (f:=Sx) hv44 SC (S ?_)
       refine ak cs h (fun cs h=>S ?_) (fun cs h=>S ?_)
       ·cases rs_ h
        exact al SC
       ·obtain⟨v53,hv53,h⟩:=rb_ h
        refine az (f:=I) hv53 SC (S ?_)
        obtain⟨v55,hv55,h⟩:=rb_ h
        refine ap [false,false,false] (iws_ hv55) SC (S ?_)
        refine ak cs h (fun cs h=>S ?_) (fun cs h=>S ?_)
        ·have h:=rs_ h
         refine aE ⟨_,h,?_⟩
         exact Slm_ SW
        ·cases rs_ h
         exact al SC
      ·obtain⟨v53,hv53,h⟩:=rb_ h
       refine az (f:=I) hv53 SC (S ?_)
       obtain⟨v55,hv55,h⟩:=rb_ h
       refine ap [false,false,false] (iws_ hv55) SC (S ?_)
       refine ak cs h (fun cs h=>S ?_) (fun cs h=>S ?_)
       ·have h:=rs_ h
        refine aE ⟨_,h,?_⟩
        exact Slm_ SW
       ·cases rs_ h
        exact al SC
     ·cases rs_ h
      exact al SC
    ·refine S ?_
     refine aS cs (by omega) (fun cs=>S ?_)
     cases rs_ h
     exact al SC
   ·cases rs_ h
    exact al SC
  ·cases rs_ h
   exact al SC


theorem ilR_1{a0:GMap Int}{a1:Int}{r:Lt×Bool}(h:∀ ord,ord.Perm a0.es→ilR_ ord a0 a1=some r):SatH ah 24 [] [(I a1)] .mp [] (.mp (gmap I a0.es) a0.clock) (.mp (gmap I a0.es) a0.clock) (.tup [((am true) r.1),(B r.2)]):=by
 have cs:Dum=true:=rfl
 replace h:=fun ord ho=>Run.of (h ord ho)
 simp only[ilR_] at h
 refine SHo_1 (nt:=52) (rs:=[.cell 4 27,.tmp 5]) (n:=100000) 0 Try.func24 rfl rfl rfl rfl rfl (a7 rfl) (by decide) (by first | exact a7 rfl | exact SC) (S ?_)
 refine au (S ?_)
 refine au (S ?_)
 refine VSeq.nil (Nat.le_of_eq rfl) (S ?_)
 refine au (S ?_)
 refine au (S ?_)
 refine au (S ?_)
 refine au (S ?_)
 refine VSeq.nil (Nat.le_of_eq rfl) (S ?_)
 refine au (S ?_)
 refine au (S ?_)
 refine HandH.range (E:=3) (r:=0) (sh:=.mp) (ps:=[]) (m:=a0) (f:=I) mt_48 SC (S ?_)
 refine VSeq.nil (Nat.le_of_eq rfl) (S ?_)
 replace h:=fun ord ho=>rl_ (h ord ho)
 refine MgI.range (fun e=>e.2.2) h (fun pre3 s3=>[(0,.hold .mp [] (.mp (gmap I (a0).es) (a0).clock)),(4,.box (.node [(.pv (.sl true 1 [])),(.pv (.sl true 1 [])),(.pv (I 0))])),(6,.box (.node [(.own 9309),(.pv (.sl true 1 [])),(.pv (I a1))])),(14,.hold .ptr [] (.it 0 (a0).clock (pre3.map fun e=>e.2.2) (a0).clock)),(20000,gh 0)]) (fun pre3 s3=>[(9309,(1,s3.map Sx))]) (aO (Sln_ (x:=(.node [(.pv (.sl true 1 [])),(.pv (.sl true 1 [])),(.pv (I a1))])) 6 [0] 9309 1 NM SC SC SC) (Slm_ SC)) (fun pre3 s3 hI3=>?_)
 refine S ?_
 refine VSeq.next (r:=0) (kt:=14) (m:=a0) (f:=I) (seen:=pre3.map fun e=>e.2.2) (sh:=.mp) (ps:=[]) rfl rfl rfl rfl (by decide) (by decide) rfl SC (fun hd3 ha3=>?_) (fun e3 he3 hn3=>?_)
 ·replace h:=RngI.done hI3 hd3 ha3
  refine au (S ?_)
  refine VSeq.nil (Nat.le_of_eq rfl) (S ?_)
  refine au (S ?_)
  refine au (S ?_)
  refine au (S ?_)
  obtain⟨v30,hv30,h⟩:=rb_ h
  refine CHi_ [(.own 9309)] [(9309,(1,v30.2.map Sx))] (sSS_1 hv30) SC (S ?_)
  refine VSeq.nil (Nat.le_of_eq rfl) (S ?_)
  refine au (S ?_)
  refine au (S ?_)
  refine au (S ?_)
  refine au (S ?_)
  refine VSeq.nil (Nat.le_of_eq rfl) (S ?_)
  refine MgI.know_own (sz:=1) (es:=v30.2.map Sx) 9309 SC fun hl9309=>?_; rw[aB] at hl9309
  replace h:=rl_ h
  refine MgI.forN h (fun i9 s9=>[(0,.hold .mp [] (.mp (gmap I (a0).es) (a0).clock)),(4,.box (.node [(.pv (.sl true 1 [])),(.pv (.sl true 1 [])),(.pv (I 0))])),(6,.box (.node [(.own 9309),(.own 9327),(.pv (I a1))])),(32,.val (.own 9309)),(33,.val (.pv (I (v30.2.length:Int)))),(34,.val (.pv (I (i9:Int)))),(20000,gh 0)]) (fun i9 s9=>[(9309,(1,v30.2.map Sx)),(9327,(1,s9.map I))]) (aO (Sln_ (x:=(.node [(.own 9309),(.pv (.sl true 1 [])),(.pv (I a1))])) 6 [1] 9327 1 NM SC SC SC) (Slm_ SC)) (fun i9 s9 hi h=>?_) (fun s9 h=>?_)
  ·have w:=ws_ (i:=i9) (by omega)
   refine S ?_
   refine au (S ?_)
   refine VSeq.nil (Nat.le_of_eq rfl) (S ?_)
   refine aR cs (by omega) (fun cs=>S ?_)
   refine au (S ?_)
   obtain⟨v36,hv36,h⟩:=rb_ h
   refine az (f:=Sx) hv36 SC (S ?_)
   refine au (S ?_)
   obtain⟨v37,hv37,h⟩:=rb_ h
   refine EldH.mk (f:=Sx) hv37 rfl SC (S ?_)
   refine au (S ?_)
   refine VSeq.nil (Nat.le_of_eq rfl) (S ?_)
   refine au (S ?_)
   refine au (S ?_)
   refine au (S ?_)
   refine au (S ?_)
   refine au (S ?_)
   refine HandH.lookup (E:=3) (r:=0) (sh:=.mp) (ps:=[]) (m:=a0) (f:=I) (k:=v37) (z0:=0) mt_48 mz_3 SC (S ?_)
   refine au (S ?_)
   refine au (S ?_)
   obtain⟨v44,hv44,h⟩:=rb_ h
   refine AppH.mk (f:=I) (fun _=>rfl) hv44 SC SC (S ?_)
   refine au (S ?_)
   refine au (S ?_)
   refine VSeq.nil (Nat.le_of_eq rfl) (S ?_)
   refine au (S ?_)
   refine au (S ?_)
   refine VSeq.nil (Nat.le_of_eq rfl) (S ?_)
   have h:=rs_ h
   refine aE ⟨_,h,?_⟩
   refine aO (Slm_1 (S:=[(0,.hold .mp [] (.mp (gmap I (a0).es) (a0).clock)),(4,.box (.node [(.pv (.sl true 1 [])),(.pv (.sl true 1 [])),(.pv (I 0))])),(6,.box (.node [(.own 9309),(.own 704),(.pv (I a1))])),(32,.val (.own 9309)),(33,.val (.pv (I (v30.2.length:Int)))),(34,.val (.pv (I (IntKind.i64.wrap ((i9:Int)+1))))),(20000,gh 0)]) (O:=[(9309,(1,v30.2.map Sx)),(704,(1,v44.map I))]) SW SW) ?_
   refine Slr_ 704 9327 (by decide) NM ?_
   exact Slm_ SW
  ·refine S ?_
   refine au (S ?_)
   refine VSeq.nil (Nat.le_of_eq rfl) (S ?_)
   refine aS cs (by omega) (fun cs=>S ?_)
   refine au (S ?_)
   refine au (S ?_)
   obtain⟨v48,hv48,h⟩:=rb_ h
   refine ap [false] (iIV_1 hv48) SC (S ?_)
   refine au (S ?_)
   refine VSeq.nil (Nat.le_of_eq rfl) (S ?_)
   refine ak cs h (fun cs h=>S ?_) (fun cs h=>S ?_)
   ·refine au (S ?_)
    refine au (S ?_)
    refine au (S ?_)
    refine VSeq.nil (Nat.le_of_eq rfl) (S ?_)
    cases rs_ h
    exact RetHB.l SC
   ·refine au (S ?_)
    refine au (S ?_)
    refine au (S ?_)
    refine VSeq.nil (Nat.le_of_eq rfl) (S ?_)
    cases rs_ h
    exact RetHB.l SC
 ·replace h:=RngI.pick (key:=fun e=>e.2.2) hI3 he3 hn3
  refine au (S ?_)
  refine VSeq.nil (Nat.le_of_eq rfl) (S ?_)
  refine au (S ?_)
  refine HandH.entry (kt:=14) (r:=0) (sh:=.mp) (ps:=[]) (m:=a0) (f:=I) (e:=e3) (s0:=pre3.map fun e=>e.2.2) he3 SC (S ?_)
  refine au (S ?_)
  refine au (S ?_)
  refine au (S ?_)
  refine au (S ?_)
  refine VSeq.nil (Nat.le_of_eq rfl) (S ?_)
  refine au (S ?_)
  refine au (S ?_)
  refine VSeq.nil (Nat.le_of_eq rfl) (S ?_)
  refine ak cs h (fun cs h=>S ?_) (fun cs h=>S ?_)
  ·have h:=rs_ h
   refine aE ⟨_,e3,he3,hn3,h,?_⟩
   exact Slm_ SC
  ·refine au (S ?_)
   refine au (S ?_)
   refine au (S ?_)
   refine au (S ?_)
   refine au (S ?_)
   obtain⟨v26,hv26,h⟩:=rb_ h
   refine AppH.mk (f:=Sx) (fun _=>rfl) hv26 SC SC (S ?_)
   refine au (S ?_)
   refine au (S ?_)
   refine VSeq.nil (Nat.le_of_eq rfl) (S ?_)
   have h:=rs_ h
   refine aE ⟨_,e3,he3,hn3,h,?_⟩
   refine aO (Slm_1 (S:=[(0,.hold .mp [] (.mp (gmap I (a0).es) (a0).clock)),(4,.box (.node [(.pv (.sl true 1 [])),(.pv (.sl true 1 [])),(.pv (I 0))])),(6,.box (.node [(.own 416),(.pv (.sl true 1 [])),(.pv (I a1))])),(14,.hold .ptr [] (.it 0 (a0).clock ((pre3.map fun e=>e.2.2)++[e3.2.2]) (a0).clock)),(20000,gh 0)]) (O:=[(416,(1,v26.map Sx))]) SC SC) ?_
   refine Slr_ 416 9309 (by decide) NM ?_
   exact Slm_ SC
theorem ils_{a0:GMap Int}{a1:Int}{r:Lt×Bool}(h:il_ a0 a1=some r):SatH ah 24 [] [(I a1)] .mp [] (.mp (gmap I a0.es) a0.clock) (.mp (gmap I a0.es) a0.clock) (.tup [((am true) r.1),(B r.2)]):=ilR_1 fun ord ho=>lo_1 ho h

theorem ijs_{a0:Lt}{a1:Lt}  {r:Lt×Bool}(h:ij_ a0 a1=some r):Sat ah 14 [((am false) a0),((am false) a1)] (.tup [((am true) r.1),(B r.2)]):=by
 obtain⟨h,cs⟩:=Ro_ h
 unfold ij_ at h
 refine aG (nt:=50) (rs:=[.cell 4 27,.tmp 5]) (n:=100000) Try.func14 rfl rfl rfl rfl (by simp) (S ?_)
 refine HandH.makeMap (α:=Int) I (by decide) (S ?_)
 refine Mg.know_own (sz:=3) (es:=([a0,a1]).map (am false)) 224 SC fun hl224=>?_; rw[aB] at hl224
 replace h:=rl_ h
 refine Mg.forN h (fun i3 s3=>[(2,.box (.pv ((am false) a0))),(3,.box (.pv ((am false) a1))),(4,.box (.node [(.pv (.sl true 1 [])),(.pv (.sl true 1 [])),(.pv (I 0))])),(6,.hptr 11 .mp []),(11,.hold .mp [] (.mp (gmap I (s3).es) (s3).clock)),(14,.val (.own 224)),(15,.val (.pv (I (([a0,a1]).length:Int)))),(16,.val (.pv (I (i3:Int))))]) (fun i3 s3=>[(224,(3,([a0,a1]).map (am false)))]) (Slm_ SC) (fun i3 s3 hi h=>?_) (fun s3 h=>?_)
 ·have w:=ws_ (i:=i3) (by omega)
  refine S ?_
  refine aR cs (by first | omega | (simp only[List.length_cons,List.length_nil] at*; omega)) (fun cs=>S ?_)
  obtain⟨v18,hv18,h⟩:=rb_ h
  refine az (f:=(am false)) hv18 SC (S ?_)
  obtain⟨v19,hv19,h⟩:=rb_ h
  refine EldH.mk (f:=(am false)) hv19 rfl SC (S ?_)
  refine Mg.know_sl (b:=false) (sz:=1) (es:=v19.Vars.map Sx) 21 SC fun hl21=>?_; rw[aB] at hl21
  replace h:=rl_ h
  refine Mg.forN h (fun i6 s6=>[(2,.box (.pv ((am false) a0))),(3,.box (.pv ((am false) a1))),(4,.box (.node [(.pv (.sl true 1 [])),(.pv (.sl true 1 [])),(.pv (I 0))])),(6,.hptr 11 .mp []),(8,.box (.pv ((am false) v19))),(11,.hold .mp [] (.mp (gmap I (s6).es) (s6).clock)),(14,.val (.own 224)),(15,.val (.pv (I (([a0,a1]).length:Int)))),(16,.val (.pv (I (i3:Int)))),(21,.val (.pv (.sl false 1 (v19.Vars.map Sx)))),(22,.val (.pv (I (v19.Vars.length:Int)))),(23,.val (.pv (I (i6:Int))))]) (fun i6 s6=>[(224,(3,([a0,a1]).map (am false)))]) (Slm_ SC) (fun i6 s6 hi h=>?_) (fun s6 h=>?_)
  ·have w:=ws_ (i:=i6) (by omega)
   refine S ?_
   refine aR cs (by omega) (fun cs=>S ?_)
   obtain⟨v26,hv26,h⟩:=rb_ h
   refine az (f:=Sx) hv26 SC (S ?_)
   refine HandH.lookup (E:=3) (r:=11) (sh:=.mp) (ps:=[]) (m:=s6) (f:=I) (k:=v26) (z0:=0) mt_48 mz_3 SC (S ?_)
   obtain⟨v36,hv36,h⟩:=rb_ h
   refine az (f:=I) hv36 SC (S ?_)
   refine HandH.put (E:=3) (r:=11) (sh:=.mp) (ps:=[]) (m:=s6) (f:=I) (k:=v26) (v0:=max (GMap.get s6 v26 (0:Int)) v36) (c:=(.pv (I (max (GMap.get s6 v26 (0:Int)) v36)))) mt_48 SC (S ?_)
   refine aa (DHa_ [] []) (S ?_)
   have h:=rs_ h
   refine aE ⟨_,h,?_⟩
   exact Slm_ SW
  ·refine S ?_
   refine aS cs (by omega) (fun cs=>S ?_)
   have h:=rs_ h
   refine aE ⟨_,h,?_⟩
   exact Slm_ SW
 ·refine S ?_
  refine aS cs (by first | omega | (simp only[List.length_cons,List.length_nil] at*; omega)) (fun cs=>S ?_)
  obtain⟨v47,hv47,h⟩:=rb_ h
  refine aW (r:=11) (hc:=.mp (gmap I (s3).es) (s3).clock) 0 [] [_] [] [(.pv (I (max a0.Constant a1.Constant)))] [false] (ils_ hv47) rfl rfl rfl SC (S ?_)
  cases rs_ h
  exact al SC

theorem iJL_1{a0:Lt}{a1:Lt}  {r:Lt×Bool}(h:iJL_ a0 a1=some r):Sat ah 6 [((am false) a0),((am false) a1)] (.tup [((am true) r.1),(B r.2)]):=by
 obtain⟨h,cs⟩:=Ro_ h
 unfold iJL_ at h
 refine aG (nt:=20) (rs:=[.cell 4 27,.tmp 5]) (n:=100000) Try.func6 rfl rfl rfl rfl (by simp) (S ?_)
 obtain⟨v7,hv7,h⟩:=rb_ h
 refine ap [false] (iIV_1 hv7) SC (S ?_)
 refine ak cs h (fun cs h=>S ?_) (fun cs h=>S ?_)
 ·obtain⟨v11,hv11,h⟩:=rb_ h
  refine ap [false] (iIV_1 hv11) SC (S ?_)
  refine ak cs h (fun cs h=>S ?_) (fun cs h=>S ?_)
  ·obtain⟨v17,hv17,h⟩:=rb_ h
   refine ap [false,false] (ijs_ hv17) SC (S ?_)
   cases rs_ h
   exact al SC
  ·cases rs_ h
   exact al SC
 ·cases rs_ h
  exact al SC

theorem slI_1{a0:Int}{a1:Int}{a2:Int}  {r:Bool}(h:slI_ a0 a1 a2=some r):Sat ah 30 [(I a0),(I a1),(I a2)] (B r):=by
 obtain⟨h,cs⟩:=Ro_ h
 unfold slI_ at h
 refine aG (nt:=15) (rs:=[.tmp 6]) (n:=100000) Try.func30 rfl rfl rfl rfl (by simp) (S ?_)
 refine ak cs h (fun cs h=>S ?_) (fun cs h=>S ?_)
 ·cases rs_ h
  exact al SC
 ·cases rs_ h
  exact al SC

theorem slS_3{a0:Int}  {r:Bool}(h:slS_2 a0=some r):Sat ah 40 [((Ik .u8) a0)] (B r):=by
 obtain⟨h,cs⟩:=Ro_ h
 unfold slS_2 at h
 refine aG (nt:=17) (rs:=[.tmp 2]) (n:=100000) Try.func40 rfl rfl rfl rfl (by simp) (S ?_)
 refine ak cs h (fun cs h=>S ?_) (fun cs h=>S ?_)
 ·refine ak cs h (fun cs h=>S ?_) (fun cs h=>S ?_)
  ·cases rs_ h
   exact al SC
  ·refine ak cs h (fun cs h=>S ?_) (fun cs h=>S ?_)
   ·cases rs_ h
    exact al SC
   ·cases rs_ h
    exact al SC
 ·refine ak cs h (fun cs h=>S ?_) (fun cs h=>S ?_)
  ·cases rs_ h
   exact al SC
  ·cases rs_ h
   exact al SC

theorem slV_1{a0:ByteArray}  {r:Bool}(h:slV_ a0=some r):Sat ah 25 [(Sx a0)] (B r):=by
 obtain⟨h,cs⟩:=Ro_ h
 unfold slV_ at h
 refine aG (nt:=29) (rs:=[.tmp 2]) (n:=100000) Try.func25 rfl rfl rfl rfl (by simp) (S ?_)
 obtain⟨v6,hv6,h⟩:=rb_ h
 refine ap [false,false,false] (slI_1 hv6) SC (S ?_)
 refine ak cs h (fun cs h=>S ?_) (fun cs h=>S ?_)
 ·obtain⟨v10,hv10,h⟩:=rb_ h
  refine SidxH.mk hv10 (S ?_)
  refine ak cs h (fun cs h=>S ?_) (fun cs h=>S ?_)
  ·cases rs_ h
   exact al SC
  ·obtain⟨v15,hv15,h⟩:=rb_ h
   refine SidxH.mk hv15 (S ?_)
   refine ak cs h (fun cs h=>S ?_) (fun cs h=>S ?_)
   ·cases rs_ h
    exact al SC
   ·obtain⟨N4,hN4,h⟩:=rb_ h
    obtain⟨hN4a,hN4b⟩:=bs_ hN4
    replace h:=rl_ h
    refine MfA_ (N:=N4) (a:=1) h (fun i4 s4=>[(0,.val (.pv (Sx a0))),(3,.val (.pv (I (i4:Int))))]) (fun i4 s4=>[]) (Slm_ SC) (fun i4 s4 hi hj h=>?_) (fun j4 s4 hj h=>?_)
    ·have w:=ws_ (i:=i4) (by omega)
     refine S ?_
     refine aR cs (by omega) (fun cs=>S ?_)
     obtain⟨v26,hv26,h⟩:=rb_ h
     refine SidxH.mk hv26 (S ?_)
     obtain⟨v27,hv27,h⟩:=rb_ h
     refine ap [false] (slS_3 hv27) SC (S ?_)
     refine ak cs h (fun cs h=>S ?_) (fun cs h=>S ?_)
     ·have h:=rs_ h
      refine aE ⟨_,h,?_⟩
      exact Slm_ SW
     ·cases rs_ h
      exact al SC
    ·refine S ?_
     refine aS cs (by omega) (fun cs=>S ?_)
     cases rs_ h
     exact al SC
 ·cases rs_ h
  exact al SC

theorem slL_{a0:Lt}  {r:Bool}(h:slL_1 a0=some r):Sat ah 15 [((am false) a0)] (B r):=by
 obtain⟨h,cs⟩:=Ro_ h
 unfold slL_1 at h
 refine aG (nt:=64) (rs:=[.tmp 2]) (n:=100000) Try.func15 rfl rfl rfl rfl (by simp) (S ?_)
 refine ak cs h (fun cs h=>S ?_) (fun cs h=>S ?_)
 ·cases rs_ h
  exact al SC
 ·refine ak cs h (fun cs h=>S ?_) (fun cs h=>S ?_)
  ·obtain⟨v20,hv20,h⟩:=rb_ h
   refine ap [false,false,false] (slI_1 hv20) SC (S ?_)
   refine ak cs h (fun cs h=>S ?_) (fun cs h=>S ?_)
   ·refine Mg.know_sl (b:=false) (sz:=1) (es:=a0.Vars.map Sx) 5 SC fun hl5=>?_; rw[aB] at hl5
    replace h:=rl_ h
    refine Mg.forN h (fun i4 s4=>[(1,.box (.pv ((am false) a0))),(3,.val (.pv (I (i4:Int))))]) (fun i4 s4=>[]) (Slm_ SC) (fun i4 s4 hi h=>?_) (fun s4 h=>?_)
    ·have w:=ws_ (i:=i4) (by omega)
     refine S ?_
     refine aR cs (by omega) (fun cs=>S ?_)
     obtain⟨v33,hv33,h⟩:=rb_ h
     refine az (f:=Sx) hv33 SC (S ?_)
     obtain⟨v35,hv35,h⟩:=rb_ h
     refine ap [false] (slV_1 hv35) SC (S ?_)
     refine ak cs h (fun cs h=>S ?_) (fun cs h=>S ?_)
     ·obtain⟨v41,hv41,h⟩:=rb_ h
      refine az (f:=I) hv41 SC (S ?_)
      obtain⟨v43,hv43,h⟩:=rb_ h
      refine ap [false,false,false] (slI_1 hv43) SC (S ?_)
      refine ak cs h (fun cs h=>S ?_) (fun cs h=>S ?_)
      ·refine ak cs h (fun cs h=>S ?_) (fun cs h=>S ?_)
       ·obtain⟨v54,hv54,h⟩:=rb_ h
        refine az (f:=Sx) hv54 SC (S ?_)
        obtain⟨v59,hv59,h⟩:=rb_ h
        refine az (f:=Sx) hv59 SC (S ?_)
        refine aa (DHa_ [] []) (S ?_)
        refine ak cs h (fun cs h=>S ?_) (fun cs h=>S ?_)
        ·have h:=rs_ h
         refine aE ⟨_,h,?_⟩
         exact Slm_ SW
        ·cases rs_ h
         exact al SC
       ·refine aa (DHa_ [] []) (S ?_)
        have h:=rs_ h
        refine aE ⟨_,h,?_⟩
        exact Slm_ SW
      ·refine aa (DHa_ [] []) (S ?_)
       cases rs_ h
       exact al SC
     ·refine aa (DHa_ [] []) (S ?_)
      cases rs_ h
      exact al SC
    ·refine S ?_
     refine aS cs (by omega) (fun cs=>S ?_)
     cases rs_ h
     exact al SC
   ·cases rs_ h
    exact al SC
  ·cases rs_ h
   exact al SC

theorem slP_2{a0:List ByteArray}{a1:ByteArray}  {r:List ByteArray}(h:slP_ a0 a1=some r):Sat ah 41 [(.sl false 1 (a0.map Sx)),(Sx a1)] (.sl false 1 (r.map Sx)):=by
 obtain⟨h,cs⟩:=Ro_ h
 unfold slP_ at h
 refine aG (nt:=45) (rs:=[.tmp 4]) (n:=100000) Try.func41 rfl rfl rfl rfl (by simp) (S ?_)
 refine Mg.know_sl (b:=false) (sz:=1) (es:=a0.map Sx) 0 SC fun hl0=>?_; rw[aB] at hl0
 replace h:=rl_ h
 refine Mg.forN h (fun i2 s2=>[(0,.val (.pv (.sl false 1 (a0.map Sx)))),(1,.val (.pv (Sx a1))),(5,.val (.pv (I (i2:Int))))]) (fun i2 s2=>[]) (Slm_ SC) (fun i2 s2 hi h=>?_) (fun s2 h=>?_)
 ·have w:=ws_ (i:=i2) (by omega)
  refine S ?_
  refine aR cs (by omega) (fun cs=>S ?_)
  obtain⟨v13,hv13,h⟩:=rb_ h
  refine az (f:=Sx) hv13 SC (S ?_)
  refine ak cs h (fun cs h=>S ?_) (fun cs h=>S ?_)
  ·have h:=rs_ h
   refine aE ⟨_,h,?_⟩
   exact Slm_ SW
  ·obtain⟨v27,hv27,h⟩:=rb_ h
   refine az (f:=Sx) hv27 SC (S ?_)
   refine ak cs h (fun cs h=>S ?_) (fun cs h=>S ?_)
   ·cases rs_ h
    exact FinH.r SC
   ·obtain⟨v36,hv36,h⟩:=rb_ h
    refine SlcH.mk (f:=Sx) hv36 SC (S ?_)
    obtain⟨v37,hv37,h⟩:=rb_ h
    refine AppH.mk (f:=Sx) (fun _=>rfl) hv37 SC SC (S ?_)
    obtain⟨v40,hv40,h⟩:=rb_ h
    refine AppH.mk (f:=Sx) (fun _=>rfl) hv40 SC SC (S ?_)
    obtain⟨v43,hv43,h⟩:=rb_ h
    refine SlcH.mk (f:=Sx) hv43 SC (S ?_)
    obtain⟨v44,hv44,h⟩:=rb_ h
    refine AppH.mk (f:=Sx) (fun _=>rfl) hv44 SC SC (S ?_)
    refine aa (DHa_ [] [528,592,624,640,704]) (S ?_)
    cases rs_ h
    exact FinH.r SC
 ·refine S ?_
  refine aS cs (by omega) (fun cs=>S ?_)
  obtain⟨v36,hv36,h⟩:=rb_ h
  refine SlcH.mk (f:=Sx) hv36 SC (S ?_)
  obtain⟨v37,hv37,h⟩:=rb_ h
  refine AppH.mk (f:=Sx) (fun _=>rfl) hv37 SC SC (S ?_)
  obtain⟨v40,hv40,h⟩:=rb_ h
  refine AppH.mk (f:=Sx) (fun _=>rfl) hv40 SC SC (S ?_)
  obtain⟨v43,hv43,h⟩:=rb_ h
  refine SlcH.mk (f:=Sx) hv43 SC (S ?_)
  obtain⟨v44,hv44,h⟩:=rb_ h
  refine AppH.mk (f:=Sx) (fun _=>rfl) hv44 SC SC (S ?_)
  refine aa (DHa_ [] [528,592,624,640,704]) (S ?_)
  cases rs_ h
  exact FinH.r SC

theorem slN_2{a0:Lt}{a1:Lt}  {r:List ByteArray}(h:slN_ a0 a1=some r):Sat ah 31 [((am false) a0),((am false) a1)] (.sl false 1 (r.map Sx)):=by
 obtain⟨h,cs⟩:=Ro_ h
 unfold slN_ at h
 refine aG (nt:=38) (rs:=[.tmp 4]) (n:=100000) Try.func31 rfl rfl rfl rfl (by simp) (S ?_)
 refine Mkv_ (b:=false) (sz:=1) (es:=a0.Vars.map Sx) (x:=(.pv ((am false) a0))) 0 [0] SC fun hl0=>?_; rw[aB] at hl0
 replace h:=rl_ h
 refine Mg.forN h (fun i3 s3=>[(2,.box (.pv ((am false) a0))),(3,.box (.pv ((am false) a1))),(5,.val (.pv (.sl false 1 (s3.map Sx)))),(6,.val (.pv (I (i3:Int))))]) (fun i3 s3=>[]) (aO (Sld_ (x:=(.own 128)) (sz:=(1)) (es:=([]).map Sx) 5 [] 128 SC) (Slm_ SC)) (fun i3 s3 hi h=>?_) (fun s3 h=>?_)
 ·have w:=ws_ (i:=i3) (by omega)
  refine S ?_
  refine aR cs (by omega) (fun cs=>S ?_)
  obtain⟨v20,hv20,h⟩:=rb_ h
  refine az (f:=Sx) hv20 SC (S ?_)
  obtain⟨v22,hv22,h⟩:=rb_ h
  refine ap [false,false] (slP_2 hv22) SC (S ?_)
  have h:=rs_ h
  refine aE ⟨_,h,?_⟩
  exact Slm_ SW
 ·refine S ?_
  refine aS cs (by omega) (fun cs=>S ?_)
  refine Mkb_ (b:=false) (sz:=1) (es:=a1.Vars.map Sx) (x:=(.pv ((am false) a1))) 3 [0] SC fun hl3=>?_; rw[aB] at hl3
  replace h:=rl_ h
  refine Mg.forN h (fun i7 s7=>[(3,.box (.pv ((am false) a1))),(5,.val (.pv (.sl false 1 (s7.map Sx)))),(7,.val (.pv (I (i7:Int))))]) (fun i7 s7=>[]) (Slm_ SC) (fun i7 s7 hi h=>?_) (fun s7 h=>?_)
  ·have w:=ws_ (i:=i7) (by omega)
   refine S ?_
   refine aR cs (by omega) (fun cs=>S ?_)
   obtain⟨v34,hv34,h⟩:=rb_ h
   refine az (f:=Sx) hv34 SC (S ?_)
   obtain⟨v36,hv36,h⟩:=rb_ h
   refine ap [false,false] (slP_2 hv36) SC (S ?_)
   have h:=rs_ h
   refine aE ⟨_,h,?_⟩
   exact Slm_ SW
  ·refine S ?_
   refine aS cs (by omega) (fun cs=>S ?_)
   cases rs_ h
   exact FinH.r SC

theorem slM_1{a0:Int}{a1:Int}  {r:Int}(h:slM_ a0 a1=some r):Sat ah 32 [(I a0),(I a1)] (I r):=by
 obtain⟨h,cs⟩:=Ro_ h
 unfold slM_ at h
 refine aG (nt:=10) (rs:=[.tmp 4]) (n:=100000) Try.func32 rfl rfl rfl rfl (by simp) (S ?_)
 refine ak cs h (fun cs h=>S ?_) (fun cs h=>S ?_)
 ·cases rs_ h
  exact al SC
 ·cases rs_ h
  exact al SC

theorem slS_1{a0:Lt}{a1:ByteArray}  {r:Int}(h:slS_ a0 a1=some r):Sat ah 27 [((am false) a0),(Sx a1)] (I r):=by
 obtain⟨h,cs⟩:=Ro_ h
 unfold slS_ at h
 refine aG (nt:=25) (rs:=[.tmp 4]) (n:=100000) Try.func27 rfl rfl rfl rfl (by simp) (S ?_)
 refine Mkv_ (b:=false) (sz:=1) (es:=a0.Vars.map Sx) (x:=(.pv ((am false) a0))) 0 [0] SC fun hl0=>?_; rw[aB] at hl0
 replace h:=rl_ h
 refine Mg.forN h (fun i2 s2=>[(1,.val (.pv (Sx a1))),(2,.box (.pv ((am false) a0))),(5,.val (.pv (I (i2:Int))))]) (fun i2 s2=>[]) (Slm_ SC) (fun i2 s2 hi h=>?_) (fun s2 h=>?_)
 ·have w:=ws_ (i:=i2) (by omega)
  refine S ?_
  refine aR cs (by omega) (fun cs=>S ?_)
  obtain⟨v16,hv16,h⟩:=rb_ h
  refine az (f:=Sx) hv16 SC (S ?_)
  refine ak cs h (fun cs h=>S ?_) (fun cs h=>S ?_)
  ·obtain⟨v23,hv23,h⟩:=rb_ h
   refine az (f:=I) hv23 SC (S ?_)
   cases rs_ h
   exact al SC
  ·have h:=rs_ h
   refine aE ⟨_,h,?_⟩
   exact Slm_ SW
 ·refine S ?_
  refine aS cs (by omega) (fun cs=>S ?_)
  cases rs_ h
  exact al SC

theorem slJ_1{a0:Lt}{a1:Lt}  {r:Lt}(h:slJ_ a0 a1=some r):Sat ah 16 [((am false) a0),((am false) a1)] ((am false) r):=by
 obtain⟨h,cs⟩:=Ro_ h
 unfold slJ_ at h
 refine aG (nt:=45) (rs:=[.cell 4 27]) (n:=100000) Try.func16 rfl rfl rfl rfl (by simp) (S ?_)
 obtain⟨v9,hv9,h⟩:=rb_ h
 refine ap [false,false] (slN_2 hv9) SC (S ?_)
 obtain⟨v15,hv15,h⟩:=rb_ h
 refine ap [false,false] (slM_1 hv15) SC (S ?_)
 refine aa (DHa_ [5] [160]) (S ?_)
 refine Mg.know_sl (b:=false) (sz:=1) (es:=v9.map Sx) 9 SC fun hl9=>?_; rw[aB] at hl9
 replace h:=rl_ h
 refine Mg.forN h (fun i3 s3=>[(2,.box (.pv ((am false) a0))),(3,.box (.pv ((am false) a1))),(4,.box (.node [(.pv (.sl true 1 [])),(.pv (.sl true 1 [])),(.pv (I 0))])),(5,.box (.node [(.pv (.sl false 1 (v9.map Sx))),(.own 160),(.pv (I v15))])),(6,.val (.pv (I (i3:Int))))]) (fun i3 s3=>[(160,(1,s3.map I))]) (Slm_ SC) (fun i3 s3 hi h=>?_) (fun s3 h=>?_)
 ·have w:=ws_ (i:=i3) (by omega)
  refine S ?_
  refine aR cs (by omega) (fun cs=>S ?_)
  obtain⟨v30,hv30,h⟩:=rb_ h
  refine az (f:=Sx) hv30 SC (S ?_)
  obtain⟨v32,hv32,h⟩:=rb_ h
  refine ap [false,false] (slS_1 hv32) SC (S ?_)
  obtain⟨v37,hv37,h⟩:=rb_ h
  refine az (f:=Sx) hv37 SC (S ?_)
  obtain⟨v39,hv39,h⟩:=rb_ h
  refine ap [false,false] (slS_1 hv39) SC (S ?_)
  obtain⟨v40,hv40,h⟩:=rb_ h
  refine ap [false,false] (slM_1 hv40) SC (S ?_)
  obtain⟨v42,hv42,h⟩:=rb_ h
  refine AppH.mk (f:=I) (fun _=>rfl) hv42 SC SC (S ?_)
  refine aa (DHa_ [] [656,672]) (S ?_)
  have h:=rs_ h
  refine aE ⟨_,h,?_⟩
  refine aO (Slm_1 (S:=[(2,.box (.pv ((am false) a0))),(3,.box (.pv ((am false) a1))),(4,.box (.node [(.pv (.sl true 1 [])),(.pv (.sl true 1 [])),(.pv (I 0))])),(5,.box (.node [(.pv (.sl false 1 (v9.map Sx))),(.own 672),(.pv (I v15))])),(6,.val (.pv (I (IntKind.i64.wrap ((i3:Int)+1)))))]) (O:=[(672,(1,v42.map I))]) SW SW) ?_
  refine Slr_ 672 160 (by decide) NM ?_
  exact Slm_ SW
 ·refine S ?_
  refine aS cs (by omega) (fun cs=>S ?_)
  cases rs_ h
  exact FinH.r SC

theorem sJL_1{a0:Lt}{a1:Lt}  {r:Lt×Bool}(h:sJL_ a0 a1=some r):Sat ah 7 [((am false) a0),((am false) a1)] (.tup [((am false) r.1),(B r.2)]):=by
 obtain⟨h,cs⟩:=Ro_ h
 unfold sJL_ at h
 refine aG (nt:=24) (rs:=[.cell 4 27,.tmp 5]) (n:=100000) Try.func7 rfl rfl rfl rfl (by simp) (S ?_)
 obtain⟨v8,hv8,h⟩:=rb_ h
 refine ap [false] (slL_ hv8) SC (S ?_)
 refine ak cs h (fun cs h=>S ?_) (fun cs h=>S ?_)
 ·obtain⟨v12,hv12,h⟩:=rb_ h
  refine ap [false] (slL_ hv12) SC (S ?_)
  refine ak cs h (fun cs h=>S ?_) (fun cs h=>S ?_)
  ·obtain⟨v18,hv18,h⟩:=rb_ h
   refine ap [false,false] (slJ_1 hv18) SC (S ?_)
   obtain⟨v20,hv20,h⟩:=rb_ h
   refine ap [false] (slL_ hv20) SC (S ?_)
   refine ak cs h (fun cs h=>S ?_) (fun cs h=>S ?_)
   ·cases rs_ h
    exact FinH.r SC
   ·cases rs_ h
    exact FinH.r SC
  ·cases rs_ h
   exact FinH.r SC
 ·cases rs_ h
  exact FinH.r SC

theorem vAs_{a0:List Int}{a1:Int}  {r:Int}(h:vAt a0 a1=some r):Sat ah 33 [(.sl false 1 (a0.map (Ik .u8))),(I a1)] (I r):=by
 obtain⟨h,cs⟩:=Ro_ h
 unfold vAt at h
 refine aG (nt:=20) (rs:=[.tmp 4]) (n:=100000) Try.func33 rfl rfl rfl rfl (by simp) (S ?_)
 refine ak cs h (fun cs h=>S ?_) (fun cs h=>S ?_)
 ·obtain⟨v11,hv11,h⟩:=rb_ h
  refine az (f:=(Ik .u8)) hv11 SC (S ?_)
  cases rs_ h
  exact al SC
 ·obtain⟨v19,hv19,h⟩:=rb_ h
  refine remH.mk hv19 (S ?_)
  cases rs_ h
  exact al SC

theorem vMs_{a0:List Int}{a1:ByteArray}{a2:List Int}  {r:Int}(h:vMix a0 a1 a2=some r):Sat ah 17 [(.sl false 1 (a0.map (Ik .u8))),(Sx a1),(.sl false 1 (a2.map I))] (I r):=by
 obtain⟨h,cs⟩:=Ro_ h
 unfold vMix at h
 refine aG (nt:=52) (rs:=[.tmp 6]) (n:=100000) Try.func17 rfl rfl rfl rfl (by simp) (S ?_)
 obtain⟨N3,hN3,h⟩:=rb_ h
 obtain⟨hN3a,hN3b⟩:=bs_ hN3
 replace h:=rl_ h
 refine Mg.forN h (fun i3 s3=>[(0,.val (.pv (.sl false 1 (a0.map (Ik .u8))))),(1,.val (.pv (Sx a1))),(2,.val (.pv (.sl false 1 (a2.map I)))),(7,.val (.pv (I s3))),(8,.val (.pv (I (i3:Int))))]) (fun i3 s3=>[]) (Slm_ SC) (fun i3 s3 hi h=>?_) (fun s3 h=>?_)
 ·have w:=ws_ (i:=i3) (by omega)
  refine S ?_
  refine aR cs (by omega) (fun cs=>S ?_)
  obtain⟨v20,hv20,h⟩:=rb_ h
  refine SidxH.mk hv20 (S ?_)
  obtain⟨v23,hv23,h⟩:=rb_ h
  refine remH.mk hv23 (S ?_)
  have h:=rs_ h
  refine aE ⟨_,h,?_⟩
  exact Slm_ SW
 ·refine S ?_
  refine aS cs (by omega) (fun cs=>S ?_)
  refine Mg.know_sl (b:=false) (sz:=1) (es:=a2.map I) 2 SC fun hl2=>?_; rw[aB] at hl2
  replace h:=rl_ h
  refine Mg.forN h (fun i7 s7=>[(0,.val (.pv (.sl false 1 (a0.map (Ik .u8))))),(2,.val (.pv (.sl false 1 (a2.map I)))),(7,.val (.pv (I s7))),(9,.val (.pv (I (i7:Int))))]) (fun i7 s7=>[]) (Slm_ SC) (fun i7 s7 hi h=>?_) (fun s7 h=>?_)
  ·have w:=ws_ (i:=i7) (by omega)
   refine S ?_
   refine aR cs (by omega) (fun cs=>S ?_)
   obtain⟨v34,hv34,h⟩:=rb_ h
   refine az (f:=I) hv34 SC (S ?_)
   obtain⟨v38,hv38,h⟩:=rb_ h
   refine remH.mk hv38 (S ?_)
   have h:=rs_ h
   refine aE ⟨_,h,?_⟩
   exact Slm_ SW
  ·refine S ?_
   refine aS cs (by omega) (fun cs=>S ?_)
   obtain⟨v42,hv42,h⟩:=rb_ h
   refine remH.mk hv42 (S ?_)
   obtain⟨v43,hv43,h⟩:=rb_ h
   refine ap [false,false] (vAs_ hv43) SC (S ?_)
   obtain⟨v48,hv48,h⟩:=rb_ h
   refine remH.mk hv48 (S ?_)
   obtain⟨v49,hv49,h⟩:=rb_ h
   refine ap [false,false] (vAs_ hv49) SC (S ?_)
   obtain⟨v51,hv51,h⟩:=rb_ h
   refine quoH.mk hv51 (S ?_)
   cases rs_ h
   exact al SC

theorem rLs_{a0:Lt}{a1:List Int}  {r:Int}(h:rL_ a0 a1=some r):Sat ah 8 [((am false) a0),(.sl false 1 (a1.map (Ik .u8)))] (I r):=by
 obtain⟨h,cs⟩:=Ro_ h
 unfold rL_ at h
 refine aG (nt:=40) (rs:=[.tmp 4]) (n:=100000) Try.func8 rfl rfl rfl rfl (by simp) (S ?_)
 refine Mkv_ (b:=false) (sz:=1) (es:=a0.Vars.map Sx) (x:=(.pv ((am false) a0))) 0 [0] SC fun hl0=>?_; rw[aB] at hl0
 replace h:=rl_ h
 refine Mg.forN h (fun i3 s3=>[(1,.val (.pv (.sl false 1 (a1.map (Ik .u8))))),(2,.box (.pv ((am false) a0))),(5,.val (.pv (I s3))),(6,.val (.pv (I (i3:Int))))]) (fun i3 s3=>[]) (Slm_ SC) (fun i3 s3 hi h=>?_) (fun s3 h=>?_)
 ·have w:=ws_ (i:=i3) (by omega)
  refine S ?_
  refine aR cs (by omega) (fun cs=>S ?_)
  refine ak cs h (fun cs h=>S ?_) (fun cs h=>S ?_)
  ·obtain⟨v27,hv27,h⟩:=rb_ h
   refine az (f:=I) hv27 SC (S ?_)
   obtain⟨v33,hv33,h⟩:=rb_ h
   refine az (f:=Sx) hv33 SC (S ?_)
   obtain⟨v35,hv35,h⟩:=rb_ h
   refine ap [false,false,false] (vMs_ hv35) SC (S ?_)
   obtain⟨v36,hv36,h⟩:=rb_ h
   refine remH.mk hv36 (S ?_)
   refine aa (DHa_ [] []) (S ?_)
   have h:=rs_ h
   refine aE ⟨_,h,?_⟩
   exact Slm_ SW
  ·cases rs_ h
   exact al SC
 ·refine S ?_
  refine aS cs (by omega) (fun cs=>S ?_)
  cases rs_ h
  exact al SC

theorem sDS_1{a0:List Int}  {r:Lt×ByteArray×Lt}(h:sDS_ a0=some r):Sat ah 10 [(.sl false 1 (a0.map (Ik .u8)))] (.tup [((am true) r.1),(Sx r.2.1),((am true) r.2.2)]):=by
 obtain⟨h,cs⟩:=Ro_ h
 unfold sDS_ at h
 refine aG (nt:=23) (rs:=[.cell 2 27,.tmp 3,.cell 4 27]) (n:=100000) Try.func10 rfl rfl rfl rfl (by simp) (S ?_)
 obtain⟨v11,hv11,h⟩:=rb_ h
 refine aW (r:=9) (hc:=.cv (.node [(.pv (.sl false 1 (a0.map (Ik .u8)))),(.pv (I 0)),(.pv ((Ik .u64) (0:Int)))])) 0 [] [] [] [] [] (slC_4 hv11) rfl rfl rfl SC (S ?_)
 obtain⟨v16,hv16,h⟩:=rb_ h
 refine aW (r:=9) (hc:=.cv (.pv ((la.pv false) v11.2))) 0 [] [_] [] [(.pv (I 9))] [false] (slC_3 hv16) rfl rfl rfl SC (S ?_)
 obtain⟨v17,hv17,h⟩:=rb_ h
 refine quoH.mk hv17 (S ?_)
 obtain⟨v19,hv19,h⟩:=rb_ h
 refine SlcOH.mk (f:=Sx) hv19 SC (S ?_)
 obtain⟨v20,hv20,h⟩:=rb_ h
 refine aW (r:=9) (hc:=.cv (.pv ((la.pv false) v16.2))) (pre:=[]) (post:=[(.sl true 1 (v19.map Sx))]) 0 [] [_] [] [(.own 304)] [true] (SatH.give [true] (slC_10 hv20) (by first | rfl | simp only[gv_t,gv_f,gv_n,vs_,va_,vl_,vI_,vS_,vrB_,vrI_,aq,bc,List.cons_append]) rfl) rfl rfl rfl SC (S ?_)
 obtain⟨v22,hv22,h⟩:=rb_ h
 refine aW (r:=9) (hc:=.cv (.pv ((la.pv false) v20.2))) 0 [] [] [] [] [] (slC_4 hv22) rfl rfl rfl SC (S ?_)
 refine aa (DHa_ [] [224,304,352,353]) (S ?_)
 cases rs_ h
 exact al SC

theorem iLa_1{a0:Lt}{a1:GMap Int}{a2:Int}  {r:Int×(GMap Int)}(h:iLa_ a0 a1 a2=some r):SatH ah 22 [((am false) a0)] [(I a2)] .mp [] (.mp (gmap I a1.es) a1.clock) (.mp (gmap I r.2.es) r.2.clock) (I r.1):=by
 obtain⟨h,cs⟩:=Ro_ h
 unfold iLa_ at h
 refine SHo_ (nt:=33) (rs:=[.tmp 6]) (n:=100000) 1 Try.func22 rfl rfl rfl rfl rfl (a7 rfl) (by decide) (by first | exact a7 rfl | exact SC) (S ?_)
 refine Mg.know_sl (b:=false) (sz:=1) (es:=a0.Vars.map Sx) 10 SC fun hl10=>?_; rw[aB] at hl10
 replace h:=rl_ h
 refine Mg.forN h (fun i2 s2=>[(1,.hold .mp [] (.mp (gmap I (s2).es) (s2).clock)),(2,.val (.pv (I a2))),(3,.box (.pv ((am false) a0))),(10,.val (.pv (.sl false 1 (a0.Vars.map Sx)))),(11,.val (.pv (I (a0.Vars.length:Int)))),(12,.val (.pv (I (i2:Int)))),(20000,gh 1)]) (fun i2 s2=>[]) (Slm_ SC) (fun i2 s2 hi h=>?_) (fun s2 h=>?_)
 ·have w:=ws_ (i:=i2) (by omega)
  refine S ?_
  refine aR cs (by omega) (fun cs=>S ?_)
  obtain⟨v15,hv15,h⟩:=rb_ h
  refine az (f:=Sx) hv15 SC (S ?_)
  refine HandH.lookup (E:=3) (r:=1) (sh:=.mp) (ps:=[]) (m:=s2) (f:=I) (k:=v15) (z0:=0) mt_48 mz_3 SC (S ?_)
  obtain⟨v24,hv24,h⟩:=rb_ h
  refine az (f:=I) hv24 SC (S ?_)
  refine HandH.put (E:=3) (r:=1) (sh:=.mp) (ps:=[]) (m:=s2) (f:=I) (k:=v15) (v0:=IntKind.i64.wrap ((GMap.get s2 v15 (0:Int))+(IntKind.i64.wrap (a2*v24)))) (c:=(.pv (I (IntKind.i64.wrap ((GMap.get s2 v15 (0:Int))+(IntKind.i64.wrap (a2*v24))))))) mt_48 SC (S ?_)
  refine aa (DHa_ [] []) (S ?_)
  have h:=rs_ h
  refine aE ⟨_,h,?_⟩
  exact Slm_ SW
 ·refine S ?_
  refine aS cs (by omega) (fun cs=>S ?_)
  cases rs_ h
  exact RetHB.l SC

theorem ciN_1{a0:ByteArray}  {r:Bool}(h:ciN_ a0=some r):Sat ah 46 [(Sx a0)] (B r):=by
 obtain⟨h,cs⟩:=Ro_ h
 unfold ciN_ at h
 refine aG (nt:=6) (rs:=[.tmp 2]) (n:=100000) Try.func46 rfl rfl rfl rfl (by simp) (S ?_)
 cases rs_ h
 exact al SC

theorem cLs_1{a0:ByteArray}{a1:ByteArray}  {r:Bool}(h:cLs_ a0 a1=some r):Sat ah 42 [(Sx a0),(Sx a1)] (B r):=by
 obtain⟨h,cs⟩:=Ro_ h
 unfold cLs_ at h
 refine aG (nt:=17) (rs:=[.tmp 4]) (n:=100000) Try.func42 rfl rfl rfl rfl (by simp) (S ?_)
 obtain⟨v6,hv6,h⟩:=rb_ h
 refine ap [false] (ciN_1 hv6) SC (S ?_)
 refine ak cs h (fun cs h=>S ?_) (fun cs h=>S ?_)
 ·obtain⟨v9,hv9,h⟩:=rb_ h
  refine ap [false] (ciN_1 hv9) SC (S ?_)
  refine ak cs h (fun cs h=>S ?_) (fun cs h=>S ?_)
  ·cases rs_ h
   exact al SC
  ·cases rs_ h
   exact al SC
 ·cases rs_ h
  exact al SC

theorem siN_1{a0:ByteArray}  {r:Bool}(h:siN_ a0=some r):Sat ah 43 [(Sx a0)] (B r):=by
 obtain⟨h,cs⟩:=Ro_ h
 unfold siN_ at h
 refine aG (nt:=6) (rs:=[.tmp 2]) (n:=100000) Try.func43 rfl rfl rfl rfl (by simp) (S ?_)
 cases rs_ h
 exact al SC

theorem sBS_1{a0:List ByteArray}{a1:ByteArray}  {r:Int×Bool}(h:sBS_ a0 a1=some r):Sat ah 38 [(.sl false 1 (a0.map Sx)),(Sx a1)] (.tup [(I r.1),(B r.2)]):=by
 obtain⟨h,cs⟩:=Ro_ h
 unfold sBS_ at h
 refine aG (nt:=54) (rs:=[.tmp 4,.tmp 5]) (n:=100000) Try.func38 rfl rfl rfl rfl (by simp) (S ?_)
 replace h:=rl_ h
 refine Mg.whileN h (fun s3=>[(0,.val (.pv (.sl false 1 (a0.map Sx)))),(1,.val (.pv (Sx a1))),(6,.val (.pv (I (a0.length:Int)))),(7,.val (.pv (I s3.1))),(8,.val (.pv (I s3.2)))]) (fun s3=>[]) (Slm_ SC) (fun n3 s3 h=>?_)
 refine S ?_
 refine ak cs h (fun cs h=>S ?_) (fun cs h=>S ?_)
 ·obtain⟨v20,hv20,h⟩:=rb_ h
  refine ShrH.mk hv20 (S ?_)
  obtain⟨v24,hv24,h⟩:=rb_ h
  refine az (f:=Sx) hv24 SC (S ?_)
  obtain⟨v27,hv27,h⟩:=rb_ h
  refine ap [false,false] (cLs_1 hv27) SC (S ?_)
  refine ak cs h (fun cs h=>S ?_) (fun cs h=>S ?_)
  ·have h:=rs_ h
   refine aE ⟨_,h,?_⟩
   exact Slm_ SC
  ·have h:=rs_ h
   refine aE ⟨_,h,?_⟩
   exact Slm_ SC
 ·have h:=rs_ h
  refine ak cs h (fun cs h=>S ?_) (fun cs h=>S ?_)
  ·obtain⟨v38,hv38,h⟩:=rb_ h
   refine az (f:=Sx) hv38 SC (S ?_)
   refine ak cs h (fun cs h=>S ?_) (fun cs h=>S ?_)
   ·cases rs_ h
    exact al SC
   ·obtain⟨v45,hv45,h⟩:=rb_ h
    refine az (f:=Sx) hv45 SC (S ?_)
    obtain⟨v47,hv47,h⟩:=rb_ h
    refine ap [false] (siN_1 hv47) SC (S ?_)
    refine ak cs h (fun cs h=>S ?_) (fun cs h=>S ?_)
    ·obtain⟨v50,hv50,h⟩:=rb_ h
     refine ap [false] (siN_1 hv50) SC (S ?_)
     cases rs_ h
     exact al SC
    ·cases rs_ h
     exact al SC
  ·cases rs_ h
   exact al SC

theorem iLs_1{a0:Lt}{a1:ByteArray}  {r:Int}(h:iLs_ a0 a1=some r):Sat ah 23 [((am false) a0),(Sx a1)] (I r):=by
 obtain⟨h,cs⟩:=Ro_ h
 unfold iLs_ at h
 refine aG (nt:=21) (rs:=[.tmp 4]) (n:=100000) Try.func23 rfl rfl rfl rfl (by simp) (S ?_)
 obtain⟨v11,hv11,h⟩:=rb_ h
 refine ap [false,false] (sBS_1 hv11) SC (S ?_)
 refine ak cs h (fun cs h=>S ?_) (fun cs h=>S ?_)
 ·obtain⟨v19,hv19,h⟩:=rb_ h
  refine az (f:=I) hv19 SC (S ?_)
  cases rs_ h
  exact al SC
 ·cases rs_ h
  exact al SC

theorem iSL_1{a0:Lt}{a1:ByteArray}{a2:Lt}  {r:Lt×Bool}(h:iSL_ a0 a1 a2=some r):Sat ah 11 [((am false) a0),(Sx a1),((am false) a2)] (.tup [((am true) r.1),(B r.2)]):=by
 obtain⟨h,cs⟩:=Ro_ h
 unfold iSL_ at h
 refine aG (nt:=43) (rs:=[.cell 6 27,.tmp 7]) (n:=100000) Try.func11 rfl rfl rfl rfl (by simp) (S ?_)
 obtain⟨v11,hv11,h⟩:=rb_ h
 refine ap [false] (iIV_1 hv11) SC (S ?_)
 refine ak cs h (fun cs h=>S ?_) (fun cs h=>S ?_)
 ·obtain⟨v15,hv15,h⟩:=rb_ h
  refine ap [false] (iiV_1 hv15) SC (S ?_)
  refine ak cs h (fun cs h=>S ?_) (fun cs h=>S ?_)
  ·obtain⟨v20,hv20,h⟩:=rb_ h
   refine ap [false] (iIV_1 hv20) SC (S ?_)
   refine ak cs h (fun cs h=>S ?_) (fun cs h=>S ?_)
   ·refine HandH.makeMap (α:=Int) I (by decide) (S ?_)
    obtain⟨v27,hv27,h⟩:=rb_ h
    refine aW (r:=24) (hc:=.mp (gmap I ((GMap.empty:GMap Int)).es) ((GMap.empty:GMap Int)).clock) 1 [_] [_] [(.pv ((am false) a0))] [(.pv (I 1))] [false,false] (iLa_1 hv27) rfl rfl rfl SC (S ?_)
    refine HandH.del (E:=3) (r:=24) (sh:=.mp) (ps:=[]) (m:=v27.2) (f:=I) (k:=a1) mt_48 SC (S ?_)
    obtain⟨v35,hv35,h⟩:=rb_ h
    refine ap [false,false] (iLs_1 hv35) SC (S ?_)
    obtain⟨v36,hv36,h⟩:=rb_ h
    refine aW (r:=24) (hc:=.mp (gmap I (GMap.del v27.2 a1).es) (GMap.del v27.2 a1).clock) 1 [_] [_] [(.pv ((am false) a2))] [(.pv (I v35))] [false,false] (iLa_1 hv36) rfl rfl rfl SC (S ?_)
    refine aa (DHa_ [] []) (S ?_)
    obtain⟨v40,hv40,h⟩:=rb_ h
    refine aW (r:=24) (hc:=.mp (gmap I (v36.2).es) (v36.2).clock) 0 [] [_] [] [(.pv (I (IntKind.i64.wrap (v27.1+v36.1))))] [false] (ils_ hv40) rfl rfl rfl SC (S ?_)
    cases rs_ h
    exact al SC
   ·cases rs_ h
    exact al SC
  ·cases rs_ h
   exact al SC
 ·cases rs_ h
  exact al SC

theorem slP_3{a0:Lt}{a1:Lt}{a2:Int}  {r:Lt}(h:slP_1 a0 a1 a2=some r):Sat ah 26 [((am false) a0),((am false) a1),(I a2)] ((am true) r):=by
 obtain⟨h,cs⟩:=Ro_ h
 unfold slP_1 at h
 refine aG (nt:=63) (rs:=[.cell 6 27]) (n:=100000) Try.func26 rfl rfl rfl rfl (by simp) (S ?_)
 obtain⟨v23,hv23,h⟩:=rb_ h
 refine ap [false,false] (slN_2 hv23) SC (S ?_)
 refine Mg.know_sl (b:=false) (sz:=1) (es:=v23.map Sx) 8 SC fun hl8=>?_; rw[aB] at hl8
 replace h:=rl_ h
 refine Mg.forN h (fun i4 s4=>[(2,.val (.pv (I a2))),(3,.box (.pv ((am false) a0))),(4,.box (.pv ((am false) a1))),(6,.box (.node [(.pv (.sl true 1 [])),(.pv (.sl true 1 [])),(.pv (I 0))])),(7,.box (.node [(.own 176),(.own 192),(.pv (I (IntKind.i64.wrap (a0.Constant+(IntKind.i64.wrap (a2*a1.Constant))))))])),(8,.val (.pv (.sl false 1 (v23.map Sx)))),(9,.val (.pv (I (i4:Int))))]) (fun i4 s4=>[(176,(1,s4.1.map Sx)),(192,(1,s4.2.map I))]) (Slm_ SC) (fun i4 s4 hi h=>?_) (fun s4 h=>?_)
 ·have w:=ws_ (i:=i4) (by omega)
  refine S ?_
  refine aR cs (by omega) (fun cs=>S ?_)
  obtain⟨v33,hv33,h⟩:=rb_ h
  refine az (f:=Sx) hv33 SC (S ?_)
  obtain⟨v35,hv35,h⟩:=rb_ h
  refine ap [false,false] (slS_1 hv35) SC (S ?_)
  obtain⟨v40,hv40,h⟩:=rb_ h
  refine az (f:=Sx) hv40 SC (S ?_)
  obtain⟨v42,hv42,h⟩:=rb_ h
  refine ap [false,false] (slS_1 hv42) SC (S ?_)
  refine aa (DHa_ [] []) (S ?_)
  refine ak cs h (fun cs h=>S ?_) (fun cs h=>S ?_)
  ·obtain⟨v51,hv51,h⟩:=rb_ h
   refine az (f:=Sx) hv51 SC (S ?_)
   obtain⟨v54,hv54,h⟩:=rb_ h
   refine AppH.mk (f:=Sx) (fun _=>rfl) hv54 SC SC (S ?_)
   refine aa (DHa_ [] [848,864]) (S ?_)
   obtain⟨v60,hv60,h⟩:=rb_ h
   refine AppH.mk (f:=I) (fun _=>rfl) hv60 SC SC (S ?_)
   have h:=rs_ h
   refine aE ⟨_,h,?_⟩
   refine aO (Slm_1 (S:=[(2,.val (.pv (I a2))),(3,.box (.pv ((am false) a0))),(4,.box (.pv ((am false) a1))),(6,.box (.node [(.pv (.sl true 1 [])),(.pv (.sl true 1 [])),(.pv (I 0))])),(7,.box (.node [(.own 864),(.own 960),(.pv (I (IntKind.i64.wrap (a0.Constant+(IntKind.i64.wrap (a2*a1.Constant))))))])),(8,.val (.pv (.sl false 1 (v23.map Sx)))),(9,.val (.pv (I (IntKind.i64.wrap ((i4:Int)+1)))))]) (O:=[(864,(1,v54.map Sx)),(960,(1,v60.map I))]) SW SW) ?_
   refine Slr_ 864 176 (by decide) NM ?_
   refine aO (Slm_1 (S:=[(2,.val (.pv (I a2))),(3,.box (.pv ((am false) a0))),(4,.box (.pv ((am false) a1))),(6,.box (.node [(.pv (.sl true 1 [])),(.pv (.sl true 1 [])),(.pv (I 0))])),(7,.box (.node [(.own 176),(.own 960),(.pv (I (IntKind.i64.wrap (a0.Constant+(IntKind.i64.wrap (a2*a1.Constant))))))])),(8,.val (.pv (.sl false 1 (v23.map Sx)))),(9,.val (.pv (I (IntKind.i64.wrap ((i4:Int)+1)))))]) (O:=[(176,(1,v54.map Sx)),(960,(1,v60.map I))]) SW SW) ?_
   refine Slr_ 960 192 (by decide) NM ?_
   exact Slm_ SW
  ·have h:=rs_ h
   refine aE ⟨_,h,?_⟩
   exact Slm_ SW
 ·refine S ?_
  refine aS cs (by omega) (fun cs=>S ?_)
  cases rs_ h
  exact al SC

theorem sSL_1{a0:Lt}{a1:ByteArray}{a2:Lt}  {r:Lt×Bool}(h:sSL_ a0 a1 a2=some r):Sat ah 12 [((am false) a0),(Sx a1),((am false) a2)] (.tup [((am true) r.1),(B r.2)]):=by
 obtain⟨h,cs⟩:=Ro_ h
 unfold sSL_ at h
 refine aG (nt:=73) (rs:=[.cell 6 27,.tmp 7]) (n:=100000) Try.func12 rfl rfl rfl rfl (by simp) (S ?_)
 obtain⟨v12,hv12,h⟩:=rb_ h
 refine ap [false] (slL_ hv12) SC (S ?_)
 refine ak cs h (fun cs h=>S ?_) (fun cs h=>S ?_)
 ·obtain⟨v16,hv16,h⟩:=rb_ h
  refine ap [false] (slV_1 hv16) SC (S ?_)
  refine ak cs h (fun cs h=>S ?_) (fun cs h=>S ?_)
  ·obtain⟨v21,hv21,h⟩:=rb_ h
   refine ap [false] (slL_ hv21) SC (S ?_)
   refine ak cs h (fun cs h=>S ?_) (fun cs h=>S ?_)
   ·refine Mkv_ (b:=false) (sz:=1) (es:=a0.Vars.map Sx) (x:=(.pv ((am false) a0))) 0 [0] SC fun hl0=>?_; rw[aB] at hl0
    replace h:=rl_ h
    refine Mg.forN h (fun i5 s5=>[(1,.val (.pv (Sx a1))),(3,.box (.pv ((am false) a0))),(5,.box (.pv ((am false) a2))),(6,.box (.node [(.pv (.sl true 1 [])),(.pv (.sl true 1 [])),(.pv (I 0))])),(8,.box (.node [(.own 9315),(.own 9316),(.pv (I a0.Constant))])),(9,.val (.pv (I (i5:Int))))]) (fun i5 s5=>[(9315,(1,s5.1.map Sx)),(9316,(1,s5.2.map I))]) (aO (Sln_ (x:=(.node [(.pv (.sl true 1 [])),(.pv (.sl true 1 [])),(.pv (I a0.Constant))])) 8 [0] 9315 1 NM SC SC SC) (aO (Sln_ (x:=(.node [(.own 9315),(.pv (.sl true 1 [])),(.pv (I a0.Constant))])) 8 [1] 9316 1 NM SC SC SC) (Slm_ SC))) (fun i5 s5 hi h=>?_) (fun s5 h=>?_)
    ·have w:=ws_ (i:=i5) (by omega)
     refine S ?_
     refine aR cs (by omega) (fun cs=>S ?_)
     obtain⟨v38,hv38,h⟩:=rb_ h
     refine az (f:=Sx) hv38 SC (S ?_)
     refine ak cs h (fun cs h=>S ?_) (fun cs h=>S ?_)
     ·have h:=rs_ h
      refine aE ⟨_,h,?_⟩
      exact Slm_ SW
     ·obtain⟨v47,hv47,h⟩:=rb_ h
      refine az (f:=Sx) hv47 SC (S ?_)
      obtain⟨v50,hv50,h⟩:=rb_ h
      refine AppH.mk (f:=Sx) (fun _=>rfl) hv50 SC SC (S ?_)
      refine aa (DHa_ [] [784,800]) (S ?_)
      obtain⟨v57,hv57,h⟩:=rb_ h
      refine az (f:=I) hv57 SC (S ?_)
      obtain⟨v60,hv60,h⟩:=rb_ h
      refine AppH.mk (f:=I) (fun _=>rfl) hv60 SC SC (S ?_)
      refine aa (DHa_ [] [944,960]) (S ?_)
      have h:=rs_ h
      refine aE ⟨_,h,?_⟩
      refine aO (Slm_1 (S:=[(1,.val (.pv (Sx a1))),(3,.box (.pv ((am false) a0))),(5,.box (.pv ((am false) a2))),(6,.box (.node [(.pv (.sl true 1 [])),(.pv (.sl true 1 [])),(.pv (I 0))])),(8,.box (.node [(.own 800),(.own 960),(.pv (I a0.Constant))])),(9,.val (.pv (I (IntKind.i64.wrap ((i5:Int)+1)))))]) (O:=[(800,(1,v50.map Sx)),(960,(1,v60.map I))]) SW SW) ?_
      refine Slr_ 800 9315 (by decide) NM ?_
      refine aO (Slm_1 (S:=[(1,.val (.pv (Sx a1))),(3,.box (.pv ((am false) a0))),(5,.box (.pv ((am false) a2))),(6,.box (.node [(.pv (.sl true 1 [])),(.pv (.sl true 1 [])),(.pv (I 0))])),(8,.box (.node [(.own 9315),(.own 960),(.pv (I a0.Constant))])),(9,.val (.pv (I (IntKind.i64.wrap ((i5:Int)+1)))))]) (O:=[(9315,(1,v50.map Sx)),(960,(1,v60.map I))]) SW SW) ?_
      refine Slr_ 960 9316 (by decide) NM ?_
      exact Slm_ SW
    ·refine S ?_
     refine aS cs (by omega) (fun cs=>S ?_)
     obtain⟨v66,hv66,h⟩:=rb_ h
     refine ap [false,false] (slS_1 hv66) SC (S ?_)
     obtain⟨v67,hv67,h⟩:=rb_ h
     refine ap [false,false,false] (slP_3 hv67) SC (S ?_)
     refine aa (DHa_ [10] [1072,1073]) (S ?_)
     obtain⟨v69,hv69,h⟩:=rb_ h
     refine ap [false] (slL_ hv69) SC (S ?_)
     refine ak cs h (fun cs h=>S ?_) (fun cs h=>S ?_)
     ·cases rs_ h
      exact al SC
     ·cases rs_ h
      exact al SC
   ·cases rs_ h
    exact al SC
  ·cases rs_ h
   exact al SC
 ·cases rs_ h
  exact al SC

theorem slN_3{a0:Lt}{a1:Lt}  {r:List ByteArray}(h:slN_1 a0 a1=some r):Sat ah 31 [((am true) a0),((am true) a1)] (.sl false 1 (r.map Sx)):=by
 obtain⟨h,cs⟩:=Ro_ h
 unfold slN_1 at h
 refine aG (nt:=38) (rs:=[.tmp 4]) (n:=100000) Try.func31 rfl rfl rfl rfl (by simp) (S ?_)
 refine Mg.know_own (sz:=1) (es:=a0.Vars.map Sx) 9000 SC fun hl9000=>?_; rw[aB] at hl9000
 replace h:=rl_ h
 refine Mg.forN h (fun i3 s3=>[(2,.box (.node [(.own 9000),(.own 9001),(.pv (I a0.Constant))])),(3,.box (.node [(.own 9002),(.own 9003),(.pv (I a1.Constant))])),(5,.val (.pv (.sl false 1 (s3.map Sx)))),(6,.val (.pv (I (i3:Int))))]) (fun i3 s3=>[(9000,(1,a0.Vars.map Sx)),(9001,(1,a0.Slopes.map I)),(9002,(1,a1.Vars.map Sx)),(9003,(1,a1.Slopes.map I))]) (aO (Sld_ (x:=(.own 128)) (sz:=(1)) (es:=([]).map Sx) 5 [] 128 SC) (Slm_ SC)) (fun i3 s3 hi h=>?_) (fun s3 h=>?_)
 ·have w:=ws_ (i:=i3) (by omega)
  refine S ?_
  refine aR cs (by omega) (fun cs=>S ?_)
  obtain⟨v20,hv20,h⟩:=rb_ h
  refine az (f:=Sx) hv20 SC (S ?_)
  obtain⟨v21,hv21,h⟩:=rb_ h
  refine EldH.mk (f:=Sx) hv21 rfl SC (S ?_)
  obtain⟨v22,hv22,h⟩:=rb_ h
  refine ap [false,false] (slP_2 hv22) SC (S ?_)
  have h:=rs_ h
  refine aE ⟨_,h,?_⟩
  exact Slm_ SW
 ·refine S ?_
  refine aS cs (by omega) (fun cs=>S ?_)
  refine Mg.know_own (sz:=1) (es:=a1.Vars.map Sx) 9002 SC fun hl9002=>?_; rw[aB] at hl9002
  replace h:=rl_ h
  refine Mg.forN h (fun i7 s7=>[(3,.box (.node [(.own 9002),(.own 9003),(.pv (I a1.Constant))])),(5,.val (.pv (.sl false 1 (s7.map Sx)))),(7,.val (.pv (I (i7:Int))))]) (fun i7 s7=>[(9002,(1,a1.Vars.map Sx)),(9003,(1,a1.Slopes.map I))]) (Slm_ SC) (fun i7 s7 hi h=>?_) (fun s7 h=>?_)
  ·have w:=ws_ (i:=i7) (by omega)
   refine S ?_
   refine aR cs (by omega) (fun cs=>S ?_)
   obtain⟨v34,hv34,h⟩:=rb_ h
   refine az (f:=Sx) hv34 SC (S ?_)
   obtain⟨v35,hv35,h⟩:=rb_ h
   refine EldH.mk (f:=Sx) hv35 rfl SC (S ?_)
   obtain⟨v36,hv36,h⟩:=rb_ h
   refine ap [false,false] (slP_2 hv36) SC (S ?_)
   have h:=rs_ h
   refine aE ⟨_,h,?_⟩
   exact Slm_ SW
  ·refine S ?_
   refine aS cs (by omega) (fun cs=>S ?_)
   cases rs_ h
   exact FinH.r SC

theorem sJL_2{a0:Lt}{a1:Lt}  {r:Lt×Bool}(h:sJL_ a0 a1=some r):Sat ah 7 [((am true) a0),((am true) a1)] (.tup [((am false) r.1),(B r.2)]):=by
 obtain⟨h,cs⟩:=Ro_ h
 unfold sJL_ at h
 refine aG (nt:=24) (rs:=[.cell 4 27,.tmp 5]) (n:=100000) Try.func7 rfl rfl rfl rfl (by simp) (S ?_)
 obtain⟨v8,hv8,h⟩:=rb_ h
 refine ap [false] (slL_ hv8) SC (S ?_)
 refine ak cs h (fun cs h=>S ?_) (fun cs h=>S ?_)
 ·obtain⟨v12,hv12,h⟩:=rb_ h
  refine ap [false] (slL_ hv12) SC (S ?_)
  refine ak cs h (fun cs h=>S ?_) (fun cs h=>S ?_)
  ·obtain⟨v18,hv18,h⟩:=rb_ h
   refine ap [true,true] (Sat.give (args:=[(.agg [(.sl true 1 (a0.Vars.map Sx)),(.sl true 1 (a0.Slopes.map I)),(I a0.Constant)]),(.agg [(.sl true 1 (a1.Vars.map Sx)),(.sl true 1 (a1.Slopes.map I)),(I a1.Constant)])]) [true,true] (by have gg:=slJ_1 hv18; simp only[gv_t,gv_f,gv_n,vs_,va_,vl_,vrB_,vrI_,aq,RB,RS] at gg ⊢; exact gg)) SC (S ?_)
   obtain⟨v20,hv20,h⟩:=rb_ h
   refine ap [false] (slL_ hv20) SC (S ?_)
   refine ak cs h (fun cs h=>S ?_) (fun cs h=>S ?_)
   ·cases rs_ h
    exact FinH.r SC
   ·cases rs_ h
    exact FinH.r SC
  ·cases rs_ h
   exact FinH.r SC
 ·cases rs_ h
  exact FinH.r SC

theorem FnLinear_sat{a0:List Int}  {r:Bool}(h:FnLinear a0=some r):Sat ah 3 [(.sl false 1 (a0.map (Ik .u8)))] (B r):=by
 obtain⟨h,cs⟩:=Ro_ h
 unfold FnLinear at h
 refine aG (nt:=156) (rs:=[.tmp 2]) (n:=100000) Try.func3 rfl rfl rfl rfl (by simp) (S ?_)
 obtain⟨v20,hv20,h⟩:=rb_ h
 refine ap [false] (vBs_ hv20) SC (S ?_)
 refine ak cs h (fun cs h=>S ?_) (fun cs h=>S ?_)
 ·cases rs_ h
  exact al SC
 ·obtain⟨v23,hv23,h⟩:=rb_ h
  refine ap [false] (SvO_ (res':=(.tup [((am false) v23.1),((am false) v23.2)])) (sDJ_1 hv23) (by simp only[vt_,vs_,va_,vl_,aq,RB,RS])) SC (S ?_)
  obtain⟨v29,hv29,h⟩:=rb_ h
  refine ap [false,false] (iJL_1 hv29) SC (S ?_)
  obtain⟨v35,hv35,h⟩:=rb_ h
  refine ap [false,false] (sJL_1 hv35) SC (S ?_)
  refine ak cs h (fun cs h=>S ?_) (fun cs h=>S ?_)
  ·refine ak cs h (fun cs h=>S ?_) (fun cs h=>S ?_)
   ·obtain⟨v45,hv45,h⟩:=rb_ h
    refine ap [false,false] (rLs_ hv45) SC (S ?_)
    obtain⟨v48,hv48,h⟩:=rb_ h
    refine ap [false,false] (rLs_ hv48) SC (S ?_)
    refine ak cs h (fun cs h=>S ?_) (fun cs h=>S ?_)
    ·refine aa (DHa_ [] []) (S ?_)
     cases rs_ h
     exact al SC
    ·obtain⟨v53,hv53,h⟩:=rb_ h
     refine ap [false,false] (rLs_ hv53) SC (S ?_)
     obtain⟨v56,hv56,h⟩:=rb_ h
     refine ap [false,false] (rLs_ hv56) SC (S ?_)
     refine ak cs h (fun cs h=>S ?_) (fun cs h=>S ?_)
     ·refine aa (DHa_ [] []) (S ?_)
      cases rs_ h
      exact al SC
     ·obtain⟨v61,hv61,h⟩:=rb_ h
      refine ap [false] (iIV_1 hv61) SC (S ?_)
      refine aa (DHa_ [] []) (S ?_)
      refine ak cs h (fun cs h=>S ?_) (fun cs h=>S ?_)
      ·obtain⟨v67,hv67,h⟩:=rb_ h
       refine ap [false] (sDS_1 hv67) SC (S ?_)
       obtain⟨v75,hv75,h⟩:=rb_ h
       refine ap [false,false,false] (iSL_1 hv75) SC (S ?_)
       obtain⟨v82,hv82,h⟩:=rb_ h
       refine ap [false,false,false] (sSL_1 hv82) SC (S ?_)
       refine ak cs h (fun cs h=>S ?_) (fun cs h=>S ?_)
       ·refine ak cs h (fun cs h=>S ?_) (fun cs h=>S ?_)
        ·refine Mg.know_own (sz:=1) (es:=v67.1.Vars.map Sx) 1072 SC fun hl1072=>?_; rw[aB] at hl1072
         replace h:=rl_ h
         refine Mg.forN h (fun i18 s18=>[(0,.val (.pv (.sl false 1 (a0.map (Ik .u8))))),(9,.box (.node [(.own 1072),(.own 1073),(.pv (I v67.1.Constant))])),(10,.val (.pv (Sx v67.2.1))),(11,.box (.node [(.own 1074),(.own 1075),(.pv (I v67.2.2.Constant))])),(12,.box (.node [(.own 1200),(.own 1201),(.pv (I v75.1.Constant))])),(16,.val (.pv (I s18.1))),(17,.box (.node [(.own 9354),(.own 9355),(.pv (I v67.1.Constant))])),(18,.val (.pv (I (i18:Int))))]) (fun i18 s18=>[(1072,(1,v67.1.Vars.map Sx)),(1073,(1,v67.1.Slopes.map I)),(1074,(1,v67.2.2.Vars.map Sx)),(1075,(1,v67.2.2.Slopes.map I)),(1200,(1,v75.1.Vars.map Sx)),(1201,(1,v75.1.Slopes.map I)),(9354,(1,s18.2.1.map Sx)),(9355,(1,s18.2.2.map I))]) (aO (Sln_ (x:=(.node [(.pv (.sl true 1 [])),(.pv (.sl true 1 [])),(.pv (I v67.1.Constant))])) 17 [0] 9354 1 NM SC SC SC) (aO (Sln_ (x:=(.node [(.own 9354),(.pv (.sl true 1 [])),(.pv (I v67.1.Constant))])) 17 [1] 9355 1 NM SC SC SC) (Slm_ SC))) (fun i18 s18 hi h=>?_) (fun s18 h=>?_)
         ·have w:=ws_ (i:=i18) (by omega)
          refine S ?_
          refine aR cs (by omega) (fun cs=>S ?_)
          obtain⟨v114,hv114,h⟩:=rb_ h
          refine az (f:=Sx) hv114 SC (S ?_)
          obtain⟨v115,hv115,h⟩:=rb_ h
          refine EldH.mk (f:=Sx) hv115 rfl SC (S ?_)
          refine ak cs h (fun cs h=>S ?_) (fun cs h=>S ?_)
          ·obtain⟨v121,hv121,h⟩:=rb_ h
           refine az (f:=I) hv121 SC (S ?_)
           obtain⟨v122,hv122,h⟩:=rb_ h
           refine EldH.mk (f:=I) hv122 rfl SC (S ?_)
           have h:=rs_ h
           refine aE ⟨_,h,?_⟩
           exact Slm_ SW
          ·obtain⟨v128,hv128,h⟩:=rb_ h
           refine az (f:=Sx) hv128 SC (S ?_)
           obtain⟨v129,hv129,h⟩:=rb_ h
           refine EldH.mk (f:=Sx) hv129 rfl SC (S ?_)
           obtain⟨v131,hv131,h⟩:=rb_ h
           refine AppH.mk (f:=Sx) (fun _=>rfl) hv131 SC SC (S ?_)
           refine aa (DHa_ [] [2080,2096]) (S ?_)
           obtain⟨v138,hv138,h⟩:=rb_ h
           refine az (f:=I) hv138 SC (S ?_)
           obtain⟨v139,hv139,h⟩:=rb_ h
           refine EldH.mk (f:=I) hv139 rfl SC (S ?_)
           obtain⟨v141,hv141,h⟩:=rb_ h
           refine AppH.mk (f:=I) (fun _=>rfl) hv141 SC SC (S ?_)
           refine aa (DHa_ [] [2240,2256]) (S ?_)
           have h:=rs_ h
           refine aE ⟨_,h,?_⟩
           refine aO (Slm_1 (S:=[(0,.val (.pv (.sl false 1 (a0.map (Ik .u8))))),(9,.box (.node [(.own 1072),(.own 1073),(.pv (I v67.1.Constant))])),(10,.val (.pv (Sx v67.2.1))),(11,.box (.node [(.own 1074),(.own 1075),(.pv (I v67.2.2.Constant))])),(12,.box (.node [(.own 1200),(.own 1201),(.pv (I v75.1.Constant))])),(16,.val (.pv (I s18.1))),(17,.box (.node [(.own 2096),(.own 2256),(.pv (I v67.1.Constant))])),(18,.val (.pv (I (IntKind.i64.wrap ((i18:Int)+1)))))]) (O:=[(1072,(1,v67.1.Vars.map Sx)),(1073,(1,v67.1.Slopes.map I)),(1074,(1,v67.2.2.Vars.map Sx)),(1075,(1,v67.2.2.Slopes.map I)),(1200,(1,v75.1.Vars.map Sx)),(1201,(1,v75.1.Slopes.map I)),(2096,(1,v131.map Sx)),(2256,(1,v141.map I))]) SW SW) ?_
           refine Slr_ 2096 9354 (by decide) NM ?_
           refine aO (Slm_1 (S:=[(0,.val (.pv (.sl false 1 (a0.map (Ik .u8))))),(9,.box (.node [(.own 1072),(.own 1073),(.pv (I v67.1.Constant))])),(10,.val (.pv (Sx v67.2.1))),(11,.box (.node [(.own 1074),(.own 1075),(.pv (I v67.2.2.Constant))])),(12,.box (.node [(.own 1200),(.own 1201),(.pv (I v75.1.Constant))])),(16,.val (.pv (I s18.1))),(17,.box (.node [(.own 9354),(.own 2256),(.pv (I v67.1.Constant))])),(18,.val (.pv (I (IntKind.i64.wrap ((i18:Int)+1)))))]) (O:=[(1072,(1,v67.1.Vars.map Sx)),(1073,(1,v67.1.Slopes.map I)),(1074,(1,v67.2.2.Vars.map Sx)),(1075,(1,v67.2.2.Slopes.map I)),(1200,(1,v75.1.Vars.map Sx)),(1201,(1,v75.1.Slopes.map I)),(9354,(1,v131.map Sx)),(2256,(1,v141.map I))]) SW SW) ?_
           refine Slr_ 2256 9355 (by decide) NM ?_
           exact Slm_ SW
         ·refine S ?_
          refine aS cs (by omega) (fun cs=>S ?_)
          obtain⟨v145,hv145,h⟩:=rb_ h
          refine ap [false,false] (rLs_ hv145) SC (S ?_)
          obtain⟨v148,hv148,h⟩:=rb_ h
          refine ap [false,false] (rLs_ hv148) SC (S ?_)
          obtain⟨v152,hv152,h⟩:=rb_ h
          refine ap [false,false] (rLs_ hv152) SC (S ?_)
          refine aa (DHa_ [] []) (S ?_)
          cases rs_ h
          exact al SC
        ·refine ak cs h (fun cs h=>S ?_) (fun cs h=>S ?_)
         ·cases rs_ h
          exact al SC
         ·cases rs_ h
          exact al SC
       ·cases rs_ h
        exact al SC
      ·cases rs_ h
       exact al SC
   ·refine aa (DHa_ [] []) (S ?_)
    obtain⟨v67,hv67,h⟩:=rb_ h
    refine ap [false] (sDS_1 hv67) SC (S ?_)
    obtain⟨v75,hv75,h⟩:=rb_ h
    refine ap [false,false,false] (iSL_1 hv75) SC (S ?_)
    obtain⟨v82,hv82,h⟩:=rb_ h
    refine ap [false,false,false] (sSL_1 hv82) SC (S ?_)
    refine ak cs h (fun cs h=>S ?_) (fun cs h=>S ?_)
    ·refine ak cs h (fun cs h=>S ?_) (fun cs h=>S ?_)
     ·refine Mg.know_own (sz:=1) (es:=v67.1.Vars.map Sx) 1072 SC fun hl1072=>?_; rw[aB] at hl1072
      replace h:=rl_ h
      refine Mg.forN h (fun i18 s18=>[(0,.val (.pv (.sl false 1 (a0.map (Ik .u8))))),(9,.box (.node [(.own 1072),(.own 1073),(.pv (I v67.1.Constant))])),(10,.val (.pv (Sx v67.2.1))),(11,.box (.node [(.own 1074),(.own 1075),(.pv (I v67.2.2.Constant))])),(12,.box (.node [(.own 1200),(.own 1201),(.pv (I v75.1.Constant))])),(16,.val (.pv (I s18.1))),(17,.box (.node [(.own 9354),(.own 9355),(.pv (I v67.1.Constant))])),(18,.val (.pv (I (i18:Int))))]) (fun i18 s18=>[(1072,(1,v67.1.Vars.map Sx)),(1073,(1,v67.1.Slopes.map I)),(1074,(1,v67.2.2.Vars.map Sx)),(1075,(1,v67.2.2.Slopes.map I)),(1200,(1,v75.1.Vars.map Sx)),(1201,(1,v75.1.Slopes.map I)),(9354,(1,s18.2.1.map Sx)),(9355,(1,s18.2.2.map I))]) (aO (Sln_ (x:=(.node [(.pv (.sl true 1 [])),(.pv (.sl true 1 [])),(.pv (I v67.1.Constant))])) 17 [0] 9354 1 NM SC SC SC) (aO (Sln_ (x:=(.node [(.own 9354),(.pv (.sl true 1 [])),(.pv (I v67.1.Constant))])) 17 [1] 9355 1 NM SC SC SC) (Slm_ SC))) (fun i18 s18 hi h=>?_) (fun s18 h=>?_)
      ·have w:=ws_ (i:=i18) (by omega)
       refine S ?_
       refine aR cs (by omega) (fun cs=>S ?_)
       obtain⟨v114,hv114,h⟩:=rb_ h
       refine az (f:=Sx) hv114 SC (S ?_)
       obtain⟨v115,hv115,h⟩:=rb_ h
       refine EldH.mk (f:=Sx) hv115 rfl SC (S ?_)
       refine ak cs h (fun cs h=>S ?_) (fun cs h=>S ?_)
       ·obtain⟨v121,hv121,h⟩:=rb_ h
        refine az (f:=I) hv121 SC (S ?_)
        obtain⟨v122,hv122,h⟩:=rb_ h
        refine EldH.mk (f:=I) hv122 rfl SC (S ?_)
        have h:=rs_ h
        refine aE ⟨_,h,?_⟩
        exact Slm_ SW
       ·obtain⟨v128,hv128,h⟩:=rb_ h
        refine az (f:=Sx) hv128 SC (S ?_)
        obtain⟨v129,hv129,h⟩:=rb_ h
        refine EldH.mk (f:=Sx) hv129 rfl SC (S ?_)
        obtain⟨v131,hv131,h⟩:=rb_ h
        refine AppH.mk (f:=Sx) (fun _=>rfl) hv131 SC SC (S ?_)
        refine aa (DHa_ [] [2080,2096]) (S ?_)
        obtain⟨v138,hv138,h⟩:=rb_ h
        refine az (f:=I) hv138 SC (S ?_)
        obtain⟨v139,hv139,h⟩:=rb_ h
        refine EldH.mk (f:=I) hv139 rfl SC (S ?_)
        obtain⟨v141,hv141,h⟩:=rb_ h
        refine AppH.mk (f:=I) (fun _=>rfl) hv141 SC SC (S ?_)
        refine aa (DHa_ [] [2240,2256]) (S ?_)
        have h:=rs_ h
        refine aE ⟨_,h,?_⟩
        refine aO (Slm_1 (S:=[(0,.val (.pv (.sl false 1 (a0.map (Ik .u8))))),(9,.box (.node [(.own 1072),(.own 1073),(.pv (I v67.1.Constant))])),(10,.val (.pv (Sx v67.2.1))),(11,.box (.node [(.own 1074),(.own 1075),(.pv (I v67.2.2.Constant))])),(12,.box (.node [(.own 1200),(.own 1201),(.pv (I v75.1.Constant))])),(16,.val (.pv (I s18.1))),(17,.box (.node [(.own 2096),(.own 2256),(.pv (I v67.1.Constant))])),(18,.val (.pv (I (IntKind.i64.wrap ((i18:Int)+1)))))]) (O:=[(1072,(1,v67.1.Vars.map Sx)),(1073,(1,v67.1.Slopes.map I)),(1074,(1,v67.2.2.Vars.map Sx)),(1075,(1,v67.2.2.Slopes.map I)),(1200,(1,v75.1.Vars.map Sx)),(1201,(1,v75.1.Slopes.map I)),(2096,(1,v131.map Sx)),(2256,(1,v141.map I))]) SW SW) ?_
        refine Slr_ 2096 9354 (by decide) NM ?_
        refine aO (Slm_1 (S:=[(0,.val (.pv (.sl false 1 (a0.map (Ik .u8))))),(9,.box (.node [(.own 1072),(.own 1073),(.pv (I v67.1.Constant))])),(10,.val (.pv (Sx v67.2.1))),(11,.box (.node [(.own 1074),(.own 1075),(.pv (I v67.2.2.Constant))])),(12,.box (.node [(.own 1200),(.own 1201),(.pv (I v75.1.Constant))])),(16,.val (.pv (I s18.1))),(17,.box (.node [(.own 9354),(.own 2256),(.pv (I v67.1.Constant))])),(18,.val (.pv (I (IntKind.i64.wrap ((i18:Int)+1)))))]) (O:=[(1072,(1,v67.1.Vars.map Sx)),(1073,(1,v67.1.Slopes.map I)),(1074,(1,v67.2.2.Vars.map Sx)),(1075,(1,v67.2.2.Slopes.map I)),(1200,(1,v75.1.Vars.map Sx)),(1201,(1,v75.1.Slopes.map I)),(9354,(1,v131.map Sx)),(2256,(1,v141.map I))]) SW SW) ?_
        refine Slr_ 2256 9355 (by decide) NM ?_
        exact Slm_ SW
      ·refine S ?_
       refine aS cs (by omega) (fun cs=>S ?_)
       obtain⟨v145,hv145,h⟩:=rb_ h
       refine ap [false,false] (rLs_ hv145) SC (S ?_)
       obtain⟨v148,hv148,h⟩:=rb_ h
       refine ap [false,false] (rLs_ hv148) SC (S ?_)
       obtain⟨v152,hv152,h⟩:=rb_ h
       refine ap [false,false] (rLs_ hv152) SC (S ?_)
       refine aa (DHa_ [] []) (S ?_)
       cases rs_ h
       exact al SC
     ·refine ak cs h (fun cs h=>S ?_) (fun cs h=>S ?_)
      ·cases rs_ h
       exact al SC
      ·cases rs_ h
       exact al SC
    ·cases rs_ h
     exact al SC
  ·cases rs_ h
   exact al SC

end Go.Proofs.Ytkmfaliedpidbaa
