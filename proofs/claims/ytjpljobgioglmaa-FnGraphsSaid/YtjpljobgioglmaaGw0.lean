/- Lemmas of the proof; each says what it shows. -/
import Derived.Test.YtjpljobgioglmaaGm
import Derived.Test.YtjpljobgioglmaaGf
import Derived.Test.YtjpljobgioglmaaGinv
set_option linter.unusedSimpArgs false
set_option linter.unusedVariables false
set_option linter.defProp false
set_option maxRecDepth 4000
namespace Go.Proofs.Ytjpljobgioglmaa
open Go.Av
open And renaming intro→aa
open AppH renaming mk→bd
open CallH renaming mk→aA
open CondH renaming run→ap,t2→aR,f2→aT
open Ct renaming pv→aS
open DrawH renaming ak→aL
open FinH renaming l→am
open HandH renaming call→aU
open IdxH renaming mk→aE
open List renaming nil_append→bw,length_map→aN
open Mg renaming forN→aX,know_sl→bu
open Nat renaming le_of_ble_eq_true→bq
open PV renaming views→aB
open RdH renaming mk→aD
open Run renaming of0→aH
open Sa renaming pv→aw
open Sat renaming of_m→aJ
open Sb renaming pv→ai
open St renaming le_mk2→av
open Try renaming prog→ag
open VSeq renaming step→ah,nil→aM
open la renaming pv→aG
set_option maxHeartbeats 4000000
theorem vBig_sat{a0:List Int}  {r:Bool}(h:vBig a0=some r):Sat ag 7 [(.sl false 1 (a0.map (Ik .u8)))] (B r):=by
 obtain⟨h,cs⟩:=aH h
 unfold vBig at h
 refine aJ (nt:=6) (rs:=[.tmp 2]) (n:=100000) Try.func7 rfl rfl rfl rfl (by simp) (S ?_)
 cases run_some h
 exact am SC

theorem spec_l1Cur__next_sat{a0:la}  {r:Int×la}(h:spec_l1Cur__next a0=some r):SatH ag 69 [] [] .ptr [] (.pv ((aG false) a0)) (.pv ((aG false) r.2)) (I r.1):=by
 obtain⟨h,cs⟩:=aH h
 unfold spec_l1Cur__next at h
 refine SatH.of_k (nt:=62) (rs:=[.tmp 2]) (n:=100000) 0 Try.func69 rfl rfl rfl rfl rfl (bq rfl) (by decide) (by first | exact bq rfl | exact SC) (S ?_)
 refine aa (aL [] []) (S ?_)
 refine ap cs h (fun cs h=>S ?_) (fun cs h=>S ?_)
 ·obtain⟨v22,hv22,h⟩:=run_bind h
  refine aE (f:=(Ik .u8)) hv22 SC (S ?_)
  refine aa (aL [] []) (S ?_)
  refine aa (aL [] []) (S ?_)
  refine ap cs h (fun cs h=>S ?_) (fun cs h=>S ?_)
  ·cases run_some h
   exact RetHB.l SC
  ·obtain⟨v59,hv59,h⟩:=run_bind h
   refine ShrH.mk hv59 (S ?_)
   cases run_some h
   exact RetHB.l SC
 ·refine aa (aL [] []) (S ?_)
  refine ap cs h (fun cs h=>S ?_) (fun cs h=>S ?_)
  ·cases run_some h
   exact RetHB.l SC
  ·obtain⟨v59,hv59,h⟩:=run_bind h
   refine ShrH.mk hv59 (S ?_)
   cases run_some h
   exact RetHB.l SC

theorem spec_l1Cur__pick_sat{a0:la}{a1:Int}  {r:Int×la}(h:spec_l1Cur__pick a0 a1=some r):SatH ag 36 [] [(I a1)] .ptr [] (.pv ((aG false) a0)) (.pv ((aG false) r.2)) (I r.1):=by
 obtain⟨h,cs⟩:=aH h
 unfold spec_l1Cur__pick at h
 refine SatH.of_k (nt:=20) (rs:=[.tmp 4]) (n:=100000) 0 Try.func36 rfl rfl rfl rfl rfl (bq rfl) (by decide) (by first | exact bq rfl | exact SC) (S ?_)
 refine ap cs h (fun cs h=>S ?_) (fun cs h=>S ?_)
 ·cases run_some h
  exact RetHB.l SC
 ·obtain⟨v9,hv9,h⟩:=run_bind h
  refine aU (r:=0) (hc:=.cv (.pv ((aG false) a0))) 0 [] [] [] [] [] (spec_l1Cur__next_sat hv9) rfl rfl rfl SC (S ?_)
  refine ap cs h (fun cs h=>S ?_) (fun cs h=>S ?_)
  ·obtain⟨v15,hv15,h⟩:=run_bind h
   refine aU (r:=0) (hc:=.cv (.pv ((aG false) v9.2))) 0 [] [] [] [] [] (spec_l1Cur__next_sat hv15) rfl rfl rfl SC (S ?_)
   obtain⟨v19,hv19,h⟩:=run_bind h
   refine remH.mk hv19 (S ?_)
   cases run_some h
   exact RetHB.l SC
  ·obtain⟨v19,hv19,h⟩:=run_bind h
   refine remH.mk hv19 (S ?_)
   cases run_some h
   exact RetHB.l SC

theorem spec_l1Cur__one_sat{a0:la}{a1:Int}  {r:Bool×la}(h:spec_l1Cur__one a0 a1=some r):SatH ag 37 [] [(I a1)] .ptr [] (.pv ((aG false) a0)) (.pv ((aG false) r.2)) (B r.1):=by
 obtain⟨h,cs⟩:=aH h
 unfold spec_l1Cur__one at h
 refine SatH.of_k (nt:=9) (rs:=[.tmp 4]) (n:=100000) 0 Try.func37 rfl rfl rfl rfl rfl (bq rfl) (by decide) (by first | exact bq rfl | exact SC) (S ?_)
 obtain⟨v7,hv7,h⟩:=run_bind h
 refine aU (r:=0) (hc:=.cv (.pv ((aG false) a0))) 0 [] [_] [] [(.pv (I a1))] [false] (spec_l1Cur__pick_sat hv7) rfl rfl rfl SC (S ?_)
 cases run_some h
 exact RetHB.l SC

theorem spec_l1Cur__sizeGraph_sat{a0:la}{a1:Int}{a2:Int}{a3:Int}{a4:Int}  {r:Sb×la}(h:spec_l1Cur__sizeGraph a0 a1 a2 a3 a4=some r):SatH ag 67 [] [(I a1),(I a2),(I a3),(I a4)] .ptr [] (.pv ((aG false) a0)) (.pv ((aG false) r.2)) ((ai true) r.1):=by
 obtain⟨h,cs⟩:=aH h
 unfold spec_l1Cur__sizeGraph at h
 refine SatH.of_k (nt:=49) (rs:=[.cell 10 26]) (n:=100000) 0 Try.func67 rfl rfl rfl rfl rfl (bq rfl) (by decide) (by first | exact bq rfl | exact SC) (S ?_)
 obtain⟨N3,hN3,h⟩:=run_bind h
 obtain⟨hN3a,hN3b⟩:=bnd_some hN3
 replace h:=run_loop h
 refine aX h (fun i3 s3=>[(0,.box (.pv ((aG false) s3.1))),(3,.val (.pv (I a3))),(4,.val (.pv (I a4))),(10,.box zab0),(11,.box (.node [(.pv (I a1)),(.pv (I a2)),(.own 9309)])),(12,.val (.pv (I (i3:Int)))),(20000,gh 0)]) (fun i3 s3=>[(9309,(3,s3.2.map (aw false)))]) (St.le_trans (St.le_nilB (x:=(.node [(.pv (I a1)),(.pv (I a2)),(.pv (.sl true 3 []))])) 11 [2] 9309 3 NM SC SC SC) (av SC)) (fun i3 s3 hi h=>?_) (fun s3 h=>?_)
 ·have w:=wrap_succ (i:=i3) (by omega)
  refine S ?_
  refine aR cs (by omega) (fun cs=>S ?_)
  obtain⟨N6,hN6,h⟩:=run_bind h
  obtain⟨hN6a,hN6b⟩:=bnd_some hN6
  replace h:=run_loop h
  refine aX h (fun i6 s6=>[(0,.box (.pv ((aG false) s6.1))),(3,.val (.pv (I a3))),(4,.val (.pv (I a4))),(10,.box zab0),(11,.box (.node [(.pv (I a1)),(.pv (I a2)),(.own 9309)])),(12,.val (.pv (I (i3:Int)))),(13,.val (.pv (I (i6:Int)))),(20000,gh 0)]) (fun i6 s6=>[(9309,(3,s6.2.map (aw false)))]) (av SC) (fun i6 s6 hi h=>?_) (fun s6 h=>?_)
  ·have w:=aa (wrap_succ (i:=i6) (by omega)) w
   refine S ?_
   refine aR cs (by omega) (fun cs=>S ?_)
   obtain⟨v28,hv28,h⟩:=run_bind h
   refine aU (r:=0) (hc:=.cv (.pv ((aG false) s6.1))) 0 [] [_] [] [(.pv (I 3))] [false] (spec_l1Cur__one_sat hv28) rfl rfl rfl SC (S ?_)
   refine ap cs h (fun cs h=>S ?_) (fun cs h=>S ?_)
   ·obtain⟨v43,hv43,h⟩:=run_bind h
    refine aU (r:=0) (hc:=.cv (.pv ((aG false) v28.2))) 0 [] [_] [] [(.pv (I 2))] [false] (spec_l1Cur__one_sat hv43) rfl rfl rfl SC (S ?_)
    obtain⟨v46,hv46,h⟩:=run_bind h
    refine bd (f:=(aw false)) (fun a=>Sa.psize _ a) hv46 SC SC (S ?_)
    refine aa (aL [] [720,736]) (S ?_)
    have h:=run_some h
    refine aD ⟨_,h,?_⟩
    refine St.le_rt 736 9309 ?_
    exact av SWx
   ·refine ap cs h (fun cs h=>S ?_) (fun cs h=>S ?_)
    ·obtain⟨v35,hv35,h⟩:=run_bind h
     refine aU (r:=0) (hc:=.cv (.pv ((aG false) v28.2))) 0 [] [_] [] [(.pv (I 2))] [false] (spec_l1Cur__one_sat hv35) rfl rfl rfl SC (S ?_)
     refine ap cs h (fun cs h=>S ?_) (fun cs h=>S ?_)
     ·obtain⟨v43,hv43,h⟩:=run_bind h
      refine aU (r:=0) (hc:=.cv (.pv ((aG false) v35.2))) 0 [] [_] [] [(.pv (I 2))] [false] (spec_l1Cur__one_sat hv43) rfl rfl rfl SC (S ?_)
      obtain⟨v46,hv46,h⟩:=run_bind h
      refine bd (f:=(aw false)) (fun a=>Sa.psize _ a) hv46 SC SC (S ?_)
      refine aa (aL [] [720,736]) (S ?_)
      have h:=run_some h
      refine aD ⟨_,h,?_⟩
      refine St.le_rt 736 9309 ?_
      exact av SWx
     ·have h:=run_some h
      refine aD ⟨_,h,?_⟩
      exact av SWx
    ·have h:=run_some h
     refine aD ⟨_,h,?_⟩
     exact av SWx
  ·refine S ?_
   refine aT cs (by omega) (fun cs=>S ?_)
   have h:=run_some h
   refine aD ⟨_,h,?_⟩
   exact av SWx
 ·refine S ?_
  refine aT cs (by omega) (fun cs=>S ?_)
  cases run_some h
  exact RetHB.l SC

theorem spec_l1Cur__among_sat{a0:la}{a1:List Int}  {r:Int×la}(h:spec_l1Cur__among a0 a1=some r):SatH ag 68 [] [(.sl false 1 (a1.map I))] .ptr [] (.pv ((aG false) a0)) (.pv ((aG false) r.2)) (I r.1):=by
 obtain⟨h,cs⟩:=aH h
 unfold spec_l1Cur__among at h
 refine SatH.of_k (nt:=12) (rs:=[.tmp 4]) (n:=100000) 0 Try.func68 rfl rfl rfl rfl rfl (bq rfl) (by decide) (by first | exact bq rfl | exact SC) (S ?_)
 obtain⟨v9,hv9,h⟩:=run_bind h
 refine aU (r:=0) (hc:=.cv (.pv ((aG false) a0))) 0 [] [_] [] [(.pv (I (a1.length:Int)))] [false] (spec_l1Cur__pick_sat hv9) rfl rfl rfl SC (S ?_)
 obtain⟨v10,hv10,h⟩:=run_bind h
 refine aE (f:=I) hv10 SC (S ?_)
 cases run_some h
 exact RetHB.l SC

theorem spec_l1Cur__anySizeGraph_sat{a0:la}{a1:Int}{a2:Int}  {r:Sb×la}(h:spec_l1Cur__anySizeGraph a0 a1 a2=some r):SatH ag 35 [] [(I a1),(I a2)] .ptr [] (.pv ((aG false) a0)) (.pv ((aG false) r.2)) ((ai true) r.1):=by
 obtain⟨h,cs⟩:=aH h
 unfold spec_l1Cur__anySizeGraph at h
 refine SatH.of_k (nt:=43) (rs:=[.cell 6 26]) (n:=100000) 0 Try.func35 rfl rfl rfl rfl rfl (bq rfl) (by decide) (by first | exact bq rfl | exact SC) (S ?_)
 obtain⟨v12,hv12,h⟩:=run_bind h
 refine aU (r:=0) (hc:=.cv (.pv ((aG false) a0))) 0 [] [_] [] [(.pv (I 4))] [false] (spec_l1Cur__pick_sat hv12) rfl rfl rfl SC (S ?_)
 obtain⟨v15,hv15,h⟩:=run_bind h
 refine aU (r:=0) (hc:=.cv (.pv ((aG false) v12.2))) 0 [] [_] [] [(.pv (I 4))] [false] (spec_l1Cur__pick_sat hv15) rfl rfl rfl SC (S ?_)
 obtain⟨v17,hv17,h⟩:=run_bind h
 refine aU (r:=0) (hc:=.cv (.pv ((aG false) v15.2))) 0 [] [_,_,_,_] [] [(.pv (I a1)),(.pv (I a2)),(.pv (I (IntKind.i64.wrap ((1:Int)+v12.1)))),(.pv (I (IntKind.i64.wrap ((1:Int)+v15.1))))] [false,false,false,false] (spec_l1Cur__sizeGraph_sat hv17) rfl rfl rfl SC (S ?_)
 obtain⟨v19,hv19,h⟩:=run_bind h
 refine aU (r:=0) (hc:=.cv (.pv ((aG false) v17.2))) 0 [] [_] [] [(.pv (I 30))] [false] (spec_l1Cur__pick_sat hv19) rfl rfl rfl SC (S ?_)
 refine ap cs h (fun cs h=>S ?_) (fun cs h=>S ?_)
 ·obtain⟨v24,hv24,h⟩:=run_bind h
  refine aU (r:=0) (hc:=.cv (.pv ((aG false) v19.2))) (pre:=[]) (post:=[(.sl true 1 (([(-1:Int),(6:Int)]).map I))]) 0 [] [_] [] [(.own 368)] [true] (SatH.give [true] (spec_l1Cur__among_sat hv24) (by first | rfl | simp only[gv_t,gv_f,gv_n,view_sl,view_agg,view_lit,views_I,views_Sx,views_repB,views_repI,aB,bw,List.cons_append]) rfl) rfl rfl rfl SC (S ?_)
  cases run_some h
  exact RetHB.l SC
 ·refine ap cs h (fun cs h=>S ?_) (fun cs h=>S ?_)
  ·obtain⟨v32,hv32,h⟩:=run_bind h
   refine bd (f:=(aw false)) (fun a=>Sa.psize _ a) hv32 SC SC (S ?_)
   cases run_some h
   exact RetHB.l SC
  ·refine ap cs h (fun cs h=>S ?_) (fun cs h=>S ?_)
   ·obtain⟨v40,hv40,h⟩:=run_bind h
    refine bd (f:=(aw false)) (fun a=>Sa.psize _ a) hv40 SC SC (S ?_)
    cases run_some h
    exact RetHB.l SC
   ·cases run_some h
    exact RetHB.l SC

theorem spec_DrawComposeGraphs_sat{a0:List Int}  {r:Sb×Sb}(h:spec_DrawComposeGraphs a0=some r):Sat ag 8 [(.sl false 1 (a0.map (Ik .u8)))] (.tup [((ai true) r.1),((ai true) r.2)]):=by
 obtain⟨h,cs⟩:=aH h
 unfold spec_DrawComposeGraphs at h
 refine aJ (nt:=28) (rs:=[.cell 2 26,.cell 3 26]) (n:=100000) Try.func8 rfl rfl rfl rfl (by simp) (S ?_)
 obtain⟨v12,hv12,h⟩:=run_bind h
 refine aU (r:=9) (hc:=.cv (.node [(.pv (.sl false 1 (a0.map (Ik .u8)))),(.pv (I 0)),(.pv ((Ik .u64) (0:Int)))])) 0 [] [_] [] [(.pv (I 3))] [false] (spec_l1Cur__pick_sat hv12) rfl rfl rfl SC (S ?_)
 obtain⟨v14,hv14,h⟩:=run_bind h
 refine aU (r:=9) (hc:=.cv (.pv ((aG false) v12.2))) 0 [] [_] [] [(.pv (I 2))] [false] (spec_l1Cur__pick_sat hv14) rfl rfl rfl SC (S ?_)
 obtain⟨v15,hv15,h⟩:=run_bind h
 refine aU (r:=9) (hc:=.cv (.pv ((aG false) v14.2))) 0 [] [_,_] [] [(.pv (I v12.1)),(.pv (I v14.1))] [false,false] (spec_l1Cur__anySizeGraph_sat hv15) rfl rfl rfl SC (S ?_)
 obtain⟨v19,hv19,h⟩:=run_bind h
 refine aU (r:=9) (hc:=.cv (.pv ((aG false) v15.2))) 0 [] [_] [] [(.pv (I 12))] [false] (spec_l1Cur__one_sat hv19) rfl rfl rfl SC (S ?_)
 refine ap cs h (fun cs h=>S ?_) (fun cs h=>S ?_)
 ·obtain⟨v26,hv26,h⟩:=run_bind h
  refine aU (r:=9) (hc:=.cv (.pv ((aG false) v19.2))) 0 [] [_] [] [(.pv (I 3))] [false] (spec_l1Cur__pick_sat hv26) rfl rfl rfl SC (S ?_)
  obtain⟨v27,hv27,h⟩:=run_bind h
  refine aU (r:=9) (hc:=.cv (.pv ((aG false) v26.2))) 0 [] [_,_] [] [(.pv (I (IntKind.i64.wrap (v15.1.Target+1)))),(.pv (I v26.1))] [false,false] (spec_l1Cur__anySizeGraph_sat hv27) rfl rfl rfl SC (S ?_)
  refine aa (aL [] [432]) (S ?_)
  cases run_some h
  exact am SC
 ·obtain⟨v26,hv26,h⟩:=run_bind h
  refine aU (r:=9) (hc:=.cv (.pv ((aG false) v19.2))) 0 [] [_] [] [(.pv (I 3))] [false] (spec_l1Cur__pick_sat hv26) rfl rfl rfl SC (S ?_)
  obtain⟨v27,hv27,h⟩:=run_bind h
  refine aU (r:=9) (hc:=.cv (.pv ((aG false) v26.2))) 0 [] [_,_] [] [(.pv (I v15.1.Target)),(.pv (I v26.1))] [false,false] (spec_l1Cur__anySizeGraph_sat hv27) rfl rfl rfl SC (S ?_)
  refine aa (aL [] [432]) (S ?_)
  cases run_some h
  exact am SC

theorem vCut_sat{a0:List Int}{a1:Int}  {r:List Int}(h:vCut a0 a1=some r):Sat ag 9 [(.sl false 1 (a0.map (Ik .u8))),(I a1)] (.sl true 1 (r.map (Ik .u8))):=by
 obtain⟨h,cs⟩:=aH h
 unfold vCut at h
 refine aJ (nt:=20) (rs:=[.tmp 4]) (n:=100000) Try.func9 rfl rfl rfl rfl (by simp) (S ?_)
 refine ap cs h (fun cs h=>S ?_) (fun cs h=>S ?_)
 ·obtain⟨v14,hv14,h⟩:=run_bind h
  refine SlcH.mk (f:=(Ik .u8)) hv14 SC (S ?_)
  obtain⟨v15,hv15,h⟩:=run_bind h
  refine bd (f:=(Ik .u8)) (fun _=>rfl) hv15 SC SC (S ?_)
  obtain⟨v19,hv19,h⟩:=run_bind h
  refine bd (f:=(Ik .u8)) (fun _=>rfl) hv19 SC SC (S ?_)
  cases run_some h
  exact am SC
 ·obtain⟨v14,hv14,h⟩:=run_bind h
  refine SlcH.mk (f:=(Ik .u8)) hv14 SC (S ?_)
  obtain⟨v15,hv15,h⟩:=run_bind h
  refine bd (f:=(Ik .u8)) (fun _=>rfl) hv15 SC SC (S ?_)
  obtain⟨v19,hv19,h⟩:=run_bind h
  refine bd (f:=(Ik .u8)) (fun _=>rfl) hv19 SC SC (S ?_)
  cases run_some h
  exact am SC

theorem impl_within_sat{a0:Int}{a1:Int}{a2:Int}  {r:Bool}(h:impl_within a0 a1 a2=some r):Sat ag 70 [(I a0),(I a1),(I a2)] (B r):=by
 obtain⟨h,cs⟩:=aH h
 unfold impl_within at h
 refine aJ (nt:=15) (rs:=[.tmp 6]) (n:=100000) Try.func70 rfl rfl rfl rfl (by simp) (S ?_)
 refine ap cs h (fun cs h=>S ?_) (fun cs h=>S ?_)
 ·cases run_some h
  exact am SC
 ·cases run_some h
  exact am SC

theorem cmp_isNaN_int_sat{a0:Int}  {r:Bool}(h:cmp_isNaN_int a0=some r):Sat ag 111 [(I a0)] (B r):=by
 obtain⟨h,cs⟩:=aH h
 unfold cmp_isNaN_int at h
 refine aJ (nt:=6) (rs:=[.tmp 2]) (n:=100000) Try.func111 rfl rfl rfl rfl (by simp) (S ?_)
 cases run_some h
 exact am SC

theorem cmp_Compare_int_sat{a0:Int}{a1:Int}  {r:Int}(h:cmp_Compare_int a0 a1=some r):Sat ag 99 [(I a0),(I a1)] (I r):=by
 obtain⟨h,cs⟩:=aH h
 unfold cmp_Compare_int at h
 refine aJ (nt:=20) (rs:=[.tmp 4]) (n:=100000) Try.func99 rfl rfl rfl rfl (by simp) (S ?_)
 obtain⟨v8,hv8,h⟩:=run_bind h
 refine aA [false] (cmp_isNaN_int_sat hv8) SC (S ?_)
 obtain⟨v10,hv10,h⟩:=run_bind h
 refine aA [false] (cmp_isNaN_int_sat hv10) SC (S ?_)
 refine ap cs h (fun cs h=>S ?_) (fun cs h=>S ?_)
 ·refine ap cs h (fun cs h=>S ?_) (fun cs h=>S ?_)
  ·cases run_some h
   exact am SC
  ·cases run_some h
   exact am SC
 ·refine ap cs h (fun cs h=>S ?_) (fun cs h=>S ?_)
  ·cases run_some h
   exact am SC
  ·refine ap cs h (fun cs h=>S ?_) (fun cs h=>S ?_)
   ·cases run_some h
    exact am SC
   ·refine ap cs h (fun cs h=>S ?_) (fun cs h=>S ?_)
    ·cases run_some h
     exact am SC
    ·cases run_some h
     exact am SC

theorem cmp_Or_int_sat{a0:List Int}  {r:Int}(h:cmp_Or_int a0=some r):Sat ag 98 [(.sl false 1 (a0.map I))] (I r):=by
 obtain⟨h,cs⟩:=aH h
 unfold cmp_Or_int at h
 refine aJ (nt:=18) (rs:=[.tmp 2]) (n:=100000) Try.func98 rfl rfl rfl rfl (by simp) (S ?_)
 refine bu (b:=false) (sz:=1) (es:=a0.map I) 0 SC fun hl0=>?_; rw[aN] at hl0
 replace h:=run_loop h
 refine aX h (fun i3 s3=>[(3,.val (.pv (I 0))),(6,.val (.pv (.sl false 1 (a0.map I)))),(7,.val (.pv (I (a0.length:Int)))),(8,.val (.pv (I (i3:Int))))]) (fun i3 s3=>[]) (av SC) (fun i3 s3 hi h=>?_) (fun s3 h=>?_)
 ·have w:=wrap_succ (i:=i3) (by omega)
  refine S ?_
  refine aR cs (by omega) (fun cs=>S ?_)
  obtain⟨v10,hv10,h⟩:=run_bind h
  refine aE (f:=I) hv10 SC (S ?_)
  refine ap cs h (fun cs h=>S ?_) (fun cs h=>S ?_)
  ·have h:=run_some h
   refine aD ⟨_,h,?_⟩
   exact av SWx
  ·cases run_some h
   exact am SC
 ·refine S ?_
  refine aT cs (by omega) (fun cs=>S ?_)
  cases run_some h
  exact am SC

theorem impl_compareEdges_sat{a0:Sa}{a1:Sa}  {r:Int}(h:impl_compareEdges a0 a1=some r):Sat ag 71 [((aw false) a0),((aw false) a1)] (I r):=by
 obtain⟨h,cs⟩:=aH h
 unfold impl_compareEdges at h
 refine aJ (nt:=17) (rs:=[.tmp 4]) (n:=100000) Try.func71 rfl rfl rfl rfl (by simp) (S ?_)
 obtain⟨v9,hv9,h⟩:=run_bind h
 refine aA [false,false] (cmp_Compare_int_sat hv9) SC (S ?_)
 obtain⟨v14,hv14,h⟩:=run_bind h
 refine aA [false,false] (cmp_Compare_int_sat hv14) SC (S ?_)
 obtain⟨v16,hv16,h⟩:=run_bind h
 refine aA [false] (cmp_Or_int_sat hv16) SC (S ?_)
 refine aa (aL [] [240]) (S ?_)
 cases run_some h
 exact am SC

theorem impl_IsValidGraph_sat{a0:Sb}  {r:Bool}(h:impl_IsValidGraph a0=some r):Sat ag 38 [((ai false) a0)] (B r):=by
 obtain⟨h,cs⟩:=aH h
 unfold impl_IsValidGraph at h
 refine aJ (nt:=47) (rs:=[.tmp 2]) (n:=100000) Try.func38 rfl rfl rfl rfl (by simp) (S ?_)
 refine bu (b:=false) (sz:=3) (es:=a0.Edges.map (aw false)) 6 SC fun hl6=>?_; rw[aN] at hl6
 replace h:=run_loop h
 refine aX h (fun i2 s2=>[(1,.box (.pv ((ai false) a0))),(6,.val (.pv (.sl false 3 (a0.Edges.map (aw false))))),(7,.val (.pv (I (a0.Edges.length:Int)))),(8,.val (.pv (I (i2:Int))))]) (fun i2 s2=>[]) (av SC) (fun i2 s2 hi h=>?_) (fun s2 h=>?_)
 ·have w:=wrap_succ (i:=i2) (by omega)
  refine S ?_
  refine aR cs (by omega) (fun cs=>S ?_)
  obtain⟨v11,hv11,h⟩:=run_bind h
  refine aE (f:=(aw false)) hv11 SC (S ?_)
  obtain⟨v15,hv15,h⟩:=run_bind h
  refine aA [false,false,false] (impl_within_sat hv15) SC (S ?_)
  refine ap cs h (fun cs h=>S ?_) (fun cs h=>S ?_)
  ·obtain⟨v20,hv20,h⟩:=run_bind h
   refine aA [false,false,false] (impl_within_sat hv20) SC (S ?_)
   refine ap cs h (fun cs h=>S ?_) (fun cs h=>S ?_)
   ·refine ap cs h (fun cs h=>S ?_) (fun cs h=>S ?_)
    ·obtain⟨v31,hv31,h⟩:=run_bind h
     refine aE (f:=(aw false)) hv31 SC (S ?_)
     obtain⟨v34,hv34,h⟩:=run_bind h
     refine aA [false,false] (impl_compareEdges_sat hv34) SC (S ?_)
     refine aa (aL [] []) (S ?_)
     refine ap cs h (fun cs h=>S ?_) (fun cs h=>S ?_)
     ·cases run_some h
      exact am SC
     ·have h:=run_some h
      refine aD ⟨_,h,?_⟩
      exact av SWx
    ·refine aa (aL [] []) (S ?_)
     have h:=run_some h
     refine aD ⟨_,h,?_⟩
     exact av SWx
   ·refine aa (aL [] []) (S ?_)
    cases run_some h
    exact am SC
  ·refine aa (aL [] []) (S ?_)
   cases run_some h
   exact am SC
 ·refine S ?_
  refine aT cs (by omega) (fun cs=>S ?_)
  obtain⟨v41,hv41,h⟩:=run_bind h
  refine aA [false,false,false] (impl_within_sat hv41) SC (S ?_)
  refine ap cs h (fun cs h=>S ?_) (fun cs h=>S ?_)
  ·obtain⟨v45,hv45,h⟩:=run_bind h
   refine aA [false,false,false] (impl_within_sat hv45) SC (S ?_)
   cases run_some h
   exact am SC
  ·cases run_some h
   exact am SC

theorem slices_BinarySearchFunc_Simpl_SizeEdge_impl_SizeEdge_impl_SizeEdge_sat{a0:List Sa}{a1:Sa}{a2:Sa→Sa→Option Int}{a2_id:FuncId}{a2_cs:List PV}(a2_ok:∀ y0 y1 r,a2 y0 y1=some r→Sat ag a2_id (((aw false) y0)::((aw false) y1)::a2_cs) (I r))(a2_cz:CapsOk a2_cs=True){r:Int×Bool}(h:slices_BinarySearchFunc_Simpl_SizeEdge_impl_SizeEdge_impl_SizeEdge a0 a1 a2=some r):Sat ag 72 [(.sl false 3 (a0.map (aw false))),((aw false) a1),.clo a2_id a2_cs] (.tup [(I r.1),(B r.2)]):=by
 obtain⟨h,cs⟩:=aH h
 unfold slices_BinarySearchFunc_Simpl_SizeEdge_impl_SizeEdge_impl_SizeEdge at h
 have cs:=aa a2_cz cs
 refine aJ (nt:=49) (rs:=[.tmp 6,.tmp 7]) (n:=100000) Try.func72 rfl rfl rfl rfl (by simp) (S ?_)
 replace h:=run_loop h
 refine Mg.whileN h (fun s3=>[(0,.val (.pv (.sl false 3 (a0.map (aw false))))),(2,.val (.pv (.clo a2_id a2_cs))),(4,.box (.pv ((aw false) a1))),(8,.val (.pv (I (a0.length:Int)))),(9,.val (.pv (I s3.1))),(10,.val (.pv (I s3.2)))]) (fun s3=>[]) (av SC) (fun n3 s3 h=>?_)
 refine S ?_
 refine ap cs h (fun cs h=>S ?_) (fun cs h=>S ?_)
 ·obtain⟨v22,hv22,h⟩:=run_bind h
  refine ShrH.mk hv22 (S ?_)
  obtain⟨v27,hv27,h⟩:=run_bind h
  refine aE (f:=(aw false)) hv27 SC (S ?_)
  obtain⟨v30,hv30,h⟩:=run_bind h
  refine aA [false,false] (a2_ok _ _ _ hv30) SC (S ?_)
  refine aa (aL [] []) (S ?_)
  refine ap cs h (fun cs h=>S ?_) (fun cs h=>S ?_)
  ·have h:=run_some h
   refine aD ⟨_,h,?_⟩
   exact av SC
  ·have h:=run_some h
   refine aD ⟨_,h,?_⟩
   exact av SC
 ·have h:=run_some h
  refine ap cs h (fun cs h=>S ?_) (fun cs h=>S ?_)
  ·obtain⟨v43,hv43,h⟩:=run_bind h
   refine aE (f:=(aw false)) hv43 SC (S ?_)
   obtain⟨v46,hv46,h⟩:=run_bind h
   refine aA [false,false] (a2_ok _ _ _ hv46) SC (S ?_)
   refine aa (aL [] []) (S ?_)
   cases run_some h
   exact am SC
  ·refine aa (aL [] []) (S ?_)
   cases run_some h
   exact am SC


theorem impl_compose_sat{a0:Sb}{a1:Sb}  {r:Sb}(h:impl_compose a0 a1=some r):Sat ag 39 [((ai false) a0),((ai false) a1)] ((ai true) r):=by
 obtain⟨h,cs⟩:=aH h
 unfold impl_compose at h
 refine aJ (nt:=81) (rs:=[.cell 4 26]) (n:=100000) Try.func39 rfl rfl rfl rfl (by simp) (S ?_)
 refine bu (b:=false) (sz:=3) (es:=a0.Edges.map (aw false)) 19 SC fun hl19=>?_; rw[aN] at hl19
 replace h:=run_loop h
 refine aX h (fun i3 s3=>[(3,.box (.pv ((ai false) a1))),(4,.box zab0),(5,.box (.node [(.pv (I a0.Source)),(.pv (I a1.Target)),(.own 9309)])),(19,.val (.pv (.sl false 3 (a0.Edges.map (aw false))))),(20,.val (.pv (I (a0.Edges.length:Int)))),(21,.val (.pv (I (i3:Int))))]) (fun i3 s3=>[(9309,(3,s3.map (aw false)))]) (St.le_trans (St.le_nilB (x:=(.node [(.pv (I a0.Source)),(.pv (I a1.Target)),(.pv (.sl true 3 []))])) 5 [2] 9309 3 NM SC SC SC) (av SC)) (fun i3 s3 hi h=>?_) (fun s3 h=>?_)
 ·have w:=wrap_succ (i:=i3) (by omega)
  refine S ?_
  refine aR cs (by omega) (fun cs=>S ?_)
  obtain⟨v23,hv23,h⟩:=run_bind h
  refine aE (f:=(aw false)) hv23 SC (S ?_)
  refine bu (b:=false) (sz:=3) (es:=a1.Edges.map (aw false)) 26 SC fun hl26=>?_; rw[aN] at hl26
  replace h:=run_loop h
  refine aX h (fun i6 s6=>[(3,.box (.pv ((ai false) a1))),(4,.box zab0),(5,.box (.node [(.pv (I a0.Source)),(.pv (I a1.Target)),(.own 9309)])),(7,.box (.pv ((aw false) v23))),(19,.val (.pv (.sl false 3 (a0.Edges.map (aw false))))),(20,.val (.pv (I (a0.Edges.length:Int)))),(21,.val (.pv (I (i3:Int)))),(26,.val (.pv (.sl false 3 (a1.Edges.map (aw false))))),(27,.val (.pv (I (a1.Edges.length:Int)))),(28,.val (.pv (I (i6:Int))))]) (fun i6 s6=>[(9309,(3,s6.map (aw false)))]) (av SC) (fun i6 s6 hi h=>?_) (fun s6 h=>?_)
  ·have w:=aa (wrap_succ (i:=i6) (by omega)) w
   refine S ?_
   refine aR cs (by omega) (fun cs=>S ?_)
   obtain⟨v30,hv30,h⟩:=run_bind h
   refine aE (f:=(aw false)) hv30 SC (S ?_)
   refine ap cs h (fun cs h=>S ?_) (fun cs h=>S ?_)
   ·refine ap cs h (fun cs h=>S ?_) (fun cs h=>S ?_)
    ·obtain⟨v52,hv52,h⟩:=run_bind h
     refine aA [false,false,false] (slices_BinarySearchFunc_Simpl_SizeEdge_impl_SizeEdge_impl_SizeEdge_sat (fun _ _ _ hh=>impl_compareEdges_sat hh) (by simp only[CapsOk_nil,CapsOk_cons]) hv52) SC (S ?_)
     refine ap cs h (fun cs h=>S ?_) (fun cs h=>S ?_)
     ·obtain⟨v62,hv62,h⟩:=run_bind h
      refine aE (f:=(aw false)) hv62 SC (S ?_)
      obtain⟨v64,hv64,h⟩:=run_bind h
      refine EldH.mk (f:=(aw false)) hv64 rfl SC (S ?_)
      refine ap cs h (fun cs h=>S ?_) (fun cs h=>S ?_)
      ·obtain⟨v69,hv69,h⟩:=run_bind h
       refine aE (f:=(aw false)) hv69 SC (S ?_)
       obtain⟨w7,hw7,h⟩:=run_bind h
       refine EldH.mk (f:=(aw false)) hw7 rfl SC (S ?_)
       refine aa (aL [] []) (S ?_)
       have h:=run_some h
       refine aD ⟨_,h,?_⟩
       exact av SWx
      ·obtain⟨v69,hv69,h⟩:=run_bind h
       refine aE (f:=(aw false)) hv69 SC (S ?_)
       obtain⟨w8,hw8,h⟩:=run_bind h
       refine EldH.mk (f:=(aw false)) hw8 rfl SC (S ?_)
       refine aa (aL [] []) (S ?_)
       have h:=run_some h
       refine aD ⟨_,h,?_⟩
       exact av SWx
     ·obtain⟨v76,hv76,h⟩:=run_bind h
      refine aA [true,false,true] (slices_InsertE_sat hv76) SC (S ?_)
      have h:=run_some h
      refine aD ⟨_,h,?_⟩
      refine St.le_rt 1216 9309 ?_
      exact av SWx
    ·obtain⟨v52,hv52,h⟩:=run_bind h
     refine aA [false,false,false] (slices_BinarySearchFunc_Simpl_SizeEdge_impl_SizeEdge_impl_SizeEdge_sat (fun _ _ _ hh=>impl_compareEdges_sat hh) (by simp only[CapsOk_nil,CapsOk_cons]) hv52) SC (S ?_)
     refine ap cs h (fun cs h=>S ?_) (fun cs h=>S ?_)
     ·obtain⟨v62,hv62,h⟩:=run_bind h
      refine aE (f:=(aw false)) hv62 SC (S ?_)
      obtain⟨v64,hv64,h⟩:=run_bind h
      refine EldH.mk (f:=(aw false)) hv64 rfl SC (S ?_)
      refine ap cs h (fun cs h=>S ?_) (fun cs h=>S ?_)
      ·obtain⟨v69,hv69,h⟩:=run_bind h
       refine aE (f:=(aw false)) hv69 SC (S ?_)
       obtain⟨w11,hw11,h⟩:=run_bind h
       refine EldH.mk (f:=(aw false)) hw11 rfl SC (S ?_)
       refine aa (aL [] []) (S ?_)
       have h:=run_some h
       refine aD ⟨_,h,?_⟩
       exact av SWx
      ·obtain⟨v69,hv69,h⟩:=run_bind h
       refine aE (f:=(aw false)) hv69 SC (S ?_)
       obtain⟨w12,hw12,h⟩:=run_bind h
       refine EldH.mk (f:=(aw false)) hw12 rfl SC (S ?_)
       refine aa (aL [] []) (S ?_)
       have h:=run_some h
       refine aD ⟨_,h,?_⟩
       exact av SWx
     ·obtain⟨v76,hv76,h⟩:=run_bind h
      refine aA [true,false,true] (slices_InsertE_sat hv76) SC (S ?_)
      have h:=run_some h
      refine aD ⟨_,h,?_⟩
      refine St.le_rt 1216 9309 ?_
      exact av SWx
   ·have h:=run_some h
    refine aD ⟨_,h,?_⟩
    exact av SWx
  ·refine S ?_
   refine aT cs (by omega) (fun cs=>S ?_)
   have h:=run_some h
   refine aD ⟨_,h,?_⟩
   exact av SWx
 ·refine S ?_
  refine aT cs (by omega) (fun cs=>S ?_)
  cases run_some h
  exact am SC

theorem impl_ComposeGraphs_sat{a0:Sb}{a1:Sb}  {r:Sb×Bool}(h:impl_ComposeGraphs a0 a1=some r):Sat ag 10 [((ai false) a0),((ai false) a1)] (.tup [((ai true) r.1),(B r.2)]):=by
 obtain⟨h,cs⟩:=aH h
 unfold impl_ComposeGraphs at h
 refine aJ (nt:=25) (rs:=[.cell 4 26,.tmp 5]) (n:=100000) Try.func10 rfl rfl rfl rfl (by simp) (S ?_)
 obtain⟨v7,hv7,h⟩:=run_bind h
 refine aA [false] (impl_IsValidGraph_sat hv7) SC (S ?_)
 refine ap cs h (fun cs h=>S ?_) (fun cs h=>S ?_)
 ·obtain⟨v11,hv11,h⟩:=run_bind h
  refine aA [false] (impl_IsValidGraph_sat hv11) SC (S ?_)
  refine ap cs h (fun cs h=>S ?_) (fun cs h=>S ?_)
  ·refine ap cs h (fun cs h=>S ?_) (fun cs h=>S ?_)
   ·obtain⟨v24,hv24,h⟩:=run_bind h
    refine aA [false,false] (impl_compose_sat hv24) SC (S ?_)
    cases run_some h
    exact am SC
   ·cases run_some h
    exact am SC
  ·cases run_some h
   exact am SC
 ·cases run_some h
  exact am SC

theorem spec_l1In_sat{a0:Int}{a1:Int}{a2:Int}  {r:Bool}(h:spec_l1In a0 a1 a2=some r):Sat ag 74 [(I a0),(I a1),(I a2)] (B r):=by
 obtain⟨h,cs⟩:=aH h
 unfold spec_l1In at h
 refine aJ (nt:=15) (rs:=[.tmp 6]) (n:=100000) Try.func74 rfl rfl rfl rfl (by simp) (S ?_)
 refine ap cs h (fun cs h=>S ?_) (fun cs h=>S ?_)
 ·cases run_some h
  exact am SC
 ·cases run_some h
  exact am SC

theorem spec_l24Graph_sat{a0:Sb}  {r:Bool}(h:spec_l24Graph a0=some r):Sat ag 40 [((ai false) a0)] (B r):=by
 obtain⟨h,cs⟩:=aH h
 unfold spec_l24Graph at h
 refine aJ (nt:=64) (rs:=[.tmp 2]) (n:=100000) Try.func40 rfl rfl rfl rfl (by simp) (S ?_)
 obtain⟨v7,hv7,h⟩:=run_bind h
 refine aA [false,false,false] (spec_l1In_sat hv7) SC (S ?_)
 refine ap cs h (fun cs h=>S ?_) (fun cs h=>S ?_)
 ·obtain⟨v12,hv12,h⟩:=run_bind h
  refine aA [false,false,false] (spec_l1In_sat hv12) SC (S ?_)
  refine ap cs h (fun cs h=>S ?_) (fun cs h=>S ?_)
  ·refine Mg.know_val2 (b:=false) (sz:=3) (es:=a0.Edges.map (aw false)) (x:=(.pv ((ai false) a0))) 0 [2] SC fun hl0=>?_; rw[aN] at hl0
   replace h:=run_loop h
   refine aX h (fun i4 s4=>[(1,.box (.pv ((ai false) a0))),(3,.val (.pv (I (i4:Int))))]) (fun i4 s4=>[]) (av SC) (fun i4 s4 hi h=>?_) (fun s4 h=>?_)
   ·have w:=wrap_succ (i:=i4) (by omega)
    refine S ?_
    refine aR cs (by omega) (fun cs=>S ?_)
    obtain⟨v25,hv25,h⟩:=run_bind h
    refine aE (f:=(aw false)) hv25 SC (S ?_)
    obtain⟨v29,hv29,h⟩:=run_bind h
    refine aA [false,false,false] (spec_l1In_sat hv29) SC (S ?_)
    refine ap cs h (fun cs h=>S ?_) (fun cs h=>S ?_)
    ·obtain⟨v34,hv34,h⟩:=run_bind h
     refine aA [false,false,false] (spec_l1In_sat hv34) SC (S ?_)
     refine ap cs h (fun cs h=>S ?_) (fun cs h=>S ?_)
     ·refine ap cs h (fun cs h=>S ?_) (fun cs h=>S ?_)
      ·obtain⟨v44,hv44,h⟩:=run_bind h
       refine aE (f:=(aw false)) hv44 SC (S ?_)
       obtain⟨v52,hv52,h⟩:=run_bind h
       refine aE (f:=(aw false)) hv52 SC (S ?_)
       refine aa (aL [] []) (S ?_)
       refine ap cs h (fun cs h=>S ?_) (fun cs h=>S ?_)
       ·cases run_some h
        exact am SC
       ·have h:=run_some h
        refine aD ⟨_,h,?_⟩
        exact av SWx
      ·refine aa (aL [] []) (S ?_)
       have h:=run_some h
       refine aD ⟨_,h,?_⟩
       exact av SWx
     ·cases run_some h
      exact am SC
    ·cases run_some h
     exact am SC
   ·refine S ?_
    refine aT cs (by omega) (fun cs=>S ?_)
    cases run_some h
    exact am SC
  ·cases run_some h
   exact am SC
 ·cases run_some h
  exact am SC

theorem spec_l24Level_sat{a0:Sb}{a1:Int}{a2:Int}  {r:Int}(h:spec_l24Level a0 a1 a2=some r):Sat ag 75 [((ai false) a0),(I a1),(I a2)] (I r):=by
 obtain⟨h,cs⟩:=aH h
 unfold spec_l24Level at h
 refine aJ (nt:=39) (rs:=[.tmp 6]) (n:=100000) Try.func75 rfl rfl rfl rfl (by simp) (S ?_)
 refine Mg.know_val2 (b:=false) (sz:=3) (es:=a0.Edges.map (aw false)) (x:=(.pv ((ai false) a0))) 0 [2] SC fun hl0=>?_; rw[aN] at hl0
 replace h:=run_loop h
 refine aX h (fun i2 s2=>[(1,.val (.pv (I a1))),(2,.val (.pv (I a2))),(3,.box (.pv ((ai false) a0))),(7,.val (.pv (I (i2:Int))))]) (fun i2 s2=>[]) (av SC) (fun i2 s2 hi h=>?_) (fun s2 h=>?_)
 ·have w:=wrap_succ (i:=i2) (by omega)
  refine S ?_
  refine aR cs (by omega) (fun cs=>S ?_)
  obtain⟨v18,hv18,h⟩:=run_bind h
  refine aE (f:=(aw false)) hv18 SC (S ?_)
  refine ap cs h (fun cs h=>S ?_) (fun cs h=>S ?_)
  ·obtain⟨v27,hv27,h⟩:=run_bind h
   refine aE (f:=(aw false)) hv27 SC (S ?_)
   refine ap cs h (fun cs h=>S ?_) (fun cs h=>S ?_)
   ·obtain⟨v36,hv36,h⟩:=run_bind h
    refine aE (f:=(aw false)) hv36 SC (S ?_)
    refine ap cs h (fun cs h=>S ?_) (fun cs h=>S ?_)
    ·cases run_some h
     exact am SC
    ·cases run_some h
     exact am SC
   ·have h:=run_some h
    refine aD ⟨_,h,?_⟩
    exact av SWx
  ·have h:=run_some h
   refine aD ⟨_,h,?_⟩
   exact av SWx
 ·refine S ?_
  refine aT cs (by omega) (fun cs=>S ?_)
  cases run_some h
  exact am SC

theorem spec_l1Most_sat{a0:Int}{a1:Int}  {r:Int}(h:spec_l1Most a0 a1=some r):Sat ag 76 [(I a0),(I a1)] (I r):=by
 obtain⟨h,cs⟩:=aH h
 unfold spec_l1Most at h
 refine aJ (nt:=10) (rs:=[.tmp 4]) (n:=100000) Try.func76 rfl rfl rfl rfl (by simp) (S ?_)
 refine ap cs h (fun cs h=>S ?_) (fun cs h=>S ?_)
 ·cases run_some h
  exact am SC
 ·cases run_some h
  exact am SC

theorem spec_l24Compose_sat{a0:Sb}{a1:Sb}  {r:Sb}(h:spec_l24Compose a0 a1=some r):Sat ag 41 [((ai false) a0),((ai false) a1)] ((ai true) r):=by
 obtain⟨h,cs⟩:=aH h
 unfold spec_l24Compose at h
 refine aJ (nt:=62) (rs:=[.cell 4 26]) (n:=100000) Try.func41 rfl rfl rfl rfl (by simp) (S ?_)
 replace h:=run_loop h
 refine aX h (fun i3 s3=>[(2,.box (.pv ((ai false) a0))),(3,.box (.pv ((ai false) a1))),(4,.box zab0),(5,.box (.node [(.pv (I a0.Source)),(.pv (I a1.Target)),(.own 256)])),(6,.val (.pv (I (i3:Int))))]) (fun i3 s3=>[(256,(3,s3.map (aw false)))]) (av SC) (fun i3 s3 hi h=>?_) (fun s3 h=>?_)
 ·have w:=wrap_succ (i:=i3) (by omega)
  refine S ?_
  refine aR cs (by omega) (fun cs=>S ?_)
  replace h:=run_loop h
  refine aX h (fun i6 s6=>[(2,.box (.pv ((ai false) a0))),(3,.box (.pv ((ai false) a1))),(4,.box zab0),(5,.box (.node [(.pv (I a0.Source)),(.pv (I a1.Target)),(.own 256)])),(6,.val (.pv (I (i3:Int)))),(7,.val (.pv (I (i6:Int))))]) (fun i6 s6=>[(256,(3,s6.map (aw false)))]) (av SC) (fun i6 s6 hi h=>?_) (fun s6 h=>?_)
  ·have w:=aa (wrap_succ (i:=i6) (by omega)) w
   refine S ?_
   refine aR cs (by omega) (fun cs=>S ?_)
   replace h:=run_loop h
   refine aX h (fun i10 s10=>[(2,.box (.pv ((ai false) a0))),(3,.box (.pv ((ai false) a1))),(4,.box zab0),(5,.box (.node [(.pv (I a0.Source)),(.pv (I a1.Target)),(.own 256)])),(6,.val (.pv (I (i3:Int)))),(7,.val (.pv (I (i6:Int)))),(8,.val (.pv (I s10))),(9,.val (.pv (I (i10:Int))))]) (fun i10 s10=>[(256,(3,s6.map (aw false)))]) (av SC) (fun i10 s10 hi h=>?_) (fun s10 h=>?_)
   ·have w:=aa (wrap_succ (i:=i10) (by omega)) w
    refine S ?_
    refine aR cs (by omega) (fun cs=>S ?_)
    obtain⟨v33,hv33,h⟩:=run_bind h
    refine aA [false,false,false] (spec_l24Level_sat hv33) SC (S ?_)
    obtain⟨v37,hv37,h⟩:=run_bind h
    refine aA [false,false,false] (spec_l24Level_sat hv37) SC (S ?_)
    refine aa (aL [] []) (S ?_)
    refine ap cs h (fun cs h=>S ?_) (fun cs h=>S ?_)
    ·refine ap cs h (fun cs h=>S ?_) (fun cs h=>S ?_)
     ·obtain⟨v47,hv47,h⟩:=run_bind h
      refine aA [false,false] (spec_l1Most_sat hv47) SC (S ?_)
      obtain⟨v48,hv48,h⟩:=run_bind h
      refine aA [false,false] (spec_l1Most_sat hv48) SC (S ?_)
      have h:=run_some h
      refine aD ⟨_,h,?_⟩
      exact av SWx
     ·have h:=run_some h
      refine aD ⟨_,h,?_⟩
      exact av SWx
    ·have h:=run_some h
     refine aD ⟨_,h,?_⟩
     exact av SWx
   ·refine S ?_
    refine aT cs (by omega) (fun cs=>S ?_)
    refine ap cs h (fun cs h=>S ?_) (fun cs h=>S ?_)
    ·obtain⟨v59,hv59,h⟩:=run_bind h
     refine bd (f:=(aw false)) (fun a=>Sa.psize _ a) hv59 SC SC (S ?_)
     have h:=run_some h
     refine aD ⟨_,h,?_⟩
     refine St.le_rt 944 256 ?_
     exact av SWx
    ·have h:=run_some h
     refine aD ⟨_,h,?_⟩
     exact av SWx
  ·refine S ?_
   refine aT cs (by omega) (fun cs=>S ?_)
   have h:=run_some h
   refine aD ⟨_,h,?_⟩
   exact av SWx
 ·refine S ?_
  refine aT cs (by omega) (fun cs=>S ?_)
  cases run_some h
  exact am SC

theorem spec_ComposeGraphs_sat{a0:Sb}{a1:Sb}  {r:Sb×Bool}(h:spec_ComposeGraphs a0 a1=some r):Sat ag 11 [((ai false) a0),((ai false) a1)] (.tup [((ai true) r.1),(B r.2)]):=by
 obtain⟨h,cs⟩:=aH h
 unfold spec_ComposeGraphs at h
 refine aJ (nt:=25) (rs:=[.cell 4 26,.tmp 5]) (n:=100000) Try.func11 rfl rfl rfl rfl (by simp) (S ?_)
 obtain⟨v7,hv7,h⟩:=run_bind h
 refine aA [false] (spec_l24Graph_sat hv7) SC (S ?_)
 refine ap cs h (fun cs h=>S ?_) (fun cs h=>S ?_)
 ·obtain⟨v11,hv11,h⟩:=run_bind h
  refine aA [false] (spec_l24Graph_sat hv11) SC (S ?_)
  refine ap cs h (fun cs h=>S ?_) (fun cs h=>S ?_)
  ·refine ap cs h (fun cs h=>S ?_) (fun cs h=>S ?_)
   ·obtain⟨v24,hv24,h⟩:=run_bind h
    refine aA [false,false] (spec_l24Compose_sat hv24) SC (S ?_)
    cases run_some h
    exact am SC
   ·cases run_some h
    exact am SC
  ·cases run_some h
   exact am SC
 ·cases run_some h
  exact am SC

theorem rGraph_sat{a0:Sb}{a1:Sb}  {r:Bool}(h:rGraph a0 a1=some r):Sat ag 12 [((ai false) a0),((ai false) a1)] (B r):=by
 obtain⟨h,cs⟩:=aH h
 unfold rGraph at h
 refine aJ (nt:=45) (rs:=[.tmp 4]) (n:=100000) Try.func12 rfl rfl rfl rfl (by simp) (S ?_)
 refine ap cs h (fun cs h=>S ?_) (fun cs h=>S ?_)
 ·refine ap cs h (fun cs h=>S ?_) (fun cs h=>S ?_)
  ·refine ap cs h (fun cs h=>S ?_) (fun cs h=>S ?_)
   ·refine bu (b:=false) (sz:=3) (es:=a0.Edges.map (aw false)) 20 SC fun hl20=>?_; rw[aN] at hl20
    replace h:=run_loop h
    refine aX h (fun i4 s4=>[(2,.box (.pv ((ai false) a0))),(3,.box (.pv ((ai false) a1))),(5,.val (.pv (I (i4:Int))))]) (fun i4 s4=>[]) (av SC) (fun i4 s4 hi h=>?_) (fun s4 h=>?_)
    ·have w:=wrap_succ (i:=i4) (by omega)
     refine S ?_
     refine aR cs (by omega) (fun cs=>S ?_)
     obtain⟨v37,hv37,h⟩:=run_bind h
     refine aE (f:=(aw false)) hv37 SC (S ?_)
     obtain⟨v42,hv42,h⟩:=run_bind h
     refine aE (f:=(aw false)) hv42 SC (S ?_)
     refine aa (aL [] []) (S ?_)
     refine ap cs h (fun cs h=>S ?_) (fun cs h=>S ?_)
     ·have h:=run_some h
      refine aD ⟨_,h,?_⟩
      exact av SWx
     ·cases run_some h
      exact am SC
    ·refine S ?_
     refine aT cs (by omega) (fun cs=>S ?_)
     cases run_some h
     exact am SC
   ·cases run_some h
    exact am SC
  ·cases run_some h
   exact am SC
 ·cases run_some h
  exact am SC

theorem spec_l1Cur__cyclic_sat{a0:la}  {r:Ct×la}(h:spec_l1Cur__cyclic a0=some r):SatH ag 95 [] [] .ptr [] (.pv ((aG false) a0)) (.pv ((aG false) r.2)) ((aS true) r.1):=by
 obtain⟨h,cs⟩:=aH h
 unfold spec_l1Cur__cyclic at h
 refine SatH.of_k (nt:=69) (rs:=[.cell 2 36]) (n:=100000) 0 Try.func95 rfl rfl rfl rfl rfl (bq rfl) (by decide) (by first | exact bq rfl | exact SC) (S ?_)
 obtain⟨v12,hv12,h⟩:=run_bind h
 refine aU (r:=0) (hc:=.cv (.pv ((aG false) a0))) (pre:=[]) (post:=[(.sl true 1 (([(1:Int),(1:Int),(2:Int),(2:Int),(3:Int),(6:Int)]).map I))]) 0 [] [_] [] [(.own 176)] [true] (SatH.give [true] (spec_l1Cur__among_sat hv12) (by first | rfl | simp only[gv_t,gv_f,gv_n,view_sl,view_agg,view_lit,views_I,views_Sx,views_repB,views_repI,aB,bw,List.cons_append]) rfl) rfl rfl rfl SC (S ?_)
 obtain⟨N4,hN4,h⟩:=run_bind h
 obtain⟨hN4a,hN4b⟩:=bnd_some hN4
 replace h:=run_loop h
 refine aX h (fun i4 s4=>[(0,.box (.pv ((aG false) s4.1))),(2,.box (.node [(.pv (.sl true 1 [])),(.pv (.sl true 3 []))])),(3,.box (.node [(.own 9312),(.pv (.sl true 3 []))])),(4,.val (.pv (I v12.1))),(5,.val (.pv (I (i4:Int)))),(20000,gh 0)]) (fun i4 s4=>[(9312,(1,s4.2.map I))]) (St.le_trans (St.le_nilB (x:=(.node [(.pv (.sl true 1 [])),(.pv (.sl true 3 []))])) 3 [0] 9312 1 NM SC SC SC) (av SC)) (fun i4 s4 hi h=>?_) (fun s4 h=>?_)
 ·have w:=wrap_succ (i:=i4) (by omega)
  refine S ?_
  refine aR cs (by omega) (fun cs=>S ?_)
  obtain⟨v23,hv23,h⟩:=run_bind h
  refine aU (r:=0) (hc:=.cv (.pv ((aG false) s4.1))) 0 [] [_] [] [(.pv (I 7))] [false] (spec_l1Cur__pick_sat hv23) rfl rfl rfl SC (S ?_)
  obtain⟨v24,hv24,h⟩:=run_bind h
  refine quoH.mk hv24 (S ?_)
  obtain⟨v26,hv26,h⟩:=run_bind h
  refine SlcOH.mk (f:=I) hv26 SC (S ?_)
  obtain⟨v27,hv27,h⟩:=run_bind h
  refine aU (r:=0) (hc:=.cv (.pv ((aG false) v23.2))) (pre:=[]) (post:=[(.sl true 1 (v26.map I))]) 0 [] [_] [] [(.own 416)] [true] (SatH.give [true] (spec_l1Cur__among_sat hv27) (by first | rfl | simp only[gv_t,gv_f,gv_n,view_sl,view_agg,view_lit,views_I,views_Sx,views_repB,views_repI,aB,bw,List.cons_append]) rfl) rfl rfl rfl SC (S ?_)
  obtain⟨v29,hv29,h⟩:=run_bind h
  refine bd (f:=I) (fun _=>rfl) hv29 SC SC (S ?_)
  refine aa (aL [] [336,416,448,464]) (S ?_)
  have h:=run_some h
  refine aD ⟨_,h,?_⟩
  refine St.le_rt 464 9312 ?_
  exact av SWx
 ·refine S ?_
  refine aT cs (by omega) (fun cs=>S ?_)
  obtain⟨v34,hv34,h⟩:=run_bind h
  refine aU (r:=0) (hc:=.cv (.pv ((aG false) s4.1))) 0 [] [_] [] [(.pv (I 9))] [false] (spec_l1Cur__pick_sat hv34) rfl rfl rfl SC (S ?_)
  obtain⟨v35,hv35,h⟩:=run_bind h
  refine quoH.mk hv35 (S ?_)
  obtain⟨v37,hv37,h⟩:=run_bind h
  refine SlcOH.mk (f:=I) hv37 SC (S ?_)
  obtain⟨v38,hv38,h⟩:=run_bind h
  refine aU (r:=0) (hc:=.cv (.pv ((aG false) v34.2))) (pre:=[]) (post:=[(.sl true 1 (v37.map I))]) 0 [] [_] [] [(.own 592)] [true] (SatH.give [true] (spec_l1Cur__among_sat hv38) (by first | rfl | simp only[gv_t,gv_f,gv_n,view_sl,view_agg,view_lit,views_I,views_Sx,views_repB,views_repI,aB,bw,List.cons_append]) rfl) rfl rfl rfl SC (S ?_)
  replace h:=run_loop h
  refine Mg.whileN h (fun s8=>[(0,.box (.pv ((aG false) s8.1))),(2,.box (.node [(.pv (.sl true 1 [])),(.pv (.sl true 3 []))])),(3,.box (.node [(.own 9312),(.own 9324)])),(4,.val (.pv (I v12.1))),(6,.val (.pv (I s8.2.1))),(20000,gh 0)]) (fun s8=>[(9312,(1,s4.2.map I)),(9324,(3,s8.2.2.map (ai true)))]) (St.le_trans (St.le_nilB (x:=(.node [(.own 9312),(.pv (.sl true 3 []))])) 3 [1] 9324 3 NM SC SC SC) (av SC)) (fun n8 s8 h=>?_)
  refine S ?_
  refine ap cs h (fun cs h=>S ?_) (fun cs h=>S ?_)
  ·obtain⟨v45,hv45,h⟩:=run_bind h
   refine aU (r:=0) (hc:=.cv (.pv ((aG false) s8.1))) 0 [] [_] [] [(.pv (I v12.1))] [false] (spec_l1Cur__pick_sat hv45) rfl rfl rfl SC (S ?_)
   obtain⟨v48,hv48,h⟩:=run_bind h
   refine aU (r:=0) (hc:=.cv (.pv ((aG false) v45.2))) 0 [] [_] [] [(.pv (I v12.1))] [false] (spec_l1Cur__pick_sat hv48) rfl rfl rfl SC (S ?_)
   obtain⟨v57,hv57,h⟩:=run_bind h
   refine aE (f:=I) hv57 SC (S ?_)
   obtain⟨v58,hv58,h⟩:=run_bind h
   refine EldH.mk (f:=I) hv58 rfl SC (S ?_)
   obtain⟨v62,hv62,h⟩:=run_bind h
   refine aE (f:=I) hv62 SC (S ?_)
   obtain⟨v63,hv63,h⟩:=run_bind h
   refine EldH.mk (f:=I) hv63 rfl SC (S ?_)
   obtain⟨v64,hv64,h⟩:=run_bind h
   refine aU (r:=0) (hc:=.cv (.pv ((aG false) v48.2))) 0 [] [_,_,_,_] [] [(.pv (I v45.1)),(.pv (I v48.1)),(.pv (I v58)),(.pv (I v63))] [false,false,false,false] (spec_l1Cur__sizeGraph_sat hv64) rfl rfl rfl SC (S ?_)
   obtain⟨v66,hv66,h⟩:=run_bind h
   refine bd (f:=(ai true)) (fun a=>Sb.psize _ a) hv66 SC SC (S ?_)
   refine aa (aL [] [1024,1040,1056]) (S ?_)
   have h:=run_some h
   refine aD ⟨_,h,?_⟩
   refine St.le_rt 1056 9324 ?_
   exact av SC
  ·have h:=run_some h
   cases run_some h
   exact RetHB.l SC

theorem spec_l1Cur__anyCyclic_sat{a0:la}  {r:Ct×la}(h:spec_l1Cur__anyCyclic a0=some r):SatH ag 59 [] [] .ptr [] (.pv ((aG false) a0)) (.pv ((aG false) r.2)) ((aS false) r.1):=by
 obtain⟨h,cs⟩:=aH h
 unfold spec_l1Cur__anyCyclic at h
 refine SatH.of_ki (nt:=67) (rs:=[.cell 2 36]) (n:=100000) 0 Try.func59 rfl rfl rfl rfl rfl (bq rfl) (by decide) (by first | exact bq rfl | exact SC) (S ?_)
 refine ah (S ?_)
 refine aM (Nat.le_of_eq rfl) (S ?_)
 refine ah (S ?_)
 refine ah (S ?_)
 obtain⟨v6,hv6,h⟩:=run_bind h
 refine aU (r:=0) (hc:=.cv (.pv ((aG false) a0))) 0 [] [] [] [] [] (spec_l1Cur__cyclic_sat hv6) rfl rfl rfl SC (S ?_)
 refine ah (S ?_)
 refine ah (S ?_)
 refine aM (Nat.le_of_eq rfl) (S ?_)
 refine ah (S ?_)
 refine ah (S ?_)
 obtain⟨v8,hv8,h⟩:=run_bind h
 refine aU (r:=0) (hc:=.cv (.pv ((aG false) v6.2))) 0 [] [_] [] [(.pv (I 30))] [false] (spec_l1Cur__pick_sat hv8) rfl rfl rfl SC (S ?_)
 refine aM (Nat.le_of_eq rfl) (S ?_)
 refine ah (S ?_)
 refine ah (S ?_)
 refine aM (Nat.le_of_eq rfl) (S ?_)
 refine ap cs h (fun cs h=>S ?_) (fun cs h=>S ?_)
 ·obtain⟨v15,hv15,h⟩:=run_bind h
  refine aU (r:=0) (hc:=.cv (.pv ((aG false) v8.2))) (pre:=[]) (post:=[(.sl true 1 (([(-1:Int),(5:Int),(4:Int)]).map I))]) 0 [] [_] [] [(.own 224)] [true] (SatH.give [true] (spec_l1Cur__among_sat hv15) (by first | rfl | simp only[gv_t,gv_f,gv_n,view_sl,view_agg,view_lit,views_I,views_Sx,views_repB,views_repI,aB,bw,List.cons_append]) rfl) rfl rfl rfl SC (S ?_)
  obtain⟨v17,hv17,h⟩:=run_bind h
  refine bd (f:=I) (fun _=>rfl) hv17 SC SC (S ?_)
  refine aa (aL [] [224,256,272]) (S ?_)
  refine VSeq.demB (x:=(.node [(.own 272),(.own 97)])) (sz:=1) (es:=v17.map I) 3 [0] 272 SC (S ?_)
  refine VSeq.demB (x:=(.node [(.pv (.sl false 1 (v17.map I))),(.own 97)])) (sz:=3) (es:=v6.1.Calls.map (ai true)) 3 [1] 97 SC (S ?_)
  refine ah (S ?_)
  refine ah (S ?_)
  refine aM (Nat.le_of_eq rfl) (S ?_)
  cases run_some h
  exact RetHB.r SC
 ·refine ah (S ?_)
  refine ah (S ?_)
  refine aM (Nat.le_of_eq rfl) (S ?_)
  refine ap cs h (fun cs h=>S ?_) (fun cs h=>S ?_)
  ·refine ah (S ?_)
   refine VSeq.demB (x:=(.node [(.own 96),(.own 97)])) (sz:=1) (es:=v6.1.Arities.map I) 3 [0] 96 SC (S ?_)
   refine ah (S ?_)
   refine ah (S ?_)
   obtain⟨v23,hv23,h⟩:=run_bind h
   refine SlcH.mk (f:=I) hv23 SC (S ?_)
   refine ah (S ?_)
   refine ah (S ?_)
   refine aM (Nat.le_of_eq rfl) (S ?_)
   refine VSeq.demB (x:=(.node [(.pv (.sl false 1 (v23.map I))),(.own 97)])) (sz:=3) (es:=v6.1.Calls.map (ai true)) 3 [1] 97 SC (S ?_)
   refine ah (S ?_)
   refine ah (S ?_)
   refine aM (Nat.le_of_eq rfl) (S ?_)
   cases run_some h
   exact RetHB.r SC
  ·refine ah (S ?_)
   refine ah (S ?_)
   refine aM (Nat.le_of_eq rfl) (S ?_)
   refine ap cs h (fun cs h=>S ?_) (fun cs h=>S ?_)
   ·obtain⟨v31,hv31,h⟩:=run_bind h
    refine aU (r:=0) (hc:=.cv (.pv ((aG false) v8.2))) 0 [] [_] [] [(.pv (I 3))] [false] (spec_l1Cur__pick_sat hv31) rfl rfl rfl SC (S ?_)
    obtain⟨v32,hv32,h⟩:=run_bind h
    refine aU (r:=0) (hc:=.cv (.pv ((aG false) v31.2))) 0 [] [_,_] [] [(.pv (I 0)),(.pv (I v31.1))] [false,false] (spec_l1Cur__anySizeGraph_sat hv32) rfl rfl rfl SC (S ?_)
    obtain⟨v34,hv34,h⟩:=run_bind h
    refine bd (f:=(ai true)) (fun a=>Sb.psize _ a) hv34 SC SC (S ?_)
    refine aa (aL [] [512,528,544]) (S ?_)
    refine VSeq.demB (x:=(.node [(.own 96),(.own 544)])) (sz:=1) (es:=v6.1.Arities.map I) 3 [0] 96 SC (S ?_)
    refine VSeq.demB (x:=(.node [(.pv (.sl false 1 (v6.1.Arities.map I))),(.own 544)])) (sz:=3) (es:=v34.map (ai true)) 3 [1] 544 SC (S ?_)
    refine ah (S ?_)
    refine ah (S ?_)
    refine aM (Nat.le_of_eq rfl) (S ?_)
    cases run_some h
    exact RetHB.r SC
   ·refine ah (S ?_)
    refine ah (S ?_)
    refine aM (Nat.le_of_eq rfl) (S ?_)
    refine ap cs h (fun cs h=>S ?_) (fun cs h=>S ?_)
    ·replace h:=run_loop h
     refine MgI.whileN h (fun s10=>[(0,.box (.pv ((aG false) s10.1))),(2,.box (.node [(.pv (.sl true 1 [])),(.pv (.sl true 3 []))])),(3,.box (.node [(.own 96),(.own 97)])),(20000,gh 0)]) (fun s10=>[(96,(1,v6.1.Arities.map I)),(97,(3,s10.2.map (ai true)))]) (av SC) (fun n10 s10 h=>?_)
     refine S ?_
     obtain⟨v42,hv42,h⟩:=run_bind h
     refine aU (r:=0) (hc:=.cv (.pv ((aG false) s10.1))) 0 [] [_] [] [(.pv (I 2))] [false] (spec_l1Cur__pick_sat hv42) rfl rfl rfl SC (S ?_)
     refine aa (aL [] []) (S ?_)
     refine ap cs h (fun cs h=>S ?_) (fun cs h=>S ?_)
     ·refine ah (S ?_)
      refine ah (S ?_)
      refine ah (S ?_)
      refine ah (S ?_)
      refine ah (S ?_)
      obtain⟨v49,hv49,h⟩:=run_bind h
      refine bd (f:=(ai true)) (fun a=>Sb.psize _ a) hv49 SC SC (S ?_)
      refine ah (S ?_)
      refine ah (S ?_)
      refine aM (Nat.le_of_eq rfl) (S ?_)
      have h:=run_some h
      refine aD ⟨_,h,?_⟩
      refine St.le_rt 784 97 ?_
      exact av SC
     ·refine VSeq.demB (x:=(.node [(.own 96),(.own 97)])) (sz:=1) (es:=v6.1.Arities.map I) 3 [0] 96 SC (S ?_)
      refine VSeq.demB (x:=(.node [(.pv (.sl false 1 (v6.1.Arities.map I))),(.own 97)])) (sz:=3) (es:=s10.2.map (ai true)) 3 [1] 97 SC (S ?_)
      refine ah (S ?_)
      refine ah (S ?_)
      refine aM (Nat.le_of_eq rfl) (S ?_)
      cases run_some h
      exact RetHB.r SC
    ·refine ah (S ?_)
     refine ah (S ?_)
     refine aM (Nat.le_of_eq rfl) (S ?_)
     refine ap cs h (fun cs h=>S ?_) (fun cs h=>S ?_)
     ·refine ah (S ?_)
      refine ah (S ?_)
      refine ah (S ?_)
      refine aM (Nat.le_of_eq rfl) (S ?_)
      refine ah (S ?_)
      refine aM (Nat.le_of_eq rfl) (S ?_)
      replace h:=run_loop h
      refine MgI.forN h (fun i15 s15=>[(0,.box (.pv ((aG false) s15.1))),(2,.box (.node [(.pv (.sl true 1 [])),(.pv (.sl true 3 []))])),(3,.box (.node [(.own 848),(.own 9345)])),(4,.val (.pv (I (i15:Int)))),(20000,gh 0)]) (fun i15 s15=>[(848,(1,([(4:Int)]).map I)),(9345,(3,s15.2.map (ai true)))]) (St.le_trans (St.le_nilB (x:=(.node [(.own 848),(.pv (.sl true 3 []))])) 3 [1] 9345 3 NM SC SC SC) (av SC)) (fun i15 s15 hi h=>?_) (fun s15 h=>?_)
      ·have w:=wrap_succ (i:=i15) (by omega)
       refine S ?_
       refine ah (S ?_)
       refine ah (S ?_)
       refine aM (Nat.le_of_eq rfl) (S ?_)
       refine aR cs (by omega) (fun cs=>S ?_)
       obtain⟨v62,hv62,h⟩:=run_bind h
       refine aU (r:=0) (hc:=.cv (.pv ((aG false) s15.1))) 0 [] [_,_,_,_] [] [(.pv (I 0)),(.pv (I 0)),(.pv (I 4)),(.pv (I 4))] [false,false,false,false] (spec_l1Cur__sizeGraph_sat hv62) rfl rfl rfl SC (S ?_)
       obtain⟨v64,hv64,h⟩:=run_bind h
       refine bd (f:=(ai true)) (fun a=>Sb.psize _ a) hv64 SC SC (S ?_)
       refine aa (aL [] [992,1008,1024]) (S ?_)
       refine ah (S ?_)
       refine ah (S ?_)
       refine ah (S ?_)
       refine aM (Nat.le_of_eq rfl) (S ?_)
       have h:=run_some h
       refine aD ⟨_,h,?_⟩
       refine St.le_rt 1024 9345 ?_
       exact av SWx
      ·refine S ?_
       refine ah (S ?_)
       refine ah (S ?_)
       refine aM (Nat.le_of_eq rfl) (S ?_)
       refine aT cs (by omega) (fun cs=>S ?_)
       refine VSeq.demB (x:=(.node [(.own 848),(.own 9345)])) (sz:=1) (es:=([(4:Int)]).map I) 3 [0] 848 SC (S ?_)
       refine VSeq.demB (x:=(.node [(.pv (.sl false 1 (([(4:Int)]).map I))),(.own 9345)])) (sz:=3) (es:=s15.2.map (ai true)) 3 [1] 9345 SC (S ?_)
       refine ah (S ?_)
       refine ah (S ?_)
       refine aM (Nat.le_of_eq rfl) (S ?_)
       cases run_some h
       exact RetHB.r SC
     ·refine VSeq.demB (x:=(.node [(.own 96),(.own 97)])) (sz:=1) (es:=v6.1.Arities.map I) 3 [0] 96 SC (S ?_)
      refine VSeq.demB (x:=(.node [(.pv (.sl false 1 (v6.1.Arities.map I))),(.own 97)])) (sz:=3) (es:=v6.1.Calls.map (ai true)) 3 [1] 97 SC (S ?_)
      refine ah (S ?_)
      refine ah (S ?_)
      refine aM (Nat.le_of_eq rfl) (S ?_)
      cases run_some h
      exact RetHB.r SC

theorem spec_DrawIsValidCyclic_sat{a0:List Int}  {r:Ct}(h:spec_DrawIsValidCyclic a0=some r):Sat ag 42 [(.sl false 1 (a0.map (Ik .u8)))] ((aS false) r):=by
 obtain⟨h,cs⟩:=aH h
 unfold spec_DrawIsValidCyclic at h
 refine aJ (nt:=9) (rs:=[.cell 2 36]) (n:=100000) Try.func42 rfl rfl rfl rfl (by simp) (S ?_)
 obtain⟨v8,hv8,h⟩:=run_bind h
 refine aU (r:=6) (hc:=.cv (.node [(.pv (.sl false 1 (a0.map (Ik .u8)))),(.pv (I 0)),(.pv ((Ik .u64) (0:Int)))])) 0 [] [] [] [] [] (spec_l1Cur__anyCyclic_sat hv8) rfl rfl rfl SC (S ?_)
 cases run_some h
 exact FinH.r SC

theorem spec_DrawGraphClosure_sat{a0:List Int}  {r:Ct}(h:spec_DrawGraphClosure a0=some r):Sat ag 13 [(.sl false 1 (a0.map (Ik .u8)))] ((aS false) r):=by
 obtain⟨h,cs⟩:=aH h
 unfold spec_DrawGraphClosure at h
 refine aJ (nt:=5) (rs:=[.cell 2 36]) (n:=100000) Try.func13 rfl rfl rfl rfl (by simp) (S ?_)
 obtain⟨v4,hv4,h⟩:=run_bind h
 refine aA [false] (spec_DrawIsValidCyclic_sat hv4) SC (S ?_)
 cases run_some h
 exact FinH.r SC

theorem impl_IsValidCyclic_1_sat{a0:Int}  {r:Bool}(h:impl_IsValidCyclic_1 a0=some r):Sat ag 78 [(I a0)] (B r):=by
 obtain⟨h,cs⟩:=aH h
 unfold impl_IsValidCyclic_1 at h
 refine aJ (nt:=6) (rs:=[.tmp 2]) (n:=100000) Try.func78 rfl rfl rfl rfl (by simp) (S ?_)
 obtain⟨v4,hv4,h⟩:=run_bind h
 refine aA [false,false,false] (impl_within_sat hv4) SC (S ?_)
 cases run_some h
 exact am SC

theorem slices_IndexFunc_Sint_int_sat{a0:List Int}{a1:Int→Option Bool}{a1_id:FuncId}{a1_cs:List PV}(a1_ok:∀ y0 r,a1 y0=some r→Sat ag a1_id ((I y0)::a1_cs) (B r))(a1_cz:CapsOk a1_cs=True){r:Int}(h:slices_IndexFunc_Sint_int a0 a1=some r):Sat ag 102 [(.sl false 1 (a0.map I)),.clo a1_id a1_cs] (I r):=by
 obtain⟨h,cs⟩:=aH h
 unfold slices_IndexFunc_Sint_int at h
 have cs:=aa a1_cz cs
 refine aJ (nt:=19) (rs:=[.tmp 4]) (n:=100000) Try.func102 rfl rfl rfl rfl (by simp) (S ?_)
 refine bu (b:=false) (sz:=1) (es:=a0.map I) 0 SC fun hl0=>?_; rw[aN] at hl0
 replace h:=run_loop h
 refine aX h (fun i2 s2=>[(0,.val (.pv (.sl false 1 (a0.map I)))),(1,.val (.pv (.clo a1_id a1_cs))),(7,.val (.pv (I (a0.length:Int)))),(8,.val (.pv (I (i2:Int))))]) (fun i2 s2=>[]) (av SC) (fun i2 s2 hi h=>?_) (fun s2 h=>?_)
 ·have w:=wrap_succ (i:=i2) (by omega)
  refine S ?_
  refine aR cs (by omega) (fun cs=>S ?_)
  obtain⟨v14,hv14,h⟩:=run_bind h
  refine aE (f:=I) hv14 SC (S ?_)
  obtain⟨v16,hv16,h⟩:=run_bind h
  refine aA [false] (a1_ok _ _ hv16) SC (S ?_)
  refine ap cs h (fun cs h=>S ?_) (fun cs h=>S ?_)
  ·cases run_some h
   exact am SC
  ·have h:=run_some h
   refine aD ⟨_,h,?_⟩
   exact av SWx
 ·refine S ?_
  refine aT cs (by omega) (fun cs=>S ?_)
  cases run_some h
  exact am SC

theorem slices_ContainsFunc_Sint_int_sat{a0:List Int}{a1:Int→Option Bool}{a1_id:FuncId}{a1_cs:List PV}(a1_ok:∀ y0 r,a1 y0=some r→Sat ag a1_id ((I y0)::a1_cs) (B r))(a1_cz:CapsOk a1_cs=True){r:Bool}(h:slices_ContainsFunc_Sint_int a0 a1=some r):Sat ag 77 [(.sl false 1 (a0.map I)),.clo a1_id a1_cs] (B r):=by
 obtain⟨h,cs⟩:=aH h
 unfold slices_ContainsFunc_Sint_int at h
 have cs:=aa a1_cz cs
 refine aJ (nt:=9) (rs:=[.tmp 4]) (n:=100000) Try.func77 rfl rfl rfl rfl (by simp) (S ?_)
 obtain⟨v7,hv7,h⟩:=run_bind h
 refine aA [false,false] (slices_IndexFunc_Sint_int_sat a1_ok a1_cz hv7) SC (S ?_)
 cases run_some h
 exact am SC

theorem impl_IsValidCyclic_2_1_sat{a0:Sa}{b0:Ct}{b1:Sb}  {r:Bool}(h:impl_IsValidCyclic_2_1 a0 b0 b1=some r):Sat ag 81 [((aw false) a0),.ptr ((aS false) b0),.ptr ((ai false) b1)] (B r):=by
 obtain⟨h,cs⟩:=aH h
 unfold impl_IsValidCyclic_2_1 at h
 refine aJ (nt:=25) (rs:=[.tmp 4]) (n:=100000) Try.func81 rfl rfl rfl rfl (by simp) (S ?_)
 obtain⟨v11,hv11,h⟩:=run_bind h
 refine aE (f:=I) hv11 SC (S ?_)
 refine ap cs h (fun cs h=>S ?_) (fun cs h=>S ?_)
 ·refine aa (aL [] []) (S ?_)
  cases run_some h
  exact am SC
 ·obtain⟨v21,hv21,h⟩:=run_bind h
  refine aE (f:=I) hv21 SC (S ?_)
  refine aa (aL [] []) (S ?_)
  cases run_some h
  exact am SC

theorem slices_IndexFunc_Simpl_SizeEdge_impl_SizeEdge_sat{a0:List Sa}{a1:Sa→Option Bool}{a1_id:FuncId}{a1_cs:List PV}(a1_ok:∀ y0 r,a1 y0=some r→Sat ag a1_id (((aw false) y0)::a1_cs) (B r))(a1_cz:CapsOk a1_cs=True){r:Int}(h:slices_IndexFunc_Simpl_SizeEdge_impl_SizeEdge a0 a1=some r):Sat ag 93 [(.sl false 3 (a0.map (aw false))),.clo a1_id a1_cs] (I r):=by
 obtain⟨h,cs⟩:=aH h
 unfold slices_IndexFunc_Simpl_SizeEdge_impl_SizeEdge at h
 have cs:=aa a1_cz cs
 refine aJ (nt:=19) (rs:=[.tmp 4]) (n:=100000) Try.func93 rfl rfl rfl rfl (by simp) (S ?_)
 refine bu (b:=false) (sz:=3) (es:=a0.map (aw false)) 0 SC fun hl0=>?_; rw[aN] at hl0
 replace h:=run_loop h
 refine aX h (fun i2 s2=>[(0,.val (.pv (.sl false 3 (a0.map (aw false))))),(1,.val (.pv (.clo a1_id a1_cs))),(7,.val (.pv (I (a0.length:Int)))),(8,.val (.pv (I (i2:Int))))]) (fun i2 s2=>[]) (av SC) (fun i2 s2 hi h=>?_) (fun s2 h=>?_)
 ·have w:=wrap_succ (i:=i2) (by omega)
  refine S ?_
  refine aR cs (by omega) (fun cs=>S ?_)
  obtain⟨v14,hv14,h⟩:=run_bind h
  refine aE (f:=(aw false)) hv14 SC (S ?_)
  obtain⟨v16,hv16,h⟩:=run_bind h
  refine aA [false] (a1_ok _ _ hv16) SC (S ?_)
  refine ap cs h (fun cs h=>S ?_) (fun cs h=>S ?_)
  ·cases run_some h
   exact am SC
  ·have h:=run_some h
   refine aD ⟨_,h,?_⟩
   exact av SWx
 ·refine S ?_
  refine aT cs (by omega) (fun cs=>S ?_)
  cases run_some h
  exact am SC

theorem slices_ContainsFunc_Simpl_SizeEdge_impl_SizeEdge_sat{a0:List Sa}{a1:Sa→Option Bool}{a1_id:FuncId}{a1_cs:List PV}(a1_ok:∀ y0 r,a1 y0=some r→Sat ag a1_id (((aw false) y0)::a1_cs) (B r))(a1_cz:CapsOk a1_cs=True){r:Bool}(h:slices_ContainsFunc_Simpl_SizeEdge_impl_SizeEdge a0 a1=some r):Sat ag 54 [(.sl false 3 (a0.map (aw false))),.clo a1_id a1_cs] (B r):=by
 obtain⟨h,cs⟩:=aH h
 unfold slices_ContainsFunc_Simpl_SizeEdge_impl_SizeEdge at h
 have cs:=aa a1_cz cs
 refine aJ (nt:=9) (rs:=[.tmp 4]) (n:=100000) Try.func54 rfl rfl rfl rfl (by simp) (S ?_)
 obtain⟨v7,hv7,h⟩:=run_bind h
 refine aA [false,false] (slices_IndexFunc_Simpl_SizeEdge_impl_SizeEdge_sat a1_ok a1_cz hv7) SC (S ?_)
 cases run_some h
 exact am SC

theorem impl_IsValidCyclic_2_sat{a0:Sb}{b0:Int}{b1:Ct}  {r:Bool}(h:impl_IsValidCyclic_2 a0 b0 b1=some r):Sat ag 80 [((ai false) a0),.ptr (I b0),.ptr ((aS false) b1)] (B r):=by
 obtain⟨h,cs⟩:=aH h
 unfold impl_IsValidCyclic_2 at h
 refine aJ (nt:=26) (rs:=[.tmp 4]) (n:=100000) Try.func80 rfl rfl rfl rfl (by simp) (S ?_)
 obtain⟨v6,hv6,h⟩:=run_bind h
 refine aA [false] (impl_IsValidGraph_sat hv6) SC (S ?_)
 refine ap cs h (fun cs h=>S ?_) (fun cs h=>S ?_)
 ·refine ap cs h (fun cs h=>S ?_) (fun cs h=>S ?_)
  ·cases run_some h
   exact am SC
  ·refine ap cs h (fun cs h=>S ?_) (fun cs h=>S ?_)
   ·cases run_some h
    exact am SC
   ·refine MfH.fr (S ?_)
    obtain⟨v24,hv24,h⟩:=run_bind h
    refine aA [false,false] (slices_ContainsFunc_Simpl_SizeEdge_impl_SizeEdge_sat (fun _ _ hh=>impl_IsValidCyclic_2_1_sat hh) (by simp only[CapsOk_nil,CapsOk_cons]) hv24) SC (S ?_)
    cases run_some h
    exact am SC
 ·cases run_some h
  exact am SC

theorem slices_IndexFunc_Simpl_SizeGraph_impl_SizeGraph_sat{a0:List Sb}{a1:Sb→Option Bool}{a1_id:FuncId}{a1_cs:List PV}(a1_ok:∀ y0 r,a1 y0=some r→Sat ag a1_id (((ai false) y0)::a1_cs) (B r))(a1_cz:CapsOk a1_cs=True){r:Int}(h:slices_IndexFunc_Simpl_SizeGraph_impl_SizeGraph a0 a1=some r):Sat ag 103 [(.sl false 3 (a0.map (ai false))),.clo a1_id a1_cs] (I r):=by
 obtain⟨h,cs⟩:=aH h
 unfold slices_IndexFunc_Simpl_SizeGraph_impl_SizeGraph at h
 have cs:=aa a1_cz cs
 refine aJ (nt:=19) (rs:=[.tmp 4]) (n:=100000) Try.func103 rfl rfl rfl rfl (by simp) (S ?_)
 refine bu (b:=false) (sz:=3) (es:=a0.map (ai false)) 0 SC fun hl0=>?_; rw[aN] at hl0
 replace h:=run_loop h
 refine aX h (fun i2 s2=>[(0,.val (.pv (.sl false 3 (a0.map (ai false))))),(1,.val (.pv (.clo a1_id a1_cs))),(7,.val (.pv (I (a0.length:Int)))),(8,.val (.pv (I (i2:Int))))]) (fun i2 s2=>[]) (av SC) (fun i2 s2 hi h=>?_) (fun s2 h=>?_)
 ·have w:=wrap_succ (i:=i2) (by omega)
  refine S ?_
  refine aR cs (by omega) (fun cs=>S ?_)
  obtain⟨v14,hv14,h⟩:=run_bind h
  refine aE (f:=(ai false)) hv14 SC (S ?_)
  obtain⟨v16,hv16,h⟩:=run_bind h
  refine aA [false] (a1_ok _ _ hv16) SC (S ?_)
  refine ap cs h (fun cs h=>S ?_) (fun cs h=>S ?_)
  ·cases run_some h
   exact am SC
  ·have h:=run_some h
   refine aD ⟨_,h,?_⟩
   exact av SWx
 ·refine S ?_
  refine aT cs (by omega) (fun cs=>S ?_)
  cases run_some h
  exact am SC

theorem slices_ContainsFunc_Simpl_SizeGraph_impl_SizeGraph_sat{a0:List Sb}{a1:Sb→Option Bool}{a1_id:FuncId}{a1_cs:List PV}(a1_ok:∀ y0 r,a1 y0=some r→Sat ag a1_id (((ai false) y0)::a1_cs) (B r))(a1_cz:CapsOk a1_cs=True){r:Bool}(h:slices_ContainsFunc_Simpl_SizeGraph_impl_SizeGraph a0 a1=some r):Sat ag 79 [(.sl false 3 (a0.map (ai false))),.clo a1_id a1_cs] (B r):=by
 obtain⟨h,cs⟩:=aH h
 unfold slices_ContainsFunc_Simpl_SizeGraph_impl_SizeGraph at h
 have cs:=aa a1_cz cs
 refine aJ (nt:=9) (rs:=[.tmp 4]) (n:=100000) Try.func79 rfl rfl rfl rfl (by simp) (S ?_)
 obtain⟨v7,hv7,h⟩:=run_bind h
 refine aA [false,false] (slices_IndexFunc_Simpl_SizeGraph_impl_SizeGraph_sat a1_ok a1_cz hv7) SC (S ?_)
 cases run_some h
 exact am SC

theorem impl_IsValidCyclic_sat{a0:Ct}  {r:Bool}(h:impl_IsValidCyclic a0=some r):Sat ag 43 [((aS false) a0)] (B r):=by
 obtain⟨h,cs⟩:=aH h
 unfold impl_IsValidCyclic at h
 refine aJ (nt:=26) (rs:=[.tmp 2]) (n:=100000) Try.func43 rfl rfl rfl rfl (by simp) (S ?_)
 obtain⟨v8,hv8,h⟩:=run_bind h
 refine aA [false,false,false] (impl_within_sat hv8) SC (S ?_)
 refine ap cs h (fun cs h=>S ?_) (fun cs h=>S ?_)
 ·refine ap cs h (fun cs h=>S ?_) (fun cs h=>S ?_)
  ·cases run_some h
   exact am SC
  ·obtain⟨v19,hv19,h⟩:=run_bind h
   refine aA [false,false] (slices_ContainsFunc_Sint_int_sat (fun _ _ hh=>impl_IsValidCyclic_1_sat hh) (by simp only[CapsOk_nil,CapsOk_cons]) hv19) SC (S ?_)
   refine ap cs h (fun cs h=>S ?_) (fun cs h=>S ?_)
   ·cases run_some h
    exact am SC
   ·refine MfH.fr (S ?_)
    obtain⟨v24,hv24,h⟩:=run_bind h
    refine aA [false,false] (slices_ContainsFunc_Simpl_SizeGraph_impl_SizeGraph_sat (fun _ _ hh=>impl_IsValidCyclic_2_sat hh) (by simp only[CapsOk_nil,CapsOk_cons]) hv24) SC (S ?_)
    cases run_some h
    exact am SC
 ·cases run_some h
  exact am SC

theorem slices_Equal_Simpl_SizeEdge_impl_SizeEdge_sat{a0:List Sa}{a1:List Sa}  {r:Bool}(h:slices_Equal_Simpl_SizeEdge_impl_SizeEdge a0 a1=some r):Sat ag 105 [(.sl false 3 (a0.map (aw false))),(.sl false 3 (a1.map (aw false)))] (B r):=by
 obtain⟨h,cs⟩:=aH h
 unfold slices_Equal_Simpl_SizeEdge_impl_SizeEdge at h
 refine aJ (nt:=26) (rs:=[.tmp 4]) (n:=100000) Try.func105 rfl rfl rfl rfl (by simp) (S ?_)
 refine ap cs h (fun cs h=>S ?_) (fun cs h=>S ?_)
 ·refine bu (b:=false) (sz:=3) (es:=a0.map (aw false)) 0 SC fun hl0=>?_; rw[aN] at hl0
  replace h:=run_loop h
  refine aX h (fun i4 s4=>[(0,.val (.pv (.sl false 3 (a0.map (aw false))))),(1,.val (.pv (.sl false 3 (a1.map (aw false))))),(12,.val (.pv (I (a0.length:Int)))),(13,.val (.pv (I (i4:Int))))]) (fun i4 s4=>[]) (av SC) (fun i4 s4 hi h=>?_) (fun s4 h=>?_)
  ·have w:=wrap_succ (i:=i4) (by omega)
   refine S ?_
   refine aR cs (by omega) (fun cs=>S ?_)
   obtain⟨v18,hv18,h⟩:=run_bind h
   refine aE (f:=(aw false)) hv18 SC (S ?_)
   obtain⟨v22,hv22,h⟩:=run_bind h
   refine aE (f:=(aw false)) hv22 SC (S ?_)
   refine aa (aL [] []) (S ?_)
   refine ap cs h (fun cs h=>S ?_) (fun cs h=>S ?_)
   ·have h:=run_some h
    refine aD ⟨_,h,?_⟩
    exact av SWx
   ·cases run_some h
    exact am SC
  ·refine S ?_
   refine aT cs (by omega) (fun cs=>S ?_)
   cases run_some h
   exact am SC
 ·cases run_some h
  exact am SC

theorem impl_sameGraph_sat{a0:Sb}{a1:Sb}  {r:Bool}(h:impl_sameGraph a0 a1=some r):Sat ag 85 [((ai false) a0),((ai false) a1)] (B r):=by
 obtain⟨h,cs⟩:=aH h
 unfold impl_sameGraph at h
 refine aJ (nt:=24) (rs:=[.tmp 4]) (n:=100000) Try.func85 rfl rfl rfl rfl (by simp) (S ?_)
 refine ap cs h (fun cs h=>S ?_) (fun cs h=>S ?_)
 ·refine ap cs h (fun cs h=>S ?_) (fun cs h=>S ?_)
  ·obtain⟨v22,hv22,h⟩:=run_bind h
   refine aA [false,false] (slices_Equal_Simpl_SizeEdge_impl_SizeEdge_sat hv22) SC (S ?_)
   cases run_some h
   exact am SC
  ·cases run_some h
   exact am SC
 ·cases run_some h
  exact am SC

theorem impl_closure_1_1_sat{a0:ft}{b0:Sb}  {r:Bool}(h:impl_closure_1_1 a0 b0=some r):Sat ag 84 [((ft.pv false) a0),.ptr ((ai false) b0)] (B r):=by
 obtain⟨h,cs⟩:=aH h
 unfold impl_closure_1_1 at h
 refine aJ (nt:=8) (rs:=[.tmp 3]) (n:=100000) Try.func84 rfl rfl rfl rfl (by simp) (S ?_)
 obtain⟨v7,hv7,h⟩:=run_bind h
 refine aA [false,false] (impl_sameGraph_sat hv7) SC (S ?_)
 cases run_some h
 exact am SC

theorem slices_IndexFunc_Simpl_found_impl_found_sat{a0:List ft}{a1:ft→Option Bool}{a1_id:FuncId}{a1_cs:List PV}(a1_ok:∀ y0 r,a1 y0=some r→Sat ag a1_id (((ft.pv false) y0)::a1_cs) (B r))(a1_cz:CapsOk a1_cs=True){r:Int}(h:slices_IndexFunc_Simpl_found_impl_found a0 a1=some r):Sat ag 104 [(.sl false 4 (a0.map (ft.pv false))),.clo a1_id a1_cs] (I r):=by
 obtain⟨h,cs⟩:=aH h
 unfold slices_IndexFunc_Simpl_found_impl_found at h
 have cs:=aa a1_cz cs
 refine aJ (nt:=19) (rs:=[.tmp 4]) (n:=100000) Try.func104 rfl rfl rfl rfl (by simp) (S ?_)
 refine bu (b:=false) (sz:=4) (es:=a0.map (ft.pv false)) 0 SC fun hl0=>?_; rw[aN] at hl0
 replace h:=run_loop h
 refine aX h (fun i2 s2=>[(0,.val (.pv (.sl false 4 (a0.map (ft.pv false))))),(1,.val (.pv (.clo a1_id a1_cs))),(7,.val (.pv (I (a0.length:Int)))),(8,.val (.pv (I (i2:Int))))]) (fun i2 s2=>[]) (av SC) (fun i2 s2 hi h=>?_) (fun s2 h=>?_)
 ·have w:=wrap_succ (i:=i2) (by omega)
  refine S ?_
  refine aR cs (by omega) (fun cs=>S ?_)
  obtain⟨v14,hv14,h⟩:=run_bind h
  refine aE (f:=(ft.pv false)) hv14 SC (S ?_)
  obtain⟨v16,hv16,h⟩:=run_bind h
  refine aA [false] (a1_ok _ _ hv16) SC (S ?_)
  refine ap cs h (fun cs h=>S ?_) (fun cs h=>S ?_)
  ·cases run_some h
   exact am SC
  ·have h:=run_some h
   refine aD ⟨_,h,?_⟩
   exact av SWx
 ·refine S ?_
  refine aT cs (by omega) (fun cs=>S ?_)
  cases run_some h
  exact am SC

theorem slices_ContainsFunc_Simpl_found_impl_found_sat{a0:List ft}{a1:ft→Option Bool}{a1_id:FuncId}{a1_cs:List PV}(a1_ok:∀ y0 r,a1 y0=some r→Sat ag a1_id (((ft.pv false) y0)::a1_cs) (B r))(a1_cz:CapsOk a1_cs=True){r:Bool}(h:slices_ContainsFunc_Simpl_found_impl_found a0 a1=some r):Sat ag 83 [(.sl false 4 (a0.map (ft.pv false))),.clo a1_id a1_cs] (B r):=by
 obtain⟨h,cs⟩:=aH h
 unfold slices_ContainsFunc_Simpl_found_impl_found at h
 have cs:=aa a1_cz cs
 refine aJ (nt:=9) (rs:=[.tmp 4]) (n:=100000) Try.func83 rfl rfl rfl rfl (by simp) (S ?_)
 obtain⟨v7,hv7,h⟩:=run_bind h
 refine aA [false,false] (slices_IndexFunc_Simpl_found_impl_found_sat a1_ok a1_cz hv7) SC (S ?_)
 cases run_some h
 exact am SC

theorem impl_closure_1_sat{a0:Sb}{a1:List Int}{b0:List ft}  {r:Unit×(List ft)}(h:impl_closure_1 a0 a1 b0=some r):SatH ag 82 [((ai false) a0),(.sl false 1 (a1.map I))] [] .ptr [] (.pv (.sl true 4 (b0.map (ft.pv false)))) (.pv (.sl true 4 (r.2.map (ft.pv false)))) (.tup []):=by
 obtain⟨h,cs⟩:=aH h
 unfold impl_closure_1 at h
 refine SatH.of_k (nt:=15) (rs:=[]) (n:=100000) 2 Try.func82 rfl rfl rfl rfl rfl (bq rfl) (by decide) (by first | exact bq rfl | exact SC) (S ?_)
 refine MfH.fr (S ?_)
 obtain⟨v7,hv7,h⟩:=run_bind h
 refine aA [false,false] (slices_ContainsFunc_Simpl_found_impl_found_sat (fun _ _ hh=>impl_closure_1_1_sat hh) (by simp only[CapsOk_nil,CapsOk_cons]) hv7) SC (S ?_)
 refine ap cs h (fun cs h=>S ?_) (fun cs h=>S ?_)
 ·cases run_some h
  exact RetHB.l SC
 ·obtain⟨v14,hv14,h⟩:=run_bind h
  refine bd (f:=(ft.pv false)) (fun a=>ft.psize _ a) hv14 SC SC (S ?_)
  cases run_some h
  exact RetHB.l SC

theorem slices_Clone_Simpl_SizeEdge_impl_SizeEdge_sat{a0:List Sa}  {r:List Sa}(h:slices_Clone_Simpl_SizeEdge_impl_SizeEdge a0=some r):Sat ag 96 [(.sl false 3 (a0.map (aw false)))] (.sl true 3 (r.map (aw false))):=by
 obtain⟨h,cs⟩:=aH h
 unfold slices_Clone_Simpl_SizeEdge_impl_SizeEdge at h
 refine aJ (nt:=8) (rs:=[.tmp 2]) (n:=100000) Try.func96 rfl rfl rfl rfl (by simp) (S ?_)
 refine NilH.mk (fun e=>?_) ?_
 ·obtain rfl:a0=[]:=List.map_eq_nil_iff.1 e
  simp only[app_nn,Option.bind_some] at h
  refine S ?_
  cases run_some h
  exact am SC
 ·skip
  refine S ?_
  obtain⟨v7,hv7,h⟩:=run_bind h
  refine bd (f:=(aw false)) (fun a=>Sa.psize _ a) hv7 SC SC (S ?_)
  cases run_some h
  exact am SC

theorem impl_copyGraph_sat{a0:Sb}  {r:Sb}(h:impl_copyGraph a0=some r):Sat ag 62 [((ai false) a0)] ((ai true) r):=by
 obtain⟨h,cs⟩:=aH h
 unfold impl_copyGraph at h
 refine aJ (nt:=8) (rs:=[.cell 2 26]) (n:=100000) Try.func62 rfl rfl rfl rfl (by simp) (S ?_)
 obtain⟨v5,hv5,h⟩:=run_bind h
 refine aA [false] (slices_Clone_Simpl_SizeEdge_impl_SizeEdge_sat hv5) SC (S ?_)
 cases run_some h
 exact am SC

theorem slices_Clone_Sint_int_sat{a0:List Int}  {r:List Int}(h:slices_Clone_Sint_int a0=some r):Sat ag 86 [(.sl false 1 (a0.map I))] (.sl true 1 (r.map I)):=by
 obtain⟨h,cs⟩:=aH h
 unfold slices_Clone_Sint_int at h
 refine aJ (nt:=8) (rs:=[.tmp 2]) (n:=100000) Try.func86 rfl rfl rfl rfl (by simp) (S ?_)
 refine NilH.mk (fun e=>?_) ?_
 ·obtain rfl:a0=[]:=List.map_eq_nil_iff.1 e
  simp only[app_nn,Option.bind_some] at h
  refine S ?_
  cases run_some h
  exact am SC
 ·skip
  refine S ?_
  obtain⟨v7,hv7,h⟩:=run_bind h
  refine bd (f:=I) (fun _=>rfl) hv7 SC SC (S ?_)
  cases run_some h
  exact am SC

theorem impl_closure_sat{a0:Ct}  {r:(List ft)×Bool}(h:impl_closure a0=some r):Sat ag 44 [((aS false) a0)] (.tup [(.sl true 4 (r.1.map (ft.pv false))),(B r.2)]):=by
 obtain⟨h,cs⟩:=aH h
 unfold impl_closure at h
 refine aJ (nt:=74) (rs:=[.tmp 2,.tmp 3]) (n:=100000) Try.func44 rfl rfl rfl rfl (by simp) (S ?_)
 refine MfH.hcl (r:=4) (x:=(.own 176)) [] [] [] [true] [] rfl rfl rfl SC (S ?_)
 refine bu (b:=false) (sz:=3) (es:=a0.Calls.map (ai false)) 14 SC fun hl14=>?_; rw[aN] at hl14
 replace h:=run_loop h
 refine aX h (fun i4 s4=>[(1,.box (.pv ((aS false) a0))),(4,.box (.own 176)),(5,.hptr 4 (.clo 82 [true]) []),(14,.val (.pv (.sl false 3 (a0.Calls.map (ai false))))),(15,.val (.pv (I (a0.Calls.length:Int)))),(16,.val (.pv (I (i4:Int))))]) (fun i4 s4=>[(176,(4,s4.map (ft.pv false)))]) (av SC) (fun i4 s4 hi h=>?_) (fun s4 h=>?_)
 ·have w:=wrap_succ (i:=i4) (by omega)
  refine S ?_
  refine aR cs (by omega) (fun cs=>S ?_)
  obtain⟨v19,hv19,h⟩:=run_bind h
  refine aE (f:=(ai false)) hv19 SC (S ?_)
  obtain⟨v23,hv23,h⟩:=run_bind h
  refine aA [false] (impl_copyGraph_sat hv23) SC (S ?_)
  obtain⟨v26,hv26,h⟩:=run_bind h
  refine HandH.callC (r:=4) (hc:=.cv (.own 176)) (pre:=[(.agg [(I v23.Source),(I v23.Target),(.sl true 3 (v23.Edges.map (aw false)))]),(.sl true 1 (([(i4:Int)]).map I))]) [true] [] [] [] [(.node [(.pv (I v23.Source)),(.pv (I v23.Target)),(.own 368)]),(.own 400)] [true,true] (SatH.give [true,true] (impl_closure_1_sat hv26) (by first | rfl | simp only[gv_t,gv_f,gv_n,view_sl,view_agg,view_lit,views_I,views_Sx,views_repB,views_repI,aB,bw,List.cons_append,RB,RS]) rfl) rfl (by simp only[CapsOk_nil,CapsOk_cons]) SC (S ?_)
  have h:=run_some h
  refine aD ⟨_,h,?_⟩
  refine St.le_rt 416 176 ?_
  exact av SWx
 ·refine S ?_
  refine aT cs (by omega) (fun cs=>S ?_)
  replace h:=run_loop h
  refine Mg.whileN h (fun s9=>[(1,.box (.pv ((aS false) a0))),(4,.box (.own 176)),(5,.hptr 4 (.clo 82 [true]) []),(8,.val (.pv (I s9.2)))]) (fun s9=>[(176,(4,s9.1.map (ft.pv false)))]) (av SC) (fun n9 s9 h=>?_)
  refine S ?_
  refine ap cs h (fun cs h=>S ?_) (fun cs h=>S ?_)
  ·refine bu (b:=false) (sz:=3) (es:=a0.Calls.map (ai false)) 35 SC fun hl35=>?_; rw[aN] at hl35
   replace h:=run_loop h
   refine aX h (fun i12 s12=>[(1,.box (.pv ((aS false) a0))),(4,.box (.own 176)),(5,.hptr 4 (.clo 82 [true]) []),(8,.val (.pv (I s9.2))),(35,.val (.pv (.sl false 3 (a0.Calls.map (ai false))))),(36,.val (.pv (I (a0.Calls.length:Int)))),(37,.val (.pv (I (i12:Int))))]) (fun i12 s12=>[(176,(4,s12.map (ft.pv false)))]) (av SC) (fun i12 s12 hi h=>?_) (fun s12 h=>?_)
   ·have w:=wrap_succ (i:=i12) (by omega)
    refine S ?_
    refine aR cs (by omega) (fun cs=>S ?_)
    obtain⟨v40,hv40,h⟩:=run_bind h
    refine aE (f:=(ai false)) hv40 SC (S ?_)
    obtain⟨v46,hv46,h⟩:=run_bind h
    refine aE (f:=(ft.pv false)) hv46 SC (S ?_)
    obtain⟨v49,hv49,h⟩:=run_bind h
    refine EldH.mk (f:=(ft.pv false)) hv49 rfl SC (S ?_)
    refine aa (aL [] []) (S ?_)
    refine ap cs h (fun cs h=>S ?_) (fun cs h=>S ?_)
    ·obtain⟨v54,hv54,h⟩:=run_bind h
     refine aE (f:=(ft.pv false)) hv54 SC (S ?_)
     obtain⟨v56,hv56,h⟩:=run_bind h
     refine EldH.mk (f:=(ft.pv false)) hv56 rfl SC (S ?_)
     obtain⟨v58,hv58,h⟩:=run_bind h
     refine aA [false,false] (impl_compose_sat hv58) SC (S ?_)
     obtain⟨v61,hv61,h⟩:=run_bind h
     refine aE (f:=(ft.pv false)) hv61 SC (S ?_)
     obtain⟨v63,hv63,h⟩:=run_bind h
     refine EldH.mk (f:=(ft.pv false)) hv63 rfl SC (S ?_)
     obtain⟨v64,hv64,h⟩:=run_bind h
     refine aA [false] (slices_Clone_Sint_int_sat hv64) SC (S ?_)
     obtain⟨v67,hv67,h⟩:=run_bind h
     refine bd (f:=I) (fun _=>rfl) hv67 SC SC (S ?_)
     obtain⟨v68,hv68,h⟩:=run_bind h
     refine HandH.callC (r:=4) (hc:=.cv (.own 176)) (pre:=[(.agg [(I v58.Source),(I v58.Target),(.sl true 3 (v58.Edges.map (aw false)))]),(.sl true 1 (v67.map I))]) [true] [] [] [] [(.node [(.pv (I v58.Source)),(.pv (I v58.Target)),(.own 928)]),(.own 1072)] [true,true] (SatH.give [true,true] (impl_closure_1_sat hv68) (by first | rfl | simp only[gv_t,gv_f,gv_n,view_sl,view_agg,view_lit,views_I,views_Sx,views_repB,views_repI,aB,bw,List.cons_append,RB,RS]) rfl) rfl (by simp only[CapsOk_nil,CapsOk_cons]) SC (S ?_)
     refine aa (aL [] [928,1024,1056,1072,1088]) (S ?_)
     have h:=run_some h
     refine aD ⟨_,h,?_⟩
     refine St.le_rt 1088 176 ?_
     exact av SWx
    ·have h:=run_some h
     refine aD ⟨_,h,?_⟩
     exact av SWx
   ·refine S ?_
    refine ap cs h (fun cs h=>S ?_) (fun cs h=>S ?_)
    ·cases run_some h
     exact am SC
    ·have h:=run_some h
     refine aD ⟨_,h,?_⟩
     exact av SC
  ·have h:=run_some h
   cases run_some h
   exact am SC

theorem impl_GraphClosure_sat{a0:Ct}  {r:(List Sb)×Bool}(h:impl_GraphClosure a0=some r):Sat ag 14 [((aS false) a0)] (.tup [(.sl true 3 (r.1.map (ai false))),(B r.2)]):=by
 obtain⟨h,cs⟩:=aH h
 unfold impl_GraphClosure at h
 refine aJ (nt:=33) (rs:=[.tmp 2,.tmp 3]) (n:=100000) Try.func14 rfl rfl rfl rfl (by simp) (S ?_)
 obtain⟨v10,hv10,h⟩:=run_bind h
 refine aA [false] (impl_IsValidCyclic_sat hv10) SC (S ?_)
 refine ap cs h (fun cs h=>S ?_) (fun cs h=>S ?_)
 ·obtain⟨v14,hv14,h⟩:=run_bind h
  refine aA [false] (impl_closure_sat hv14) SC (S ?_)
  refine ap cs h (fun cs h=>S ?_) (fun cs h=>S ?_)
  ·refine Mg.know_own (sz:=4) (es:=v14.1.map (ft.pv false)) 224 SC fun hl224=>?_; rw[aN] at hl224
   replace h:=run_loop h
   refine aX h (fun i8 s8=>[(6,.val (.own 304)),(20,.val (.own 224)),(21,.val (.pv (I (v14.1.length:Int)))),(22,.val (.pv (I (i8:Int))))]) (fun i8 s8=>[(304,(3,s8.map (ai false))),(224,(4,v14.1.map (ft.pv false)))]) (av SC) (fun i8 s8 hi h=>?_) (fun s8 h=>?_)
   ·have w:=wrap_succ (i:=i8) (by omega)
    refine S ?_
    refine aR cs (by omega) (fun cs=>S ?_)
    obtain⟨v24,hv24,h⟩:=run_bind h
    refine aE (f:=(ft.pv false)) hv24 SC (S ?_)
    obtain⟨v25,hv25,h⟩:=run_bind h
    refine EldH.mk (f:=(ft.pv false)) hv25 rfl SC (S ?_)
    obtain⟨v30,hv30,h⟩:=run_bind h
    refine bd (f:=(ai false)) (fun a=>Sb.psize _ a) hv30 SC SC (S ?_)
    have h:=run_some h
    refine aD ⟨_,h,?_⟩
    refine St.le_rt 480 304 ?_
    exact av SWx
   ·refine S ?_
    refine aT cs (by omega) (fun cs=>S ?_)
    cases run_some h
    exact am SC
  ·cases run_some h
   exact am SC
 ·cases run_some h
  exact am SC

theorem spec_l24Good_sat{a0:Ct}  {r:Bool}(h:spec_l24Good a0=some r):Sat ag 45 [((aS false) a0)] (B r):=by
 obtain⟨h,cs⟩:=aH h
 unfold spec_l24Good at h
 refine aJ (nt:=94) (rs:=[.tmp 2]) (n:=100000) Try.func45 rfl rfl rfl rfl (by simp) (S ?_)
 obtain⟨v12,hv12,h⟩:=run_bind h
 refine aA [false,false,false] (spec_l1In_sat hv12) SC (S ?_)
 refine ap cs h (fun cs h=>S ?_) (fun cs h=>S ?_)
 ·refine ap cs h (fun cs h=>S ?_) (fun cs h=>S ?_)
  ·cases run_some h
   exact am SC
  ·refine bu (b:=false) (sz:=1) (es:=a0.Arities.map I) 9 SC fun hl9=>?_; rw[aN] at hl9
   replace h:=run_loop h
   refine aX h (fun i5 s5=>[(1,.box (.pv ((aS false) a0))),(3,.val (.pv (I (a0.Arities.length:Int)))),(4,.val (.pv (I (i5:Int))))]) (fun i5 s5=>[]) (av SC) (fun i5 s5 hi h=>?_) (fun s5 h=>?_)
   ·have w:=wrap_succ (i:=i5) (by omega)
    refine S ?_
    refine aR cs (by omega) (fun cs=>S ?_)
    obtain⟨v28,hv28,h⟩:=run_bind h
    refine aE (f:=I) hv28 SC (S ?_)
    obtain⟨v30,hv30,h⟩:=run_bind h
    refine aA [false,false,false] (spec_l1In_sat hv30) SC (S ?_)
    refine ap cs h (fun cs h=>S ?_) (fun cs h=>S ?_)
    ·have h:=run_some h
     refine aD ⟨_,h,?_⟩
     exact av SWx
    ·cases run_some h
     exact am SC
   ·refine S ?_
    refine aT cs (by omega) (fun cs=>S ?_)
    refine Mg.know_box2 (b:=false) (sz:=3) (es:=a0.Calls.map (ai false)) (x:=(.pv ((aS false) a0))) 1 [1] SC fun hl1=>?_; rw[aN] at hl1
    replace h:=run_loop h
    refine aX h (fun i10 s10=>[(1,.box (.pv ((aS false) a0))),(3,.val (.pv (I (a0.Arities.length:Int)))),(5,.val (.pv (I (i10:Int))))]) (fun i10 s10=>[]) (av SC) (fun i10 s10 hi h=>?_) (fun s10 h=>?_)
    ·have w:=wrap_succ (i:=i10) (by omega)
     refine S ?_
     refine aR cs (by omega) (fun cs=>S ?_)
     obtain⟨v42,hv42,h⟩:=run_bind h
     refine aE (f:=(ai false)) hv42 SC (S ?_)
     obtain⟨v45,hv45,h⟩:=run_bind h
     refine aA [false] (spec_l24Graph_sat hv45) SC (S ?_)
     refine ap cs h (fun cs h=>S ?_) (fun cs h=>S ?_)
     ·refine ap cs h (fun cs h=>S ?_) (fun cs h=>S ?_)
      ·cases run_some h
       exact am SC
      ·refine ap cs h (fun cs h=>S ?_) (fun cs h=>S ?_)
       ·cases run_some h
        exact am SC
       ·refine Mg.know_box2 (b:=false) (sz:=3) (es:=v42.Edges.map (aw false)) (x:=(.pv ((ai false) v42))) 6 [2] SC fun hl6=>?_; rw[aN] at hl6
        replace h:=run_loop h
        refine aX h (fun i16 s16=>[(1,.box (.pv ((aS false) a0))),(3,.val (.pv (I (a0.Arities.length:Int)))),(5,.val (.pv (I (i10:Int)))),(6,.box (.pv ((ai false) v42))),(7,.val (.pv (I (i16:Int))))]) (fun i16 s16=>[]) (av SC) (fun i16 s16 hi h=>?_) (fun s16 h=>?_)
        ·have w:=aa (wrap_succ (i:=i16) (by omega)) w
         refine S ?_
         refine aR cs (by omega) (fun cs=>S ?_)
         obtain⟨v69,hv69,h⟩:=run_bind h
         refine aE (f:=(aw false)) hv69 SC (S ?_)
         obtain⟨v76,hv76,h⟩:=run_bind h
         refine aE (f:=I) hv76 SC (S ?_)
         refine ap cs h (fun cs h=>S ?_) (fun cs h=>S ?_)
         ·refine aa (aL [] []) (S ?_)
          cases run_some h
          exact am SC
         ·obtain⟨v83,hv83,h⟩:=run_bind h
          refine aE (f:=(aw false)) hv83 SC (S ?_)
          obtain⟨v90,hv90,h⟩:=run_bind h
          refine aE (f:=I) hv90 SC (S ?_)
          refine aa (aL [] []) (S ?_)
          refine ap cs h (fun cs h=>S ?_) (fun cs h=>S ?_)
          ·cases run_some h
           exact am SC
          ·have h:=run_some h
           refine aD ⟨_,h,?_⟩
           exact av SWx
        ·refine S ?_
         refine aT cs (by omega) (fun cs=>S ?_)
         have h:=run_some h
         refine aD ⟨_,h,?_⟩
         exact av SWx
     ·cases run_some h
      exact am SC
    ·refine S ?_
     refine aT cs (by omega) (fun cs=>S ?_)
     cases run_some h
     exact am SC
 ·cases run_some h
  exact am SC

theorem spec_l24Same_sat{a0:Sb}{a1:Sb}  {r:Bool}(h:spec_l24Same a0 a1=some r):Sat ag 91 [((ai false) a0),((ai false) a1)] (B r):=by
 obtain⟨h,cs⟩:=aH h
 unfold spec_l24Same at h
 refine aJ (nt:=45) (rs:=[.tmp 4]) (n:=100000) Try.func91 rfl rfl rfl rfl (by simp) (S ?_)
 refine ap cs h (fun cs h=>S ?_) (fun cs h=>S ?_)
 ·refine ap cs h (fun cs h=>S ?_) (fun cs h=>S ?_)
  ·refine ap cs h (fun cs h=>S ?_) (fun cs h=>S ?_)
   ·refine bu (b:=false) (sz:=3) (es:=a0.Edges.map (aw false)) 20 SC fun hl20=>?_; rw[aN] at hl20
    replace h:=run_loop h
    refine aX h (fun i4 s4=>[(2,.box (.pv ((ai false) a0))),(3,.box (.pv ((ai false) a1))),(5,.val (.pv (I (i4:Int))))]) (fun i4 s4=>[]) (av SC) (fun i4 s4 hi h=>?_) (fun s4 h=>?_)
    ·have w:=wrap_succ (i:=i4) (by omega)
     refine S ?_
     refine aR cs (by omega) (fun cs=>S ?_)
     obtain⟨v37,hv37,h⟩:=run_bind h
     refine aE (f:=(aw false)) hv37 SC (S ?_)
     obtain⟨v42,hv42,h⟩:=run_bind h
     refine aE (f:=(aw false)) hv42 SC (S ?_)
     refine aa (aL [] []) (S ?_)
     refine ap cs h (fun cs h=>S ?_) (fun cs h=>S ?_)
     ·have h:=run_some h
      refine aD ⟨_,h,?_⟩
      exact av SWx
     ·cases run_some h
      exact am SC
    ·refine S ?_
     refine aT cs (by omega) (fun cs=>S ?_)
     cases run_some h
     exact am SC
   ·cases run_some h
    exact am SC
  ·cases run_some h
   exact am SC
 ·cases run_some h
  exact am SC

theorem spec_l24At_sat{a0:List Sb}{a1:Sb}  {r:Int}(h:spec_l24At a0 a1=some r):Sat ag 87 [(.sl false 3 (a0.map (ai false))),((ai false) a1)] (I r):=by
 obtain⟨h,cs⟩:=aH h
 unfold spec_l24At at h
 refine aJ (nt:=19) (rs:=[.tmp 4]) (n:=100000) Try.func87 rfl rfl rfl rfl (by simp) (S ?_)
 refine bu (b:=false) (sz:=3) (es:=a0.map (ai false)) 0 SC fun hl0=>?_; rw[aN] at hl0
 replace h:=run_loop h
 refine aX h (fun i2 s2=>[(0,.val (.pv (.sl false 3 (a0.map (ai false))))),(3,.box (.pv ((ai false) a1))),(5,.val (.pv (I (i2:Int))))]) (fun i2 s2=>[]) (av SC) (fun i2 s2 hi h=>?_) (fun s2 h=>?_)
 ·have w:=wrap_succ (i:=i2) (by omega)
  refine S ?_
  refine aR cs (by omega) (fun cs=>S ?_)
  obtain⟨v14,hv14,h⟩:=run_bind h
  refine aE (f:=(ai false)) hv14 SC (S ?_)
  obtain⟨v17,hv17,h⟩:=run_bind h
  refine aA [false,false] (spec_l24Same_sat hv17) SC (S ?_)
  refine aa (aL [] []) (S ?_)
  refine ap cs h (fun cs h=>S ?_) (fun cs h=>S ?_)
  ·cases run_some h
   exact am SC
  ·have h:=run_some h
   refine aD ⟨_,h,?_⟩
   exact av SWx
 ·refine S ?_
  refine aT cs (by omega) (fun cs=>S ?_)
  cases run_some h
  exact am SC

theorem spec_l24Own_sat{a0:Sb}  {r:Sb}(h:spec_l24Own a0=some r):Sat ag 88 [((ai false) a0)] ((ai true) r):=by
 obtain⟨h,cs⟩:=aH h
 unfold spec_l24Own at h
 refine aJ (nt:=12) (rs:=[.cell 2 26]) (n:=100000) Try.func88 rfl rfl rfl rfl (by simp) (S ?_)
 obtain⟨v10,hv10,h⟩:=run_bind h
 refine bd (f:=(aw false)) (fun a=>Sa.psize _ a) hv10 SC SC (S ?_)
 refine aa (aL [] [112,160]) (S ?_)
 cases run_some h
 exact am SC

theorem spec_l1Own_sat{a0:List Int}  {r:List Int}(h:spec_l1Own a0=some r):Sat ag 89 [(.sl false 1 (a0.map I))] (.sl true 1 (r.map I)):=by
 obtain⟨h,cs⟩:=aH h
 unfold spec_l1Own at h
 refine aJ (nt:=6) (rs:=[.tmp 2]) (n:=100000) Try.func89 rfl rfl rfl rfl (by simp) (S ?_)
 obtain⟨v5,hv5,h⟩:=run_bind h
 refine bd (f:=I) (fun _=>rfl) hv5 SC SC (S ?_)
 cases run_some h
 exact am SC

theorem spec_l24Closure_sat{a0:Ct}  {r:(List Sb)×(List (List Int))×Bool}(h:spec_l24Closure a0=some r):Sat ag 46 [((aS false) a0)] (.tup [(.sl true 3 (r.1.map (ai false))),(.sl true 1 (r.2.1.map (Lv false 1 I))),(B r.2.2)]):=by
 obtain⟨h,cs⟩:=aH h
 unfold spec_l24Closure at h
 refine Sat.of_mi (nt:=103) (rs:=[.tmp 2,.tmp 3,.tmp 4]) (n:=100000) Try.func46 rfl rfl rfl rfl (by simp) (SB ?_)
 refine ah (SB ?_)
 refine ah (SB ?_)
 refine ah (SB ?_)
 refine ah (SB ?_)
 refine aM (Nat.le_of_eq rfl) (SB ?_)
 refine ah (SB ?_)
 refine OrR.l (SB ?_)
 refine ah (SB ?_)
 refine aM (Nat.le_of_eq rfl) (SB ?_)
 refine ah (SB ?_)
 refine OrR.l (SB ?_)
 refine ah (SB ?_)
 refine aM (Nat.le_of_eq rfl) (SB ?_)
 refine ah (SB ?_)
 refine aM (Nat.le_of_eq rfl) (SB ?_)
 refine MgI.know_val2 (b:=false) (sz:=3) (es:=a0.Calls.map (ai false)) (x:=(.pv ((aS false) a0))) 0 [1] SC fun hl0=>?_; rw[aN] at hl0
 replace h:=run_loop h
 refine MgI.forN h (fun i4 s4=>[(1,.box (.pv ((aS false) a0))),(5,.val (.own 176)),(6,.val (.own 192)),(7,.val (.pv (I (i4:Int))))]) (fun i4 s4=>[(176,(3,s4.1.map (ai false))),(192,(1,s4.2.map (Lv false 1 I)))]) (av SC) (fun i4 s4 hi h=>?_) (fun s4 h=>?_)
 ·have w:=wrap_succ (i:=i4) (by omega)
  refine SB ?_
  refine ah (SB ?_)
  refine ah (SB ?_)
  refine ah (SB ?_)
  refine ah (SB ?_)
  refine ah (SB ?_)
  refine aM (Nat.le_of_eq rfl) (SB ?_)
  refine aR cs (by omega) (fun cs=>SB ?_)
  refine ah (SB ?_)
  refine ah (SB ?_)
  refine ah (SB ?_)
  refine ah (SB ?_)
  refine ah (SB ?_)
  obtain⟨v24,hv24,h⟩:=run_bind h
  refine aE (f:=(ai false)) hv24 SC (SB ?_)
  refine ah (SB ?_)
  refine ah (SB ?_)
  obtain⟨v26,hv26,h⟩:=run_bind h
  refine aA [false,false] (spec_l24At_sat hv26) SC (SB ?_)
  refine ah (SB ?_)
  refine aM (Nat.le_of_eq rfl) (SB ?_)
  refine ap cs h (fun cs h=>SB ?_) (fun cs h=>SB ?_)
  ·refine ah (SB ?_)
   refine ah (SB ?_)
   refine ah (SB ?_)
   refine ah (SB ?_)
   refine ah (SB ?_)
   obtain⟨v32,hv32,h⟩:=run_bind h
   refine aE (f:=(ai false)) hv32 SC (SB ?_)
   refine ah (SB ?_)
   refine ah (SB ?_)
   obtain⟨v34,hv34,h⟩:=run_bind h
   refine aA [false] (Sat.vwOf (res':=((ai false) v34)) (spec_l24Own_sat hv34) (by simp only[view_tup,view_sl,view_agg,view_lit,aB,RB,RS])) SC (SB ?_)
   refine ah (SB ?_)
   refine OrR.l (SB ?_)
   refine ah (SB ?_)
   obtain⟨v36,hv36,h⟩:=run_bind h
   refine bd (f:=(ai false)) (fun a=>Sb.psize _ a) hv36 SC SC (SB ?_)
   refine ah (SB ?_)
   refine aM (Nat.le_of_eq rfl) (SB ?_)
   refine ah (SB ?_)
   refine ah (SB ?_)
   refine ah (SB ?_)
   refine OrR.v [(I (i4:Int))] (SB ?_)
   refine ah (SB ?_)
   refine OrR.l (SB ?_)
   refine ah (SB ?_)
   obtain⟨v41,hv41,h⟩:=run_bind h
   refine bd (f:=(Lv false 1 I)) (fun _=>rfl) hv41 SC SC (SB ?_)
   refine ah (SB ?_)
   refine aM (Nat.le_of_eq rfl) (SB ?_)
   refine ah (SB ?_)
   refine ah (SB ?_)
   refine ah (SB ?_)
   refine aM (Nat.le_of_eq rfl) (SB ?_)
   have h:=run_some h
   refine aD ⟨_,h,?_⟩
   refine St.le_rt 656 192 ?_
   refine St.le_rt 576 176 ?_
   exact av SWx
  ·refine ah (SB ?_)
   refine ah (SB ?_)
   refine ah (SB ?_)
   refine aM (Nat.le_of_eq rfl) (SB ?_)
   have h:=run_some h
   refine aD ⟨_,h,?_⟩
   exact av SWx
 ·refine SB ?_
  refine ah (SB ?_)
  refine ah (SB ?_)
  refine ah (SB ?_)
  refine ah (SB ?_)
  refine ah (SB ?_)
  refine aM (Nat.le_of_eq rfl) (SB ?_)
  refine aT cs (by omega) (fun cs=>SB ?_)
  refine ah (SB ?_)
  refine aM (Nat.le_of_eq rfl) (SB ?_)
  replace h:=run_loop h
  refine MgI.whileN h (fun s10=>[(1,.box (.pv ((aS false) a0))),(5,.val (.own 176)),(6,.val (.own 192)),(8,.val (.pv (I s10.2.2)))]) (fun s10=>[(176,(3,s10.1.map (ai false))),(192,(1,s10.2.1.map (Lv false 1 I)))]) (av SC) (fun n10 s10 h=>?_)
  refine SB ?_
  refine ah (SB ?_)
  refine ah (SB ?_)
  refine ah (SB ?_)
  refine ah (SB ?_)
  refine aM (Nat.le_of_eq rfl) (SB ?_)
  refine ap cs h (fun cs h=>SB ?_) (fun cs h=>SB ?_)
  ·refine ah (SB ?_)
   refine aM (Nat.le_of_eq rfl) (SB ?_)
   refine MgI.know_box2 (b:=false) (sz:=3) (es:=a0.Calls.map (ai false)) (x:=(.pv ((aS false) a0))) 1 [1] SC fun hl1=>?_; rw[aN] at hl1
   replace h:=run_loop h
   refine MgI.forN h (fun i13 s13=>[(1,.box (.pv ((aS false) a0))),(5,.val (.own 176)),(6,.val (.own 192)),(8,.val (.pv (I s10.2.2))),(9,.val (.pv (I (i13:Int))))]) (fun i13 s13=>[(176,(3,s13.1.map (ai false))),(192,(1,s13.2.map (Lv false 1 I)))]) (av SC) (fun i13 s13 hi h=>?_) (fun s13 h=>?_)
   ·have w:=wrap_succ (i:=i13) (by omega)
    refine SB ?_
    refine ah (SB ?_)
    refine ah (SB ?_)
    refine ah (SB ?_)
    refine ah (SB ?_)
    refine ah (SB ?_)
    refine aM (Nat.le_of_eq rfl) (SB ?_)
    refine aR cs (by omega) (fun cs=>SB ?_)
    obtain⟨v58,hv58,h⟩:=run_bind h
    refine aE (f:=(ai false)) hv58 SC (SB ?_)
    obtain⟨v63,hv63,h⟩:=run_bind h
    refine aE (f:=(ai false)) hv63 SC (SB ?_)
    obtain⟨v65,hv65,h⟩:=run_bind h
    refine EldH.mk (f:=(ai false)) hv65 rfl SC (SB ?_)
    refine aa (aL [] []) (SB ?_)
    refine ap cs h (fun cs h=>SB ?_) (fun cs h=>SB ?_)
    ·obtain⟨v69,hv69,h⟩:=run_bind h
     refine aE (f:=(ai false)) hv69 SC (SB ?_)
     obtain⟨v70,hv70,h⟩:=run_bind h
     refine EldH.mk (f:=(ai false)) hv70 rfl SC (SB ?_)
     obtain⟨v74,hv74,h⟩:=run_bind h
     refine aE (f:=(ai false)) hv74 SC (SB ?_)
     obtain⟨v76,hv76,h⟩:=run_bind h
     refine aA [false,false] (Sat.vwOf (res':=((ai false) v76)) (spec_l24Compose_sat hv76) (by simp only[view_tup,view_sl,view_agg,view_lit,aB,RB,RS])) SC (SB ?_)
     refine aa (aL [10] []) (SB ?_)
     refine ah (SB ?_)
     refine ah (SB ?_)
     refine ah (SB ?_)
     obtain⟨v79,hv79,h⟩:=run_bind h
     refine aA [false,false] (spec_l24At_sat hv79) SC (SB ?_)
     refine ah (SB ?_)
     refine aM (Nat.le_of_eq rfl) (SB ?_)
     refine ap cs h (fun cs h=>SB ?_) (fun cs h=>SB ?_)
     ·refine ah (SB ?_)
      refine ah (SB ?_)
      refine ah (SB ?_)
      refine aM (Nat.le_of_eq rfl) (SB ?_)
      have h:=run_some h
      refine aD ⟨_,h,?_⟩
      exact av SWx
     ·refine ah (SB ?_)
      refine ah (SB ?_)
      refine ah (SB ?_)
      refine aM (Nat.le_of_eq rfl) (SB ?_)
      refine ap cs h (fun cs h=>SB ?_) (fun cs h=>SB ?_)
      ·refine ah (SB ?_)
       refine ah (SB ?_)
       refine ah (SB ?_)
       refine ah (SB ?_)
       refine ah (SB ?_)
       refine aM (Nat.le_of_eq rfl) (SB ?_)
       cases run_some h
       exact am SC
      ·refine ah (SB ?_)
       refine ah (SB ?_)
       refine ah (SB ?_)
       refine OrR.l (SB ?_)
       refine ah (SB ?_)
       obtain⟨v89,hv89,h⟩:=run_bind h
       refine bd (f:=(ai false)) (fun a=>Sb.psize _ a) hv89 SC SC (SB ?_)
       refine ah (SB ?_)
       refine aM (Nat.le_of_eq rfl) (SB ?_)
       refine ah (SB ?_)
       refine ah (SB ?_)
       refine ah (SB ?_)
       refine ah (SB ?_)
       obtain⟨v93,hv93,h⟩:=run_bind h
       refine aE (f:=(Lv false 1 I)) hv93 SC (SB ?_)
       refine ah (SB ?_)
       obtain⟨v94,hv94,h⟩:=run_bind h
       refine EldH.mk (f:=(Lv false 1 I)) hv94 rfl SC (SB ?_)
       refine ah (SB ?_)
       obtain⟨v95,hv95,h⟩:=run_bind h
       refine aA [false] (spec_l1Own_sat hv95) SC (SB ?_)
       refine ah (SB ?_)
       refine ah (SB ?_)
       refine OrR.l (SB ?_)
       refine ah (SB ?_)
       obtain⟨v98,hv98,h⟩:=run_bind h
       refine bd (f:=I) (fun _=>rfl) hv98 SC SC (SB ?_)
       refine VSeq.demV (x:=(.own 1568)) (sz:=1) (es:=v98.map I) 98 [] 1568 SC (SB ?_)
       refine ah (SB ?_)
       refine OrR.l (SB ?_)
       refine ah (SB ?_)
       obtain⟨v100,hv100,h⟩:=run_bind h
       refine bd (f:=(Lv false 1 I)) (fun _=>rfl) hv100 SC SC (SB ?_)
       refine ah (SB ?_)
       refine aM (Nat.le_of_eq rfl) (SB ?_)
       refine ah (SB ?_)
       refine ah (SB ?_)
       refine ah (SB ?_)
       refine aM (Nat.le_of_eq rfl) (SB ?_)
       have h:=run_some h
       refine aD ⟨_,h,?_⟩
       refine St.le_rt 1600 192 ?_
       refine St.le_rt 1424 176 ?_
       exact av SWx
    ·refine ah (SB ?_)
     refine ah (SB ?_)
     refine ah (SB ?_)
     refine aM (Nat.le_of_eq rfl) (SB ?_)
     have h:=run_some h
     refine aD ⟨_,h,?_⟩
     exact av SWx
   ·refine SB ?_
    refine ah (SB ?_)
    refine ah (SB ?_)
    refine ah (SB ?_)
    refine ah (SB ?_)
    refine ah (SB ?_)
    refine aM (Nat.le_of_eq rfl) (SB ?_)
    refine ah (SB ?_)
    refine ah (SB ?_)
    refine ah (SB ?_)
    refine aM (Nat.le_of_eq rfl) (SB ?_)
    have h:=run_some h
    refine aD ⟨_,h,?_⟩
    exact av SC
  ·have h:=run_some h
   refine ah (SB ?_)
   refine ah (SB ?_)
   refine ah (SB ?_)
   refine ah (SB ?_)
   refine ah (SB ?_)
   refine aM (Nat.le_of_eq rfl) (SB ?_)
   cases run_some h
   exact am SC

theorem spec_GraphClosure_sat{a0:Ct}  {r:(List Sb)×Bool}(h:spec_GraphClosure a0=some r):Sat ag 15 [((aS false) a0)] (.tup [(.sl true 3 (r.1.map (ai false))),(B r.2)]):=by
 obtain⟨h,cs⟩:=aH h
 unfold spec_GraphClosure at h
 refine aJ (nt:=21) (rs:=[.tmp 2,.tmp 3]) (n:=100000) Try.func15 rfl rfl rfl rfl (by simp) (S ?_)
 obtain⟨v8,hv8,h⟩:=run_bind h
 refine aA [false] (spec_l24Good_sat hv8) SC (S ?_)
 refine ap cs h (fun cs h=>S ?_) (fun cs h=>S ?_)
 ·obtain⟨v13,hv13,h⟩:=run_bind h
  refine aA [false] (spec_l24Closure_sat hv13) SC (S ?_)
  refine ap cs h (fun cs h=>S ?_) (fun cs h=>S ?_)
  ·cases run_some h
   exact am SC
  ·cases run_some h
   exact am SC
 ·cases run_some h
  exact am SC

theorem FnGraphs_sat{a0:List Int}  {r:Bool}(h:FnGraphs a0=some r):Sat ag 3 [(.sl false 1 (a0.map (Ik .u8)))] (B r):=by
 obtain⟨h,cs⟩:=aH h
 unfold FnGraphs at h
 refine aJ (nt:=162) (rs:=[.tmp 2]) (n:=100000) Try.func3 rfl rfl rfl rfl (by simp) (S ?_)
 obtain⟨v29,hv29,h⟩:=run_bind h
 refine aA [false] (vBig_sat hv29) SC (S ?_)
 refine ap cs h (fun cs h=>S ?_) (fun cs h=>S ?_)
 ·cases run_some h
  exact am SC
 ·obtain⟨v32,hv32,h⟩:=run_bind h
  refine aA [false] (spec_DrawComposeGraphs_sat hv32) SC (S ?_)
  obtain⟨v37,hv37,h⟩:=run_bind h
  refine aA [false,false] (vCut_sat hv37) SC (S ?_)
  obtain⟨v38,hv38,h⟩:=run_bind h
  refine aA [false] (spec_DrawComposeGraphs_sat hv38) SC (S ?_)
  obtain⟨v44,hv44,h⟩:=run_bind h
  refine aA [false,false] (impl_ComposeGraphs_sat hv44) SC (S ?_)
  obtain⟨v50,hv50,h⟩:=run_bind h
  refine aA [false,false] (impl_ComposeGraphs_sat hv50) SC (S ?_)
  obtain⟨v56,hv56,h⟩:=run_bind h
  refine aA [false,false] (spec_ComposeGraphs_sat hv56) SC (S ?_)
  refine ap cs h (fun cs h=>S ?_) (fun cs h=>S ?_)
  ·refine ap cs h (fun cs h=>S ?_) (fun cs h=>S ?_)
   ·refine ap cs h (fun cs h=>S ?_) (fun cs h=>S ?_)
    ·obtain⟨v69,hv69,h⟩:=run_bind h
     refine aA [false,false] (impl_ComposeGraphs_sat hv69) SC (S ?_)
     obtain⟨v75,hv75,h⟩:=run_bind h
     refine aA [false,false] (impl_ComposeGraphs_sat hv75) SC (S ?_)
     refine ap cs h (fun cs h=>S ?_) (fun cs h=>S ?_)
     ·refine ap cs h (fun cs h=>S ?_) (fun cs h=>S ?_)
      ·obtain⟨v87,hv87,h⟩:=run_bind h
       refine aA [false,false] (rGraph_sat hv87) SC (S ?_)
       refine ap cs h (fun cs h=>S ?_) (fun cs h=>S ?_)
       ·obtain⟨v91,hv91,h⟩:=run_bind h
        refine aA [false] (spec_DrawGraphClosure_sat hv91) SC (S ?_)
        obtain⟨v94,hv94,h⟩:=run_bind h
        refine aA [false] (impl_GraphClosure_sat hv94) SC (S ?_)
        obtain⟨v99,hv99,h⟩:=run_bind h
        refine aA [false] (spec_GraphClosure_sat hv99) SC (S ?_)
        refine ap cs h (fun cs h=>S ?_) (fun cs h=>S ?_)
        ·refine ap cs h (fun cs h=>S ?_) (fun cs h=>S ?_)
         ·refine Mg.know_own (sz:=3) (es:=v94.1.map (ai false)) 1504 SC fun hl1504=>?_; rw[aN] at hl1504
          replace h:=run_loop h
          refine aX h (fun i21 s21=>[(17,.box (.pv ((aS false) v91))),(18,.val (.own 1504)),(22,.val (.pv (I (i21:Int))))]) (fun i21 s21=>[(1504,(3,v94.1.map (ai false)))]) (av SC) (fun i21 s21 hi h=>?_) (fun s21 h=>?_)
          ·have w:=wrap_succ (i:=i21) (by omega)
           refine S ?_
           refine aR cs (by omega) (fun cs=>S ?_)
           refine ap cs h (fun cs h=>S ?_) (fun cs h=>S ?_)
           ·refine Mg.know_box2 (b:=false) (sz:=3) (es:=v91.Calls.map (ai false)) (x:=(.pv ((aS false) v91))) 17 [1] SC fun hl17=>?_; rw[aN] at hl17
            replace h:=run_loop h
            refine aX h (fun i24 s24=>[(17,.box (.pv ((aS false) v91))),(18,.val (.own 1504)),(22,.val (.pv (I (i21:Int)))),(23,.val (.pv (I (i24:Int))))]) (fun i24 s24=>[(1504,(3,v94.1.map (ai false)))]) (av SC) (fun i24 s24 hi h=>?_) (fun s24 h=>?_)
            ·have w:=aa (wrap_succ (i:=i24) (by omega)) w
             refine S ?_
             refine aR cs (by omega) (fun cs=>S ?_)
             obtain⟨v132,hv132,h⟩:=run_bind h
             refine aE (f:=(ai false)) hv132 SC (S ?_)
             obtain⟨v133,hv133,h⟩:=run_bind h
             refine EldH.mk (f:=(ai false)) hv133 rfl SC (S ?_)
             obtain⟨v137,hv137,h⟩:=run_bind h
             refine aE (f:=(ai false)) hv137 SC (S ?_)
             obtain⟨v139,hv139,h⟩:=run_bind h
             refine aA [false,false] (impl_ComposeGraphs_sat hv139) SC (S ?_)
             refine aa (aL [24] [2224]) (S ?_)
             refine Mg.know_own (sz:=3) (es:=v94.1.map (ai false)) 1504 SC fun hl1504=>?_; rw[aN] at hl1504
             replace h:=run_loop h
             refine aX h (fun i29 s29=>[(17,.box (.pv ((aS false) v91))),(18,.val (.own 1504)),(22,.val (.pv (I (i21:Int)))),(23,.val (.pv (I (i24:Int)))),(24,.box (.node [(.pv (I v139.1.Source)),(.pv (I v139.1.Target)),(.own 2224)])),(26,.val (.pv (B s29))),(27,.val (.pv (I (i29:Int))))]) (fun i29 s29=>[(1504,(3,v94.1.map (ai false))),(2224,(3,v139.1.Edges.map (aw false)))]) (av SC) (fun i29 s29 hi h=>?_) (fun s29 h=>?_)
             ·have w:=aa (wrap_succ (i:=i29) (by omega)) w
              refine S ?_
              refine aR cs (by omega) (fun cs=>S ?_)
              refine ap cs h (fun cs h=>S ?_) (fun cs h=>S ?_)
              ·have h:=run_some h
               refine aD ⟨_,h,?_⟩
               exact av SWx
              ·obtain⟨v156,hv156,h⟩:=run_bind h
               refine aE (f:=(ai false)) hv156 SC (S ?_)
               obtain⟨v157,hv157,h⟩:=run_bind h
               refine EldH.mk (f:=(ai false)) hv157 rfl SC (S ?_)
               obtain⟨v159,hv159,h⟩:=run_bind h
               refine aA [false,false] (rGraph_sat hv159) SC (S ?_)
               refine aa (aL [] []) (S ?_)
               have h:=run_some h
               refine aD ⟨_,h,?_⟩
               exact av SWx
             ·refine S ?_
              refine aT cs (by omega) (fun cs=>S ?_)
              refine ap cs h (fun cs h=>S ?_) (fun cs h=>S ?_)
              ·have h:=run_some h
               refine aD ⟨_,h,?_⟩
               exact av SWx
              ·cases run_some h
               exact am SC
            ·refine S ?_
             refine aT cs (by omega) (fun cs=>S ?_)
             have h:=run_some h
             refine aD ⟨_,h,?_⟩
             exact av SWx
           ·cases run_some h
            exact am SC
          ·refine S ?_
           refine aT cs (by omega) (fun cs=>S ?_)
           cases run_some h
           exact am SC
         ·cases run_some h
          exact am SC
        ·cases run_some h
         exact am SC
       ·cases run_some h
        exact am SC
      ·cases run_some h
       exact am SC
     ·cases run_some h
      exact am SC
    ·obtain⟨v91,hv91,h⟩:=run_bind h
     refine aA [false] (spec_DrawGraphClosure_sat hv91) SC (S ?_)
     obtain⟨v94,hv94,h⟩:=run_bind h
     refine aA [false] (impl_GraphClosure_sat hv94) SC (S ?_)
     obtain⟨v99,hv99,h⟩:=run_bind h
     refine aA [false] (spec_GraphClosure_sat hv99) SC (S ?_)
     refine ap cs h (fun cs h=>S ?_) (fun cs h=>S ?_)
     ·refine ap cs h (fun cs h=>S ?_) (fun cs h=>S ?_)
      ·refine Mg.know_own (sz:=3) (es:=v94.1.map (ai false)) 1504 SC fun hl1504=>?_; rw[aN] at hl1504
       replace h:=run_loop h
       refine aX h (fun i21 s21=>[(17,.box (.pv ((aS false) v91))),(18,.val (.own 1504)),(22,.val (.pv (I (i21:Int))))]) (fun i21 s21=>[(1504,(3,v94.1.map (ai false)))]) (av SC) (fun i21 s21 hi h=>?_) (fun s21 h=>?_)
       ·have w:=wrap_succ (i:=i21) (by omega)
        refine S ?_
        refine aR cs (by omega) (fun cs=>S ?_)
        refine ap cs h (fun cs h=>S ?_) (fun cs h=>S ?_)
        ·refine Mg.know_box2 (b:=false) (sz:=3) (es:=v91.Calls.map (ai false)) (x:=(.pv ((aS false) v91))) 17 [1] SC fun hl17=>?_; rw[aN] at hl17
         replace h:=run_loop h
         refine aX h (fun i24 s24=>[(17,.box (.pv ((aS false) v91))),(18,.val (.own 1504)),(22,.val (.pv (I (i21:Int)))),(23,.val (.pv (I (i24:Int))))]) (fun i24 s24=>[(1504,(3,v94.1.map (ai false)))]) (av SC) (fun i24 s24 hi h=>?_) (fun s24 h=>?_)
         ·have w:=aa (wrap_succ (i:=i24) (by omega)) w
          refine S ?_
          refine aR cs (by omega) (fun cs=>S ?_)
          obtain⟨v132,hv132,h⟩:=run_bind h
          refine aE (f:=(ai false)) hv132 SC (S ?_)
          obtain⟨v133,hv133,h⟩:=run_bind h
          refine EldH.mk (f:=(ai false)) hv133 rfl SC (S ?_)
          obtain⟨v137,hv137,h⟩:=run_bind h
          refine aE (f:=(ai false)) hv137 SC (S ?_)
          obtain⟨v139,hv139,h⟩:=run_bind h
          refine aA [false,false] (impl_ComposeGraphs_sat hv139) SC (S ?_)
          refine aa (aL [24] [2224]) (S ?_)
          refine Mg.know_own (sz:=3) (es:=v94.1.map (ai false)) 1504 SC fun hl1504=>?_; rw[aN] at hl1504
          replace h:=run_loop h
          refine aX h (fun i29 s29=>[(17,.box (.pv ((aS false) v91))),(18,.val (.own 1504)),(22,.val (.pv (I (i21:Int)))),(23,.val (.pv (I (i24:Int)))),(24,.box (.node [(.pv (I v139.1.Source)),(.pv (I v139.1.Target)),(.own 2224)])),(26,.val (.pv (B s29))),(27,.val (.pv (I (i29:Int))))]) (fun i29 s29=>[(1504,(3,v94.1.map (ai false))),(2224,(3,v139.1.Edges.map (aw false)))]) (av SC) (fun i29 s29 hi h=>?_) (fun s29 h=>?_)
          ·have w:=aa (wrap_succ (i:=i29) (by omega)) w
           refine S ?_
           refine aR cs (by omega) (fun cs=>S ?_)
           refine ap cs h (fun cs h=>S ?_) (fun cs h=>S ?_)
           ·have h:=run_some h
            refine aD ⟨_,h,?_⟩
            exact av SWx
           ·obtain⟨v156,hv156,h⟩:=run_bind h
            refine aE (f:=(ai false)) hv156 SC (S ?_)
            obtain⟨v157,hv157,h⟩:=run_bind h
            refine EldH.mk (f:=(ai false)) hv157 rfl SC (S ?_)
            obtain⟨v159,hv159,h⟩:=run_bind h
            refine aA [false,false] (rGraph_sat hv159) SC (S ?_)
            refine aa (aL [] []) (S ?_)
            have h:=run_some h
            refine aD ⟨_,h,?_⟩
            exact av SWx
          ·refine S ?_
           refine aT cs (by omega) (fun cs=>S ?_)
           refine ap cs h (fun cs h=>S ?_) (fun cs h=>S ?_)
           ·have h:=run_some h
            refine aD ⟨_,h,?_⟩
            exact av SWx
           ·cases run_some h
            exact am SC
         ·refine S ?_
          refine aT cs (by omega) (fun cs=>S ?_)
          have h:=run_some h
          refine aD ⟨_,h,?_⟩
          exact av SWx
        ·cases run_some h
         exact am SC
       ·refine S ?_
        refine aT cs (by omega) (fun cs=>S ?_)
        cases run_some h
        exact am SC
      ·cases run_some h
       exact am SC
     ·cases run_some h
      exact am SC
   ·obtain⟨v91,hv91,h⟩:=run_bind h
    refine aA [false] (spec_DrawGraphClosure_sat hv91) SC (S ?_)
    obtain⟨v94,hv94,h⟩:=run_bind h
    refine aA [false] (impl_GraphClosure_sat hv94) SC (S ?_)
    obtain⟨v99,hv99,h⟩:=run_bind h
    refine aA [false] (spec_GraphClosure_sat hv99) SC (S ?_)
    refine ap cs h (fun cs h=>S ?_) (fun cs h=>S ?_)
    ·refine ap cs h (fun cs h=>S ?_) (fun cs h=>S ?_)
     ·refine Mg.know_own (sz:=3) (es:=v94.1.map (ai false)) 1504 SC fun hl1504=>?_; rw[aN] at hl1504
      replace h:=run_loop h
      refine aX h (fun i21 s21=>[(17,.box (.pv ((aS false) v91))),(18,.val (.own 1504)),(22,.val (.pv (I (i21:Int))))]) (fun i21 s21=>[(1504,(3,v94.1.map (ai false)))]) (av SC) (fun i21 s21 hi h=>?_) (fun s21 h=>?_)
      ·have w:=wrap_succ (i:=i21) (by omega)
       refine S ?_
       refine aR cs (by omega) (fun cs=>S ?_)
       refine ap cs h (fun cs h=>S ?_) (fun cs h=>S ?_)
       ·refine Mg.know_box2 (b:=false) (sz:=3) (es:=v91.Calls.map (ai false)) (x:=(.pv ((aS false) v91))) 17 [1] SC fun hl17=>?_; rw[aN] at hl17
        replace h:=run_loop h
        refine aX h (fun i24 s24=>[(17,.box (.pv ((aS false) v91))),(18,.val (.own 1504)),(22,.val (.pv (I (i21:Int)))),(23,.val (.pv (I (i24:Int))))]) (fun i24 s24=>[(1504,(3,v94.1.map (ai false)))]) (av SC) (fun i24 s24 hi h=>?_) (fun s24 h=>?_)
        ·have w:=aa (wrap_succ (i:=i24) (by omega)) w
         refine S ?_
         refine aR cs (by omega) (fun cs=>S ?_)
         obtain⟨v132,hv132,h⟩:=run_bind h
         refine aE (f:=(ai false)) hv132 SC (S ?_)
         obtain⟨v133,hv133,h⟩:=run_bind h
         refine EldH.mk (f:=(ai false)) hv133 rfl SC (S ?_)
         obtain⟨v137,hv137,h⟩:=run_bind h
         refine aE (f:=(ai false)) hv137 SC (S ?_)
         obtain⟨v139,hv139,h⟩:=run_bind h
         refine aA [false,false] (impl_ComposeGraphs_sat hv139) SC (S ?_)
         refine aa (aL [24] [2224]) (S ?_)
         refine Mg.know_own (sz:=3) (es:=v94.1.map (ai false)) 1504 SC fun hl1504=>?_; rw[aN] at hl1504
         replace h:=run_loop h
         refine aX h (fun i29 s29=>[(17,.box (.pv ((aS false) v91))),(18,.val (.own 1504)),(22,.val (.pv (I (i21:Int)))),(23,.val (.pv (I (i24:Int)))),(24,.box (.node [(.pv (I v139.1.Source)),(.pv (I v139.1.Target)),(.own 2224)])),(26,.val (.pv (B s29))),(27,.val (.pv (I (i29:Int))))]) (fun i29 s29=>[(1504,(3,v94.1.map (ai false))),(2224,(3,v139.1.Edges.map (aw false)))]) (av SC) (fun i29 s29 hi h=>?_) (fun s29 h=>?_)
         ·have w:=aa (wrap_succ (i:=i29) (by omega)) w
          refine S ?_
          refine aR cs (by omega) (fun cs=>S ?_)
          refine ap cs h (fun cs h=>S ?_) (fun cs h=>S ?_)
          ·have h:=run_some h
           refine aD ⟨_,h,?_⟩
           exact av SWx
          ·obtain⟨v156,hv156,h⟩:=run_bind h
           refine aE (f:=(ai false)) hv156 SC (S ?_)
           obtain⟨v157,hv157,h⟩:=run_bind h
           refine EldH.mk (f:=(ai false)) hv157 rfl SC (S ?_)
           obtain⟨v159,hv159,h⟩:=run_bind h
           refine aA [false,false] (rGraph_sat hv159) SC (S ?_)
           refine aa (aL [] []) (S ?_)
           have h:=run_some h
           refine aD ⟨_,h,?_⟩
           exact av SWx
         ·refine S ?_
          refine aT cs (by omega) (fun cs=>S ?_)
          refine ap cs h (fun cs h=>S ?_) (fun cs h=>S ?_)
          ·have h:=run_some h
           refine aD ⟨_,h,?_⟩
           exact av SWx
          ·cases run_some h
           exact am SC
        ·refine S ?_
         refine aT cs (by omega) (fun cs=>S ?_)
         have h:=run_some h
         refine aD ⟨_,h,?_⟩
         exact av SWx
       ·cases run_some h
        exact am SC
      ·refine S ?_
       refine aT cs (by omega) (fun cs=>S ?_)
       cases run_some h
       exact am SC
     ·cases run_some h
      exact am SC
    ·cases run_some h
     exact am SC
  ·cases run_some h
   exact am SC

end Go.Proofs.Ytjpljobgioglmaa
