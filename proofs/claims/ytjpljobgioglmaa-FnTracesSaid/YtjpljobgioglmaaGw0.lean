/- Lemmas of the proof; each says what it shows. -/
import Derived.Test.YtjpljobgioglmaaGm
import Derived.Test.YtjpljobgioglmaaGf
import Derived.Test.YtjpljobgioglmaaGinv
set_option linter.unusedSimpArgs false
set_option linter.unusedVariables false
set_option linter.defProp false
set_option maxRecDepth 4000
namespace Go.Proofs.Ytjpljobgioglmaa
open Go.Av
open And renaming intro→aa
open AppH renaming mk→ba
open ArrH renaming mk→aM
open CallH renaming mk→av
open CondH renaming run→ai,t2→aS,f2→aU
open Ct renaming pv→aQ
open DrawH renaming ak→aF
open FinH renaming l→am
open HandH renaming call→aV
open IdxH renaming mk→aD
open List renaming nil_append→bA,length_map→aO
open Mg renaming forN→aY,know_sl→bn
open Nat renaming le_of_ble_eq_true→bu
open PV renaming views→aE
open RdH renaming mk→aC
open RetHB renaming l→bh
open Run renaming of0→aG
open Sa renaming pv→az
open Sat renaming of_m→aK
open Sb renaming pv→au
open St renaming le_mk2→ap,le_rt→bt
open Try renaming prog→ag
open VSeq renaming step→aj,nil→aN
open la renaming pv→aH
set_option maxHeartbeats 4000000
theorem vBig_sat{a0:List Int}  {r:Bool}(h:vBig a0=some r):Sat ag 7 [(.sl false 1 (a0.map (Ik .u8)))] (B r):=by
 obtain⟨h,cs⟩:=aG h
 unfold vBig at h
 refine aK (nt:=6) (rs:=[.tmp 2]) (n:=100000) Try.func7 rfl rfl rfl rfl (by simp) (S ?_)
 cases run_some h
 exact am SC

theorem spec_l1Cur__next_sat{a0:la}  {r:Int×la}(h:spec_l1Cur__next a0=some r):SatH ag 69 [] [] .ptr [] (.pv ((aH false) a0)) (.pv ((aH false) r.2)) (I r.1):=by
 obtain⟨h,cs⟩:=aG h
 unfold spec_l1Cur__next at h
 refine SatH.of_k (nt:=62) (rs:=[.tmp 2]) (n:=100000) 0 Try.func69 rfl rfl rfl rfl rfl (bu rfl) (by decide) (by first | exact bu rfl | exact SC) (S ?_)
 refine aa (aF [] []) (S ?_)
 refine ai cs h (fun cs h=>S ?_) (fun cs h=>S ?_)
 ·obtain⟨v22,hv22,h⟩:=run_bind h
  refine aD (f:=(Ik .u8)) hv22 SC (S ?_)
  refine aa (aF [] []) (S ?_)
  refine aa (aF [] []) (S ?_)
  refine ai cs h (fun cs h=>S ?_) (fun cs h=>S ?_)
  ·cases run_some h
   exact bh SC
  ·obtain⟨v59,hv59,h⟩:=run_bind h
   refine ShrH.mk hv59 (S ?_)
   cases run_some h
   exact bh SC
 ·refine aa (aF [] []) (S ?_)
  refine ai cs h (fun cs h=>S ?_) (fun cs h=>S ?_)
  ·cases run_some h
   exact bh SC
  ·obtain⟨v59,hv59,h⟩:=run_bind h
   refine ShrH.mk hv59 (S ?_)
   cases run_some h
   exact bh SC

theorem spec_l1Cur__pick_sat{a0:la}{a1:Int}  {r:Int×la}(h:spec_l1Cur__pick a0 a1=some r):SatH ag 36 [] [(I a1)] .ptr [] (.pv ((aH false) a0)) (.pv ((aH false) r.2)) (I r.1):=by
 obtain⟨h,cs⟩:=aG h
 unfold spec_l1Cur__pick at h
 refine SatH.of_k (nt:=20) (rs:=[.tmp 4]) (n:=100000) 0 Try.func36 rfl rfl rfl rfl rfl (bu rfl) (by decide) (by first | exact bu rfl | exact SC) (S ?_)
 refine ai cs h (fun cs h=>S ?_) (fun cs h=>S ?_)
 ·cases run_some h
  exact bh SC
 ·obtain⟨v9,hv9,h⟩:=run_bind h
  refine aV (r:=0) (hc:=.cv (.pv ((aH false) a0))) 0 [] [] [] [] [] (spec_l1Cur__next_sat hv9) rfl rfl rfl SC (S ?_)
  refine ai cs h (fun cs h=>S ?_) (fun cs h=>S ?_)
  ·obtain⟨v15,hv15,h⟩:=run_bind h
   refine aV (r:=0) (hc:=.cv (.pv ((aH false) v9.2))) 0 [] [] [] [] [] (spec_l1Cur__next_sat hv15) rfl rfl rfl SC (S ?_)
   obtain⟨v19,hv19,h⟩:=run_bind h
   refine remH.mk hv19 (S ?_)
   cases run_some h
   exact bh SC
  ·obtain⟨v19,hv19,h⟩:=run_bind h
   refine remH.mk hv19 (S ?_)
   cases run_some h
   exact bh SC

theorem spec_l1Cur__among_sat{a0:la}{a1:List Int}  {r:Int×la}(h:spec_l1Cur__among a0 a1=some r):SatH ag 68 [] [(.sl false 1 (a1.map I))] .ptr [] (.pv ((aH false) a0)) (.pv ((aH false) r.2)) (I r.1):=by
 obtain⟨h,cs⟩:=aG h
 unfold spec_l1Cur__among at h
 refine SatH.of_k (nt:=12) (rs:=[.tmp 4]) (n:=100000) 0 Try.func68 rfl rfl rfl rfl rfl (bu rfl) (by decide) (by first | exact bu rfl | exact SC) (S ?_)
 obtain⟨v9,hv9,h⟩:=run_bind h
 refine aV (r:=0) (hc:=.cv (.pv ((aH false) a0))) 0 [] [_] [] [(.pv (I (a1.length:Int)))] [false] (spec_l1Cur__pick_sat hv9) rfl rfl rfl SC (S ?_)
 obtain⟨v10,hv10,h⟩:=run_bind h
 refine aD (f:=I) hv10 SC (S ?_)
 cases run_some h
 exact bh SC

theorem spec_l1Cur__one_sat{a0:la}{a1:Int}  {r:Bool×la}(h:spec_l1Cur__one a0 a1=some r):SatH ag 37 [] [(I a1)] .ptr [] (.pv ((aH false) a0)) (.pv ((aH false) r.2)) (B r.1):=by
 obtain⟨h,cs⟩:=aG h
 unfold spec_l1Cur__one at h
 refine SatH.of_k (nt:=9) (rs:=[.tmp 4]) (n:=100000) 0 Try.func37 rfl rfl rfl rfl rfl (bu rfl) (by decide) (by first | exact bu rfl | exact SC) (S ?_)
 obtain⟨v7,hv7,h⟩:=run_bind h
 refine aV (r:=0) (hc:=.cv (.pv ((aH false) a0))) 0 [] [_] [] [(.pv (I a1))] [false] (spec_l1Cur__pick_sat hv7) rfl rfl rfl SC (S ?_)
 cases run_some h
 exact bh SC

theorem spec_l1Cur__sizeGraph_sat{a0:la}{a1:Int}{a2:Int}{a3:Int}{a4:Int}  {r:Sb×la}(h:spec_l1Cur__sizeGraph a0 a1 a2 a3 a4=some r):SatH ag 67 [] [(I a1),(I a2),(I a3),(I a4)] .ptr [] (.pv ((aH false) a0)) (.pv ((aH false) r.2)) ((au true) r.1):=by
 obtain⟨h,cs⟩:=aG h
 unfold spec_l1Cur__sizeGraph at h
 refine SatH.of_k (nt:=49) (rs:=[.cell 10 26]) (n:=100000) 0 Try.func67 rfl rfl rfl rfl rfl (bu rfl) (by decide) (by first | exact bu rfl | exact SC) (S ?_)
 obtain⟨N3,hN3,h⟩:=run_bind h
 obtain⟨hN3a,hN3b⟩:=bnd_some hN3
 replace h:=run_loop h
 refine aY h (fun i3 s3=>[(0,.box (.pv ((aH false) s3.1))),(3,.val (.pv (I a3))),(4,.val (.pv (I a4))),(10,.box zab0),(11,.box (.node [(.pv (I a1)),(.pv (I a2)),(.own 9309)])),(12,.val (.pv (I (i3:Int)))),(20000,gh 0)]) (fun i3 s3=>[(9309,(3,s3.2.map (az false)))]) (St.le_trans (St.le_nilB (x:=(.node [(.pv (I a1)),(.pv (I a2)),(.pv (.sl true 3 []))])) 11 [2] 9309 3 NM SC SC SC) (ap SC)) (fun i3 s3 hi h=>?_) (fun s3 h=>?_)
 ·have w:=wrap_succ (i:=i3) (by omega)
  refine S ?_
  refine aS cs (by omega) (fun cs=>S ?_)
  obtain⟨N6,hN6,h⟩:=run_bind h
  obtain⟨hN6a,hN6b⟩:=bnd_some hN6
  replace h:=run_loop h
  refine aY h (fun i6 s6=>[(0,.box (.pv ((aH false) s6.1))),(3,.val (.pv (I a3))),(4,.val (.pv (I a4))),(10,.box zab0),(11,.box (.node [(.pv (I a1)),(.pv (I a2)),(.own 9309)])),(12,.val (.pv (I (i3:Int)))),(13,.val (.pv (I (i6:Int)))),(20000,gh 0)]) (fun i6 s6=>[(9309,(3,s6.2.map (az false)))]) (ap SC) (fun i6 s6 hi h=>?_) (fun s6 h=>?_)
  ·have w:=aa (wrap_succ (i:=i6) (by omega)) w
   refine S ?_
   refine aS cs (by omega) (fun cs=>S ?_)
   obtain⟨v28,hv28,h⟩:=run_bind h
   refine aV (r:=0) (hc:=.cv (.pv ((aH false) s6.1))) 0 [] [_] [] [(.pv (I 3))] [false] (spec_l1Cur__one_sat hv28) rfl rfl rfl SC (S ?_)
   refine ai cs h (fun cs h=>S ?_) (fun cs h=>S ?_)
   ·obtain⟨v43,hv43,h⟩:=run_bind h
    refine aV (r:=0) (hc:=.cv (.pv ((aH false) v28.2))) 0 [] [_] [] [(.pv (I 2))] [false] (spec_l1Cur__one_sat hv43) rfl rfl rfl SC (S ?_)
    obtain⟨v46,hv46,h⟩:=run_bind h
    refine ba (f:=(az false)) (fun a=>Sa.psize _ a) hv46 SC SC (S ?_)
    refine aa (aF [] [720,736]) (S ?_)
    have h:=run_some h
    refine aC ⟨_,h,?_⟩
    refine bt 736 9309 ?_
    exact ap SWx
   ·refine ai cs h (fun cs h=>S ?_) (fun cs h=>S ?_)
    ·obtain⟨v35,hv35,h⟩:=run_bind h
     refine aV (r:=0) (hc:=.cv (.pv ((aH false) v28.2))) 0 [] [_] [] [(.pv (I 2))] [false] (spec_l1Cur__one_sat hv35) rfl rfl rfl SC (S ?_)
     refine ai cs h (fun cs h=>S ?_) (fun cs h=>S ?_)
     ·obtain⟨v43,hv43,h⟩:=run_bind h
      refine aV (r:=0) (hc:=.cv (.pv ((aH false) v35.2))) 0 [] [_] [] [(.pv (I 2))] [false] (spec_l1Cur__one_sat hv43) rfl rfl rfl SC (S ?_)
      obtain⟨v46,hv46,h⟩:=run_bind h
      refine ba (f:=(az false)) (fun a=>Sa.psize _ a) hv46 SC SC (S ?_)
      refine aa (aF [] [720,736]) (S ?_)
      have h:=run_some h
      refine aC ⟨_,h,?_⟩
      refine bt 736 9309 ?_
      exact ap SWx
     ·have h:=run_some h
      refine aC ⟨_,h,?_⟩
      exact ap SWx
    ·have h:=run_some h
     refine aC ⟨_,h,?_⟩
     exact ap SWx
  ·refine S ?_
   refine aU cs (by omega) (fun cs=>S ?_)
   have h:=run_some h
   refine aC ⟨_,h,?_⟩
   exact ap SWx
 ·refine S ?_
  refine aU cs (by omega) (fun cs=>S ?_)
  cases run_some h
  exact bh SC

theorem spec_l1Cur__cyclic_sat{a0:la}  {r:Ct×la}(h:spec_l1Cur__cyclic a0=some r):SatH ag 95 [] [] .ptr [] (.pv ((aH false) a0)) (.pv ((aH false) r.2)) ((aQ true) r.1):=by
 obtain⟨h,cs⟩:=aG h
 unfold spec_l1Cur__cyclic at h
 refine SatH.of_k (nt:=69) (rs:=[.cell 2 36]) (n:=100000) 0 Try.func95 rfl rfl rfl rfl rfl (bu rfl) (by decide) (by first | exact bu rfl | exact SC) (S ?_)
 obtain⟨v12,hv12,h⟩:=run_bind h
 refine aV (r:=0) (hc:=.cv (.pv ((aH false) a0))) (pre:=[]) (post:=[(.sl true 1 (([(1:Int),(1:Int),(2:Int),(2:Int),(3:Int),(6:Int)]).map I))]) 0 [] [_] [] [(.own 176)] [true] (SatH.give [true] (spec_l1Cur__among_sat hv12) (by first | rfl | simp only[gv_t,gv_f,gv_n,view_sl,view_agg,view_lit,views_I,views_Sx,views_repB,views_repI,aE,bA,List.cons_append]) rfl) rfl rfl rfl SC (S ?_)
 obtain⟨N4,hN4,h⟩:=run_bind h
 obtain⟨hN4a,hN4b⟩:=bnd_some hN4
 replace h:=run_loop h
 refine aY h (fun i4 s4=>[(0,.box (.pv ((aH false) s4.1))),(2,.box (.node [(.pv (.sl true 1 [])),(.pv (.sl true 3 []))])),(3,.box (.node [(.own 9312),(.pv (.sl true 3 []))])),(4,.val (.pv (I v12.1))),(5,.val (.pv (I (i4:Int)))),(20000,gh 0)]) (fun i4 s4=>[(9312,(1,s4.2.map I))]) (St.le_trans (St.le_nilB (x:=(.node [(.pv (.sl true 1 [])),(.pv (.sl true 3 []))])) 3 [0] 9312 1 NM SC SC SC) (ap SC)) (fun i4 s4 hi h=>?_) (fun s4 h=>?_)
 ·have w:=wrap_succ (i:=i4) (by omega)
  refine S ?_
  refine aS cs (by omega) (fun cs=>S ?_)
  obtain⟨v23,hv23,h⟩:=run_bind h
  refine aV (r:=0) (hc:=.cv (.pv ((aH false) s4.1))) 0 [] [_] [] [(.pv (I 7))] [false] (spec_l1Cur__pick_sat hv23) rfl rfl rfl SC (S ?_)
  obtain⟨v24,hv24,h⟩:=run_bind h
  refine quoH.mk hv24 (S ?_)
  obtain⟨v26,hv26,h⟩:=run_bind h
  refine SlcOH.mk (f:=I) hv26 SC (S ?_)
  obtain⟨v27,hv27,h⟩:=run_bind h
  refine aV (r:=0) (hc:=.cv (.pv ((aH false) v23.2))) (pre:=[]) (post:=[(.sl true 1 (v26.map I))]) 0 [] [_] [] [(.own 416)] [true] (SatH.give [true] (spec_l1Cur__among_sat hv27) (by first | rfl | simp only[gv_t,gv_f,gv_n,view_sl,view_agg,view_lit,views_I,views_Sx,views_repB,views_repI,aE,bA,List.cons_append]) rfl) rfl rfl rfl SC (S ?_)
  obtain⟨v29,hv29,h⟩:=run_bind h
  refine ba (f:=I) (fun _=>rfl) hv29 SC SC (S ?_)
  refine aa (aF [] [336,416,448,464]) (S ?_)
  have h:=run_some h
  refine aC ⟨_,h,?_⟩
  refine bt 464 9312 ?_
  exact ap SWx
 ·refine S ?_
  refine aU cs (by omega) (fun cs=>S ?_)
  obtain⟨v34,hv34,h⟩:=run_bind h
  refine aV (r:=0) (hc:=.cv (.pv ((aH false) s4.1))) 0 [] [_] [] [(.pv (I 9))] [false] (spec_l1Cur__pick_sat hv34) rfl rfl rfl SC (S ?_)
  obtain⟨v35,hv35,h⟩:=run_bind h
  refine quoH.mk hv35 (S ?_)
  obtain⟨v37,hv37,h⟩:=run_bind h
  refine SlcOH.mk (f:=I) hv37 SC (S ?_)
  obtain⟨v38,hv38,h⟩:=run_bind h
  refine aV (r:=0) (hc:=.cv (.pv ((aH false) v34.2))) (pre:=[]) (post:=[(.sl true 1 (v37.map I))]) 0 [] [_] [] [(.own 592)] [true] (SatH.give [true] (spec_l1Cur__among_sat hv38) (by first | rfl | simp only[gv_t,gv_f,gv_n,view_sl,view_agg,view_lit,views_I,views_Sx,views_repB,views_repI,aE,bA,List.cons_append]) rfl) rfl rfl rfl SC (S ?_)
  replace h:=run_loop h
  refine Mg.whileN h (fun s8=>[(0,.box (.pv ((aH false) s8.1))),(2,.box (.node [(.pv (.sl true 1 [])),(.pv (.sl true 3 []))])),(3,.box (.node [(.own 9312),(.own 9324)])),(4,.val (.pv (I v12.1))),(6,.val (.pv (I s8.2.1))),(20000,gh 0)]) (fun s8=>[(9312,(1,s4.2.map I)),(9324,(3,s8.2.2.map (au true)))]) (St.le_trans (St.le_nilB (x:=(.node [(.own 9312),(.pv (.sl true 3 []))])) 3 [1] 9324 3 NM SC SC SC) (ap SC)) (fun n8 s8 h=>?_)
  refine S ?_
  refine ai cs h (fun cs h=>S ?_) (fun cs h=>S ?_)
  ·obtain⟨v45,hv45,h⟩:=run_bind h
   refine aV (r:=0) (hc:=.cv (.pv ((aH false) s8.1))) 0 [] [_] [] [(.pv (I v12.1))] [false] (spec_l1Cur__pick_sat hv45) rfl rfl rfl SC (S ?_)
   obtain⟨v48,hv48,h⟩:=run_bind h
   refine aV (r:=0) (hc:=.cv (.pv ((aH false) v45.2))) 0 [] [_] [] [(.pv (I v12.1))] [false] (spec_l1Cur__pick_sat hv48) rfl rfl rfl SC (S ?_)
   obtain⟨v57,hv57,h⟩:=run_bind h
   refine aD (f:=I) hv57 SC (S ?_)
   obtain⟨v58,hv58,h⟩:=run_bind h
   refine EldH.mk (f:=I) hv58 rfl SC (S ?_)
   obtain⟨v62,hv62,h⟩:=run_bind h
   refine aD (f:=I) hv62 SC (S ?_)
   obtain⟨v63,hv63,h⟩:=run_bind h
   refine EldH.mk (f:=I) hv63 rfl SC (S ?_)
   obtain⟨v64,hv64,h⟩:=run_bind h
   refine aV (r:=0) (hc:=.cv (.pv ((aH false) v48.2))) 0 [] [_,_,_,_] [] [(.pv (I v45.1)),(.pv (I v48.1)),(.pv (I v58)),(.pv (I v63))] [false,false,false,false] (spec_l1Cur__sizeGraph_sat hv64) rfl rfl rfl SC (S ?_)
   obtain⟨v66,hv66,h⟩:=run_bind h
   refine ba (f:=(au true)) (fun a=>Sb.psize _ a) hv66 SC SC (S ?_)
   refine aa (aF [] [1024,1040,1056]) (S ?_)
   have h:=run_some h
   refine aC ⟨_,h,?_⟩
   refine bt 1056 9324 ?_
   exact ap SC
  ·have h:=run_some h
   cases run_some h
   exact bh SC

theorem spec_l1Cur__anySizeGraph_sat{a0:la}{a1:Int}{a2:Int}  {r:Sb×la}(h:spec_l1Cur__anySizeGraph a0 a1 a2=some r):SatH ag 35 [] [(I a1),(I a2)] .ptr [] (.pv ((aH false) a0)) (.pv ((aH false) r.2)) ((au true) r.1):=by
 obtain⟨h,cs⟩:=aG h
 unfold spec_l1Cur__anySizeGraph at h
 refine SatH.of_k (nt:=43) (rs:=[.cell 6 26]) (n:=100000) 0 Try.func35 rfl rfl rfl rfl rfl (bu rfl) (by decide) (by first | exact bu rfl | exact SC) (S ?_)
 obtain⟨v12,hv12,h⟩:=run_bind h
 refine aV (r:=0) (hc:=.cv (.pv ((aH false) a0))) 0 [] [_] [] [(.pv (I 4))] [false] (spec_l1Cur__pick_sat hv12) rfl rfl rfl SC (S ?_)
 obtain⟨v15,hv15,h⟩:=run_bind h
 refine aV (r:=0) (hc:=.cv (.pv ((aH false) v12.2))) 0 [] [_] [] [(.pv (I 4))] [false] (spec_l1Cur__pick_sat hv15) rfl rfl rfl SC (S ?_)
 obtain⟨v17,hv17,h⟩:=run_bind h
 refine aV (r:=0) (hc:=.cv (.pv ((aH false) v15.2))) 0 [] [_,_,_,_] [] [(.pv (I a1)),(.pv (I a2)),(.pv (I (IntKind.i64.wrap ((1:Int)+v12.1)))),(.pv (I (IntKind.i64.wrap ((1:Int)+v15.1))))] [false,false,false,false] (spec_l1Cur__sizeGraph_sat hv17) rfl rfl rfl SC (S ?_)
 obtain⟨v19,hv19,h⟩:=run_bind h
 refine aV (r:=0) (hc:=.cv (.pv ((aH false) v17.2))) 0 [] [_] [] [(.pv (I 30))] [false] (spec_l1Cur__pick_sat hv19) rfl rfl rfl SC (S ?_)
 refine ai cs h (fun cs h=>S ?_) (fun cs h=>S ?_)
 ·obtain⟨v24,hv24,h⟩:=run_bind h
  refine aV (r:=0) (hc:=.cv (.pv ((aH false) v19.2))) (pre:=[]) (post:=[(.sl true 1 (([(-1:Int),(6:Int)]).map I))]) 0 [] [_] [] [(.own 368)] [true] (SatH.give [true] (spec_l1Cur__among_sat hv24) (by first | rfl | simp only[gv_t,gv_f,gv_n,view_sl,view_agg,view_lit,views_I,views_Sx,views_repB,views_repI,aE,bA,List.cons_append]) rfl) rfl rfl rfl SC (S ?_)
  cases run_some h
  exact bh SC
 ·refine ai cs h (fun cs h=>S ?_) (fun cs h=>S ?_)
  ·obtain⟨v32,hv32,h⟩:=run_bind h
   refine ba (f:=(az false)) (fun a=>Sa.psize _ a) hv32 SC SC (S ?_)
   cases run_some h
   exact bh SC
  ·refine ai cs h (fun cs h=>S ?_) (fun cs h=>S ?_)
   ·obtain⟨v40,hv40,h⟩:=run_bind h
    refine ba (f:=(az false)) (fun a=>Sa.psize _ a) hv40 SC SC (S ?_)
    cases run_some h
    exact bh SC
   ·cases run_some h
    exact bh SC

theorem spec_l1Cur__anyCyclic_sat{a0:la}  {r:Ct×la}(h:spec_l1Cur__anyCyclic a0=some r):SatH ag 59 [] [] .ptr [] (.pv ((aH false) a0)) (.pv ((aH false) r.2)) ((aQ false) r.1):=by
 obtain⟨h,cs⟩:=aG h
 unfold spec_l1Cur__anyCyclic at h
 refine SatH.of_ki (nt:=67) (rs:=[.cell 2 36]) (n:=100000) 0 Try.func59 rfl rfl rfl rfl rfl (bu rfl) (by decide) (by first | exact bu rfl | exact SC) (S ?_)
 refine aj (S ?_)
 refine aN (Nat.le_of_eq rfl) (S ?_)
 refine aj (S ?_)
 refine aj (S ?_)
 obtain⟨v6,hv6,h⟩:=run_bind h
 refine aV (r:=0) (hc:=.cv (.pv ((aH false) a0))) 0 [] [] [] [] [] (spec_l1Cur__cyclic_sat hv6) rfl rfl rfl SC (S ?_)
 refine aj (S ?_)
 refine aj (S ?_)
 refine aN (Nat.le_of_eq rfl) (S ?_)
 refine aj (S ?_)
 refine aj (S ?_)
 obtain⟨v8,hv8,h⟩:=run_bind h
 refine aV (r:=0) (hc:=.cv (.pv ((aH false) v6.2))) 0 [] [_] [] [(.pv (I 30))] [false] (spec_l1Cur__pick_sat hv8) rfl rfl rfl SC (S ?_)
 refine aN (Nat.le_of_eq rfl) (S ?_)
 refine aj (S ?_)
 refine aj (S ?_)
 refine aN (Nat.le_of_eq rfl) (S ?_)
 refine ai cs h (fun cs h=>S ?_) (fun cs h=>S ?_)
 ·obtain⟨v15,hv15,h⟩:=run_bind h
  refine aV (r:=0) (hc:=.cv (.pv ((aH false) v8.2))) (pre:=[]) (post:=[(.sl true 1 (([(-1:Int),(5:Int),(4:Int)]).map I))]) 0 [] [_] [] [(.own 224)] [true] (SatH.give [true] (spec_l1Cur__among_sat hv15) (by first | rfl | simp only[gv_t,gv_f,gv_n,view_sl,view_agg,view_lit,views_I,views_Sx,views_repB,views_repI,aE,bA,List.cons_append]) rfl) rfl rfl rfl SC (S ?_)
  obtain⟨v17,hv17,h⟩:=run_bind h
  refine ba (f:=I) (fun _=>rfl) hv17 SC SC (S ?_)
  refine aa (aF [] [224,256,272]) (S ?_)
  refine VSeq.demB (x:=(.node [(.own 272),(.own 97)])) (sz:=1) (es:=v17.map I) 3 [0] 272 SC (S ?_)
  refine VSeq.demB (x:=(.node [(.pv (.sl false 1 (v17.map I))),(.own 97)])) (sz:=3) (es:=v6.1.Calls.map (au true)) 3 [1] 97 SC (S ?_)
  refine aj (S ?_)
  refine aj (S ?_)
  refine aN (Nat.le_of_eq rfl) (S ?_)
  cases run_some h
  exact RetHB.r SC
 ·refine aj (S ?_)
  refine aj (S ?_)
  refine aN (Nat.le_of_eq rfl) (S ?_)
  refine ai cs h (fun cs h=>S ?_) (fun cs h=>S ?_)
  ·refine aj (S ?_)
   refine VSeq.demB (x:=(.node [(.own 96),(.own 97)])) (sz:=1) (es:=v6.1.Arities.map I) 3 [0] 96 SC (S ?_)
   refine aj (S ?_)
   refine aj (S ?_)
   obtain⟨v23,hv23,h⟩:=run_bind h
   refine SlcH.mk (f:=I) hv23 SC (S ?_)
   refine aj (S ?_)
   refine aj (S ?_)
   refine aN (Nat.le_of_eq rfl) (S ?_)
   refine VSeq.demB (x:=(.node [(.pv (.sl false 1 (v23.map I))),(.own 97)])) (sz:=3) (es:=v6.1.Calls.map (au true)) 3 [1] 97 SC (S ?_)
   refine aj (S ?_)
   refine aj (S ?_)
   refine aN (Nat.le_of_eq rfl) (S ?_)
   cases run_some h
   exact RetHB.r SC
  ·refine aj (S ?_)
   refine aj (S ?_)
   refine aN (Nat.le_of_eq rfl) (S ?_)
   refine ai cs h (fun cs h=>S ?_) (fun cs h=>S ?_)
   ·obtain⟨v31,hv31,h⟩:=run_bind h
    refine aV (r:=0) (hc:=.cv (.pv ((aH false) v8.2))) 0 [] [_] [] [(.pv (I 3))] [false] (spec_l1Cur__pick_sat hv31) rfl rfl rfl SC (S ?_)
    obtain⟨v32,hv32,h⟩:=run_bind h
    refine aV (r:=0) (hc:=.cv (.pv ((aH false) v31.2))) 0 [] [_,_] [] [(.pv (I 0)),(.pv (I v31.1))] [false,false] (spec_l1Cur__anySizeGraph_sat hv32) rfl rfl rfl SC (S ?_)
    obtain⟨v34,hv34,h⟩:=run_bind h
    refine ba (f:=(au true)) (fun a=>Sb.psize _ a) hv34 SC SC (S ?_)
    refine aa (aF [] [512,528,544]) (S ?_)
    refine VSeq.demB (x:=(.node [(.own 96),(.own 544)])) (sz:=1) (es:=v6.1.Arities.map I) 3 [0] 96 SC (S ?_)
    refine VSeq.demB (x:=(.node [(.pv (.sl false 1 (v6.1.Arities.map I))),(.own 544)])) (sz:=3) (es:=v34.map (au true)) 3 [1] 544 SC (S ?_)
    refine aj (S ?_)
    refine aj (S ?_)
    refine aN (Nat.le_of_eq rfl) (S ?_)
    cases run_some h
    exact RetHB.r SC
   ·refine aj (S ?_)
    refine aj (S ?_)
    refine aN (Nat.le_of_eq rfl) (S ?_)
    refine ai cs h (fun cs h=>S ?_) (fun cs h=>S ?_)
    ·replace h:=run_loop h
     refine MgI.whileN h (fun s10=>[(0,.box (.pv ((aH false) s10.1))),(2,.box (.node [(.pv (.sl true 1 [])),(.pv (.sl true 3 []))])),(3,.box (.node [(.own 96),(.own 97)])),(20000,gh 0)]) (fun s10=>[(96,(1,v6.1.Arities.map I)),(97,(3,s10.2.map (au true)))]) (ap SC) (fun n10 s10 h=>?_)
     refine S ?_
     obtain⟨v42,hv42,h⟩:=run_bind h
     refine aV (r:=0) (hc:=.cv (.pv ((aH false) s10.1))) 0 [] [_] [] [(.pv (I 2))] [false] (spec_l1Cur__pick_sat hv42) rfl rfl rfl SC (S ?_)
     refine aa (aF [] []) (S ?_)
     refine ai cs h (fun cs h=>S ?_) (fun cs h=>S ?_)
     ·refine aj (S ?_)
      refine aj (S ?_)
      refine aj (S ?_)
      refine aj (S ?_)
      refine aj (S ?_)
      obtain⟨v49,hv49,h⟩:=run_bind h
      refine ba (f:=(au true)) (fun a=>Sb.psize _ a) hv49 SC SC (S ?_)
      refine aj (S ?_)
      refine aj (S ?_)
      refine aN (Nat.le_of_eq rfl) (S ?_)
      have h:=run_some h
      refine aC ⟨_,h,?_⟩
      refine bt 784 97 ?_
      exact ap SC
     ·refine VSeq.demB (x:=(.node [(.own 96),(.own 97)])) (sz:=1) (es:=v6.1.Arities.map I) 3 [0] 96 SC (S ?_)
      refine VSeq.demB (x:=(.node [(.pv (.sl false 1 (v6.1.Arities.map I))),(.own 97)])) (sz:=3) (es:=s10.2.map (au true)) 3 [1] 97 SC (S ?_)
      refine aj (S ?_)
      refine aj (S ?_)
      refine aN (Nat.le_of_eq rfl) (S ?_)
      cases run_some h
      exact RetHB.r SC
    ·refine aj (S ?_)
     refine aj (S ?_)
     refine aN (Nat.le_of_eq rfl) (S ?_)
     refine ai cs h (fun cs h=>S ?_) (fun cs h=>S ?_)
     ·refine aj (S ?_)
      refine aj (S ?_)
      refine aj (S ?_)
      refine aN (Nat.le_of_eq rfl) (S ?_)
      refine aj (S ?_)
      refine aN (Nat.le_of_eq rfl) (S ?_)
      replace h:=run_loop h
      refine MgI.forN h (fun i15 s15=>[(0,.box (.pv ((aH false) s15.1))),(2,.box (.node [(.pv (.sl true 1 [])),(.pv (.sl true 3 []))])),(3,.box (.node [(.own 848),(.own 9345)])),(4,.val (.pv (I (i15:Int)))),(20000,gh 0)]) (fun i15 s15=>[(848,(1,([(4:Int)]).map I)),(9345,(3,s15.2.map (au true)))]) (St.le_trans (St.le_nilB (x:=(.node [(.own 848),(.pv (.sl true 3 []))])) 3 [1] 9345 3 NM SC SC SC) (ap SC)) (fun i15 s15 hi h=>?_) (fun s15 h=>?_)
      ·have w:=wrap_succ (i:=i15) (by omega)
       refine S ?_
       refine aj (S ?_)
       refine aj (S ?_)
       refine aN (Nat.le_of_eq rfl) (S ?_)
       refine aS cs (by omega) (fun cs=>S ?_)
       obtain⟨v62,hv62,h⟩:=run_bind h
       refine aV (r:=0) (hc:=.cv (.pv ((aH false) s15.1))) 0 [] [_,_,_,_] [] [(.pv (I 0)),(.pv (I 0)),(.pv (I 4)),(.pv (I 4))] [false,false,false,false] (spec_l1Cur__sizeGraph_sat hv62) rfl rfl rfl SC (S ?_)
       obtain⟨v64,hv64,h⟩:=run_bind h
       refine ba (f:=(au true)) (fun a=>Sb.psize _ a) hv64 SC SC (S ?_)
       refine aa (aF [] [992,1008,1024]) (S ?_)
       refine aj (S ?_)
       refine aj (S ?_)
       refine aj (S ?_)
       refine aN (Nat.le_of_eq rfl) (S ?_)
       have h:=run_some h
       refine aC ⟨_,h,?_⟩
       refine bt 1024 9345 ?_
       exact ap SWx
      ·refine S ?_
       refine aj (S ?_)
       refine aj (S ?_)
       refine aN (Nat.le_of_eq rfl) (S ?_)
       refine aU cs (by omega) (fun cs=>S ?_)
       refine VSeq.demB (x:=(.node [(.own 848),(.own 9345)])) (sz:=1) (es:=([(4:Int)]).map I) 3 [0] 848 SC (S ?_)
       refine VSeq.demB (x:=(.node [(.pv (.sl false 1 (([(4:Int)]).map I))),(.own 9345)])) (sz:=3) (es:=s15.2.map (au true)) 3 [1] 9345 SC (S ?_)
       refine aj (S ?_)
       refine aj (S ?_)
       refine aN (Nat.le_of_eq rfl) (S ?_)
       cases run_some h
       exact RetHB.r SC
     ·refine VSeq.demB (x:=(.node [(.own 96),(.own 97)])) (sz:=1) (es:=v6.1.Arities.map I) 3 [0] 96 SC (S ?_)
      refine VSeq.demB (x:=(.node [(.pv (.sl false 1 (v6.1.Arities.map I))),(.own 97)])) (sz:=3) (es:=v6.1.Calls.map (au true)) 3 [1] 97 SC (S ?_)
      refine aj (S ?_)
      refine aj (S ?_)
      refine aN (Nat.le_of_eq rfl) (S ?_)
      cases run_some h
      exact RetHB.r SC

theorem spec_l1Cur__path_sat{a0:la}{a1:Ct}  {r:(List Int)×la}(h:spec_l1Cur__path a0 a1=some r):SatH ag 60 [] [((aQ false) a1)] .ptr [] (.pv ((aH false) a0)) (.pv ((aH false) r.2)) (.sl true 1 (r.1.map I)):=by
 obtain⟨h,cs⟩:=aG h
 unfold spec_l1Cur__path at h
 refine SatH.of_k (nt:=90) (rs:=[.tmp 4]) (n:=100000) 0 Try.func60 rfl rfl rfl rfl rfl (bu rfl) (by decide) (by first | exact bu rfl | exact SC) (S ?_)
 refine ai cs h (fun cs h=>S ?_) (fun cs h=>S ?_)
 ·cases run_some h
  exact bh SC
 ·obtain⟨v20,hv20,h⟩:=run_bind h
  refine aV (r:=0) (hc:=.cv (.pv ((aH false) a0))) 0 [] [_] [] [(.pv (I (a1.Calls.length:Int)))] [false] (spec_l1Cur__pick_sat hv20) rfl rfl rfl SC (S ?_)
  obtain⟨v22,hv22,h⟩:=run_bind h
  refine ba (f:=I) (fun _=>rfl) hv22 SC SC (S ?_)
  obtain⟨v24,hv24,h⟩:=run_bind h
  refine aV (r:=0) (hc:=.cv (.pv ((aH false) v20.2))) 0 [] [_] [] [(.pv (I 5))] [false] (spec_l1Cur__pick_sat hv24) rfl rfl rfl SC (S ?_)
  replace h:=run_loop h
  refine Mg.whileN h (fun s6=>[(0,.box (.pv ((aH false) s6.1))),(3,.box (.pv ((aQ false) a1))),(5,.val (.own 352)),(6,.val (.pv (I s6.2.2))),(20000,gh 0)]) (fun s6=>[(352,(1,s6.2.1.map I))]) (ap SC) (fun n6 s6 h=>?_)
  refine S ?_
  refine ai cs h (fun cs h=>S ?_) (fun cs h=>S ?_)
  ·refine Mg.know_box2 (b:=false) (sz:=3) (es:=a1.Calls.map (au false)) (x:=(.pv ((aQ false) a1))) 3 [1] SC fun hl3=>?_; rw[aO] at hl3
   replace h:=run_loop h
   refine aY h (fun i10 s10=>[(0,.box (.pv ((aH false) s6.1))),(3,.box (.pv ((aQ false) a1))),(5,.val (.own 352)),(6,.val (.pv (I s6.2.2))),(7,.val (.own 464)),(8,.val (.pv (I (i10:Int)))),(20000,gh 0)]) (fun i10 s10=>[(352,(1,s6.2.1.map I)),(464,(1,s10.map I))]) (ap SC) (fun i10 s10 hi h=>?_) (fun s10 h=>?_)
   ·have w:=wrap_succ (i:=i10) (by omega)
    refine S ?_
    refine aS cs (by omega) (fun cs=>S ?_)
    obtain⟨v40,hv40,h⟩:=run_bind h
    refine aD (f:=(au false)) hv40 SC (S ?_)
    obtain⟨v49,hv49,h⟩:=run_bind h
    refine aD (f:=I) hv49 SC (S ?_)
    obtain⟨v50,hv50,h⟩:=run_bind h
    refine EldH.mk (f:=I) hv50 rfl SC (S ?_)
    obtain⟨v51,hv51,h⟩:=run_bind h
    refine aD (f:=(au false)) hv51 SC (S ?_)
    refine aa (aF [] []) (S ?_)
    refine ai cs h (fun cs h=>S ?_) (fun cs h=>S ?_)
    ·obtain⟨v58,hv58,h⟩:=run_bind h
     refine ba (f:=I) (fun _=>rfl) hv58 SC SC (S ?_)
     have h:=run_some h
     refine aC ⟨_,h,?_⟩
     refine bt 928 464 ?_
     exact ap SWx
    ·have h:=run_some h
     refine aC ⟨_,h,?_⟩
     exact ap SWx
   ·refine S ?_
    refine aU cs (by omega) (fun cs=>S ?_)
    refine ai cs h (fun cs h=>S ?_) (fun cs h=>S ?_)
    ·have h:=run_some h
     obtain⟨v73,hv73,h⟩:=run_bind h
     refine aV (r:=0) (hc:=.cv (.pv ((aH false) s6.1))) 0 [] [_] [] [(.pv (I 24))] [false] (spec_l1Cur__pick_sat hv73) rfl rfl rfl SC (S ?_)
     refine ai cs h (fun cs h=>S ?_) (fun cs h=>S ?_)
     ·cases run_some h
      exact bh SC
     ·refine ai cs h (fun cs h=>S ?_) (fun cs h=>S ?_)
      ·obtain⟨v85,hv85,h⟩:=run_bind h
       refine aV (r:=0) (hc:=.cv (.pv ((aH false) v73.2))) 0 [] [_] [] [(.pv (I (IntKind.i64.wrap ((a1.Calls.length:Int)+2))))] [false] (spec_l1Cur__pick_sat hv85) rfl rfl rfl SC (S ?_)
       obtain⟨v88,hv88,h⟩:=run_bind h
       refine ba (f:=I) (fun _=>rfl) hv88 SC SC (S ?_)
       cases run_some h
       exact bh SC
      ·cases run_some h
       exact bh SC
    ·obtain⟨v67,hv67,h⟩:=run_bind h
     refine aV (r:=0) (hc:=.cv (.pv ((aH false) s6.1))) 0 [] [_] [] [(.pv (I (s10.length:Int)))] [false] (spec_l1Cur__pick_sat hv67) rfl rfl rfl SC (S ?_)
     obtain⟨v68,hv68,h⟩:=run_bind h
     refine aD (f:=I) hv68 SC (S ?_)
     obtain⟨v69,hv69,h⟩:=run_bind h
     refine EldH.mk (f:=I) hv69 rfl SC (S ?_)
     obtain⟨v71,hv71,h⟩:=run_bind h
     refine ba (f:=I) (fun _=>rfl) hv71 SC SC (S ?_)
     have h:=run_some h
     refine aC ⟨_,h,?_⟩
     refine bt 1136 352 ?_
     exact ap SC
  ·have h:=run_some h
   obtain⟨v73,hv73,h⟩:=run_bind h
   refine aV (r:=0) (hc:=.cv (.pv ((aH false) s6.1))) 0 [] [_] [] [(.pv (I 24))] [false] (spec_l1Cur__pick_sat hv73) rfl rfl rfl SC (S ?_)
   refine ai cs h (fun cs h=>S ?_) (fun cs h=>S ?_)
   ·cases run_some h
    exact bh SC
   ·refine ai cs h (fun cs h=>S ?_) (fun cs h=>S ?_)
    ·obtain⟨v85,hv85,h⟩:=run_bind h
     refine aV (r:=0) (hc:=.cv (.pv ((aH false) v73.2))) 0 [] [_] [] [(.pv (I (IntKind.i64.wrap ((a1.Calls.length:Int)+2))))] [false] (spec_l1Cur__pick_sat hv85) rfl rfl rfl SC (S ?_)
     obtain⟨v88,hv88,h⟩:=run_bind h
     refine ba (f:=I) (fun _=>rfl) hv88 SC SC (S ?_)
     cases run_some h
     exact bh SC
    ·cases run_some h
     exact bh SC

theorem spec_DrawPathGraph_sat{a0:List Int}  {r:Ct×(List Int)}(h:spec_DrawPathGraph a0=some r):Sat ag 28 [(.sl false 1 (a0.map (Ik .u8)))] (.tup [((aQ false) r.1),(.sl false 1 (r.2.map I))]):=by
 obtain⟨h,cs⟩:=aG h
 unfold spec_DrawPathGraph at h
 refine aK (nt:=15) (rs:=[.cell 2 36,.tmp 3]) (n:=100000) Try.func28 rfl rfl rfl rfl (by simp) (S ?_)
 obtain⟨v10,hv10,h⟩:=run_bind h
 refine aV (r:=8) (hc:=.cv (.node [(.pv (.sl false 1 (a0.map (Ik .u8)))),(.pv (I 0)),(.pv ((Ik .u64) (0:Int)))])) 0 [] [] [] [] [] (spec_l1Cur__anyCyclic_sat hv10) rfl rfl rfl SC (S ?_)
 obtain⟨v14,hv14,h⟩:=run_bind h
 refine aV (r:=8) (hc:=.cv (.pv ((aH false) v10.2))) 0 [] [_] [] [(.pv ((aQ false) v10.1))] [false] (spec_l1Cur__path_sat hv14) rfl rfl rfl SC (S ?_)
 refine aa (aF [] [224]) (S ?_)
 cases run_some h
 exact FinH.r SC

theorem impl_within_sat{a0:Int}{a1:Int}{a2:Int}  {r:Bool}(h:impl_within a0 a1 a2=some r):Sat ag 70 [(I a0),(I a1),(I a2)] (B r):=by
 obtain⟨h,cs⟩:=aG h
 unfold impl_within at h
 refine aK (nt:=15) (rs:=[.tmp 6]) (n:=100000) Try.func70 rfl rfl rfl rfl (by simp) (S ?_)
 refine ai cs h (fun cs h=>S ?_) (fun cs h=>S ?_)
 ·cases run_some h
  exact am SC
 ·cases run_some h
  exact am SC

theorem impl_IsValidCyclic_1_sat{a0:Int}  {r:Bool}(h:impl_IsValidCyclic_1 a0=some r):Sat ag 78 [(I a0)] (B r):=by
 obtain⟨h,cs⟩:=aG h
 unfold impl_IsValidCyclic_1 at h
 refine aK (nt:=6) (rs:=[.tmp 2]) (n:=100000) Try.func78 rfl rfl rfl rfl (by simp) (S ?_)
 obtain⟨v4,hv4,h⟩:=run_bind h
 refine av [false,false,false] (impl_within_sat hv4) SC (S ?_)
 cases run_some h
 exact am SC

theorem slices_IndexFunc_Sint_int_sat{a0:List Int}{a1:Int→Option Bool}{a1_id:FuncId}{a1_cs:List PV}(a1_ok:∀ y0 r,a1 y0=some r→Sat ag a1_id ((I y0)::a1_cs) (B r))(a1_cz:CapsOk a1_cs=True){r:Int}(h:slices_IndexFunc_Sint_int a0 a1=some r):Sat ag 102 [(.sl false 1 (a0.map I)),.clo a1_id a1_cs] (I r):=by
 obtain⟨h,cs⟩:=aG h
 unfold slices_IndexFunc_Sint_int at h
 have cs:=aa a1_cz cs
 refine aK (nt:=19) (rs:=[.tmp 4]) (n:=100000) Try.func102 rfl rfl rfl rfl (by simp) (S ?_)
 refine bn (b:=false) (sz:=1) (es:=a0.map I) 0 SC fun hl0=>?_; rw[aO] at hl0
 replace h:=run_loop h
 refine aY h (fun i2 s2=>[(0,.val (.pv (.sl false 1 (a0.map I)))),(1,.val (.pv (.clo a1_id a1_cs))),(7,.val (.pv (I (a0.length:Int)))),(8,.val (.pv (I (i2:Int))))]) (fun i2 s2=>[]) (ap SC) (fun i2 s2 hi h=>?_) (fun s2 h=>?_)
 ·have w:=wrap_succ (i:=i2) (by omega)
  refine S ?_
  refine aS cs (by omega) (fun cs=>S ?_)
  obtain⟨v14,hv14,h⟩:=run_bind h
  refine aD (f:=I) hv14 SC (S ?_)
  obtain⟨v16,hv16,h⟩:=run_bind h
  refine av [false] (a1_ok _ _ hv16) SC (S ?_)
  refine ai cs h (fun cs h=>S ?_) (fun cs h=>S ?_)
  ·cases run_some h
   exact am SC
  ·have h:=run_some h
   refine aC ⟨_,h,?_⟩
   exact ap SWx
 ·refine S ?_
  refine aU cs (by omega) (fun cs=>S ?_)
  cases run_some h
  exact am SC

theorem slices_ContainsFunc_Sint_int_sat{a0:List Int}{a1:Int→Option Bool}{a1_id:FuncId}{a1_cs:List PV}(a1_ok:∀ y0 r,a1 y0=some r→Sat ag a1_id ((I y0)::a1_cs) (B r))(a1_cz:CapsOk a1_cs=True){r:Bool}(h:slices_ContainsFunc_Sint_int a0 a1=some r):Sat ag 77 [(.sl false 1 (a0.map I)),.clo a1_id a1_cs] (B r):=by
 obtain⟨h,cs⟩:=aG h
 unfold slices_ContainsFunc_Sint_int at h
 have cs:=aa a1_cz cs
 refine aK (nt:=9) (rs:=[.tmp 4]) (n:=100000) Try.func77 rfl rfl rfl rfl (by simp) (S ?_)
 obtain⟨v7,hv7,h⟩:=run_bind h
 refine av [false,false] (slices_IndexFunc_Sint_int_sat a1_ok a1_cz hv7) SC (S ?_)
 cases run_some h
 exact am SC

theorem cmp_isNaN_int_sat{a0:Int}  {r:Bool}(h:cmp_isNaN_int a0=some r):Sat ag 111 [(I a0)] (B r):=by
 obtain⟨h,cs⟩:=aG h
 unfold cmp_isNaN_int at h
 refine aK (nt:=6) (rs:=[.tmp 2]) (n:=100000) Try.func111 rfl rfl rfl rfl (by simp) (S ?_)
 cases run_some h
 exact am SC

theorem cmp_Compare_int_sat{a0:Int}{a1:Int}  {r:Int}(h:cmp_Compare_int a0 a1=some r):Sat ag 99 [(I a0),(I a1)] (I r):=by
 obtain⟨h,cs⟩:=aG h
 unfold cmp_Compare_int at h
 refine aK (nt:=20) (rs:=[.tmp 4]) (n:=100000) Try.func99 rfl rfl rfl rfl (by simp) (S ?_)
 obtain⟨v8,hv8,h⟩:=run_bind h
 refine av [false] (cmp_isNaN_int_sat hv8) SC (S ?_)
 obtain⟨v10,hv10,h⟩:=run_bind h
 refine av [false] (cmp_isNaN_int_sat hv10) SC (S ?_)
 refine ai cs h (fun cs h=>S ?_) (fun cs h=>S ?_)
 ·refine ai cs h (fun cs h=>S ?_) (fun cs h=>S ?_)
  ·cases run_some h
   exact am SC
  ·cases run_some h
   exact am SC
 ·refine ai cs h (fun cs h=>S ?_) (fun cs h=>S ?_)
  ·cases run_some h
   exact am SC
  ·refine ai cs h (fun cs h=>S ?_) (fun cs h=>S ?_)
   ·cases run_some h
    exact am SC
   ·refine ai cs h (fun cs h=>S ?_) (fun cs h=>S ?_)
    ·cases run_some h
     exact am SC
    ·cases run_some h
     exact am SC

theorem cmp_Or_int_sat{a0:List Int}  {r:Int}(h:cmp_Or_int a0=some r):Sat ag 98 [(.sl false 1 (a0.map I))] (I r):=by
 obtain⟨h,cs⟩:=aG h
 unfold cmp_Or_int at h
 refine aK (nt:=18) (rs:=[.tmp 2]) (n:=100000) Try.func98 rfl rfl rfl rfl (by simp) (S ?_)
 refine bn (b:=false) (sz:=1) (es:=a0.map I) 0 SC fun hl0=>?_; rw[aO] at hl0
 replace h:=run_loop h
 refine aY h (fun i3 s3=>[(3,.val (.pv (I 0))),(6,.val (.pv (.sl false 1 (a0.map I)))),(7,.val (.pv (I (a0.length:Int)))),(8,.val (.pv (I (i3:Int))))]) (fun i3 s3=>[]) (ap SC) (fun i3 s3 hi h=>?_) (fun s3 h=>?_)
 ·have w:=wrap_succ (i:=i3) (by omega)
  refine S ?_
  refine aS cs (by omega) (fun cs=>S ?_)
  obtain⟨v10,hv10,h⟩:=run_bind h
  refine aD (f:=I) hv10 SC (S ?_)
  refine ai cs h (fun cs h=>S ?_) (fun cs h=>S ?_)
  ·have h:=run_some h
   refine aC ⟨_,h,?_⟩
   exact ap SWx
  ·cases run_some h
   exact am SC
 ·refine S ?_
  refine aU cs (by omega) (fun cs=>S ?_)
  cases run_some h
  exact am SC

theorem impl_compareEdges_sat{a0:Sa}{a1:Sa}  {r:Int}(h:impl_compareEdges a0 a1=some r):Sat ag 71 [((az false) a0),((az false) a1)] (I r):=by
 obtain⟨h,cs⟩:=aG h
 unfold impl_compareEdges at h
 refine aK (nt:=17) (rs:=[.tmp 4]) (n:=100000) Try.func71 rfl rfl rfl rfl (by simp) (S ?_)
 obtain⟨v9,hv9,h⟩:=run_bind h
 refine av [false,false] (cmp_Compare_int_sat hv9) SC (S ?_)
 obtain⟨v14,hv14,h⟩:=run_bind h
 refine av [false,false] (cmp_Compare_int_sat hv14) SC (S ?_)
 obtain⟨v16,hv16,h⟩:=run_bind h
 refine av [false] (cmp_Or_int_sat hv16) SC (S ?_)
 refine aa (aF [] [240]) (S ?_)
 cases run_some h
 exact am SC

theorem impl_IsValidGraph_sat{a0:Sb}  {r:Bool}(h:impl_IsValidGraph a0=some r):Sat ag 38 [((au false) a0)] (B r):=by
 obtain⟨h,cs⟩:=aG h
 unfold impl_IsValidGraph at h
 refine aK (nt:=47) (rs:=[.tmp 2]) (n:=100000) Try.func38 rfl rfl rfl rfl (by simp) (S ?_)
 refine bn (b:=false) (sz:=3) (es:=a0.Edges.map (az false)) 6 SC fun hl6=>?_; rw[aO] at hl6
 replace h:=run_loop h
 refine aY h (fun i2 s2=>[(1,.box (.pv ((au false) a0))),(6,.val (.pv (.sl false 3 (a0.Edges.map (az false))))),(7,.val (.pv (I (a0.Edges.length:Int)))),(8,.val (.pv (I (i2:Int))))]) (fun i2 s2=>[]) (ap SC) (fun i2 s2 hi h=>?_) (fun s2 h=>?_)
 ·have w:=wrap_succ (i:=i2) (by omega)
  refine S ?_
  refine aS cs (by omega) (fun cs=>S ?_)
  obtain⟨v11,hv11,h⟩:=run_bind h
  refine aD (f:=(az false)) hv11 SC (S ?_)
  obtain⟨v15,hv15,h⟩:=run_bind h
  refine av [false,false,false] (impl_within_sat hv15) SC (S ?_)
  refine ai cs h (fun cs h=>S ?_) (fun cs h=>S ?_)
  ·obtain⟨v20,hv20,h⟩:=run_bind h
   refine av [false,false,false] (impl_within_sat hv20) SC (S ?_)
   refine ai cs h (fun cs h=>S ?_) (fun cs h=>S ?_)
   ·refine ai cs h (fun cs h=>S ?_) (fun cs h=>S ?_)
    ·obtain⟨v31,hv31,h⟩:=run_bind h
     refine aD (f:=(az false)) hv31 SC (S ?_)
     obtain⟨v34,hv34,h⟩:=run_bind h
     refine av [false,false] (impl_compareEdges_sat hv34) SC (S ?_)
     refine aa (aF [] []) (S ?_)
     refine ai cs h (fun cs h=>S ?_) (fun cs h=>S ?_)
     ·cases run_some h
      exact am SC
     ·have h:=run_some h
      refine aC ⟨_,h,?_⟩
      exact ap SWx
    ·refine aa (aF [] []) (S ?_)
     have h:=run_some h
     refine aC ⟨_,h,?_⟩
     exact ap SWx
   ·refine aa (aF [] []) (S ?_)
    cases run_some h
    exact am SC
  ·refine aa (aF [] []) (S ?_)
   cases run_some h
   exact am SC
 ·refine S ?_
  refine aU cs (by omega) (fun cs=>S ?_)
  obtain⟨v41,hv41,h⟩:=run_bind h
  refine av [false,false,false] (impl_within_sat hv41) SC (S ?_)
  refine ai cs h (fun cs h=>S ?_) (fun cs h=>S ?_)
  ·obtain⟨v45,hv45,h⟩:=run_bind h
   refine av [false,false,false] (impl_within_sat hv45) SC (S ?_)
   cases run_some h
   exact am SC
  ·cases run_some h
   exact am SC

theorem impl_IsValidCyclic_2_1_sat{a0:Sa}{b0:Ct}{b1:Sb}  {r:Bool}(h:impl_IsValidCyclic_2_1 a0 b0 b1=some r):Sat ag 81 [((az false) a0),.ptr ((aQ false) b0),.ptr ((au false) b1)] (B r):=by
 obtain⟨h,cs⟩:=aG h
 unfold impl_IsValidCyclic_2_1 at h
 refine aK (nt:=25) (rs:=[.tmp 4]) (n:=100000) Try.func81 rfl rfl rfl rfl (by simp) (S ?_)
 obtain⟨v11,hv11,h⟩:=run_bind h
 refine aD (f:=I) hv11 SC (S ?_)
 refine ai cs h (fun cs h=>S ?_) (fun cs h=>S ?_)
 ·refine aa (aF [] []) (S ?_)
  cases run_some h
  exact am SC
 ·obtain⟨v21,hv21,h⟩:=run_bind h
  refine aD (f:=I) hv21 SC (S ?_)
  refine aa (aF [] []) (S ?_)
  cases run_some h
  exact am SC

theorem slices_IndexFunc_Simpl_SizeEdge_impl_SizeEdge_sat{a0:List Sa}{a1:Sa→Option Bool}{a1_id:FuncId}{a1_cs:List PV}(a1_ok:∀ y0 r,a1 y0=some r→Sat ag a1_id (((az false) y0)::a1_cs) (B r))(a1_cz:CapsOk a1_cs=True){r:Int}(h:slices_IndexFunc_Simpl_SizeEdge_impl_SizeEdge a0 a1=some r):Sat ag 93 [(.sl false 3 (a0.map (az false))),.clo a1_id a1_cs] (I r):=by
 obtain⟨h,cs⟩:=aG h
 unfold slices_IndexFunc_Simpl_SizeEdge_impl_SizeEdge at h
 have cs:=aa a1_cz cs
 refine aK (nt:=19) (rs:=[.tmp 4]) (n:=100000) Try.func93 rfl rfl rfl rfl (by simp) (S ?_)
 refine bn (b:=false) (sz:=3) (es:=a0.map (az false)) 0 SC fun hl0=>?_; rw[aO] at hl0
 replace h:=run_loop h
 refine aY h (fun i2 s2=>[(0,.val (.pv (.sl false 3 (a0.map (az false))))),(1,.val (.pv (.clo a1_id a1_cs))),(7,.val (.pv (I (a0.length:Int)))),(8,.val (.pv (I (i2:Int))))]) (fun i2 s2=>[]) (ap SC) (fun i2 s2 hi h=>?_) (fun s2 h=>?_)
 ·have w:=wrap_succ (i:=i2) (by omega)
  refine S ?_
  refine aS cs (by omega) (fun cs=>S ?_)
  obtain⟨v14,hv14,h⟩:=run_bind h
  refine aD (f:=(az false)) hv14 SC (S ?_)
  obtain⟨v16,hv16,h⟩:=run_bind h
  refine av [false] (a1_ok _ _ hv16) SC (S ?_)
  refine ai cs h (fun cs h=>S ?_) (fun cs h=>S ?_)
  ·cases run_some h
   exact am SC
  ·have h:=run_some h
   refine aC ⟨_,h,?_⟩
   exact ap SWx
 ·refine S ?_
  refine aU cs (by omega) (fun cs=>S ?_)
  cases run_some h
  exact am SC

theorem slices_ContainsFunc_Simpl_SizeEdge_impl_SizeEdge_sat{a0:List Sa}{a1:Sa→Option Bool}{a1_id:FuncId}{a1_cs:List PV}(a1_ok:∀ y0 r,a1 y0=some r→Sat ag a1_id (((az false) y0)::a1_cs) (B r))(a1_cz:CapsOk a1_cs=True){r:Bool}(h:slices_ContainsFunc_Simpl_SizeEdge_impl_SizeEdge a0 a1=some r):Sat ag 54 [(.sl false 3 (a0.map (az false))),.clo a1_id a1_cs] (B r):=by
 obtain⟨h,cs⟩:=aG h
 unfold slices_ContainsFunc_Simpl_SizeEdge_impl_SizeEdge at h
 have cs:=aa a1_cz cs
 refine aK (nt:=9) (rs:=[.tmp 4]) (n:=100000) Try.func54 rfl rfl rfl rfl (by simp) (S ?_)
 obtain⟨v7,hv7,h⟩:=run_bind h
 refine av [false,false] (slices_IndexFunc_Simpl_SizeEdge_impl_SizeEdge_sat a1_ok a1_cz hv7) SC (S ?_)
 cases run_some h
 exact am SC

theorem impl_IsValidCyclic_2_sat{a0:Sb}{b0:Int}{b1:Ct}  {r:Bool}(h:impl_IsValidCyclic_2 a0 b0 b1=some r):Sat ag 80 [((au false) a0),.ptr (I b0),.ptr ((aQ false) b1)] (B r):=by
 obtain⟨h,cs⟩:=aG h
 unfold impl_IsValidCyclic_2 at h
 refine aK (nt:=26) (rs:=[.tmp 4]) (n:=100000) Try.func80 rfl rfl rfl rfl (by simp) (S ?_)
 obtain⟨v6,hv6,h⟩:=run_bind h
 refine av [false] (impl_IsValidGraph_sat hv6) SC (S ?_)
 refine ai cs h (fun cs h=>S ?_) (fun cs h=>S ?_)
 ·refine ai cs h (fun cs h=>S ?_) (fun cs h=>S ?_)
  ·cases run_some h
   exact am SC
  ·refine ai cs h (fun cs h=>S ?_) (fun cs h=>S ?_)
   ·cases run_some h
    exact am SC
   ·refine MfH.fr (S ?_)
    obtain⟨v24,hv24,h⟩:=run_bind h
    refine av [false,false] (slices_ContainsFunc_Simpl_SizeEdge_impl_SizeEdge_sat (fun _ _ hh=>impl_IsValidCyclic_2_1_sat hh) (by simp only[CapsOk_nil,CapsOk_cons]) hv24) SC (S ?_)
    cases run_some h
    exact am SC
 ·cases run_some h
  exact am SC

theorem slices_IndexFunc_Simpl_SizeGraph_impl_SizeGraph_sat{a0:List Sb}{a1:Sb→Option Bool}{a1_id:FuncId}{a1_cs:List PV}(a1_ok:∀ y0 r,a1 y0=some r→Sat ag a1_id (((au false) y0)::a1_cs) (B r))(a1_cz:CapsOk a1_cs=True){r:Int}(h:slices_IndexFunc_Simpl_SizeGraph_impl_SizeGraph a0 a1=some r):Sat ag 103 [(.sl false 3 (a0.map (au false))),.clo a1_id a1_cs] (I r):=by
 obtain⟨h,cs⟩:=aG h
 unfold slices_IndexFunc_Simpl_SizeGraph_impl_SizeGraph at h
 have cs:=aa a1_cz cs
 refine aK (nt:=19) (rs:=[.tmp 4]) (n:=100000) Try.func103 rfl rfl rfl rfl (by simp) (S ?_)
 refine bn (b:=false) (sz:=3) (es:=a0.map (au false)) 0 SC fun hl0=>?_; rw[aO] at hl0
 replace h:=run_loop h
 refine aY h (fun i2 s2=>[(0,.val (.pv (.sl false 3 (a0.map (au false))))),(1,.val (.pv (.clo a1_id a1_cs))),(7,.val (.pv (I (a0.length:Int)))),(8,.val (.pv (I (i2:Int))))]) (fun i2 s2=>[]) (ap SC) (fun i2 s2 hi h=>?_) (fun s2 h=>?_)
 ·have w:=wrap_succ (i:=i2) (by omega)
  refine S ?_
  refine aS cs (by omega) (fun cs=>S ?_)
  obtain⟨v14,hv14,h⟩:=run_bind h
  refine aD (f:=(au false)) hv14 SC (S ?_)
  obtain⟨v16,hv16,h⟩:=run_bind h
  refine av [false] (a1_ok _ _ hv16) SC (S ?_)
  refine ai cs h (fun cs h=>S ?_) (fun cs h=>S ?_)
  ·cases run_some h
   exact am SC
  ·have h:=run_some h
   refine aC ⟨_,h,?_⟩
   exact ap SWx
 ·refine S ?_
  refine aU cs (by omega) (fun cs=>S ?_)
  cases run_some h
  exact am SC

theorem slices_ContainsFunc_Simpl_SizeGraph_impl_SizeGraph_sat{a0:List Sb}{a1:Sb→Option Bool}{a1_id:FuncId}{a1_cs:List PV}(a1_ok:∀ y0 r,a1 y0=some r→Sat ag a1_id (((au false) y0)::a1_cs) (B r))(a1_cz:CapsOk a1_cs=True){r:Bool}(h:slices_ContainsFunc_Simpl_SizeGraph_impl_SizeGraph a0 a1=some r):Sat ag 79 [(.sl false 3 (a0.map (au false))),.clo a1_id a1_cs] (B r):=by
 obtain⟨h,cs⟩:=aG h
 unfold slices_ContainsFunc_Simpl_SizeGraph_impl_SizeGraph at h
 have cs:=aa a1_cz cs
 refine aK (nt:=9) (rs:=[.tmp 4]) (n:=100000) Try.func79 rfl rfl rfl rfl (by simp) (S ?_)
 obtain⟨v7,hv7,h⟩:=run_bind h
 refine av [false,false] (slices_IndexFunc_Simpl_SizeGraph_impl_SizeGraph_sat a1_ok a1_cz hv7) SC (S ?_)
 cases run_some h
 exact am SC

theorem impl_IsValidCyclic_sat{a0:Ct}  {r:Bool}(h:impl_IsValidCyclic a0=some r):Sat ag 43 [((aQ false) a0)] (B r):=by
 obtain⟨h,cs⟩:=aG h
 unfold impl_IsValidCyclic at h
 refine aK (nt:=26) (rs:=[.tmp 2]) (n:=100000) Try.func43 rfl rfl rfl rfl (by simp) (S ?_)
 obtain⟨v8,hv8,h⟩:=run_bind h
 refine av [false,false,false] (impl_within_sat hv8) SC (S ?_)
 refine ai cs h (fun cs h=>S ?_) (fun cs h=>S ?_)
 ·refine ai cs h (fun cs h=>S ?_) (fun cs h=>S ?_)
  ·cases run_some h
   exact am SC
  ·obtain⟨v19,hv19,h⟩:=run_bind h
   refine av [false,false] (slices_ContainsFunc_Sint_int_sat (fun _ _ hh=>impl_IsValidCyclic_1_sat hh) (by simp only[CapsOk_nil,CapsOk_cons]) hv19) SC (S ?_)
   refine ai cs h (fun cs h=>S ?_) (fun cs h=>S ?_)
   ·cases run_some h
    exact am SC
   ·refine MfH.fr (S ?_)
    obtain⟨v24,hv24,h⟩:=run_bind h
    refine av [false,false] (slices_ContainsFunc_Simpl_SizeGraph_impl_SizeGraph_sat (fun _ _ hh=>impl_IsValidCyclic_2_sat hh) (by simp only[CapsOk_nil,CapsOk_cons]) hv24) SC (S ?_)
    cases run_some h
    exact am SC
 ·cases run_some h
  exact am SC

theorem slices_Equal_Simpl_SizeEdge_impl_SizeEdge_sat{a0:List Sa}{a1:List Sa}  {r:Bool}(h:slices_Equal_Simpl_SizeEdge_impl_SizeEdge a0 a1=some r):Sat ag 105 [(.sl false 3 (a0.map (az false))),(.sl false 3 (a1.map (az false)))] (B r):=by
 obtain⟨h,cs⟩:=aG h
 unfold slices_Equal_Simpl_SizeEdge_impl_SizeEdge at h
 refine aK (nt:=26) (rs:=[.tmp 4]) (n:=100000) Try.func105 rfl rfl rfl rfl (by simp) (S ?_)
 refine ai cs h (fun cs h=>S ?_) (fun cs h=>S ?_)
 ·refine bn (b:=false) (sz:=3) (es:=a0.map (az false)) 0 SC fun hl0=>?_; rw[aO] at hl0
  replace h:=run_loop h
  refine aY h (fun i4 s4=>[(0,.val (.pv (.sl false 3 (a0.map (az false))))),(1,.val (.pv (.sl false 3 (a1.map (az false))))),(12,.val (.pv (I (a0.length:Int)))),(13,.val (.pv (I (i4:Int))))]) (fun i4 s4=>[]) (ap SC) (fun i4 s4 hi h=>?_) (fun s4 h=>?_)
  ·have w:=wrap_succ (i:=i4) (by omega)
   refine S ?_
   refine aS cs (by omega) (fun cs=>S ?_)
   obtain⟨v18,hv18,h⟩:=run_bind h
   refine aD (f:=(az false)) hv18 SC (S ?_)
   obtain⟨v22,hv22,h⟩:=run_bind h
   refine aD (f:=(az false)) hv22 SC (S ?_)
   refine aa (aF [] []) (S ?_)
   refine ai cs h (fun cs h=>S ?_) (fun cs h=>S ?_)
   ·have h:=run_some h
    refine aC ⟨_,h,?_⟩
    exact ap SWx
   ·cases run_some h
    exact am SC
  ·refine S ?_
   refine aU cs (by omega) (fun cs=>S ?_)
   cases run_some h
   exact am SC
 ·cases run_some h
  exact am SC

theorem impl_sameGraph_sat{a0:Sb}{a1:Sb}  {r:Bool}(h:impl_sameGraph a0 a1=some r):Sat ag 85 [((au false) a0),((au false) a1)] (B r):=by
 obtain⟨h,cs⟩:=aG h
 unfold impl_sameGraph at h
 refine aK (nt:=24) (rs:=[.tmp 4]) (n:=100000) Try.func85 rfl rfl rfl rfl (by simp) (S ?_)
 refine ai cs h (fun cs h=>S ?_) (fun cs h=>S ?_)
 ·refine ai cs h (fun cs h=>S ?_) (fun cs h=>S ?_)
  ·obtain⟨v22,hv22,h⟩:=run_bind h
   refine av [false,false] (slices_Equal_Simpl_SizeEdge_impl_SizeEdge_sat hv22) SC (S ?_)
   cases run_some h
   exact am SC
  ·cases run_some h
   exact am SC
 ·cases run_some h
  exact am SC

theorem impl_closure_1_1_sat{a0:ft}{b0:Sb}  {r:Bool}(h:impl_closure_1_1 a0 b0=some r):Sat ag 84 [((ft.pv false) a0),.ptr ((au false) b0)] (B r):=by
 obtain⟨h,cs⟩:=aG h
 unfold impl_closure_1_1 at h
 refine aK (nt:=8) (rs:=[.tmp 3]) (n:=100000) Try.func84 rfl rfl rfl rfl (by simp) (S ?_)
 obtain⟨v7,hv7,h⟩:=run_bind h
 refine av [false,false] (impl_sameGraph_sat hv7) SC (S ?_)
 cases run_some h
 exact am SC

theorem slices_IndexFunc_Simpl_found_impl_found_sat{a0:List ft}{a1:ft→Option Bool}{a1_id:FuncId}{a1_cs:List PV}(a1_ok:∀ y0 r,a1 y0=some r→Sat ag a1_id (((ft.pv false) y0)::a1_cs) (B r))(a1_cz:CapsOk a1_cs=True){r:Int}(h:slices_IndexFunc_Simpl_found_impl_found a0 a1=some r):Sat ag 104 [(.sl false 4 (a0.map (ft.pv false))),.clo a1_id a1_cs] (I r):=by
 obtain⟨h,cs⟩:=aG h
 unfold slices_IndexFunc_Simpl_found_impl_found at h
 have cs:=aa a1_cz cs
 refine aK (nt:=19) (rs:=[.tmp 4]) (n:=100000) Try.func104 rfl rfl rfl rfl (by simp) (S ?_)
 refine bn (b:=false) (sz:=4) (es:=a0.map (ft.pv false)) 0 SC fun hl0=>?_; rw[aO] at hl0
 replace h:=run_loop h
 refine aY h (fun i2 s2=>[(0,.val (.pv (.sl false 4 (a0.map (ft.pv false))))),(1,.val (.pv (.clo a1_id a1_cs))),(7,.val (.pv (I (a0.length:Int)))),(8,.val (.pv (I (i2:Int))))]) (fun i2 s2=>[]) (ap SC) (fun i2 s2 hi h=>?_) (fun s2 h=>?_)
 ·have w:=wrap_succ (i:=i2) (by omega)
  refine S ?_
  refine aS cs (by omega) (fun cs=>S ?_)
  obtain⟨v14,hv14,h⟩:=run_bind h
  refine aD (f:=(ft.pv false)) hv14 SC (S ?_)
  obtain⟨v16,hv16,h⟩:=run_bind h
  refine av [false] (a1_ok _ _ hv16) SC (S ?_)
  refine ai cs h (fun cs h=>S ?_) (fun cs h=>S ?_)
  ·cases run_some h
   exact am SC
  ·have h:=run_some h
   refine aC ⟨_,h,?_⟩
   exact ap SWx
 ·refine S ?_
  refine aU cs (by omega) (fun cs=>S ?_)
  cases run_some h
  exact am SC

theorem slices_ContainsFunc_Simpl_found_impl_found_sat{a0:List ft}{a1:ft→Option Bool}{a1_id:FuncId}{a1_cs:List PV}(a1_ok:∀ y0 r,a1 y0=some r→Sat ag a1_id (((ft.pv false) y0)::a1_cs) (B r))(a1_cz:CapsOk a1_cs=True){r:Bool}(h:slices_ContainsFunc_Simpl_found_impl_found a0 a1=some r):Sat ag 83 [(.sl false 4 (a0.map (ft.pv false))),.clo a1_id a1_cs] (B r):=by
 obtain⟨h,cs⟩:=aG h
 unfold slices_ContainsFunc_Simpl_found_impl_found at h
 have cs:=aa a1_cz cs
 refine aK (nt:=9) (rs:=[.tmp 4]) (n:=100000) Try.func83 rfl rfl rfl rfl (by simp) (S ?_)
 obtain⟨v7,hv7,h⟩:=run_bind h
 refine av [false,false] (slices_IndexFunc_Simpl_found_impl_found_sat a1_ok a1_cz hv7) SC (S ?_)
 cases run_some h
 exact am SC

theorem impl_closure_1_sat{a0:Sb}{a1:List Int}{b0:List ft}  {r:Unit×(List ft)}(h:impl_closure_1 a0 a1 b0=some r):SatH ag 82 [((au false) a0),(.sl false 1 (a1.map I))] [] .ptr [] (.pv (.sl true 4 (b0.map (ft.pv false)))) (.pv (.sl true 4 (r.2.map (ft.pv false)))) (.tup []):=by
 obtain⟨h,cs⟩:=aG h
 unfold impl_closure_1 at h
 refine SatH.of_k (nt:=15) (rs:=[]) (n:=100000) 2 Try.func82 rfl rfl rfl rfl rfl (bu rfl) (by decide) (by first | exact bu rfl | exact SC) (S ?_)
 refine MfH.fr (S ?_)
 obtain⟨v7,hv7,h⟩:=run_bind h
 refine av [false,false] (slices_ContainsFunc_Simpl_found_impl_found_sat (fun _ _ hh=>impl_closure_1_1_sat hh) (by simp only[CapsOk_nil,CapsOk_cons]) hv7) SC (S ?_)
 refine ai cs h (fun cs h=>S ?_) (fun cs h=>S ?_)
 ·cases run_some h
  exact bh SC
 ·obtain⟨v14,hv14,h⟩:=run_bind h
  refine ba (f:=(ft.pv false)) (fun a=>ft.psize _ a) hv14 SC SC (S ?_)
  cases run_some h
  exact bh SC

theorem slices_Clone_Simpl_SizeEdge_impl_SizeEdge_sat{a0:List Sa}  {r:List Sa}(h:slices_Clone_Simpl_SizeEdge_impl_SizeEdge a0=some r):Sat ag 96 [(.sl false 3 (a0.map (az false)))] (.sl true 3 (r.map (az false))):=by
 obtain⟨h,cs⟩:=aG h
 unfold slices_Clone_Simpl_SizeEdge_impl_SizeEdge at h
 refine aK (nt:=8) (rs:=[.tmp 2]) (n:=100000) Try.func96 rfl rfl rfl rfl (by simp) (S ?_)
 refine NilH.mk (fun e=>?_) ?_
 ·obtain rfl:a0=[]:=List.map_eq_nil_iff.1 e
  simp only[app_nn,Option.bind_some] at h
  refine S ?_
  cases run_some h
  exact am SC
 ·skip
  refine S ?_
  obtain⟨v7,hv7,h⟩:=run_bind h
  refine ba (f:=(az false)) (fun a=>Sa.psize _ a) hv7 SC SC (S ?_)
  cases run_some h
  exact am SC

theorem impl_copyGraph_sat{a0:Sb}  {r:Sb}(h:impl_copyGraph a0=some r):Sat ag 62 [((au false) a0)] ((au true) r):=by
 obtain⟨h,cs⟩:=aG h
 unfold impl_copyGraph at h
 refine aK (nt:=8) (rs:=[.cell 2 26]) (n:=100000) Try.func62 rfl rfl rfl rfl (by simp) (S ?_)
 obtain⟨v5,hv5,h⟩:=run_bind h
 refine av [false] (slices_Clone_Simpl_SizeEdge_impl_SizeEdge_sat hv5) SC (S ?_)
 cases run_some h
 exact am SC

theorem slices_BinarySearchFunc_Simpl_SizeEdge_impl_SizeEdge_impl_SizeEdge_sat{a0:List Sa}{a1:Sa}{a2:Sa→Sa→Option Int}{a2_id:FuncId}{a2_cs:List PV}(a2_ok:∀ y0 y1 r,a2 y0 y1=some r→Sat ag a2_id (((az false) y0)::((az false) y1)::a2_cs) (I r))(a2_cz:CapsOk a2_cs=True){r:Int×Bool}(h:slices_BinarySearchFunc_Simpl_SizeEdge_impl_SizeEdge_impl_SizeEdge a0 a1 a2=some r):Sat ag 72 [(.sl false 3 (a0.map (az false))),((az false) a1),.clo a2_id a2_cs] (.tup [(I r.1),(B r.2)]):=by
 obtain⟨h,cs⟩:=aG h
 unfold slices_BinarySearchFunc_Simpl_SizeEdge_impl_SizeEdge_impl_SizeEdge at h
 have cs:=aa a2_cz cs
 refine aK (nt:=49) (rs:=[.tmp 6,.tmp 7]) (n:=100000) Try.func72 rfl rfl rfl rfl (by simp) (S ?_)
 replace h:=run_loop h
 refine Mg.whileN h (fun s3=>[(0,.val (.pv (.sl false 3 (a0.map (az false))))),(2,.val (.pv (.clo a2_id a2_cs))),(4,.box (.pv ((az false) a1))),(8,.val (.pv (I (a0.length:Int)))),(9,.val (.pv (I s3.1))),(10,.val (.pv (I s3.2)))]) (fun s3=>[]) (ap SC) (fun n3 s3 h=>?_)
 refine S ?_
 refine ai cs h (fun cs h=>S ?_) (fun cs h=>S ?_)
 ·obtain⟨v22,hv22,h⟩:=run_bind h
  refine ShrH.mk hv22 (S ?_)
  obtain⟨v27,hv27,h⟩:=run_bind h
  refine aD (f:=(az false)) hv27 SC (S ?_)
  obtain⟨v30,hv30,h⟩:=run_bind h
  refine av [false,false] (a2_ok _ _ _ hv30) SC (S ?_)
  refine aa (aF [] []) (S ?_)
  refine ai cs h (fun cs h=>S ?_) (fun cs h=>S ?_)
  ·have h:=run_some h
   refine aC ⟨_,h,?_⟩
   exact ap SC
  ·have h:=run_some h
   refine aC ⟨_,h,?_⟩
   exact ap SC
 ·have h:=run_some h
  refine ai cs h (fun cs h=>S ?_) (fun cs h=>S ?_)
  ·obtain⟨v43,hv43,h⟩:=run_bind h
   refine aD (f:=(az false)) hv43 SC (S ?_)
   obtain⟨v46,hv46,h⟩:=run_bind h
   refine av [false,false] (a2_ok _ _ _ hv46) SC (S ?_)
   refine aa (aF [] []) (S ?_)
   cases run_some h
   exact am SC
  ·refine aa (aF [] []) (S ?_)
   cases run_some h
   exact am SC


theorem impl_compose_sat{a0:Sb}{a1:Sb}  {r:Sb}(h:impl_compose a0 a1=some r):Sat ag 39 [((au false) a0),((au false) a1)] ((au true) r):=by
 obtain⟨h,cs⟩:=aG h
 unfold impl_compose at h
 refine aK (nt:=81) (rs:=[.cell 4 26]) (n:=100000) Try.func39 rfl rfl rfl rfl (by simp) (S ?_)
 refine bn (b:=false) (sz:=3) (es:=a0.Edges.map (az false)) 19 SC fun hl19=>?_; rw[aO] at hl19
 replace h:=run_loop h
 refine aY h (fun i3 s3=>[(3,.box (.pv ((au false) a1))),(4,.box zab0),(5,.box (.node [(.pv (I a0.Source)),(.pv (I a1.Target)),(.own 9309)])),(19,.val (.pv (.sl false 3 (a0.Edges.map (az false))))),(20,.val (.pv (I (a0.Edges.length:Int)))),(21,.val (.pv (I (i3:Int))))]) (fun i3 s3=>[(9309,(3,s3.map (az false)))]) (St.le_trans (St.le_nilB (x:=(.node [(.pv (I a0.Source)),(.pv (I a1.Target)),(.pv (.sl true 3 []))])) 5 [2] 9309 3 NM SC SC SC) (ap SC)) (fun i3 s3 hi h=>?_) (fun s3 h=>?_)
 ·have w:=wrap_succ (i:=i3) (by omega)
  refine S ?_
  refine aS cs (by omega) (fun cs=>S ?_)
  obtain⟨v23,hv23,h⟩:=run_bind h
  refine aD (f:=(az false)) hv23 SC (S ?_)
  refine bn (b:=false) (sz:=3) (es:=a1.Edges.map (az false)) 26 SC fun hl26=>?_; rw[aO] at hl26
  replace h:=run_loop h
  refine aY h (fun i6 s6=>[(3,.box (.pv ((au false) a1))),(4,.box zab0),(5,.box (.node [(.pv (I a0.Source)),(.pv (I a1.Target)),(.own 9309)])),(7,.box (.pv ((az false) v23))),(19,.val (.pv (.sl false 3 (a0.Edges.map (az false))))),(20,.val (.pv (I (a0.Edges.length:Int)))),(21,.val (.pv (I (i3:Int)))),(26,.val (.pv (.sl false 3 (a1.Edges.map (az false))))),(27,.val (.pv (I (a1.Edges.length:Int)))),(28,.val (.pv (I (i6:Int))))]) (fun i6 s6=>[(9309,(3,s6.map (az false)))]) (ap SC) (fun i6 s6 hi h=>?_) (fun s6 h=>?_)
  ·have w:=aa (wrap_succ (i:=i6) (by omega)) w
   refine S ?_
   refine aS cs (by omega) (fun cs=>S ?_)
   obtain⟨v30,hv30,h⟩:=run_bind h
   refine aD (f:=(az false)) hv30 SC (S ?_)
   refine ai cs h (fun cs h=>S ?_) (fun cs h=>S ?_)
   ·refine ai cs h (fun cs h=>S ?_) (fun cs h=>S ?_)
    ·obtain⟨v52,hv52,h⟩:=run_bind h
     refine av [false,false,false] (slices_BinarySearchFunc_Simpl_SizeEdge_impl_SizeEdge_impl_SizeEdge_sat (fun _ _ _ hh=>impl_compareEdges_sat hh) (by simp only[CapsOk_nil,CapsOk_cons]) hv52) SC (S ?_)
     refine ai cs h (fun cs h=>S ?_) (fun cs h=>S ?_)
     ·obtain⟨v62,hv62,h⟩:=run_bind h
      refine aD (f:=(az false)) hv62 SC (S ?_)
      obtain⟨v64,hv64,h⟩:=run_bind h
      refine EldH.mk (f:=(az false)) hv64 rfl SC (S ?_)
      refine ai cs h (fun cs h=>S ?_) (fun cs h=>S ?_)
      ·obtain⟨v69,hv69,h⟩:=run_bind h
       refine aD (f:=(az false)) hv69 SC (S ?_)
       obtain⟨w7,hw7,h⟩:=run_bind h
       refine EldH.mk (f:=(az false)) hw7 rfl SC (S ?_)
       refine aa (aF [] []) (S ?_)
       have h:=run_some h
       refine aC ⟨_,h,?_⟩
       exact ap SWx
      ·obtain⟨v69,hv69,h⟩:=run_bind h
       refine aD (f:=(az false)) hv69 SC (S ?_)
       obtain⟨w8,hw8,h⟩:=run_bind h
       refine EldH.mk (f:=(az false)) hw8 rfl SC (S ?_)
       refine aa (aF [] []) (S ?_)
       have h:=run_some h
       refine aC ⟨_,h,?_⟩
       exact ap SWx
     ·obtain⟨v76,hv76,h⟩:=run_bind h
      refine av [true,false,true] (slices_InsertE_sat hv76) SC (S ?_)
      have h:=run_some h
      refine aC ⟨_,h,?_⟩
      refine bt 1216 9309 ?_
      exact ap SWx
    ·obtain⟨v52,hv52,h⟩:=run_bind h
     refine av [false,false,false] (slices_BinarySearchFunc_Simpl_SizeEdge_impl_SizeEdge_impl_SizeEdge_sat (fun _ _ _ hh=>impl_compareEdges_sat hh) (by simp only[CapsOk_nil,CapsOk_cons]) hv52) SC (S ?_)
     refine ai cs h (fun cs h=>S ?_) (fun cs h=>S ?_)
     ·obtain⟨v62,hv62,h⟩:=run_bind h
      refine aD (f:=(az false)) hv62 SC (S ?_)
      obtain⟨v64,hv64,h⟩:=run_bind h
      refine EldH.mk (f:=(az false)) hv64 rfl SC (S ?_)
      refine ai cs h (fun cs h=>S ?_) (fun cs h=>S ?_)
      ·obtain⟨v69,hv69,h⟩:=run_bind h
       refine aD (f:=(az false)) hv69 SC (S ?_)
       obtain⟨w11,hw11,h⟩:=run_bind h
       refine EldH.mk (f:=(az false)) hw11 rfl SC (S ?_)
       refine aa (aF [] []) (S ?_)
       have h:=run_some h
       refine aC ⟨_,h,?_⟩
       exact ap SWx
      ·obtain⟨v69,hv69,h⟩:=run_bind h
       refine aD (f:=(az false)) hv69 SC (S ?_)
       obtain⟨w12,hw12,h⟩:=run_bind h
       refine EldH.mk (f:=(az false)) hw12 rfl SC (S ?_)
       refine aa (aF [] []) (S ?_)
       have h:=run_some h
       refine aC ⟨_,h,?_⟩
       exact ap SWx
     ·obtain⟨v76,hv76,h⟩:=run_bind h
      refine av [true,false,true] (slices_InsertE_sat hv76) SC (S ?_)
      have h:=run_some h
      refine aC ⟨_,h,?_⟩
      refine bt 1216 9309 ?_
      exact ap SWx
   ·have h:=run_some h
    refine aC ⟨_,h,?_⟩
    exact ap SWx
  ·refine S ?_
   refine aU cs (by omega) (fun cs=>S ?_)
   have h:=run_some h
   refine aC ⟨_,h,?_⟩
   exact ap SWx
 ·refine S ?_
  refine aU cs (by omega) (fun cs=>S ?_)
  cases run_some h
  exact am SC

theorem slices_Clone_Sint_int_sat{a0:List Int}  {r:List Int}(h:slices_Clone_Sint_int a0=some r):Sat ag 86 [(.sl false 1 (a0.map I))] (.sl true 1 (r.map I)):=by
 obtain⟨h,cs⟩:=aG h
 unfold slices_Clone_Sint_int at h
 refine aK (nt:=8) (rs:=[.tmp 2]) (n:=100000) Try.func86 rfl rfl rfl rfl (by simp) (S ?_)
 refine NilH.mk (fun e=>?_) ?_
 ·obtain rfl:a0=[]:=List.map_eq_nil_iff.1 e
  simp only[app_nn,Option.bind_some] at h
  refine S ?_
  cases run_some h
  exact am SC
 ·skip
  refine S ?_
  obtain⟨v7,hv7,h⟩:=run_bind h
  refine ba (f:=I) (fun _=>rfl) hv7 SC SC (S ?_)
  cases run_some h
  exact am SC

theorem impl_closure_sat{a0:Ct}  {r:(List ft)×Bool}(h:impl_closure a0=some r):Sat ag 44 [((aQ false) a0)] (.tup [(.sl true 4 (r.1.map (ft.pv false))),(B r.2)]):=by
 obtain⟨h,cs⟩:=aG h
 unfold impl_closure at h
 refine aK (nt:=74) (rs:=[.tmp 2,.tmp 3]) (n:=100000) Try.func44 rfl rfl rfl rfl (by simp) (S ?_)
 refine MfH.hcl (r:=4) (x:=(.own 176)) [] [] [] [true] [] rfl rfl rfl SC (S ?_)
 refine bn (b:=false) (sz:=3) (es:=a0.Calls.map (au false)) 14 SC fun hl14=>?_; rw[aO] at hl14
 replace h:=run_loop h
 refine aY h (fun i4 s4=>[(1,.box (.pv ((aQ false) a0))),(4,.box (.own 176)),(5,.hptr 4 (.clo 82 [true]) []),(14,.val (.pv (.sl false 3 (a0.Calls.map (au false))))),(15,.val (.pv (I (a0.Calls.length:Int)))),(16,.val (.pv (I (i4:Int))))]) (fun i4 s4=>[(176,(4,s4.map (ft.pv false)))]) (ap SC) (fun i4 s4 hi h=>?_) (fun s4 h=>?_)
 ·have w:=wrap_succ (i:=i4) (by omega)
  refine S ?_
  refine aS cs (by omega) (fun cs=>S ?_)
  obtain⟨v19,hv19,h⟩:=run_bind h
  refine aD (f:=(au false)) hv19 SC (S ?_)
  obtain⟨v23,hv23,h⟩:=run_bind h
  refine av [false] (impl_copyGraph_sat hv23) SC (S ?_)
  obtain⟨v26,hv26,h⟩:=run_bind h
  refine HandH.callC (r:=4) (hc:=.cv (.own 176)) (pre:=[(.agg [(I v23.Source),(I v23.Target),(.sl true 3 (v23.Edges.map (az false)))]),(.sl true 1 (([(i4:Int)]).map I))]) [true] [] [] [] [(.node [(.pv (I v23.Source)),(.pv (I v23.Target)),(.own 368)]),(.own 400)] [true,true] (SatH.give [true,true] (impl_closure_1_sat hv26) (by first | rfl | simp only[gv_t,gv_f,gv_n,view_sl,view_agg,view_lit,views_I,views_Sx,views_repB,views_repI,aE,bA,List.cons_append,RB,RS]) rfl) rfl (by simp only[CapsOk_nil,CapsOk_cons]) SC (S ?_)
  have h:=run_some h
  refine aC ⟨_,h,?_⟩
  refine bt 416 176 ?_
  exact ap SWx
 ·refine S ?_
  refine aU cs (by omega) (fun cs=>S ?_)
  replace h:=run_loop h
  refine Mg.whileN h (fun s9=>[(1,.box (.pv ((aQ false) a0))),(4,.box (.own 176)),(5,.hptr 4 (.clo 82 [true]) []),(8,.val (.pv (I s9.2)))]) (fun s9=>[(176,(4,s9.1.map (ft.pv false)))]) (ap SC) (fun n9 s9 h=>?_)
  refine S ?_
  refine ai cs h (fun cs h=>S ?_) (fun cs h=>S ?_)
  ·refine bn (b:=false) (sz:=3) (es:=a0.Calls.map (au false)) 35 SC fun hl35=>?_; rw[aO] at hl35
   replace h:=run_loop h
   refine aY h (fun i12 s12=>[(1,.box (.pv ((aQ false) a0))),(4,.box (.own 176)),(5,.hptr 4 (.clo 82 [true]) []),(8,.val (.pv (I s9.2))),(35,.val (.pv (.sl false 3 (a0.Calls.map (au false))))),(36,.val (.pv (I (a0.Calls.length:Int)))),(37,.val (.pv (I (i12:Int))))]) (fun i12 s12=>[(176,(4,s12.map (ft.pv false)))]) (ap SC) (fun i12 s12 hi h=>?_) (fun s12 h=>?_)
   ·have w:=wrap_succ (i:=i12) (by omega)
    refine S ?_
    refine aS cs (by omega) (fun cs=>S ?_)
    obtain⟨v40,hv40,h⟩:=run_bind h
    refine aD (f:=(au false)) hv40 SC (S ?_)
    obtain⟨v46,hv46,h⟩:=run_bind h
    refine aD (f:=(ft.pv false)) hv46 SC (S ?_)
    obtain⟨v49,hv49,h⟩:=run_bind h
    refine EldH.mk (f:=(ft.pv false)) hv49 rfl SC (S ?_)
    refine aa (aF [] []) (S ?_)
    refine ai cs h (fun cs h=>S ?_) (fun cs h=>S ?_)
    ·obtain⟨v54,hv54,h⟩:=run_bind h
     refine aD (f:=(ft.pv false)) hv54 SC (S ?_)
     obtain⟨v56,hv56,h⟩:=run_bind h
     refine EldH.mk (f:=(ft.pv false)) hv56 rfl SC (S ?_)
     obtain⟨v58,hv58,h⟩:=run_bind h
     refine av [false,false] (impl_compose_sat hv58) SC (S ?_)
     obtain⟨v61,hv61,h⟩:=run_bind h
     refine aD (f:=(ft.pv false)) hv61 SC (S ?_)
     obtain⟨v63,hv63,h⟩:=run_bind h
     refine EldH.mk (f:=(ft.pv false)) hv63 rfl SC (S ?_)
     obtain⟨v64,hv64,h⟩:=run_bind h
     refine av [false] (slices_Clone_Sint_int_sat hv64) SC (S ?_)
     obtain⟨v67,hv67,h⟩:=run_bind h
     refine ba (f:=I) (fun _=>rfl) hv67 SC SC (S ?_)
     obtain⟨v68,hv68,h⟩:=run_bind h
     refine HandH.callC (r:=4) (hc:=.cv (.own 176)) (pre:=[(.agg [(I v58.Source),(I v58.Target),(.sl true 3 (v58.Edges.map (az false)))]),(.sl true 1 (v67.map I))]) [true] [] [] [] [(.node [(.pv (I v58.Source)),(.pv (I v58.Target)),(.own 928)]),(.own 1072)] [true,true] (SatH.give [true,true] (impl_closure_1_sat hv68) (by first | rfl | simp only[gv_t,gv_f,gv_n,view_sl,view_agg,view_lit,views_I,views_Sx,views_repB,views_repI,aE,bA,List.cons_append,RB,RS]) rfl) rfl (by simp only[CapsOk_nil,CapsOk_cons]) SC (S ?_)
     refine aa (aF [] [928,1024,1056,1072,1088]) (S ?_)
     have h:=run_some h
     refine aC ⟨_,h,?_⟩
     refine bt 1088 176 ?_
     exact ap SWx
    ·have h:=run_some h
     refine aC ⟨_,h,?_⟩
     exact ap SWx
   ·refine S ?_
    refine ai cs h (fun cs h=>S ?_) (fun cs h=>S ?_)
    ·cases run_some h
     exact am SC
    ·have h:=run_some h
     refine aC ⟨_,h,?_⟩
     exact ap SC
  ·have h:=run_some h
   cases run_some h
   exact am SC

theorem impl_isIdempotent_sat{a0:Sb}  {r:Bool}(h:impl_isIdempotent a0=some r):Sat ag 53 [((au false) a0)] (B r):=by
 obtain⟨h,cs⟩:=aG h
 unfold impl_isIdempotent at h
 refine aK (nt:=15) (rs:=[.tmp 2]) (n:=100000) Try.func53 rfl rfl rfl rfl (by simp) (S ?_)
 refine ai cs h (fun cs h=>S ?_) (fun cs h=>S ?_)
 ·obtain⟨v11,hv11,h⟩:=run_bind h
  refine av [false,false] (impl_compose_sat hv11) SC (S ?_)
  obtain⟨v13,hv13,h⟩:=run_bind h
  refine av [false,false] (impl_sameGraph_sat hv13) SC (S ?_)
  refine aa (aF [] [176]) (S ?_)
  cases run_some h
  exact am SC
 ·refine aa (aF [] []) (S ?_)
  cases run_some h
  exact am SC

theorem impl_TraceDefect_1_sat{a0:Sa}  {r:Bool}(h:impl_TraceDefect_1 a0=some r):Sat ag 55 [((az false) a0)] (B r):=by
 obtain⟨h,cs⟩:=aG h
 unfold impl_TraceDefect_1 at h
 refine aK (nt:=12) (rs:=[.tmp 2]) (n:=100000) Try.func55 rfl rfl rfl rfl (by simp) (S ?_)
 refine ai cs h (fun cs h=>S ?_) (fun cs h=>S ?_)
 ·cases run_some h
  exact am SC
 ·cases run_some h
  exact am SC

theorem impl_TraceDefect_sat{a0:Ct}  {r:(List Int)×Bool}(h:impl_TraceDefect a0=some r):Sat ag 19 [((aQ false) a0)] (.tup [(.sl false 1 (r.1.map I)),(B r.2)]):=by
 obtain⟨h,cs⟩:=aG h
 unfold impl_TraceDefect at h
 refine aK (nt:=37) (rs:=[.tmp 2,.tmp 3]) (n:=100000) Try.func19 rfl rfl rfl rfl (by simp) (S ?_)
 obtain⟨v9,hv9,h⟩:=run_bind h
 refine av [false] (impl_IsValidCyclic_sat hv9) SC (S ?_)
 refine ai cs h (fun cs h=>S ?_) (fun cs h=>S ?_)
 ·obtain⟨v13,hv13,h⟩:=run_bind h
  refine av [false] (impl_closure_sat hv13) SC (S ?_)
  refine ai cs h (fun cs h=>S ?_) (fun cs h=>S ?_)
  ·refine Mg.know_own (sz:=4) (es:=v13.1.map (ft.pv false)) 208 SC fun hl208=>?_; rw[aO] at hl208
   replace h:=run_loop h
   refine aY h (fun i7 s7=>[(18,.val (.own 208)),(19,.val (.pv (I (v13.1.length:Int)))),(20,.val (.pv (I (i7:Int))))]) (fun i7 s7=>[(208,(4,v13.1.map (ft.pv false)))]) (ap SC) (fun i7 s7 hi h=>?_) (fun s7 h=>?_)
   ·have w:=wrap_succ (i:=i7) (by omega)
    refine S ?_
    refine aS cs (by omega) (fun cs=>S ?_)
    obtain⟨v22,hv22,h⟩:=run_bind h
    refine aD (f:=(ft.pv false)) hv22 SC (S ?_)
    obtain⟨v23,hv23,h⟩:=run_bind h
    refine EldH.mk (f:=(ft.pv false)) hv23 rfl SC (S ?_)
    obtain⟨v26,hv26,h⟩:=run_bind h
    refine av [false] (impl_isIdempotent_sat hv26) SC (S ?_)
    refine ai cs h (fun cs h=>S ?_) (fun cs h=>S ?_)
    ·obtain⟨v31,hv31,h⟩:=run_bind h
     refine av [false,false] (slices_ContainsFunc_Simpl_SizeEdge_impl_SizeEdge_sat (fun _ _ hh=>impl_TraceDefect_1_sat hh) (by simp only[CapsOk_nil,CapsOk_cons]) hv31) SC (S ?_)
     refine ai cs h (fun cs h=>S ?_) (fun cs h=>S ?_)
     ·have h:=run_some h
      refine aC ⟨_,h,?_⟩
      exact ap SWx
     ·cases run_some h
      exact FinH.r SC
    ·have h:=run_some h
     refine aC ⟨_,h,?_⟩
     exact ap SWx
   ·refine S ?_
    refine aU cs (by omega) (fun cs=>S ?_)
    cases run_some h
    exact FinH.r SC
  ·cases run_some h
   exact FinH.r SC
 ·cases run_some h
  exact FinH.r SC

theorem spec_l1In_sat{a0:Int}{a1:Int}{a2:Int}  {r:Bool}(h:spec_l1In a0 a1 a2=some r):Sat ag 74 [(I a0),(I a1),(I a2)] (B r):=by
 obtain⟨h,cs⟩:=aG h
 unfold spec_l1In at h
 refine aK (nt:=15) (rs:=[.tmp 6]) (n:=100000) Try.func74 rfl rfl rfl rfl (by simp) (S ?_)
 refine ai cs h (fun cs h=>S ?_) (fun cs h=>S ?_)
 ·cases run_some h
  exact am SC
 ·cases run_some h
  exact am SC

theorem spec_l24Graph_sat{a0:Sb}  {r:Bool}(h:spec_l24Graph a0=some r):Sat ag 40 [((au false) a0)] (B r):=by
 obtain⟨h,cs⟩:=aG h
 unfold spec_l24Graph at h
 refine aK (nt:=64) (rs:=[.tmp 2]) (n:=100000) Try.func40 rfl rfl rfl rfl (by simp) (S ?_)
 obtain⟨v7,hv7,h⟩:=run_bind h
 refine av [false,false,false] (spec_l1In_sat hv7) SC (S ?_)
 refine ai cs h (fun cs h=>S ?_) (fun cs h=>S ?_)
 ·obtain⟨v12,hv12,h⟩:=run_bind h
  refine av [false,false,false] (spec_l1In_sat hv12) SC (S ?_)
  refine ai cs h (fun cs h=>S ?_) (fun cs h=>S ?_)
  ·refine Mg.know_val2 (b:=false) (sz:=3) (es:=a0.Edges.map (az false)) (x:=(.pv ((au false) a0))) 0 [2] SC fun hl0=>?_; rw[aO] at hl0
   replace h:=run_loop h
   refine aY h (fun i4 s4=>[(1,.box (.pv ((au false) a0))),(3,.val (.pv (I (i4:Int))))]) (fun i4 s4=>[]) (ap SC) (fun i4 s4 hi h=>?_) (fun s4 h=>?_)
   ·have w:=wrap_succ (i:=i4) (by omega)
    refine S ?_
    refine aS cs (by omega) (fun cs=>S ?_)
    obtain⟨v25,hv25,h⟩:=run_bind h
    refine aD (f:=(az false)) hv25 SC (S ?_)
    obtain⟨v29,hv29,h⟩:=run_bind h
    refine av [false,false,false] (spec_l1In_sat hv29) SC (S ?_)
    refine ai cs h (fun cs h=>S ?_) (fun cs h=>S ?_)
    ·obtain⟨v34,hv34,h⟩:=run_bind h
     refine av [false,false,false] (spec_l1In_sat hv34) SC (S ?_)
     refine ai cs h (fun cs h=>S ?_) (fun cs h=>S ?_)
     ·refine ai cs h (fun cs h=>S ?_) (fun cs h=>S ?_)
      ·obtain⟨v44,hv44,h⟩:=run_bind h
       refine aD (f:=(az false)) hv44 SC (S ?_)
       obtain⟨v52,hv52,h⟩:=run_bind h
       refine aD (f:=(az false)) hv52 SC (S ?_)
       refine aa (aF [] []) (S ?_)
       refine ai cs h (fun cs h=>S ?_) (fun cs h=>S ?_)
       ·cases run_some h
        exact am SC
       ·have h:=run_some h
        refine aC ⟨_,h,?_⟩
        exact ap SWx
      ·refine aa (aF [] []) (S ?_)
       have h:=run_some h
       refine aC ⟨_,h,?_⟩
       exact ap SWx
     ·cases run_some h
      exact am SC
    ·cases run_some h
     exact am SC
   ·refine S ?_
    refine aU cs (by omega) (fun cs=>S ?_)
    cases run_some h
    exact am SC
  ·cases run_some h
   exact am SC
 ·cases run_some h
  exact am SC

theorem spec_l24Good_sat{a0:Ct}  {r:Bool}(h:spec_l24Good a0=some r):Sat ag 45 [((aQ false) a0)] (B r):=by
 obtain⟨h,cs⟩:=aG h
 unfold spec_l24Good at h
 refine aK (nt:=94) (rs:=[.tmp 2]) (n:=100000) Try.func45 rfl rfl rfl rfl (by simp) (S ?_)
 obtain⟨v12,hv12,h⟩:=run_bind h
 refine av [false,false,false] (spec_l1In_sat hv12) SC (S ?_)
 refine ai cs h (fun cs h=>S ?_) (fun cs h=>S ?_)
 ·refine ai cs h (fun cs h=>S ?_) (fun cs h=>S ?_)
  ·cases run_some h
   exact am SC
  ·refine bn (b:=false) (sz:=1) (es:=a0.Arities.map I) 9 SC fun hl9=>?_; rw[aO] at hl9
   replace h:=run_loop h
   refine aY h (fun i5 s5=>[(1,.box (.pv ((aQ false) a0))),(3,.val (.pv (I (a0.Arities.length:Int)))),(4,.val (.pv (I (i5:Int))))]) (fun i5 s5=>[]) (ap SC) (fun i5 s5 hi h=>?_) (fun s5 h=>?_)
   ·have w:=wrap_succ (i:=i5) (by omega)
    refine S ?_
    refine aS cs (by omega) (fun cs=>S ?_)
    obtain⟨v28,hv28,h⟩:=run_bind h
    refine aD (f:=I) hv28 SC (S ?_)
    obtain⟨v30,hv30,h⟩:=run_bind h
    refine av [false,false,false] (spec_l1In_sat hv30) SC (S ?_)
    refine ai cs h (fun cs h=>S ?_) (fun cs h=>S ?_)
    ·have h:=run_some h
     refine aC ⟨_,h,?_⟩
     exact ap SWx
    ·cases run_some h
     exact am SC
   ·refine S ?_
    refine aU cs (by omega) (fun cs=>S ?_)
    refine Mg.know_box2 (b:=false) (sz:=3) (es:=a0.Calls.map (au false)) (x:=(.pv ((aQ false) a0))) 1 [1] SC fun hl1=>?_; rw[aO] at hl1
    replace h:=run_loop h
    refine aY h (fun i10 s10=>[(1,.box (.pv ((aQ false) a0))),(3,.val (.pv (I (a0.Arities.length:Int)))),(5,.val (.pv (I (i10:Int))))]) (fun i10 s10=>[]) (ap SC) (fun i10 s10 hi h=>?_) (fun s10 h=>?_)
    ·have w:=wrap_succ (i:=i10) (by omega)
     refine S ?_
     refine aS cs (by omega) (fun cs=>S ?_)
     obtain⟨v42,hv42,h⟩:=run_bind h
     refine aD (f:=(au false)) hv42 SC (S ?_)
     obtain⟨v45,hv45,h⟩:=run_bind h
     refine av [false] (spec_l24Graph_sat hv45) SC (S ?_)
     refine ai cs h (fun cs h=>S ?_) (fun cs h=>S ?_)
     ·refine ai cs h (fun cs h=>S ?_) (fun cs h=>S ?_)
      ·cases run_some h
       exact am SC
      ·refine ai cs h (fun cs h=>S ?_) (fun cs h=>S ?_)
       ·cases run_some h
        exact am SC
       ·refine Mg.know_box2 (b:=false) (sz:=3) (es:=v42.Edges.map (az false)) (x:=(.pv ((au false) v42))) 6 [2] SC fun hl6=>?_; rw[aO] at hl6
        replace h:=run_loop h
        refine aY h (fun i16 s16=>[(1,.box (.pv ((aQ false) a0))),(3,.val (.pv (I (a0.Arities.length:Int)))),(5,.val (.pv (I (i10:Int)))),(6,.box (.pv ((au false) v42))),(7,.val (.pv (I (i16:Int))))]) (fun i16 s16=>[]) (ap SC) (fun i16 s16 hi h=>?_) (fun s16 h=>?_)
        ·have w:=aa (wrap_succ (i:=i16) (by omega)) w
         refine S ?_
         refine aS cs (by omega) (fun cs=>S ?_)
         obtain⟨v69,hv69,h⟩:=run_bind h
         refine aD (f:=(az false)) hv69 SC (S ?_)
         obtain⟨v76,hv76,h⟩:=run_bind h
         refine aD (f:=I) hv76 SC (S ?_)
         refine ai cs h (fun cs h=>S ?_) (fun cs h=>S ?_)
         ·refine aa (aF [] []) (S ?_)
          cases run_some h
          exact am SC
         ·obtain⟨v83,hv83,h⟩:=run_bind h
          refine aD (f:=(az false)) hv83 SC (S ?_)
          obtain⟨v90,hv90,h⟩:=run_bind h
          refine aD (f:=I) hv90 SC (S ?_)
          refine aa (aF [] []) (S ?_)
          refine ai cs h (fun cs h=>S ?_) (fun cs h=>S ?_)
          ·cases run_some h
           exact am SC
          ·have h:=run_some h
           refine aC ⟨_,h,?_⟩
           exact ap SWx
        ·refine S ?_
         refine aU cs (by omega) (fun cs=>S ?_)
         have h:=run_some h
         refine aC ⟨_,h,?_⟩
         exact ap SWx
     ·cases run_some h
      exact am SC
    ·refine S ?_
     refine aU cs (by omega) (fun cs=>S ?_)
     cases run_some h
     exact am SC
 ·cases run_some h
  exact am SC

theorem spec_l24Same_sat{a0:Sb}{a1:Sb}  {r:Bool}(h:spec_l24Same a0 a1=some r):Sat ag 91 [((au false) a0),((au false) a1)] (B r):=by
 obtain⟨h,cs⟩:=aG h
 unfold spec_l24Same at h
 refine aK (nt:=45) (rs:=[.tmp 4]) (n:=100000) Try.func91 rfl rfl rfl rfl (by simp) (S ?_)
 refine ai cs h (fun cs h=>S ?_) (fun cs h=>S ?_)
 ·refine ai cs h (fun cs h=>S ?_) (fun cs h=>S ?_)
  ·refine ai cs h (fun cs h=>S ?_) (fun cs h=>S ?_)
   ·refine bn (b:=false) (sz:=3) (es:=a0.Edges.map (az false)) 20 SC fun hl20=>?_; rw[aO] at hl20
    replace h:=run_loop h
    refine aY h (fun i4 s4=>[(2,.box (.pv ((au false) a0))),(3,.box (.pv ((au false) a1))),(5,.val (.pv (I (i4:Int))))]) (fun i4 s4=>[]) (ap SC) (fun i4 s4 hi h=>?_) (fun s4 h=>?_)
    ·have w:=wrap_succ (i:=i4) (by omega)
     refine S ?_
     refine aS cs (by omega) (fun cs=>S ?_)
     obtain⟨v37,hv37,h⟩:=run_bind h
     refine aD (f:=(az false)) hv37 SC (S ?_)
     obtain⟨v42,hv42,h⟩:=run_bind h
     refine aD (f:=(az false)) hv42 SC (S ?_)
     refine aa (aF [] []) (S ?_)
     refine ai cs h (fun cs h=>S ?_) (fun cs h=>S ?_)
     ·have h:=run_some h
      refine aC ⟨_,h,?_⟩
      exact ap SWx
     ·cases run_some h
      exact am SC
    ·refine S ?_
     refine aU cs (by omega) (fun cs=>S ?_)
     cases run_some h
     exact am SC
   ·cases run_some h
    exact am SC
  ·cases run_some h
   exact am SC
 ·cases run_some h
  exact am SC

theorem spec_l24At_sat{a0:List Sb}{a1:Sb}  {r:Int}(h:spec_l24At a0 a1=some r):Sat ag 87 [(.sl false 3 (a0.map (au false))),((au false) a1)] (I r):=by
 obtain⟨h,cs⟩:=aG h
 unfold spec_l24At at h
 refine aK (nt:=19) (rs:=[.tmp 4]) (n:=100000) Try.func87 rfl rfl rfl rfl (by simp) (S ?_)
 refine bn (b:=false) (sz:=3) (es:=a0.map (au false)) 0 SC fun hl0=>?_; rw[aO] at hl0
 replace h:=run_loop h
 refine aY h (fun i2 s2=>[(0,.val (.pv (.sl false 3 (a0.map (au false))))),(3,.box (.pv ((au false) a1))),(5,.val (.pv (I (i2:Int))))]) (fun i2 s2=>[]) (ap SC) (fun i2 s2 hi h=>?_) (fun s2 h=>?_)
 ·have w:=wrap_succ (i:=i2) (by omega)
  refine S ?_
  refine aS cs (by omega) (fun cs=>S ?_)
  obtain⟨v14,hv14,h⟩:=run_bind h
  refine aD (f:=(au false)) hv14 SC (S ?_)
  obtain⟨v17,hv17,h⟩:=run_bind h
  refine av [false,false] (spec_l24Same_sat hv17) SC (S ?_)
  refine aa (aF [] []) (S ?_)
  refine ai cs h (fun cs h=>S ?_) (fun cs h=>S ?_)
  ·cases run_some h
   exact am SC
  ·have h:=run_some h
   refine aC ⟨_,h,?_⟩
   exact ap SWx
 ·refine S ?_
  refine aU cs (by omega) (fun cs=>S ?_)
  cases run_some h
  exact am SC

theorem spec_l24Own_sat{a0:Sb}  {r:Sb}(h:spec_l24Own a0=some r):Sat ag 88 [((au false) a0)] ((au true) r):=by
 obtain⟨h,cs⟩:=aG h
 unfold spec_l24Own at h
 refine aK (nt:=12) (rs:=[.cell 2 26]) (n:=100000) Try.func88 rfl rfl rfl rfl (by simp) (S ?_)
 obtain⟨v10,hv10,h⟩:=run_bind h
 refine ba (f:=(az false)) (fun a=>Sa.psize _ a) hv10 SC SC (S ?_)
 refine aa (aF [] [112,160]) (S ?_)
 cases run_some h
 exact am SC

theorem spec_l24Level_sat{a0:Sb}{a1:Int}{a2:Int}  {r:Int}(h:spec_l24Level a0 a1 a2=some r):Sat ag 75 [((au false) a0),(I a1),(I a2)] (I r):=by
 obtain⟨h,cs⟩:=aG h
 unfold spec_l24Level at h
 refine aK (nt:=39) (rs:=[.tmp 6]) (n:=100000) Try.func75 rfl rfl rfl rfl (by simp) (S ?_)
 refine Mg.know_val2 (b:=false) (sz:=3) (es:=a0.Edges.map (az false)) (x:=(.pv ((au false) a0))) 0 [2] SC fun hl0=>?_; rw[aO] at hl0
 replace h:=run_loop h
 refine aY h (fun i2 s2=>[(1,.val (.pv (I a1))),(2,.val (.pv (I a2))),(3,.box (.pv ((au false) a0))),(7,.val (.pv (I (i2:Int))))]) (fun i2 s2=>[]) (ap SC) (fun i2 s2 hi h=>?_) (fun s2 h=>?_)
 ·have w:=wrap_succ (i:=i2) (by omega)
  refine S ?_
  refine aS cs (by omega) (fun cs=>S ?_)
  obtain⟨v18,hv18,h⟩:=run_bind h
  refine aD (f:=(az false)) hv18 SC (S ?_)
  refine ai cs h (fun cs h=>S ?_) (fun cs h=>S ?_)
  ·obtain⟨v27,hv27,h⟩:=run_bind h
   refine aD (f:=(az false)) hv27 SC (S ?_)
   refine ai cs h (fun cs h=>S ?_) (fun cs h=>S ?_)
   ·obtain⟨v36,hv36,h⟩:=run_bind h
    refine aD (f:=(az false)) hv36 SC (S ?_)
    refine ai cs h (fun cs h=>S ?_) (fun cs h=>S ?_)
    ·cases run_some h
     exact am SC
    ·cases run_some h
     exact am SC
   ·have h:=run_some h
    refine aC ⟨_,h,?_⟩
    exact ap SWx
  ·have h:=run_some h
   refine aC ⟨_,h,?_⟩
   exact ap SWx
 ·refine S ?_
  refine aU cs (by omega) (fun cs=>S ?_)
  cases run_some h
  exact am SC

theorem spec_l1Most_sat{a0:Int}{a1:Int}  {r:Int}(h:spec_l1Most a0 a1=some r):Sat ag 76 [(I a0),(I a1)] (I r):=by
 obtain⟨h,cs⟩:=aG h
 unfold spec_l1Most at h
 refine aK (nt:=10) (rs:=[.tmp 4]) (n:=100000) Try.func76 rfl rfl rfl rfl (by simp) (S ?_)
 refine ai cs h (fun cs h=>S ?_) (fun cs h=>S ?_)
 ·cases run_some h
  exact am SC
 ·cases run_some h
  exact am SC

theorem spec_l24Compose_sat{a0:Sb}{a1:Sb}  {r:Sb}(h:spec_l24Compose a0 a1=some r):Sat ag 41 [((au false) a0),((au false) a1)] ((au true) r):=by
 obtain⟨h,cs⟩:=aG h
 unfold spec_l24Compose at h
 refine aK (nt:=62) (rs:=[.cell 4 26]) (n:=100000) Try.func41 rfl rfl rfl rfl (by simp) (S ?_)
 replace h:=run_loop h
 refine aY h (fun i3 s3=>[(2,.box (.pv ((au false) a0))),(3,.box (.pv ((au false) a1))),(4,.box zab0),(5,.box (.node [(.pv (I a0.Source)),(.pv (I a1.Target)),(.own 256)])),(6,.val (.pv (I (i3:Int))))]) (fun i3 s3=>[(256,(3,s3.map (az false)))]) (ap SC) (fun i3 s3 hi h=>?_) (fun s3 h=>?_)
 ·have w:=wrap_succ (i:=i3) (by omega)
  refine S ?_
  refine aS cs (by omega) (fun cs=>S ?_)
  replace h:=run_loop h
  refine aY h (fun i6 s6=>[(2,.box (.pv ((au false) a0))),(3,.box (.pv ((au false) a1))),(4,.box zab0),(5,.box (.node [(.pv (I a0.Source)),(.pv (I a1.Target)),(.own 256)])),(6,.val (.pv (I (i3:Int)))),(7,.val (.pv (I (i6:Int))))]) (fun i6 s6=>[(256,(3,s6.map (az false)))]) (ap SC) (fun i6 s6 hi h=>?_) (fun s6 h=>?_)
  ·have w:=aa (wrap_succ (i:=i6) (by omega)) w
   refine S ?_
   refine aS cs (by omega) (fun cs=>S ?_)
   replace h:=run_loop h
   refine aY h (fun i10 s10=>[(2,.box (.pv ((au false) a0))),(3,.box (.pv ((au false) a1))),(4,.box zab0),(5,.box (.node [(.pv (I a0.Source)),(.pv (I a1.Target)),(.own 256)])),(6,.val (.pv (I (i3:Int)))),(7,.val (.pv (I (i6:Int)))),(8,.val (.pv (I s10))),(9,.val (.pv (I (i10:Int))))]) (fun i10 s10=>[(256,(3,s6.map (az false)))]) (ap SC) (fun i10 s10 hi h=>?_) (fun s10 h=>?_)
   ·have w:=aa (wrap_succ (i:=i10) (by omega)) w
    refine S ?_
    refine aS cs (by omega) (fun cs=>S ?_)
    obtain⟨v33,hv33,h⟩:=run_bind h
    refine av [false,false,false] (spec_l24Level_sat hv33) SC (S ?_)
    obtain⟨v37,hv37,h⟩:=run_bind h
    refine av [false,false,false] (spec_l24Level_sat hv37) SC (S ?_)
    refine aa (aF [] []) (S ?_)
    refine ai cs h (fun cs h=>S ?_) (fun cs h=>S ?_)
    ·refine ai cs h (fun cs h=>S ?_) (fun cs h=>S ?_)
     ·obtain⟨v47,hv47,h⟩:=run_bind h
      refine av [false,false] (spec_l1Most_sat hv47) SC (S ?_)
      obtain⟨v48,hv48,h⟩:=run_bind h
      refine av [false,false] (spec_l1Most_sat hv48) SC (S ?_)
      have h:=run_some h
      refine aC ⟨_,h,?_⟩
      exact ap SWx
     ·have h:=run_some h
      refine aC ⟨_,h,?_⟩
      exact ap SWx
    ·have h:=run_some h
     refine aC ⟨_,h,?_⟩
     exact ap SWx
   ·refine S ?_
    refine aU cs (by omega) (fun cs=>S ?_)
    refine ai cs h (fun cs h=>S ?_) (fun cs h=>S ?_)
    ·obtain⟨v59,hv59,h⟩:=run_bind h
     refine ba (f:=(az false)) (fun a=>Sa.psize _ a) hv59 SC SC (S ?_)
     have h:=run_some h
     refine aC ⟨_,h,?_⟩
     refine bt 944 256 ?_
     exact ap SWx
    ·have h:=run_some h
     refine aC ⟨_,h,?_⟩
     exact ap SWx
  ·refine S ?_
   refine aU cs (by omega) (fun cs=>S ?_)
   have h:=run_some h
   refine aC ⟨_,h,?_⟩
   exact ap SWx
 ·refine S ?_
  refine aU cs (by omega) (fun cs=>S ?_)
  cases run_some h
  exact am SC

theorem spec_l1Own_sat{a0:List Int}  {r:List Int}(h:spec_l1Own a0=some r):Sat ag 89 [(.sl false 1 (a0.map I))] (.sl true 1 (r.map I)):=by
 obtain⟨h,cs⟩:=aG h
 unfold spec_l1Own at h
 refine aK (nt:=6) (rs:=[.tmp 2]) (n:=100000) Try.func89 rfl rfl rfl rfl (by simp) (S ?_)
 obtain⟨v5,hv5,h⟩:=run_bind h
 refine ba (f:=I) (fun _=>rfl) hv5 SC SC (S ?_)
 cases run_some h
 exact am SC

theorem spec_l24Closure_sat{a0:Ct}  {r:(List Sb)×(List (List Int))×Bool}(h:spec_l24Closure a0=some r):Sat ag 46 [((aQ false) a0)] (.tup [(.sl true 3 (r.1.map (au false))),(.sl true 1 (r.2.1.map (Lv false 1 I))),(B r.2.2)]):=by
 obtain⟨h,cs⟩:=aG h
 unfold spec_l24Closure at h
 refine Sat.of_mi (nt:=103) (rs:=[.tmp 2,.tmp 3,.tmp 4]) (n:=100000) Try.func46 rfl rfl rfl rfl (by simp) (SB ?_)
 refine aj (SB ?_)
 refine aj (SB ?_)
 refine aj (SB ?_)
 refine aj (SB ?_)
 refine aN (Nat.le_of_eq rfl) (SB ?_)
 refine aj (SB ?_)
 refine OrR.l (SB ?_)
 refine aj (SB ?_)
 refine aN (Nat.le_of_eq rfl) (SB ?_)
 refine aj (SB ?_)
 refine OrR.l (SB ?_)
 refine aj (SB ?_)
 refine aN (Nat.le_of_eq rfl) (SB ?_)
 refine aj (SB ?_)
 refine aN (Nat.le_of_eq rfl) (SB ?_)
 refine MgI.know_val2 (b:=false) (sz:=3) (es:=a0.Calls.map (au false)) (x:=(.pv ((aQ false) a0))) 0 [1] SC fun hl0=>?_; rw[aO] at hl0
 replace h:=run_loop h
 refine MgI.forN h (fun i4 s4=>[(1,.box (.pv ((aQ false) a0))),(5,.val (.own 176)),(6,.val (.own 192)),(7,.val (.pv (I (i4:Int))))]) (fun i4 s4=>[(176,(3,s4.1.map (au false))),(192,(1,s4.2.map (Lv false 1 I)))]) (ap SC) (fun i4 s4 hi h=>?_) (fun s4 h=>?_)
 ·have w:=wrap_succ (i:=i4) (by omega)
  refine SB ?_
  refine aj (SB ?_)
  refine aj (SB ?_)
  refine aj (SB ?_)
  refine aj (SB ?_)
  refine aj (SB ?_)
  refine aN (Nat.le_of_eq rfl) (SB ?_)
  refine aS cs (by omega) (fun cs=>SB ?_)
  refine aj (SB ?_)
  refine aj (SB ?_)
  refine aj (SB ?_)
  refine aj (SB ?_)
  refine aj (SB ?_)
  obtain⟨v24,hv24,h⟩:=run_bind h
  refine aD (f:=(au false)) hv24 SC (SB ?_)
  refine aj (SB ?_)
  refine aj (SB ?_)
  obtain⟨v26,hv26,h⟩:=run_bind h
  refine av [false,false] (spec_l24At_sat hv26) SC (SB ?_)
  refine aj (SB ?_)
  refine aN (Nat.le_of_eq rfl) (SB ?_)
  refine ai cs h (fun cs h=>SB ?_) (fun cs h=>SB ?_)
  ·refine aj (SB ?_)
   refine aj (SB ?_)
   refine aj (SB ?_)
   refine aj (SB ?_)
   refine aj (SB ?_)
   obtain⟨v32,hv32,h⟩:=run_bind h
   refine aD (f:=(au false)) hv32 SC (SB ?_)
   refine aj (SB ?_)
   refine aj (SB ?_)
   obtain⟨v34,hv34,h⟩:=run_bind h
   refine av [false] (Sat.vwOf (res':=((au false) v34)) (spec_l24Own_sat hv34) (by simp only[view_tup,view_sl,view_agg,view_lit,aE,RB,RS])) SC (SB ?_)
   refine aj (SB ?_)
   refine OrR.l (SB ?_)
   refine aj (SB ?_)
   obtain⟨v36,hv36,h⟩:=run_bind h
   refine ba (f:=(au false)) (fun a=>Sb.psize _ a) hv36 SC SC (SB ?_)
   refine aj (SB ?_)
   refine aN (Nat.le_of_eq rfl) (SB ?_)
   refine aj (SB ?_)
   refine aj (SB ?_)
   refine aj (SB ?_)
   refine OrR.v [(I (i4:Int))] (SB ?_)
   refine aj (SB ?_)
   refine OrR.l (SB ?_)
   refine aj (SB ?_)
   obtain⟨v41,hv41,h⟩:=run_bind h
   refine ba (f:=(Lv false 1 I)) (fun _=>rfl) hv41 SC SC (SB ?_)
   refine aj (SB ?_)
   refine aN (Nat.le_of_eq rfl) (SB ?_)
   refine aj (SB ?_)
   refine aj (SB ?_)
   refine aj (SB ?_)
   refine aN (Nat.le_of_eq rfl) (SB ?_)
   have h:=run_some h
   refine aC ⟨_,h,?_⟩
   refine bt 656 192 ?_
   refine bt 576 176 ?_
   exact ap SWx
  ·refine aj (SB ?_)
   refine aj (SB ?_)
   refine aj (SB ?_)
   refine aN (Nat.le_of_eq rfl) (SB ?_)
   have h:=run_some h
   refine aC ⟨_,h,?_⟩
   exact ap SWx
 ·refine SB ?_
  refine aj (SB ?_)
  refine aj (SB ?_)
  refine aj (SB ?_)
  refine aj (SB ?_)
  refine aj (SB ?_)
  refine aN (Nat.le_of_eq rfl) (SB ?_)
  refine aU cs (by omega) (fun cs=>SB ?_)
  refine aj (SB ?_)
  refine aN (Nat.le_of_eq rfl) (SB ?_)
  replace h:=run_loop h
  refine MgI.whileN h (fun s10=>[(1,.box (.pv ((aQ false) a0))),(5,.val (.own 176)),(6,.val (.own 192)),(8,.val (.pv (I s10.2.2)))]) (fun s10=>[(176,(3,s10.1.map (au false))),(192,(1,s10.2.1.map (Lv false 1 I)))]) (ap SC) (fun n10 s10 h=>?_)
  refine SB ?_
  refine aj (SB ?_)
  refine aj (SB ?_)
  refine aj (SB ?_)
  refine aj (SB ?_)
  refine aN (Nat.le_of_eq rfl) (SB ?_)
  refine ai cs h (fun cs h=>SB ?_) (fun cs h=>SB ?_)
  ·refine aj (SB ?_)
   refine aN (Nat.le_of_eq rfl) (SB ?_)
   refine MgI.know_box2 (b:=false) (sz:=3) (es:=a0.Calls.map (au false)) (x:=(.pv ((aQ false) a0))) 1 [1] SC fun hl1=>?_; rw[aO] at hl1
   replace h:=run_loop h
   refine MgI.forN h (fun i13 s13=>[(1,.box (.pv ((aQ false) a0))),(5,.val (.own 176)),(6,.val (.own 192)),(8,.val (.pv (I s10.2.2))),(9,.val (.pv (I (i13:Int))))]) (fun i13 s13=>[(176,(3,s13.1.map (au false))),(192,(1,s13.2.map (Lv false 1 I)))]) (ap SC) (fun i13 s13 hi h=>?_) (fun s13 h=>?_)
   ·have w:=wrap_succ (i:=i13) (by omega)
    refine SB ?_
    refine aj (SB ?_)
    refine aj (SB ?_)
    refine aj (SB ?_)
    refine aj (SB ?_)
    refine aj (SB ?_)
    refine aN (Nat.le_of_eq rfl) (SB ?_)
    refine aS cs (by omega) (fun cs=>SB ?_)
    obtain⟨v58,hv58,h⟩:=run_bind h
    refine aD (f:=(au false)) hv58 SC (SB ?_)
    obtain⟨v63,hv63,h⟩:=run_bind h
    refine aD (f:=(au false)) hv63 SC (SB ?_)
    obtain⟨v65,hv65,h⟩:=run_bind h
    refine EldH.mk (f:=(au false)) hv65 rfl SC (SB ?_)
    refine aa (aF [] []) (SB ?_)
    refine ai cs h (fun cs h=>SB ?_) (fun cs h=>SB ?_)
    ·obtain⟨v69,hv69,h⟩:=run_bind h
     refine aD (f:=(au false)) hv69 SC (SB ?_)
     obtain⟨v70,hv70,h⟩:=run_bind h
     refine EldH.mk (f:=(au false)) hv70 rfl SC (SB ?_)
     obtain⟨v74,hv74,h⟩:=run_bind h
     refine aD (f:=(au false)) hv74 SC (SB ?_)
     obtain⟨v76,hv76,h⟩:=run_bind h
     refine av [false,false] (Sat.vwOf (res':=((au false) v76)) (spec_l24Compose_sat hv76) (by simp only[view_tup,view_sl,view_agg,view_lit,aE,RB,RS])) SC (SB ?_)
     refine aa (aF [10] []) (SB ?_)
     refine aj (SB ?_)
     refine aj (SB ?_)
     refine aj (SB ?_)
     obtain⟨v79,hv79,h⟩:=run_bind h
     refine av [false,false] (spec_l24At_sat hv79) SC (SB ?_)
     refine aj (SB ?_)
     refine aN (Nat.le_of_eq rfl) (SB ?_)
     refine ai cs h (fun cs h=>SB ?_) (fun cs h=>SB ?_)
     ·refine aj (SB ?_)
      refine aj (SB ?_)
      refine aj (SB ?_)
      refine aN (Nat.le_of_eq rfl) (SB ?_)
      have h:=run_some h
      refine aC ⟨_,h,?_⟩
      exact ap SWx
     ·refine aj (SB ?_)
      refine aj (SB ?_)
      refine aj (SB ?_)
      refine aN (Nat.le_of_eq rfl) (SB ?_)
      refine ai cs h (fun cs h=>SB ?_) (fun cs h=>SB ?_)
      ·refine aj (SB ?_)
       refine aj (SB ?_)
       refine aj (SB ?_)
       refine aj (SB ?_)
       refine aj (SB ?_)
       refine aN (Nat.le_of_eq rfl) (SB ?_)
       cases run_some h
       exact am SC
      ·refine aj (SB ?_)
       refine aj (SB ?_)
       refine aj (SB ?_)
       refine OrR.l (SB ?_)
       refine aj (SB ?_)
       obtain⟨v89,hv89,h⟩:=run_bind h
       refine ba (f:=(au false)) (fun a=>Sb.psize _ a) hv89 SC SC (SB ?_)
       refine aj (SB ?_)
       refine aN (Nat.le_of_eq rfl) (SB ?_)
       refine aj (SB ?_)
       refine aj (SB ?_)
       refine aj (SB ?_)
       refine aj (SB ?_)
       obtain⟨v93,hv93,h⟩:=run_bind h
       refine aD (f:=(Lv false 1 I)) hv93 SC (SB ?_)
       refine aj (SB ?_)
       obtain⟨v94,hv94,h⟩:=run_bind h
       refine EldH.mk (f:=(Lv false 1 I)) hv94 rfl SC (SB ?_)
       refine aj (SB ?_)
       obtain⟨v95,hv95,h⟩:=run_bind h
       refine av [false] (spec_l1Own_sat hv95) SC (SB ?_)
       refine aj (SB ?_)
       refine aj (SB ?_)
       refine OrR.l (SB ?_)
       refine aj (SB ?_)
       obtain⟨v98,hv98,h⟩:=run_bind h
       refine ba (f:=I) (fun _=>rfl) hv98 SC SC (SB ?_)
       refine VSeq.demV (x:=(.own 1568)) (sz:=1) (es:=v98.map I) 98 [] 1568 SC (SB ?_)
       refine aj (SB ?_)
       refine OrR.l (SB ?_)
       refine aj (SB ?_)
       obtain⟨v100,hv100,h⟩:=run_bind h
       refine ba (f:=(Lv false 1 I)) (fun _=>rfl) hv100 SC SC (SB ?_)
       refine aj (SB ?_)
       refine aN (Nat.le_of_eq rfl) (SB ?_)
       refine aj (SB ?_)
       refine aj (SB ?_)
       refine aj (SB ?_)
       refine aN (Nat.le_of_eq rfl) (SB ?_)
       have h:=run_some h
       refine aC ⟨_,h,?_⟩
       refine bt 1600 192 ?_
       refine bt 1424 176 ?_
       exact ap SWx
    ·refine aj (SB ?_)
     refine aj (SB ?_)
     refine aj (SB ?_)
     refine aN (Nat.le_of_eq rfl) (SB ?_)
     have h:=run_some h
     refine aC ⟨_,h,?_⟩
     exact ap SWx
   ·refine SB ?_
    refine aj (SB ?_)
    refine aj (SB ?_)
    refine aj (SB ?_)
    refine aj (SB ?_)
    refine aj (SB ?_)
    refine aN (Nat.le_of_eq rfl) (SB ?_)
    refine aj (SB ?_)
    refine aj (SB ?_)
    refine aj (SB ?_)
    refine aN (Nat.le_of_eq rfl) (SB ?_)
    have h:=run_some h
    refine aC ⟨_,h,?_⟩
    exact ap SC
  ·have h:=run_some h
   refine aj (SB ?_)
   refine aj (SB ?_)
   refine aj (SB ?_)
   refine aj (SB ?_)
   refine aj (SB ?_)
   refine aN (Nat.le_of_eq rfl) (SB ?_)
   cases run_some h
   exact am SC

theorem spec_l24Idempotent_sat{a0:Sb}  {r:Bool}(h:spec_l24Idempotent a0=some r):Sat ag 49 [((au false) a0)] (B r):=by
 obtain⟨h,cs⟩:=aG h
 unfold spec_l24Idempotent at h
 refine aK (nt:=15) (rs:=[.tmp 2]) (n:=100000) Try.func49 rfl rfl rfl rfl (by simp) (S ?_)
 refine ai cs h (fun cs h=>S ?_) (fun cs h=>S ?_)
 ·obtain⟨v11,hv11,h⟩:=run_bind h
  refine av [false,false] (spec_l24Compose_sat hv11) SC (S ?_)
  obtain⟨v13,hv13,h⟩:=run_bind h
  refine av [false,false] (spec_l24Same_sat hv13) SC (S ?_)
  refine aa (aF [] [176]) (S ?_)
  cases run_some h
  exact am SC
 ·refine aa (aF [] []) (S ?_)
  cases run_some h
  exact am SC

theorem spec_l24Descends_sat{a0:Sb}  {r:Bool}(h:spec_l24Descends a0=some r):Sat ag 50 [((au false) a0)] (B r):=by
 obtain⟨h,cs⟩:=aG h
 unfold spec_l24Descends at h
 refine aK (nt:=32) (rs:=[.tmp 2]) (n:=100000) Try.func50 rfl rfl rfl rfl (by simp) (S ?_)
 refine Mg.know_val2 (b:=false) (sz:=3) (es:=a0.Edges.map (az false)) (x:=(.pv ((au false) a0))) 0 [2] SC fun hl0=>?_; rw[aO] at hl0
 replace h:=run_loop h
 refine aY h (fun i2 s2=>[(1,.box (.pv ((au false) a0))),(3,.val (.pv (I (i2:Int))))]) (fun i2 s2=>[]) (ap SC) (fun i2 s2 hi h=>?_) (fun s2 h=>?_)
 ·have w:=wrap_succ (i:=i2) (by omega)
  refine S ?_
  refine aS cs (by omega) (fun cs=>S ?_)
  obtain⟨v14,hv14,h⟩:=run_bind h
  refine aD (f:=(az false)) hv14 SC (S ?_)
  obtain⟨v20,hv20,h⟩:=run_bind h
  refine aD (f:=(az false)) hv20 SC (S ?_)
  refine ai cs h (fun cs h=>S ?_) (fun cs h=>S ?_)
  ·obtain⟨v28,hv28,h⟩:=run_bind h
   refine aD (f:=(az false)) hv28 SC (S ?_)
   refine aa (aF [] []) (S ?_)
   refine ai cs h (fun cs h=>S ?_) (fun cs h=>S ?_)
   ·cases run_some h
    exact am SC
   ·have h:=run_some h
    refine aC ⟨_,h,?_⟩
    exact ap SWx
  ·refine aa (aF [] []) (S ?_)
   have h:=run_some h
   refine aC ⟨_,h,?_⟩
   exact ap SWx
 ·refine S ?_
  refine aU cs (by omega) (fun cs=>S ?_)
  cases run_some h
  exact am SC

theorem spec_TraceDefect_sat{a0:Ct}  {r:(List Int)×Bool}(h:spec_TraceDefect a0=some r):Sat ag 17 [((aQ false) a0)] (.tup [(.sl false 1 (r.1.map I)),(B r.2)]):=by
 obtain⟨h,cs⟩:=aG h
 unfold spec_TraceDefect at h
 refine aK (nt:=45) (rs:=[.tmp 2,.tmp 3]) (n:=100000) Try.func17 rfl rfl rfl rfl (by simp) (S ?_)
 obtain⟨v9,hv9,h⟩:=run_bind h
 refine av [false] (spec_l24Good_sat hv9) SC (S ?_)
 refine ai cs h (fun cs h=>S ?_) (fun cs h=>S ?_)
 ·obtain⟨v14,hv14,h⟩:=run_bind h
  refine av [false] (spec_l24Closure_sat hv14) SC (S ?_)
  refine ai cs h (fun cs h=>S ?_) (fun cs h=>S ?_)
  ·refine Mg.know_own (sz:=3) (es:=v14.1.map (au false)) 224 SC fun hl224=>?_; rw[aO] at hl224
   replace h:=run_loop h
   refine aY h (fun i7 s7=>[(4,.val (.own 224)),(5,.val (.own 225)),(7,.val (.pv (I (i7:Int))))]) (fun i7 s7=>[(224,(3,v14.1.map (au false))),(225,(1,v14.2.1.map (Lv false 1 I)))]) (ap SC) (fun i7 s7 hi h=>?_) (fun s7 h=>?_)
   ·have w:=wrap_succ (i:=i7) (by omega)
    refine S ?_
    refine aS cs (by omega) (fun cs=>S ?_)
    obtain⟨v29,hv29,h⟩:=run_bind h
    refine aD (f:=(au false)) hv29 SC (S ?_)
    obtain⟨v30,hv30,h⟩:=run_bind h
    refine EldH.mk (f:=(au false)) hv30 rfl SC (S ?_)
    obtain⟨v31,hv31,h⟩:=run_bind h
    refine av [false] (spec_l24Idempotent_sat hv31) SC (S ?_)
    refine ai cs h (fun cs h=>S ?_) (fun cs h=>S ?_)
    ·obtain⟨v35,hv35,h⟩:=run_bind h
     refine aD (f:=(au false)) hv35 SC (S ?_)
     obtain⟨v36,hv36,h⟩:=run_bind h
     refine EldH.mk (f:=(au false)) hv36 rfl SC (S ?_)
     obtain⟨v37,hv37,h⟩:=run_bind h
     refine av [false] (spec_l24Descends_sat hv37) SC (S ?_)
     refine ai cs h (fun cs h=>S ?_) (fun cs h=>S ?_)
     ·have h:=run_some h
      refine aC ⟨_,h,?_⟩
      exact ap SWx
     ·obtain⟨v42,hv42,h⟩:=run_bind h
      refine aD (f:=(Lv false 1 I)) hv42 SC (S ?_)
      obtain⟨v43,hv43,h⟩:=run_bind h
      refine EldH.mk (f:=(Lv false 1 I)) hv43 rfl SC (S ?_)
      cases run_some h
      exact FinH.r SC
    ·have h:=run_some h
     refine aC ⟨_,h,?_⟩
     exact ap SWx
   ·refine S ?_
    refine aU cs (by omega) (fun cs=>S ?_)
    cases run_some h
    exact FinH.r SC
  ·cases run_some h
   exact FinH.r SC
 ·cases run_some h
  exact FinH.r SC

theorem vInts_sat{a0:List Int}{a1:List Int}  {r:Bool}(h:vInts a0 a1=some r):Sat ag 29 [(.sl false 1 (a0.map I)),(.sl false 1 (a1.map I))] (B r):=by
 obtain⟨h,cs⟩:=aG h
 unfold vInts at h
 refine aK (nt:=26) (rs:=[.tmp 4]) (n:=100000) Try.func29 rfl rfl rfl rfl (by simp) (S ?_)
 refine ai cs h (fun cs h=>S ?_) (fun cs h=>S ?_)
 ·refine bn (b:=false) (sz:=1) (es:=a0.map I) 0 SC fun hl0=>?_; rw[aO] at hl0
  replace h:=run_loop h
  refine aY h (fun i4 s4=>[(0,.val (.pv (.sl false 1 (a0.map I)))),(1,.val (.pv (.sl false 1 (a1.map I)))),(5,.val (.pv (I (i4:Int))))]) (fun i4 s4=>[]) (ap SC) (fun i4 s4 hi h=>?_) (fun s4 h=>?_)
  ·have w:=wrap_succ (i:=i4) (by omega)
   refine S ?_
   refine aS cs (by omega) (fun cs=>S ?_)
   obtain⟨v19,hv19,h⟩:=run_bind h
   refine aD (f:=I) hv19 SC (S ?_)
   obtain⟨v23,hv23,h⟩:=run_bind h
   refine aD (f:=I) hv23 SC (S ?_)
   refine aa (aF [] []) (S ?_)
   refine ai cs h (fun cs h=>S ?_) (fun cs h=>S ?_)
   ·have h:=run_some h
    refine aC ⟨_,h,?_⟩
    exact ap SWx
   ·cases run_some h
    exact am SC
  ·refine S ?_
   refine aU cs (by omega) (fun cs=>S ?_)
   cases run_some h
   exact am SC
 ·cases run_some h
  exact am SC

theorem impl_isPath_sat{a0:Ct}{a1:List Int}  {r:Bool}(h:impl_isPath a0 a1=some r):Sat ag 61 [((aQ false) a0),(.sl false 1 (a1.map I))] (B r):=by
 obtain⟨h,cs⟩:=aG h
 unfold impl_isPath at h
 refine aK (nt:=48) (rs:=[.tmp 4]) (n:=100000) Try.func61 rfl rfl rfl rfl (by simp) (S ?_)
 refine bn (b:=false) (sz:=1) (es:=a1.map I) 1 SC fun hl1=>?_; rw[aO] at hl1
 replace h:=run_loop h
 refine aY h (fun i2 s2=>[(1,.val (.pv (.sl false 1 (a1.map I)))),(2,.box (.pv ((aQ false) a0))),(7,.val (.pv (.sl false 1 (a1.map I)))),(8,.val (.pv (I (a1.length:Int)))),(9,.val (.pv (I (i2:Int))))]) (fun i2 s2=>[]) (ap SC) (fun i2 s2 hi h=>?_) (fun s2 h=>?_)
 ·have w:=wrap_succ (i:=i2) (by omega)
  refine S ?_
  refine aS cs (by omega) (fun cs=>S ?_)
  obtain⟨v12,hv12,h⟩:=run_bind h
  refine aD (f:=I) hv12 SC (S ?_)
  obtain⟨v19,hv19,h⟩:=run_bind h
  refine av [false,false,false] (impl_within_sat hv19) SC (S ?_)
  refine ai cs h (fun cs h=>S ?_) (fun cs h=>S ?_)
  ·refine ai cs h (fun cs h=>S ?_) (fun cs h=>S ?_)
   ·obtain⟨v30,hv30,h⟩:=run_bind h
    refine aD (f:=I) hv30 SC (S ?_)
    obtain⟨v32,hv32,h⟩:=run_bind h
    refine aD (f:=(au false)) hv32 SC (S ?_)
    obtain⟨v38,hv38,h⟩:=run_bind h
    refine aD (f:=(au false)) hv38 SC (S ?_)
    refine aa (aF [] []) (S ?_)
    refine ai cs h (fun cs h=>S ?_) (fun cs h=>S ?_)
    ·have h:=run_some h
     refine aC ⟨_,h,?_⟩
     exact ap SWx
    ·cases run_some h
     exact am SC
   ·refine aa (aF [] []) (S ?_)
    have h:=run_some h
    refine aC ⟨_,h,?_⟩
    exact ap SWx
  ·refine aa (aF [] []) (S ?_)
   cases run_some h
   exact am SC
 ·refine S ?_
  refine aU cs (by omega) (fun cs=>S ?_)
  cases run_some h
  exact am SC

theorem impl_PathGraph_sat{a0:Ct}{a1:List Int}  {r:Sb×Bool}(h:impl_PathGraph a0 a1=some r):Sat ag 30 [((aQ false) a0),(.sl false 1 (a1.map I))] (.tup [((au true) r.1),(B r.2)]):=by
 obtain⟨h,cs⟩:=aG h
 unfold impl_PathGraph at h
 refine aK (nt:=48) (rs:=[.cell 4 26,.tmp 5]) (n:=100000) Try.func30 rfl rfl rfl rfl (by simp) (S ?_)
 obtain⟨v10,hv10,h⟩:=run_bind h
 refine av [false] (impl_IsValidCyclic_sat hv10) SC (S ?_)
 refine ai cs h (fun cs h=>S ?_) (fun cs h=>S ?_)
 ·refine ai cs h (fun cs h=>S ?_) (fun cs h=>S ?_)
  ·cases run_some h
   exact am SC
  ·obtain⟨v20,hv20,h⟩:=run_bind h
   refine av [false,false] (impl_isPath_sat hv20) SC (S ?_)
   refine ai cs h (fun cs h=>S ?_) (fun cs h=>S ?_)
   ·obtain⟨v27,hv27,h⟩:=run_bind h
    refine aD (f:=I) hv27 SC (S ?_)
    obtain⟨v29,hv29,h⟩:=run_bind h
    refine aD (f:=(au false)) hv29 SC (S ?_)
    obtain⟨v31,hv31,h⟩:=run_bind h
    refine av [false] (impl_copyGraph_sat hv31) SC (S ?_)
    refine aa (aF [6] [496]) (S ?_)
    obtain⟨v33,hv33,h⟩:=run_bind h
    refine SlcH.mk (f:=I) hv33 SC (S ?_)
    refine bn (b:=false) (sz:=1) (es:=v33.map I) 33 SC fun hl33=>?_; rw[aO] at hl33
    replace h:=run_loop h
    refine aY h (fun i5 s5=>[(2,.box (.pv ((aQ false) a0))),(4,.box zab0),(6,.box (.node [(.pv (I s5.1)),(.pv (I s5.2.1)),(.own 496)])),(33,.val (.pv (.sl false 1 (v33.map I)))),(34,.val (.pv (I (v33.length:Int)))),(35,.val (.pv (I (i5:Int))))]) (fun i5 s5=>[(496,(3,s5.2.2.map (az false)))]) (ap SC) (fun i5 s5 hi h=>?_) (fun s5 h=>?_)
    ·have w:=wrap_succ (i:=i5) (by omega)
     refine S ?_
     refine aS cs (by omega) (fun cs=>S ?_)
     obtain⟨v37,hv37,h⟩:=run_bind h
     refine aD (f:=I) hv37 SC (S ?_)
     obtain⟨v43,hv43,h⟩:=run_bind h
     refine aD (f:=(au false)) hv43 SC (S ?_)
     obtain⟨v45,hv45,h⟩:=run_bind h
     refine av [false,false] (impl_compose_sat hv45) SC (S ?_)
     refine aa (aF [] [720]) (S ?_)
     have h:=run_some h
     refine aC ⟨_,h,?_⟩
     refine bt 720 496 ?_
     exact ap SWx
    ·refine S ?_
     refine aU cs (by omega) (fun cs=>S ?_)
     cases run_some h
     exact am SC
   ·cases run_some h
    exact am SC
 ·cases run_some h
  exact am SC

theorem impl_IsIdempotentGraph_sat{a0:Sb}  {r:Bool×Bool}(h:impl_IsIdempotentGraph a0=some r):Sat ag 31 [((au false) a0)] (.tup [(B r.1),(B r.2)]):=by
 obtain⟨h,cs⟩:=aG h
 unfold impl_IsIdempotentGraph at h
 refine aK (nt:=9) (rs:=[.tmp 2,.tmp 3]) (n:=100000) Try.func31 rfl rfl rfl rfl (by simp) (S ?_)
 obtain⟨v5,hv5,h⟩:=run_bind h
 refine av [false] (impl_IsValidGraph_sat hv5) SC (S ?_)
 refine ai cs h (fun cs h=>S ?_) (fun cs h=>S ?_)
 ·obtain⟨v8,hv8,h⟩:=run_bind h
  refine av [false] (impl_isIdempotent_sat hv8) SC (S ?_)
  cases run_some h
  exact am SC
 ·cases run_some h
  exact am SC

theorem bits_Mul32_sat{a0:Int}{a1:Int}  {r:Int×Int}(h:bits_Mul32 a0 a1=some r):Sat ag 109 [((Ik .u32) a0),((Ik .u32) a1)] (.tup [((Ik .u32) r.1),((Ik .u32) r.2)]):=by
 obtain⟨h,cs⟩:=aG h
 unfold bits_Mul32 at h
 refine aK (nt:=17) (rs:=[.tmp 4,.tmp 5]) (n:=100000) Try.func109 rfl rfl rfl rfl (by simp) (S ?_)
 obtain⟨v13,hv13,h⟩:=run_bind h
 refine ShrH.mk hv13 (S ?_)
 cases run_some h
 exact am SC

theorem bits_Mul64_sat{a0:Int}{a1:Int}  {r:Int×Int}(h:bits_Mul64 a0 a1=some r):Sat ag 110 [((Ik .u64) a0),((Ik .u64) a1)] (.tup [((Ik .u64) r.1),((Ik .u64) r.2)]):=by
 obtain⟨h,cs⟩:=aG h
 unfold bits_Mul64 at h
 refine aK (nt:=51) (rs:=[.tmp 4,.tmp 5]) (n:=100000) Try.func110 rfl rfl rfl rfl (by simp) (S ?_)
 obtain⟨v17,hv17,h⟩:=run_bind h
 refine ShrH.mk hv17 (S ?_)
 obtain⟨v21,hv21,h⟩:=run_bind h
 refine ShrH.mk hv21 (S ?_)
 obtain⟨v29,hv29,h⟩:=run_bind h
 refine ShrH.mk hv29 (S ?_)
 obtain⟨v34,hv34,h⟩:=run_bind h
 refine ShrH.mk hv34 (S ?_)
 obtain⟨v46,hv46,h⟩:=run_bind h
 refine ShrH.mk hv46 (S ?_)
 cases run_some h
 exact am SC

theorem bits_Mul_sat{a0:Int}{a1:Int}  {r:Int×Int}(h:bits_Mul a0 a1=some r):Sat ag 97 [((Ik .u64) a0),((Ik .u64) a1)] (.tup [((Ik .u64) r.1),((Ik .u64) r.2)]):=by
 obtain⟨h,cs⟩:=aG h
 unfold bits_Mul at h
 refine aK (nt:=30) (rs:=[.tmp 4,.tmp 5]) (n:=100000) Try.func97 rfl rfl rfl rfl (by simp) (S ?_)
 obtain⟨v25,hv25,h⟩:=run_bind h
 refine av [false,false] (bits_Mul64_sat hv25) SC (S ?_)
 cases run_some h
 exact am SC

theorem slices_Repeat_Sint_int_sat{a0:List Int}{a1:Int}  {r:List Int}(h:slices_Repeat_Sint_int a0 a1=some r):Sat ag 63 [(.sl false 1 (a0.map I)),(I a1)] (.sl true 1 (r.map I)):=by
 obtain⟨h,cs⟩:=aG h
 unfold slices_Repeat_Sint_int at h
 refine aK (nt:=48) (rs:=[.tmp 4]) (n:=100000) Try.func63 rfl rfl rfl rfl (by simp) (S ?_)
 refine ai cs h (fun cs h=>S ?_) (fun cs h=>S ?_)
 ·exact run_none h
 ·obtain⟨v18,hv18,h⟩:=run_bind h
  refine av [false,false] (bits_Mul_sat hv18) SC (S ?_)
  refine ai cs h (fun cs h=>S ?_) (fun cs h=>S ?_)
  ·exact run_none h
  ·refine ai cs h (fun cs h=>S ?_) (fun cs h=>S ?_)
   ·exact run_none h
   ·obtain⟨n30,hn30,h⟩:=run_bind h
    refine MknH.mk hn30 (S ?_)
    refine CopyH.view (f:=I) (c:=480) (sz:=1) (xs:=List.replicate n30 (0:Int)) (ys:=a0) (es:=(List.replicate n30 (0:Int)).map I) (zs:=(a0).map I) (fun _=>rfl) rfl rfl SC sl_33 SC (by first | exact SC | (refine S ?_; rfl)) (by first | exact SC | (refine S ?_; rfl)) rfl rfl (S ?_)
    replace h:=run_loop h
    refine Mg.whileN h (fun s8=>[(7,.val (.own 480)),(8,.val (.pv (I s8.2)))]) (fun s8=>[(480,(1,s8.1.map I))]) (ap SC) (fun n8 s8 h=>?_)
    refine S ?_
    refine ai cs h (fun cs h=>S ?_) (fun cs h=>S ?_)
    ·obtain⟨v41,hv41,h⟩:=run_bind h
     refine SlcOH.sub (f:=I) hv41 SC (S ?_)
     obtain⟨v44,hv44,h⟩:=run_bind h
     refine SlcOH.sub (f:=I) hv44 SC (S ?_)
     obtain⟨v45,hv45,h⟩:=run_bind h
     refine CopyH.self (f:=I) (c:=480) (sz:=1) (xs:=s8.1) (lo:=s8.2) (hi:=s8.2) (es:=(s8.1).map I) (l:=Int.toNat (s8.2)) (h:=Int.toNat (s8.2)) (m:=(s8.1).length) (fun _=>rfl) hv45 rfl rfl SC sl_33 (by first | exact SC | (refine S ?_; rfl)) (by first | exact SC | (refine S ?_; rfl)) (by first | exact SC | (refine S ?_; rfl)) rfl rfl rfl rfl (S ?_)
     refine aa (aF [] []) (S ?_)
     have h:=run_some h
     refine aC ⟨_,h,?_⟩
     exact ap SC
    ·have h:=run_some h
     cases run_some h
     exact am SC

theorem impl_RepeatPath_sat{a0:Ct}{a1:List Int}{a2:Int}  {r:(List Int)×Bool}(h:impl_RepeatPath a0 a1 a2=some r):Sat ag 32 [((aQ false) a0),(.sl false 1 (a1.map I)),(I a2)] (.tup [(.sl true 1 (r.1.map I)),(B r.2)]):=by
 obtain⟨h,cs⟩:=aG h
 unfold impl_RepeatPath at h
 refine aK (nt:=35) (rs:=[.tmp 6,.tmp 7]) (n:=100000) Try.func32 rfl rfl rfl rfl (by simp) (S ?_)
 obtain⟨v10,hv10,h⟩:=run_bind h
 refine av [false] (impl_IsValidCyclic_sat hv10) SC (S ?_)
 refine ai cs h (fun cs h=>S ?_) (fun cs h=>S ?_)
 ·obtain⟨v15,hv15,h⟩:=run_bind h
  refine av [false,false] (impl_isPath_sat hv15) SC (S ?_)
  refine ai cs h (fun cs h=>S ?_) (fun cs h=>S ?_)
  ·refine ai cs h (fun cs h=>S ?_) (fun cs h=>S ?_)
   ·cases run_some h
    exact am SC
   ·refine ai cs h (fun cs h=>S ?_) (fun cs h=>S ?_)
    ·cases run_some h
     exact am SC
    ·refine ai cs h (fun cs h=>S ?_) (fun cs h=>S ?_)
     ·cases run_some h
      exact am SC
     ·obtain⟨v29,hv29,h⟩:=run_bind h
      refine av [false,false] (slices_Repeat_Sint_int_sat hv29) SC (S ?_)
      obtain⟨v32,hv32,h⟩:=run_bind h
      refine av [false,false] (impl_isPath_sat hv32) SC (S ?_)
      refine ai cs h (fun cs h=>S ?_) (fun cs h=>S ?_)
      ·cases run_some h
       exact am SC
      ·cases run_some h
       exact am SC
  ·cases run_some h
   exact am SC
 ·cases run_some h
  exact am SC

theorem impl_flag_sat{a0:Bool}  {r:Int}(h:impl_flag a0=some r):Sat ag 64 [(B a0)] (I r):=by
 obtain⟨h,cs⟩:=aG h
 unfold impl_flag at h
 refine aK (nt:=4) (rs:=[.tmp 2]) (n:=100000) Try.func64 rfl rfl rfl rfl (by simp) (S ?_)
 refine ai cs h (fun cs h=>S ?_) (fun cs h=>S ?_)
 ·cases run_some h
  exact am SC
 ·cases run_some h
  exact am SC

theorem slices_Max_Sint_int_sat{a0:List Int}  {r:Int}(h:slices_Max_Sint_int a0=some r):Sat ag 65 [(.sl false 1 (a0.map I))] (I r):=by
 obtain⟨h,cs⟩:=aG h
 unfold slices_Max_Sint_int at h
 refine aK (nt:=25) (rs:=[.tmp 2]) (n:=100000) Try.func65 rfl rfl rfl rfl (by simp) (S ?_)
 refine ai cs h (fun cs h=>S ?_) (fun cs h=>S ?_)
 ·exact run_none h
 ·obtain⟨v10,hv10,h⟩:=run_bind h
  refine aD (f:=I) hv10 SC (S ?_)
  refine bn (b:=false) (sz:=1) (es:=a0.map I) 0 SC fun hl0=>?_; rw[aO] at hl0
  replace h:=run_loop h
  refine Mg.forA (N:=a0.length) (a:=1) h (fun i5 s5=>[(0,.val (.pv (.sl false 1 (a0.map I)))),(3,.val (.pv (I s5))),(4,.val (.pv (I (i5:Int))))]) (fun i5 s5=>[]) (ap SC) (fun i5 s5 hi hj h=>?_) (fun j5 s5 hj h=>?_)
  ·have w:=wrap_succ (i:=i5) (by omega)
   refine S ?_
   refine aS cs (by omega) (fun cs=>S ?_)
   obtain⟨v21,hv21,h⟩:=run_bind h
   refine aD (f:=I) hv21 SC (S ?_)
   have h:=run_some h
   refine aC ⟨_,h,?_⟩
   exact ap SWx
  ·refine S ?_
   refine aU cs (by omega) (fun cs=>S ?_)
   cases run_some h
   exact am SC

theorem impl_MostProgress_sat{a0:Ct}{a1:List Int}  {r:Int×Bool}(h:impl_MostProgress a0 a1=some r):Sat ag 33 [((aQ false) a0),(.sl false 1 (a1.map I))] (.tup [(I r.1),(B r.2)]):=by
 obtain⟨h,cs⟩:=aG h
 unfold impl_MostProgress at h
 refine aK (nt:=66) (rs:=[.tmp 4,.tmp 5]) (n:=100000) Try.func33 rfl rfl rfl rfl (by simp) (S ?_)
 obtain⟨v13,hv13,h⟩:=run_bind h
 refine av [false] (impl_IsValidCyclic_sat hv13) SC (S ?_)
 refine ai cs h (fun cs h=>S ?_) (fun cs h=>S ?_)
 ·obtain⟨v18,hv18,h⟩:=run_bind h
  refine av [false,false] (impl_isPath_sat hv18) SC (S ?_)
  refine ai cs h (fun cs h=>S ?_) (fun cs h=>S ?_)
  ·refine bn (b:=false) (sz:=1) (es:=a1.map I) 1 SC fun hl1=>?_; rw[aO] at hl1
   replace h:=run_loop h
   refine aY h (fun i5 s5=>[(2,.box (.pv ((aQ false) a0))),(6,.box (.node [(.pv (I s5.1)),(.pv (I s5.2.1)),(.pv (I s5.2.2.1)),(.pv (I s5.2.2.2))])),(22,.val (.pv (.sl false 1 (a1.map I)))),(23,.val (.pv (I (a1.length:Int)))),(24,.val (.pv (I (i5:Int))))]) (fun i5 s5=>[]) (ap SC) (fun i5 s5 hi h=>?_) (fun s5 h=>?_)
   ·have w:=wrap_succ (i:=i5) (by omega)
    refine S ?_
    refine aS cs (by omega) (fun cs=>S ?_)
    obtain⟨v26,hv26,h⟩:=run_bind h
    refine aD (f:=I) hv26 SC (S ?_)
    obtain⟨v32,hv32,h⟩:=run_bind h
    refine aD (f:=(au false)) hv32 SC (S ?_)
    refine bn (b:=false) (sz:=3) (es:=v32.Edges.map (az false)) 34 SC fun hl34=>?_; rw[aO] at hl34
    replace h:=run_loop h
    refine aY h (fun i9 s9=>[(2,.box (.pv ((aQ false) a0))),(6,.box (.node [(.pv (I s5.1)),(.pv (I s5.2.1)),(.pv (I s5.2.2.1)),(.pv (I s5.2.2.2))])),(9,.box (.node [(.pv (I s9.1)),(.pv (I s9.2.1)),(.pv (I s9.2.2.1)),(.pv (I s9.2.2.2))])),(22,.val (.pv (.sl false 1 (a1.map I)))),(23,.val (.pv (I (a1.length:Int)))),(24,.val (.pv (I (i5:Int)))),(34,.val (.pv (.sl false 3 (v32.Edges.map (az false))))),(35,.val (.pv (I (v32.Edges.length:Int)))),(36,.val (.pv (I (i9:Int))))]) (fun i9 s9=>[]) (ap SC) (fun i9 s9 hi h=>?_) (fun s9 h=>?_)
    ·have w:=aa (wrap_succ (i:=i9) (by omega)) w
     refine S ?_
     refine aS cs (by omega) (fun cs=>S ?_)
     obtain⟨v38,hv38,h⟩:=run_bind h
     refine aD (f:=(az false)) hv38 SC (S ?_)
     by_cases c5:v38.From=0
     ·replace h:=run_t (decide_eq_true c5) h
      refine aM (m:=4) (sz:=1) 0 SC (by decide) c5 (S ?_)
      refine ai cs h (fun cs h=>S ?_) (fun cs h=>S ?_)
      ·by_cases c7:v38.To=0
       ·replace h:=run_t (decide_eq_true c7) h
        refine aM (m:=4) (sz:=1) 0 SC (by decide) c7 (S ?_)
        refine aM (m:=4) (sz:=1) 0 SC (by decide) c5 (S ?_)
        obtain⟨v57,hv57,h⟩:=run_bind h
        refine av [false] (impl_flag_sat hv57) SC (S ?_)
        refine aM (m:=4) (sz:=1) 0 SC (by decide) c7 (S ?_)
        refine aa (aF [] []) (S ?_)
        have h:=run_some h
        refine aC ⟨_,h,?_⟩
        exact ap SWx
       replace h:=run_f (decide_eq_false c7) h
       by_cases c8:v38.To=1
       ·replace h:=run_t (decide_eq_true c8) h
        refine aM (m:=4) (sz:=1) 1 SC (by decide) c8 (S ?_)
        refine aM (m:=4) (sz:=1) 0 SC (by decide) c5 (S ?_)
        obtain⟨v57,hv57,h⟩:=run_bind h
        refine av [false] (impl_flag_sat hv57) SC (S ?_)
        refine aM (m:=4) (sz:=1) 1 SC (by decide) c8 (S ?_)
        refine aa (aF [] []) (S ?_)
        have h:=run_some h
        refine aC ⟨_,h,?_⟩
        exact ap SWx
       replace h:=run_f (decide_eq_false c8) h
       by_cases c9:v38.To=2
       ·replace h:=run_t (decide_eq_true c9) h
        refine aM (m:=4) (sz:=1) 2 SC (by decide) c9 (S ?_)
        refine aM (m:=4) (sz:=1) 0 SC (by decide) c5 (S ?_)
        obtain⟨v57,hv57,h⟩:=run_bind h
        refine av [false] (impl_flag_sat hv57) SC (S ?_)
        refine aM (m:=4) (sz:=1) 2 SC (by decide) c9 (S ?_)
        refine aa (aF [] []) (S ?_)
        have h:=run_some h
        refine aC ⟨_,h,?_⟩
        exact ap SWx
       replace h:=run_f (decide_eq_false c9) h
       by_cases c10:v38.To=3
       ·replace h:=run_t (decide_eq_true c10) h
        refine aM (m:=4) (sz:=1) 3 SC (by decide) c10 (S ?_)
        refine aM (m:=4) (sz:=1) 0 SC (by decide) c5 (S ?_)
        obtain⟨v57,hv57,h⟩:=run_bind h
        refine av [false] (impl_flag_sat hv57) SC (S ?_)
        refine aM (m:=4) (sz:=1) 3 SC (by decide) c10 (S ?_)
        refine aa (aF [] []) (S ?_)
        have h:=run_some h
        refine aC ⟨_,h,?_⟩
        exact ap SWx
       replace h:=run_f (decide_eq_false c10) h
       exact run_none h
      ·have h:=run_some h
       refine aC ⟨_,h,?_⟩
       exact ap SWx
     replace h:=run_f (decide_eq_false c5) h
     by_cases c11:v38.From=1
     ·replace h:=run_t (decide_eq_true c11) h
      refine aM (m:=4) (sz:=1) 1 SC (by decide) c11 (S ?_)
      refine ai cs h (fun cs h=>S ?_) (fun cs h=>S ?_)
      ·by_cases c13:v38.To=0
       ·replace h:=run_t (decide_eq_true c13) h
        refine aM (m:=4) (sz:=1) 0 SC (by decide) c13 (S ?_)
        refine aM (m:=4) (sz:=1) 1 SC (by decide) c11 (S ?_)
        obtain⟨v57,hv57,h⟩:=run_bind h
        refine av [false] (impl_flag_sat hv57) SC (S ?_)
        refine aM (m:=4) (sz:=1) 0 SC (by decide) c13 (S ?_)
        refine aa (aF [] []) (S ?_)
        have h:=run_some h
        refine aC ⟨_,h,?_⟩
        exact ap SWx
       replace h:=run_f (decide_eq_false c13) h
       by_cases c14:v38.To=1
       ·replace h:=run_t (decide_eq_true c14) h
        refine aM (m:=4) (sz:=1) 1 SC (by decide) c14 (S ?_)
        refine aM (m:=4) (sz:=1) 1 SC (by decide) c11 (S ?_)
        obtain⟨v57,hv57,h⟩:=run_bind h
        refine av [false] (impl_flag_sat hv57) SC (S ?_)
        refine aM (m:=4) (sz:=1) 1 SC (by decide) c14 (S ?_)
        refine aa (aF [] []) (S ?_)
        have h:=run_some h
        refine aC ⟨_,h,?_⟩
        exact ap SWx
       replace h:=run_f (decide_eq_false c14) h
       by_cases c15:v38.To=2
       ·replace h:=run_t (decide_eq_true c15) h
        refine aM (m:=4) (sz:=1) 2 SC (by decide) c15 (S ?_)
        refine aM (m:=4) (sz:=1) 1 SC (by decide) c11 (S ?_)
        obtain⟨v57,hv57,h⟩:=run_bind h
        refine av [false] (impl_flag_sat hv57) SC (S ?_)
        refine aM (m:=4) (sz:=1) 2 SC (by decide) c15 (S ?_)
        refine aa (aF [] []) (S ?_)
        have h:=run_some h
        refine aC ⟨_,h,?_⟩
        exact ap SWx
       replace h:=run_f (decide_eq_false c15) h
       by_cases c16:v38.To=3
       ·replace h:=run_t (decide_eq_true c16) h
        refine aM (m:=4) (sz:=1) 3 SC (by decide) c16 (S ?_)
        refine aM (m:=4) (sz:=1) 1 SC (by decide) c11 (S ?_)
        obtain⟨v57,hv57,h⟩:=run_bind h
        refine av [false] (impl_flag_sat hv57) SC (S ?_)
        refine aM (m:=4) (sz:=1) 3 SC (by decide) c16 (S ?_)
        refine aa (aF [] []) (S ?_)
        have h:=run_some h
        refine aC ⟨_,h,?_⟩
        exact ap SWx
       replace h:=run_f (decide_eq_false c16) h
       exact run_none h
      ·have h:=run_some h
       refine aC ⟨_,h,?_⟩
       exact ap SWx
     replace h:=run_f (decide_eq_false c11) h
     by_cases c17:v38.From=2
     ·replace h:=run_t (decide_eq_true c17) h
      refine aM (m:=4) (sz:=1) 2 SC (by decide) c17 (S ?_)
      refine ai cs h (fun cs h=>S ?_) (fun cs h=>S ?_)
      ·by_cases c19:v38.To=0
       ·replace h:=run_t (decide_eq_true c19) h
        refine aM (m:=4) (sz:=1) 0 SC (by decide) c19 (S ?_)
        refine aM (m:=4) (sz:=1) 2 SC (by decide) c17 (S ?_)
        obtain⟨v57,hv57,h⟩:=run_bind h
        refine av [false] (impl_flag_sat hv57) SC (S ?_)
        refine aM (m:=4) (sz:=1) 0 SC (by decide) c19 (S ?_)
        refine aa (aF [] []) (S ?_)
        have h:=run_some h
        refine aC ⟨_,h,?_⟩
        exact ap SWx
       replace h:=run_f (decide_eq_false c19) h
       by_cases c20:v38.To=1
       ·replace h:=run_t (decide_eq_true c20) h
        refine aM (m:=4) (sz:=1) 1 SC (by decide) c20 (S ?_)
        refine aM (m:=4) (sz:=1) 2 SC (by decide) c17 (S ?_)
        obtain⟨v57,hv57,h⟩:=run_bind h
        refine av [false] (impl_flag_sat hv57) SC (S ?_)
        refine aM (m:=4) (sz:=1) 1 SC (by decide) c20 (S ?_)
        refine aa (aF [] []) (S ?_)
        have h:=run_some h
        refine aC ⟨_,h,?_⟩
        exact ap SWx
       replace h:=run_f (decide_eq_false c20) h
       by_cases c21:v38.To=2
       ·replace h:=run_t (decide_eq_true c21) h
        refine aM (m:=4) (sz:=1) 2 SC (by decide) c21 (S ?_)
        refine aM (m:=4) (sz:=1) 2 SC (by decide) c17 (S ?_)
        obtain⟨v57,hv57,h⟩:=run_bind h
        refine av [false] (impl_flag_sat hv57) SC (S ?_)
        refine aM (m:=4) (sz:=1) 2 SC (by decide) c21 (S ?_)
        refine aa (aF [] []) (S ?_)
        have h:=run_some h
        refine aC ⟨_,h,?_⟩
        exact ap SWx
       replace h:=run_f (decide_eq_false c21) h
       by_cases c22:v38.To=3
       ·replace h:=run_t (decide_eq_true c22) h
        refine aM (m:=4) (sz:=1) 3 SC (by decide) c22 (S ?_)
        refine aM (m:=4) (sz:=1) 2 SC (by decide) c17 (S ?_)
        obtain⟨v57,hv57,h⟩:=run_bind h
        refine av [false] (impl_flag_sat hv57) SC (S ?_)
        refine aM (m:=4) (sz:=1) 3 SC (by decide) c22 (S ?_)
        refine aa (aF [] []) (S ?_)
        have h:=run_some h
        refine aC ⟨_,h,?_⟩
        exact ap SWx
       replace h:=run_f (decide_eq_false c22) h
       exact run_none h
      ·have h:=run_some h
       refine aC ⟨_,h,?_⟩
       exact ap SWx
     replace h:=run_f (decide_eq_false c17) h
     by_cases c23:v38.From=3
     ·replace h:=run_t (decide_eq_true c23) h
      refine aM (m:=4) (sz:=1) 3 SC (by decide) c23 (S ?_)
      refine ai cs h (fun cs h=>S ?_) (fun cs h=>S ?_)
      ·by_cases c25:v38.To=0
       ·replace h:=run_t (decide_eq_true c25) h
        refine aM (m:=4) (sz:=1) 0 SC (by decide) c25 (S ?_)
        refine aM (m:=4) (sz:=1) 3 SC (by decide) c23 (S ?_)
        obtain⟨v57,hv57,h⟩:=run_bind h
        refine av [false] (impl_flag_sat hv57) SC (S ?_)
        refine aM (m:=4) (sz:=1) 0 SC (by decide) c25 (S ?_)
        refine aa (aF [] []) (S ?_)
        have h:=run_some h
        refine aC ⟨_,h,?_⟩
        exact ap SWx
       replace h:=run_f (decide_eq_false c25) h
       by_cases c26:v38.To=1
       ·replace h:=run_t (decide_eq_true c26) h
        refine aM (m:=4) (sz:=1) 1 SC (by decide) c26 (S ?_)
        refine aM (m:=4) (sz:=1) 3 SC (by decide) c23 (S ?_)
        obtain⟨v57,hv57,h⟩:=run_bind h
        refine av [false] (impl_flag_sat hv57) SC (S ?_)
        refine aM (m:=4) (sz:=1) 1 SC (by decide) c26 (S ?_)
        refine aa (aF [] []) (S ?_)
        have h:=run_some h
        refine aC ⟨_,h,?_⟩
        exact ap SWx
       replace h:=run_f (decide_eq_false c26) h
       by_cases c27:v38.To=2
       ·replace h:=run_t (decide_eq_true c27) h
        refine aM (m:=4) (sz:=1) 2 SC (by decide) c27 (S ?_)
        refine aM (m:=4) (sz:=1) 3 SC (by decide) c23 (S ?_)
        obtain⟨v57,hv57,h⟩:=run_bind h
        refine av [false] (impl_flag_sat hv57) SC (S ?_)
        refine aM (m:=4) (sz:=1) 2 SC (by decide) c27 (S ?_)
        refine aa (aF [] []) (S ?_)
        have h:=run_some h
        refine aC ⟨_,h,?_⟩
        exact ap SWx
       replace h:=run_f (decide_eq_false c27) h
       by_cases c28:v38.To=3
       ·replace h:=run_t (decide_eq_true c28) h
        refine aM (m:=4) (sz:=1) 3 SC (by decide) c28 (S ?_)
        refine aM (m:=4) (sz:=1) 3 SC (by decide) c23 (S ?_)
        obtain⟨v57,hv57,h⟩:=run_bind h
        refine av [false] (impl_flag_sat hv57) SC (S ?_)
        refine aM (m:=4) (sz:=1) 3 SC (by decide) c28 (S ?_)
        refine aa (aF [] []) (S ?_)
        have h:=run_some h
        refine aC ⟨_,h,?_⟩
        exact ap SWx
       replace h:=run_f (decide_eq_false c28) h
       exact run_none h
      ·have h:=run_some h
       refine aC ⟨_,h,?_⟩
       exact ap SWx
     replace h:=run_f (decide_eq_false c23) h
     exact run_none h
    ·refine S ?_
     refine aU cs (by omega) (fun cs=>S ?_)
     have h:=run_some h
     refine aC ⟨_,h,?_⟩
     exact ap SWx
   ·refine S ?_
    refine aU cs (by omega) (fun cs=>S ?_)
    refine ArrSlH.mk (m:=4) (sz:=1) (es:=[(I s5.1),(I s5.2.1),(I s5.2.2.1),(I s5.2.2.2)]) SC (by unfold maxLen; omega) SC (by simp only[List.mem_cons,List.not_mem_nil,or_false,forall_eq_or_imp,forall_eq]; exact⟨rfl,rfl,rfl,rfl⟩) (S ?_)
    obtain⟨v65,hv65,h⟩:=run_bind h
    refine av [false] (slices_Max_Sint_int_sat hv65) SC (S ?_)
    cases run_some h
    exact am SC
  ·cases run_some h
   exact am SC
 ·cases run_some h
  exact am SC

theorem spec_l24Path_sat{a0:Ct}{a1:List Int}  {r:Bool}(h:spec_l24Path a0 a1=some r):Sat ag 66 [((aQ false) a0),(.sl false 1 (a1.map I))] (B r):=by
 obtain⟨h,cs⟩:=aG h
 unfold spec_l24Path at h
 refine aK (nt:=55) (rs:=[.tmp 4]) (n:=100000) Try.func66 rfl rfl rfl rfl (by simp) (S ?_)
 refine bn (b:=false) (sz:=1) (es:=a1.map I) 1 SC fun hl1=>?_; rw[aO] at hl1
 replace h:=run_loop h
 refine aY h (fun i2 s2=>[(1,.val (.pv (.sl false 1 (a1.map I)))),(2,.box (.pv ((aQ false) a0))),(5,.val (.pv (I (i2:Int))))]) (fun i2 s2=>[]) (ap SC) (fun i2 s2 hi h=>?_) (fun s2 h=>?_)
 ·have w:=wrap_succ (i:=i2) (by omega)
  refine S ?_
  refine aS cs (by omega) (fun cs=>S ?_)
  refine ai cs h (fun cs h=>S ?_) (fun cs h=>S ?_)
  ·obtain⟨v18,hv18,h⟩:=run_bind h
   refine aD (f:=I) hv18 SC (S ?_)
   obtain⟨v24,hv24,h⟩:=run_bind h
   refine av [false,false,false] (spec_l1In_sat hv24) SC (S ?_)
   refine ai cs h (fun cs h=>S ?_) (fun cs h=>S ?_)
   ·refine ai cs h (fun cs h=>S ?_) (fun cs h=>S ?_)
    ·obtain⟨v35,hv35,h⟩:=run_bind h
     refine aD (f:=I) hv35 SC (S ?_)
     obtain⟨v37,hv37,h⟩:=run_bind h
     refine aD (f:=(au false)) hv37 SC (S ?_)
     obtain⟨v44,hv44,h⟩:=run_bind h
     refine aD (f:=I) hv44 SC (S ?_)
     obtain⟨v46,hv46,h⟩:=run_bind h
     refine aD (f:=(au false)) hv46 SC (S ?_)
     refine aa (aF [] []) (S ?_)
     refine ai cs h (fun cs h=>S ?_) (fun cs h=>S ?_)
     ·have h:=run_some h
      refine aC ⟨_,h,?_⟩
      exact ap SWx
     ·cases run_some h
      exact am SC
    ·refine aa (aF [] []) (S ?_)
     have h:=run_some h
     refine aC ⟨_,h,?_⟩
     exact ap SWx
   ·refine aa (aF [] []) (S ?_)
    cases run_some h
    exact am SC
  ·cases run_some h
   exact am SC
 ·refine S ?_
  refine aU cs (by omega) (fun cs=>S ?_)
  cases run_some h
  exact am SC

theorem spec_RepeatPath_sat{a0:Ct}{a1:List Int}{a2:Int}  {r:(List Int)×Bool}(h:spec_RepeatPath a0 a1 a2=some r):Sat ag 34 [((aQ false) a0),(.sl false 1 (a1.map I)),(I a2)] (.tup [(.sl true 1 (r.1.map I)),(B r.2)]):=by
 obtain⟨h,cs⟩:=aG h
 unfold spec_RepeatPath at h
 refine aK (nt:=53) (rs:=[.tmp 6,.tmp 7]) (n:=100000) Try.func34 rfl rfl rfl rfl (by simp) (S ?_)
 obtain⟨v12,hv12,h⟩:=run_bind h
 refine av [false] (spec_l24Good_sat hv12) SC (S ?_)
 refine ai cs h (fun cs h=>S ?_) (fun cs h=>S ?_)
 ·obtain⟨v17,hv17,h⟩:=run_bind h
  refine av [false,false] (spec_l24Path_sat hv17) SC (S ?_)
  refine ai cs h (fun cs h=>S ?_) (fun cs h=>S ?_)
  ·refine ai cs h (fun cs h=>S ?_) (fun cs h=>S ?_)
   ·cases run_some h
    exact am SC
   ·refine ai cs h (fun cs h=>S ?_) (fun cs h=>S ?_)
    ·refine ai cs h (fun cs h=>S ?_) (fun cs h=>S ?_)
     ·cases run_some h
      exact am SC
     ·obtain⟨N5,hN5,h⟩:=run_bind h
      obtain⟨hN5a,hN5b⟩:=bnd_some hN5
      replace h:=run_loop h
      refine aY h (fun i5 s5=>[(1,.val (.pv (.sl false 1 (a1.map I)))),(2,.val (.pv (I a2))),(3,.box (.pv ((aQ false) a0))),(8,.val (.own 160)),(9,.val (.pv (I (i5:Int))))]) (fun i5 s5=>[(160,(1,s5.map I))]) (ap SC) (fun i5 s5 hi h=>?_) (fun s5 h=>?_)
      ·have w:=wrap_succ (i:=i5) (by omega)
       refine S ?_
       refine aS cs (by omega) (fun cs=>S ?_)
       obtain⟨v46,hv46,h⟩:=run_bind h
       refine ba (f:=I) (fun _=>rfl) hv46 SC SC (S ?_)
       have h:=run_some h
       refine aC ⟨_,h,?_⟩
       refine bt 736 160 ?_
       exact ap SWx
      ·refine S ?_
       refine aU cs (by omega) (fun cs=>S ?_)
       obtain⟨v49,hv49,h⟩:=run_bind h
       refine av [false,false] (spec_l24Path_sat hv49) SC (S ?_)
       refine ai cs h (fun cs h=>S ?_) (fun cs h=>S ?_)
       ·cases run_some h
        exact am SC
       ·cases run_some h
        exact am SC
    ·replace h:=run_loop h
     refine Mg.whileN h (fun s5=>[(1,.val (.pv (.sl false 1 (a1.map I)))),(2,.val (.pv (I a2))),(3,.box (.pv ((aQ false) a0))),(8,.val (.own 160)),(9,.val (.pv (I 0)))]) (fun s5=>[(160,(1,([]).map I))]) (ap SC) (fun n5 s5 h=>?_)
     refine S ?_
     refine ai cs h (fun cs h=>S ?_) (fun cs h=>S ?_)
     ·have h:=run_some h
      obtain⟨v49,hv49,h⟩:=run_bind h
      refine av [false,false] (spec_l24Path_sat hv49) SC (S ?_)
      refine ai cs h (fun cs h=>S ?_) (fun cs h=>S ?_)
      ·cases run_some h
       exact am SC
      ·cases run_some h
       exact am SC
     ·have h:=run_some h
      obtain⟨v49,hv49,h⟩:=run_bind h
      refine av [false,false] (spec_l24Path_sat hv49) SC (S ?_)
      refine ai cs h (fun cs h=>S ?_) (fun cs h=>S ?_)
      ·cases run_some h
       exact am SC
      ·cases run_some h
       exact am SC
  ·cases run_some h
   exact am SC
 ·cases run_some h
  exact am SC

theorem FnTraces_sat{a0:List Int}  {r:Bool}(h:FnTraces a0=some r):Sat ag 6 [(.sl false 1 (a0.map (Ik .u8)))] (B r):=by
 obtain⟨h,cs⟩:=aG h
 unfold FnTraces at h
 refine aK (nt:=149) (rs:=[.tmp 2]) (n:=100000) Try.func6 rfl rfl rfl rfl (by simp) (S ?_)
 obtain⟨v25,hv25,h⟩:=run_bind h
 refine av [false] (vBig_sat hv25) SC (S ?_)
 refine ai cs h (fun cs h=>S ?_) (fun cs h=>S ?_)
 ·cases run_some h
  exact am SC
 ·obtain⟨v28,hv28,h⟩:=run_bind h
  refine av [false] (spec_DrawPathGraph_sat hv28) SC (S ?_)
  obtain⟨v33,hv33,h⟩:=run_bind h
  refine av [false] (impl_TraceDefect_sat hv33) SC (S ?_)
  obtain⟨v38,hv38,h⟩:=run_bind h
  refine av [false] (spec_TraceDefect_sat hv38) SC (S ?_)
  refine ai cs h (fun cs h=>S ?_) (fun cs h=>S ?_)
  ·obtain⟨v47,hv47,h⟩:=run_bind h
   refine av [false,false] (vInts_sat hv47) SC (S ?_)
   refine ai cs h (fun cs h=>S ?_) (fun cs h=>S ?_)
   ·refine ai cs h (fun cs h=>S ?_) (fun cs h=>S ?_)
    ·refine ai cs h (fun cs h=>S ?_) (fun cs h=>S ?_)
     ·obtain⟨v58,hv58,h⟩:=run_bind h
      refine av [false,false] (impl_PathGraph_sat hv58) SC (S ?_)
      obtain⟨v63,hv63,h⟩:=run_bind h
      refine av [false] (impl_IsIdempotentGraph_sat hv63) SC (S ?_)
      obtain⟨v68,hv68,h⟩:=run_bind h
      refine quoH.mk hv68 (S ?_)
      obtain⟨v73,hv73,h⟩:=run_bind h
      refine av [false,false,false] (impl_RepeatPath_sat hv73) SC (S ?_)
      obtain⟨v79,hv79,h⟩:=run_bind h
      refine av [false,false] (impl_MostProgress_sat hv79) SC (S ?_)
      refine ai cs h (fun cs h=>S ?_) (fun cs h=>S ?_)
      ·refine ai cs h (fun cs h=>S ?_) (fun cs h=>S ?_)
       ·refine ai cs h (fun cs h=>S ?_) (fun cs h=>S ?_)
        ·refine ai cs h (fun cs h=>S ?_) (fun cs h=>S ?_)
         ·refine ai cs h (fun cs h=>S ?_) (fun cs h=>S ?_)
          ·cases run_some h
           exact am SC
          ·cases run_some h
           exact am SC
         ·cases run_some h
          exact am SC
        ·cases run_some h
         exact am SC
       ·cases run_some h
        exact am SC
      ·cases run_some h
       exact am SC
     ·refine ai cs h (fun cs h=>S ?_) (fun cs h=>S ?_)
      ·cases run_some h
       exact am SC
      ·refine ai cs h (fun cs h=>S ?_) (fun cs h=>S ?_)
       ·cases run_some h
        exact am SC
       ·obtain⟨v115,hv115,h⟩:=run_bind h
        refine quoH.mk hv115 (S ?_)
        obtain⟨v116,hv116,h⟩:=run_bind h
        refine av [false,false,false] (impl_RepeatPath_sat hv116) SC (S ?_)
        refine aa (aF [] [1856]) (S ?_)
        obtain⟨v124,hv124,h⟩:=run_bind h
        refine quoH.mk hv124 (S ?_)
        obtain⟨v125,hv125,h⟩:=run_bind h
        refine av [false,false,false] (spec_RepeatPath_sat hv125) SC (S ?_)
        refine aa (aF [] [2000]) (S ?_)
        refine ai cs h (fun cs h=>S ?_) (fun cs h=>S ?_)
        ·refine ai cs h (fun cs h=>S ?_) (fun cs h=>S ?_)
         ·obtain⟨v141,hv141,h⟩:=run_bind h
          refine av [false,false] (impl_MostProgress_sat hv141) SC (S ?_)
          refine ai cs h (fun cs h=>S ?_) (fun cs h=>S ?_)
          ·cases run_some h
           exact am SC
          ·cases run_some h
           exact am SC
         ·cases run_some h
          exact am SC
        ·cases run_some h
         exact am SC
    ·cases run_some h
     exact am SC
   ·cases run_some h
    exact am SC
  ·cases run_some h
   exact am SC

end Go.Proofs.Ytjpljobgioglmaa
