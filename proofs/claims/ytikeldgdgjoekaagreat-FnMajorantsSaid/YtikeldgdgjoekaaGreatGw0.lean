/- Lemmas of the proof; each says what it shows. -/
import Derived.Test.YtikeldgdgjoekaaGreatGm
import Derived.Test.YtikeldgdgjoekaaGreatGf
import Derived.Test.YtikeldgdgjoekaaGreatGsrt
import Derived.Test.YtikeldgdgjoekaaGreatGsrl
import Derived.Test.YtikeldgdgjoekaaGreatGlin
set_option linter.unusedSimpArgs false
set_option linter.unusedVariables false
set_option linter.defProp false
set_option maxRecDepth 4000
namespace Go.Proofs.YtikeldgdgjoekaaGreat
open Go.Av
open And renaming intro→aa
open AppH renaming mk→ba
open CallH renaming mk→al
open CondH renaming run→aj,t2→aP,f2→aQ
open DrawH renaming ak→aU
open FinH renaming l→ai
open HandH renaming call→aJ
open IdxH renaming mk→aA
open List renaming nil_append→bh,length_map→aG
open Lt renaming pv→aM
open Mg renaming forN→aV,know_sl→bm
open Mt renaming pv→aD
open Nat renaming le_of_ble_eq_true→bf
open PV renaming views→aw
open RdH renaming mk→aC
open RetHB renaming l→aS
open Run renaming of0→az
open Sat renaming of_m→aB
open SidxH renaming mk→bp
open St renaming le_mk2→ao,le_trans→bC
open Tryz renaming prog→ah
open Tt renaming pv→aq
open VSeq renaming step→aH
open la renaming pv→au
set_option maxHeartbeats 4000000
theorem vBig_sat{a0:List Int}  {r:Bool}(h:vBig a0=some r):Sat ah 4 [(.sl false 1 (a0.map (Ik .u8)))] (B r):=by
 obtain⟨h,cs⟩:=az h
 unfold vBig at h
 refine aB (nt:=6) (rs:=[.tmp 2]) (n:=100000) Tryz.func4 rfl rfl rfl rfl (by simp) (S ?_)
 cases run_some h
 exact ai SC

theorem spec_l1Cur__next_sat{a0:la}  {r:Int×la}(h:spec_l1Cur__next a0=some r):SatH ah 57 [] [] .ptr [] (.pv ((au false) a0)) (.pv ((au false) r.2)) (I r.1):=by
 obtain⟨h,cs⟩:=az h
 unfold spec_l1Cur__next at h
 refine SatH.of_k (nt:=62) (rs:=[.tmp 2]) (n:=100000) 0 Tryz.func57 rfl rfl rfl rfl rfl (bf rfl) (by decide) (by first | exact bf rfl | exact SC) (S ?_)
 refine aa (aU [] []) (S ?_)
 refine aj cs h (fun cs h=>S ?_) (fun cs h=>S ?_)
 ·obtain⟨v22,hv22,h⟩:=run_bind h
  refine aA (f:=(Ik .u8)) hv22 SC (S ?_)
  refine aa (aU [] []) (S ?_)
  refine aa (aU [] []) (S ?_)
  refine aj cs h (fun cs h=>S ?_) (fun cs h=>S ?_)
  ·cases run_some h
   exact aS SC
  ·obtain⟨v59,hv59,h⟩:=run_bind h
   refine ShrH.mk hv59 (S ?_)
   cases run_some h
   exact aS SC
 ·refine aa (aU [] []) (S ?_)
  refine aj cs h (fun cs h=>S ?_) (fun cs h=>S ?_)
  ·cases run_some h
   exact aS SC
  ·obtain⟨v59,hv59,h⟩:=run_bind h
   refine ShrH.mk hv59 (S ?_)
   cases run_some h
   exact aS SC

theorem spec_l1Cur__pick_sat{a0:la}{a1:Int}  {r:Int×la}(h:spec_l1Cur__pick a0 a1=some r):SatH ah 32 [] [(I a1)] .ptr [] (.pv ((au false) a0)) (.pv ((au false) r.2)) (I r.1):=by
 obtain⟨h,cs⟩:=az h
 unfold spec_l1Cur__pick at h
 refine SatH.of_k (nt:=20) (rs:=[.tmp 4]) (n:=100000) 0 Tryz.func32 rfl rfl rfl rfl rfl (bf rfl) (by decide) (by first | exact bf rfl | exact SC) (S ?_)
 refine aj cs h (fun cs h=>S ?_) (fun cs h=>S ?_)
 ·cases run_some h
  exact aS SC
 ·obtain⟨v9,hv9,h⟩:=run_bind h
  refine aJ (r:=0) (hc:=.cv (.pv ((au false) a0))) 0 [] [] [] [] [] (spec_l1Cur__next_sat hv9) rfl rfl rfl SC (S ?_)
  refine aj cs h (fun cs h=>S ?_) (fun cs h=>S ?_)
  ·obtain⟨v15,hv15,h⟩:=run_bind h
   refine aJ (r:=0) (hc:=.cv (.pv ((au false) v9.2))) 0 [] [] [] [] [] (spec_l1Cur__next_sat hv15) rfl rfl rfl SC (S ?_)
   obtain⟨v19,hv19,h⟩:=run_bind h
   refine remH.mk hv19 (S ?_)
   cases run_some h
   exact aS SC
  ·obtain⟨v19,hv19,h⟩:=run_bind h
   refine remH.mk hv19 (S ?_)
   cases run_some h
   exact aS SC

theorem spec_l1Cur__one_sat{a0:la}{a1:Int}  {r:Bool×la}(h:spec_l1Cur__one a0 a1=some r):SatH ah 13 [] [(I a1)] .ptr [] (.pv ((au false) a0)) (.pv ((au false) r.2)) (B r.1):=by
 obtain⟨h,cs⟩:=az h
 unfold spec_l1Cur__one at h
 refine SatH.of_k (nt:=9) (rs:=[.tmp 4]) (n:=100000) 0 Tryz.func13 rfl rfl rfl rfl rfl (bf rfl) (by decide) (by first | exact bf rfl | exact SC) (S ?_)
 obtain⟨v7,hv7,h⟩:=run_bind h
 refine aJ (r:=0) (hc:=.cv (.pv ((au false) a0))) 0 [] [_] [] [(.pv (I a1))] [false] (spec_l1Cur__pick_sat hv7) rfl rfl rfl SC (S ?_)
 cases run_some h
 exact aS SC

theorem spec_l1Cur__among_sat{a0:la}{a1:List Int}  {r:Int×la}(h:spec_l1Cur__among a0 a1=some r):SatH ah 12 [] [(.sl false 1 (a1.map I))] .ptr [] (.pv ((au false) a0)) (.pv ((au false) r.2)) (I r.1):=by
 obtain⟨h,cs⟩:=az h
 unfold spec_l1Cur__among at h
 refine SatH.of_k (nt:=12) (rs:=[.tmp 4]) (n:=100000) 0 Tryz.func12 rfl rfl rfl rfl rfl (bf rfl) (by decide) (by first | exact bf rfl | exact SC) (S ?_)
 obtain⟨v9,hv9,h⟩:=run_bind h
 refine aJ (r:=0) (hc:=.cv (.pv ((au false) a0))) 0 [] [_] [] [(.pv (I (a1.length:Int)))] [false] (spec_l1Cur__pick_sat hv9) rfl rfl rfl SC (S ?_)
 obtain⟨v10,hv10,h⟩:=run_bind h
 refine aA (f:=I) hv10 SC (S ?_)
 cases run_some h
 exact aS SC

theorem spec_l1Cur__of_sat{a0:la}{a1:List ByteArray}  {r:ByteArray×la}(h:spec_l1Cur__of a0 a1=some r):SatH ah 33 [] [(.sl false 1 (a1.map Sx))] .ptr [] (.pv ((au false) a0)) (.pv ((au false) r.2)) (Sx r.1):=by
 obtain⟨h,cs⟩:=az h
 unfold spec_l1Cur__of at h
 refine SatH.of_k (nt:=12) (rs:=[.tmp 4]) (n:=100000) 0 Tryz.func33 rfl rfl rfl rfl rfl (bf rfl) (by decide) (by first | exact bf rfl | exact SC) (S ?_)
 obtain⟨v9,hv9,h⟩:=run_bind h
 refine aJ (r:=0) (hc:=.cv (.pv ((au false) a0))) 0 [] [_] [] [(.pv (I (a1.length:Int)))] [false] (spec_l1Cur__pick_sat hv9) rfl rfl rfl SC (S ?_)
 obtain⟨v10,hv10,h⟩:=run_bind h
 refine aA (f:=Sx) hv10 SC (S ?_)
 cases run_some h
 exact aS SC

theorem spec_l1Cur__majorants_sat{a0:la}  {r:(List Mt)×la}(h:spec_l1Cur__majorants a0=some r):SatH ah 11 [] [] .ptr [] (.pv ((au false) a0)) (.pv ((au false) r.2)) (.sl true 3 (r.1.map (aD true))):=by
 obtain⟨h,cs⟩:=az h
 unfold spec_l1Cur__majorants at h
 refine SatH.of_k (nt:=75) (rs:=[.tmp 2]) (n:=100000) 0 Tryz.func11 rfl rfl rfl rfl rfl (bf rfl) (by decide) (by first | exact bf rfl | exact SC) (S ?_)
 replace h:=run_loop h
 refine aV h (fun i5 s5=>[(0,.box (.pv ((au false) s5.1))),(3,.val (.own 144)),(4,.val (.own 160)),(5,.val (.own 176)),(6,.val (.pv (I (i5:Int)))),(20000,gh 0)]) (fun i5 s5=>[(144,(3,s5.2.map (aD true))),(160,(1,([(⟨#[97]⟩:ByteArray),(⟨#[98]⟩:ByteArray),(⟨#[102]⟩:ByteArray),(⟨#[103]⟩:ByteArray)]).map Sx)),(176,(1,([(0:Int),(0:Int),(1:Int),(2:Int)]).map I))]) (ao SC) (fun i5 s5 hi h=>?_) (fun s5 h=>?_)
 ·have w:=wrap_succ (i:=i5) (by omega)
  refine S ?_
  refine aP cs (by omega) (fun cs=>S ?_)
  obtain⟨v17,hv17,h⟩:=run_bind h
  refine aJ (r:=0) (hc:=.cv (.pv ((au false) s5.1))) 0 [] [_] [] [(.pv (I 12))] [false] (spec_l1Cur__one_sat hv17) rfl rfl rfl SC (S ?_)
  refine aj cs h (fun cs h=>S ?_) (fun cs h=>S ?_)
  ·have h:=run_some h
   refine aC ⟨_,h,?_⟩
   exact ao SWx
  ·obtain⟨v20,hv20,h⟩:=run_bind h
   refine aA (f:=Sx) hv20 SC (S ?_)
   obtain⟨v21,hv21,h⟩:=run_bind h
   refine EldH.mk (f:=Sx) hv21 rfl SC (S ?_)
   obtain⟨v24,hv24,h⟩:=run_bind h
   refine aJ (r:=0) (hc:=.cv (.pv ((au false) v17.2))) (pre:=[]) (post:=[(.sl true 1 (([(0:Int),(1:Int),(2:Int),(5:Int),(100:Int),(40000:Int)]).map I))]) 0 [] [_] [] [(.own 368)] [true] (SatH.give [true] (spec_l1Cur__among_sat hv24) (by first | rfl | simp only[gv_t,gv_f,gv_n,view_sl,view_agg,view_lit,views_I,views_Sx,views_repB,views_repI,aw,bh,List.cons_append]) rfl) rfl rfl rfl SC (S ?_)
   refine aa (aU [7] [368]) (S ?_)
   replace h:=run_loop h
   refine Mg.whileN h (fun s10=>[(0,.box (.pv ((au false) s10.1))),(3,.val (.own 144)),(4,.val (.own 160)),(5,.val (.own 176)),(6,.val (.pv (I (i5:Int)))),(7,.box (.node [(.pv (Sx v21)),(.own 9330),(.pv (I v24.1))])),(8,.val (.pv (I s10.2.1))),(20000,gh 0)]) (fun s10=>[(144,(3,s5.2.map (aD true))),(160,(1,([(⟨#[97]⟩:ByteArray),(⟨#[98]⟩:ByteArray),(⟨#[102]⟩:ByteArray),(⟨#[103]⟩:ByteArray)]).map Sx)),(176,(1,([(0:Int),(0:Int),(1:Int),(2:Int)]).map I)),(9330,(1,s10.2.2.map I))]) (bC (St.le_nilB (x:=(.node [(.pv (Sx v21)),(.pv (.sl true 1 [])),(.pv (I v24.1))])) 7 [1] 9330 1 NM SC SC SC) (ao SC)) (fun n10 s10 h=>?_)
   refine S ?_
   obtain⟨v29,hv29,h⟩:=run_bind h
   refine aA (f:=I) hv29 SC (S ?_)
   obtain⟨v30,hv30,h⟩:=run_bind h
   refine EldH.mk (f:=I) hv30 rfl SC (S ?_)
   refine aj cs h (fun cs h=>S ?_) (fun cs h=>S ?_)
   ·obtain⟨v38,hv38,h⟩:=run_bind h
    refine aJ (r:=0) (hc:=.cv (.pv ((au false) s10.1))) (pre:=[]) (post:=[(.sl true 1 (([(0:Int),(1:Int),(1:Int),(2:Int),(3:Int),(40:Int)]).map I))]) 0 [] [_] [] [(.own 592)] [true] (SatH.give [true] (spec_l1Cur__among_sat hv38) (by first | rfl | simp only[gv_t,gv_f,gv_n,view_sl,view_agg,view_lit,views_I,views_Sx,views_repB,views_repI,aw,bh,List.cons_append]) rfl) rfl rfl rfl SC (S ?_)
    obtain⟨v40,hv40,h⟩:=run_bind h
    refine ba (f:=I) (fun _=>rfl) hv40 SC SC (S ?_)
    refine aa (aU [] [592,624,640]) (S ?_)
    have h:=run_some h
    refine aC ⟨_,h,?_⟩
    refine St.le_rt 640 9330 ?_
    exact ao SC
   ·have h:=run_some h
    obtain⟨v45,hv45,h⟩:=run_bind h
    refine ba (f:=(aD true)) (fun a=>Mt.psize _ a) hv45 SC SC (S ?_)
    have h:=run_some h
    refine aC ⟨_,h,?_⟩
    refine St.le_rt 720 144 ?_
    exact ao SWx
 ·refine S ?_
  refine aQ cs (by omega) (fun cs=>S ?_)
  obtain⟨v47,hv47,h⟩:=run_bind h
  refine aJ (r:=0) (hc:=.cv (.pv ((au false) s5.1))) 0 [] [_] [] [(.pv (I 30))] [false] (spec_l1Cur__pick_sat hv47) rfl rfl rfl SC (S ?_)
  refine aj cs h (fun cs h=>S ?_) (fun cs h=>S ?_)
  ·obtain⟨v53,hv53,h⟩:=run_bind h
   refine aJ (r:=0) (hc:=.cv (.pv ((au false) v47.2))) (pre:=[]) (post:=[(.sl true 1 (([(⟨#[88]⟩:ByteArray),(⟨#[102]⟩:ByteArray),(⟨#[122]⟩:ByteArray)]).map Sx))]) 0 [] [_] [] [(.own 832)] [true] (SatH.give [true] (spec_l1Cur__of_sat hv53) (by first | rfl | simp only[gv_t,gv_f,gv_n,view_sl,view_agg,view_lit,views_I,views_Sx,views_repB,views_repI,aw,bh,List.cons_append]) rfl) rfl rfl rfl SC (S ?_)
   obtain⟨v57,hv57,h⟩:=run_bind h
   refine ba (f:=(aD true)) (fun a=>Mt.psize _ a) hv57 SC SC (S ?_)
   cases run_some h
   exact aS SC
  ·refine aj cs h (fun cs h=>S ?_) (fun cs h=>S ?_)
   ·obtain⟨v63,hv63,h⟩:=run_bind h
    refine aJ (r:=0) (hc:=.cv (.pv ((au false) v47.2))) (pre:=[]) (post:=[(.sl true 1 (([(-1:Int),(100001:Int),(100000:Int)]).map I))]) 0 [] [_] [] [(.own 992)] [true] (SatH.give [true] (spec_l1Cur__among_sat hv63) (by first | rfl | simp only[gv_t,gv_f,gv_n,view_sl,view_agg,view_lit,views_I,views_Sx,views_repB,views_repI,aw,bh,List.cons_append]) rfl) rfl rfl rfl SC (S ?_)
    obtain⟨v66,hv66,h⟩:=run_bind h
    refine ba (f:=(aD true)) (fun a=>Mt.psize _ a) hv66 SC SC (S ?_)
    cases run_some h
    exact aS SC
   ·refine aj cs h (fun cs h=>S ?_) (fun cs h=>S ?_)
    ·obtain⟨n70,hn70,h⟩:=run_bind h
     refine MknH.mk hn70 (S ?_)
     obtain⟨v73,hv73,h⟩:=run_bind h
     refine ba (f:=(aD true)) (fun a=>Mt.psize _ a) hv73 SC SC (S ?_)
     cases run_some h
     exact aS SC
    ·cases run_some h
     exact aS SC

theorem spec_l1Cur__grownN_sat(n:Nat):(∀ (a0:la) (a1:Int) (r:Tt×la),spec_l1Cur__grownN n a0 a1=some r→SatH ah 34 [] [(I a1)] .ptr [] (.pv ((au false) a0)) (.pv ((au false) r.2)) ((aq true) r.1)):=by
 induction n with
 | zero=>exact fun _ _ _ h=>by simp[spec_l1Cur__grownN] at h
 | succ n ih=>
  refine fun a0 a1 r h=>?_
  obtain⟨h,cs⟩:=az h
  rw[spec_l1Cur__grownN] at h
  refine SatH.of_k (nt:=33) (rs:=[.cell 4 28]) (n:=100000) 0 Tryz.func34 rfl rfl rfl rfl rfl (bf rfl) (by decide) (by first | exact bf rfl | exact SC) (S ?_)
  refine aj cs h (fun cs h=>S ?_) (fun cs h=>S ?_)
  ·obtain⟨v13,hv13,h⟩:=run_bind h
   refine aJ (r:=0) (hc:=.cv (.pv ((au false) a0))) (pre:=[]) (post:=[(.sl true 1 (([(⟨#[88]⟩:ByteArray),(⟨#[89]⟩:ByteArray),(⟨#[90]⟩:ByteArray),(⟨#[97]⟩:ByteArray),(⟨#[98]⟩:ByteArray),(⟨#[88]⟩:ByteArray),(⟨#[97]⟩:ByteArray)]).map Sx))]) 0 [] [_] [] [(.own 192)] [true] (SatH.give [true] (spec_l1Cur__of_sat hv13) (by first | rfl | simp only[gv_t,gv_f,gv_n,view_sl,view_agg,view_lit,views_I,views_Sx,views_repB,views_repI,aw,bh,List.cons_append]) rfl) rfl rfl rfl SC (S ?_)
   cases run_some h
   exact aS SC
  ·obtain⟨v9,hv9,h⟩:=run_bind h
   refine aJ (r:=0) (hc:=.cv (.pv ((au false) a0))) 0 [] [_] [] [(.pv (I 3))] [false] (spec_l1Cur__one_sat hv9) rfl rfl rfl SC (S ?_)
   refine aj cs h (fun cs h=>S ?_) (fun cs h=>S ?_)
   ·obtain⟨v13,hv13,h⟩:=run_bind h
    refine aJ (r:=0) (hc:=.cv (.pv ((au false) v9.2))) (pre:=[]) (post:=[(.sl true 1 (([(⟨#[88]⟩:ByteArray),(⟨#[89]⟩:ByteArray),(⟨#[90]⟩:ByteArray),(⟨#[97]⟩:ByteArray),(⟨#[98]⟩:ByteArray),(⟨#[88]⟩:ByteArray),(⟨#[97]⟩:ByteArray)]).map Sx))]) 0 [] [_] [] [(.own 192)] [true] (SatH.give [true] (spec_l1Cur__of_sat hv13) (by first | rfl | simp only[gv_t,gv_f,gv_n,view_sl,view_agg,view_lit,views_I,views_Sx,views_repB,views_repI,aw,bh,List.cons_append]) rfl) rfl rfl rfl SC (S ?_)
    cases run_some h
    exact aS SC
   ·obtain⟨v16,hv16,h⟩:=run_bind h
    refine aJ (r:=0) (hc:=.cv (.pv ((au false) v9.2))) 0 [] [_] [] [(.pv (I 2))] [false] (spec_l1Cur__one_sat hv16) rfl rfl rfl SC (S ?_)
    refine aj cs h (fun cs h=>S ?_) (fun cs h=>S ?_)
    ·obtain⟨v20,hv20,h⟩:=run_bind h
     refine aJ (r:=0) (hc:=.cv (.pv ((au false) v16.2))) 0 [] [_] [] [(.pv (I (IntKind.i64.wrap (a1-1))))] [false] (ih _ _ _ hv20) rfl rfl rfl SC (S ?_)
     cases run_some h
     exact aS SC
    ·obtain⟨v26,hv26,h⟩:=run_bind h
     refine aJ (r:=0) (hc:=.cv (.pv ((au false) v16.2))) 0 [] [_] [] [(.pv (I (IntKind.i64.wrap (a1-1))))] [false] (ih _ _ _ hv26) rfl rfl rfl SC (S ?_)
     obtain⟨v30,hv30,h⟩:=run_bind h
     refine aJ (r:=0) (hc:=.cv (.pv ((au false) v26.2))) 0 [] [_] [] [(.pv (I (IntKind.i64.wrap (a1-1))))] [false] (ih _ _ _ hv30) rfl rfl rfl SC (S ?_)
     cases run_some h
     exact aS SC
theorem spec_l1Cur__grown_sat{a0:la}{a1:Int}{r:Tt×la}(h:spec_l1Cur__grown a0 a1=some r):SatH ah 34 [] [(I a1)] .ptr [] (.pv ((au false) a0)) (.pv ((au false) r.2)) ((aq true) r.1):=by
 obtain⟨n,hn⟩:=lim_some h
 exact(spec_l1Cur__grownN_sat n) _ _ _ hn

theorem spec_l1Cur__term_sat{a0:la}  {r:Tt×la}(h:spec_l1Cur__term a0=some r):SatH ah 14 [] [] .ptr [] (.pv ((au false) a0)) (.pv ((au false) r.2)) ((aq true) r.1):=by
 obtain⟨h,cs⟩:=az h
 unfold spec_l1Cur__term at h
 refine SatH.of_k (nt:=8) (rs:=[.cell 2 28]) (n:=100000) 0 Tryz.func14 rfl rfl rfl rfl rfl (bf rfl) (by decide) (by first | exact bf rfl | exact SC) (S ?_)
 obtain⟨v5,hv5,h⟩:=run_bind h
 refine aJ (r:=0) (hc:=.cv (.pv ((au false) a0))) 0 [] [_] [] [(.pv (I 3))] [false] (spec_l1Cur__pick_sat hv5) rfl rfl rfl SC (S ?_)
 obtain⟨v7,hv7,h⟩:=run_bind h
 refine aJ (r:=0) (hc:=.cv (.pv ((au false) v5.2))) 0 [] [_] [] [(.pv (I (IntKind.i64.wrap ((1:Int)+v5.1))))] [false] (spec_l1Cur__grown_sat hv7) rfl rfl rfl SC (S ?_)
 cases run_some h
 exact aS SC

theorem spec_l1Cur__tower_sat{a0:la}{a1:Int}  {r:Tt×la}(h:spec_l1Cur__tower a0 a1=some r):SatH ah 35 [] [(I a1)] .ptr [] (.pv ((au false) a0)) (.pv ((au false) r.2)) ((aq true) r.1):=by
 obtain⟨h,cs⟩:=az h
 unfold spec_l1Cur__tower at h
 refine SatH.of_k (nt:=18) (rs:=[.cell 4 28]) (n:=100000) 0 Tryz.func35 rfl rfl rfl rfl rfl (bf rfl) (by decide) (by first | exact bf rfl | exact SC) (S ?_)
 obtain⟨v8,hv8,h⟩:=run_bind h
 refine aJ (r:=0) (hc:=.cv (.pv ((au false) a0))) (pre:=[]) (post:=[(.sl true 1 (([(⟨#[88]⟩:ByteArray),(⟨#[97]⟩:ByteArray)]).map Sx))]) 0 [] [_] [] [(.own 112)] [true] (SatH.give [true] (spec_l1Cur__of_sat hv8) (by first | rfl | simp only[gv_t,gv_f,gv_n,view_sl,view_agg,view_lit,views_I,views_Sx,views_repB,views_repI,aw,bh,List.cons_append]) rfl) rfl rfl rfl SC (S ?_)
 replace h:=run_loop h
 refine Mg.whileN h (fun s2=>[(0,.box (.pv ((au false) v8.2))),(1,.val (.pv (I s2.1))),(4,.box (.node [(.pv (Sx ⟨#[]⟩)),(.pv (.sl true 2 []))])),(5,.box (.node [(.pv (Sx s2.2.1)),(.own 9306)])),(20000,gh 0)]) (fun s2=>[(9306,(2,s2.2.2.map (aq true)))]) (bC (St.le_nilB (x:=(.node [(.pv (Sx v8.1)),(.pv (.sl true 2 []))])) 5 [1] 9306 2 NM SC SC SC) (ao SC)) (fun n2 s2 h=>?_)
 refine S ?_
 refine aj cs h (fun cs h=>S ?_) (fun cs h=>S ?_)
 ·have h:=run_some h
  refine aC ⟨_,h,?_⟩
  refine St.le_rt 240 9306 ?_
  exact ao SC
 ·have h:=run_some h
  cases run_some h
  exact aS SC

theorem spec_l1Cur__wide_sat{a0:la}  {r:Tt×la}(h:spec_l1Cur__wide a0=some r):SatH ah 36 [] [] .ptr [] (.pv ((au false) a0)) (.pv ((au false) r.2)) ((aq true) r.1):=by
 obtain⟨h,cs⟩:=az h
 unfold spec_l1Cur__wide at h
 refine SatH.of_k (nt:=54) (rs:=[.cell 2 28]) (n:=100000) 0 Tryz.func36 rfl rfl rfl rfl rfl (bf rfl) (by decide) (by first | exact bf rfl | exact SC) (S ?_)
 replace h:=run_loop h
 refine aV h (fun i3 s3=>[(0,.box (.pv ((au false) a0))),(2,.box (.node [(.pv (Sx ⟨#[]⟩)),(.pv (.sl true 2 []))])),(3,.box (.node [(.pv (Sx (⟨#[103]⟩:ByteArray))),(.own 9309)])),(4,.val (.pv (I (i3:Int)))),(20000,gh 0)]) (fun i3 s3=>[(9309,(2,s3.map (aq true)))]) (bC (St.le_nilB (x:=(.node [(.pv (Sx (⟨#[103]⟩:ByteArray))),(.pv (.sl true 2 []))])) 3 [1] 9309 2 NM SC SC SC) (ao SC)) (fun i3 s3 hi h=>?_) (fun s3 h=>?_)
 ·have w:=wrap_succ (i:=i3) (by omega)
  refine S ?_
  refine aP cs (by omega) (fun cs=>S ?_)
  replace h:=run_loop h
  refine aV h (fun i7 s7=>[(0,.box (.pv ((au false) a0))),(2,.box (.node [(.pv (Sx ⟨#[]⟩)),(.pv (.sl true 2 []))])),(3,.box (.node [(.pv (Sx (⟨#[103]⟩:ByteArray))),(.own 9309)])),(4,.val (.pv (I (i3:Int)))),(5,.box (.node [(.pv (Sx (⟨#[104]⟩:ByteArray))),(.own 9321)])),(6,.val (.pv (I (i7:Int)))),(20000,gh 0)]) (fun i7 s7=>[(9309,(2,s3.map (aq true))),(9321,(2,s7.map (aq true)))]) (bC (St.le_nilB (x:=(.node [(.pv (Sx (⟨#[104]⟩:ByteArray))),(.pv (.sl true 2 []))])) 5 [1] 9321 2 NM SC SC SC) (ao SC)) (fun i7 s7 hi h=>?_) (fun s7 h=>?_)
  ·have w:=aa (wrap_succ (i:=i7) (by omega)) w
   refine S ?_
   refine aP cs (by omega) (fun cs=>S ?_)
   obtain⟨v23,hv23,h⟩:=run_bind h
   refine ba (f:=(aq true)) (fun a=>Tt.psize _ a) hv23 SC SC (S ?_)
   have h:=run_some h
   refine aC ⟨_,h,?_⟩
   refine St.le_rt 368 9321 ?_
   exact ao SWx
  ·refine S ?_
   refine aQ cs (by omega) (fun cs=>S ?_)
   obtain⟨v29,hv29,h⟩:=run_bind h
   refine ba (f:=(aq true)) (fun a=>Tt.psize _ a) hv29 SC SC (S ?_)
   have h:=run_some h
   refine aC ⟨_,h,?_⟩
   refine St.le_rt 464 9309 ?_
   exact ao SWx
 ·refine S ?_
  refine aQ cs (by omega) (fun cs=>S ?_)
  obtain⟨v32,hv32,h⟩:=run_bind h
  refine aJ (r:=0) (hc:=.cv (.pv ((au false) a0))) 0 [] [_] [] [(.pv (I 2))] [false] (spec_l1Cur__one_sat hv32) rfl rfl rfl SC (S ?_)
  refine aj cs h (fun cs h=>S ?_) (fun cs h=>S ?_)
  ·obtain⟨v35,hv35,h⟩:=run_bind h
   refine SlcOH.mk (f:=(aq true)) hv35 SC (S ?_)
   obtain⟨v38,hv38,h⟩:=run_bind h
   refine aJ (r:=0) (hc:=.cv (.pv ((au false) v32.2))) 0 [] [_] [] [(.pv (I 2))] [false] (spec_l1Cur__one_sat hv38) rfl rfl rfl SC (S ?_)
   refine aj cs h (fun cs h=>S ?_) (fun cs h=>S ?_)
   ·refine aj cs h (fun cs h=>S ?_) (fun cs h=>S ?_)
    ·obtain⟨v51,hv51,h⟩:=run_bind h
     refine ba (f:=(aq true)) (fun a=>Tt.psize _ a) hv51 SC SC (S ?_)
     cases run_some h
     exact aS SC
    ·cases run_some h
     exact aS SC
   ·cases run_some h
    exact aS SC
  ·obtain⟨v38,hv38,h⟩:=run_bind h
   refine aJ (r:=0) (hc:=.cv (.pv ((au false) v32.2))) 0 [] [_] [] [(.pv (I 2))] [false] (spec_l1Cur__one_sat hv38) rfl rfl rfl SC (S ?_)
   refine aj cs h (fun cs h=>S ?_) (fun cs h=>S ?_)
   ·refine aj cs h (fun cs h=>S ?_) (fun cs h=>S ?_)
    ·obtain⟨v51,hv51,h⟩:=run_bind h
     refine ba (f:=(aq true)) (fun a=>Tt.psize _ a) hv51 SC SC (S ?_)
     cases run_some h
     exact aS SC
    ·cases run_some h
     exact aS SC
   ·cases run_some h
    exact aS SC

theorem spec_l1Cur__anyTerm_sat{a0:la}  {r:Tt×la}(h:spec_l1Cur__anyTerm a0=some r):SatH ah 15 [] [] .ptr [] (.pv ((au false) a0)) (.pv ((au false) r.2)) ((aq true) r.1):=by
 obtain⟨h,cs⟩:=az h
 unfold spec_l1Cur__anyTerm at h
 refine SatH.of_kf (nt:=57) (rs:=[.cell 2 28]) (n:=100000) 0 Tryz.func15 rfl rfl rfl rfl rfl (bf rfl) (by decide) (by first | exact bf rfl | exact SC) (S ?_)
 refine MgF.reg (S ?_)
 refine MgF.reg (S ?_)
 obtain⟨v5,hv5,h⟩:=run_bind h
 refine aJ (r:=0) (hc:=.cv (.pv ((au false) a0))) 0 [] [] [] [] [] (spec_l1Cur__term_sat hv5) rfl rfl rfl SC (S ?_)
 refine MgF.reg (S ?_)
 obtain⟨v7,hv7,h⟩:=run_bind h
 refine aJ (r:=0) (hc:=.cv (.pv ((au false) v5.2))) 0 [] [_] [] [(.pv (I 24))] [false] (spec_l1Cur__pick_sat hv7) rfl rfl rfl SC (S ?_)
 refine MgF.reg (S ?_)
 refine aj cs h (fun cs h=>S ?_) (fun cs h=>S ?_)
 ·refine MgF.reg (S ?_)
  obtain⟨v12,hv12,h⟩:=run_bind h
  refine aJ (r:=0) (hc:=.cv (.pv ((au false) v7.2))) (pre:=[]) (post:=[(.sl true 1 (([(⟨#[]⟩:ByteArray),(⟨#[116,114,117,101]⟩:ByteArray),(⟨#[116,114,117,116,104]⟩:ByteArray),(⟨#[105,102]⟩:ByteArray),(⟨#[88,121,122,57]⟩:ByteArray),(⟨#[88,121,122,57,57]⟩:ByteArray),(⟨#[120,65]⟩:ByteArray),(⟨#[97,95,98]⟩:ByteArray),(⟨#[97,98,99,100,101,102]⟩:ByteArray),(⟨#[97,98,99,100,101,102,103]⟩:ByteArray),(⟨#[95,97]⟩:ByteArray),(⟨#[57]⟩:ByteArray),(⟨#[88,95]⟩:ByteArray),(⟨#[61]⟩:ByteArray)]).map Sx))]) 0 [] [_] [] [(.own 176)] [true] (SatH.give [true] (spec_l1Cur__of_sat hv12) (by first | rfl | simp only[gv_t,gv_f,gv_n,view_sl,view_agg,view_lit,views_I,views_Sx,views_repB,views_repI,aw,bh,List.cons_append]) rfl) rfl rfl rfl SC (S ?_)
  refine MgF.reg (S ?_)
  cases run_some h
  exact aS SC
 ·refine MgF.reg (S ?_)
  refine aj cs h (fun cs h=>S ?_) (fun cs h=>S ?_)
  ·refine MgF.reg (S ?_)
   obtain⟨v18,hv18,h⟩:=run_bind h
   refine aJ (r:=0) (hc:=.cv (.pv ((au false) v7.2))) 0 [] [_] [] [(.pv (I 3))] [false] (spec_l1Cur__pick_sat hv18) rfl rfl rfl SC (S ?_)
   obtain⟨v20,hv20,h⟩:=run_bind h
   refine aJ (r:=0) (hc:=.cv (.pv ((au false) v18.2))) 0 [] [_] [] [(.pv (I (IntKind.i64.wrap ((7:Int)+v18.1))))] [false] (spec_l1Cur__tower_sat hv20) rfl rfl rfl SC (S ?_)
   cases run_some h
   exact aS SC
  ·refine MgF.reg (S ?_)
   refine aj cs h (fun cs h=>S ?_) (fun cs h=>S ?_)
   ·refine MgF.reg (S ?_)
    obtain⟨v24,hv24,h⟩:=run_bind h
    refine aJ (r:=0) (hc:=.cv (.pv ((au false) v7.2))) 0 [] [] [] [] [] (spec_l1Cur__wide_sat hv24) rfl rfl rfl SC (S ?_)
    cases run_some h
    exact aS SC
   ·refine MgF.reg (S ?_)
    refine aj cs h (fun cs h=>S ?_) (fun cs h=>S ?_)
    ·refine MgF.drw (aa mixed (S ?_))
     obtain⟨v30,hv30,h⟩:=run_bind h
     refine aJ (r:=0) (hc:=.cv (.pv ((au false) v7.2))) 0 [] [] [] [] [] (spec_l1Cur__term_sat hv30) rfl rfl rfl SC (S ?_)
     obtain⟨v32,hv32,h⟩:=run_bind h
     refine aJ (r:=0) (hc:=.cv (.pv ((au false) v30.2))) 0 [] [] [] [] [] (spec_l1Cur__term_sat hv32) rfl rfl rfl SC (S ?_)
     obtain⟨v34,hv34,h⟩:=run_bind h
     refine aJ (r:=0) (hc:=.cv (.pv ((au false) v32.2))) 0 [] [] [] [] [] (spec_l1Cur__term_sat hv34) rfl rfl rfl SC (S ?_)
     obtain⟨v36,hv36,h⟩:=run_bind h
     refine ba (f:=(aq true)) (fun a=>Tt.psize _ a) hv36 SC SC (S ?_)
     refine aa (aU [] [480,512,544,560,576]) (S ?_)
     refine MgF.reg (S ?_)
     cases run_some h
     exact aS SC
    ·refine MgF.reg (S ?_)
     refine aj cs h (fun cs h=>S ?_) (fun cs h=>S ?_)
     ·refine MgF.reg (S ?_)
      refine aj cs h (fun cs h=>S ?_) (fun cs h=>S ?_)
      ·obtain⟨v48,hv48,h⟩:=run_bind h
       obtain⟨v53,hv53,h⟩:=run_bind h
       obtain⟨xs,hxs⟩:=idx0 hv53
       have hx0:v5.1.Args.map (aq true)=.agg [Sx v53.Name,.sl true 2 (v53.Args.map (aq true))]::xs.map (aq true):=by rw[hxs,List.map_cons,Tt.pv_u]
       refine MgF.split (sz:=2) (es:=v5.1.Args.map (aq true)) (sz':=2) (es':=v53.Args.map (aq true)) 80 0 9700 20001 [1] (fun v=>.agg [Sx v53.Name,.lit v]::xs.map (aq true)) (fun v=>by rw[hx0]; rfl) SC (by rw[hx0]; exact⟨Nat.succ_pos _,rfl,rfl⟩) (bf rfl) (S fun u=>?_)
       refine MgF.drw (aa mixed (S ?_))
       refine aJ (r:=0) (hc:=.cv (.pv ((au false) v7.2))) (pre:=[]) (post:=[(.sl true 1 (([(⟨#[61]⟩:ByteArray),(⟨#[]⟩:ByteArray),(⟨#[81,49]⟩:ByteArray),(⟨#[98,50]⟩:ByteArray)]).map Sx))]) 0 [] [_] [] [(.own 752)] [true] (SatH.give [true] (spec_l1Cur__of_sat hv48) (by first | rfl | simp only[gv_t,gv_f,gv_n,view_sl,view_agg,view_lit,views_I,views_Sx,views_repB,views_repI,aw,bh,List.cons_append]) rfl) rfl rfl rfl SC (S ?_)
       refine IdxH.raw (by simp only[List.length_cons]; omega) (S ?_)
       refine EldH.hd (S ?_)
       refine IdxH.raw (by simp only[List.length_cons]; omega) (S ?_)
       refine EldH.hd (S ?_)
       refine aa (aU [] [752]) (S ?_)
       refine MgF.meld (sz:=2) (es:=.agg [Sx v48.1,.lit u]::xs.map (aq true)) (sz':=2) (es':=v53.Args.map (aq true)) 80 0 9700 20001 [1] u ((v5.1.Args.set (0:Int).toNat (Tt.mk v48.1 v53.Args)).map (aq true)) (by rw[hxs]; show _=List.map (aq true) (Tt.mk v48.1 v53.Args::xs); rw[List.map_cons,Tt.pv_u]; rfl) SC (by decide) ⟨Nat.succ_pos _,rfl,rfl⟩ (bf rfl) (S ?_)
       refine MgF.reg (S ?_)
       cases run_some h
       exact aS SC
      ·refine MgF.reg (S ?_)
       cases run_some h
       exact aS SC
     ·refine MgF.reg (S ?_)
      cases run_some h
      exact aS SC


theorem spec_l1Cur__linear_sat{a0:la}  {r:Lt×la}(h:spec_l1Cur__linear a0=some r):SatH ah 16 [] [] .ptr [] (.pv ((au false) a0)) (.pv ((au false) r.2)) ((aM true) r.1):=by
 obtain⟨h,cs⟩:=az h
 unfold spec_l1Cur__linear at h
 refine SatH.of_k (nt:=65) (rs:=[.cell 2 31]) (n:=100000) 0 Tryz.func16 rfl rfl rfl rfl rfl (bf rfl) (by decide) (by first | exact bf rfl | exact SC) (S ?_)
 obtain⟨v8,hv8,h⟩:=run_bind h
 refine aJ (r:=0) (hc:=.cv (.pv ((au false) a0))) (pre:=[]) (post:=[(.sl true 1 (([(0:Int),(1:Int),(7:Int),(90000:Int)]).map I))]) 0 [] [_] [] [(.own 112)] [true] (SatH.give [true] (spec_l1Cur__among_sat hv8) (by first | rfl | simp only[gv_t,gv_f,gv_n,view_sl,view_agg,view_lit,views_I,views_Sx,views_repB,views_repI,aw,bh,List.cons_append]) rfl) rfl rfl rfl SC (S ?_)
 replace h:=run_loop h
 refine aV h (fun i4 s4=>[(0,.box (.pv ((au false) s4.1))),(2,.box zab0),(3,.box (.node [(.own 9312),(.own 9313),(.pv (I v8.1))])),(4,.val (.own 160)),(5,.val (.pv (I (i4:Int)))),(20000,gh 0)]) (fun i4 s4=>[(9312,(1,s4.2.1.map Sx)),(9313,(1,s4.2.2.map I)),(160,(1,([(⟨#[88]⟩:ByteArray),(⟨#[89]⟩:ByteArray),(⟨#[90]⟩:ByteArray)]).map Sx))]) (bC (St.le_nilB (x:=(.node [(.pv (.sl true 1 [])),(.pv (.sl true 1 [])),(.pv (I v8.1))])) 3 [0] 9312 1 NM SC SC SC) (bC (St.le_nilB (x:=(.node [(.own 9312),(.pv (.sl true 1 [])),(.pv (I v8.1))])) 3 [1] 9313 1 NM SC SC SC) (ao SC))) (fun i4 s4 hi h=>?_) (fun s4 h=>?_)
 ·have w:=wrap_succ (i:=i4) (by omega)
  refine S ?_
  refine aP cs (by omega) (fun cs=>S ?_)
  obtain⟨v16,hv16,h⟩:=run_bind h
  refine aJ (r:=0) (hc:=.cv (.pv ((au false) s4.1))) 0 [] [_] [] [(.pv (I 2))] [false] (spec_l1Cur__one_sat hv16) rfl rfl rfl SC (S ?_)
  refine aj cs h (fun cs h=>S ?_) (fun cs h=>S ?_)
  ·obtain⟨v21,hv21,h⟩:=run_bind h
   refine aA (f:=Sx) hv21 SC (S ?_)
   obtain⟨v22,hv22,h⟩:=run_bind h
   refine EldH.mk (f:=Sx) hv22 rfl SC (S ?_)
   obtain⟨v24,hv24,h⟩:=run_bind h
   refine ba (f:=Sx) (fun _=>rfl) hv24 SC SC (S ?_)
   refine aa (aU [] [368,384]) (S ?_)
   obtain⟨v30,hv30,h⟩:=run_bind h
   refine aJ (r:=0) (hc:=.cv (.pv ((au false) v16.2))) (pre:=[]) (post:=[(.sl true 1 (([(1:Int),(2:Int),(3:Int),(30:Int),(1000:Int)]).map I))]) 0 [] [_] [] [(.own 464)] [true] (SatH.give [true] (spec_l1Cur__among_sat hv30) (by first | rfl | simp only[gv_t,gv_f,gv_n,view_sl,view_agg,view_lit,views_I,views_Sx,views_repB,views_repI,aw,bh,List.cons_append]) rfl) rfl rfl rfl SC (S ?_)
   obtain⟨v32,hv32,h⟩:=run_bind h
   refine ba (f:=I) (fun _=>rfl) hv32 SC SC (S ?_)
   refine aa (aU [] [464,496,512]) (S ?_)
   have h:=run_some h
   refine aC ⟨_,h,?_⟩
   refine St.le_rt 512 9313 ?_
   refine St.le_rt 384 9312 ?_
   exact ao SWx
  ·have h:=run_some h
   refine aC ⟨_,h,?_⟩
   exact ao SWx
 ·refine S ?_
  refine aQ cs (by omega) (fun cs=>S ?_)
  obtain⟨v35,hv35,h⟩:=run_bind h
  refine aJ (r:=0) (hc:=.cv (.pv ((au false) s4.1))) 0 [] [_] [] [(.pv (I 30))] [false] (spec_l1Cur__pick_sat hv35) rfl rfl rfl SC (S ?_)
  refine aj cs h (fun cs h=>S ?_) (fun cs h=>S ?_)
  ·obtain⟨v42,hv42,h⟩:=run_bind h
   refine aJ (r:=0) (hc:=.cv (.pv ((au false) v35.2))) (pre:=[]) (post:=[(.sl true 1 (([(⟨#[65]⟩:ByteArray),(⟨#[97]⟩:ByteArray),(⟨#[90,49]⟩:ByteArray)]).map Sx))]) 0 [] [_] [] [(.own 656)] [true] (SatH.give [true] (spec_l1Cur__of_sat hv42) (by first | rfl | simp only[gv_t,gv_f,gv_n,view_sl,view_agg,view_lit,views_I,views_Sx,views_repB,views_repI,aw,bh,List.cons_append]) rfl) rfl rfl rfl SC (S ?_)
   obtain⟨v44,hv44,h⟩:=run_bind h
   refine ba (f:=Sx) (fun _=>rfl) hv44 SC SC (S ?_)
   refine aa (aU [] [656,688,704]) (S ?_)
   obtain⟨v49,hv49,h⟩:=run_bind h
   refine ba (f:=I) (fun _=>rfl) hv49 SC SC (S ?_)
   cases run_some h
   exact aS SC
  ·refine aj cs h (fun cs h=>S ?_) (fun cs h=>S ?_)
   ·obtain⟨v55,hv55,h⟩:=run_bind h
    refine aJ (r:=0) (hc:=.cv (.pv ((au false) v35.2))) (pre:=[]) (post:=[(.sl true 1 (([(-1:Int),(100001:Int)]).map I))]) 0 [] [_] [] [(.own 864)] [true] (SatH.give [true] (spec_l1Cur__among_sat hv55) (by first | rfl | simp only[gv_t,gv_f,gv_n,view_sl,view_agg,view_lit,views_I,views_Sx,views_repB,views_repI,aw,bh,List.cons_append]) rfl) rfl rfl rfl SC (S ?_)
    cases run_some h
    exact aS SC
   ·refine aj cs h (fun cs h=>S ?_) (fun cs h=>S ?_)
    ·obtain⟨v62,hv62,h⟩:=run_bind h
     refine ba (f:=I) (fun _=>rfl) hv62 SC SC (S ?_)
     cases run_some h
     exact aS SC
    ·cases run_some h
     exact aS SC

theorem spec_DrawCappedValue_sat{a0:List Int}  {r:(List Mt)×(List Int)×Tt×Lt}(h:spec_DrawCappedValue a0=some r):Sat ah 5 [(.sl false 1 (a0.map (Ik .u8)))] (.tup [(.sl true 3 (r.1.map (aD true))),(.sl true 1 (r.2.1.map I)),((aq true) r.2.2.1),((aM true) r.2.2.2)]):=by
 obtain⟨h,cs⟩:=az h
 unfold spec_DrawCappedValue at h
 refine aB (nt:=48) (rs:=[.tmp 2,.tmp 3,.cell 4 28,.cell 5 31]) (n:=100000) Tryz.func5 rfl rfl rfl rfl (by simp) (S ?_)
 obtain⟨v15,hv15,h⟩:=run_bind h
 refine aJ (r:=13) (hc:=.cv (.node [(.pv (.sl false 1 (a0.map (Ik .u8)))),(.pv (I 0)),(.pv ((Ik .u64) (0:Int)))])) 0 [] [] [] [] [] (spec_l1Cur__majorants_sat hv15) rfl rfl rfl SC (S ?_)
 refine Mg.know_own (sz:=3) (es:=v15.1.map (aD true)) 240 SC fun hl240=>?_; rw[aG] at hl240
 replace h:=run_loop h
 refine aV h (fun i5 s5=>[(4,.box (.node [(.pv (Sx ⟨#[]⟩)),(.pv (.sl true 2 []))])),(5,.box zab0),(6,.bptr 13 [] 0),(7,.val (.own 240)),(8,.val (.own 256)),(9,.val (.pv (I (i5:Int)))),(13,.box (.pv ((au false) s5.2)))]) (fun i5 s5=>[(240,(3,v15.1.map (aD true))),(256,(1,s5.1.map I))]) (ao SC) (fun i5 s5 hi h=>?_) (fun s5 h=>?_)
 ·have w:=wrap_succ (i:=i5) (by omega)
  refine S ?_
  refine aP cs (by omega) (fun cs=>S ?_)
  obtain⟨v26,hv26,h⟩:=run_bind h
  refine aJ (r:=13) (hc:=.cv (.pv ((au false) s5.2))) (pre:=[]) (post:=[(.sl true 1 (([(0:Int),(1:Int),(3:Int),(50:Int),(100000:Int),(100000:Int)]).map I))]) 0 [] [_] [] [(.own 400)] [true] (SatH.give [true] (spec_l1Cur__among_sat hv26) (by first | rfl | simp only[gv_t,gv_f,gv_n,view_sl,view_agg,view_lit,views_I,views_Sx,views_repB,views_repI,aw,bh,List.cons_append]) rfl) rfl rfl rfl SC (S ?_)
  obtain⟨v28,hv28,h⟩:=run_bind h
  refine ba (f:=I) (fun _=>rfl) hv28 SC SC (S ?_)
  have h:=run_some h
  refine aC ⟨_,h,?_⟩
  refine St.le_rt 448 256 ?_
  exact ao SWx
 ·refine S ?_
  refine aQ cs (by omega) (fun cs=>S ?_)
  obtain⟨v30,hv30,h⟩:=run_bind h
  refine aJ (r:=13) (hc:=.cv (.pv ((au false) s5.2))) 0 [] [_] [] [(.pv (I 20))] [false] (spec_l1Cur__one_sat hv30) rfl rfl rfl SC (S ?_)
  refine aj cs h (fun cs h=>S ?_) (fun cs h=>S ?_)
  ·obtain⟨v34,hv34,h⟩:=run_bind h
   refine aJ (r:=13) (hc:=.cv (.pv ((au false) v30.2))) (pre:=[]) (post:=[(.sl true 1 (([(-1:Int),(0:Int)]).map I))]) 0 [] [_] [] [(.own 528)] [true] (SatH.give [true] (spec_l1Cur__among_sat hv34) (by first | rfl | simp only[gv_t,gv_f,gv_n,view_sl,view_agg,view_lit,views_I,views_Sx,views_repB,views_repI,aw,bh,List.cons_append]) rfl) rfl rfl rfl SC (S ?_)
   obtain⟨v36,hv36,h⟩:=run_bind h
   refine ba (f:=I) (fun _=>rfl) hv36 SC SC (S ?_)
   obtain⟨v38,hv38,h⟩:=run_bind h
   refine aJ (r:=13) (hc:=.cv (.pv ((au false) v34.2))) 0 [] [] [] [] [] (spec_l1Cur__term_sat hv38) rfl rfl rfl SC (S ?_)
   obtain⟨v40,hv40,h⟩:=run_bind h
   refine aJ (r:=13) (hc:=.cv (.pv ((au false) v38.2))) 0 [] [_] [] [(.pv (I 12))] [false] (spec_l1Cur__one_sat hv40) rfl rfl rfl SC (S ?_)
   refine aj cs h (fun cs h=>S ?_) (fun cs h=>S ?_)
   ·obtain⟨v42,hv42,h⟩:=run_bind h
    refine aJ (r:=13) (hc:=.cv (.pv ((au false) v40.2))) 0 [] [] [] [] [] (spec_l1Cur__anyTerm_sat hv42) rfl rfl rfl SC (S ?_)
    obtain⟨v47,hv47,h⟩:=run_bind h
    refine aJ (r:=13) (hc:=.cv (.pv ((au false) v42.2))) 0 [] [] [] [] [] (spec_l1Cur__linear_sat hv47) rfl rfl rfl SC (S ?_)
    refine aa (aU [] [752,753]) (S ?_)
    cases run_some h
    exact ai SC
   ·obtain⟨v47,hv47,h⟩:=run_bind h
    refine aJ (r:=13) (hc:=.cv (.pv ((au false) v40.2))) 0 [] [] [] [] [] (spec_l1Cur__linear_sat hv47) rfl rfl rfl SC (S ?_)
    refine aa (aU [] [752,753]) (S ?_)
    cases run_some h
    exact ai SC
  ·obtain⟨v38,hv38,h⟩:=run_bind h
   refine aJ (r:=13) (hc:=.cv (.pv ((au false) v30.2))) 0 [] [] [] [] [] (spec_l1Cur__term_sat hv38) rfl rfl rfl SC (S ?_)
   obtain⟨v40,hv40,h⟩:=run_bind h
   refine aJ (r:=13) (hc:=.cv (.pv ((au false) v38.2))) 0 [] [_] [] [(.pv (I 12))] [false] (spec_l1Cur__one_sat hv40) rfl rfl rfl SC (S ?_)
   refine aj cs h (fun cs h=>S ?_) (fun cs h=>S ?_)
   ·obtain⟨v42,hv42,h⟩:=run_bind h
    refine aJ (r:=13) (hc:=.cv (.pv ((au false) v40.2))) 0 [] [] [] [] [] (spec_l1Cur__anyTerm_sat hv42) rfl rfl rfl SC (S ?_)
    obtain⟨v47,hv47,h⟩:=run_bind h
    refine aJ (r:=13) (hc:=.cv (.pv ((au false) v42.2))) 0 [] [] [] [] [] (spec_l1Cur__linear_sat hv47) rfl rfl rfl SC (S ?_)
    refine aa (aU [] [752,753]) (S ?_)
    cases run_some h
    exact ai SC
   ·obtain⟨v47,hv47,h⟩:=run_bind h
    refine aJ (r:=13) (hc:=.cv (.pv ((au false) v40.2))) 0 [] [] [] [] [] (spec_l1Cur__linear_sat hv47) rfl rfl rfl SC (S ?_)
    refine aa (aU [] [752,753]) (S ?_)
    cases run_some h
    exact ai SC

theorem impl_isLower_sat{a0:Int}  {r:Bool}(h:impl_isLower a0=some r):Sat ah 58 [((Ik .u8) a0)] (B r):=by
 obtain⟨h,cs⟩:=az h
 unfold impl_isLower at h
 refine aB (nt:=9) (rs:=[.tmp 2]) (n:=100000) Tryz.func58 rfl rfl rfl rfl (by simp) (S ?_)
 refine aj cs h (fun cs h=>S ?_) (fun cs h=>S ?_)
 ·cases run_some h
  exact ai SC
 ·cases run_some h
  exact ai SC

theorem impl_isDigit_sat{a0:Int}  {r:Bool}(h:impl_isDigit a0=some r):Sat ah 59 [((Ik .u8) a0)] (B r):=by
 obtain⟨h,cs⟩:=az h
 unfold impl_isDigit at h
 refine aB (nt:=9) (rs:=[.tmp 2]) (n:=100000) Tryz.func59 rfl rfl rfl rfl (by simp) (S ?_)
 refine aj cs h (fun cs h=>S ?_) (fun cs h=>S ?_)
 ·cases run_some h
  exact ai SC
 ·cases run_some h
  exact ai SC

theorem impl_within_sat{a0:Int}{a1:Int}{a2:Int}  {r:Bool}(h:impl_within a0 a1 a2=some r):Sat ah 20 [(I a0),(I a1),(I a2)] (B r):=by
 obtain⟨h,cs⟩:=az h
 unfold impl_within at h
 refine aB (nt:=15) (rs:=[.tmp 6]) (n:=100000) Tryz.func20 rfl rfl rfl rfl (by simp) (S ?_)
 refine aj cs h (fun cs h=>S ?_) (fun cs h=>S ?_)
 ·cases run_some h
  exact ai SC
 ·cases run_some h
  exact ai SC

theorem impl_reserved_sat   {r:List ByteArray}(h:impl_reserved  =some r):Sat ah 61 [] (.sl true 1 (r.map Sx)):=by
 obtain⟨h,cs⟩:=az h
 unfold impl_reserved at h
 refine aB (nt:=2) (rs:=[.tmp 0]) (n:=100000) Tryz.func61 rfl rfl rfl rfl (by simp) (S ?_)
 cases run_some h
 exact ai SC

theorem slices_Index_Sstring_string_sat{a0:List ByteArray}{a1:ByteArray}  {r:Int}(h:slices_Index_Sstring_string a0 a1=some r):Sat ah 78 [(.sl false 1 (a0.map Sx)),(Sx a1)] (I r):=by
 obtain⟨h,cs⟩:=az h
 unfold slices_Index_Sstring_string at h
 refine aB (nt:=19) (rs:=[.tmp 4]) (n:=100000) Tryz.func78 rfl rfl rfl rfl (by simp) (S ?_)
 refine bm (b:=false) (sz:=1) (es:=a0.map Sx) 0 SC fun hl0=>?_; rw[aG] at hl0
 replace h:=run_loop h
 refine aV h (fun i2 s2=>[(0,.val (.pv (.sl false 1 (a0.map Sx)))),(1,.val (.pv (Sx a1))),(7,.val (.pv (I (a0.length:Int)))),(8,.val (.pv (I (i2:Int))))]) (fun i2 s2=>[]) (ao SC) (fun i2 s2 hi h=>?_) (fun s2 h=>?_)
 ·have w:=wrap_succ (i:=i2) (by omega)
  refine S ?_
  refine aP cs (by omega) (fun cs=>S ?_)
  obtain⟨v14,hv14,h⟩:=run_bind h
  refine aA (f:=Sx) hv14 SC (S ?_)
  refine aj cs h (fun cs h=>S ?_) (fun cs h=>S ?_)
  ·cases run_some h
   exact ai SC
  ·have h:=run_some h
   refine aC ⟨_,h,?_⟩
   exact ao SWx
 ·refine S ?_
  refine aQ cs (by omega) (fun cs=>S ?_)
  cases run_some h
  exact ai SC

theorem slices_Contains_Sstring_string_sat{a0:List ByteArray}{a1:ByteArray}  {r:Bool}(h:slices_Contains_Sstring_string a0 a1=some r):Sat ah 60 [(.sl false 1 (a0.map Sx)),(Sx a1)] (B r):=by
 obtain⟨h,cs⟩:=az h
 unfold slices_Contains_Sstring_string at h
 refine aB (nt:=9) (rs:=[.tmp 4]) (n:=100000) Tryz.func60 rfl rfl rfl rfl (by simp) (S ?_)
 obtain⟨v7,hv7,h⟩:=run_bind h
 refine al [false,false] (slices_Index_Sstring_string_sat hv7) SC (S ?_)
 cases run_some h
 exact ai SC

theorem impl_isSymbol_sat{a0:ByteArray}  {r:Bool}(h:impl_isSymbol a0=some r):Sat ah 37 [(Sx a0)] (B r):=by
 obtain⟨h,cs⟩:=az h
 unfold impl_isSymbol at h
 refine aB (nt:=48) (rs:=[.tmp 2]) (n:=100000) Tryz.func37 rfl rfl rfl rfl (by simp) (S ?_)
 obtain⟨N2,hN2,h⟩:=run_bind h
 obtain⟨hN2a,hN2b⟩:=bnd_some hN2
 replace h:=run_loop h
 refine aV h (fun i2 s2=>[(0,.val (.pv (Sx a0))),(5,.val (.pv (I (a0.size:Int)))),(6,.val (.pv (I (i2:Int))))]) (fun i2 s2=>[]) (ao SC) (fun i2 s2 hi h=>?_) (fun s2 h=>?_)
 ·have w:=wrap_succ (i:=i2) (by omega)
  refine S ?_
  refine aP cs (by omega) (fun cs=>S ?_)
  refine aj cs h (fun cs h=>S ?_) (fun cs h=>S ?_)
  ·obtain⟨v14,hv14,h⟩:=run_bind h
   refine bp hv14 (S ?_)
   obtain⟨v15,hv15,h⟩:=run_bind h
   refine al [false] (impl_isLower_sat hv15) SC (S ?_)
   refine aj cs h (fun cs h=>S ?_) (fun cs h=>S ?_)
   ·obtain⟨v21,hv21,h⟩:=run_bind h
    refine bp hv21 (S ?_)
    obtain⟨v22,hv22,h⟩:=run_bind h
    refine al [false] (impl_isLower_sat hv22) SC (S ?_)
    refine aj cs h (fun cs h=>S ?_) (fun cs h=>S ?_)
    ·have h:=run_some h
     refine aC ⟨_,h,?_⟩
     exact ao SWx
    ·obtain⟨v27,hv27,h⟩:=run_bind h
     refine bp hv27 (S ?_)
     obtain⟨v28,hv28,h⟩:=run_bind h
     refine al [false] (impl_isDigit_sat hv28) SC (S ?_)
     refine aj cs h (fun cs h=>S ?_) (fun cs h=>S ?_)
     ·have h:=run_some h
      refine aC ⟨_,h,?_⟩
      exact ao SWx
     ·obtain⟨v34,hv34,h⟩:=run_bind h
      refine bp hv34 (S ?_)
      refine aj cs h (fun cs h=>S ?_) (fun cs h=>S ?_)
      ·have h:=run_some h
       refine aC ⟨_,h,?_⟩
       exact ao SWx
      ·cases run_some h
       exact ai SC
   ·cases run_some h
    exact ai SC
  ·obtain⟨v21,hv21,h⟩:=run_bind h
   refine bp hv21 (S ?_)
   obtain⟨v22,hv22,h⟩:=run_bind h
   refine al [false] (impl_isLower_sat hv22) SC (S ?_)
   refine aj cs h (fun cs h=>S ?_) (fun cs h=>S ?_)
   ·have h:=run_some h
    refine aC ⟨_,h,?_⟩
    exact ao SWx
   ·obtain⟨v27,hv27,h⟩:=run_bind h
    refine bp hv27 (S ?_)
    obtain⟨v28,hv28,h⟩:=run_bind h
    refine al [false] (impl_isDigit_sat hv28) SC (S ?_)
    refine aj cs h (fun cs h=>S ?_) (fun cs h=>S ?_)
    ·have h:=run_some h
     refine aC ⟨_,h,?_⟩
     exact ao SWx
    ·obtain⟨v34,hv34,h⟩:=run_bind h
     refine bp hv34 (S ?_)
     refine aj cs h (fun cs h=>S ?_) (fun cs h=>S ?_)
     ·have h:=run_some h
      refine aC ⟨_,h,?_⟩
      exact ao SWx
     ·cases run_some h
      exact ai SC
 ·refine S ?_
  refine aQ cs (by omega) (fun cs=>S ?_)
  obtain⟨v41,hv41,h⟩:=run_bind h
  refine al [false,false,false] (impl_within_sat hv41) SC (S ?_)
  refine aj cs h (fun cs h=>S ?_) (fun cs h=>S ?_)
  ·obtain⟨v43,hv43,h⟩:=run_bind h
   refine al [] (impl_reserved_sat hv43) SC (S ?_)
   obtain⟨v45,hv45,h⟩:=run_bind h
   refine al [false,false] (slices_Contains_Sstring_string_sat hv45) SC (S ?_)
   cases run_some h
   exact ai SC
  ·cases run_some h
   exact ai SC

theorem cmp_isNaN_string_sat{a0:ByteArray}  {r:Bool}(h:cmp_isNaN_string a0=some r):Sat ah 79 [(Sx a0)] (B r):=by
 obtain⟨h,cs⟩:=az h
 unfold cmp_isNaN_string at h
 refine aB (nt:=6) (rs:=[.tmp 2]) (n:=100000) Tryz.func79 rfl rfl rfl rfl (by simp) (S ?_)
 cases run_some h
 exact ai SC

theorem cmp_Compare_string_sat{a0:ByteArray}{a1:ByteArray}  {r:Int}(h:cmp_Compare_string a0 a1=some r):Sat ah 63 [(Sx a0),(Sx a1)] (I r):=by
 obtain⟨h,cs⟩:=az h
 unfold cmp_Compare_string at h
 refine aB (nt:=20) (rs:=[.tmp 4]) (n:=100000) Tryz.func63 rfl rfl rfl rfl (by simp) (S ?_)
 obtain⟨v8,hv8,h⟩:=run_bind h
 refine al [false] (cmp_isNaN_string_sat hv8) SC (S ?_)
 obtain⟨v10,hv10,h⟩:=run_bind h
 refine al [false] (cmp_isNaN_string_sat hv10) SC (S ?_)
 refine aj cs h (fun cs h=>S ?_) (fun cs h=>S ?_)
 ·refine aj cs h (fun cs h=>S ?_) (fun cs h=>S ?_)
  ·cases run_some h
   exact ai SC
  ·cases run_some h
   exact ai SC
 ·refine aj cs h (fun cs h=>S ?_) (fun cs h=>S ?_)
  ·cases run_some h
   exact ai SC
  ·refine aj cs h (fun cs h=>S ?_) (fun cs h=>S ?_)
   ·cases run_some h
    exact ai SC
   ·refine aj cs h (fun cs h=>S ?_) (fun cs h=>S ?_)
    ·cases run_some h
     exact ai SC
    ·cases run_some h
     exact ai SC

theorem cmp_isNaN_int_sat{a0:Int}  {r:Bool}(h:cmp_isNaN_int a0=some r):Sat ah 80 [(I a0)] (B r):=by
 obtain⟨h,cs⟩:=az h
 unfold cmp_isNaN_int at h
 refine aB (nt:=6) (rs:=[.tmp 2]) (n:=100000) Tryz.func80 rfl rfl rfl rfl (by simp) (S ?_)
 cases run_some h
 exact ai SC

theorem cmp_Compare_int_sat{a0:Int}{a1:Int}  {r:Int}(h:cmp_Compare_int a0 a1=some r):Sat ah 64 [(I a0),(I a1)] (I r):=by
 obtain⟨h,cs⟩:=az h
 unfold cmp_Compare_int at h
 refine aB (nt:=20) (rs:=[.tmp 4]) (n:=100000) Tryz.func64 rfl rfl rfl rfl (by simp) (S ?_)
 obtain⟨v8,hv8,h⟩:=run_bind h
 refine al [false] (cmp_isNaN_int_sat hv8) SC (S ?_)
 obtain⟨v10,hv10,h⟩:=run_bind h
 refine al [false] (cmp_isNaN_int_sat hv10) SC (S ?_)
 refine aj cs h (fun cs h=>S ?_) (fun cs h=>S ?_)
 ·refine aj cs h (fun cs h=>S ?_) (fun cs h=>S ?_)
  ·cases run_some h
   exact ai SC
  ·cases run_some h
   exact ai SC
 ·refine aj cs h (fun cs h=>S ?_) (fun cs h=>S ?_)
  ·cases run_some h
   exact ai SC
  ·refine aj cs h (fun cs h=>S ?_) (fun cs h=>S ?_)
   ·cases run_some h
    exact ai SC
   ·refine aj cs h (fun cs h=>S ?_) (fun cs h=>S ?_)
    ·cases run_some h
     exact ai SC
    ·cases run_some h
     exact ai SC

theorem cmp_Or_int_sat{a0:List Int}  {r:Int}(h:cmp_Or_int a0=some r):Sat ah 62 [(.sl false 1 (a0.map I))] (I r):=by
 obtain⟨h,cs⟩:=az h
 unfold cmp_Or_int at h
 refine aB (nt:=18) (rs:=[.tmp 2]) (n:=100000) Tryz.func62 rfl rfl rfl rfl (by simp) (S ?_)
 refine bm (b:=false) (sz:=1) (es:=a0.map I) 0 SC fun hl0=>?_; rw[aG] at hl0
 replace h:=run_loop h
 refine aV h (fun i3 s3=>[(3,.val (.pv (I 0))),(6,.val (.pv (.sl false 1 (a0.map I)))),(7,.val (.pv (I (a0.length:Int)))),(8,.val (.pv (I (i3:Int))))]) (fun i3 s3=>[]) (ao SC) (fun i3 s3 hi h=>?_) (fun s3 h=>?_)
 ·have w:=wrap_succ (i:=i3) (by omega)
  refine S ?_
  refine aP cs (by omega) (fun cs=>S ?_)
  obtain⟨v10,hv10,h⟩:=run_bind h
  refine aA (f:=I) hv10 SC (S ?_)
  refine aj cs h (fun cs h=>S ?_) (fun cs h=>S ?_)
  ·have h:=run_some h
   refine aC ⟨_,h,?_⟩
   exact ao SWx
  ·cases run_some h
   exact ai SC
 ·refine S ?_
  refine aQ cs (by omega) (fun cs=>S ?_)
  cases run_some h
  exact ai SC

theorem impl_compareMajorants_sat{a0:Mt}{a1:Mt}  {r:Int}(h:impl_compareMajorants a0 a1=some r):Sat ah 38 [((aD false) a0),((aD false) a1)] (I r):=by
 obtain⟨h,cs⟩:=az h
 unfold impl_compareMajorants at h
 refine aB (nt:=19) (rs:=[.tmp 4]) (n:=100000) Tryz.func38 rfl rfl rfl rfl (by simp) (S ?_)
 obtain⟨v9,hv9,h⟩:=run_bind h
 refine al [false,false] (cmp_Compare_string_sat hv9) SC (S ?_)
 obtain⟨v16,hv16,h⟩:=run_bind h
 refine al [false,false] (cmp_Compare_int_sat hv16) SC (S ?_)
 obtain⟨v18,hv18,h⟩:=run_bind h
 refine al [false] (cmp_Or_int_sat hv18) SC (S ?_)
 refine aa (aU [] [272]) (S ?_)
 cases run_some h
 exact ai SC

theorem impl_IsValidMajorants_1_sat{a0:Int}  {r:Bool}(h:impl_IsValidMajorants_1 a0=some r):Sat ah 39 [(I a0)] (B r):=by
 obtain⟨h,cs⟩:=az h
 unfold impl_IsValidMajorants_1 at h
 refine aB (nt:=6) (rs:=[.tmp 2]) (n:=100000) Tryz.func39 rfl rfl rfl rfl (by simp) (S ?_)
 obtain⟨v4,hv4,h⟩:=run_bind h
 refine al [false,false,false] (impl_within_sat hv4) SC (S ?_)
 cases run_some h
 exact ai SC

theorem slices_IndexFunc_Sint_int_sat{a0:List Int}{a1:Int→Option Bool}{a1_id:FuncId}{a1_cs:List PV}(a1_ok:∀ y0 r,a1 y0=some r→Sat ah a1_id ((I y0)::a1_cs) (B r))(a1_cz:CapsOk a1_cs=True){r:Int}(h:slices_IndexFunc_Sint_int a0 a1=some r):Sat ah 40 [(.sl false 1 (a0.map I)),.clo a1_id a1_cs] (I r):=by
 obtain⟨h,cs⟩:=az h
 unfold slices_IndexFunc_Sint_int at h
 have cs:=aa a1_cz cs
 refine aB (nt:=19) (rs:=[.tmp 4]) (n:=100000) Tryz.func40 rfl rfl rfl rfl (by simp) (S ?_)
 refine bm (b:=false) (sz:=1) (es:=a0.map I) 0 SC fun hl0=>?_; rw[aG] at hl0
 replace h:=run_loop h
 refine aV h (fun i2 s2=>[(0,.val (.pv (.sl false 1 (a0.map I)))),(1,.val (.pv (.clo a1_id a1_cs))),(7,.val (.pv (I (a0.length:Int)))),(8,.val (.pv (I (i2:Int))))]) (fun i2 s2=>[]) (ao SC) (fun i2 s2 hi h=>?_) (fun s2 h=>?_)
 ·have w:=wrap_succ (i:=i2) (by omega)
  refine S ?_
  refine aP cs (by omega) (fun cs=>S ?_)
  obtain⟨v14,hv14,h⟩:=run_bind h
  refine aA (f:=I) hv14 SC (S ?_)
  obtain⟨v16,hv16,h⟩:=run_bind h
  refine al [false] (a1_ok _ _ hv16) SC (S ?_)
  refine aj cs h (fun cs h=>S ?_) (fun cs h=>S ?_)
  ·cases run_some h
   exact ai SC
  ·have h:=run_some h
   refine aC ⟨_,h,?_⟩
   exact ao SWx
 ·refine S ?_
  refine aQ cs (by omega) (fun cs=>S ?_)
  cases run_some h
  exact ai SC

theorem slices_ContainsFunc_Sint_int_sat{a0:List Int}{a1:Int→Option Bool}{a1_id:FuncId}{a1_cs:List PV}(a1_ok:∀ y0 r,a1 y0=some r→Sat ah a1_id ((I y0)::a1_cs) (B r))(a1_cz:CapsOk a1_cs=True){r:Bool}(h:slices_ContainsFunc_Sint_int a0 a1=some r):Sat ah 18 [(.sl false 1 (a0.map I)),.clo a1_id a1_cs] (B r):=by
 obtain⟨h,cs⟩:=az h
 unfold slices_ContainsFunc_Sint_int at h
 have cs:=aa a1_cz cs
 refine aB (nt:=9) (rs:=[.tmp 4]) (n:=100000) Tryz.func18 rfl rfl rfl rfl (by simp) (S ?_)
 obtain⟨v7,hv7,h⟩:=run_bind h
 refine al [false,false] (slices_IndexFunc_Sint_int_sat a1_ok a1_cz hv7) SC (S ?_)
 cases run_some h
 exact ai SC

theorem impl_IsValidMajorants_sat{a0:List Mt}  {r:Bool}(h:impl_IsValidMajorants a0=some r):Sat ah 17 [(.sl false 3 (a0.map (aD false)))] (B r):=by
 obtain⟨h,cs⟩:=az h
 unfold impl_IsValidMajorants at h
 refine aB (nt:=49) (rs:=[.tmp 2]) (n:=100000) Tryz.func17 rfl rfl rfl rfl (by simp) (S ?_)
 refine bm (b:=false) (sz:=3) (es:=a0.map (aD false)) 0 SC fun hl0=>?_; rw[aG] at hl0
 replace h:=run_loop h
 refine aV h (fun i2 s2=>[(0,.val (.pv (.sl false 3 (a0.map (aD false))))),(5,.val (.pv (.sl false 3 (a0.map (aD false))))),(6,.val (.pv (I (a0.length:Int)))),(7,.val (.pv (I (i2:Int))))]) (fun i2 s2=>[]) (ao SC) (fun i2 s2 hi h=>?_) (fun s2 h=>?_)
 ·have w:=wrap_succ (i:=i2) (by omega)
  refine S ?_
  refine aP cs (by omega) (fun cs=>S ?_)
  obtain⟨v10,hv10,h⟩:=run_bind h
  refine aA (f:=(aD false)) hv10 SC (S ?_)
  obtain⟨v14,hv14,h⟩:=run_bind h
  refine al [false] (impl_isSymbol_sat hv14) SC (S ?_)
  refine aj cs h (fun cs h=>S ?_) (fun cs h=>S ?_)
  ·refine aj cs h (fun cs h=>S ?_) (fun cs h=>S ?_)
   ·refine aa (aU [] []) (S ?_)
    cases run_some h
    exact ai SC
   ·obtain⟨v25,hv25,h⟩:=run_bind h
    refine al [false,false,false] (impl_within_sat hv25) SC (S ?_)
    refine aj cs h (fun cs h=>S ?_) (fun cs h=>S ?_)
    ·refine aj cs h (fun cs h=>S ?_) (fun cs h=>S ?_)
     ·obtain⟨v35,hv35,h⟩:=run_bind h
      refine aA (f:=(aD false)) hv35 SC (S ?_)
      obtain⟨v38,hv38,h⟩:=run_bind h
      refine al [false,false] (impl_compareMajorants_sat hv38) SC (S ?_)
      refine aa (aU [] []) (S ?_)
      refine aj cs h (fun cs h=>S ?_) (fun cs h=>S ?_)
      ·cases run_some h
       exact ai SC
      ·obtain⟨v44,hv44,h⟩:=run_bind h
       refine al [false,false] (slices_ContainsFunc_Sint_int_sat (fun _ _ hh=>impl_IsValidMajorants_1_sat hh) (by simp only[CapsOk_nil,CapsOk_cons]) hv44) SC (S ?_)
       refine aj cs h (fun cs h=>S ?_) (fun cs h=>S ?_)
       ·cases run_some h
        exact ai SC
       ·have h:=run_some h
        refine aC ⟨_,h,?_⟩
        exact ao SWx
     ·refine aa (aU [] []) (S ?_)
      obtain⟨v44,hv44,h⟩:=run_bind h
      refine al [false,false] (slices_ContainsFunc_Sint_int_sat (fun _ _ hh=>impl_IsValidMajorants_1_sat hh) (by simp only[CapsOk_nil,CapsOk_cons]) hv44) SC (S ?_)
      refine aj cs h (fun cs h=>S ?_) (fun cs h=>S ?_)
      ·cases run_some h
       exact ai SC
      ·have h:=run_some h
       refine aC ⟨_,h,?_⟩
       exact ao SWx
    ·refine aa (aU [] []) (S ?_)
     cases run_some h
     exact ai SC
  ·refine aa (aU [] []) (S ?_)
   cases run_some h
   exact ai SC
 ·refine S ?_
  refine aQ cs (by omega) (fun cs=>S ?_)
  cases run_some h
  exact ai SC

theorem impl_CappedValue_1_sat{a0:Int}  {r:Bool}(h:impl_CappedValue_1 a0=some r):Sat ah 19 [(I a0)] (B r):=by
 obtain⟨h,cs⟩:=az h
 unfold impl_CappedValue_1 at h
 refine aB (nt:=6) (rs:=[.tmp 2]) (n:=100000) Tryz.func19 rfl rfl rfl rfl (by simp) (S ?_)
 obtain⟨v4,hv4,h⟩:=run_bind h
 refine al [false,false,false] (impl_within_sat hv4) SC (S ?_)
 cases run_some h
 exact ai SC

theorem impl_sizeN_sat(n:Nat):(∀ (a0:Tt) (r:Int),impl_sizeN n a0=some r→Sat ah 65 [((aq false) a0)] (I r)):=by
 induction n with
 | zero=>exact fun _ _ h=>by simp[impl_sizeN] at h
 | succ n ih=>
  refine fun a0 r h=>?_
  obtain⟨h,cs⟩:=az h
  rw[impl_sizeN] at h
  refine aB (nt:=22) (rs:=[.tmp 2]) (n:=100000) Tryz.func65 rfl rfl rfl rfl (by simp) (S ?_)
  refine bm (b:=false) (sz:=2) (es:=a0.Args.map (aq false)) 7 SC fun hl7=>?_; rw[aG] at hl7
  replace h:=run_loop h
  refine aV h (fun i3 s3=>[(3,.val (.pv (I s3))),(7,.val (.pv (.sl false 2 (a0.Args.map (aq false))))),(8,.val (.pv (I (a0.Args.length:Int)))),(9,.val (.pv (I (i3:Int))))]) (fun i3 s3=>[]) (ao SC) (fun i3 s3 hi h=>?_) (fun s3 h=>?_)
  ·have w:=wrap_succ (i:=i3) (by omega)
   refine S ?_
   refine aP cs (by omega) (fun cs=>S ?_)
   obtain⟨v11,hv11,h⟩:=run_bind h
   refine aA (f:=(aq false)) hv11 SC (S ?_)
   refine aj cs h (fun cs h=>S ?_) (fun cs h=>S ?_)
   ·cases run_some h
    exact ai SC
   ·obtain⟨v18,hv18,h⟩:=run_bind h
    refine al [false] (ih _ _ hv18) SC (S ?_)
    have h:=run_some h
    refine aC ⟨_,h,?_⟩
    exact ao SWx
  ·refine S ?_
   refine aQ cs (by omega) (fun cs=>S ?_)
   cases run_some h
   exact ai SC
theorem impl_size_sat{a0:Tt}{r:Int}(h:impl_size a0=some r):Sat ah 65 [((aq false) a0)] (I r):=by
 obtain⟨n,hn⟩:=lim_some h
 exact(impl_sizeN_sat n) _ _ hn

theorem impl_depthN_sat(n:Nat):(∀ (a0:Tt) (r:Int),impl_depthN n a0=some r→Sat ah 66 [((aq false) a0)] (I r)):=by
 induction n with
 | zero=>exact fun _ _ h=>by simp[impl_depthN] at h
 | succ n ih=>
  refine fun a0 r h=>?_
  obtain⟨h,cs⟩:=az h
  rw[impl_depthN] at h
  refine aB (nt:=20) (rs:=[.tmp 2]) (n:=100000) Tryz.func66 rfl rfl rfl rfl (by simp) (S ?_)
  refine bm (b:=false) (sz:=2) (es:=a0.Args.map (aq false)) 7 SC fun hl7=>?_; rw[aG] at hl7
  replace h:=run_loop h
  refine aV h (fun i3 s3=>[(3,.val (.pv (I s3))),(7,.val (.pv (.sl false 2 (a0.Args.map (aq false))))),(8,.val (.pv (I (a0.Args.length:Int)))),(9,.val (.pv (I (i3:Int))))]) (fun i3 s3=>[]) (ao SC) (fun i3 s3 hi h=>?_) (fun s3 h=>?_)
  ·have w:=wrap_succ (i:=i3) (by omega)
   refine S ?_
   refine aP cs (by omega) (fun cs=>S ?_)
   obtain⟨v11,hv11,h⟩:=run_bind h
   refine aA (f:=(aq false)) hv11 SC (S ?_)
   obtain⟨v15,hv15,h⟩:=run_bind h
   refine al [false] (ih _ _ hv15) SC (S ?_)
   have h:=run_some h
   refine aC ⟨_,h,?_⟩
   exact ao SWx
  ·refine S ?_
   refine aQ cs (by omega) (fun cs=>S ?_)
   cases run_some h
   exact ai SC
theorem impl_depth_sat{a0:Tt}{r:Int}(h:impl_depth a0=some r):Sat ah 66 [((aq false) a0)] (I r):=by
 obtain⟨n,hn⟩:=lim_some h
 exact(impl_depthN_sat n) _ _ hn

theorem impl_isSmall_sat{a0:Tt}  {r:Bool}(h:impl_isSmall a0=some r):Sat ah 41 [((aq false) a0)] (B r):=by
 obtain⟨h,cs⟩:=az h
 unfold impl_isSmall at h
 refine aB (nt:=11) (rs:=[.tmp 2]) (n:=100000) Tryz.func41 rfl rfl rfl rfl (by simp) (S ?_)
 obtain⟨v4,hv4,h⟩:=run_bind h
 refine al [false] (impl_size_sat hv4) SC (S ?_)
 refine aj cs h (fun cs h=>S ?_) (fun cs h=>S ?_)
 ·obtain⟨v8,hv8,h⟩:=run_bind h
  refine al [false] (impl_depth_sat hv8) SC (S ?_)
  cases run_some h
  exact ai SC
 ·cases run_some h
  exact ai SC

theorem impl_isUpper_sat{a0:Int}  {r:Bool}(h:impl_isUpper a0=some r):Sat ah 69 [((Ik .u8) a0)] (B r):=by
 obtain⟨h,cs⟩:=az h
 unfold impl_isUpper at h
 refine aB (nt:=9) (rs:=[.tmp 2]) (n:=100000) Tryz.func69 rfl rfl rfl rfl (by simp) (S ?_)
 refine aj cs h (fun cs h=>S ?_) (fun cs h=>S ?_)
 ·cases run_some h
  exact ai SC
 ·cases run_some h
  exact ai SC

theorem impl_isVariable_sat{a0:ByteArray}  {r:Bool}(h:impl_isVariable a0=some r):Sat ah 43 [(Sx a0)] (B r):=by
 obtain⟨h,cs⟩:=az h
 unfold impl_isVariable at h
 refine aB (nt:=40) (rs:=[.tmp 2]) (n:=100000) Tryz.func43 rfl rfl rfl rfl (by simp) (S ?_)
 obtain⟨N2,hN2,h⟩:=run_bind h
 obtain⟨hN2a,hN2b⟩:=bnd_some hN2
 replace h:=run_loop h
 refine aV h (fun i2 s2=>[(0,.val (.pv (Sx a0))),(5,.val (.pv (I (a0.size:Int)))),(6,.val (.pv (I (i2:Int))))]) (fun i2 s2=>[]) (ao SC) (fun i2 s2 hi h=>?_) (fun s2 h=>?_)
 ·have w:=wrap_succ (i:=i2) (by omega)
  refine S ?_
  refine aP cs (by omega) (fun cs=>S ?_)
  refine aj cs h (fun cs h=>S ?_) (fun cs h=>S ?_)
  ·obtain⟨v14,hv14,h⟩:=run_bind h
   refine bp hv14 (S ?_)
   obtain⟨v15,hv15,h⟩:=run_bind h
   refine al [false] (impl_isUpper_sat hv15) SC (S ?_)
   refine aj cs h (fun cs h=>S ?_) (fun cs h=>S ?_)
   ·refine aj cs h (fun cs h=>S ?_) (fun cs h=>S ?_)
    ·obtain⟨v24,hv24,h⟩:=run_bind h
     refine bp hv24 (S ?_)
     obtain⟨v25,hv25,h⟩:=run_bind h
     refine al [false] (impl_isLower_sat hv25) SC (S ?_)
     refine aj cs h (fun cs h=>S ?_) (fun cs h=>S ?_)
     ·have h:=run_some h
      refine aC ⟨_,h,?_⟩
      exact ao SWx
     ·obtain⟨v31,hv31,h⟩:=run_bind h
      refine bp hv31 (S ?_)
      obtain⟨v32,hv32,h⟩:=run_bind h
      refine al [false] (impl_isDigit_sat hv32) SC (S ?_)
      refine aj cs h (fun cs h=>S ?_) (fun cs h=>S ?_)
      ·have h:=run_some h
       refine aC ⟨_,h,?_⟩
       exact ao SWx
      ·cases run_some h
       exact ai SC
    ·have h:=run_some h
     refine aC ⟨_,h,?_⟩
     exact ao SWx
   ·cases run_some h
    exact ai SC
  ·refine aj cs h (fun cs h=>S ?_) (fun cs h=>S ?_)
   ·obtain⟨v24,hv24,h⟩:=run_bind h
    refine bp hv24 (S ?_)
    obtain⟨v25,hv25,h⟩:=run_bind h
    refine al [false] (impl_isLower_sat hv25) SC (S ?_)
    refine aj cs h (fun cs h=>S ?_) (fun cs h=>S ?_)
    ·have h:=run_some h
     refine aC ⟨_,h,?_⟩
     exact ao SWx
    ·obtain⟨v31,hv31,h⟩:=run_bind h
     refine bp hv31 (S ?_)
     obtain⟨v32,hv32,h⟩:=run_bind h
     refine al [false] (impl_isDigit_sat hv32) SC (S ?_)
     refine aj cs h (fun cs h=>S ?_) (fun cs h=>S ?_)
     ·have h:=run_some h
      refine aC ⟨_,h,?_⟩
      exact ao SWx
     ·cases run_some h
      exact ai SC
   ·have h:=run_some h
    refine aC ⟨_,h,?_⟩
    exact ao SWx
 ·refine S ?_
  refine aQ cs (by omega) (fun cs=>S ?_)
  obtain⟨v39,hv39,h⟩:=run_bind h
  refine al [false,false,false] (impl_within_sat hv39) SC (S ?_)
  cases run_some h
  exact ai SC

theorem slices_IndexFunc_Simpl_Term_impl_Term_sat{a0:List Tt}{a1:Tt→Option Bool}{a1_id:FuncId}{a1_cs:List PV}(a1_ok:∀ y0 r,a1 y0=some r→Sat ah a1_id (((aq false) y0)::a1_cs) (B r))(a1_cz:CapsOk a1_cs=True){r:Int}(h:slices_IndexFunc_Simpl_Term_impl_Term a0 a1=some r):Sat ah 81 [(.sl false 2 (a0.map (aq false))),.clo a1_id a1_cs] (I r):=by
 obtain⟨h,cs⟩:=az h
 unfold slices_IndexFunc_Simpl_Term_impl_Term at h
 have cs:=aa a1_cz cs
 refine aB (nt:=19) (rs:=[.tmp 4]) (n:=100000) Tryz.func81 rfl rfl rfl rfl (by simp) (S ?_)
 refine bm (b:=false) (sz:=2) (es:=a0.map (aq false)) 0 SC fun hl0=>?_; rw[aG] at hl0
 replace h:=run_loop h
 refine aV h (fun i2 s2=>[(0,.val (.pv (.sl false 2 (a0.map (aq false))))),(1,.val (.pv (.clo a1_id a1_cs))),(7,.val (.pv (I (a0.length:Int)))),(8,.val (.pv (I (i2:Int))))]) (fun i2 s2=>[]) (ao SC) (fun i2 s2 hi h=>?_) (fun s2 h=>?_)
 ·have w:=wrap_succ (i:=i2) (by omega)
  refine S ?_
  refine aP cs (by omega) (fun cs=>S ?_)
  obtain⟨v14,hv14,h⟩:=run_bind h
  refine aA (f:=(aq false)) hv14 SC (S ?_)
  obtain⟨v16,hv16,h⟩:=run_bind h
  refine al [false] (a1_ok _ _ hv16) SC (S ?_)
  refine aj cs h (fun cs h=>S ?_) (fun cs h=>S ?_)
  ·cases run_some h
   exact ai SC
  ·have h:=run_some h
   refine aC ⟨_,h,?_⟩
   exact ao SWx
 ·refine S ?_
  refine aQ cs (by omega) (fun cs=>S ?_)
  cases run_some h
  exact ai SC

theorem slices_ContainsFunc_Simpl_Term_impl_Term_sat{a0:List Tt}{a1:Tt→Option Bool}{a1_id:FuncId}{a1_cs:List PV}(a1_ok:∀ y0 r,a1 y0=some r→Sat ah a1_id (((aq false) y0)::a1_cs) (B r))(a1_cz:CapsOk a1_cs=True){r:Bool}(h:slices_ContainsFunc_Simpl_Term_impl_Term a0 a1=some r):Sat ah 67 [(.sl false 2 (a0.map (aq false))),.clo a1_id a1_cs] (B r):=by
 obtain⟨h,cs⟩:=az h
 unfold slices_ContainsFunc_Simpl_Term_impl_Term at h
 have cs:=aa a1_cz cs
 refine aB (nt:=9) (rs:=[.tmp 4]) (n:=100000) Tryz.func67 rfl rfl rfl rfl (by simp) (S ?_)
 obtain⟨v7,hv7,h⟩:=run_bind h
 refine al [false,false] (slices_IndexFunc_Simpl_Term_impl_Term_sat a1_ok a1_cz hv7) SC (S ?_)
 cases run_some h
 exact ai SC

theorem impl_hasNamesN_sat(n:Nat):(∀ (a0:Tt) (r:Bool),impl_hasNamesN n a0=some r→Sat ah 42 [((aq false) a0)] (B r))∧(∀ (a0:Tt) (r:Bool),impl_hasNames_1N n a0=some r→Sat ah 68 [((aq false) a0)] (B r)):=by
 induction n with
 | zero=>exact⟨fun _ _ h=>by simp[impl_hasNamesN] at h,fun _ _ h=>by simp[impl_hasNames_1N] at h⟩
 | succ n ih=>
  refine⟨fun a0 r h=>?_,fun a0 r h=>?_⟩
  ·obtain⟨h,cs⟩:=az h
   rw[impl_hasNamesN] at h
   refine aB (nt:=25) (rs:=[.tmp 2]) (n:=100000) Tryz.func42 rfl rfl rfl rfl (by simp) (S ?_)
   obtain⟨v5,hv5,h⟩:=run_bind h
   refine al [false] (impl_isVariable_sat hv5) SC (S ?_)
   refine aj cs h (fun cs h=>S ?_) (fun cs h=>S ?_)
   ·cases run_some h
    exact ai SC
   ·obtain⟨v12,hv12,h⟩:=run_bind h
    refine al [false] (impl_isSymbol_sat hv12) SC (S ?_)
    refine aj cs h (fun cs h=>S ?_) (fun cs h=>S ?_)
    ·refine aj cs h (fun cs h=>S ?_) (fun cs h=>S ?_)
     ·obtain⟨v22,hv22,h⟩:=run_bind h
      refine al [false,false] (slices_ContainsFunc_Simpl_Term_impl_Term_sat (fun _ _ hh=>ih.2 _ _ hh) (by simp only[CapsOk_nil,CapsOk_cons]) hv22) SC (S ?_)
      cases run_some h
      exact ai SC
     ·cases run_some h
      exact ai SC
    ·cases run_some h
     exact ai SC
  ·obtain⟨h,cs⟩:=az h
   rw[impl_hasNames_1N] at h
   refine aB (nt:=6) (rs:=[.tmp 2]) (n:=100000) Tryz.func68 rfl rfl rfl rfl (by simp) (S ?_)
   obtain⟨v4,hv4,h⟩:=run_bind h
   refine al [false] (ih.1 _ _ hv4) SC (S ?_)
   cases run_some h
   exact ai SC
theorem impl_hasNames_sat{a0:Tt}{r:Bool}(h:impl_hasNames a0=some r):Sat ah 42 [((aq false) a0)] (B r):=by
 obtain⟨n,hn⟩:=lim_some h
 exact(impl_hasNamesN_sat n).1 _ _ hn
theorem impl_hasNames_1_sat{a0:Tt}{r:Bool}(h:impl_hasNames_1 a0=some r):Sat ah 68 [((aq false) a0)] (B r):=by
 obtain⟨n,hn⟩:=lim_some h
 exact(impl_hasNamesN_sat n).2 _ _ hn

theorem impl_IsValidTerm_sat{a0:Tt}  {r:Bool}(h:impl_IsValidTerm a0=some r):Sat ah 21 [((aq false) a0)] (B r):=by
 obtain⟨h,cs⟩:=az h
 unfold impl_IsValidTerm at h
 refine aB (nt:=9) (rs:=[.tmp 2]) (n:=100000) Tryz.func21 rfl rfl rfl rfl (by simp) (S ?_)
 obtain⟨v4,hv4,h⟩:=run_bind h
 refine al [false] (impl_isSmall_sat hv4) SC (S ?_)
 refine aj cs h (fun cs h=>S ?_) (fun cs h=>S ?_)
 ·obtain⟨v7,hv7,h⟩:=run_bind h
  refine al [false] (impl_hasNames_sat hv7) SC (S ?_)
  cases run_some h
  exact ai SC
 ·cases run_some h
  exact ai SC

theorem impl_IsValidLinear_sat{a0:Lt}  {r:Bool}(h:impl_IsValidLinear a0=some r):Sat ah 22 [((aM false) a0)] (B r):=by
 obtain⟨h,cs⟩:=az h
 unfold impl_IsValidLinear at h
 refine aB (nt:=59) (rs:=[.tmp 2]) (n:=100000) Tryz.func22 rfl rfl rfl rfl (by simp) (S ?_)
 refine aj cs h (fun cs h=>S ?_) (fun cs h=>S ?_)
 ·cases run_some h
  exact ai SC
 ·refine aj cs h (fun cs h=>S ?_) (fun cs h=>S ?_)
  ·obtain⟨v21,hv21,h⟩:=run_bind h
   refine al [false,false,false] (impl_within_sat hv21) SC (S ?_)
   refine aj cs h (fun cs h=>S ?_) (fun cs h=>S ?_)
   ·refine bm (b:=false) (sz:=1) (es:=a0.Vars.map Sx) 6 SC fun hl6=>?_; rw[aG] at hl6
    replace h:=run_loop h
    refine aV h (fun i4 s4=>[(1,.box (.pv ((aM false) a0))),(25,.val (.pv (.sl false 1 (a0.Vars.map Sx)))),(26,.val (.pv (I (a0.Vars.length:Int)))),(27,.val (.pv (I (i4:Int))))]) (fun i4 s4=>[]) (ao SC) (fun i4 s4 hi h=>?_) (fun s4 h=>?_)
    ·have w:=wrap_succ (i:=i4) (by omega)
     refine S ?_
     refine aP cs (by omega) (fun cs=>S ?_)
     obtain⟨v30,hv30,h⟩:=run_bind h
     refine aA (f:=Sx) hv30 SC (S ?_)
     obtain⟨v33,hv33,h⟩:=run_bind h
     refine al [false] (impl_isVariable_sat hv33) SC (S ?_)
     refine aj cs h (fun cs h=>S ?_) (fun cs h=>S ?_)
     ·refine aj cs h (fun cs h=>S ?_) (fun cs h=>S ?_)
      ·obtain⟨v44,hv44,h⟩:=run_bind h
       refine aA (f:=Sx) hv44 SC (S ?_)
       refine aj cs h (fun cs h=>S ?_) (fun cs h=>S ?_)
       ·cases run_some h
        exact ai SC
       ·obtain⟨v53,hv53,h⟩:=run_bind h
        refine aA (f:=I) hv53 SC (S ?_)
        obtain⟨v55,hv55,h⟩:=run_bind h
        refine al [false,false,false] (impl_within_sat hv55) SC (S ?_)
        refine aj cs h (fun cs h=>S ?_) (fun cs h=>S ?_)
        ·have h:=run_some h
         refine aC ⟨_,h,?_⟩
         exact ao SWx
        ·cases run_some h
         exact ai SC
      ·obtain⟨v53,hv53,h⟩:=run_bind h
       refine aA (f:=I) hv53 SC (S ?_)
       obtain⟨v55,hv55,h⟩:=run_bind h
       refine al [false,false,false] (impl_within_sat hv55) SC (S ?_)
       refine aj cs h (fun cs h=>S ?_) (fun cs h=>S ?_)
       ·have h:=run_some h
        refine aC ⟨_,h,?_⟩
        exact ao SWx
       ·cases run_some h
        exact ai SC
     ·cases run_some h
      exact ai SC
    ·refine S ?_
     refine aQ cs (by omega) (fun cs=>S ?_)
     cases run_some h
     exact ai SC
   ·cases run_some h
    exact ai SC
  ·cases run_some h
   exact ai SC

theorem impl_isVar_sat{a0:Tt}  {r:Bool}(h:impl_isVar a0=some r):Sat ah 44 [((aq false) a0)] (B r):=by
 obtain⟨h,cs⟩:=az h
 unfold impl_isVar at h
 refine aB (nt:=7) (rs:=[.tmp 2]) (n:=100000) Tryz.func44 rfl rfl rfl rfl (by simp) (S ?_)
 obtain⟨v5,hv5,h⟩:=run_bind h
 refine bp hv5 (S ?_)
 obtain⟨v6,hv6,h⟩:=run_bind h
 refine al [false] (impl_isUpper_sat hv6) SC (S ?_)
 cases run_some h
 exact ai SC

theorem cmp_Less_string_sat{a0:ByteArray}{a1:ByteArray}  {r:Bool}(h:cmp_Less_string a0 a1=some r):Sat ah 82 [(Sx a0),(Sx a1)] (B r):=by
 obtain⟨h,cs⟩:=az h
 unfold cmp_Less_string at h
 refine aB (nt:=17) (rs:=[.tmp 4]) (n:=100000) Tryz.func82 rfl rfl rfl rfl (by simp) (S ?_)
 obtain⟨v6,hv6,h⟩:=run_bind h
 refine al [false] (cmp_isNaN_string_sat hv6) SC (S ?_)
 refine aj cs h (fun cs h=>S ?_) (fun cs h=>S ?_)
 ·obtain⟨v9,hv9,h⟩:=run_bind h
  refine al [false] (cmp_isNaN_string_sat hv9) SC (S ?_)
  refine aj cs h (fun cs h=>S ?_) (fun cs h=>S ?_)
  ·cases run_some h
   exact ai SC
  ·cases run_some h
   exact ai SC
 ·cases run_some h
  exact ai SC

theorem slices_isNaN_string_sat{a0:ByteArray}  {r:Bool}(h:slices_isNaN_string a0=some r):Sat ah 83 [(Sx a0)] (B r):=by
 obtain⟨h,cs⟩:=az h
 unfold slices_isNaN_string at h
 refine aB (nt:=6) (rs:=[.tmp 2]) (n:=100000) Tryz.func83 rfl rfl rfl rfl (by simp) (S ?_)
 cases run_some h
 exact ai SC

theorem slices_BinarySearch_Sstring_string_sat{a0:List ByteArray}{a1:ByteArray}  {r:Int×Bool}(h:slices_BinarySearch_Sstring_string a0 a1=some r):Sat ah 70 [(.sl false 1 (a0.map Sx)),(Sx a1)] (.tup [(I r.1),(B r.2)]):=by
 obtain⟨h,cs⟩:=az h
 unfold slices_BinarySearch_Sstring_string at h
 refine aB (nt:=54) (rs:=[.tmp 4,.tmp 5]) (n:=100000) Tryz.func70 rfl rfl rfl rfl (by simp) (S ?_)
 replace h:=run_loop h
 refine Mg.whileN h (fun s3=>[(0,.val (.pv (.sl false 1 (a0.map Sx)))),(1,.val (.pv (Sx a1))),(6,.val (.pv (I (a0.length:Int)))),(7,.val (.pv (I s3.1))),(8,.val (.pv (I s3.2)))]) (fun s3=>[]) (ao SC) (fun n3 s3 h=>?_)
 refine S ?_
 refine aj cs h (fun cs h=>S ?_) (fun cs h=>S ?_)
 ·obtain⟨v20,hv20,h⟩:=run_bind h
  refine ShrH.mk hv20 (S ?_)
  obtain⟨v24,hv24,h⟩:=run_bind h
  refine aA (f:=Sx) hv24 SC (S ?_)
  obtain⟨v27,hv27,h⟩:=run_bind h
  refine al [false,false] (cmp_Less_string_sat hv27) SC (S ?_)
  refine aj cs h (fun cs h=>S ?_) (fun cs h=>S ?_)
  ·have h:=run_some h
   refine aC ⟨_,h,?_⟩
   exact ao SC
  ·have h:=run_some h
   refine aC ⟨_,h,?_⟩
   exact ao SC
 ·have h:=run_some h
  refine aj cs h (fun cs h=>S ?_) (fun cs h=>S ?_)
  ·obtain⟨v38,hv38,h⟩:=run_bind h
   refine aA (f:=Sx) hv38 SC (S ?_)
   refine aj cs h (fun cs h=>S ?_) (fun cs h=>S ?_)
   ·cases run_some h
    exact ai SC
   ·obtain⟨v45,hv45,h⟩:=run_bind h
    refine aA (f:=Sx) hv45 SC (S ?_)
    obtain⟨v47,hv47,h⟩:=run_bind h
    refine al [false] (slices_isNaN_string_sat hv47) SC (S ?_)
    refine aj cs h (fun cs h=>S ?_) (fun cs h=>S ?_)
    ·obtain⟨v50,hv50,h⟩:=run_bind h
     refine al [false] (slices_isNaN_string_sat hv50) SC (S ?_)
     cases run_some h
     exact ai SC
    ·cases run_some h
     exact ai SC
  ·cases run_some h
   exact ai SC

theorem impl_Linear__slope_sat{a0:Lt}{a1:ByteArray}  {r:Int}(h:impl_Linear__slope a0 a1=some r):Sat ah 45 [((aM false) a0),(Sx a1)] (I r):=by
 obtain⟨h,cs⟩:=az h
 unfold impl_Linear__slope at h
 refine aB (nt:=21) (rs:=[.tmp 4]) (n:=100000) Tryz.func45 rfl rfl rfl rfl (by simp) (S ?_)
 obtain⟨v11,hv11,h⟩:=run_bind h
 refine al [false,false] (slices_BinarySearch_Sstring_string_sat hv11) SC (S ?_)
 refine aj cs h (fun cs h=>S ?_) (fun cs h=>S ?_)
 ·obtain⟨v19,hv19,h⟩:=run_bind h
  refine aA (f:=I) hv19 SC (S ?_)
  cases run_some h
  exact ai SC
 ·cases run_some h
  exact ai SC

theorem impl_majorant_1_sat{a0:Mt}{b0:Tt}  {r:Bool}(h:impl_majorant_1 a0 b0=some r):Sat ah 72 [((aD false) a0),.ptr ((aq false) b0)] (B r):=by
 obtain⟨h,cs⟩:=az h
 unfold impl_majorant_1 at h
 refine aB (nt:=18) (rs:=[.tmp 3]) (n:=100000) Tryz.func72 rfl rfl rfl rfl (by simp) (S ?_)
 refine aj cs h (fun cs h=>S ?_) (fun cs h=>S ?_)
 ·cases run_some h
  exact ai SC
 ·cases run_some h
  exact ai SC

theorem slices_IndexFunc_Simpl_Majorant_impl_Majorant_sat{a0:List Mt}{a1:Mt→Option Bool}{a1_id:FuncId}{a1_cs:List PV}(a1_ok:∀ y0 r,a1 y0=some r→Sat ah a1_id (((aD false) y0)::a1_cs) (B r))(a1_cz:CapsOk a1_cs=True){r:Int}(h:slices_IndexFunc_Simpl_Majorant_impl_Majorant a0 a1=some r):Sat ah 71 [(.sl false 3 (a0.map (aD false))),.clo a1_id a1_cs] (I r):=by
 obtain⟨h,cs⟩:=az h
 unfold slices_IndexFunc_Simpl_Majorant_impl_Majorant at h
 have cs:=aa a1_cz cs
 refine aB (nt:=19) (rs:=[.tmp 4]) (n:=100000) Tryz.func71 rfl rfl rfl rfl (by simp) (S ?_)
 refine bm (b:=false) (sz:=3) (es:=a0.map (aD false)) 0 SC fun hl0=>?_; rw[aG] at hl0
 replace h:=run_loop h
 refine aV h (fun i2 s2=>[(0,.val (.pv (.sl false 3 (a0.map (aD false))))),(1,.val (.pv (.clo a1_id a1_cs))),(7,.val (.pv (I (a0.length:Int)))),(8,.val (.pv (I (i2:Int))))]) (fun i2 s2=>[]) (ao SC) (fun i2 s2 hi h=>?_) (fun s2 h=>?_)
 ·have w:=wrap_succ (i:=i2) (by omega)
  refine S ?_
  refine aP cs (by omega) (fun cs=>S ?_)
  obtain⟨v14,hv14,h⟩:=run_bind h
  refine aA (f:=(aD false)) hv14 SC (S ?_)
  obtain⟨v16,hv16,h⟩:=run_bind h
  refine al [false] (a1_ok _ _ hv16) SC (S ?_)
  refine aj cs h (fun cs h=>S ?_) (fun cs h=>S ?_)
  ·cases run_some h
   exact ai SC
  ·have h:=run_some h
   refine aC ⟨_,h,?_⟩
   exact ao SWx
 ·refine S ?_
  refine aQ cs (by omega) (fun cs=>S ?_)
  cases run_some h
  exact ai SC

theorem impl_majorant_sat{a0:List Mt}{a1:Tt}  {r:Int}(h:impl_majorant a0 a1=some r):Sat ah 46 [(.sl false 3 (a0.map (aD false))),((aq false) a1)] (I r):=by
 obtain⟨h,cs⟩:=az h
 unfold impl_majorant at h
 refine aB (nt:=8) (rs:=[.tmp 4]) (n:=100000) Tryz.func46 rfl rfl rfl rfl (by simp) (S ?_)
 refine MfH.fr (S ?_)
 obtain⟨v7,hv7,h⟩:=run_bind h
 refine al [false,false] (slices_IndexFunc_Simpl_Majorant_impl_Majorant_sat (fun _ _ hh=>impl_majorant_1_sat hh) (by simp only[CapsOk_nil,CapsOk_cons]) hv7) SC (S ?_)
 cases run_some h
 exact ai SC

theorem impl_cappedValueN_sat(n:Nat):(∀ (a0:List Mt) (a1:List Int) (a2:Tt) (a3:Lt) (r:Int×Bool),impl_cappedValueN n a0 a1 a2 a3=some r→Sat ah 23 [(.sl false 3 (a0.map (aD false))),(.sl false 1 (a1.map I)),((aq false) a2),((aM false) a3)] (.tup [(I r.1),(B r.2)])):=by
 induction n with
 | zero=>exact fun _ _ _ _ _ h=>by simp[impl_cappedValueN] at h
 | succ n ih=>
  refine fun a0 a1 a2 a3 r h=>?_
  obtain⟨h,cs⟩:=az h
  rw[impl_cappedValueN] at h
  refine aB (nt:=69) (rs:=[.tmp 8,.tmp 9]) (n:=100000) Tryz.func23 rfl rfl rfl rfl (by simp) (S ?_)
  obtain⟨v17,hv17,h⟩:=run_bind h
  refine al [false] (impl_isVar_sat hv17) SC (S ?_)
  refine aj cs h (fun cs h=>S ?_) (fun cs h=>S ?_)
  ·obtain⟨v21,hv21,h⟩:=run_bind h
   refine al [false,false] (impl_Linear__slope_sat hv21) SC (S ?_)
   cases run_some h
   exact ai SC
  ·obtain⟨v24,hv24,h⟩:=run_bind h
   refine al [false,false] (impl_majorant_sat hv24) SC (S ?_)
   refine aj cs h (fun cs h=>S ?_) (fun cs h=>S ?_)
   ·cases run_some h
    exact ai SC
   ·obtain⟨v29,hv29,h⟩:=run_bind h
    refine aA (f:=(aD false)) hv29 SC (S ?_)
    refine bm (b:=false) (sz:=2) (es:=a2.Args.map (aq false)) 33 SC fun hl33=>?_; rw[aG] at hl33
    replace h:=run_loop h
    refine aV h (fun i8 s8=>[(0,.val (.pv (.sl false 3 (a0.map (aD false))))),(1,.val (.pv (.sl false 1 (a1.map I)))),(7,.box (.pv ((aM false) a3))),(10,.val (.pv (I v24))),(11,.val (.pv (I s8))),(33,.val (.pv (.sl false 2 (a2.Args.map (aq false))))),(34,.val (.pv (I (a2.Args.length:Int)))),(35,.val (.pv (I (i8:Int))))]) (fun i8 s8=>[]) (ao SC) (fun i8 s8 hi h=>?_) (fun s8 h=>?_)
    ·have w:=wrap_succ (i:=i8) (by omega)
     refine S ?_
     refine aP cs (by omega) (fun cs=>S ?_)
     obtain⟨v38,hv38,h⟩:=run_bind h
     refine aA (f:=(aq false)) hv38 SC (S ?_)
     obtain⟨v45,hv45,h⟩:=run_bind h
     refine al [false,false,false,false] (ih _ _ _ _ _ hv45) SC (S ?_)
     refine aj cs h (fun cs h=>S ?_) (fun cs h=>S ?_)
     ·obtain⟨v54,hv54,h⟩:=run_bind h
      refine aA (f:=(aD false)) hv54 SC (S ?_)
      obtain⟨v58,hv58,h⟩:=run_bind h
      refine aA (f:=I) hv58 SC (S ?_)
      have h:=run_some h
      refine aC ⟨_,h,?_⟩
      exact ao SWx
     ·cases run_some h
      exact ai SC
    ·refine S ?_
     refine aQ cs (by omega) (fun cs=>S ?_)
     obtain⟨v66,hv66,h⟩:=run_bind h
     refine aA (f:=I) hv66 SC (S ?_)
     cases run_some h
     exact ai SC
theorem impl_cappedValue_sat{a0:List Mt}{a1:List Int}{a2:Tt}{a3:Lt}{r:Int×Bool}(h:impl_cappedValue a0 a1 a2 a3=some r):Sat ah 23 [(.sl false 3 (a0.map (aD false))),(.sl false 1 (a1.map I)),((aq false) a2),((aM false) a3)] (.tup [(I r.1),(B r.2)]):=by
 obtain⟨n,hn⟩:=lim_some h
 exact(impl_cappedValueN_sat n) _ _ _ _ _ hn

theorem impl_CappedValue_sat{a0:List Mt}{a1:List Int}{a2:Tt}{a3:Lt}  {r:Int×Bool}(h:impl_CappedValue a0 a1 a2 a3=some r):Sat ah 6 [(.sl false 3 (a0.map (aD false))),(.sl false 1 (a1.map I)),((aq false) a2),((aM false) a3)] (.tup [(I r.1),(B r.2)]):=by
 obtain⟨h,cs⟩:=az h
 unfold impl_CappedValue at h
 refine aB (nt:=41) (rs:=[.tmp 8,.tmp 9]) (n:=100000) Tryz.func6 rfl rfl rfl rfl (by simp) (S ?_)
 obtain⟨v11,hv11,h⟩:=run_bind h
 refine al [false] (impl_IsValidMajorants_sat hv11) SC (S ?_)
 refine aj cs h (fun cs h=>S ?_) (fun cs h=>S ?_)
 ·refine aj cs h (fun cs h=>S ?_) (fun cs h=>S ?_)
  ·obtain⟨v22,hv22,h⟩:=run_bind h
   refine al [false,false] (slices_ContainsFunc_Sint_int_sat (fun _ _ hh=>impl_CappedValue_1_sat hh) (by simp only[CapsOk_nil,CapsOk_cons]) hv22) SC (S ?_)
   refine aj cs h (fun cs h=>S ?_) (fun cs h=>S ?_)
   ·cases run_some h
    exact ai SC
   ·obtain⟨v26,hv26,h⟩:=run_bind h
    refine al [false] (impl_IsValidTerm_sat hv26) SC (S ?_)
    refine aj cs h (fun cs h=>S ?_) (fun cs h=>S ?_)
    ·obtain⟨v31,hv31,h⟩:=run_bind h
     refine al [false] (impl_IsValidLinear_sat hv31) SC (S ?_)
     refine aj cs h (fun cs h=>S ?_) (fun cs h=>S ?_)
     ·obtain⟨v38,hv38,h⟩:=run_bind h
      refine al [false,false,false,false] (impl_cappedValue_sat hv38) SC (S ?_)
      cases run_some h
      exact ai SC
     ·cases run_some h
      exact ai SC
    ·cases run_some h
     exact ai SC
  ·cases run_some h
   exact ai SC
 ·cases run_some h
  exact ai SC

theorem impl_Linear__add_sat{a0:Lt}{a1:GMap Int}{a2:Int}  {r:Int×(GMap Int)}(h:impl_Linear__add a0 a1 a2=some r):SatH ah 47 [((aM false) a0)] [(I a2)] .mp [] (.mp (gmap I a1.es) a1.clock) (.mp (gmap I r.2.es) r.2.clock) (I r.1):=by
 obtain⟨h,cs⟩:=az h
 unfold impl_Linear__add at h
 refine SatH.of_k (nt:=33) (rs:=[.tmp 6]) (n:=100000) 1 Tryz.func47 rfl rfl rfl rfl rfl (bf rfl) (by decide) (by first | exact bf rfl | exact SC) (S ?_)
 refine bm (b:=false) (sz:=1) (es:=a0.Vars.map Sx) 10 SC fun hl10=>?_; rw[aG] at hl10
 replace h:=run_loop h
 refine aV h (fun i2 s2=>[(1,.hold .mp [] (.mp (gmap I (s2).es) (s2).clock)),(2,.val (.pv (I a2))),(3,.box (.pv ((aM false) a0))),(10,.val (.pv (.sl false 1 (a0.Vars.map Sx)))),(11,.val (.pv (I (a0.Vars.length:Int)))),(12,.val (.pv (I (i2:Int)))),(20000,gh 1)]) (fun i2 s2=>[]) (ao SC) (fun i2 s2 hi h=>?_) (fun s2 h=>?_)
 ·have w:=wrap_succ (i:=i2) (by omega)
  refine S ?_
  refine aP cs (by omega) (fun cs=>S ?_)
  obtain⟨v15,hv15,h⟩:=run_bind h
  refine aA (f:=Sx) hv15 SC (S ?_)
  refine HandH.lookup (E:=3) (r:=1) (sh:=.mp) (ps:=[]) (m:=s2) (f:=I) (k:=v15) (z0:=0) mt_63 mz_3 SC (S ?_)
  obtain⟨v24,hv24,h⟩:=run_bind h
  refine aA (f:=I) hv24 SC (S ?_)
  refine HandH.put (E:=3) (r:=1) (sh:=.mp) (ps:=[]) (m:=s2) (f:=I) (k:=v15) (v0:=IntKind.i64.wrap ((GMap.get s2 v15 (0:Int))+(IntKind.i64.wrap (a2*v24)))) (c:=(.pv (I (IntKind.i64.wrap ((GMap.get s2 v15 (0:Int))+(IntKind.i64.wrap (a2*v24))))))) mt_63 SC (S ?_)
  refine aa (aU [] []) (S ?_)
  have h:=run_some h
  refine aC ⟨_,h,?_⟩
  exact ao SWx
 ·refine S ?_
  refine aQ cs (by omega) (fun cs=>S ?_)
  cases run_some h
  exact aS SC


theorem impl_linearR_sat{a0:GMap Int}{a1:Int}{r:Lt×Bool}(h:∀ ord,ord.Perm a0.es→impl_linearR ord a0 a1=some r):SatH ah 48 [] [(I a1)] .mp [] (.mp (gmap I a0.es) a0.clock) (.mp (gmap I a0.es) a0.clock) (.tup [((aM true) r.1),(B r.2)]):=by
 have cs:Dum=true:=rfl
 replace h:=fun ord ho=>Run.of (h ord ho)
 simp only[impl_linearR] at h
 refine SatH.of_ki (nt:=52) (rs:=[.cell 4 31,.tmp 5]) (n:=100000) 0 Tryz.func48 rfl rfl rfl rfl rfl (bf rfl) (by decide) (by first | exact bf rfl | exact SC) (S ?_)
 refine aH (S ?_)
 refine aH (S ?_)
 refine VSeq.nil (Nat.le_of_eq rfl) (S ?_)
 refine aH (S ?_)
 refine aH (S ?_)
 refine aH (S ?_)
 refine aH (S ?_)
 refine VSeq.nil (Nat.le_of_eq rfl) (S ?_)
 refine aH (S ?_)
 refine aH (S ?_)
 refine HandH.range (E:=3) (r:=0) (sh:=.mp) (ps:=[]) (m:=a0) (f:=I) mt_63 SC (S ?_)
 refine VSeq.nil (Nat.le_of_eq rfl) (S ?_)
 replace h:=fun ord ho=>run_loop (h ord ho)
 refine MgI.range (fun e=>e.2.2) h (fun pre3 s3=>[(0,.hold .mp [] (.mp (gmap I (a0).es) (a0).clock)),(4,.box zab0),(6,.box (.node [(.own 9309),(.pv (.sl true 1 [])),(.pv (I a1))])),(14,.hold .ptr [] (.it 0 (a0).clock (pre3.map fun e=>e.2.2) (a0).clock)),(20000,gh 0)]) (fun pre3 s3=>[(9309,(1,s3.map Sx))]) (bC (St.le_nilB (x:=(.node [(.pv (.sl true 1 [])),(.pv (.sl true 1 [])),(.pv (I a1))])) 6 [0] 9309 1 NM SC SC SC) (ao SC)) (fun pre3 s3 hI3=>?_)
 refine S ?_
 refine VSeq.next (r:=0) (kt:=14) (m:=a0) (f:=I) (seen:=pre3.map fun e=>e.2.2) (sh:=.mp) (ps:=[]) rfl rfl rfl rfl (by decide) (by decide) rfl SC (fun hd3 ha3=>?_) (fun e3 he3 hn3=>?_)
 ·replace h:=RngI.done hI3 hd3 ha3
  refine aH (S ?_)
  refine VSeq.nil (Nat.le_of_eq rfl) (S ?_)
  refine aH (S ?_)
  refine aH (S ?_)
  refine aH (S ?_)
  obtain⟨v30,hv30,h⟩:=run_bind h
  refine CallH.io0 [(.own 9309)] [(9309,(1,v30.2.map Sx))] (slices_SortS_sat hv30) SC (S ?_)
  refine VSeq.nil (Nat.le_of_eq rfl) (S ?_)
  refine aH (S ?_)
  refine aH (S ?_)
  refine aH (S ?_)
  refine aH (S ?_)
  refine VSeq.nil (Nat.le_of_eq rfl) (S ?_)
  refine MgI.know_own (sz:=1) (es:=v30.2.map Sx) 9309 SC fun hl9309=>?_; rw[aG] at hl9309
  replace h:=run_loop h
  refine MgI.forN h (fun i9 s9=>[(0,.hold .mp [] (.mp (gmap I (a0).es) (a0).clock)),(4,.box zab0),(6,.box (.node [(.own 9309),(.own 9327),(.pv (I a1))])),(32,.val (.own 9309)),(33,.val (.pv (I (v30.2.length:Int)))),(34,.val (.pv (I (i9:Int)))),(20000,gh 0)]) (fun i9 s9=>[(9309,(1,v30.2.map Sx)),(9327,(1,s9.map I))]) (bC (St.le_nilB (x:=(.node [(.own 9309),(.pv (.sl true 1 [])),(.pv (I a1))])) 6 [1] 9327 1 NM SC SC SC) (ao SC)) (fun i9 s9 hi h=>?_) (fun s9 h=>?_)
  ·have w:=wrap_succ (i:=i9) (by omega)
   refine S ?_
   refine aH (S ?_)
   refine VSeq.nil (Nat.le_of_eq rfl) (S ?_)
   refine aP cs (by omega) (fun cs=>S ?_)
   refine aH (S ?_)
   obtain⟨v36,hv36,h⟩:=run_bind h
   refine aA (f:=Sx) hv36 SC (S ?_)
   refine aH (S ?_)
   obtain⟨v37,hv37,h⟩:=run_bind h
   refine EldH.mk (f:=Sx) hv37 rfl SC (S ?_)
   refine aH (S ?_)
   refine VSeq.nil (Nat.le_of_eq rfl) (S ?_)
   refine aH (S ?_)
   refine aH (S ?_)
   refine aH (S ?_)
   refine aH (S ?_)
   refine aH (S ?_)
   refine HandH.lookup (E:=3) (r:=0) (sh:=.mp) (ps:=[]) (m:=a0) (f:=I) (k:=v37) (z0:=0) mt_63 mz_3 SC (S ?_)
   refine aH (S ?_)
   refine aH (S ?_)
   obtain⟨v44,hv44,h⟩:=run_bind h
   refine ba (f:=I) (fun _=>rfl) hv44 SC SC (S ?_)
   refine aH (S ?_)
   refine aH (S ?_)
   refine VSeq.nil (Nat.le_of_eq rfl) (S ?_)
   refine aH (S ?_)
   refine aH (S ?_)
   refine VSeq.nil (Nat.le_of_eq rfl) (S ?_)
   have h:=run_some h
   refine aC ⟨_,h,?_⟩
   refine St.le_rt 704 9327 ?_
   exact ao SWx
  ·refine S ?_
   refine aH (S ?_)
   refine VSeq.nil (Nat.le_of_eq rfl) (S ?_)
   refine aQ cs (by omega) (fun cs=>S ?_)
   refine aH (S ?_)
   refine aH (S ?_)
   obtain⟨v48,hv48,h⟩:=run_bind h
   refine al [false] (impl_IsValidLinear_sat hv48) SC (S ?_)
   refine aH (S ?_)
   refine VSeq.nil (Nat.le_of_eq rfl) (S ?_)
   refine aj cs h (fun cs h=>S ?_) (fun cs h=>S ?_)
   ·refine aH (S ?_)
    refine aH (S ?_)
    refine aH (S ?_)
    refine VSeq.nil (Nat.le_of_eq rfl) (S ?_)
    cases run_some h
    exact aS SC
   ·refine aH (S ?_)
    refine aH (S ?_)
    refine aH (S ?_)
    refine VSeq.nil (Nat.le_of_eq rfl) (S ?_)
    cases run_some h
    exact aS SC
 ·replace h:=RngI.pick (key:=fun e=>e.2.2) hI3 he3 hn3
  refine aH (S ?_)
  refine VSeq.nil (Nat.le_of_eq rfl) (S ?_)
  refine aH (S ?_)
  refine HandH.entry (kt:=14) (r:=0) (sh:=.mp) (ps:=[]) (m:=a0) (f:=I) (e:=e3) (s0:=pre3.map fun e=>e.2.2) he3 SC (S ?_)
  refine aH (S ?_)
  refine aH (S ?_)
  refine aH (S ?_)
  refine aH (S ?_)
  refine VSeq.nil (Nat.le_of_eq rfl) (S ?_)
  refine aH (S ?_)
  refine aH (S ?_)
  refine VSeq.nil (Nat.le_of_eq rfl) (S ?_)
  refine aj cs h (fun cs h=>S ?_) (fun cs h=>S ?_)
  ·have h:=run_some h
   refine aC ⟨_,e3,he3,hn3,h,?_⟩
   exact ao SC
  ·refine aH (S ?_)
   refine aH (S ?_)
   refine aH (S ?_)
   refine aH (S ?_)
   refine aH (S ?_)
   obtain⟨v26,hv26,h⟩:=run_bind h
   refine ba (f:=Sx) (fun _=>rfl) hv26 SC SC (S ?_)
   refine aH (S ?_)
   refine aH (S ?_)
   refine VSeq.nil (Nat.le_of_eq rfl) (S ?_)
   have h:=run_some h
   refine aC ⟨_,e3,he3,hn3,h,?_⟩
   refine St.le_rt 416 9309 ?_
   exact ao SC
theorem impl_linear_sat{a0:GMap Int}{a1:Int}{r:Lt×Bool}(h:impl_linear a0 a1=some r):SatH ah 48 [] [(I a1)] .mp [] (.mp (gmap I a0.es) a0.clock) (.mp (gmap I a0.es) a0.clock) (.tup [((aM true) r.1),(B r.2)]):=impl_linearR_sat fun ord ho=>linear_ord ho h

theorem impl_boundOfN_sat(n:Nat):(∀ (a0:List Mt) (a1:Tt) (r:Lt×Bool),impl_boundOfN n a0 a1=some r→Sat ah 24 [(.sl false 3 (a0.map (aD false))),((aq false) a1)] (.tup [((aM true) r.1),(B r.2)])):=by
 induction n with
 | zero=>exact fun _ _ _ h=>by simp[impl_boundOfN] at h
 | succ n ih=>
  refine fun a0 a1 r h=>?_
  obtain⟨h,cs⟩:=az h
  rw[impl_boundOfN] at h
  refine aB (nt:=68) (rs:=[.cell 4 31,.tmp 5]) (n:=100000) Tryz.func24 rfl rfl rfl rfl (by simp) (S ?_)
  obtain⟨v14,hv14,h⟩:=run_bind h
  refine al [false] (impl_isVar_sat hv14) SC (S ?_)
  refine aj cs h (fun cs h=>S ?_) (fun cs h=>S ?_)
  ·cases run_some h
   exact ai SC
  ·obtain⟨v22,hv22,h⟩:=run_bind h
   refine al [false,false] (impl_majorant_sat hv22) SC (S ?_)
   refine aj cs h (fun cs h=>S ?_) (fun cs h=>S ?_)
   ·cases run_some h
    exact ai SC
   ·refine HandH.makeMap (α:=Int) I (by decide) (S ?_)
    obtain⟨v29,hv29,h⟩:=run_bind h
    refine aA (f:=(aD false)) hv29 SC (S ?_)
    refine bm (b:=false) (sz:=2) (es:=a1.Args.map (aq false)) 33 SC fun hl33=>?_; rw[aG] at hl33
    replace h:=run_loop h
    refine aV h (fun i9 s9=>[(0,.val (.pv (.sl false 3 (a0.map (aD false))))),(4,.box zab0),(6,.val (.pv (I v22))),(7,.hptr 26 .mp []),(8,.val (.pv (I s9.1))),(26,.hold .mp [] (.mp (gmap I (s9.2).es) (s9.2).clock)),(33,.val (.pv (.sl false 2 (a1.Args.map (aq false))))),(34,.val (.pv (I (a1.Args.length:Int)))),(35,.val (.pv (I (i9:Int))))]) (fun i9 s9=>[]) (ao SC) (fun i9 s9 hi h=>?_) (fun s9 h=>?_)
    ·have w:=wrap_succ (i:=i9) (by omega)
     refine S ?_
     refine aP cs (by omega) (fun cs=>S ?_)
     obtain⟨v38,hv38,h⟩:=run_bind h
     refine aA (f:=(aq false)) hv38 SC (S ?_)
     obtain⟨v43,hv43,h⟩:=run_bind h
     refine al [false,false] (ih _ _ _ hv43) SC (S ?_)
     refine aj cs h (fun cs h=>S ?_) (fun cs h=>S ?_)
     ·obtain⟨v54,hv54,h⟩:=run_bind h
      refine aA (f:=(aD false)) hv54 SC (S ?_)
      obtain⟨v58,hv58,h⟩:=run_bind h
      refine aA (f:=I) hv58 SC (S ?_)
      obtain⟨v60,hv60,h⟩:=run_bind h
      refine HandH.callV (r:=26) (hc:=.mp (gmap I (s9.2).es) (s9.2).clock) 1 [_] [_] [(.node [(.own 688),(.own 689),(.pv (I v43.1.Constant))])] [(.pv (I v58))] [false,false] (fun _=>rfl) (impl_Linear__add_sat hv60) rfl rfl rfl SC (S ?_)
      refine aa (aU [] []) (S ?_)
      have h:=run_some h
      refine aC ⟨_,h,?_⟩
      exact ao SWx
     ·cases run_some h
      exact ai SC
    ·refine S ?_
     refine aQ cs (by omega) (fun cs=>S ?_)
     obtain⟨v65,hv65,h⟩:=run_bind h
     refine aJ (r:=26) (hc:=.mp (gmap I (s9.2).es) (s9.2).clock) 0 [] [_] [] [(.pv (I s9.1))] [false] (impl_linear_sat hv65) rfl rfl rfl SC (S ?_)
     cases run_some h
     exact ai SC
theorem impl_boundOf_sat{a0:List Mt}{a1:Tt}{r:Lt×Bool}(h:impl_boundOf a0 a1=some r):Sat ah 24 [(.sl false 3 (a0.map (aD false))),((aq false) a1)] (.tup [((aM true) r.1),(B r.2)]):=by
 obtain⟨n,hn⟩:=lim_some h
 exact(impl_boundOfN_sat n) _ _ _ hn

theorem impl_MajorantOf_sat{a0:List Mt}{a1:Tt}  {r:Lt×Bool}(h:impl_MajorantOf a0 a1=some r):Sat ah 7 [(.sl false 3 (a0.map (aD false))),((aq false) a1)] (.tup [((aM true) r.1),(B r.2)]):=by
 obtain⟨h,cs⟩:=az h
 unfold impl_MajorantOf at h
 refine aB (nt:=20) (rs:=[.cell 4 31,.tmp 5]) (n:=100000) Tryz.func7 rfl rfl rfl rfl (by simp) (S ?_)
 obtain⟨v7,hv7,h⟩:=run_bind h
 refine al [false] (impl_IsValidMajorants_sat hv7) SC (S ?_)
 refine aj cs h (fun cs h=>S ?_) (fun cs h=>S ?_)
 ·obtain⟨v11,hv11,h⟩:=run_bind h
  refine al [false] (impl_IsValidTerm_sat hv11) SC (S ?_)
  refine aj cs h (fun cs h=>S ?_) (fun cs h=>S ?_)
  ·obtain⟨v17,hv17,h⟩:=run_bind h
   refine al [false,false] (impl_boundOf_sat hv17) SC (S ?_)
   cases run_some h
   exact ai SC
  ·cases run_some h
   exact ai SC
 ·cases run_some h
  exact ai SC

theorem spec_l1In_sat{a0:Int}{a1:Int}{a2:Int}  {r:Bool}(h:spec_l1In a0 a1 a2=some r):Sat ah 28 [(I a0),(I a1),(I a2)] (B r):=by
 obtain⟨h,cs⟩:=az h
 unfold spec_l1In at h
 refine aB (nt:=15) (rs:=[.tmp 6]) (n:=100000) Tryz.func28 rfl rfl rfl rfl (by simp) (S ?_)
 refine aj cs h (fun cs h=>S ?_) (fun cs h=>S ?_)
 ·cases run_some h
  exact ai SC
 ·cases run_some h
  exact ai SC

theorem spec_l2Small_sat{a0:Int}  {r:Bool}(h:spec_l2Small a0=some r):Sat ah 74 [((Ik .u8) a0)] (B r):=by
 obtain⟨h,cs⟩:=az h
 unfold spec_l2Small at h
 refine aB (nt:=17) (rs:=[.tmp 2]) (n:=100000) Tryz.func74 rfl rfl rfl rfl (by simp) (S ?_)
 refine aj cs h (fun cs h=>S ?_) (fun cs h=>S ?_)
 ·refine aj cs h (fun cs h=>S ?_) (fun cs h=>S ?_)
  ·cases run_some h
   exact ai SC
  ·refine aj cs h (fun cs h=>S ?_) (fun cs h=>S ?_)
   ·cases run_some h
    exact ai SC
   ·cases run_some h
    exact ai SC
 ·refine aj cs h (fun cs h=>S ?_) (fun cs h=>S ?_)
  ·cases run_some h
   exact ai SC
  ·cases run_some h
   exact ai SC

theorem spec_l2Symbol_sat{a0:ByteArray}  {r:Bool}(h:spec_l2Symbol a0=some r):Sat ah 49 [(Sx a0)] (B r):=by
 obtain⟨h,cs⟩:=az h
 unfold spec_l2Symbol at h
 refine aB (nt:=45) (rs:=[.tmp 2]) (n:=100000) Tryz.func49 rfl rfl rfl rfl (by simp) (S ?_)
 obtain⟨v6,hv6,h⟩:=run_bind h
 refine al [false,false,false] (spec_l1In_sat hv6) SC (S ?_)
 refine aj cs h (fun cs h=>S ?_) (fun cs h=>S ?_)
 ·obtain⟨v10,hv10,h⟩:=run_bind h
  refine bp hv10 (S ?_)
  refine aj cs h (fun cs h=>S ?_) (fun cs h=>S ?_)
  ·cases run_some h
   exact ai SC
  ·obtain⟨v15,hv15,h⟩:=run_bind h
   refine bp hv15 (S ?_)
   refine aj cs h (fun cs h=>S ?_) (fun cs h=>S ?_)
   ·cases run_some h
    exact ai SC
   ·refine aj cs h (fun cs h=>S ?_) (fun cs h=>S ?_)
    ·cases run_some h
     exact ai SC
    ·refine aj cs h (fun cs h=>S ?_) (fun cs h=>S ?_)
     ·cases run_some h
      exact ai SC
     ·refine aj cs h (fun cs h=>S ?_) (fun cs h=>S ?_)
      ·cases run_some h
       exact ai SC
      ·refine aj cs h (fun cs h=>S ?_) (fun cs h=>S ?_)
       ·cases run_some h
        exact ai SC
       ·refine aj cs h (fun cs h=>S ?_) (fun cs h=>S ?_)
        ·cases run_some h
         exact ai SC
        ·refine aj cs h (fun cs h=>S ?_) (fun cs h=>S ?_)
         ·cases run_some h
          exact ai SC
         ·refine aj cs h (fun cs h=>S ?_) (fun cs h=>S ?_)
          ·cases run_some h
           exact ai SC
          ·refine aj cs h (fun cs h=>S ?_) (fun cs h=>S ?_)
           ·cases run_some h
            exact ai SC
           ·obtain⟨N14,hN14,h⟩:=run_bind h
            obtain⟨hN14a,hN14b⟩:=bnd_some hN14
            replace h:=run_loop h
            refine Mg.forA (N:=N14) (a:=1) h (fun i14 s14=>[(0,.val (.pv (Sx a0))),(3,.val (.pv (I (i14:Int))))]) (fun i14 s14=>[]) (ao SC) (fun i14 s14 hi hj h=>?_) (fun j14 s14 hj h=>?_)
            ·have w:=wrap_succ (i:=i14) (by omega)
             refine S ?_
             refine aP cs (by omega) (fun cs=>S ?_)
             obtain⟨v36,hv36,h⟩:=run_bind h
             refine bp hv36 (S ?_)
             obtain⟨v37,hv37,h⟩:=run_bind h
             refine al [false] (spec_l2Small_sat hv37) SC (S ?_)
             refine aj cs h (fun cs h=>S ?_) (fun cs h=>S ?_)
             ·have h:=run_some h
              refine aC ⟨_,h,?_⟩
              exact ao SWx
             ·obtain⟨v42,hv42,h⟩:=run_bind h
              refine bp hv42 (S ?_)
              refine aj cs h (fun cs h=>S ?_) (fun cs h=>S ?_)
              ·have h:=run_some h
               refine aC ⟨_,h,?_⟩
               exact ao SWx
              ·cases run_some h
               exact ai SC
            ·refine S ?_
             refine aQ cs (by omega) (fun cs=>S ?_)
             cases run_some h
             exact ai SC
 ·cases run_some h
  exact ai SC

theorem spec_l25List_sat{a0:List Mt}  {r:Bool}(h:spec_l25List a0=some r):Sat ah 25 [(.sl false 3 (a0.map (aD false)))] (B r):=by
 obtain⟨h,cs⟩:=az h
 unfold spec_l25List at h
 refine aB (nt:=86) (rs:=[.tmp 2]) (n:=100000) Tryz.func25 rfl rfl rfl rfl (by simp) (S ?_)
 refine aj cs h (fun cs h=>S ?_) (fun cs h=>S ?_)
 ·cases run_some h
  exact ai SC
 ·refine bm (b:=false) (sz:=3) (es:=a0.map (aD false)) 0 SC fun hl0=>?_; rw[aG] at hl0
  replace h:=run_loop h
  refine aV h (fun i4 s4=>[(0,.val (.pv (.sl false 3 (a0.map (aD false))))),(3,.val (.pv (I (i4:Int))))]) (fun i4 s4=>[]) (ao SC) (fun i4 s4 hi h=>?_) (fun s4 h=>?_)
  ·have w:=wrap_succ (i:=i4) (by omega)
   refine S ?_
   refine aP cs (by omega) (fun cs=>S ?_)
   obtain⟨v17,hv17,h⟩:=run_bind h
   refine aA (f:=(aD false)) hv17 SC (S ?_)
   obtain⟨v21,hv21,h⟩:=run_bind h
   refine al [false] (spec_l2Symbol_sat hv21) SC (S ?_)
   refine aj cs h (fun cs h=>S ?_) (fun cs h=>S ?_)
   ·refine aj cs h (fun cs h=>S ?_) (fun cs h=>S ?_)
    ·cases run_some h
     exact ai SC
    ·obtain⟨v32,hv32,h⟩:=run_bind h
     refine al [false,false,false] (spec_l1In_sat hv32) SC (S ?_)
     refine aj cs h (fun cs h=>S ?_) (fun cs h=>S ?_)
     ·refine bm (b:=false) (sz:=1) (es:=v17.Slopes.map I) 25 SC fun hl25=>?_; rw[aG] at hl25
      replace h:=run_loop h
      refine aV h (fun i10 s10=>[(0,.val (.pv (.sl false 3 (a0.map (aD false))))),(3,.val (.pv (I (i4:Int)))),(4,.box (.pv ((aD false) v17))),(5,.val (.pv (I (i10:Int))))]) (fun i10 s10=>[]) (ao SC) (fun i10 s10 hi h=>?_) (fun s10 h=>?_)
      ·have w:=aa (wrap_succ (i:=i10) (by omega)) w
       refine S ?_
       refine aP cs (by omega) (fun cs=>S ?_)
       obtain⟨v45,hv45,h⟩:=run_bind h
       refine aA (f:=I) hv45 SC (S ?_)
       obtain⟨v47,hv47,h⟩:=run_bind h
       refine al [false,false,false] (spec_l1In_sat hv47) SC (S ?_)
       refine aj cs h (fun cs h=>S ?_) (fun cs h=>S ?_)
       ·have h:=run_some h
        refine aC ⟨_,h,?_⟩
        exact ao SWx
       ·cases run_some h
        exact ai SC
      ·refine S ?_
       refine aQ cs (by omega) (fun cs=>S ?_)
       refine aj cs h (fun cs h=>S ?_) (fun cs h=>S ?_)
       ·obtain⟨v55,hv55,h⟩:=run_bind h
        refine aA (f:=(aD false)) hv55 SC (S ?_)
        refine aj cs h (fun cs h=>S ?_) (fun cs h=>S ?_)
        ·obtain⟨v65,hv65,h⟩:=run_bind h
         refine aA (f:=(aD false)) hv65 SC (S ?_)
         refine aj cs h (fun cs h=>S ?_) (fun cs h=>S ?_)
         ·obtain⟨v75,hv75,h⟩:=run_bind h
          refine aA (f:=(aD false)) hv75 SC (S ?_)
          refine aa (aU [] []) (S ?_)
          refine aj cs h (fun cs h=>S ?_) (fun cs h=>S ?_)
          ·cases run_some h
           exact ai SC
          ·have h:=run_some h
           refine aC ⟨_,h,?_⟩
           exact ao SWx
         ·refine aa (aU [] []) (S ?_)
          have h:=run_some h
          refine aC ⟨_,h,?_⟩
          exact ao SWx
        ·refine aa (aU [] []) (S ?_)
         cases run_some h
         exact ai SC
       ·refine aa (aU [] []) (S ?_)
        have h:=run_some h
        refine aC ⟨_,h,?_⟩
        exact ao SWx
     ·cases run_some h
      exact ai SC
   ·cases run_some h
    exact ai SC
  ·refine S ?_
   refine aQ cs (by omega) (fun cs=>S ?_)
   cases run_some h
   exact ai SC

theorem spec_l2ManyN_sat(n:Nat):(∀ (a0:Tt) (a1:Int) (r:Int),spec_l2ManyN n a0 a1=some r→Sat ah 75 [((aq false) a0),(I a1)] (I r)):=by
 induction n with
 | zero=>exact fun _ _ _ h=>by simp[spec_l2ManyN] at h
 | succ n ih=>
  refine fun a0 a1 r h=>?_
  obtain⟨h,cs⟩:=az h
  rw[spec_l2ManyN] at h
  refine aB (nt:=31) (rs:=[.tmp 4]) (n:=100000) Tryz.func75 rfl rfl rfl rfl (by simp) (S ?_)
  refine Mg.know_val2 (b:=false) (sz:=2) (es:=a0.Args.map (aq false)) (x:=(.pv ((aq false) a0))) 0 [1] SC fun hl0=>?_; rw[aG] at hl0
  replace h:=run_loop h
  refine aV h (fun i3 s3=>[(1,.val (.pv (I a1))),(2,.box (.pv ((aq false) a0))),(5,.val (.pv (I s3))),(6,.val (.pv (I (i3:Int))))]) (fun i3 s3=>[]) (ao SC) (fun i3 s3 hi h=>?_) (fun s3 h=>?_)
  ·have w:=wrap_succ (i:=i3) (by omega)
   refine S ?_
   refine aP cs (by omega) (fun cs=>S ?_)
   refine aj cs h (fun cs h=>S ?_) (fun cs h=>S ?_)
   ·obtain⟨v23,hv23,h⟩:=run_bind h
    refine aA (f:=(aq false)) hv23 SC (S ?_)
    obtain⟨v28,hv28,h⟩:=run_bind h
    refine al [false,false] (ih _ _ _ hv28) SC (S ?_)
    have h:=run_some h
    refine aC ⟨_,h,?_⟩
    exact ao SWx
   ·cases run_some h
    exact ai SC
  ·refine S ?_
   refine aQ cs (by omega) (fun cs=>S ?_)
   cases run_some h
   exact ai SC
theorem spec_l2Many_sat{a0:Tt}{a1:Int}{r:Int}(h:spec_l2Many a0 a1=some r):Sat ah 75 [((aq false) a0),(I a1)] (I r):=by
 obtain⟨n,hn⟩:=lim_some h
 exact(spec_l2ManyN_sat n) _ _ _ hn

theorem spec_l1Most_sat{a0:Int}{a1:Int}  {r:Int}(h:spec_l1Most a0 a1=some r):Sat ah 86 [(I a0),(I a1)] (I r):=by
 obtain⟨h,cs⟩:=az h
 unfold spec_l1Most at h
 refine aB (nt:=10) (rs:=[.tmp 4]) (n:=100000) Tryz.func86 rfl rfl rfl rfl (by simp) (S ?_)
 refine aj cs h (fun cs h=>S ?_) (fun cs h=>S ?_)
 ·cases run_some h
  exact ai SC
 ·cases run_some h
  exact ai SC

theorem spec_l2DepthN_sat(n:Nat):(∀ (a0:Tt) (r:Int),spec_l2DepthN n a0=some r→Sat ah 76 [((aq false) a0)] (I r)):=by
 induction n with
 | zero=>exact fun _ _ h=>by simp[spec_l2DepthN] at h
 | succ n ih=>
  refine fun a0 r h=>?_
  obtain⟨h,cs⟩:=az h
  rw[spec_l2DepthN] at h
  refine aB (nt:=22) (rs:=[.tmp 2]) (n:=100000) Tryz.func76 rfl rfl rfl rfl (by simp) (S ?_)
  refine Mg.know_val2 (b:=false) (sz:=2) (es:=a0.Args.map (aq false)) (x:=(.pv ((aq false) a0))) 0 [1] SC fun hl0=>?_; rw[aG] at hl0
  replace h:=run_loop h
  refine aV h (fun i3 s3=>[(1,.box (.pv ((aq false) a0))),(3,.val (.pv (I s3))),(4,.val (.pv (I (i3:Int))))]) (fun i3 s3=>[]) (ao SC) (fun i3 s3 hi h=>?_) (fun s3 h=>?_)
  ·have w:=wrap_succ (i:=i3) (by omega)
   refine S ?_
   refine aP cs (by omega) (fun cs=>S ?_)
   obtain⟨v16,hv16,h⟩:=run_bind h
   refine aA (f:=(aq false)) hv16 SC (S ?_)
   obtain⟨v18,hv18,h⟩:=run_bind h
   refine al [false] (ih _ _ hv18) SC (S ?_)
   obtain⟨v19,hv19,h⟩:=run_bind h
   refine al [false,false] (spec_l1Most_sat hv19) SC (S ?_)
   have h:=run_some h
   refine aC ⟨_,h,?_⟩
   exact ao SWx
  ·refine S ?_
   refine aQ cs (by omega) (fun cs=>S ?_)
   cases run_some h
   exact ai SC
theorem spec_l2Depth_sat{a0:Tt}{r:Int}(h:spec_l2Depth a0=some r):Sat ah 76 [((aq false) a0)] (I r):=by
 obtain⟨n,hn⟩:=lim_some h
 exact(spec_l2DepthN_sat n) _ _ hn

theorem spec_l2Fits_sat{a0:Tt}  {r:Bool}(h:spec_l2Fits a0=some r):Sat ah 50 [((aq false) a0)] (B r):=by
 obtain⟨h,cs⟩:=az h
 unfold spec_l2Fits at h
 refine aB (nt:=11) (rs:=[.tmp 2]) (n:=100000) Tryz.func50 rfl rfl rfl rfl (by simp) (S ?_)
 obtain⟨v4,hv4,h⟩:=run_bind h
 refine al [false,false] (spec_l2Many_sat hv4) SC (S ?_)
 refine aj cs h (fun cs h=>S ?_) (fun cs h=>S ?_)
 ·obtain⟨v8,hv8,h⟩:=run_bind h
  refine al [false] (spec_l2Depth_sat hv8) SC (S ?_)
  cases run_some h
  exact ai SC
 ·cases run_some h
  exact ai SC

theorem spec_l2Var_sat{a0:ByteArray}  {r:Bool}(h:spec_l2Var a0=some r):Sat ah 52 [(Sx a0)] (B r):=by
 obtain⟨h,cs⟩:=az h
 unfold spec_l2Var at h
 refine aB (nt:=29) (rs:=[.tmp 2]) (n:=100000) Tryz.func52 rfl rfl rfl rfl (by simp) (S ?_)
 obtain⟨v6,hv6,h⟩:=run_bind h
 refine al [false,false,false] (spec_l1In_sat hv6) SC (S ?_)
 refine aj cs h (fun cs h=>S ?_) (fun cs h=>S ?_)
 ·obtain⟨v10,hv10,h⟩:=run_bind h
  refine bp hv10 (S ?_)
  refine aj cs h (fun cs h=>S ?_) (fun cs h=>S ?_)
  ·cases run_some h
   exact ai SC
  ·obtain⟨v15,hv15,h⟩:=run_bind h
   refine bp hv15 (S ?_)
   refine aj cs h (fun cs h=>S ?_) (fun cs h=>S ?_)
   ·cases run_some h
    exact ai SC
   ·obtain⟨N4,hN4,h⟩:=run_bind h
    obtain⟨hN4a,hN4b⟩:=bnd_some hN4
    replace h:=run_loop h
    refine Mg.forA (N:=N4) (a:=1) h (fun i4 s4=>[(0,.val (.pv (Sx a0))),(3,.val (.pv (I (i4:Int))))]) (fun i4 s4=>[]) (ao SC) (fun i4 s4 hi hj h=>?_) (fun j4 s4 hj h=>?_)
    ·have w:=wrap_succ (i:=i4) (by omega)
     refine S ?_
     refine aP cs (by omega) (fun cs=>S ?_)
     obtain⟨v26,hv26,h⟩:=run_bind h
     refine bp hv26 (S ?_)
     obtain⟨v27,hv27,h⟩:=run_bind h
     refine al [false] (spec_l2Small_sat hv27) SC (S ?_)
     refine aj cs h (fun cs h=>S ?_) (fun cs h=>S ?_)
     ·have h:=run_some h
      refine aC ⟨_,h,?_⟩
      exact ao SWx
     ·cases run_some h
      exact ai SC
    ·refine S ?_
     refine aQ cs (by omega) (fun cs=>S ?_)
     cases run_some h
     exact ai SC
 ·cases run_some h
  exact ai SC

theorem spec_l2NodesN_sat(n:Nat):(∀ (a0:Tt) (r:Bool),spec_l2NodesN n a0=some r→Sat ah 51 [((aq false) a0)] (B r)):=by
 induction n with
 | zero=>exact fun _ _ h=>by simp[spec_l2NodesN] at h
 | succ n ih=>
  refine fun a0 r h=>?_
  obtain⟨h,cs⟩:=az h
  rw[spec_l2NodesN] at h
  refine aB (nt:=35) (rs:=[.tmp 2]) (n:=100000) Tryz.func51 rfl rfl rfl rfl (by simp) (S ?_)
  obtain⟨v6,hv6,h⟩:=run_bind h
  refine al [false] (spec_l2Var_sat hv6) SC (S ?_)
  refine aj cs h (fun cs h=>S ?_) (fun cs h=>S ?_)
  ·cases run_some h
   exact ai SC
  ·obtain⟨v13,hv13,h⟩:=run_bind h
   refine al [false] (spec_l2Symbol_sat hv13) SC (S ?_)
   refine aj cs h (fun cs h=>S ?_) (fun cs h=>S ?_)
   ·refine aj cs h (fun cs h=>S ?_) (fun cs h=>S ?_)
    ·cases run_some h
     exact ai SC
    ·refine bm (b:=false) (sz:=2) (es:=a0.Args.map (aq false)) 17 SC fun hl17=>?_; rw[aG] at hl17
     replace h:=run_loop h
     refine aV h (fun i6 s6=>[(1,.box (.pv ((aq false) a0))),(3,.val (.pv (I (i6:Int))))]) (fun i6 s6=>[]) (ao SC) (fun i6 s6 hi h=>?_) (fun s6 h=>?_)
     ·have w:=wrap_succ (i:=i6) (by omega)
      refine S ?_
      refine aP cs (by omega) (fun cs=>S ?_)
      obtain⟨v31,hv31,h⟩:=run_bind h
      refine aA (f:=(aq false)) hv31 SC (S ?_)
      obtain⟨v33,hv33,h⟩:=run_bind h
      refine al [false] (ih _ _ hv33) SC (S ?_)
      refine aj cs h (fun cs h=>S ?_) (fun cs h=>S ?_)
      ·have h:=run_some h
       refine aC ⟨_,h,?_⟩
       exact ao SWx
      ·cases run_some h
       exact ai SC
     ·refine S ?_
      refine aQ cs (by omega) (fun cs=>S ?_)
      cases run_some h
      exact ai SC
   ·cases run_some h
    exact ai SC
theorem spec_l2Nodes_sat{a0:Tt}{r:Bool}(h:spec_l2Nodes a0=some r):Sat ah 51 [((aq false) a0)] (B r):=by
 obtain⟨n,hn⟩:=lim_some h
 exact(spec_l2NodesN_sat n) _ _ hn

theorem spec_l2Good_sat{a0:Tt}  {r:Bool}(h:spec_l2Good a0=some r):Sat ah 26 [((aq false) a0)] (B r):=by
 obtain⟨h,cs⟩:=az h
 unfold spec_l2Good at h
 refine aB (nt:=9) (rs:=[.tmp 2]) (n:=100000) Tryz.func26 rfl rfl rfl rfl (by simp) (S ?_)
 obtain⟨v4,hv4,h⟩:=run_bind h
 refine al [false] (spec_l2Fits_sat hv4) SC (S ?_)
 refine aj cs h (fun cs h=>S ?_) (fun cs h=>S ?_)
 ·obtain⟨v7,hv7,h⟩:=run_bind h
  refine al [false] (spec_l2Nodes_sat hv7) SC (S ?_)
  cases run_some h
  exact ai SC
 ·cases run_some h
  exact ai SC

theorem spec_l25Linear_sat{a0:Lt}  {r:Bool}(h:spec_l25Linear a0=some r):Sat ah 27 [((aM false) a0)] (B r):=by
 obtain⟨h,cs⟩:=az h
 unfold spec_l25Linear at h
 refine aB (nt:=64) (rs:=[.tmp 2]) (n:=100000) Tryz.func27 rfl rfl rfl rfl (by simp) (S ?_)
 refine aj cs h (fun cs h=>S ?_) (fun cs h=>S ?_)
 ·cases run_some h
  exact ai SC
 ·refine aj cs h (fun cs h=>S ?_) (fun cs h=>S ?_)
  ·obtain⟨v20,hv20,h⟩:=run_bind h
   refine al [false,false,false] (spec_l1In_sat hv20) SC (S ?_)
   refine aj cs h (fun cs h=>S ?_) (fun cs h=>S ?_)
   ·refine bm (b:=false) (sz:=1) (es:=a0.Vars.map Sx) 5 SC fun hl5=>?_; rw[aG] at hl5
    replace h:=run_loop h
    refine aV h (fun i4 s4=>[(1,.box (.pv ((aM false) a0))),(3,.val (.pv (I (i4:Int))))]) (fun i4 s4=>[]) (ao SC) (fun i4 s4 hi h=>?_) (fun s4 h=>?_)
    ·have w:=wrap_succ (i:=i4) (by omega)
     refine S ?_
     refine aP cs (by omega) (fun cs=>S ?_)
     obtain⟨v33,hv33,h⟩:=run_bind h
     refine aA (f:=Sx) hv33 SC (S ?_)
     obtain⟨v35,hv35,h⟩:=run_bind h
     refine al [false] (spec_l2Var_sat hv35) SC (S ?_)
     refine aj cs h (fun cs h=>S ?_) (fun cs h=>S ?_)
     ·obtain⟨v41,hv41,h⟩:=run_bind h
      refine aA (f:=I) hv41 SC (S ?_)
      obtain⟨v43,hv43,h⟩:=run_bind h
      refine al [false,false,false] (spec_l1In_sat hv43) SC (S ?_)
      refine aj cs h (fun cs h=>S ?_) (fun cs h=>S ?_)
      ·refine aj cs h (fun cs h=>S ?_) (fun cs h=>S ?_)
       ·obtain⟨v54,hv54,h⟩:=run_bind h
        refine aA (f:=Sx) hv54 SC (S ?_)
        obtain⟨v59,hv59,h⟩:=run_bind h
        refine aA (f:=Sx) hv59 SC (S ?_)
        refine aa (aU [] []) (S ?_)
        refine aj cs h (fun cs h=>S ?_) (fun cs h=>S ?_)
        ·have h:=run_some h
         refine aC ⟨_,h,?_⟩
         exact ao SWx
        ·cases run_some h
         exact ai SC
       ·refine aa (aU [] []) (S ?_)
        have h:=run_some h
        refine aC ⟨_,h,?_⟩
        exact ao SWx
      ·refine aa (aU [] []) (S ?_)
       cases run_some h
       exact ai SC
     ·refine aa (aU [] []) (S ?_)
      cases run_some h
      exact ai SC
    ·refine S ?_
     refine aQ cs (by omega) (fun cs=>S ?_)
     cases run_some h
     exact ai SC
   ·cases run_some h
    exact ai SC
  ·cases run_some h
   exact ai SC

theorem spec_l25Slope_sat{a0:Lt}{a1:ByteArray}  {r:Int}(h:spec_l25Slope a0 a1=some r):Sat ah 53 [((aM false) a0),(Sx a1)] (I r):=by
 obtain⟨h,cs⟩:=az h
 unfold spec_l25Slope at h
 refine aB (nt:=25) (rs:=[.tmp 4]) (n:=100000) Tryz.func53 rfl rfl rfl rfl (by simp) (S ?_)
 refine Mg.know_val2 (b:=false) (sz:=1) (es:=a0.Vars.map Sx) (x:=(.pv ((aM false) a0))) 0 [0] SC fun hl0=>?_; rw[aG] at hl0
 replace h:=run_loop h
 refine aV h (fun i2 s2=>[(1,.val (.pv (Sx a1))),(2,.box (.pv ((aM false) a0))),(5,.val (.pv (I (i2:Int))))]) (fun i2 s2=>[]) (ao SC) (fun i2 s2 hi h=>?_) (fun s2 h=>?_)
 ·have w:=wrap_succ (i:=i2) (by omega)
  refine S ?_
  refine aP cs (by omega) (fun cs=>S ?_)
  obtain⟨v16,hv16,h⟩:=run_bind h
  refine aA (f:=Sx) hv16 SC (S ?_)
  refine aj cs h (fun cs h=>S ?_) (fun cs h=>S ?_)
  ·obtain⟨v23,hv23,h⟩:=run_bind h
   refine aA (f:=I) hv23 SC (S ?_)
   cases run_some h
   exact ai SC
  ·have h:=run_some h
   refine aC ⟨_,h,?_⟩
   exact ao SWx
 ·refine S ?_
  refine aQ cs (by omega) (fun cs=>S ?_)
  cases run_some h
  exact ai SC

theorem spec_l25Find_sat{a0:List Mt}{a1:ByteArray}{a2:Int}  {r:Int}(h:spec_l25Find a0 a1 a2=some r):Sat ah 54 [(.sl false 3 (a0.map (aD false))),(Sx a1),(I a2)] (I r):=by
 obtain⟨h,cs⟩:=az h
 unfold spec_l25Find at h
 refine aB (nt:=32) (rs:=[.tmp 6]) (n:=100000) Tryz.func54 rfl rfl rfl rfl (by simp) (S ?_)
 refine bm (b:=false) (sz:=3) (es:=a0.map (aD false)) 0 SC fun hl0=>?_; rw[aG] at hl0
 replace h:=run_loop h
 refine aV h (fun i2 s2=>[(0,.val (.pv (.sl false 3 (a0.map (aD false))))),(1,.val (.pv (Sx a1))),(2,.val (.pv (I a2))),(7,.val (.pv (I (i2:Int))))]) (fun i2 s2=>[]) (ao SC) (fun i2 s2 hi h=>?_) (fun s2 h=>?_)
 ·have w:=wrap_succ (i:=i2) (by omega)
  refine S ?_
  refine aP cs (by omega) (fun cs=>S ?_)
  obtain⟨v16,hv16,h⟩:=run_bind h
  refine aA (f:=(aD false)) hv16 SC (S ?_)
  refine aj cs h (fun cs h=>S ?_) (fun cs h=>S ?_)
  ·obtain⟨v24,hv24,h⟩:=run_bind h
   refine aA (f:=(aD false)) hv24 SC (S ?_)
   refine aj cs h (fun cs h=>S ?_) (fun cs h=>S ?_)
   ·cases run_some h
    exact ai SC
   ·have h:=run_some h
    refine aC ⟨_,h,?_⟩
    exact ao SWx
  ·have h:=run_some h
   refine aC ⟨_,h,?_⟩
   exact ao SWx
 ·refine S ?_
  refine aQ cs (by omega) (fun cs=>S ?_)
  cases run_some h
  exact ai SC

theorem spec_l1Least_sat{a0:Int}{a1:Int}  {r:Int}(h:spec_l1Least a0 a1=some r):Sat ah 55 [(I a0),(I a1)] (I r):=by
 obtain⟨h,cs⟩:=az h
 unfold spec_l1Least at h
 refine aB (nt:=10) (rs:=[.tmp 4]) (n:=100000) Tryz.func55 rfl rfl rfl rfl (by simp) (S ?_)
 refine aj cs h (fun cs h=>S ?_) (fun cs h=>S ?_)
 ·cases run_some h
  exact ai SC
 ·cases run_some h
  exact ai SC

theorem spec_l25ValueN_sat(n:Nat):(∀ (a0:List Mt) (a1:List Int) (a2:Tt) (a3:Lt) (r:Int×Bool),spec_l25ValueN n a0 a1 a2 a3=some r→Sat ah 29 [(.sl false 3 (a0.map (aD false))),(.sl false 1 (a1.map I)),((aq false) a2),((aM false) a3)] (.tup [(I r.1),(B r.2)])):=by
 induction n with
 | zero=>exact fun _ _ _ _ _ h=>by simp[spec_l25ValueN] at h
 | succ n ih=>
  refine fun a0 a1 a2 a3 r h=>?_
  obtain⟨h,cs⟩:=az h
  rw[spec_l25ValueN] at h
  refine aB (nt:=75) (rs:=[.tmp 8,.tmp 9]) (n:=100000) Tryz.func29 rfl rfl rfl rfl (by simp) (S ?_)
  obtain⟨v17,hv17,h⟩:=run_bind h
  refine al [false] (spec_l2Var_sat hv17) SC (S ?_)
  refine aj cs h (fun cs h=>S ?_) (fun cs h=>S ?_)
  ·obtain⟨v21,hv21,h⟩:=run_bind h
   refine al [false,false] (spec_l25Slope_sat hv21) SC (S ?_)
   cases run_some h
   exact ai SC
  ·obtain⟨v28,hv28,h⟩:=run_bind h
   refine al [false,false,false] (spec_l25Find_sat hv28) SC (S ?_)
   refine aj cs h (fun cs h=>S ?_) (fun cs h=>S ?_)
   ·cases run_some h
    exact ai SC
   ·obtain⟨v33,hv33,h⟩:=run_bind h
    refine aA (f:=(aD false)) hv33 SC (S ?_)
    refine bm (b:=false) (sz:=2) (es:=a2.Args.map (aq false)) 26 SC fun hl26=>?_; rw[aG] at hl26
    replace h:=run_loop h
    refine aV h (fun i8 s8=>[(0,.val (.pv (.sl false 3 (a0.map (aD false))))),(1,.val (.pv (.sl false 1 (a1.map I)))),(6,.box (.pv ((aq false) a2))),(7,.box (.pv ((aM false) a3))),(10,.val (.pv (I v28))),(11,.val (.pv (I s8))),(12,.val (.pv (I (i8:Int))))]) (fun i8 s8=>[]) (ao SC) (fun i8 s8 hi h=>?_) (fun s8 h=>?_)
    ·have w:=wrap_succ (i:=i8) (by omega)
     refine S ?_
     refine aP cs (by omega) (fun cs=>S ?_)
     obtain⟨v49,hv49,h⟩:=run_bind h
     refine aA (f:=(aq false)) hv49 SC (S ?_)
     obtain⟨v52,hv52,h⟩:=run_bind h
     refine al [false,false,false,false] (ih _ _ _ _ _ hv52) SC (S ?_)
     refine aa (aU [] []) (S ?_)
     refine aj cs h (fun cs h=>S ?_) (fun cs h=>S ?_)
     ·obtain⟨v60,hv60,h⟩:=run_bind h
      refine aA (f:=(aD false)) hv60 SC (S ?_)
      obtain⟨v64,hv64,h⟩:=run_bind h
      refine aA (f:=I) hv64 SC (S ?_)
      have h:=run_some h
      refine aC ⟨_,h,?_⟩
      exact ao SWx
     ·cases run_some h
      exact ai SC
    ·refine S ?_
     refine aQ cs (by omega) (fun cs=>S ?_)
     obtain⟨v72,hv72,h⟩:=run_bind h
     refine aA (f:=I) hv72 SC (S ?_)
     obtain⟨v74,hv74,h⟩:=run_bind h
     refine al [false,false] (spec_l1Least_sat hv74) SC (S ?_)
     cases run_some h
     exact ai SC
theorem spec_l25Value_sat{a0:List Mt}{a1:List Int}{a2:Tt}{a3:Lt}{r:Int×Bool}(h:spec_l25Value a0 a1 a2 a3=some r):Sat ah 29 [(.sl false 3 (a0.map (aD false))),(.sl false 1 (a1.map I)),((aq false) a2),((aM false) a3)] (.tup [(I r.1),(B r.2)]):=by
 obtain⟨n,hn⟩:=lim_some h
 exact(spec_l25ValueN_sat n) _ _ _ _ _ hn

theorem spec_CappedValue_sat{a0:List Mt}{a1:List Int}{a2:Tt}{a3:Lt}  {r:Int×Bool}(h:spec_CappedValue a0 a1 a2 a3=some r):Sat ah 8 [(.sl false 3 (a0.map (aD false))),(.sl false 1 (a1.map I)),((aq false) a2),((aM false) a3)] (.tup [(I r.1),(B r.2)]):=by
 obtain⟨h,cs⟩:=az h
 unfold spec_CappedValue at h
 refine aB (nt:=50) (rs:=[.tmp 8,.tmp 9]) (n:=100000) Tryz.func8 rfl rfl rfl rfl (by simp) (S ?_)
 obtain⟨v12,hv12,h⟩:=run_bind h
 refine al [false] (spec_l25List_sat hv12) SC (S ?_)
 refine aj cs h (fun cs h=>S ?_) (fun cs h=>S ?_)
 ·refine aj cs h (fun cs h=>S ?_) (fun cs h=>S ?_)
  ·obtain⟨v23,hv23,h⟩:=run_bind h
   refine al [false] (spec_l2Good_sat hv23) SC (S ?_)
   refine aj cs h (fun cs h=>S ?_) (fun cs h=>S ?_)
   ·obtain⟨v28,hv28,h⟩:=run_bind h
    refine al [false] (spec_l25Linear_sat hv28) SC (S ?_)
    refine aj cs h (fun cs h=>S ?_) (fun cs h=>S ?_)
    ·refine bm (b:=false) (sz:=1) (es:=a1.map I) 1 SC fun hl1=>?_; rw[aG] at hl1
     replace h:=run_loop h
     refine aV h (fun i4 s4=>[(0,.val (.pv (.sl false 3 (a0.map (aD false))))),(1,.val (.pv (.sl false 1 (a1.map I)))),(6,.box (.pv ((aq false) a2))),(7,.box (.pv ((aM false) a3))),(10,.val (.pv (I (i4:Int))))]) (fun i4 s4=>[]) (ao SC) (fun i4 s4 hi h=>?_) (fun s4 h=>?_)
     ·have w:=wrap_succ (i:=i4) (by omega)
      refine S ?_
      refine aP cs (by omega) (fun cs=>S ?_)
      obtain⟨v39,hv39,h⟩:=run_bind h
      refine aA (f:=I) hv39 SC (S ?_)
      obtain⟨v41,hv41,h⟩:=run_bind h
      refine al [false,false,false] (spec_l1In_sat hv41) SC (S ?_)
      refine aj cs h (fun cs h=>S ?_) (fun cs h=>S ?_)
      ·have h:=run_some h
       refine aC ⟨_,h,?_⟩
       exact ao SWx
      ·cases run_some h
       exact ai SC
     ·refine S ?_
      refine aQ cs (by omega) (fun cs=>S ?_)
      obtain⟨v47,hv47,h⟩:=run_bind h
      refine al [false,false,false,false] (spec_l25Value_sat hv47) SC (S ?_)
      cases run_some h
      exact ai SC
    ·cases run_some h
     exact ai SC
   ·cases run_some h
    exact ai SC
  ·cases run_some h
   exact ai SC
 ·cases run_some h
  exact ai SC

theorem spec_l2Put_sat{a0:List ByteArray}{a1:ByteArray}  {r:List ByteArray}(h:spec_l2Put a0 a1=some r):Sat ah 87 [(.sl false 1 (a0.map Sx)),(Sx a1)] (.sl false 1 (r.map Sx)):=by
 obtain⟨h,cs⟩:=az h
 unfold spec_l2Put at h
 refine aB (nt:=45) (rs:=[.tmp 4]) (n:=100000) Tryz.func87 rfl rfl rfl rfl (by simp) (S ?_)
 refine bm (b:=false) (sz:=1) (es:=a0.map Sx) 0 SC fun hl0=>?_; rw[aG] at hl0
 replace h:=run_loop h
 refine aV h (fun i2 s2=>[(0,.val (.pv (.sl false 1 (a0.map Sx)))),(1,.val (.pv (Sx a1))),(5,.val (.pv (I (i2:Int))))]) (fun i2 s2=>[]) (ao SC) (fun i2 s2 hi h=>?_) (fun s2 h=>?_)
 ·have w:=wrap_succ (i:=i2) (by omega)
  refine S ?_
  refine aP cs (by omega) (fun cs=>S ?_)
  obtain⟨v13,hv13,h⟩:=run_bind h
  refine aA (f:=Sx) hv13 SC (S ?_)
  refine aj cs h (fun cs h=>S ?_) (fun cs h=>S ?_)
  ·have h:=run_some h
   refine aC ⟨_,h,?_⟩
   exact ao SWx
  ·obtain⟨v27,hv27,h⟩:=run_bind h
   refine aA (f:=Sx) hv27 SC (S ?_)
   refine aj cs h (fun cs h=>S ?_) (fun cs h=>S ?_)
   ·cases run_some h
    exact FinH.r SC
   ·obtain⟨v36,hv36,h⟩:=run_bind h
    refine SlcH.mk (f:=Sx) hv36 SC (S ?_)
    obtain⟨v37,hv37,h⟩:=run_bind h
    refine ba (f:=Sx) (fun _=>rfl) hv37 SC SC (S ?_)
    obtain⟨v40,hv40,h⟩:=run_bind h
    refine ba (f:=Sx) (fun _=>rfl) hv40 SC SC (S ?_)
    obtain⟨v43,hv43,h⟩:=run_bind h
    refine SlcH.mk (f:=Sx) hv43 SC (S ?_)
    obtain⟨v44,hv44,h⟩:=run_bind h
    refine ba (f:=Sx) (fun _=>rfl) hv44 SC SC (S ?_)
    refine aa (aU [] [528,592,624,640,704]) (S ?_)
    cases run_some h
    exact FinH.r SC
 ·refine S ?_
  refine aQ cs (by omega) (fun cs=>S ?_)
  obtain⟨v36,hv36,h⟩:=run_bind h
  refine SlcH.mk (f:=Sx) hv36 SC (S ?_)
  obtain⟨v37,hv37,h⟩:=run_bind h
  refine ba (f:=Sx) (fun _=>rfl) hv37 SC SC (S ?_)
  obtain⟨v40,hv40,h⟩:=run_bind h
  refine ba (f:=Sx) (fun _=>rfl) hv40 SC SC (S ?_)
  obtain⟨v43,hv43,h⟩:=run_bind h
  refine SlcH.mk (f:=Sx) hv43 SC (S ?_)
  obtain⟨v44,hv44,h⟩:=run_bind h
  refine ba (f:=Sx) (fun _=>rfl) hv44 SC SC (S ?_)
  refine aa (aU [] [528,592,624,640,704]) (S ?_)
  cases run_some h
  exact FinH.r SC

theorem spec_l25Names_sat{a0:Lt}{a1:Lt}  {r:List ByteArray}(h:spec_l25Names a0 a1=some r):Sat ah 77 [((aM false) a0),((aM false) a1)] (.sl false 1 (r.map Sx)):=by
 obtain⟨h,cs⟩:=az h
 unfold spec_l25Names at h
 refine aB (nt:=38) (rs:=[.tmp 4]) (n:=100000) Tryz.func77 rfl rfl rfl rfl (by simp) (S ?_)
 refine Mg.know_val2 (b:=false) (sz:=1) (es:=a0.Vars.map Sx) (x:=(.pv ((aM false) a0))) 0 [0] SC fun hl0=>?_; rw[aG] at hl0
 replace h:=run_loop h
 refine aV h (fun i3 s3=>[(2,.box (.pv ((aM false) a0))),(3,.box (.pv ((aM false) a1))),(5,.val (.pv (.sl false 1 (s3.map Sx)))),(6,.val (.pv (I (i3:Int))))]) (fun i3 s3=>[]) (bC (St.le_demV (x:=(.own 128)) (sz:=(1)) (es:=([]).map Sx) 5 [] 128 SC) (ao SC)) (fun i3 s3 hi h=>?_) (fun s3 h=>?_)
 ·have w:=wrap_succ (i:=i3) (by omega)
  refine S ?_
  refine aP cs (by omega) (fun cs=>S ?_)
  obtain⟨v20,hv20,h⟩:=run_bind h
  refine aA (f:=Sx) hv20 SC (S ?_)
  obtain⟨v22,hv22,h⟩:=run_bind h
  refine al [false,false] (spec_l2Put_sat hv22) SC (S ?_)
  have h:=run_some h
  refine aC ⟨_,h,?_⟩
  exact ao SWx
 ·refine S ?_
  refine aQ cs (by omega) (fun cs=>S ?_)
  refine Mg.know_box2 (b:=false) (sz:=1) (es:=a1.Vars.map Sx) (x:=(.pv ((aM false) a1))) 3 [0] SC fun hl3=>?_; rw[aG] at hl3
  replace h:=run_loop h
  refine aV h (fun i7 s7=>[(3,.box (.pv ((aM false) a1))),(5,.val (.pv (.sl false 1 (s7.map Sx)))),(7,.val (.pv (I (i7:Int))))]) (fun i7 s7=>[]) (ao SC) (fun i7 s7 hi h=>?_) (fun s7 h=>?_)
  ·have w:=wrap_succ (i:=i7) (by omega)
   refine S ?_
   refine aP cs (by omega) (fun cs=>S ?_)
   obtain⟨v34,hv34,h⟩:=run_bind h
   refine aA (f:=Sx) hv34 SC (S ?_)
   obtain⟨v36,hv36,h⟩:=run_bind h
   refine al [false,false] (spec_l2Put_sat hv36) SC (S ?_)
   have h:=run_some h
   refine aC ⟨_,h,?_⟩
   exact ao SWx
  ·refine S ?_
   refine aQ cs (by omega) (fun cs=>S ?_)
   cases run_some h
   exact FinH.r SC

theorem spec_l25Plus_sat{a0:Lt}{a1:Lt}{a2:Int}  {r:Lt}(h:spec_l25Plus a0 a1 a2=some r):Sat ah 56 [((aM false) a0),((aM false) a1),(I a2)] ((aM true) r):=by
 obtain⟨h,cs⟩:=az h
 unfold spec_l25Plus at h
 refine aB (nt:=63) (rs:=[.cell 6 31]) (n:=100000) Tryz.func56 rfl rfl rfl rfl (by simp) (S ?_)
 obtain⟨v23,hv23,h⟩:=run_bind h
 refine al [false,false] (spec_l25Names_sat hv23) SC (S ?_)
 refine bm (b:=false) (sz:=1) (es:=v23.map Sx) 8 SC fun hl8=>?_; rw[aG] at hl8
 replace h:=run_loop h
 refine aV h (fun i4 s4=>[(2,.val (.pv (I a2))),(3,.box (.pv ((aM false) a0))),(4,.box (.pv ((aM false) a1))),(6,.box zab0),(7,.box (.node [(.own 176),(.own 192),(.pv (I (IntKind.i64.wrap (a0.Constant+(IntKind.i64.wrap (a2*a1.Constant))))))])),(8,.val (.pv (.sl false 1 (v23.map Sx)))),(9,.val (.pv (I (i4:Int))))]) (fun i4 s4=>[(176,(1,s4.1.map Sx)),(192,(1,s4.2.map I))]) (ao SC) (fun i4 s4 hi h=>?_) (fun s4 h=>?_)
 ·have w:=wrap_succ (i:=i4) (by omega)
  refine S ?_
  refine aP cs (by omega) (fun cs=>S ?_)
  obtain⟨v33,hv33,h⟩:=run_bind h
  refine aA (f:=Sx) hv33 SC (S ?_)
  obtain⟨v35,hv35,h⟩:=run_bind h
  refine al [false,false] (spec_l25Slope_sat hv35) SC (S ?_)
  obtain⟨v40,hv40,h⟩:=run_bind h
  refine aA (f:=Sx) hv40 SC (S ?_)
  obtain⟨v42,hv42,h⟩:=run_bind h
  refine al [false,false] (spec_l25Slope_sat hv42) SC (S ?_)
  refine aa (aU [] []) (S ?_)
  refine aj cs h (fun cs h=>S ?_) (fun cs h=>S ?_)
  ·obtain⟨v51,hv51,h⟩:=run_bind h
   refine aA (f:=Sx) hv51 SC (S ?_)
   obtain⟨v54,hv54,h⟩:=run_bind h
   refine ba (f:=Sx) (fun _=>rfl) hv54 SC SC (S ?_)
   refine aa (aU [] [848,864]) (S ?_)
   obtain⟨v60,hv60,h⟩:=run_bind h
   refine ba (f:=I) (fun _=>rfl) hv60 SC SC (S ?_)
   have h:=run_some h
   refine aC ⟨_,h,?_⟩
   refine St.le_rt 960 192 ?_
   refine St.le_rt 864 176 ?_
   exact ao SWx
  ·have h:=run_some h
   refine aC ⟨_,h,?_⟩
   exact ao SWx
 ·refine S ?_
  refine aQ cs (by omega) (fun cs=>S ?_)
  cases run_some h
  exact ai SC

theorem spec_l25BoundN_sat(n:Nat):(∀ (a0:List Mt) (a1:Tt) (r:Lt×Bool),spec_l25BoundN n a0 a1=some r→Sat ah 30 [(.sl false 3 (a0.map (aD false))),((aq false) a1)] (.tup [((aM true) r.1),(B r.2)])):=by
 induction n with
 | zero=>exact fun _ _ _ h=>by simp[spec_l25BoundN] at h
 | succ n ih=>
  refine fun a0 a1 r h=>?_
  obtain⟨h,cs⟩:=az h
  rw[spec_l25BoundN] at h
  refine aB (nt:=69) (rs:=[.cell 4 31,.tmp 5]) (n:=100000) Tryz.func30 rfl rfl rfl rfl (by simp) (S ?_)
  obtain⟨v13,hv13,h⟩:=run_bind h
  refine al [false] (spec_l2Var_sat hv13) SC (S ?_)
  refine aj cs h (fun cs h=>S ?_) (fun cs h=>S ?_)
  ·cases run_some h
   exact ai SC
  ·obtain⟨v25,hv25,h⟩:=run_bind h
   refine al [false,false,false] (spec_l25Find_sat hv25) SC (S ?_)
   refine aj cs h (fun cs h=>S ?_) (fun cs h=>S ?_)
   ·cases run_some h
    exact ai SC
   ·obtain⟨v31,hv31,h⟩:=run_bind h
    refine aA (f:=(aD false)) hv31 SC (S ?_)
    refine bm (b:=false) (sz:=2) (es:=a1.Args.map (aq false)) 23 SC fun hl23=>?_; rw[aG] at hl23
    replace h:=run_loop h
    refine aV h (fun i8 s8=>[(0,.val (.pv (.sl false 3 (a0.map (aD false))))),(3,.box (.pv ((aq false) a1))),(4,.box zab0),(6,.val (.pv (I v25))),(7,.box (.node [(.own 9324),(.own 9325),(.pv (I s8.1))])),(8,.val (.pv (I (i8:Int))))]) (fun i8 s8=>[(9324,(1,s8.2.1.map Sx)),(9325,(1,s8.2.2.map I))]) (bC (St.le_nilB (x:=(.node [(.pv (.sl true 1 [])),(.pv (.sl true 1 [])),(.pv (I v31.Constant))])) 7 [0] 9324 1 NM SC SC SC) (bC (St.le_nilB (x:=(.node [(.own 9324),(.pv (.sl true 1 [])),(.pv (I v31.Constant))])) 7 [1] 9325 1 NM SC SC SC) (ao SC))) (fun i8 s8 hi h=>?_) (fun s8 h=>?_)
    ·have w:=wrap_succ (i:=i8) (by omega)
     refine S ?_
     refine aP cs (by omega) (fun cs=>S ?_)
     obtain⟨v47,hv47,h⟩:=run_bind h
     refine aA (f:=(aq false)) hv47 SC (S ?_)
     obtain⟨v49,hv49,h⟩:=run_bind h
     refine al [false,false] (ih _ _ _ hv49) SC (S ?_)
     refine aj cs h (fun cs h=>S ?_) (fun cs h=>S ?_)
     ·obtain⟨v59,hv59,h⟩:=run_bind h
      refine aA (f:=(aD false)) hv59 SC (S ?_)
      obtain⟨v63,hv63,h⟩:=run_bind h
      refine aA (f:=I) hv63 SC (S ?_)
      obtain⟨v65,hv65,h⟩:=run_bind h
      refine al [false,false,false] (spec_l25Plus_sat hv65) SC (S ?_)
      refine aa (aU [] [1040,1041]) (S ?_)
      have h:=run_some h
      refine aC ⟨_,h,?_⟩
      refine St.le_rt 1041 9325 ?_
      refine St.le_rt 1040 9324 ?_
      exact ao SWx
     ·cases run_some h
      exact ai SC
    ·refine S ?_
     refine aQ cs (by omega) (fun cs=>S ?_)
     obtain⟨v68,hv68,h⟩:=run_bind h
     refine al [false] (spec_l25Linear_sat hv68) SC (S ?_)
     refine aa (aU [] []) (S ?_)
     cases run_some h
     exact ai SC
theorem spec_l25Bound_sat{a0:List Mt}{a1:Tt}{r:Lt×Bool}(h:spec_l25Bound a0 a1=some r):Sat ah 30 [(.sl false 3 (a0.map (aD false))),((aq false) a1)] (.tup [((aM true) r.1),(B r.2)]):=by
 obtain⟨n,hn⟩:=lim_some h
 exact(spec_l25BoundN_sat n) _ _ _ hn

theorem spec_MajorantOf_sat{a0:List Mt}{a1:Tt}  {r:Lt×Bool}(h:spec_MajorantOf a0 a1=some r):Sat ah 9 [(.sl false 3 (a0.map (aD false))),((aq false) a1)] (.tup [((aM true) r.1),(B r.2)]):=by
 obtain⟨h,cs⟩:=az h
 unfold spec_MajorantOf at h
 refine aB (nt:=27) (rs:=[.cell 4 31,.tmp 5]) (n:=100000) Tryz.func9 rfl rfl rfl rfl (by simp) (S ?_)
 obtain⟨v9,hv9,h⟩:=run_bind h
 refine al [false] (spec_l25List_sat hv9) SC (S ?_)
 refine aj cs h (fun cs h=>S ?_) (fun cs h=>S ?_)
 ·obtain⟨v13,hv13,h⟩:=run_bind h
  refine al [false] (spec_l2Good_sat hv13) SC (S ?_)
  refine aj cs h (fun cs h=>S ?_) (fun cs h=>S ?_)
  ·obtain⟨v20,hv20,h⟩:=run_bind h
   refine al [false,false] (spec_l25Bound_sat hv20) SC (S ?_)
   refine aj cs h (fun cs h=>S ?_) (fun cs h=>S ?_)
   ·cases run_some h
    exact ai SC
   ·cases run_some h
    exact ai SC
  ·cases run_some h
   exact ai SC
 ·cases run_some h
  exact ai SC

theorem impl_EvaluateLinear_1_sat{a0:Int}  {r:Bool}(h:impl_EvaluateLinear_1 a0=some r):Sat ah 31 [(I a0)] (B r):=by
 obtain⟨h,cs⟩:=az h
 unfold impl_EvaluateLinear_1 at h
 refine aB (nt:=6) (rs:=[.tmp 2]) (n:=100000) Tryz.func31 rfl rfl rfl rfl (by simp) (S ?_)
 obtain⟨v4,hv4,h⟩:=run_bind h
 refine al [false,false,false] (impl_within_sat hv4) SC (S ?_)
 cases run_some h
 exact ai SC

theorem impl_EvaluateLinear_sat{a0:Lt}{a1:List Int}  {r:Int×Bool}(h:impl_EvaluateLinear a0 a1=some r):Sat ah 10 [((aM false) a0),(.sl false 1 (a1.map I))] (.tup [(I r.1),(B r.2)]):=by
 obtain⟨h,cs⟩:=az h
 unfold impl_EvaluateLinear at h
 refine aB (nt:=44) (rs:=[.tmp 4,.tmp 5]) (n:=100000) Tryz.func10 rfl rfl rfl rfl (by simp) (S ?_)
 obtain⟨v10,hv10,h⟩:=run_bind h
 refine al [false] (impl_IsValidLinear_sat hv10) SC (S ?_)
 refine aj cs h (fun cs h=>S ?_) (fun cs h=>S ?_)
 ·refine aj cs h (fun cs h=>S ?_) (fun cs h=>S ?_)
  ·obtain⟨v22,hv22,h⟩:=run_bind h
   refine al [false,false] (slices_ContainsFunc_Sint_int_sat (fun _ _ hh=>impl_EvaluateLinear_1_sat hh) (by simp only[CapsOk_nil,CapsOk_cons]) hv22) SC (S ?_)
   refine aj cs h (fun cs h=>S ?_) (fun cs h=>S ?_)
   ·cases run_some h
    exact ai SC
   ·refine bm (b:=false) (sz:=1) (es:=a1.map I) 1 SC fun hl1=>?_; rw[aG] at hl1
    replace h:=run_loop h
    refine aV h (fun i5 s5=>[(2,.box (.pv ((aM false) a0))),(6,.val (.pv (I s5))),(26,.val (.pv (.sl false 1 (a1.map I)))),(27,.val (.pv (I (a1.length:Int)))),(28,.val (.pv (I (i5:Int))))]) (fun i5 s5=>[]) (ao SC) (fun i5 s5 hi h=>?_) (fun s5 h=>?_)
    ·have w:=wrap_succ (i:=i5) (by omega)
     refine S ?_
     refine aP cs (by omega) (fun cs=>S ?_)
     obtain⟨v31,hv31,h⟩:=run_bind h
     refine aA (f:=I) hv31 SC (S ?_)
     obtain⟨v38,hv38,h⟩:=run_bind h
     refine aA (f:=I) hv38 SC (S ?_)
     have h:=run_some h
     refine aC ⟨_,h,?_⟩
     exact ao SWx
    ·refine S ?_
     refine aQ cs (by omega) (fun cs=>S ?_)
     cases run_some h
     exact ai SC
  ·cases run_some h
   exact ai SC
 ·cases run_some h
  exact ai SC

theorem FnMajorants_sat{a0:List Int}  {r:Bool}(h:FnMajorants a0=some r):Sat ah 3 [(.sl false 1 (a0.map (Ik .u8)))] (B r):=by
 obtain⟨h,cs⟩:=az h
 unfold FnMajorants at h
 refine aB (nt:=131) (rs:=[.tmp 2]) (n:=100000) Tryz.func3 rfl rfl rfl rfl (by simp) (S ?_)
 obtain⟨v22,hv22,h⟩:=run_bind h
 refine al [false] (vBig_sat hv22) SC (S ?_)
 refine aj cs h (fun cs h=>S ?_) (fun cs h=>S ?_)
 ·cases run_some h
  exact ai SC
 ·obtain⟨v25,hv25,h⟩:=run_bind h
  refine al [false] (spec_DrawCappedValue_sat hv25) SC (S ?_)
  obtain⟨v35,hv35,h⟩:=run_bind h
  refine al [false,false,false,false] (impl_CappedValue_sat hv35) SC (S ?_)
  obtain⟨v41,hv41,h⟩:=run_bind h
  refine al [false,false] (impl_MajorantOf_sat hv41) SC (S ?_)
  obtain⟨v49,hv49,h⟩:=run_bind h
  refine al [false,false,false,false] (spec_CappedValue_sat hv49) SC (S ?_)
  obtain⟨v55,hv55,h⟩:=run_bind h
  refine al [false,false] (spec_MajorantOf_sat hv55) SC (S ?_)
  refine aj cs h (fun cs h=>S ?_) (fun cs h=>S ?_)
  ·refine aj cs h (fun cs h=>S ?_) (fun cs h=>S ?_)
   ·refine aj cs h (fun cs h=>S ?_) (fun cs h=>S ?_)
    ·refine aj cs h (fun cs h=>S ?_) (fun cs h=>S ?_)
     ·refine aj cs h (fun cs h=>S ?_) (fun cs h=>S ?_)
      ·refine Mg.know_own (sz:=1) (es:=v41.1.Vars.map Sx) 656 SC fun hl656=>?_; rw[aG] at hl656
       replace h:=run_loop h
       refine aV h (fun i14 s14=>[(6,.box (.node [(.own 403),(.own 404),(.pv (I v25.2.2.2.Constant))])),(7,.val (.pv (I v35.1))),(9,.box (.node [(.own 656),(.own 657),(.pv (I v41.1.Constant))])),(15,.val (.own 1232)),(16,.val (.pv (I (i14:Int))))]) (fun i14 s14=>[(403,(1,v25.2.2.2.Vars.map Sx)),(404,(1,v25.2.2.2.Slopes.map I)),(656,(1,v41.1.Vars.map Sx)),(657,(1,v41.1.Slopes.map I)),(1232,(1,s14.map I))]) (ao SC) (fun i14 s14 hi h=>?_) (fun s14 h=>?_)
       ·have w:=wrap_succ (i:=i14) (by omega)
        refine S ?_
        refine aP cs (by omega) (fun cs=>S ?_)
        refine Mg.know_own (sz:=1) (es:=v25.2.2.2.Vars.map Sx) 403 SC fun hl403=>?_; rw[aG] at hl403
        replace h:=run_loop h
        refine aV h (fun i18 s18=>[(6,.box (.node [(.own 403),(.own 404),(.pv (I v25.2.2.2.Constant))])),(7,.val (.pv (I v35.1))),(9,.box (.node [(.own 656),(.own 657),(.pv (I v41.1.Constant))])),(15,.val (.own 1232)),(16,.val (.pv (I (i14:Int)))),(17,.val (.pv (I s18))),(18,.val (.pv (I (i18:Int))))]) (fun i18 s18=>[(403,(1,v25.2.2.2.Vars.map Sx)),(404,(1,v25.2.2.2.Slopes.map I)),(656,(1,v41.1.Vars.map Sx)),(657,(1,v41.1.Slopes.map I)),(1232,(1,s14.map I))]) (ao SC) (fun i18 s18 hi h=>?_) (fun s18 h=>?_)
        ·have w:=aa (wrap_succ (i:=i18) (by omega)) w
         refine S ?_
         refine aP cs (by omega) (fun cs=>S ?_)
         refine aj cs h (fun cs h=>S ?_) (fun cs h=>S ?_)
         ·obtain⟨v102,hv102,h⟩:=run_bind h
          refine aA (f:=Sx) hv102 SC (S ?_)
          obtain⟨v103,hv103,h⟩:=run_bind h
          refine EldH.mk (f:=Sx) hv103 rfl SC (S ?_)
          obtain⟨v107,hv107,h⟩:=run_bind h
          refine aA (f:=Sx) hv107 SC (S ?_)
          obtain⟨v108,hv108,h⟩:=run_bind h
          refine EldH.mk (f:=Sx) hv108 rfl SC (S ?_)
          refine aa (aU [] []) (S ?_)
          refine aj cs h (fun cs h=>S ?_) (fun cs h=>S ?_)
          ·obtain⟨v113,hv113,h⟩:=run_bind h
           refine aA (f:=I) hv113 SC (S ?_)
           obtain⟨v114,hv114,h⟩:=run_bind h
           refine EldH.mk (f:=I) hv114 rfl SC (S ?_)
           have h:=run_some h
           refine aC ⟨_,h,?_⟩
           exact ao SWx
          ·have h:=run_some h
           refine aC ⟨_,h,?_⟩
           exact ao SWx
         ·obtain⟨v118,hv118,h⟩:=run_bind h
          refine ba (f:=I) (fun _=>rfl) hv118 SC SC (S ?_)
          have h:=run_some h
          refine aC ⟨_,h,?_⟩
          refine St.le_rt 1888 1232 ?_
          exact ao SWx
        ·refine S ?_
         refine aQ cs (by omega) (fun cs=>S ?_)
         obtain⟨v118,hv118,h⟩:=run_bind h
         refine ba (f:=I) (fun _=>rfl) hv118 SC SC (S ?_)
         have h:=run_some h
         refine aC ⟨_,h,?_⟩
         refine St.le_rt 1888 1232 ?_
         exact ao SWx
       ·refine S ?_
        refine aQ cs (by omega) (fun cs=>S ?_)
        obtain⟨v122,hv122,h⟩:=run_bind h
        refine al [false,false] (impl_EvaluateLinear_sat hv122) SC (S ?_)
        refine aj cs h (fun cs h=>S ?_) (fun cs h=>S ?_)
        ·cases run_some h
         exact ai SC
        ·cases run_some h
         exact ai SC
      ·cases run_some h
       exact ai SC
     ·cases run_some h
      exact ai SC
    ·cases run_some h
     exact ai SC
   ·cases run_some h
    exact ai SC
  ·cases run_some h
   exact ai SC

end Go.Proofs.YtikeldgdgjoekaaGreat
