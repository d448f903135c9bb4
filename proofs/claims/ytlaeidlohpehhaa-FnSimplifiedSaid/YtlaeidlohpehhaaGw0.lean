/- Lemmas of the proof; each says what it shows. -/
import Derived.Test.YtlaeidlohpehhaaGm
import Derived.Test.YtlaeidlohpehhaaGf
set_option linter.unusedSimpArgs false
set_option linter.unusedVariables false
set_option linter.defProp false
set_option maxRecDepth 4000
namespace Go.Proofs.Ytlaeidlohpehhaa
open Go.Av
open And renaming intro→aa
open CallH renaming mk→aj
open CondH renaming run→ah,t2→aQ,f2→aR
open DrawH renaming ak→aN
open FinH renaming l→ag,r→a7
open Ft renaming pv→am
open HandH renaming call→aB
open IdxH renaming mk→aD
open List renaming nil_append→bh,length_map→aO
open Mg renaming forN→aX,know_sl→bj
open Nat renaming le_of_ble_eq_true→a6
open PV renaming views→aA
open RdH renaming mk→aJ
open RetHB renaming l→aH
open Run renaming of0→au
open Sat renaming of_m→az
open SidxH renaming mk→bd
open St renaming le_mk2→aw
open Try renaming prog→ai
open Tt renaming pv→ao
open la renaming pv→aq
set_option maxHeartbeats 4000000
theorem vBig_sat{a0:List Int}  {r:Bool}(h:vBig a0=some r):Sat ai 4 [(.sl false 1 (a0.map (Ik .u8)))] (B r):=by
 obtain⟨h,cs⟩:=au h
 unfold vBig at h
 refine az (nt:=6) (rs:=[.tmp 2]) (n:=100000) Try.func4 rfl rfl rfl rfl (by simp) (S ?_)
 cases run_some h
 exact ag SC

theorem spec_l1Cur__next_sat{a0:la}  {r:Int×la}(h:spec_l1Cur__next a0=some r):SatH ai 44 [] [] .ptr [] (.pv ((aq false) a0)) (.pv ((aq false) r.2)) (I r.1):=by
 obtain⟨h,cs⟩:=au h
 unfold spec_l1Cur__next at h
 refine SatH.of_k (nt:=62) (rs:=[.tmp 2]) (n:=100000) 0 Try.func44 rfl rfl rfl rfl rfl (a6 rfl) (by decide) (by first | exact a6 rfl | exact SC) (S ?_)
 refine aa (aN [] []) (S ?_)
 refine ah cs h (fun cs h=>S ?_) (fun cs h=>S ?_)
 ·obtain⟨v22,hv22,h⟩:=run_bind h
  refine aD (f:=(Ik .u8)) hv22 SC (S ?_)
  refine aa (aN [] []) (S ?_)
  refine aa (aN [] []) (S ?_)
  refine ah cs h (fun cs h=>S ?_) (fun cs h=>S ?_)
  ·cases run_some h
   exact aH SC
  ·obtain⟨v59,hv59,h⟩:=run_bind h
   refine ShrH.mk hv59 (S ?_)
   cases run_some h
   exact aH SC
 ·refine aa (aN [] []) (S ?_)
  refine ah cs h (fun cs h=>S ?_) (fun cs h=>S ?_)
  ·cases run_some h
   exact aH SC
  ·obtain⟨v59,hv59,h⟩:=run_bind h
   refine ShrH.mk hv59 (S ?_)
   cases run_some h
   exact aH SC

theorem spec_l1Cur__pick_sat{a0:la}{a1:Int}  {r:Int×la}(h:spec_l1Cur__pick a0 a1=some r):SatH ai 23 [] [(I a1)] .ptr [] (.pv ((aq false) a0)) (.pv ((aq false) r.2)) (I r.1):=by
 obtain⟨h,cs⟩:=au h
 unfold spec_l1Cur__pick at h
 refine SatH.of_k (nt:=20) (rs:=[.tmp 4]) (n:=100000) 0 Try.func23 rfl rfl rfl rfl rfl (a6 rfl) (by decide) (by first | exact a6 rfl | exact SC) (S ?_)
 refine ah cs h (fun cs h=>S ?_) (fun cs h=>S ?_)
 ·cases run_some h
  exact aH SC
 ·obtain⟨v9,hv9,h⟩:=run_bind h
  refine aB (r:=0) (hc:=.cv (.pv ((aq false) a0))) 0 [] [] [] [] [] (spec_l1Cur__next_sat hv9) rfl rfl rfl SC (S ?_)
  refine ah cs h (fun cs h=>S ?_) (fun cs h=>S ?_)
  ·obtain⟨v15,hv15,h⟩:=run_bind h
   refine aB (r:=0) (hc:=.cv (.pv ((aq false) v9.2))) 0 [] [] [] [] [] (spec_l1Cur__next_sat hv15) rfl rfl rfl SC (S ?_)
   obtain⟨v19,hv19,h⟩:=run_bind h
   refine remH.mk hv19 (S ?_)
   cases run_some h
   exact aH SC
  ·obtain⟨v19,hv19,h⟩:=run_bind h
   refine remH.mk hv19 (S ?_)
   cases run_some h
   exact aH SC

theorem spec_l1Cur__one_sat{a0:la}{a1:Int}  {r:Bool×la}(h:spec_l1Cur__one a0 a1=some r):SatH ai 12 [] [(I a1)] .ptr [] (.pv ((aq false) a0)) (.pv ((aq false) r.2)) (B r.1):=by
 obtain⟨h,cs⟩:=au h
 unfold spec_l1Cur__one at h
 refine SatH.of_k (nt:=9) (rs:=[.tmp 4]) (n:=100000) 0 Try.func12 rfl rfl rfl rfl rfl (a6 rfl) (by decide) (by first | exact a6 rfl | exact SC) (S ?_)
 obtain⟨v7,hv7,h⟩:=run_bind h
 refine aB (r:=0) (hc:=.cv (.pv ((aq false) a0))) 0 [] [_] [] [(.pv (I a1))] [false] (spec_l1Cur__pick_sat hv7) rfl rfl rfl SC (S ?_)
 cases run_some h
 exact aH SC

theorem spec_l1Cur__of_sat{a0:la}{a1:List ByteArray}  {r:ByteArray×la}(h:spec_l1Cur__of a0 a1=some r):SatH ai 25 [] [(.sl false 1 (a1.map Sx))] .ptr [] (.pv ((aq false) a0)) (.pv ((aq false) r.2)) (Sx r.1):=by
 obtain⟨h,cs⟩:=au h
 unfold spec_l1Cur__of at h
 refine SatH.of_k (nt:=12) (rs:=[.tmp 4]) (n:=100000) 0 Try.func25 rfl rfl rfl rfl rfl (a6 rfl) (by decide) (by first | exact a6 rfl | exact SC) (S ?_)
 obtain⟨v9,hv9,h⟩:=run_bind h
 refine aB (r:=0) (hc:=.cv (.pv ((aq false) a0))) 0 [] [_] [] [(.pv (I (a1.length:Int)))] [false] (spec_l1Cur__pick_sat hv9) rfl rfl rfl SC (S ?_)
 obtain⟨v10,hv10,h⟩:=run_bind h
 refine aD (f:=Sx) hv10 SC (S ?_)
 cases run_some h
 exact aH SC

theorem spec_l1Cur__grownN_sat(n:Nat):(∀ (a0:la) (a1:Int) (r:Tt×la),spec_l1Cur__grownN n a0 a1=some r→SatH ai 68 [] [(I a1)] .ptr [] (.pv ((aq false) a0)) (.pv ((aq false) r.2)) ((ao true) r.1)):=by
 induction n with
 | zero=>exact fun _ _ _ h=>by simp[spec_l1Cur__grownN] at h
 | succ n ih=>
  refine fun a0 a1 r h=>?_
  obtain⟨h,cs⟩:=au h
  rw[spec_l1Cur__grownN] at h
  refine SatH.of_k (nt:=33) (rs:=[.cell 4 26]) (n:=100000) 0 Try.func68 rfl rfl rfl rfl rfl (a6 rfl) (by decide) (by first | exact a6 rfl | exact SC) (S ?_)
  refine ah cs h (fun cs h=>S ?_) (fun cs h=>S ?_)
  ·obtain⟨v13,hv13,h⟩:=run_bind h
   refine aB (r:=0) (hc:=.cv (.pv ((aq false) a0))) (pre:=[]) (post:=[(.sl true 1 (([(⟨#[88]⟩:ByteArray),(⟨#[89]⟩:ByteArray),(⟨#[90]⟩:ByteArray),(⟨#[97]⟩:ByteArray),(⟨#[98]⟩:ByteArray),(⟨#[88]⟩:ByteArray),(⟨#[97]⟩:ByteArray)]).map Sx))]) 0 [] [_] [] [(.own 192)] [true] (SatH.give [true] (spec_l1Cur__of_sat hv13) (by first | rfl | simp only[gv_t,gv_f,gv_n,view_sl,view_agg,view_lit,views_I,views_Sx,views_repB,views_repI,aA,bh,List.cons_append]) rfl) rfl rfl rfl SC (S ?_)
   cases run_some h
   exact aH SC
  ·obtain⟨v9,hv9,h⟩:=run_bind h
   refine aB (r:=0) (hc:=.cv (.pv ((aq false) a0))) 0 [] [_] [] [(.pv (I 3))] [false] (spec_l1Cur__one_sat hv9) rfl rfl rfl SC (S ?_)
   refine ah cs h (fun cs h=>S ?_) (fun cs h=>S ?_)
   ·obtain⟨v13,hv13,h⟩:=run_bind h
    refine aB (r:=0) (hc:=.cv (.pv ((aq false) v9.2))) (pre:=[]) (post:=[(.sl true 1 (([(⟨#[88]⟩:ByteArray),(⟨#[89]⟩:ByteArray),(⟨#[90]⟩:ByteArray),(⟨#[97]⟩:ByteArray),(⟨#[98]⟩:ByteArray),(⟨#[88]⟩:ByteArray),(⟨#[97]⟩:ByteArray)]).map Sx))]) 0 [] [_] [] [(.own 192)] [true] (SatH.give [true] (spec_l1Cur__of_sat hv13) (by first | rfl | simp only[gv_t,gv_f,gv_n,view_sl,view_agg,view_lit,views_I,views_Sx,views_repB,views_repI,aA,bh,List.cons_append]) rfl) rfl rfl rfl SC (S ?_)
    cases run_some h
    exact aH SC
   ·obtain⟨v16,hv16,h⟩:=run_bind h
    refine aB (r:=0) (hc:=.cv (.pv ((aq false) v9.2))) 0 [] [_] [] [(.pv (I 2))] [false] (spec_l1Cur__one_sat hv16) rfl rfl rfl SC (S ?_)
    refine ah cs h (fun cs h=>S ?_) (fun cs h=>S ?_)
    ·obtain⟨v20,hv20,h⟩:=run_bind h
     refine aB (r:=0) (hc:=.cv (.pv ((aq false) v16.2))) 0 [] [_] [] [(.pv (I (IntKind.i64.wrap (a1-1))))] [false] (ih _ _ _ hv20) rfl rfl rfl SC (S ?_)
     cases run_some h
     exact aH SC
    ·obtain⟨v26,hv26,h⟩:=run_bind h
     refine aB (r:=0) (hc:=.cv (.pv ((aq false) v16.2))) 0 [] [_] [] [(.pv (I (IntKind.i64.wrap (a1-1))))] [false] (ih _ _ _ hv26) rfl rfl rfl SC (S ?_)
     obtain⟨v30,hv30,h⟩:=run_bind h
     refine aB (r:=0) (hc:=.cv (.pv ((aq false) v26.2))) 0 [] [_] [] [(.pv (I (IntKind.i64.wrap (a1-1))))] [false] (ih _ _ _ hv30) rfl rfl rfl SC (S ?_)
     cases run_some h
     exact aH SC
theorem spec_l1Cur__grown_sat{a0:la}{a1:Int}{r:Tt×la}(h:spec_l1Cur__grown a0 a1=some r):SatH ai 68 [] [(I a1)] .ptr [] (.pv ((aq false) a0)) (.pv ((aq false) r.2)) ((ao true) r.1):=by
 obtain⟨n,hn⟩:=lim_some h
 exact(spec_l1Cur__grownN_sat n) _ _ _ hn

theorem spec_l1Cur__term_sat{a0:la}  {r:Tt×la}(h:spec_l1Cur__term a0=some r):SatH ai 46 [] [] .ptr [] (.pv ((aq false) a0)) (.pv ((aq false) r.2)) ((ao true) r.1):=by
 obtain⟨h,cs⟩:=au h
 unfold spec_l1Cur__term at h
 refine SatH.of_k (nt:=8) (rs:=[.cell 2 26]) (n:=100000) 0 Try.func46 rfl rfl rfl rfl rfl (a6 rfl) (by decide) (by first | exact a6 rfl | exact SC) (S ?_)
 obtain⟨v5,hv5,h⟩:=run_bind h
 refine aB (r:=0) (hc:=.cv (.pv ((aq false) a0))) 0 [] [_] [] [(.pv (I 3))] [false] (spec_l1Cur__pick_sat hv5) rfl rfl rfl SC (S ?_)
 obtain⟨v7,hv7,h⟩:=run_bind h
 refine aB (r:=0) (hc:=.cv (.pv ((aq false) v5.2))) 0 [] [_] [] [(.pv (I (IntKind.i64.wrap ((1:Int)+v5.1))))] [false] (spec_l1Cur__grown_sat hv7) rfl rfl rfl SC (S ?_)
 cases run_some h
 exact aH SC

theorem spec_l1Cur__atom_sat{a0:la}  {r:Tt×la}(h:spec_l1Cur__atom a0=some r):SatH ai 67 [] [] .ptr [] (.pv ((aq false) a0)) (.pv ((aq false) r.2)) ((ao true) r.1):=by
 obtain⟨h,cs⟩:=au h
 unfold spec_l1Cur__atom at h
 refine SatH.of_k (nt:=30) (rs:=[.cell 2 26]) (n:=100000) 0 Try.func67 rfl rfl rfl rfl rfl (a6 rfl) (by decide) (by first | exact a6 rfl | exact SC) (S ?_)
 obtain⟨v4,hv4,h⟩:=run_bind h
 refine aB (r:=0) (hc:=.cv (.pv ((aq false) a0))) 0 [] [_] [] [(.pv (I 8))] [false] (spec_l1Cur__pick_sat hv4) rfl rfl rfl SC (S ?_)
 refine ah cs h (fun cs h=>S ?_) (fun cs h=>S ?_)
 ·obtain⟨v9,hv9,h⟩:=run_bind h
  refine aB (r:=0) (hc:=.cv (.pv ((aq false) v4.2))) 0 [] [] [] [] [] (spec_l1Cur__term_sat hv9) rfl rfl rfl SC (S ?_)
  obtain⟨v11,hv11,h⟩:=run_bind h
  refine aB (r:=0) (hc:=.cv (.pv ((aq false) v9.2))) 0 [] [] [] [] [] (spec_l1Cur__term_sat hv11) rfl rfl rfl SC (S ?_)
  cases run_some h
  exact aH SC
 ·refine ah cs h (fun cs h=>S ?_) (fun cs h=>S ?_)
  ·obtain⟨v9,hv9,h⟩:=run_bind h
   refine aB (r:=0) (hc:=.cv (.pv ((aq false) v4.2))) 0 [] [] [] [] [] (spec_l1Cur__term_sat hv9) rfl rfl rfl SC (S ?_)
   obtain⟨v11,hv11,h⟩:=run_bind h
   refine aB (r:=0) (hc:=.cv (.pv ((aq false) v9.2))) 0 [] [] [] [] [] (spec_l1Cur__term_sat hv11) rfl rfl rfl SC (S ?_)
   cases run_some h
   exact aH SC
  ·refine ah cs h (fun cs h=>S ?_) (fun cs h=>S ?_)
   ·cases run_some h
    exact aH SC
   ·refine ah cs h (fun cs h=>S ?_) (fun cs h=>S ?_)
    ·obtain⟨v21,hv21,h⟩:=run_bind h
     refine aB (r:=0) (hc:=.cv (.pv ((aq false) v4.2))) 0 [] [_] [] [(.pv (I 2))] [false] (spec_l1Cur__grown_sat hv21) rfl rfl rfl SC (S ?_)
     obtain⟨v23,hv23,h⟩:=run_bind h
     refine aB (r:=0) (hc:=.cv (.pv ((aq false) v21.2))) 0 [] [_] [] [(.pv (I 2))] [false] (spec_l1Cur__grown_sat hv23) rfl rfl rfl SC (S ?_)
     cases run_some h
     exact aH SC
    ·refine ah cs h (fun cs h=>S ?_) (fun cs h=>S ?_)
     ·obtain⟨v21,hv21,h⟩:=run_bind h
      refine aB (r:=0) (hc:=.cv (.pv ((aq false) v4.2))) 0 [] [_] [] [(.pv (I 2))] [false] (spec_l1Cur__grown_sat hv21) rfl rfl rfl SC (S ?_)
      obtain⟨v23,hv23,h⟩:=run_bind h
      refine aB (r:=0) (hc:=.cv (.pv ((aq false) v21.2))) 0 [] [_] [] [(.pv (I 2))] [false] (spec_l1Cur__grown_sat hv23) rfl rfl rfl SC (S ?_)
      cases run_some h
      exact aH SC
     ·obtain⟨v27,hv27,h⟩:=run_bind h
      refine aB (r:=0) (hc:=.cv (.pv ((aq false) v4.2))) 0 [] [_] [] [(.pv (I 2))] [false] (spec_l1Cur__grown_sat hv27) rfl rfl rfl SC (S ?_)
      cases run_some h
      exact aH SC

theorem spec_l1Cur__among_sat{a0:la}{a1:List Int}  {r:Int×la}(h:spec_l1Cur__among a0 a1=some r):SatH ai 28 [] [(.sl false 1 (a1.map I))] .ptr [] (.pv ((aq false) a0)) (.pv ((aq false) r.2)) (I r.1):=by
 obtain⟨h,cs⟩:=au h
 unfold spec_l1Cur__among at h
 refine SatH.of_k (nt:=12) (rs:=[.tmp 4]) (n:=100000) 0 Try.func28 rfl rfl rfl rfl rfl (a6 rfl) (by decide) (by first | exact a6 rfl | exact SC) (S ?_)
 obtain⟨v9,hv9,h⟩:=run_bind h
 refine aB (r:=0) (hc:=.cv (.pv ((aq false) a0))) 0 [] [_] [] [(.pv (I (a1.length:Int)))] [false] (spec_l1Cur__pick_sat hv9) rfl rfl rfl SC (S ?_)
 obtain⟨v10,hv10,h⟩:=run_bind h
 refine aD (f:=I) hv10 SC (S ?_)
 cases run_some h
 exact aH SC

theorem spec_l1Cur__builtN_sat(n:Nat):(∀ (a0:la) (a1:Int) (r:Ft×la),spec_l1Cur__builtN n a0 a1=some r→SatH ai 45 [] [(I a1)] .ptr [] (.pv ((aq false) a0)) (.pv ((aq false) r.2)) ((am true) r.1)):=by
 induction n with
 | zero=>exact fun _ _ _ h=>by simp[spec_l1Cur__builtN] at h
 | succ n ih=>
  refine fun a0 a1 r h=>?_
  obtain⟨h,cs⟩:=au h
  rw[spec_l1Cur__builtN] at h
  refine SatH.of_k (nt:=60) (rs:=[.cell 4 29]) (n:=100000) 0 Try.func45 rfl rfl rfl rfl rfl (a6 rfl) (by decide) (by first | exact a6 rfl | exact SC) (S ?_)
  refine ah cs h (fun cs h=>S ?_) (fun cs h=>S ?_)
  ·obtain⟨v13,hv13,h⟩:=run_bind h
   refine aB (r:=0) (hc:=.cv (.pv ((aq false) a0))) 0 [] [_] [] [(.pv (I 16))] [false] (spec_l1Cur__one_sat hv13) rfl rfl rfl SC (S ?_)
   refine ah cs h (fun cs h=>S ?_) (fun cs h=>S ?_)
   ·obtain⟨v15,hv15,h⟩:=run_bind h
    refine aB (r:=0) (hc:=.cv (.pv ((aq false) v13.2))) 0 [] [_] [] [(.pv (I 2))] [false] (spec_l1Cur__pick_sat hv15) rfl rfl rfl SC (S ?_)
    cases run_some h
    exact aH SC
   ·obtain⟨v19,hv19,h⟩:=run_bind h
    refine aB (r:=0) (hc:=.cv (.pv ((aq false) v13.2))) 0 [] [] [] [] [] (spec_l1Cur__atom_sat hv19) rfl rfl rfl SC (S ?_)
    cases run_some h
    exact aH SC
  ·obtain⟨v10,hv10,h⟩:=run_bind h
   refine aB (r:=0) (hc:=.cv (.pv ((aq false) a0))) 0 [] [_] [] [(.pv (I 4))] [false] (spec_l1Cur__one_sat hv10) rfl rfl rfl SC (S ?_)
   refine ah cs h (fun cs h=>S ?_) (fun cs h=>S ?_)
   ·obtain⟨v13,hv13,h⟩:=run_bind h
    refine aB (r:=0) (hc:=.cv (.pv ((aq false) v10.2))) 0 [] [_] [] [(.pv (I 16))] [false] (spec_l1Cur__one_sat hv13) rfl rfl rfl SC (S ?_)
    refine ah cs h (fun cs h=>S ?_) (fun cs h=>S ?_)
    ·obtain⟨v15,hv15,h⟩:=run_bind h
     refine aB (r:=0) (hc:=.cv (.pv ((aq false) v13.2))) 0 [] [_] [] [(.pv (I 2))] [false] (spec_l1Cur__pick_sat hv15) rfl rfl rfl SC (S ?_)
     cases run_some h
     exact aH SC
    ·obtain⟨v19,hv19,h⟩:=run_bind h
     refine aB (r:=0) (hc:=.cv (.pv ((aq false) v13.2))) 0 [] [] [] [] [] (spec_l1Cur__atom_sat hv19) rfl rfl rfl SC (S ?_)
     cases run_some h
     exact aH SC
   ·obtain⟨v23,hv23,h⟩:=run_bind h
    refine aB (r:=0) (hc:=.cv (.pv ((aq false) v10.2))) (pre:=[]) (post:=[(.sl true 1 (([(4:Int),(5:Int),(6:Int),(7:Int),(8:Int),(9:Int),(8:Int),(9:Int),(5:Int),(7:Int)]).map I))]) 0 [] [_] [] [(.own 352)] [true] (SatH.give [true] (spec_l1Cur__among_sat hv23) (by first | rfl | simp only[gv_t,gv_f,gv_n,view_sl,view_agg,view_lit,views_I,views_Sx,views_repB,views_repI,aA,bh,List.cons_append]) rfl) rfl rfl rfl SC (S ?_)
    refine ah cs h (fun cs h=>S ?_) (fun cs h=>S ?_)
    ·obtain⟨v30,hv30,h⟩:=run_bind h
     refine aB (r:=0) (hc:=.cv (.pv ((aq false) v23.2))) 0 [] [_] [] [(.pv (I (IntKind.i64.wrap (a1-1))))] [false] (ih _ _ _ hv30) rfl rfl rfl SC (S ?_)
     cases run_some h
     exact aH SC
    ·refine ah cs h (fun cs h=>S ?_) (fun cs h=>S ?_)
     ·obtain⟨v42,hv42,h⟩:=run_bind h
      refine aB (r:=0) (hc:=.cv (.pv ((aq false) v23.2))) (pre:=[]) (post:=[(.sl true 1 (([(⟨#[88]⟩:ByteArray),(⟨#[89]⟩:ByteArray),(⟨#[90]⟩:ByteArray),(⟨#[88]⟩:ByteArray)]).map Sx))]) 0 [] [_] [] [(.own 656)] [true] (SatH.give [true] (spec_l1Cur__of_sat hv42) (by first | rfl | simp only[gv_t,gv_f,gv_n,view_sl,view_agg,view_lit,views_I,views_Sx,views_repB,views_repI,aA,bh,List.cons_append]) rfl) rfl rfl rfl SC (S ?_)
      obtain⟨v46,hv46,h⟩:=run_bind h
      refine aB (r:=0) (hc:=.cv (.pv ((aq false) v42.2))) 0 [] [_] [] [(.pv (I (IntKind.i64.wrap (a1-1))))] [false] (ih _ _ _ hv46) rfl rfl rfl SC (S ?_)
      cases run_some h
      exact aH SC
     ·refine ah cs h (fun cs h=>S ?_) (fun cs h=>S ?_)
      ·obtain⟨v42,hv42,h⟩:=run_bind h
       refine aB (r:=0) (hc:=.cv (.pv ((aq false) v23.2))) (pre:=[]) (post:=[(.sl true 1 (([(⟨#[88]⟩:ByteArray),(⟨#[89]⟩:ByteArray),(⟨#[90]⟩:ByteArray),(⟨#[88]⟩:ByteArray)]).map Sx))]) 0 [] [_] [] [(.own 656)] [true] (SatH.give [true] (spec_l1Cur__of_sat hv42) (by first | rfl | simp only[gv_t,gv_f,gv_n,view_sl,view_agg,view_lit,views_I,views_Sx,views_repB,views_repI,aA,bh,List.cons_append]) rfl) rfl rfl rfl SC (S ?_)
       obtain⟨v46,hv46,h⟩:=run_bind h
       refine aB (r:=0) (hc:=.cv (.pv ((aq false) v42.2))) 0 [] [_] [] [(.pv (I (IntKind.i64.wrap (a1-1))))] [false] (ih _ _ _ hv46) rfl rfl rfl SC (S ?_)
       cases run_some h
       exact aH SC
      ·obtain⟨v53,hv53,h⟩:=run_bind h
       refine aB (r:=0) (hc:=.cv (.pv ((aq false) v23.2))) 0 [] [_] [] [(.pv (I (IntKind.i64.wrap (a1-1))))] [false] (ih _ _ _ hv53) rfl rfl rfl SC (S ?_)
       obtain⟨v57,hv57,h⟩:=run_bind h
       refine aB (r:=0) (hc:=.cv (.pv ((aq false) v53.2))) 0 [] [_] [] [(.pv (I (IntKind.i64.wrap (a1-1))))] [false] (ih _ _ _ hv57) rfl rfl rfl SC (S ?_)
       cases run_some h
       exact aH SC
theorem spec_l1Cur__built_sat{a0:la}{a1:Int}{r:Ft×la}(h:spec_l1Cur__built a0 a1=some r):SatH ai 45 [] [(I a1)] .ptr [] (.pv ((aq false) a0)) (.pv ((aq false) r.2)) ((am true) r.1):=by
 obtain⟨n,hn⟩:=lim_some h
 exact(spec_l1Cur__builtN_sat n) _ _ _ hn

theorem spec_l1Cur__formula_sat{a0:la}  {r:Ft×la}(h:spec_l1Cur__formula a0=some r):SatH ai 24 [] [] .ptr [] (.pv ((aq false) a0)) (.pv ((aq false) r.2)) ((am true) r.1):=by
 obtain⟨h,cs⟩:=au h
 unfold spec_l1Cur__formula at h
 refine SatH.of_k (nt:=8) (rs:=[.cell 2 29]) (n:=100000) 0 Try.func24 rfl rfl rfl rfl rfl (a6 rfl) (by decide) (by first | exact a6 rfl | exact SC) (S ?_)
 obtain⟨v5,hv5,h⟩:=run_bind h
 refine aB (r:=0) (hc:=.cv (.pv ((aq false) a0))) 0 [] [_] [] [(.pv (I 4))] [false] (spec_l1Cur__pick_sat hv5) rfl rfl rfl SC (S ?_)
 obtain⟨v7,hv7,h⟩:=run_bind h
 refine aB (r:=0) (hc:=.cv (.pv ((aq false) v5.2))) 0 [] [_] [] [(.pv (I (IntKind.i64.wrap ((1:Int)+v5.1))))] [false] (spec_l1Cur__built_sat hv7) rfl rfl rfl SC (S ?_)
 cases run_some h
 exact aH SC

theorem spec_l1Cur__tower_sat{a0:la}{a1:Int}  {r:Tt×la}(h:spec_l1Cur__tower a0 a1=some r):SatH ai 47 [] [(I a1)] .ptr [] (.pv ((aq false) a0)) (.pv ((aq false) r.2)) ((ao true) r.1):=by
 obtain⟨h,cs⟩:=au h
 unfold spec_l1Cur__tower at h
 refine SatH.of_k (nt:=18) (rs:=[.cell 4 26]) (n:=100000) 0 Try.func47 rfl rfl rfl rfl rfl (a6 rfl) (by decide) (by first | exact a6 rfl | exact SC) (S ?_)
 obtain⟨v8,hv8,h⟩:=run_bind h
 refine aB (r:=0) (hc:=.cv (.pv ((aq false) a0))) (pre:=[]) (post:=[(.sl true 1 (([(⟨#[88]⟩:ByteArray),(⟨#[97]⟩:ByteArray)]).map Sx))]) 0 [] [_] [] [(.own 112)] [true] (SatH.give [true] (spec_l1Cur__of_sat hv8) (by first | rfl | simp only[gv_t,gv_f,gv_n,view_sl,view_agg,view_lit,views_I,views_Sx,views_repB,views_repI,aA,bh,List.cons_append]) rfl) rfl rfl rfl SC (S ?_)
 replace h:=run_loop h
 refine Mg.whileN h (fun s2=>[(0,.box (.pv ((aq false) v8.2))),(1,.val (.pv (I s2.1))),(4,.box zab0),(5,.box (.node [(.pv (Sx s2.2.1)),(.own 9306)])),(20000,gh 0)]) (fun s2=>[(9306,(2,s2.2.2.map (ao true)))]) (St.le_trans (St.le_nilB (x:=(.node [(.pv (Sx v8.1)),(.pv (.sl true 2 []))])) 5 [1] 9306 2 NM SC SC SC) (aw SC)) (fun n2 s2 h=>?_)
 refine S ?_
 refine ah cs h (fun cs h=>S ?_) (fun cs h=>S ?_)
 ·have h:=run_some h
  refine aJ ⟨_,h,?_⟩
  refine St.le_rt 240 9306 ?_
  exact aw SC
 ·have h:=run_some h
  cases run_some h
  exact aH SC

theorem spec_l1Cur__wide_sat{a0:la}  {r:Tt×la}(h:spec_l1Cur__wide a0=some r):SatH ai 48 [] [] .ptr [] (.pv ((aq false) a0)) (.pv ((aq false) r.2)) ((ao true) r.1):=by
 obtain⟨h,cs⟩:=au h
 unfold spec_l1Cur__wide at h
 refine SatH.of_k (nt:=54) (rs:=[.cell 2 26]) (n:=100000) 0 Try.func48 rfl rfl rfl rfl rfl (a6 rfl) (by decide) (by first | exact a6 rfl | exact SC) (S ?_)
 replace h:=run_loop h
 refine aX h (fun i3 s3=>[(0,.box (.pv ((aq false) a0))),(2,.box zab0),(3,.box (.node [(.pv (Sx (⟨#[103]⟩:ByteArray))),(.own 9309)])),(4,.val (.pv (I (i3:Int)))),(20000,gh 0)]) (fun i3 s3=>[(9309,(2,s3.map (ao true)))]) (St.le_trans (St.le_nilB (x:=(.node [(.pv (Sx (⟨#[103]⟩:ByteArray))),(.pv (.sl true 2 []))])) 3 [1] 9309 2 NM SC SC SC) (aw SC)) (fun i3 s3 hi h=>?_) (fun s3 h=>?_)
 ·have w:=wrap_succ (i:=i3) (by omega)
  refine S ?_
  refine aQ cs (by omega) (fun cs=>S ?_)
  replace h:=run_loop h
  refine aX h (fun i7 s7=>[(0,.box (.pv ((aq false) a0))),(2,.box zab0),(3,.box (.node [(.pv (Sx (⟨#[103]⟩:ByteArray))),(.own 9309)])),(4,.val (.pv (I (i3:Int)))),(5,.box (.node [(.pv (Sx (⟨#[104]⟩:ByteArray))),(.own 9321)])),(6,.val (.pv (I (i7:Int)))),(20000,gh 0)]) (fun i7 s7=>[(9309,(2,s3.map (ao true))),(9321,(2,s7.map (ao true)))]) (St.le_trans (St.le_nilB (x:=(.node [(.pv (Sx (⟨#[104]⟩:ByteArray))),(.pv (.sl true 2 []))])) 5 [1] 9321 2 NM SC SC SC) (aw SC)) (fun i7 s7 hi h=>?_) (fun s7 h=>?_)
  ·have w:=aa (wrap_succ (i:=i7) (by omega)) w
   refine S ?_
   refine aQ cs (by omega) (fun cs=>S ?_)
   obtain⟨v23,hv23,h⟩:=run_bind h
   refine AppH.mk (f:=(ao true)) (fun a=>Tt.psize _ a) hv23 SC SC (S ?_)
   have h:=run_some h
   refine aJ ⟨_,h,?_⟩
   refine St.le_rt 368 9321 ?_
   exact aw SWx
  ·refine S ?_
   refine aR cs (by omega) (fun cs=>S ?_)
   obtain⟨v29,hv29,h⟩:=run_bind h
   refine AppH.mk (f:=(ao true)) (fun a=>Tt.psize _ a) hv29 SC SC (S ?_)
   have h:=run_some h
   refine aJ ⟨_,h,?_⟩
   refine St.le_rt 464 9309 ?_
   exact aw SWx
 ·refine S ?_
  refine aR cs (by omega) (fun cs=>S ?_)
  obtain⟨v32,hv32,h⟩:=run_bind h
  refine aB (r:=0) (hc:=.cv (.pv ((aq false) a0))) 0 [] [_] [] [(.pv (I 2))] [false] (spec_l1Cur__one_sat hv32) rfl rfl rfl SC (S ?_)
  refine ah cs h (fun cs h=>S ?_) (fun cs h=>S ?_)
  ·obtain⟨v35,hv35,h⟩:=run_bind h
   refine SlcOH.mk (f:=(ao true)) hv35 SC (S ?_)
   obtain⟨v38,hv38,h⟩:=run_bind h
   refine aB (r:=0) (hc:=.cv (.pv ((aq false) v32.2))) 0 [] [_] [] [(.pv (I 2))] [false] (spec_l1Cur__one_sat hv38) rfl rfl rfl SC (S ?_)
   refine ah cs h (fun cs h=>S ?_) (fun cs h=>S ?_)
   ·refine ah cs h (fun cs h=>S ?_) (fun cs h=>S ?_)
    ·obtain⟨v51,hv51,h⟩:=run_bind h
     refine AppH.mk (f:=(ao true)) (fun a=>Tt.psize _ a) hv51 SC SC (S ?_)
     cases run_some h
     exact aH SC
    ·cases run_some h
     exact aH SC
   ·cases run_some h
    exact aH SC
  ·obtain⟨v38,hv38,h⟩:=run_bind h
   refine aB (r:=0) (hc:=.cv (.pv ((aq false) v32.2))) 0 [] [_] [] [(.pv (I 2))] [false] (spec_l1Cur__one_sat hv38) rfl rfl rfl SC (S ?_)
   refine ah cs h (fun cs h=>S ?_) (fun cs h=>S ?_)
   ·refine ah cs h (fun cs h=>S ?_) (fun cs h=>S ?_)
    ·obtain⟨v51,hv51,h⟩:=run_bind h
     refine AppH.mk (f:=(ao true)) (fun a=>Tt.psize _ a) hv51 SC SC (S ?_)
     cases run_some h
     exact aH SC
    ·cases run_some h
     exact aH SC
   ·cases run_some h
    exact aH SC

theorem spec_l1Cur__anyTerm_sat{a0:la}  {r:Tt×la}(h:spec_l1Cur__anyTerm a0=some r):SatH ai 26 [] [] .ptr [] (.pv ((aq false) a0)) (.pv ((aq false) r.2)) ((ao true) r.1):=by
 obtain⟨h,cs⟩:=au h
 unfold spec_l1Cur__anyTerm at h
 refine SatH.of_kf (nt:=57) (rs:=[.cell 2 26]) (n:=100000) 0 Try.func26 rfl rfl rfl rfl rfl (a6 rfl) (by decide) (by first | exact a6 rfl | exact SC) (S ?_)
 refine MgF.reg (S ?_)
 refine MgF.reg (S ?_)
 obtain⟨v5,hv5,h⟩:=run_bind h
 refine aB (r:=0) (hc:=.cv (.pv ((aq false) a0))) 0 [] [] [] [] [] (spec_l1Cur__term_sat hv5) rfl rfl rfl SC (S ?_)
 refine MgF.reg (S ?_)
 obtain⟨v7,hv7,h⟩:=run_bind h
 refine aB (r:=0) (hc:=.cv (.pv ((aq false) v5.2))) 0 [] [_] [] [(.pv (I 24))] [false] (spec_l1Cur__pick_sat hv7) rfl rfl rfl SC (S ?_)
 refine MgF.reg (S ?_)
 refine ah cs h (fun cs h=>S ?_) (fun cs h=>S ?_)
 ·refine MgF.reg (S ?_)
  obtain⟨v12,hv12,h⟩:=run_bind h
  refine aB (r:=0) (hc:=.cv (.pv ((aq false) v7.2))) (pre:=[]) (post:=[(.sl true 1 (([(⟨#[]⟩:ByteArray),(⟨#[116,114,117,101]⟩:ByteArray),(⟨#[116,114,117,116,104]⟩:ByteArray),(⟨#[105,102]⟩:ByteArray),(⟨#[88,121,122,57]⟩:ByteArray),(⟨#[88,121,122,57,57]⟩:ByteArray),(⟨#[120,65]⟩:ByteArray),(⟨#[97,95,98]⟩:ByteArray),(⟨#[97,98,99,100,101,102]⟩:ByteArray),(⟨#[97,98,99,100,101,102,103]⟩:ByteArray),(⟨#[95,97]⟩:ByteArray),(⟨#[57]⟩:ByteArray),(⟨#[88,95]⟩:ByteArray),(⟨#[61]⟩:ByteArray)]).map Sx))]) 0 [] [_] [] [(.own 176)] [true] (SatH.give [true] (spec_l1Cur__of_sat hv12) (by first | rfl | simp only[gv_t,gv_f,gv_n,view_sl,view_agg,view_lit,views_I,views_Sx,views_repB,views_repI,aA,bh,List.cons_append]) rfl) rfl rfl rfl SC (S ?_)
  refine MgF.reg (S ?_)
  cases run_some h
  exact aH SC
 ·refine MgF.reg (S ?_)
  refine ah cs h (fun cs h=>S ?_) (fun cs h=>S ?_)
  ·refine MgF.reg (S ?_)
   obtain⟨v18,hv18,h⟩:=run_bind h
   refine aB (r:=0) (hc:=.cv (.pv ((aq false) v7.2))) 0 [] [_] [] [(.pv (I 3))] [false] (spec_l1Cur__pick_sat hv18) rfl rfl rfl SC (S ?_)
   obtain⟨v20,hv20,h⟩:=run_bind h
   refine aB (r:=0) (hc:=.cv (.pv ((aq false) v18.2))) 0 [] [_] [] [(.pv (I (IntKind.i64.wrap ((7:Int)+v18.1))))] [false] (spec_l1Cur__tower_sat hv20) rfl rfl rfl SC (S ?_)
   cases run_some h
   exact aH SC
  ·refine MgF.reg (S ?_)
   refine ah cs h (fun cs h=>S ?_) (fun cs h=>S ?_)
   ·refine MgF.reg (S ?_)
    obtain⟨v24,hv24,h⟩:=run_bind h
    refine aB (r:=0) (hc:=.cv (.pv ((aq false) v7.2))) 0 [] [] [] [] [] (spec_l1Cur__wide_sat hv24) rfl rfl rfl SC (S ?_)
    cases run_some h
    exact aH SC
   ·refine MgF.reg (S ?_)
    refine ah cs h (fun cs h=>S ?_) (fun cs h=>S ?_)
    ·refine MgF.drw (aa mixed (S ?_))
     obtain⟨v30,hv30,h⟩:=run_bind h
     refine aB (r:=0) (hc:=.cv (.pv ((aq false) v7.2))) 0 [] [] [] [] [] (spec_l1Cur__term_sat hv30) rfl rfl rfl SC (S ?_)
     obtain⟨v32,hv32,h⟩:=run_bind h
     refine aB (r:=0) (hc:=.cv (.pv ((aq false) v30.2))) 0 [] [] [] [] [] (spec_l1Cur__term_sat hv32) rfl rfl rfl SC (S ?_)
     obtain⟨v34,hv34,h⟩:=run_bind h
     refine aB (r:=0) (hc:=.cv (.pv ((aq false) v32.2))) 0 [] [] [] [] [] (spec_l1Cur__term_sat hv34) rfl rfl rfl SC (S ?_)
     obtain⟨v36,hv36,h⟩:=run_bind h
     refine AppH.mk (f:=(ao true)) (fun a=>Tt.psize _ a) hv36 SC SC (S ?_)
     refine aa (aN [] [480,512,544,560,576]) (S ?_)
     refine MgF.reg (S ?_)
     cases run_some h
     exact aH SC
    ·refine MgF.reg (S ?_)
     refine ah cs h (fun cs h=>S ?_) (fun cs h=>S ?_)
     ·refine MgF.reg (S ?_)
      refine ah cs h (fun cs h=>S ?_) (fun cs h=>S ?_)
      ·obtain⟨v48,hv48,h⟩:=run_bind h
       obtain⟨v53,hv53,h⟩:=run_bind h
       obtain⟨xs,hxs⟩:=idx0 hv53
       have hx0:v5.1.Args.map (ao true)=.agg [Sx v53.Name,.sl true 2 (v53.Args.map (ao true))]::xs.map (ao true):=by rw[hxs,List.map_cons,Tt.pv_u]
       refine MgF.split (sz:=2) (es:=v5.1.Args.map (ao true)) (sz':=2) (es':=v53.Args.map (ao true)) 80 0 9700 20001 [1] (fun v=>.agg [Sx v53.Name,.lit v]::xs.map (ao true)) (fun v=>by rw[hx0]; rfl) SC (by rw[hx0]; exact⟨Nat.succ_pos _,rfl,rfl⟩) (a6 rfl) (S fun u=>?_)
       refine MgF.drw (aa mixed (S ?_))
       refine aB (r:=0) (hc:=.cv (.pv ((aq false) v7.2))) (pre:=[]) (post:=[(.sl true 1 (([(⟨#[61]⟩:ByteArray),(⟨#[]⟩:ByteArray),(⟨#[81,49]⟩:ByteArray),(⟨#[98,50]⟩:ByteArray)]).map Sx))]) 0 [] [_] [] [(.own 752)] [true] (SatH.give [true] (spec_l1Cur__of_sat hv48) (by first | rfl | simp only[gv_t,gv_f,gv_n,view_sl,view_agg,view_lit,views_I,views_Sx,views_repB,views_repI,aA,bh,List.cons_append]) rfl) rfl rfl rfl SC (S ?_)
       refine IdxH.raw (by simp only[List.length_cons]; omega) (S ?_)
       refine EldH.hd (S ?_)
       refine IdxH.raw (by simp only[List.length_cons]; omega) (S ?_)
       refine EldH.hd (S ?_)
       refine aa (aN [] [752]) (S ?_)
       refine MgF.meld (sz:=2) (es:=.agg [Sx v48.1,.lit u]::xs.map (ao true)) (sz':=2) (es':=v53.Args.map (ao true)) 80 0 9700 20001 [1] u ((v5.1.Args.set (0:Int).toNat (Tt.mk v48.1 v53.Args)).map (ao true)) (by rw[hxs]; show _=List.map (ao true) (Tt.mk v48.1 v53.Args::xs); rw[List.map_cons,Tt.pv_u]; rfl) SC (by decide) ⟨Nat.succ_pos _,rfl,rfl⟩ (a6 rfl) (S ?_)
       refine MgF.reg (S ?_)
       cases run_some h
       exact aH SC
      ·refine MgF.reg (S ?_)
       cases run_some h
       exact aH SC
     ·refine MgF.reg (S ?_)
      cases run_some h
      exact aH SC


theorem spec_l8SizeN_sat(n:Nat):(∀ (a0:Ft) (r:Int),spec_l8SizeN n a0=some r→Sat ai 19 [((am false) a0)] (I r)):=by
 induction n with
 | zero=>exact fun _ _ h=>by simp[spec_l8SizeN] at h
 | succ n ih=>
  refine fun a0 r h=>?_
  obtain⟨h,cs⟩:=au h
  rw[spec_l8SizeN] at h
  refine az (nt:=21) (rs:=[.tmp 2]) (n:=100000) Try.func19 rfl rfl rfl rfl (by simp) (S ?_)
  refine Mg.know_val2 (b:=false) (sz:=5) (es:=a0.Parts.map (am false)) (x:=(.pv ((am false) a0))) 0 [3] SC fun hl0=>?_; rw[aO] at hl0
  replace h:=run_loop h
  refine aX h (fun i3 s3=>[(1,.box (.pv ((am false) a0))),(3,.val (.pv (I s3))),(4,.val (.pv (I (i3:Int))))]) (fun i3 s3=>[]) (aw SC) (fun i3 s3 hi h=>?_) (fun s3 h=>?_)
  ·have w:=wrap_succ (i:=i3) (by omega)
   refine S ?_
   refine aQ cs (by omega) (fun cs=>S ?_)
   obtain⟨v16,hv16,h⟩:=run_bind h
   refine aD (f:=(am false)) hv16 SC (S ?_)
   obtain⟨v18,hv18,h⟩:=run_bind h
   refine aj [false] (ih _ _ hv18) SC (S ?_)
   have h:=run_some h
   refine aJ ⟨_,h,?_⟩
   exact aw SWx
  ·refine S ?_
   refine aR cs (by omega) (fun cs=>S ?_)
   cases run_some h
   exact ag SC
theorem spec_l8Size_sat{a0:Ft}{r:Int}(h:spec_l8Size a0=some r):Sat ai 19 [((am false) a0)] (I r):=by
 obtain⟨n,hn⟩:=lim_some h
 exact(spec_l8SizeN_sat n) _ _ hn

theorem spec_l1Cur__anyFormula_sat{a0:la}  {r:Ft×la}(h:spec_l1Cur__anyFormula a0=some r):SatH ai 13 [] [] .ptr [] (.pv ((aq false) a0)) (.pv ((aq false) r.2)) ((am true) r.1):=by
 obtain⟨h,cs⟩:=au h
 unfold spec_l1Cur__anyFormula at h
 refine SatH.of_k (nt:=59) (rs:=[.cell 2 29]) (n:=100000) 0 Try.func13 rfl rfl rfl rfl rfl (a6 rfl) (by decide) (by first | exact a6 rfl | exact SC) (S ?_)
 obtain⟨v6,hv6,h⟩:=run_bind h
 refine aB (r:=0) (hc:=.cv (.pv ((aq false) a0))) 0 [] [] [] [] [] (spec_l1Cur__formula_sat hv6) rfl rfl rfl SC (S ?_)
 obtain⟨v8,hv8,h⟩:=run_bind h
 refine aB (r:=0) (hc:=.cv (.pv ((aq false) v6.2))) 0 [] [_] [] [(.pv (I 24))] [false] (spec_l1Cur__pick_sat hv8) rfl rfl rfl SC (S ?_)
 refine ah cs h (fun cs h=>S ?_) (fun cs h=>S ?_)
 ·obtain⟨v12,hv12,h⟩:=run_bind h
  refine aB (r:=0) (hc:=.cv (.pv ((aq false) v8.2))) 0 [] [_] [] [(.pv (I 11))] [false] (spec_l1Cur__pick_sat hv12) rfl rfl rfl SC (S ?_)
  cases run_some h
  exact aH SC
 ·refine ah cs h (fun cs h=>S ?_) (fun cs h=>S ?_)
  ·obtain⟨v18,hv18,h⟩:=run_bind h
   refine aB (r:=0) (hc:=.cv (.pv ((aq false) v8.2))) (pre:=[]) (post:=[(.sl true 1 (([(⟨#[88]⟩:ByteArray),(⟨#[97]⟩:ByteArray),(⟨#[]⟩:ByteArray)]).map Sx))]) 0 [] [_] [] [(.own 272)] [true] (SatH.give [true] (spec_l1Cur__of_sat hv18) (by first | rfl | simp only[gv_t,gv_f,gv_n,view_sl,view_agg,view_lit,views_I,views_Sx,views_repB,views_repI,aA,bh,List.cons_append]) rfl) rfl rfl rfl SC (S ?_)
   cases run_some h
   exact aH SC
  ·refine ah cs h (fun cs h=>S ?_) (fun cs h=>S ?_)
   ·obtain⟨v23,hv23,h⟩:=run_bind h
    refine aB (r:=0) (hc:=.cv (.pv ((aq false) v8.2))) 0 [] [] [] [] [] (spec_l1Cur__anyTerm_sat hv23) rfl rfl rfl SC (S ?_)
    cases run_some h
    exact aH SC
   ·refine ah cs h (fun cs h=>S ?_) (fun cs h=>S ?_)
    ·obtain⟨v30,hv30,h⟩:=run_bind h
     refine aB (r:=0) (hc:=.cv (.pv ((aq false) v8.2))) 0 [] [] [] [] [] (spec_l1Cur__formula_sat hv30) rfl rfl rfl SC (S ?_)
     obtain⟨v32,hv32,h⟩:=run_bind h
     refine AppH.mk (f:=(am true)) (fun a=>Ft.psize _ a) hv32 SC SC (S ?_)
     refine aa (aN [] [480,481,496,512]) (S ?_)
     cases run_some h
     exact aH SC
    ·refine ah cs h (fun cs h=>S ?_) (fun cs h=>S ?_)
     ·obtain⟨v37,hv37,h⟩:=run_bind h
      refine aB (r:=0) (hc:=.cv (.pv ((aq false) v8.2))) 0 [] [_] [] [(.pv (I 5))] [false] (spec_l1Cur__pick_sat hv37) rfl rfl rfl SC (S ?_)
      replace h:=run_loop h
      refine Mg.whileN h (fun s13=>[(0,.box (.pv ((aq false) v37.2))),(2,.box (.node [(.pv (I 0)),zab0,(.pv (Sx ⟨#[]⟩)),(.pv (.sl true 5 []))])),(3,.box (.node [(.pv (I s13.1)),(.node [(.pv (Sx s13.2.1)),(.own 96)]),(.pv (Sx s13.2.2.2.1)),(.own 97)])),(4,.val (.pv (I (IntKind.i64.wrap ((36:Int)+v37.1))))),(20000,gh 0)]) (fun s13=>[(96,(2,s13.2.2.1.map (ao true))),(97,(5,s13.2.2.2.2.map (am true)))]) (aw SC) (fun n13 s13 h=>?_)
      refine S ?_
      obtain⟨v40,hv40,h⟩:=run_bind h
      refine aj [false] (spec_l8Size_sat hv40) SC (S ?_)
      refine ah cs h (fun cs h=>S ?_) (fun cs h=>S ?_)
      ·have h:=run_some h
       refine aJ ⟨_,h,?_⟩
       refine St.le_trans (St.le_mk (S:=[(0,.box (.pv ((aq false) v37.2))),(2,.box (.node [(.pv (I 0)),zab0,(.pv (Sx ⟨#[]⟩)),(.pv (.sl true 5 []))])),(3,.box (.node [(.pv (I 4)),zab0,(.pv (Sx ⟨#[]⟩)),(.own 704)])),(4,.val (.pv (I (IntKind.i64.wrap ((36:Int)+v37.1))))),(20000,gh 0)]) (O:=[(704,(5,([(Ft.mk s13.1 (Tt.mk s13.2.1 s13.2.2.1) s13.2.2.2.1 s13.2.2.2.2)]).map (am true)))]) SC SC) ?_
       refine St.le_trans (St.le_nilB (x:=(.node [(.pv (I 4)),zab0,(.pv (Sx ⟨#[]⟩)),(.own 704)])) 3 [1,1] 9766 2 NM SC SC SC) (S ?_)
       refine St.le_rt 704 97 ?_
       refine St.le_rt 9766 96 ?_
       exact aw SC
      ·have h:=run_some h
       cases run_some h
       exact aH SC
     ·refine ah cs h (fun cs h=>S ?_) (fun cs h=>S ?_)
      ·refine ah cs h (fun cs h=>S ?_) (fun cs h=>S ?_)
       ·obtain⟨v55,hv55,h⟩:=run_bind h
        refine aB (r:=0) (hc:=.cv (.pv ((aq false) v8.2))) 0 [] [_] [] [(.pv (I 11))] [false] (spec_l1Cur__pick_sat hv55) rfl rfl rfl SC (S ?_)
        obtain⟨v56,hv56,h⟩:=run_bind h
        refine aD (f:=(am true)) hv56 SC (S ?_)
        obtain⟨w9,hw9,h⟩:=run_bind h
        refine EldH.mk (f:=(am true)) hw9 rfl SC (S ?_)
        refine aa (aN [] []) (S ?_)
        cases run_some h
        exact aH SC
       ·cases run_some h
        exact aH SC
      ·cases run_some h
       exact aH SC

theorem spec_l15Abs_sat{a0:Int}  {r:Int}(h:spec_l15Abs a0=some r):Sat ai 50 [(I a0)] (I r):=by
 obtain⟨h,cs⟩:=au h
 unfold spec_l15Abs at h
 refine az (nt:=8) (rs:=[.tmp 2]) (n:=100000) Try.func50 rfl rfl rfl rfl (by simp) (S ?_)
 refine ah cs h (fun cs h=>S ?_) (fun cs h=>S ?_)
 ·cases run_some h
  exact ag SC
 ·cases run_some h
  exact ag SC

theorem spec_l1NumN_sat(n:Nat):(∀ (a0:Int) (r:ByteArray),spec_l1NumN n a0=some r→Sat ai 49 [(I a0)] (Sx r)):=by
 induction n with
 | zero=>exact fun _ _ h=>by simp[spec_l1NumN] at h
 | succ n ih=>
  refine fun a0 r h=>?_
  obtain⟨h,cs⟩:=au h
  rw[spec_l1NumN] at h
  refine az (nt:=25) (rs:=[.tmp 2]) (n:=100000) Try.func49 rfl rfl rfl rfl (by simp) (S ?_)
  refine ah cs h (fun cs h=>S ?_) (fun cs h=>S ?_)
  ·obtain⟨v7,hv7,h⟩:=run_bind h
   refine aj [false] (ih _ _ hv7) SC (S ?_)
   obtain⟨v8,hv8,h⟩:=run_bind h
   refine SappH.mk hv8 (S ?_)
   cases run_some h
   exact ag SC
  ·refine ah cs h (fun cs h=>S ?_) (fun cs h=>S ?_)
   ·obtain⟨v14,hv14,h⟩:=run_bind h
    refine SslcH.mk hv14 (S ?_)
    cases run_some h
    exact ag SC
   ·obtain⟨v16,hv16,h⟩:=run_bind h
    refine quoH.mk hv16 (S ?_)
    obtain⟨v17,hv17,h⟩:=run_bind h
    refine aj [false] (ih _ _ hv17) SC (S ?_)
    obtain⟨v19,hv19,h⟩:=run_bind h
    refine remH.mk hv19 (S ?_)
    obtain⟨v21,hv21,h⟩:=run_bind h
    refine remH.mk hv21 (S ?_)
    obtain⟨v23,hv23,h⟩:=run_bind h
    refine SslcH.mk hv23 (S ?_)
    obtain⟨v24,hv24,h⟩:=run_bind h
    refine SappH.mk hv24 (S ?_)
    refine aa (aN [] []) (S ?_)
    cases run_some h
    exact ag SC
theorem spec_l1Num_sat{a0:Int}{r:ByteArray}(h:spec_l1Num a0=some r):Sat ai 49 [(I a0)] (Sx r):=by
 obtain⟨n,hn⟩:=lim_some h
 exact(spec_l1NumN_sat n) _ _ hn

theorem spec_l20Literal_sat{a0:Int}  {r:Ft}(h:spec_l20Literal a0=some r):Sat ai 27 [(I a0)] ((am true) r):=by
 obtain⟨h,cs⟩:=au h
 unfold spec_l20Literal at h
 refine az (nt:=16) (rs:=[.cell 2 29]) (n:=100000) Try.func27 rfl rfl rfl rfl (by simp) (S ?_)
 obtain⟨v5,hv5,h⟩:=run_bind h
 refine aj [false] (spec_l15Abs_sat hv5) SC (S ?_)
 obtain⟨v6,hv6,h⟩:=run_bind h
 refine aj [false] (spec_l1Num_sat hv6) SC (S ?_)
 obtain⟨v7,hv7,h⟩:=run_bind h
 refine SappH.mk hv7 (S ?_)
 refine ah cs h (fun cs h=>S ?_) (fun cs h=>S ?_)
 ·cases run_some h
  exact ag SC
 ·cases run_some h
  exact ag SC

theorem spec_l1Cur__variables20N_sat(n:Nat):(∀ (a0:la) (a1:Int) (r:Ft×la),spec_l1Cur__variables20N n a0 a1=some r→SatH ai 14 [] [(I a1)] .ptr [] (.pv ((aq false) a0)) (.pv ((aq false) r.2)) ((am true) r.1)):=by
 induction n with
 | zero=>exact fun _ _ _ h=>by simp[spec_l1Cur__variables20N] at h
 | succ n ih=>
  refine fun a0 a1 r h=>?_
  obtain⟨h,cs⟩:=au h
  rw[spec_l1Cur__variables20N] at h
  refine SatH.of_k (nt:=45) (rs:=[.cell 4 29]) (n:=100000) 0 Try.func14 rfl rfl rfl rfl rfl (a6 rfl) (by decide) (by first | exact a6 rfl | exact SC) (S ?_)
  refine ah cs h (fun cs h=>S ?_) (fun cs h=>S ?_)
  ·obtain⟨v13,hv13,h⟩:=run_bind h
   refine aB (r:=0) (hc:=.cv (.pv ((aq false) a0))) 0 [] [_] [] [(.pv (I 8))] [false] (spec_l1Cur__one_sat hv13) rfl rfl rfl SC (S ?_)
   refine ah cs h (fun cs h=>S ?_) (fun cs h=>S ?_)
   ·obtain⟨v15,hv15,h⟩:=run_bind h
    refine aB (r:=0) (hc:=.cv (.pv ((aq false) v13.2))) 0 [] [_] [] [(.pv (I 2))] [false] (spec_l1Cur__pick_sat hv15) rfl rfl rfl SC (S ?_)
    cases run_some h
    exact aH SC
   ·obtain⟨v19,hv19,h⟩:=run_bind h
    refine aB (r:=0) (hc:=.cv (.pv ((aq false) v13.2))) 0 [] [_] [] [(.pv (I 4))] [false] (spec_l1Cur__pick_sat hv19) rfl rfl rfl SC (S ?_)
    obtain⟨v21,hv21,h⟩:=run_bind h
    refine aj [false] (spec_l20Literal_sat hv21) SC (S ?_)
    cases run_some h
    exact aH SC
  ·obtain⟨v10,hv10,h⟩:=run_bind h
   refine aB (r:=0) (hc:=.cv (.pv ((aq false) a0))) 0 [] [_] [] [(.pv (I 4))] [false] (spec_l1Cur__one_sat hv10) rfl rfl rfl SC (S ?_)
   refine ah cs h (fun cs h=>S ?_) (fun cs h=>S ?_)
   ·obtain⟨v13,hv13,h⟩:=run_bind h
    refine aB (r:=0) (hc:=.cv (.pv ((aq false) v10.2))) 0 [] [_] [] [(.pv (I 8))] [false] (spec_l1Cur__one_sat hv13) rfl rfl rfl SC (S ?_)
    refine ah cs h (fun cs h=>S ?_) (fun cs h=>S ?_)
    ·obtain⟨v15,hv15,h⟩:=run_bind h
     refine aB (r:=0) (hc:=.cv (.pv ((aq false) v13.2))) 0 [] [_] [] [(.pv (I 2))] [false] (spec_l1Cur__pick_sat hv15) rfl rfl rfl SC (S ?_)
     cases run_some h
     exact aH SC
    ·obtain⟨v19,hv19,h⟩:=run_bind h
     refine aB (r:=0) (hc:=.cv (.pv ((aq false) v13.2))) 0 [] [_] [] [(.pv (I 4))] [false] (spec_l1Cur__pick_sat hv19) rfl rfl rfl SC (S ?_)
     obtain⟨v21,hv21,h⟩:=run_bind h
     refine aj [false] (spec_l20Literal_sat hv21) SC (S ?_)
     cases run_some h
     exact aH SC
   ·obtain⟨v24,hv24,h⟩:=run_bind h
    refine aB (r:=0) (hc:=.cv (.pv ((aq false) v10.2))) (pre:=[]) (post:=[(.sl true 1 (([(4:Int),(5:Int),(6:Int),(7:Int)]).map I))]) 0 [] [_] [] [(.own 368)] [true] (SatH.give [true] (spec_l1Cur__among_sat hv24) (by first | rfl | simp only[gv_t,gv_f,gv_n,view_sl,view_agg,view_lit,views_I,views_Sx,views_repB,views_repI,aA,bh,List.cons_append]) rfl) rfl rfl rfl SC (S ?_)
    refine ah cs h (fun cs h=>S ?_) (fun cs h=>S ?_)
    ·obtain⟨v31,hv31,h⟩:=run_bind h
     refine aB (r:=0) (hc:=.cv (.pv ((aq false) v24.2))) 0 [] [_] [] [(.pv (I (IntKind.i64.wrap (a1-1))))] [false] (ih _ _ _ hv31) rfl rfl rfl SC (S ?_)
     cases run_some h
     exact aH SC
    ·obtain⟨v38,hv38,h⟩:=run_bind h
     refine aB (r:=0) (hc:=.cv (.pv ((aq false) v24.2))) 0 [] [_] [] [(.pv (I (IntKind.i64.wrap (a1-1))))] [false] (ih _ _ _ hv38) rfl rfl rfl SC (S ?_)
     obtain⟨v42,hv42,h⟩:=run_bind h
     refine aB (r:=0) (hc:=.cv (.pv ((aq false) v38.2))) 0 [] [_] [] [(.pv (I (IntKind.i64.wrap (a1-1))))] [false] (ih _ _ _ hv42) rfl rfl rfl SC (S ?_)
     cases run_some h
     exact aH SC
theorem spec_l1Cur__variables20_sat{a0:la}{a1:Int}{r:Ft×la}(h:spec_l1Cur__variables20 a0 a1=some r):SatH ai 14 [] [(I a1)] .ptr [] (.pv ((aq false) a0)) (.pv ((aq false) r.2)) ((am true) r.1):=by
 obtain⟨n,hn⟩:=lim_some h
 exact(spec_l1Cur__variables20N_sat n) _ _ _ hn

theorem spec_DrawSimplifyFormula_sat{a0:List Int}  {r:Ft}(h:spec_DrawSimplifyFormula a0=some r):Sat ai 5 [(.sl false 1 (a0.map (Ik .u8)))] ((am true) r):=by
 obtain⟨h,cs⟩:=au h
 unfold spec_DrawSimplifyFormula at h
 refine az (nt:=13) (rs:=[.cell 2 29]) (n:=100000) Try.func5 rfl rfl rfl rfl (by simp) (S ?_)
 obtain⟨v8,hv8,h⟩:=run_bind h
 refine aB (r:=6) (hc:=.cv (.node [(.pv (.sl false 1 (a0.map (Ik .u8)))),(.pv (I 0)),(.pv ((Ik .u64) (0:Int)))])) 0 [] [_] [] [(.pv (I 2))] [false] (spec_l1Cur__one_sat hv8) rfl rfl rfl SC (S ?_)
 refine ah cs h (fun cs h=>S ?_) (fun cs h=>S ?_)
 ·obtain⟨v10,hv10,h⟩:=run_bind h
  refine aB (r:=6) (hc:=.cv (.pv ((aq false) v8.2))) 0 [] [] [] [] [] (spec_l1Cur__anyFormula_sat hv10) rfl rfl rfl SC (S ?_)
  cases run_some h
  exact ag SC
 ·obtain⟨v12,hv12,h⟩:=run_bind h
  refine aB (r:=6) (hc:=.cv (.pv ((aq false) v8.2))) 0 [] [_] [] [(.pv (I 5))] [false] (spec_l1Cur__variables20_sat hv12) rfl rfl rfl SC (S ?_)
  cases run_some h
  exact ag SC

theorem impl_sizeOfN_sat(n:Nat):(∀ (a0:Ft) (r:Int),impl_sizeOfN n a0=some r→Sat ai 29 [((am false) a0)] (I r)):=by
 induction n with
 | zero=>exact fun _ _ h=>by simp[impl_sizeOfN] at h
 | succ n ih=>
  refine fun a0 r h=>?_
  obtain⟨h,cs⟩:=au h
  rw[impl_sizeOfN] at h
  refine az (nt:=22) (rs:=[.tmp 2]) (n:=100000) Try.func29 rfl rfl rfl rfl (by simp) (S ?_)
  refine bj (b:=false) (sz:=5) (es:=a0.Parts.map (am false)) 7 SC fun hl7=>?_; rw[aO] at hl7
  replace h:=run_loop h
  refine aX h (fun i3 s3=>[(3,.val (.pv (I s3))),(7,.val (.pv (.sl false 5 (a0.Parts.map (am false))))),(8,.val (.pv (I (a0.Parts.length:Int)))),(9,.val (.pv (I (i3:Int))))]) (fun i3 s3=>[]) (aw SC) (fun i3 s3 hi h=>?_) (fun s3 h=>?_)
  ·have w:=wrap_succ (i:=i3) (by omega)
   refine S ?_
   refine aQ cs (by omega) (fun cs=>S ?_)
   obtain⟨v11,hv11,h⟩:=run_bind h
   refine aD (f:=(am false)) hv11 SC (S ?_)
   refine ah cs h (fun cs h=>S ?_) (fun cs h=>S ?_)
   ·cases run_some h
    exact ag SC
   ·obtain⟨v18,hv18,h⟩:=run_bind h
    refine aj [false] (ih _ _ hv18) SC (S ?_)
    have h:=run_some h
    refine aJ ⟨_,h,?_⟩
    exact aw SWx
  ·refine S ?_
   refine aR cs (by omega) (fun cs=>S ?_)
   cases run_some h
   exact ag SC
theorem impl_sizeOf_sat{a0:Ft}{r:Int}(h:impl_sizeOf a0=some r):Sat ai 29 [((am false) a0)] (I r):=by
 obtain⟨n,hn⟩:=lim_some h
 exact(impl_sizeOfN_sat n) _ _ hn

theorem impl_isQuantifier_sat{a0:Int}  {r:Bool}(h:impl_isQuantifier a0=some r):Sat ai 51 [(I a0)] (B r):=by
 obtain⟨h,cs⟩:=au h
 unfold impl_isQuantifier at h
 refine az (nt:=9) (rs:=[.tmp 2]) (n:=100000) Try.func51 rfl rfl rfl rfl (by simp) (S ?_)
 refine ah cs h (fun cs h=>S ?_) (fun cs h=>S ?_)
 ·cases run_some h
  exact ag SC
 ·cases run_some h
  exact ag SC

theorem impl_isBinary_sat{a0:Int}  {r:Bool}(h:impl_isBinary a0=some r):Sat ai 52 [(I a0)] (B r):=by
 obtain⟨h,cs⟩:=au h
 unfold impl_isBinary at h
 refine az (nt:=13) (rs:=[.tmp 2]) (n:=100000) Try.func52 rfl rfl rfl rfl (by simp) (S ?_)
 refine ah cs h (fun cs h=>S ?_) (fun cs h=>S ?_)
 ·cases run_some h
  exact ag SC
 ·refine ah cs h (fun cs h=>S ?_) (fun cs h=>S ?_)
  ·cases run_some h
   exact ag SC
  ·cases run_some h
   exact ag SC

theorem impl_isUpper_sat{a0:Int}  {r:Bool}(h:impl_isUpper a0=some r):Sat ai 69 [((Ik .u8) a0)] (B r):=by
 obtain⟨h,cs⟩:=au h
 unfold impl_isUpper at h
 refine az (nt:=9) (rs:=[.tmp 2]) (n:=100000) Try.func69 rfl rfl rfl rfl (by simp) (S ?_)
 refine ah cs h (fun cs h=>S ?_) (fun cs h=>S ?_)
 ·cases run_some h
  exact ag SC
 ·cases run_some h
  exact ag SC

theorem impl_isLower_sat{a0:Int}  {r:Bool}(h:impl_isLower a0=some r):Sat ai 70 [((Ik .u8) a0)] (B r):=by
 obtain⟨h,cs⟩:=au h
 unfold impl_isLower at h
 refine az (nt:=9) (rs:=[.tmp 2]) (n:=100000) Try.func70 rfl rfl rfl rfl (by simp) (S ?_)
 refine ah cs h (fun cs h=>S ?_) (fun cs h=>S ?_)
 ·cases run_some h
  exact ag SC
 ·cases run_some h
  exact ag SC

theorem impl_isDigit_sat{a0:Int}  {r:Bool}(h:impl_isDigit a0=some r):Sat ai 71 [((Ik .u8) a0)] (B r):=by
 obtain⟨h,cs⟩:=au h
 unfold impl_isDigit at h
 refine az (nt:=9) (rs:=[.tmp 2]) (n:=100000) Try.func71 rfl rfl rfl rfl (by simp) (S ?_)
 refine ah cs h (fun cs h=>S ?_) (fun cs h=>S ?_)
 ·cases run_some h
  exact ag SC
 ·cases run_some h
  exact ag SC

theorem impl_within_sat{a0:Int}{a1:Int}{a2:Int}  {r:Bool}(h:impl_within a0 a1 a2=some r):Sat ai 72 [(I a0),(I a1),(I a2)] (B r):=by
 obtain⟨h,cs⟩:=au h
 unfold impl_within at h
 refine az (nt:=15) (rs:=[.tmp 6]) (n:=100000) Try.func72 rfl rfl rfl rfl (by simp) (S ?_)
 refine ah cs h (fun cs h=>S ?_) (fun cs h=>S ?_)
 ·cases run_some h
  exact ag SC
 ·cases run_some h
  exact ag SC

theorem impl_isVariable_sat{a0:ByteArray}  {r:Bool}(h:impl_isVariable a0=some r):Sat ai 53 [(Sx a0)] (B r):=by
 obtain⟨h,cs⟩:=au h
 unfold impl_isVariable at h
 refine az (nt:=40) (rs:=[.tmp 2]) (n:=100000) Try.func53 rfl rfl rfl rfl (by simp) (S ?_)
 obtain⟨N2,hN2,h⟩:=run_bind h
 obtain⟨hN2a,hN2b⟩:=bnd_some hN2
 replace h:=run_loop h
 refine aX h (fun i2 s2=>[(0,.val (.pv (Sx a0))),(5,.val (.pv (I (a0.size:Int)))),(6,.val (.pv (I (i2:Int))))]) (fun i2 s2=>[]) (aw SC) (fun i2 s2 hi h=>?_) (fun s2 h=>?_)
 ·have w:=wrap_succ (i:=i2) (by omega)
  refine S ?_
  refine aQ cs (by omega) (fun cs=>S ?_)
  refine ah cs h (fun cs h=>S ?_) (fun cs h=>S ?_)
  ·obtain⟨v14,hv14,h⟩:=run_bind h
   refine bd hv14 (S ?_)
   obtain⟨v15,hv15,h⟩:=run_bind h
   refine aj [false] (impl_isUpper_sat hv15) SC (S ?_)
   refine ah cs h (fun cs h=>S ?_) (fun cs h=>S ?_)
   ·refine ah cs h (fun cs h=>S ?_) (fun cs h=>S ?_)
    ·obtain⟨v24,hv24,h⟩:=run_bind h
     refine bd hv24 (S ?_)
     obtain⟨v25,hv25,h⟩:=run_bind h
     refine aj [false] (impl_isLower_sat hv25) SC (S ?_)
     refine ah cs h (fun cs h=>S ?_) (fun cs h=>S ?_)
     ·have h:=run_some h
      refine aJ ⟨_,h,?_⟩
      exact aw SWx
     ·obtain⟨v31,hv31,h⟩:=run_bind h
      refine bd hv31 (S ?_)
      obtain⟨v32,hv32,h⟩:=run_bind h
      refine aj [false] (impl_isDigit_sat hv32) SC (S ?_)
      refine ah cs h (fun cs h=>S ?_) (fun cs h=>S ?_)
      ·have h:=run_some h
       refine aJ ⟨_,h,?_⟩
       exact aw SWx
      ·cases run_some h
       exact ag SC
    ·have h:=run_some h
     refine aJ ⟨_,h,?_⟩
     exact aw SWx
   ·cases run_some h
    exact ag SC
  ·refine ah cs h (fun cs h=>S ?_) (fun cs h=>S ?_)
   ·obtain⟨v24,hv24,h⟩:=run_bind h
    refine bd hv24 (S ?_)
    obtain⟨v25,hv25,h⟩:=run_bind h
    refine aj [false] (impl_isLower_sat hv25) SC (S ?_)
    refine ah cs h (fun cs h=>S ?_) (fun cs h=>S ?_)
    ·have h:=run_some h
     refine aJ ⟨_,h,?_⟩
     exact aw SWx
    ·obtain⟨v31,hv31,h⟩:=run_bind h
     refine bd hv31 (S ?_)
     obtain⟨v32,hv32,h⟩:=run_bind h
     refine aj [false] (impl_isDigit_sat hv32) SC (S ?_)
     refine ah cs h (fun cs h=>S ?_) (fun cs h=>S ?_)
     ·have h:=run_some h
      refine aJ ⟨_,h,?_⟩
      exact aw SWx
     ·cases run_some h
      exact ag SC
   ·have h:=run_some h
    refine aJ ⟨_,h,?_⟩
    exact aw SWx
 ·refine S ?_
  refine aR cs (by omega) (fun cs=>S ?_)
  obtain⟨v39,hv39,h⟩:=run_bind h
  refine aj [false,false,false] (impl_within_sat hv39) SC (S ?_)
  cases run_some h
  exact ag SC

theorem impl_isEquality_sat{a0:Tt}  {r:Bool}(h:impl_isEquality a0=some r):Sat ai 73 [((ao false) a0)] (B r):=by
 obtain⟨h,cs⟩:=au h
 unfold impl_isEquality at h
 refine az (nt:=6) (rs:=[.tmp 2]) (n:=100000) Try.func73 rfl rfl rfl rfl (by simp) (S ?_)
 cases run_some h
 exact ag SC

theorem impl_sizeN_sat(n:Nat):(∀ (a0:Tt) (r:Int),impl_sizeN n a0=some r→Sat ai 85 [((ao false) a0)] (I r)):=by
 induction n with
 | zero=>exact fun _ _ h=>by simp[impl_sizeN] at h
 | succ n ih=>
  refine fun a0 r h=>?_
  obtain⟨h,cs⟩:=au h
  rw[impl_sizeN] at h
  refine az (nt:=22) (rs:=[.tmp 2]) (n:=100000) Try.func85 rfl rfl rfl rfl (by simp) (S ?_)
  refine bj (b:=false) (sz:=2) (es:=a0.Args.map (ao false)) 7 SC fun hl7=>?_; rw[aO] at hl7
  replace h:=run_loop h
  refine aX h (fun i3 s3=>[(3,.val (.pv (I s3))),(7,.val (.pv (.sl false 2 (a0.Args.map (ao false))))),(8,.val (.pv (I (a0.Args.length:Int)))),(9,.val (.pv (I (i3:Int))))]) (fun i3 s3=>[]) (aw SC) (fun i3 s3 hi h=>?_) (fun s3 h=>?_)
  ·have w:=wrap_succ (i:=i3) (by omega)
   refine S ?_
   refine aQ cs (by omega) (fun cs=>S ?_)
   obtain⟨v11,hv11,h⟩:=run_bind h
   refine aD (f:=(ao false)) hv11 SC (S ?_)
   refine ah cs h (fun cs h=>S ?_) (fun cs h=>S ?_)
   ·cases run_some h
    exact ag SC
   ·obtain⟨v18,hv18,h⟩:=run_bind h
    refine aj [false] (ih _ _ hv18) SC (S ?_)
    have h:=run_some h
    refine aJ ⟨_,h,?_⟩
    exact aw SWx
  ·refine S ?_
   refine aR cs (by omega) (fun cs=>S ?_)
   cases run_some h
   exact ag SC
theorem impl_size_sat{a0:Tt}{r:Int}(h:impl_size a0=some r):Sat ai 85 [((ao false) a0)] (I r):=by
 obtain⟨n,hn⟩:=lim_some h
 exact(impl_sizeN_sat n) _ _ hn

theorem impl_depthN_sat(n:Nat):(∀ (a0:Tt) (r:Int),impl_depthN n a0=some r→Sat ai 86 [((ao false) a0)] (I r)):=by
 induction n with
 | zero=>exact fun _ _ h=>by simp[impl_depthN] at h
 | succ n ih=>
  refine fun a0 r h=>?_
  obtain⟨h,cs⟩:=au h
  rw[impl_depthN] at h
  refine az (nt:=20) (rs:=[.tmp 2]) (n:=100000) Try.func86 rfl rfl rfl rfl (by simp) (S ?_)
  refine bj (b:=false) (sz:=2) (es:=a0.Args.map (ao false)) 7 SC fun hl7=>?_; rw[aO] at hl7
  replace h:=run_loop h
  refine aX h (fun i3 s3=>[(3,.val (.pv (I s3))),(7,.val (.pv (.sl false 2 (a0.Args.map (ao false))))),(8,.val (.pv (I (a0.Args.length:Int)))),(9,.val (.pv (I (i3:Int))))]) (fun i3 s3=>[]) (aw SC) (fun i3 s3 hi h=>?_) (fun s3 h=>?_)
  ·have w:=wrap_succ (i:=i3) (by omega)
   refine S ?_
   refine aQ cs (by omega) (fun cs=>S ?_)
   obtain⟨v11,hv11,h⟩:=run_bind h
   refine aD (f:=(ao false)) hv11 SC (S ?_)
   obtain⟨v15,hv15,h⟩:=run_bind h
   refine aj [false] (ih _ _ hv15) SC (S ?_)
   have h:=run_some h
   refine aJ ⟨_,h,?_⟩
   exact aw SWx
  ·refine S ?_
   refine aR cs (by omega) (fun cs=>S ?_)
   cases run_some h
   exact ag SC
theorem impl_depth_sat{a0:Tt}{r:Int}(h:impl_depth a0=some r):Sat ai 86 [((ao false) a0)] (I r):=by
 obtain⟨n,hn⟩:=lim_some h
 exact(impl_depthN_sat n) _ _ hn

theorem impl_isSmall_sat{a0:Tt}  {r:Bool}(h:impl_isSmall a0=some r):Sat ai 74 [((ao false) a0)] (B r):=by
 obtain⟨h,cs⟩:=au h
 unfold impl_isSmall at h
 refine az (nt:=11) (rs:=[.tmp 2]) (n:=100000) Try.func74 rfl rfl rfl rfl (by simp) (S ?_)
 obtain⟨v4,hv4,h⟩:=run_bind h
 refine aj [false] (impl_size_sat hv4) SC (S ?_)
 refine ah cs h (fun cs h=>S ?_) (fun cs h=>S ?_)
 ·obtain⟨v8,hv8,h⟩:=run_bind h
  refine aj [false] (impl_depth_sat hv8) SC (S ?_)
  cases run_some h
  exact ag SC
 ·cases run_some h
  exact ag SC

theorem impl_reserved_sat   {r:List ByteArray}(h:impl_reserved  =some r):Sat ai 90 [] (.sl true 1 (r.map Sx)):=by
 obtain⟨h,cs⟩:=au h
 unfold impl_reserved at h
 refine az (nt:=2) (rs:=[.tmp 0]) (n:=100000) Try.func90 rfl rfl rfl rfl (by simp) (S ?_)
 cases run_some h
 exact ag SC

theorem slices_Index_Sstring_string_sat{a0:List ByteArray}{a1:ByteArray}  {r:Int}(h:slices_Index_Sstring_string a0 a1=some r):Sat ai 99 [(.sl false 1 (a0.map Sx)),(Sx a1)] (I r):=by
 obtain⟨h,cs⟩:=au h
 unfold slices_Index_Sstring_string at h
 refine az (nt:=19) (rs:=[.tmp 4]) (n:=100000) Try.func99 rfl rfl rfl rfl (by simp) (S ?_)
 refine bj (b:=false) (sz:=1) (es:=a0.map Sx) 0 SC fun hl0=>?_; rw[aO] at hl0
 replace h:=run_loop h
 refine aX h (fun i2 s2=>[(0,.val (.pv (.sl false 1 (a0.map Sx)))),(1,.val (.pv (Sx a1))),(7,.val (.pv (I (a0.length:Int)))),(8,.val (.pv (I (i2:Int))))]) (fun i2 s2=>[]) (aw SC) (fun i2 s2 hi h=>?_) (fun s2 h=>?_)
 ·have w:=wrap_succ (i:=i2) (by omega)
  refine S ?_
  refine aQ cs (by omega) (fun cs=>S ?_)
  obtain⟨v14,hv14,h⟩:=run_bind h
  refine aD (f:=Sx) hv14 SC (S ?_)
  refine ah cs h (fun cs h=>S ?_) (fun cs h=>S ?_)
  ·cases run_some h
   exact ag SC
  ·have h:=run_some h
   refine aJ ⟨_,h,?_⟩
   exact aw SWx
 ·refine S ?_
  refine aR cs (by omega) (fun cs=>S ?_)
  cases run_some h
  exact ag SC

theorem slices_Contains_Sstring_string_sat{a0:List ByteArray}{a1:ByteArray}  {r:Bool}(h:slices_Contains_Sstring_string a0 a1=some r):Sat ai 89 [(.sl false 1 (a0.map Sx)),(Sx a1)] (B r):=by
 obtain⟨h,cs⟩:=au h
 unfold slices_Contains_Sstring_string at h
 refine az (nt:=9) (rs:=[.tmp 4]) (n:=100000) Try.func89 rfl rfl rfl rfl (by simp) (S ?_)
 obtain⟨v7,hv7,h⟩:=run_bind h
 refine aj [false,false] (slices_Index_Sstring_string_sat hv7) SC (S ?_)
 cases run_some h
 exact ag SC

theorem impl_isSymbol_sat{a0:ByteArray}  {r:Bool}(h:impl_isSymbol a0=some r):Sat ai 76 [(Sx a0)] (B r):=by
 obtain⟨h,cs⟩:=au h
 unfold impl_isSymbol at h
 refine az (nt:=48) (rs:=[.tmp 2]) (n:=100000) Try.func76 rfl rfl rfl rfl (by simp) (S ?_)
 obtain⟨N2,hN2,h⟩:=run_bind h
 obtain⟨hN2a,hN2b⟩:=bnd_some hN2
 replace h:=run_loop h
 refine aX h (fun i2 s2=>[(0,.val (.pv (Sx a0))),(5,.val (.pv (I (a0.size:Int)))),(6,.val (.pv (I (i2:Int))))]) (fun i2 s2=>[]) (aw SC) (fun i2 s2 hi h=>?_) (fun s2 h=>?_)
 ·have w:=wrap_succ (i:=i2) (by omega)
  refine S ?_
  refine aQ cs (by omega) (fun cs=>S ?_)
  refine ah cs h (fun cs h=>S ?_) (fun cs h=>S ?_)
  ·obtain⟨v14,hv14,h⟩:=run_bind h
   refine bd hv14 (S ?_)
   obtain⟨v15,hv15,h⟩:=run_bind h
   refine aj [false] (impl_isLower_sat hv15) SC (S ?_)
   refine ah cs h (fun cs h=>S ?_) (fun cs h=>S ?_)
   ·obtain⟨v21,hv21,h⟩:=run_bind h
    refine bd hv21 (S ?_)
    obtain⟨v22,hv22,h⟩:=run_bind h
    refine aj [false] (impl_isLower_sat hv22) SC (S ?_)
    refine ah cs h (fun cs h=>S ?_) (fun cs h=>S ?_)
    ·have h:=run_some h
     refine aJ ⟨_,h,?_⟩
     exact aw SWx
    ·obtain⟨v27,hv27,h⟩:=run_bind h
     refine bd hv27 (S ?_)
     obtain⟨v28,hv28,h⟩:=run_bind h
     refine aj [false] (impl_isDigit_sat hv28) SC (S ?_)
     refine ah cs h (fun cs h=>S ?_) (fun cs h=>S ?_)
     ·have h:=run_some h
      refine aJ ⟨_,h,?_⟩
      exact aw SWx
     ·obtain⟨v34,hv34,h⟩:=run_bind h
      refine bd hv34 (S ?_)
      refine ah cs h (fun cs h=>S ?_) (fun cs h=>S ?_)
      ·have h:=run_some h
       refine aJ ⟨_,h,?_⟩
       exact aw SWx
      ·cases run_some h
       exact ag SC
   ·cases run_some h
    exact ag SC
  ·obtain⟨v21,hv21,h⟩:=run_bind h
   refine bd hv21 (S ?_)
   obtain⟨v22,hv22,h⟩:=run_bind h
   refine aj [false] (impl_isLower_sat hv22) SC (S ?_)
   refine ah cs h (fun cs h=>S ?_) (fun cs h=>S ?_)
   ·have h:=run_some h
    refine aJ ⟨_,h,?_⟩
    exact aw SWx
   ·obtain⟨v27,hv27,h⟩:=run_bind h
    refine bd hv27 (S ?_)
    obtain⟨v28,hv28,h⟩:=run_bind h
    refine aj [false] (impl_isDigit_sat hv28) SC (S ?_)
    refine ah cs h (fun cs h=>S ?_) (fun cs h=>S ?_)
    ·have h:=run_some h
     refine aJ ⟨_,h,?_⟩
     exact aw SWx
    ·obtain⟨v34,hv34,h⟩:=run_bind h
     refine bd hv34 (S ?_)
     refine ah cs h (fun cs h=>S ?_) (fun cs h=>S ?_)
     ·have h:=run_some h
      refine aJ ⟨_,h,?_⟩
      exact aw SWx
     ·cases run_some h
      exact ag SC
 ·refine S ?_
  refine aR cs (by omega) (fun cs=>S ?_)
  obtain⟨v41,hv41,h⟩:=run_bind h
  refine aj [false,false,false] (impl_within_sat hv41) SC (S ?_)
  refine ah cs h (fun cs h=>S ?_) (fun cs h=>S ?_)
  ·obtain⟨v43,hv43,h⟩:=run_bind h
   refine aj [] (impl_reserved_sat hv43) SC (S ?_)
   obtain⟨v45,hv45,h⟩:=run_bind h
   refine aj [false,false] (slices_Contains_Sstring_string_sat hv45) SC (S ?_)
   cases run_some h
   exact ag SC
  ·cases run_some h
   exact ag SC

theorem slices_IndexFunc_Simpl_Term_impl_Term_sat{a0:List Tt}{a1:Tt→Option Bool}{a1_id:FuncId}{a1_cs:List PV}(a1_ok:∀ y0 r,a1 y0=some r→Sat ai a1_id (((ao false) y0)::a1_cs) (B r))(a1_cz:CapsOk a1_cs=True){r:Int}(h:slices_IndexFunc_Simpl_Term_impl_Term a0 a1=some r):Sat ai 98 [(.sl false 2 (a0.map (ao false))),.clo a1_id a1_cs] (I r):=by
 obtain⟨h,cs⟩:=au h
 unfold slices_IndexFunc_Simpl_Term_impl_Term at h
 have cs:=aa a1_cz cs
 refine az (nt:=19) (rs:=[.tmp 4]) (n:=100000) Try.func98 rfl rfl rfl rfl (by simp) (S ?_)
 refine bj (b:=false) (sz:=2) (es:=a0.map (ao false)) 0 SC fun hl0=>?_; rw[aO] at hl0
 replace h:=run_loop h
 refine aX h (fun i2 s2=>[(0,.val (.pv (.sl false 2 (a0.map (ao false))))),(1,.val (.pv (.clo a1_id a1_cs))),(7,.val (.pv (I (a0.length:Int)))),(8,.val (.pv (I (i2:Int))))]) (fun i2 s2=>[]) (aw SC) (fun i2 s2 hi h=>?_) (fun s2 h=>?_)
 ·have w:=wrap_succ (i:=i2) (by omega)
  refine S ?_
  refine aQ cs (by omega) (fun cs=>S ?_)
  obtain⟨v14,hv14,h⟩:=run_bind h
  refine aD (f:=(ao false)) hv14 SC (S ?_)
  obtain⟨v16,hv16,h⟩:=run_bind h
  refine aj [false] (a1_ok _ _ hv16) SC (S ?_)
  refine ah cs h (fun cs h=>S ?_) (fun cs h=>S ?_)
  ·cases run_some h
   exact ag SC
  ·have h:=run_some h
   refine aJ ⟨_,h,?_⟩
   exact aw SWx
 ·refine S ?_
  refine aR cs (by omega) (fun cs=>S ?_)
  cases run_some h
  exact ag SC

theorem slices_ContainsFunc_Simpl_Term_impl_Term_sat{a0:List Tt}{a1:Tt→Option Bool}{a1_id:FuncId}{a1_cs:List PV}(a1_ok:∀ y0 r,a1 y0=some r→Sat ai a1_id (((ao false) y0)::a1_cs) (B r))(a1_cz:CapsOk a1_cs=True){r:Bool}(h:slices_ContainsFunc_Simpl_Term_impl_Term a0 a1=some r):Sat ai 87 [(.sl false 2 (a0.map (ao false))),.clo a1_id a1_cs] (B r):=by
 obtain⟨h,cs⟩:=au h
 unfold slices_ContainsFunc_Simpl_Term_impl_Term at h
 have cs:=aa a1_cz cs
 refine az (nt:=9) (rs:=[.tmp 4]) (n:=100000) Try.func87 rfl rfl rfl rfl (by simp) (S ?_)
 obtain⟨v7,hv7,h⟩:=run_bind h
 refine aj [false,false] (slices_IndexFunc_Simpl_Term_impl_Term_sat a1_ok a1_cz hv7) SC (S ?_)
 cases run_some h
 exact ag SC

theorem impl_hasNamesN_sat(n:Nat):(∀ (a0:Tt) (r:Bool),impl_hasNamesN n a0=some r→Sat ai 75 [((ao false) a0)] (B r))∧(∀ (a0:Tt) (r:Bool),impl_hasNames_1N n a0=some r→Sat ai 88 [((ao false) a0)] (B r)):=by
 induction n with
 | zero=>exact⟨fun _ _ h=>by simp[impl_hasNamesN] at h,fun _ _ h=>by simp[impl_hasNames_1N] at h⟩
 | succ n ih=>
  refine⟨fun a0 r h=>?_,fun a0 r h=>?_⟩
  ·obtain⟨h,cs⟩:=au h
   rw[impl_hasNamesN] at h
   refine az (nt:=25) (rs:=[.tmp 2]) (n:=100000) Try.func75 rfl rfl rfl rfl (by simp) (S ?_)
   obtain⟨v5,hv5,h⟩:=run_bind h
   refine aj [false] (impl_isVariable_sat hv5) SC (S ?_)
   refine ah cs h (fun cs h=>S ?_) (fun cs h=>S ?_)
   ·cases run_some h
    exact ag SC
   ·obtain⟨v12,hv12,h⟩:=run_bind h
    refine aj [false] (impl_isSymbol_sat hv12) SC (S ?_)
    refine ah cs h (fun cs h=>S ?_) (fun cs h=>S ?_)
    ·refine ah cs h (fun cs h=>S ?_) (fun cs h=>S ?_)
     ·obtain⟨v22,hv22,h⟩:=run_bind h
      refine aj [false,false] (slices_ContainsFunc_Simpl_Term_impl_Term_sat (fun _ _ hh=>ih.2 _ _ hh) (by simp only[CapsOk_nil,CapsOk_cons]) hv22) SC (S ?_)
      cases run_some h
      exact ag SC
     ·cases run_some h
      exact ag SC
    ·cases run_some h
     exact ag SC
  ·obtain⟨h,cs⟩:=au h
   rw[impl_hasNames_1N] at h
   refine az (nt:=6) (rs:=[.tmp 2]) (n:=100000) Try.func88 rfl rfl rfl rfl (by simp) (S ?_)
   obtain⟨v4,hv4,h⟩:=run_bind h
   refine aj [false] (ih.1 _ _ hv4) SC (S ?_)
   cases run_some h
   exact ag SC
theorem impl_hasNames_sat{a0:Tt}{r:Bool}(h:impl_hasNames a0=some r):Sat ai 75 [((ao false) a0)] (B r):=by
 obtain⟨n,hn⟩:=lim_some h
 exact(impl_hasNamesN_sat n).1 _ _ hn
theorem impl_hasNames_1_sat{a0:Tt}{r:Bool}(h:impl_hasNames_1 a0=some r):Sat ai 88 [((ao false) a0)] (B r):=by
 obtain⟨n,hn⟩:=lim_some h
 exact(impl_hasNamesN_sat n).2 _ _ hn

theorem impl_IsValidTerm_sat{a0:Tt}  {r:Bool}(h:impl_IsValidTerm a0=some r):Sat ai 77 [((ao false) a0)] (B r):=by
 obtain⟨h,cs⟩:=au h
 unfold impl_IsValidTerm at h
 refine az (nt:=9) (rs:=[.tmp 2]) (n:=100000) Try.func77 rfl rfl rfl rfl (by simp) (S ?_)
 obtain⟨v4,hv4,h⟩:=run_bind h
 refine aj [false] (impl_isSmall_sat hv4) SC (S ?_)
 refine ah cs h (fun cs h=>S ?_) (fun cs h=>S ?_)
 ·obtain⟨v7,hv7,h⟩:=run_bind h
  refine aj [false] (impl_hasNames_sat hv7) SC (S ?_)
  cases run_some h
  exact ag SC
 ·cases run_some h
  exact ag SC

theorem impl_IsValidAtom_sat{a0:Tt}  {r:Bool}(h:impl_IsValidAtom a0=some r):Sat ai 54 [((ao false) a0)] (B r):=by
 obtain⟨h,cs⟩:=au h
 unfold impl_IsValidAtom at h
 refine az (nt:=34) (rs:=[.tmp 2]) (n:=100000) Try.func54 rfl rfl rfl rfl (by simp) (S ?_)
 obtain⟨v4,hv4,h⟩:=run_bind h
 refine aj [false] (impl_isEquality_sat hv4) SC (S ?_)
 refine ah cs h (fun cs h=>S ?_) (fun cs h=>S ?_)
 ·refine ah cs h (fun cs h=>S ?_) (fun cs h=>S ?_)
  ·obtain⟨v11,hv11,h⟩:=run_bind h
   refine aj [false] (impl_isSmall_sat hv11) SC (S ?_)
   refine ah cs h (fun cs h=>S ?_) (fun cs h=>S ?_)
   ·obtain⟨v16,hv16,h⟩:=run_bind h
    refine aD (f:=(ao false)) hv16 SC (S ?_)
    obtain⟨v18,hv18,h⟩:=run_bind h
    refine aj [false] (impl_hasNames_sat hv18) SC (S ?_)
    refine ah cs h (fun cs h=>S ?_) (fun cs h=>S ?_)
    ·obtain⟨v23,hv23,h⟩:=run_bind h
     refine aD (f:=(ao false)) hv23 SC (S ?_)
     obtain⟨v25,hv25,h⟩:=run_bind h
     refine aj [false] (impl_hasNames_sat hv25) SC (S ?_)
     cases run_some h
     exact ag SC
    ·cases run_some h
     exact ag SC
   ·cases run_some h
    exact ag SC
  ·cases run_some h
   exact ag SC
 ·obtain⟨v29,hv29,h⟩:=run_bind h
  refine aj [false] (impl_isSymbol_sat hv29) SC (S ?_)
  refine ah cs h (fun cs h=>S ?_) (fun cs h=>S ?_)
  ·obtain⟨v32,hv32,h⟩:=run_bind h
   refine aj [false] (impl_IsValidTerm_sat hv32) SC (S ?_)
   cases run_some h
   exact ag SC
  ·cases run_some h
   exact ag SC

theorem impl_isZeroTerm_sat{a0:Tt}  {r:Bool}(h:impl_isZeroTerm a0=some r):Sat ai 55 [((ao false) a0)] (B r):=by
 obtain⟨h,cs⟩:=au h
 unfold impl_isZeroTerm at h
 refine az (nt:=12) (rs:=[.tmp 2]) (n:=100000) Try.func55 rfl rfl rfl rfl (by simp) (S ?_)
 refine ah cs h (fun cs h=>S ?_) (fun cs h=>S ?_)
 ·cases run_some h
  exact ag SC
 ·cases run_some h
  exact ag SC

theorem slices_IndexFunc_Simpl_Formula_impl_Formula_sat{a0:List Ft}{a1:Ft→Option Bool}{a1_id:FuncId}{a1_cs:List PV}(a1_ok:∀ y0 r,a1 y0=some r→Sat ai a1_id (((am false) y0)::a1_cs) (B r))(a1_cz:CapsOk a1_cs=True){r:Int}(h:slices_IndexFunc_Simpl_Formula_impl_Formula a0 a1=some r):Sat ai 78 [(.sl false 5 (a0.map (am false))),.clo a1_id a1_cs] (I r):=by
 obtain⟨h,cs⟩:=au h
 unfold slices_IndexFunc_Simpl_Formula_impl_Formula at h
 have cs:=aa a1_cz cs
 refine az (nt:=19) (rs:=[.tmp 4]) (n:=100000) Try.func78 rfl rfl rfl rfl (by simp) (S ?_)
 refine bj (b:=false) (sz:=5) (es:=a0.map (am false)) 0 SC fun hl0=>?_; rw[aO] at hl0
 replace h:=run_loop h
 refine aX h (fun i2 s2=>[(0,.val (.pv (.sl false 5 (a0.map (am false))))),(1,.val (.pv (.clo a1_id a1_cs))),(7,.val (.pv (I (a0.length:Int)))),(8,.val (.pv (I (i2:Int))))]) (fun i2 s2=>[]) (aw SC) (fun i2 s2 hi h=>?_) (fun s2 h=>?_)
 ·have w:=wrap_succ (i:=i2) (by omega)
  refine S ?_
  refine aQ cs (by omega) (fun cs=>S ?_)
  obtain⟨v14,hv14,h⟩:=run_bind h
  refine aD (f:=(am false)) hv14 SC (S ?_)
  obtain⟨v16,hv16,h⟩:=run_bind h
  refine aj [false] (a1_ok _ _ hv16) SC (S ?_)
  refine ah cs h (fun cs h=>S ?_) (fun cs h=>S ?_)
  ·cases run_some h
   exact ag SC
  ·have h:=run_some h
   refine aJ ⟨_,h,?_⟩
   exact aw SWx
 ·refine S ?_
  refine aR cs (by omega) (fun cs=>S ?_)
  cases run_some h
  exact ag SC

theorem slices_ContainsFunc_Simpl_Formula_impl_Formula_sat{a0:List Ft}{a1:Ft→Option Bool}{a1_id:FuncId}{a1_cs:List PV}(a1_ok:∀ y0 r,a1 y0=some r→Sat ai a1_id (((am false) y0)::a1_cs) (B r))(a1_cz:CapsOk a1_cs=True){r:Bool}(h:slices_ContainsFunc_Simpl_Formula_impl_Formula a0 a1=some r):Sat ai 56 [(.sl false 5 (a0.map (am false))),.clo a1_id a1_cs] (B r):=by
 obtain⟨h,cs⟩:=au h
 unfold slices_ContainsFunc_Simpl_Formula_impl_Formula at h
 have cs:=aa a1_cz cs
 refine az (nt:=9) (rs:=[.tmp 4]) (n:=100000) Try.func56 rfl rfl rfl rfl (by simp) (S ?_)
 obtain⟨v7,hv7,h⟩:=run_bind h
 refine aj [false,false] (slices_IndexFunc_Simpl_Formula_impl_Formula_sat a1_ok a1_cz hv7) SC (S ?_)
 cases run_some h
 exact ag SC

theorem impl_hasFormN_sat(n:Nat):(∀ (a0:Ft) (r:Bool),impl_hasFormN n a0=some r→Sat ai 30 [((am false) a0)] (B r))∧(∀ (a0:Ft) (r:Bool),impl_hasForm_1N n a0=some r→Sat ai 57 [((am false) a0)] (B r)):=by
 induction n with
 | zero=>exact⟨fun _ _ h=>by simp[impl_hasFormN] at h,fun _ _ h=>by simp[impl_hasForm_1N] at h⟩
 | succ n ih=>
  refine⟨fun a0 r h=>?_,fun a0 r h=>?_⟩
  ·obtain⟨h,cs⟩:=au h
   rw[impl_hasFormN] at h
   refine az (nt:=76) (rs:=[.tmp 2]) (n:=100000) Try.func30 rfl rfl rfl rfl (by simp) (S ?_)
   refine ah cs h (fun cs h=>S ?_) (fun cs h=>S ?_)
   ·refine ah cs h (fun cs h=>S ?_) (fun cs h=>S ?_)
    ·obtain⟨v33,hv33,h⟩:=run_bind h
     refine aj [false] (impl_isQuantifier_sat hv33) SC (S ?_)
     refine ah cs h (fun cs h=>S ?_) (fun cs h=>S ?_)
     ·obtain⟨v37,hv37,h⟩:=run_bind h
      refine aj [false] (impl_isVariable_sat hv37) SC (S ?_)
      refine ah cs h (fun cs h=>S ?_) (fun cs h=>S ?_)
      ·obtain⟨v44,hv44,h⟩:=run_bind h
       refine aj [false] (impl_isQuantifier_sat hv44) SC (S ?_)
       refine ah cs h (fun cs h=>S ?_) (fun cs h=>S ?_)
       ·refine ah cs h (fun cs h=>S ?_) (fun cs h=>S ?_)
        ·obtain⟨v58,hv58,h⟩:=run_bind h
         refine aj [false] (impl_IsValidAtom_sat hv58) SC (S ?_)
         refine ah cs h (fun cs h=>S ?_) (fun cs h=>S ?_)
         ·obtain⟨v74,hv74,h⟩:=run_bind h
          refine aj [false,false] (slices_ContainsFunc_Simpl_Formula_impl_Formula_sat (fun _ _ hh=>ih.2 _ _ hh) (by simp only[CapsOk_nil,CapsOk_cons]) hv74) SC (S ?_)
          cases run_some h
          exact ag SC
         ·cases run_some h
          exact ag SC
        ·obtain⟨v68,hv68,h⟩:=run_bind h
         refine aj [false] (impl_isZeroTerm_sat hv68) SC (S ?_)
         refine ah cs h (fun cs h=>S ?_) (fun cs h=>S ?_)
         ·obtain⟨v74,hv74,h⟩:=run_bind h
          refine aj [false,false] (slices_ContainsFunc_Simpl_Formula_impl_Formula_sat (fun _ _ hh=>ih.2 _ _ hh) (by simp only[CapsOk_nil,CapsOk_cons]) hv74) SC (S ?_)
          cases run_some h
          exact ag SC
         ·cases run_some h
          exact ag SC
       ·refine ah cs h (fun cs h=>S ?_) (fun cs h=>S ?_)
        ·refine ah cs h (fun cs h=>S ?_) (fun cs h=>S ?_)
         ·obtain⟨v58,hv58,h⟩:=run_bind h
          refine aj [false] (impl_IsValidAtom_sat hv58) SC (S ?_)
          refine ah cs h (fun cs h=>S ?_) (fun cs h=>S ?_)
          ·obtain⟨v74,hv74,h⟩:=run_bind h
           refine aj [false,false] (slices_ContainsFunc_Simpl_Formula_impl_Formula_sat (fun _ _ hh=>ih.2 _ _ hh) (by simp only[CapsOk_nil,CapsOk_cons]) hv74) SC (S ?_)
           cases run_some h
           exact ag SC
          ·cases run_some h
           exact ag SC
         ·obtain⟨v68,hv68,h⟩:=run_bind h
          refine aj [false] (impl_isZeroTerm_sat hv68) SC (S ?_)
          refine ah cs h (fun cs h=>S ?_) (fun cs h=>S ?_)
          ·obtain⟨v74,hv74,h⟩:=run_bind h
           refine aj [false,false] (slices_ContainsFunc_Simpl_Formula_impl_Formula_sat (fun _ _ hh=>ih.2 _ _ hh) (by simp only[CapsOk_nil,CapsOk_cons]) hv74) SC (S ?_)
           cases run_some h
           exact ag SC
          ·cases run_some h
           exact ag SC
        ·cases run_some h
         exact ag SC
      ·cases run_some h
       exact ag SC
     ·obtain⟨v44,hv44,h⟩:=run_bind h
      refine aj [false] (impl_isQuantifier_sat hv44) SC (S ?_)
      refine ah cs h (fun cs h=>S ?_) (fun cs h=>S ?_)
      ·refine ah cs h (fun cs h=>S ?_) (fun cs h=>S ?_)
       ·obtain⟨v58,hv58,h⟩:=run_bind h
        refine aj [false] (impl_IsValidAtom_sat hv58) SC (S ?_)
        refine ah cs h (fun cs h=>S ?_) (fun cs h=>S ?_)
        ·obtain⟨v74,hv74,h⟩:=run_bind h
         refine aj [false,false] (slices_ContainsFunc_Simpl_Formula_impl_Formula_sat (fun _ _ hh=>ih.2 _ _ hh) (by simp only[CapsOk_nil,CapsOk_cons]) hv74) SC (S ?_)
         cases run_some h
         exact ag SC
        ·cases run_some h
         exact ag SC
       ·obtain⟨v68,hv68,h⟩:=run_bind h
        refine aj [false] (impl_isZeroTerm_sat hv68) SC (S ?_)
        refine ah cs h (fun cs h=>S ?_) (fun cs h=>S ?_)
        ·obtain⟨v74,hv74,h⟩:=run_bind h
         refine aj [false,false] (slices_ContainsFunc_Simpl_Formula_impl_Formula_sat (fun _ _ hh=>ih.2 _ _ hh) (by simp only[CapsOk_nil,CapsOk_cons]) hv74) SC (S ?_)
         cases run_some h
         exact ag SC
        ·cases run_some h
         exact ag SC
      ·refine ah cs h (fun cs h=>S ?_) (fun cs h=>S ?_)
       ·refine ah cs h (fun cs h=>S ?_) (fun cs h=>S ?_)
        ·obtain⟨v58,hv58,h⟩:=run_bind h
         refine aj [false] (impl_IsValidAtom_sat hv58) SC (S ?_)
         refine ah cs h (fun cs h=>S ?_) (fun cs h=>S ?_)
         ·obtain⟨v74,hv74,h⟩:=run_bind h
          refine aj [false,false] (slices_ContainsFunc_Simpl_Formula_impl_Formula_sat (fun _ _ hh=>ih.2 _ _ hh) (by simp only[CapsOk_nil,CapsOk_cons]) hv74) SC (S ?_)
          cases run_some h
          exact ag SC
         ·cases run_some h
          exact ag SC
        ·obtain⟨v68,hv68,h⟩:=run_bind h
         refine aj [false] (impl_isZeroTerm_sat hv68) SC (S ?_)
         refine ah cs h (fun cs h=>S ?_) (fun cs h=>S ?_)
         ·obtain⟨v74,hv74,h⟩:=run_bind h
          refine aj [false,false] (slices_ContainsFunc_Simpl_Formula_impl_Formula_sat (fun _ _ hh=>ih.2 _ _ hh) (by simp only[CapsOk_nil,CapsOk_cons]) hv74) SC (S ?_)
          cases run_some h
          exact ag SC
         ·cases run_some h
          exact ag SC
       ·cases run_some h
        exact ag SC
    ·cases run_some h
     exact ag SC
   ·refine ah cs h (fun cs h=>S ?_) (fun cs h=>S ?_)
    ·refine ah cs h (fun cs h=>S ?_) (fun cs h=>S ?_)
     ·obtain⟨v33,hv33,h⟩:=run_bind h
      refine aj [false] (impl_isQuantifier_sat hv33) SC (S ?_)
      refine ah cs h (fun cs h=>S ?_) (fun cs h=>S ?_)
      ·obtain⟨v37,hv37,h⟩:=run_bind h
       refine aj [false] (impl_isVariable_sat hv37) SC (S ?_)
       refine ah cs h (fun cs h=>S ?_) (fun cs h=>S ?_)
       ·obtain⟨v44,hv44,h⟩:=run_bind h
        refine aj [false] (impl_isQuantifier_sat hv44) SC (S ?_)
        refine ah cs h (fun cs h=>S ?_) (fun cs h=>S ?_)
        ·refine ah cs h (fun cs h=>S ?_) (fun cs h=>S ?_)
         ·obtain⟨v58,hv58,h⟩:=run_bind h
          refine aj [false] (impl_IsValidAtom_sat hv58) SC (S ?_)
          refine ah cs h (fun cs h=>S ?_) (fun cs h=>S ?_)
          ·obtain⟨v74,hv74,h⟩:=run_bind h
           refine aj [false,false] (slices_ContainsFunc_Simpl_Formula_impl_Formula_sat (fun _ _ hh=>ih.2 _ _ hh) (by simp only[CapsOk_nil,CapsOk_cons]) hv74) SC (S ?_)
           cases run_some h
           exact ag SC
          ·cases run_some h
           exact ag SC
         ·obtain⟨v68,hv68,h⟩:=run_bind h
          refine aj [false] (impl_isZeroTerm_sat hv68) SC (S ?_)
          refine ah cs h (fun cs h=>S ?_) (fun cs h=>S ?_)
          ·obtain⟨v74,hv74,h⟩:=run_bind h
           refine aj [false,false] (slices_ContainsFunc_Simpl_Formula_impl_Formula_sat (fun _ _ hh=>ih.2 _ _ hh) (by simp only[CapsOk_nil,CapsOk_cons]) hv74) SC (S ?_)
           cases run_some h
           exact ag SC
          ·cases run_some h
           exact ag SC
        ·refine ah cs h (fun cs h=>S ?_) (fun cs h=>S ?_)
         ·refine ah cs h (fun cs h=>S ?_) (fun cs h=>S ?_)
          ·obtain⟨v58,hv58,h⟩:=run_bind h
           refine aj [false] (impl_IsValidAtom_sat hv58) SC (S ?_)
           refine ah cs h (fun cs h=>S ?_) (fun cs h=>S ?_)
           ·obtain⟨v74,hv74,h⟩:=run_bind h
            refine aj [false,false] (slices_ContainsFunc_Simpl_Formula_impl_Formula_sat (fun _ _ hh=>ih.2 _ _ hh) (by simp only[CapsOk_nil,CapsOk_cons]) hv74) SC (S ?_)
            cases run_some h
            exact ag SC
           ·cases run_some h
            exact ag SC
          ·obtain⟨v68,hv68,h⟩:=run_bind h
           refine aj [false] (impl_isZeroTerm_sat hv68) SC (S ?_)
           refine ah cs h (fun cs h=>S ?_) (fun cs h=>S ?_)
           ·obtain⟨v74,hv74,h⟩:=run_bind h
            refine aj [false,false] (slices_ContainsFunc_Simpl_Formula_impl_Formula_sat (fun _ _ hh=>ih.2 _ _ hh) (by simp only[CapsOk_nil,CapsOk_cons]) hv74) SC (S ?_)
            cases run_some h
            exact ag SC
           ·cases run_some h
            exact ag SC
         ·cases run_some h
          exact ag SC
       ·cases run_some h
        exact ag SC
      ·obtain⟨v44,hv44,h⟩:=run_bind h
       refine aj [false] (impl_isQuantifier_sat hv44) SC (S ?_)
       refine ah cs h (fun cs h=>S ?_) (fun cs h=>S ?_)
       ·refine ah cs h (fun cs h=>S ?_) (fun cs h=>S ?_)
        ·obtain⟨v58,hv58,h⟩:=run_bind h
         refine aj [false] (impl_IsValidAtom_sat hv58) SC (S ?_)
         refine ah cs h (fun cs h=>S ?_) (fun cs h=>S ?_)
         ·obtain⟨v74,hv74,h⟩:=run_bind h
          refine aj [false,false] (slices_ContainsFunc_Simpl_Formula_impl_Formula_sat (fun _ _ hh=>ih.2 _ _ hh) (by simp only[CapsOk_nil,CapsOk_cons]) hv74) SC (S ?_)
          cases run_some h
          exact ag SC
         ·cases run_some h
          exact ag SC
        ·obtain⟨v68,hv68,h⟩:=run_bind h
         refine aj [false] (impl_isZeroTerm_sat hv68) SC (S ?_)
         refine ah cs h (fun cs h=>S ?_) (fun cs h=>S ?_)
         ·obtain⟨v74,hv74,h⟩:=run_bind h
          refine aj [false,false] (slices_ContainsFunc_Simpl_Formula_impl_Formula_sat (fun _ _ hh=>ih.2 _ _ hh) (by simp only[CapsOk_nil,CapsOk_cons]) hv74) SC (S ?_)
          cases run_some h
          exact ag SC
         ·cases run_some h
          exact ag SC
       ·refine ah cs h (fun cs h=>S ?_) (fun cs h=>S ?_)
        ·refine ah cs h (fun cs h=>S ?_) (fun cs h=>S ?_)
         ·obtain⟨v58,hv58,h⟩:=run_bind h
          refine aj [false] (impl_IsValidAtom_sat hv58) SC (S ?_)
          refine ah cs h (fun cs h=>S ?_) (fun cs h=>S ?_)
          ·obtain⟨v74,hv74,h⟩:=run_bind h
           refine aj [false,false] (slices_ContainsFunc_Simpl_Formula_impl_Formula_sat (fun _ _ hh=>ih.2 _ _ hh) (by simp only[CapsOk_nil,CapsOk_cons]) hv74) SC (S ?_)
           cases run_some h
           exact ag SC
          ·cases run_some h
           exact ag SC
         ·obtain⟨v68,hv68,h⟩:=run_bind h
          refine aj [false] (impl_isZeroTerm_sat hv68) SC (S ?_)
          refine ah cs h (fun cs h=>S ?_) (fun cs h=>S ?_)
          ·obtain⟨v74,hv74,h⟩:=run_bind h
           refine aj [false,false] (slices_ContainsFunc_Simpl_Formula_impl_Formula_sat (fun _ _ hh=>ih.2 _ _ hh) (by simp only[CapsOk_nil,CapsOk_cons]) hv74) SC (S ?_)
           cases run_some h
           exact ag SC
          ·cases run_some h
           exact ag SC
        ·cases run_some h
         exact ag SC
     ·cases run_some h
      exact ag SC
    ·refine ah cs h (fun cs h=>S ?_) (fun cs h=>S ?_)
     ·refine ah cs h (fun cs h=>S ?_) (fun cs h=>S ?_)
      ·obtain⟨v33,hv33,h⟩:=run_bind h
       refine aj [false] (impl_isQuantifier_sat hv33) SC (S ?_)
       refine ah cs h (fun cs h=>S ?_) (fun cs h=>S ?_)
       ·obtain⟨v37,hv37,h⟩:=run_bind h
        refine aj [false] (impl_isVariable_sat hv37) SC (S ?_)
        refine ah cs h (fun cs h=>S ?_) (fun cs h=>S ?_)
        ·obtain⟨v44,hv44,h⟩:=run_bind h
         refine aj [false] (impl_isQuantifier_sat hv44) SC (S ?_)
         refine ah cs h (fun cs h=>S ?_) (fun cs h=>S ?_)
         ·obtain⟨v58,hv58,h⟩:=run_bind h
          refine aj [false] (impl_IsValidAtom_sat hv58) SC (S ?_)
          refine ah cs h (fun cs h=>S ?_) (fun cs h=>S ?_)
          ·obtain⟨v74,hv74,h⟩:=run_bind h
           refine aj [false,false] (slices_ContainsFunc_Simpl_Formula_impl_Formula_sat (fun _ _ hh=>ih.2 _ _ hh) (by simp only[CapsOk_nil,CapsOk_cons]) hv74) SC (S ?_)
           cases run_some h
           exact ag SC
          ·cases run_some h
           exact ag SC
         ·refine ah cs h (fun cs h=>S ?_) (fun cs h=>S ?_)
          ·obtain⟨v58,hv58,h⟩:=run_bind h
           refine aj [false] (impl_IsValidAtom_sat hv58) SC (S ?_)
           refine ah cs h (fun cs h=>S ?_) (fun cs h=>S ?_)
           ·obtain⟨v74,hv74,h⟩:=run_bind h
            refine aj [false,false] (slices_ContainsFunc_Simpl_Formula_impl_Formula_sat (fun _ _ hh=>ih.2 _ _ hh) (by simp only[CapsOk_nil,CapsOk_cons]) hv74) SC (S ?_)
            cases run_some h
            exact ag SC
           ·cases run_some h
            exact ag SC
          ·cases run_some h
           exact ag SC
        ·cases run_some h
         exact ag SC
       ·obtain⟨v44,hv44,h⟩:=run_bind h
        refine aj [false] (impl_isQuantifier_sat hv44) SC (S ?_)
        refine ah cs h (fun cs h=>S ?_) (fun cs h=>S ?_)
        ·obtain⟨v58,hv58,h⟩:=run_bind h
         refine aj [false] (impl_IsValidAtom_sat hv58) SC (S ?_)
         refine ah cs h (fun cs h=>S ?_) (fun cs h=>S ?_)
         ·obtain⟨v74,hv74,h⟩:=run_bind h
          refine aj [false,false] (slices_ContainsFunc_Simpl_Formula_impl_Formula_sat (fun _ _ hh=>ih.2 _ _ hh) (by simp only[CapsOk_nil,CapsOk_cons]) hv74) SC (S ?_)
          cases run_some h
          exact ag SC
         ·cases run_some h
          exact ag SC
        ·refine ah cs h (fun cs h=>S ?_) (fun cs h=>S ?_)
         ·obtain⟨v58,hv58,h⟩:=run_bind h
          refine aj [false] (impl_IsValidAtom_sat hv58) SC (S ?_)
          refine ah cs h (fun cs h=>S ?_) (fun cs h=>S ?_)
          ·obtain⟨v74,hv74,h⟩:=run_bind h
           refine aj [false,false] (slices_ContainsFunc_Simpl_Formula_impl_Formula_sat (fun _ _ hh=>ih.2 _ _ hh) (by simp only[CapsOk_nil,CapsOk_cons]) hv74) SC (S ?_)
           cases run_some h
           exact ag SC
          ·cases run_some h
           exact ag SC
         ·cases run_some h
          exact ag SC
      ·cases run_some h
       exact ag SC
     ·refine ah cs h (fun cs h=>S ?_) (fun cs h=>S ?_)
      ·refine ah cs h (fun cs h=>S ?_) (fun cs h=>S ?_)
       ·obtain⟨v33,hv33,h⟩:=run_bind h
        refine aj [false] (impl_isQuantifier_sat hv33) SC (S ?_)
        refine ah cs h (fun cs h=>S ?_) (fun cs h=>S ?_)
        ·obtain⟨v37,hv37,h⟩:=run_bind h
         refine aj [false] (impl_isVariable_sat hv37) SC (S ?_)
         refine ah cs h (fun cs h=>S ?_) (fun cs h=>S ?_)
         ·obtain⟨v44,hv44,h⟩:=run_bind h
          refine aj [false] (impl_isQuantifier_sat hv44) SC (S ?_)
          refine ah cs h (fun cs h=>S ?_) (fun cs h=>S ?_)
          ·obtain⟨v68,hv68,h⟩:=run_bind h
           refine aj [false] (impl_isZeroTerm_sat hv68) SC (S ?_)
           refine ah cs h (fun cs h=>S ?_) (fun cs h=>S ?_)
           ·obtain⟨v74,hv74,h⟩:=run_bind h
            refine aj [false,false] (slices_ContainsFunc_Simpl_Formula_impl_Formula_sat (fun _ _ hh=>ih.2 _ _ hh) (by simp only[CapsOk_nil,CapsOk_cons]) hv74) SC (S ?_)
            cases run_some h
            exact ag SC
           ·cases run_some h
            exact ag SC
          ·refine ah cs h (fun cs h=>S ?_) (fun cs h=>S ?_)
           ·obtain⟨v68,hv68,h⟩:=run_bind h
            refine aj [false] (impl_isZeroTerm_sat hv68) SC (S ?_)
            refine ah cs h (fun cs h=>S ?_) (fun cs h=>S ?_)
            ·obtain⟨v74,hv74,h⟩:=run_bind h
             refine aj [false,false] (slices_ContainsFunc_Simpl_Formula_impl_Formula_sat (fun _ _ hh=>ih.2 _ _ hh) (by simp only[CapsOk_nil,CapsOk_cons]) hv74) SC (S ?_)
             cases run_some h
             exact ag SC
            ·cases run_some h
             exact ag SC
           ·cases run_some h
            exact ag SC
         ·cases run_some h
          exact ag SC
        ·obtain⟨v44,hv44,h⟩:=run_bind h
         refine aj [false] (impl_isQuantifier_sat hv44) SC (S ?_)
         refine ah cs h (fun cs h=>S ?_) (fun cs h=>S ?_)
         ·obtain⟨v68,hv68,h⟩:=run_bind h
          refine aj [false] (impl_isZeroTerm_sat hv68) SC (S ?_)
          refine ah cs h (fun cs h=>S ?_) (fun cs h=>S ?_)
          ·obtain⟨v74,hv74,h⟩:=run_bind h
           refine aj [false,false] (slices_ContainsFunc_Simpl_Formula_impl_Formula_sat (fun _ _ hh=>ih.2 _ _ hh) (by simp only[CapsOk_nil,CapsOk_cons]) hv74) SC (S ?_)
           cases run_some h
           exact ag SC
          ·cases run_some h
           exact ag SC
         ·refine ah cs h (fun cs h=>S ?_) (fun cs h=>S ?_)
          ·obtain⟨v68,hv68,h⟩:=run_bind h
           refine aj [false] (impl_isZeroTerm_sat hv68) SC (S ?_)
           refine ah cs h (fun cs h=>S ?_) (fun cs h=>S ?_)
           ·obtain⟨v74,hv74,h⟩:=run_bind h
            refine aj [false,false] (slices_ContainsFunc_Simpl_Formula_impl_Formula_sat (fun _ _ hh=>ih.2 _ _ hh) (by simp only[CapsOk_nil,CapsOk_cons]) hv74) SC (S ?_)
            cases run_some h
            exact ag SC
           ·cases run_some h
            exact ag SC
          ·cases run_some h
           exact ag SC
       ·cases run_some h
        exact ag SC
      ·obtain⟨v20,hv20,h⟩:=run_bind h
       refine aj [false] (impl_isQuantifier_sat hv20) SC (S ?_)
       refine ah cs h (fun cs h=>S ?_) (fun cs h=>S ?_)
       ·refine ah cs h (fun cs h=>S ?_) (fun cs h=>S ?_)
        ·obtain⟨v33,hv33,h⟩:=run_bind h
         refine aj [false] (impl_isQuantifier_sat hv33) SC (S ?_)
         refine ah cs h (fun cs h=>S ?_) (fun cs h=>S ?_)
         ·obtain⟨v37,hv37,h⟩:=run_bind h
          refine aj [false] (impl_isVariable_sat hv37) SC (S ?_)
          refine ah cs h (fun cs h=>S ?_) (fun cs h=>S ?_)
          ·obtain⟨v44,hv44,h⟩:=run_bind h
           refine aj [false] (impl_isQuantifier_sat hv44) SC (S ?_)
           refine ah cs h (fun cs h=>S ?_) (fun cs h=>S ?_)
           ·obtain⟨v68,hv68,h⟩:=run_bind h
            refine aj [false] (impl_isZeroTerm_sat hv68) SC (S ?_)
            refine ah cs h (fun cs h=>S ?_) (fun cs h=>S ?_)
            ·obtain⟨v74,hv74,h⟩:=run_bind h
             refine aj [false,false] (slices_ContainsFunc_Simpl_Formula_impl_Formula_sat (fun _ _ hh=>ih.2 _ _ hh) (by simp only[CapsOk_nil,CapsOk_cons]) hv74) SC (S ?_)
             cases run_some h
             exact ag SC
            ·cases run_some h
             exact ag SC
           ·refine ah cs h (fun cs h=>S ?_) (fun cs h=>S ?_)
            ·obtain⟨v68,hv68,h⟩:=run_bind h
             refine aj [false] (impl_isZeroTerm_sat hv68) SC (S ?_)
             refine ah cs h (fun cs h=>S ?_) (fun cs h=>S ?_)
             ·obtain⟨v74,hv74,h⟩:=run_bind h
              refine aj [false,false] (slices_ContainsFunc_Simpl_Formula_impl_Formula_sat (fun _ _ hh=>ih.2 _ _ hh) (by simp only[CapsOk_nil,CapsOk_cons]) hv74) SC (S ?_)
              cases run_some h
              exact ag SC
             ·cases run_some h
              exact ag SC
            ·cases run_some h
             exact ag SC
          ·cases run_some h
           exact ag SC
         ·obtain⟨v44,hv44,h⟩:=run_bind h
          refine aj [false] (impl_isQuantifier_sat hv44) SC (S ?_)
          refine ah cs h (fun cs h=>S ?_) (fun cs h=>S ?_)
          ·obtain⟨v68,hv68,h⟩:=run_bind h
           refine aj [false] (impl_isZeroTerm_sat hv68) SC (S ?_)
           refine ah cs h (fun cs h=>S ?_) (fun cs h=>S ?_)
           ·obtain⟨v74,hv74,h⟩:=run_bind h
            refine aj [false,false] (slices_ContainsFunc_Simpl_Formula_impl_Formula_sat (fun _ _ hh=>ih.2 _ _ hh) (by simp only[CapsOk_nil,CapsOk_cons]) hv74) SC (S ?_)
            cases run_some h
            exact ag SC
           ·cases run_some h
            exact ag SC
          ·refine ah cs h (fun cs h=>S ?_) (fun cs h=>S ?_)
           ·obtain⟨v68,hv68,h⟩:=run_bind h
            refine aj [false] (impl_isZeroTerm_sat hv68) SC (S ?_)
            refine ah cs h (fun cs h=>S ?_) (fun cs h=>S ?_)
            ·obtain⟨v74,hv74,h⟩:=run_bind h
             refine aj [false,false] (slices_ContainsFunc_Simpl_Formula_impl_Formula_sat (fun _ _ hh=>ih.2 _ _ hh) (by simp only[CapsOk_nil,CapsOk_cons]) hv74) SC (S ?_)
             cases run_some h
             exact ag SC
            ·cases run_some h
             exact ag SC
           ·cases run_some h
            exact ag SC
        ·cases run_some h
         exact ag SC
       ·obtain⟨v24,hv24,h⟩:=run_bind h
        refine aj [false] (impl_isBinary_sat hv24) SC (S ?_)
        refine ah cs h (fun cs h=>S ?_) (fun cs h=>S ?_)
        ·refine ah cs h (fun cs h=>S ?_) (fun cs h=>S ?_)
         ·obtain⟨v33,hv33,h⟩:=run_bind h
          refine aj [false] (impl_isQuantifier_sat hv33) SC (S ?_)
          refine ah cs h (fun cs h=>S ?_) (fun cs h=>S ?_)
          ·obtain⟨v37,hv37,h⟩:=run_bind h
           refine aj [false] (impl_isVariable_sat hv37) SC (S ?_)
           refine ah cs h (fun cs h=>S ?_) (fun cs h=>S ?_)
           ·obtain⟨v44,hv44,h⟩:=run_bind h
            refine aj [false] (impl_isQuantifier_sat hv44) SC (S ?_)
            refine ah cs h (fun cs h=>S ?_) (fun cs h=>S ?_)
            ·obtain⟨v68,hv68,h⟩:=run_bind h
             refine aj [false] (impl_isZeroTerm_sat hv68) SC (S ?_)
             refine ah cs h (fun cs h=>S ?_) (fun cs h=>S ?_)
             ·obtain⟨v74,hv74,h⟩:=run_bind h
              refine aj [false,false] (slices_ContainsFunc_Simpl_Formula_impl_Formula_sat (fun _ _ hh=>ih.2 _ _ hh) (by simp only[CapsOk_nil,CapsOk_cons]) hv74) SC (S ?_)
              cases run_some h
              exact ag SC
             ·cases run_some h
              exact ag SC
            ·refine ah cs h (fun cs h=>S ?_) (fun cs h=>S ?_)
             ·obtain⟨v68,hv68,h⟩:=run_bind h
              refine aj [false] (impl_isZeroTerm_sat hv68) SC (S ?_)
              refine ah cs h (fun cs h=>S ?_) (fun cs h=>S ?_)
              ·obtain⟨v74,hv74,h⟩:=run_bind h
               refine aj [false,false] (slices_ContainsFunc_Simpl_Formula_impl_Formula_sat (fun _ _ hh=>ih.2 _ _ hh) (by simp only[CapsOk_nil,CapsOk_cons]) hv74) SC (S ?_)
               cases run_some h
               exact ag SC
              ·cases run_some h
               exact ag SC
             ·cases run_some h
              exact ag SC
           ·cases run_some h
            exact ag SC
          ·obtain⟨v44,hv44,h⟩:=run_bind h
           refine aj [false] (impl_isQuantifier_sat hv44) SC (S ?_)
           refine ah cs h (fun cs h=>S ?_) (fun cs h=>S ?_)
           ·obtain⟨v68,hv68,h⟩:=run_bind h
            refine aj [false] (impl_isZeroTerm_sat hv68) SC (S ?_)
            refine ah cs h (fun cs h=>S ?_) (fun cs h=>S ?_)
            ·obtain⟨v74,hv74,h⟩:=run_bind h
             refine aj [false,false] (slices_ContainsFunc_Simpl_Formula_impl_Formula_sat (fun _ _ hh=>ih.2 _ _ hh) (by simp only[CapsOk_nil,CapsOk_cons]) hv74) SC (S ?_)
             cases run_some h
             exact ag SC
            ·cases run_some h
             exact ag SC
           ·refine ah cs h (fun cs h=>S ?_) (fun cs h=>S ?_)
            ·obtain⟨v68,hv68,h⟩:=run_bind h
             refine aj [false] (impl_isZeroTerm_sat hv68) SC (S ?_)
             refine ah cs h (fun cs h=>S ?_) (fun cs h=>S ?_)
             ·obtain⟨v74,hv74,h⟩:=run_bind h
              refine aj [false,false] (slices_ContainsFunc_Simpl_Formula_impl_Formula_sat (fun _ _ hh=>ih.2 _ _ hh) (by simp only[CapsOk_nil,CapsOk_cons]) hv74) SC (S ?_)
              cases run_some h
              exact ag SC
             ·cases run_some h
              exact ag SC
            ·cases run_some h
             exact ag SC
         ·cases run_some h
          exact ag SC
        ·cases run_some h
         exact ag SC
  ·obtain⟨h,cs⟩:=au h
   rw[impl_hasForm_1N] at h
   refine az (nt:=6) (rs:=[.tmp 2]) (n:=100000) Try.func57 rfl rfl rfl rfl (by simp) (S ?_)
   obtain⟨v4,hv4,h⟩:=run_bind h
   refine aj [false] (ih.1 _ _ hv4) SC (S ?_)
   cases run_some h
   exact ag SC
theorem impl_hasForm_sat{a0:Ft}{r:Bool}(h:impl_hasForm a0=some r):Sat ai 30 [((am false) a0)] (B r):=by
 obtain⟨n,hn⟩:=lim_some h
 exact(impl_hasFormN_sat n).1 _ _ hn
theorem impl_hasForm_1_sat{a0:Ft}{r:Bool}(h:impl_hasForm_1 a0=some r):Sat ai 57 [((am false) a0)] (B r):=by
 obtain⟨n,hn⟩:=lim_some h
 exact(impl_hasFormN_sat n).2 _ _ hn

theorem impl_IsValidFormula_sat{a0:Ft}  {r:Bool}(h:impl_IsValidFormula a0=some r):Sat ai 15 [((am false) a0)] (B r):=by
 obtain⟨h,cs⟩:=au h
 unfold impl_IsValidFormula at h
 refine az (nt:=10) (rs:=[.tmp 2]) (n:=100000) Try.func15 rfl rfl rfl rfl (by simp) (S ?_)
 obtain⟨v4,hv4,h⟩:=run_bind h
 refine aj [false] (impl_sizeOf_sat hv4) SC (S ?_)
 refine ah cs h (fun cs h=>S ?_) (fun cs h=>S ?_)
 ·obtain⟨v8,hv8,h⟩:=run_bind h
  refine aj [false] (impl_hasForm_sat hv8) SC (S ?_)
  cases run_some h
  exact ag SC
 ·cases run_some h
  exact ag SC

theorem impl_copyTermN_sat(n:Nat):(∀ (a0:Tt) (r:Tt),impl_copyTermN n a0=some r→Sat ai 58 [((ao false) a0)] ((ao true) r))∧(∀ (a0:List Tt) (r:List Tt),impl_copyTermsN n a0=some r→Sat ai 79 [(.sl false 2 (a0.map (ao false)))] (.sl true 2 (r.map (ao true)))):=by
 induction n with
 | zero=>exact⟨fun _ _ h=>by simp[impl_copyTermN] at h,fun _ _ h=>by simp[impl_copyTermsN] at h⟩
 | succ n ih=>
  refine⟨fun a0 r h=>?_,fun a0 r h=>?_⟩
  ·obtain⟨h,cs⟩:=au h
   rw[impl_copyTermN] at h
   refine az (nt:=9) (rs:=[.cell 2 26]) (n:=100000) Try.func58 rfl rfl rfl rfl (by simp) (S ?_)
   obtain⟨v7,hv7,h⟩:=run_bind h
   refine aj [false] (ih.2 _ _ hv7) SC (S ?_)
   refine aa (aN [] [112]) (S ?_)
   cases run_some h
   exact ag SC
  ·obtain⟨h,cs⟩:=au h
   rw[impl_copyTermsN] at h
   refine az (nt:=26) (rs:=[.tmp 2]) (n:=100000) Try.func79 rfl rfl rfl rfl (by simp) (S ?_)
   refine ah cs h (fun cs h=>S ?_) (fun cs h=>S ?_)
   ·cases run_some h
    exact ag SC
   ·obtain⟨n11,hn11,h⟩:=run_bind h
    refine MknH.mk hn11 (S ?_)
    refine bj (b:=false) (sz:=2) (es:=a0.map (ao false)) 0 SC fun hl0=>?_; rw[aO] at hl0
    replace h:=run_loop h
    refine aX h (fun i5 s5=>[(3,.val (.own 176)),(12,.val (.pv (.sl false 2 (a0.map (ao false))))),(13,.val (.pv (I (a0.length:Int)))),(14,.val (.pv (I (i5:Int))))]) (fun i5 s5=>[(176,(2,s5.map (ao true)))]) (aw SC) (fun i5 s5 hi h=>?_) (fun s5 h=>?_)
    ·have w:=wrap_succ (i:=i5) (by omega)
     refine S ?_
     refine aQ cs (by omega) (fun cs=>S ?_)
     obtain⟨v17,hv17,h⟩:=run_bind h
     refine aD (f:=(ao false)) hv17 SC (S ?_)
     obtain⟨v22,hv22,h⟩:=run_bind h
     refine aj [false] (ih.1 _ _ hv22) SC (S ?_)
     obtain⟨v23,hv23,h⟩:=run_bind h
     refine aD (f:=(ao true)) hv23 SC (S ?_)
     obtain⟨w3,hw3,h⟩:=run_bind h
     refine EldH.mk (f:=(ao true)) hw3 rfl SC (S ?_)
     have h:=run_some h
     refine aJ ⟨_,h,?_⟩
     exact aw SWx
    ·refine S ?_
     refine aR cs (by omega) (fun cs=>S ?_)
     cases run_some h
     exact ag SC
theorem impl_copyTerm_sat{a0:Tt}{r:Tt}(h:impl_copyTerm a0=some r):Sat ai 58 [((ao false) a0)] ((ao true) r):=by
 obtain⟨n,hn⟩:=lim_some h
 exact(impl_copyTermN_sat n).1 _ _ hn
theorem impl_copyTerms_sat{a0:List Tt}{r:List Tt}(h:impl_copyTerms a0=some r):Sat ai 79 [(.sl false 2 (a0.map (ao false)))] (.sl true 2 (r.map (ao true))):=by
 obtain⟨n,hn⟩:=lim_some h
 exact(impl_copyTermN_sat n).2 _ _ hn

theorem impl_mapParts_sat{a0:Ft}{a1:Ft→Option Ft}{a1_id:FuncId}{a1_cs:List PV}(a1_ok:∀ y0 r,a1 y0=some r→Sat ai a1_id (((am false) y0)::a1_cs) ((am false) r))(a1_cz:CapsOk a1_cs=True){r:Ft}(h:impl_mapParts a0 a1=some r):Sat ai 31 [((am false) a0),.clo a1_id a1_cs] ((am false) r):=by
 obtain⟨h,cs⟩:=au h
 unfold impl_mapParts at h
 have cs:=aa a1_cz cs
 refine az (nt:=33) (rs:=[.cell 4 29]) (n:=100000) Try.func31 rfl rfl rfl rfl (by simp) (S ?_)
 obtain⟨v12,hv12,h⟩:=run_bind h
 refine aj [false] (impl_copyTerm_sat hv12) SC (S ?_)
 refine aa (aN [5] [192]) (S ?_)
 refine bj (b:=false) (sz:=5) (es:=a0.Parts.map (am false)) 17 SC fun hl17=>?_; rw[aO] at hl17
 replace h:=run_loop h
 refine aX h (fun i3 s3=>[(1,.val (.pv (.clo a1_id a1_cs))),(4,.box (.node [(.pv (I 0)),zab0,(.pv (Sx ⟨#[]⟩)),(.pv (.sl true 5 []))])),(5,.box (.node [(.pv (I a0.Op)),(.node [(.pv (Sx v12.Name)),(.own 192)]),(.pv (Sx a0.Var)),(.own 9309)])),(17,.val (.pv (.sl false 5 (a0.Parts.map (am false))))),(18,.val (.pv (I (a0.Parts.length:Int)))),(19,.val (.pv (I (i3:Int))))]) (fun i3 s3=>[(192,(2,v12.Args.map (ao true))),(9309,(5,s3.map (am false)))]) (St.le_trans (St.le_nilB (x:=(.node [(.pv (I a0.Op)),(.node [(.pv (Sx v12.Name)),(.own 192)]),(.pv (Sx a0.Var)),(.pv (.sl true 5 []))])) 5 [3] 9309 5 NM SC SC SC) (aw SC)) (fun i3 s3 hi h=>?_) (fun s3 h=>?_)
 ·have w:=wrap_succ (i:=i3) (by omega)
  refine S ?_
  refine aQ cs (by omega) (fun cs=>S ?_)
  obtain⟨v21,hv21,h⟩:=run_bind h
  refine aD (f:=(am false)) hv21 SC (S ?_)
  obtain⟨v27,hv27,h⟩:=run_bind h
  refine aj [false] (a1_ok _ _ hv27) SC (S ?_)
  obtain⟨v29,hv29,h⟩:=run_bind h
  refine AppH.mk (f:=(am false)) (fun a=>Ft.psize _ a) hv29 SC SC (S ?_)
  refine aa (aN [] [448,464]) (S ?_)
  have h:=run_some h
  refine aJ ⟨_,h,?_⟩
  refine St.le_rt 464 9309 ?_
  exact aw SWx
 ·refine S ?_
  refine aR cs (by omega) (fun cs=>S ?_)
  cases run_some h
  exact a7 SC

theorem impl_isConstant_sat{a0:Ft}  {r:Bool}(h:impl_isConstant a0=some r):Sat ai 32 [((am false) a0)] (B r):=by
 obtain⟨h,cs⟩:=au h
 unfold impl_isConstant at h
 refine az (nt:=11) (rs:=[.tmp 2]) (n:=100000) Try.func32 rfl rfl rfl rfl (by simp) (S ?_)
 refine ah cs h (fun cs h=>S ?_) (fun cs h=>S ?_)
 ·cases run_some h
  exact ag SC
 ·cases run_some h
  exact ag SC

theorem slices_EqualFunc_Simpl_Term_Simpl_Term_impl_Term_impl_Term_sat{a0:List Tt}{a1:List Tt}{a2:Tt→Tt→Option Bool}{a2_id:FuncId}{a2_cs:List PV}(a2_ok:∀ y0 y1 r,a2 y0 y1=some r→Sat ai a2_id (((ao false) y0)::((ao false) y1)::a2_cs) (B r))(a2_cz:CapsOk a2_cs=True){r:Bool}(h:slices_EqualFunc_Simpl_Term_Simpl_Term_impl_Term_impl_Term a0 a1 a2=some r):Sat ai 91 [(.sl false 2 (a0.map (ao false))),(.sl false 2 (a1.map (ao false))),.clo a2_id a2_cs] (B r):=by
 obtain⟨h,cs⟩:=au h
 unfold slices_EqualFunc_Simpl_Term_Simpl_Term_impl_Term_impl_Term at h
 have cs:=aa a2_cz cs
 refine az (nt:=32) (rs:=[.tmp 6]) (n:=100000) Try.func91 rfl rfl rfl rfl (by simp) (S ?_)
 refine ah cs h (fun cs h=>S ?_) (fun cs h=>S ?_)
 ·refine bj (b:=false) (sz:=2) (es:=a0.map (ao false)) 0 SC fun hl0=>?_; rw[aO] at hl0
  replace h:=run_loop h
  refine aX h (fun i4 s4=>[(1,.val (.pv (.sl false 2 (a1.map (ao false))))),(2,.val (.pv (.clo a2_id a2_cs))),(15,.val (.pv (.sl false 2 (a0.map (ao false))))),(16,.val (.pv (I (a0.length:Int)))),(17,.val (.pv (I (i4:Int))))]) (fun i4 s4=>[]) (aw SC) (fun i4 s4 hi h=>?_) (fun s4 h=>?_)
  ·have w:=wrap_succ (i:=i4) (by omega)
   refine S ?_
   refine aQ cs (by omega) (fun cs=>S ?_)
   obtain⟨v20,hv20,h⟩:=run_bind h
   refine aD (f:=(ao false)) hv20 SC (S ?_)
   obtain⟨v24,hv24,h⟩:=run_bind h
   refine aD (f:=(ao false)) hv24 SC (S ?_)
   obtain⟨v29,hv29,h⟩:=run_bind h
   refine aj [false,false] (a2_ok _ _ _ hv29) SC (S ?_)
   refine ah cs h (fun cs h=>S ?_) (fun cs h=>S ?_)
   ·have h:=run_some h
    refine aJ ⟨_,h,?_⟩
    exact aw SWx
   ·cases run_some h
    exact ag SC
  ·refine S ?_
   refine aR cs (by omega) (fun cs=>S ?_)
   cases run_some h
   exact ag SC
 ·cases run_some h
  exact ag SC

theorem impl_EqualTermsN_sat(n:Nat):(∀ (a0:Tt) (a1:Tt) (r:Bool),impl_EqualTermsN n a0 a1=some r→Sat ai 80 [((ao false) a0),((ao false) a1)] (B r)):=by
 induction n with
 | zero=>exact fun _ _ _ h=>by simp[impl_EqualTermsN] at h
 | succ n ih=>
  refine fun a0 a1 r h=>?_
  obtain⟨h,cs⟩:=au h
  rw[impl_EqualTermsN] at h
  refine az (nt:=17) (rs:=[.tmp 4]) (n:=100000) Try.func80 rfl rfl rfl rfl (by simp) (S ?_)
  refine ah cs h (fun cs h=>S ?_) (fun cs h=>S ?_)
  ·obtain⟨v15,hv15,h⟩:=run_bind h
   refine aj [false,false,false] (slices_EqualFunc_Simpl_Term_Simpl_Term_impl_Term_impl_Term_sat (fun _ _ _ hh=>ih _ _ _ hh) (by simp only[CapsOk_nil,CapsOk_cons]) hv15) SC (S ?_)
   cases run_some h
   exact ag SC
  ·cases run_some h
   exact ag SC
theorem impl_EqualTerms_sat{a0:Tt}{a1:Tt}{r:Bool}(h:impl_EqualTerms a0 a1=some r):Sat ai 80 [((ao false) a0),((ao false) a1)] (B r):=by
 obtain⟨n,hn⟩:=lim_some h
 exact(impl_EqualTermsN_sat n) _ _ _ hn

theorem slices_EqualFunc_Simpl_Formula_Simpl_Formula_impl_Formula_impl_Formula_sat{a0:List Ft}{a1:List Ft}{a2:Ft→Ft→Option Bool}{a2_id:FuncId}{a2_cs:List PV}(a2_ok:∀ y0 y1 r,a2 y0 y1=some r→Sat ai a2_id (((am false) y0)::((am false) y1)::a2_cs) (B r))(a2_cz:CapsOk a2_cs=True){r:Bool}(h:slices_EqualFunc_Simpl_Formula_Simpl_Formula_impl_Formula_impl_Formula a0 a1 a2=some r):Sat ai 81 [(.sl false 5 (a0.map (am false))),(.sl false 5 (a1.map (am false))),.clo a2_id a2_cs] (B r):=by
 obtain⟨h,cs⟩:=au h
 unfold slices_EqualFunc_Simpl_Formula_Simpl_Formula_impl_Formula_impl_Formula at h
 have cs:=aa a2_cz cs
 refine az (nt:=32) (rs:=[.tmp 6]) (n:=100000) Try.func81 rfl rfl rfl rfl (by simp) (S ?_)
 refine ah cs h (fun cs h=>S ?_) (fun cs h=>S ?_)
 ·refine bj (b:=false) (sz:=5) (es:=a0.map (am false)) 0 SC fun hl0=>?_; rw[aO] at hl0
  replace h:=run_loop h
  refine aX h (fun i4 s4=>[(1,.val (.pv (.sl false 5 (a1.map (am false))))),(2,.val (.pv (.clo a2_id a2_cs))),(15,.val (.pv (.sl false 5 (a0.map (am false))))),(16,.val (.pv (I (a0.length:Int)))),(17,.val (.pv (I (i4:Int))))]) (fun i4 s4=>[]) (aw SC) (fun i4 s4 hi h=>?_) (fun s4 h=>?_)
  ·have w:=wrap_succ (i:=i4) (by omega)
   refine S ?_
   refine aQ cs (by omega) (fun cs=>S ?_)
   obtain⟨v20,hv20,h⟩:=run_bind h
   refine aD (f:=(am false)) hv20 SC (S ?_)
   obtain⟨v24,hv24,h⟩:=run_bind h
   refine aD (f:=(am false)) hv24 SC (S ?_)
   obtain⟨v29,hv29,h⟩:=run_bind h
   refine aj [false,false] (a2_ok _ _ _ hv29) SC (S ?_)
   refine ah cs h (fun cs h=>S ?_) (fun cs h=>S ?_)
   ·have h:=run_some h
    refine aJ ⟨_,h,?_⟩
    exact aw SWx
   ·cases run_some h
    exact ag SC
  ·refine S ?_
   refine aR cs (by omega) (fun cs=>S ?_)
   cases run_some h
   exact ag SC
 ·cases run_some h
  exact ag SC

theorem impl_sameFormulaN_sat(n:Nat):(∀ (a0:Ft) (a1:Ft) (r:Bool),impl_sameFormulaN n a0 a1=some r→Sat ai 60 [((am false) a0),((am false) a1)] (B r)):=by
 induction n with
 | zero=>exact fun _ _ _ h=>by simp[impl_sameFormulaN] at h
 | succ n ih=>
  refine fun a0 a1 r h=>?_
  obtain⟨h,cs⟩:=au h
  rw[impl_sameFormulaN] at h
  refine az (nt:=31) (rs:=[.tmp 4]) (n:=100000) Try.func60 rfl rfl rfl rfl (by simp) (S ?_)
  refine ah cs h (fun cs h=>S ?_) (fun cs h=>S ?_)
  ·obtain⟨v15,hv15,h⟩:=run_bind h
   refine aj [false,false] (impl_EqualTerms_sat hv15) SC (S ?_)
   refine ah cs h (fun cs h=>S ?_) (fun cs h=>S ?_)
   ·refine ah cs h (fun cs h=>S ?_) (fun cs h=>S ?_)
    ·obtain⟨v29,hv29,h⟩:=run_bind h
     refine aj [false,false,false] (slices_EqualFunc_Simpl_Formula_Simpl_Formula_impl_Formula_impl_Formula_sat (fun _ _ _ hh=>ih _ _ _ hh) (by simp only[CapsOk_nil,CapsOk_cons]) hv29) SC (S ?_)
     cases run_some h
     exact ag SC
    ·cases run_some h
     exact ag SC
   ·cases run_some h
    exact ag SC
  ·cases run_some h
   exact ag SC
theorem impl_sameFormula_sat{a0:Ft}{a1:Ft}{r:Bool}(h:impl_sameFormula a0 a1=some r):Sat ai 60 [((am false) a0),((am false) a1)] (B r):=by
 obtain⟨n,hn⟩:=lim_some h
 exact(impl_sameFormulaN_sat n) _ _ _ hn

theorem impl_binary_sat{a0:Int}{a1:Ft}{a2:Ft}  {r:Ft}(h:impl_binary a0 a1 a2=some r):Sat ai 62 [(I a0),((am false) a1),((am false) a2)] ((am false) r):=by
 obtain⟨h,cs⟩:=au h
 unfold impl_binary at h
 refine az (nt:=12) (rs:=[.cell 6 29]) (n:=100000) Try.func62 rfl rfl rfl rfl (by simp) (S ?_)
 cases run_some h
 exact a7 SC

theorem impl_simplified_sat{a0:Int}{a1:Int}{a2:Int}{a3:Ft}{a4:Ft}  {r:Ft}(h:impl_simplified a0 a1 a2 a3 a4=some r):Sat ai 59 [(I a0),(I a1),(I a2),((am false) a3),((am false) a4)] ((am false) r):=by
 obtain⟨h,cs⟩:=au h
 unfold impl_simplified at h
 refine az (nt:=45) (rs:=[.cell 10 29]) (n:=100000) Try.func59 rfl rfl rfl rfl (by simp) (S ?_)
 refine ah cs h (fun cs h=>S ?_) (fun cs h=>S ?_)
 ·cases run_some h
  exact a7 SC
 ·refine ah cs h (fun cs h=>S ?_) (fun cs h=>S ?_)
  ·cases run_some h
   exact a7 SC
  ·refine ah cs h (fun cs h=>S ?_) (fun cs h=>S ?_)
   ·cases run_some h
    exact a7 SC
   ·refine ah cs h (fun cs h=>S ?_) (fun cs h=>S ?_)
    ·cases run_some h
     exact a7 SC
    ·obtain⟨v38,hv38,h⟩:=run_bind h
     refine aj [false,false] (impl_sameFormula_sat hv38) SC (S ?_)
     refine ah cs h (fun cs h=>S ?_) (fun cs h=>S ?_)
     ·cases run_some h
      exact a7 SC
     ·obtain⟨v44,hv44,h⟩:=run_bind h
      refine aj [false,false,false] (impl_binary_sat hv44) SC (S ?_)
      cases run_some h
      exact a7 SC

theorem impl_conjunction_sat{a0:Ft}{a1:Ft}  {r:Ft}(h:impl_conjunction a0 a1=some r):Sat ai 33 [((am false) a0),((am false) a1)] ((am false) r):=by
 obtain⟨h,cs⟩:=au h
 unfold impl_conjunction at h
 refine az (nt:=8) (rs:=[.cell 4 29]) (n:=100000) Try.func33 rfl rfl rfl rfl (by simp) (S ?_)
 obtain⟨v7,hv7,h⟩:=run_bind h
 refine aj [false,false,false,false,false] (impl_simplified_sat hv7) SC (S ?_)
 cases run_some h
 exact a7 SC

theorem impl_disjoined_sat{a0:Ft}{a1:Ft}  {r:Ft}(h:impl_disjoined a0 a1=some r):Sat ai 34 [((am false) a0),((am false) a1)] ((am false) r):=by
 obtain⟨h,cs⟩:=au h
 unfold impl_disjoined at h
 refine az (nt:=8) (rs:=[.cell 4 29]) (n:=100000) Try.func34 rfl rfl rfl rfl (by simp) (S ?_)
 obtain⟨v7,hv7,h⟩:=run_bind h
 refine aj [false,false,false,false,false] (impl_simplified_sat hv7) SC (S ?_)
 cases run_some h
 exact a7 SC

theorem impl_not_sat{a0:Ft}  {r:Ft}(h:impl_not a0=some r):Sat ai 61 [((am false) a0)] ((am false) r):=by
 obtain⟨h,cs⟩:=au h
 unfold impl_not at h
 refine az (nt:=6) (rs:=[.cell 2 29]) (n:=100000) Try.func61 rfl rfl rfl rfl (by simp) (S ?_)
 cases run_some h
 exact a7 SC

theorem impl_implication_sat{a0:Ft}{a1:Ft}  {r:Ft}(h:impl_implication a0 a1=some r):Sat ai 35 [((am false) a0),((am false) a1)] ((am false) r):=by
 obtain⟨h,cs⟩:=au h
 unfold impl_implication at h
 refine az (nt:=34) (rs:=[.cell 4 29]) (n:=100000) Try.func35 rfl rfl rfl rfl (by simp) (S ?_)
 refine ah cs h (fun cs h=>S ?_) (fun cs h=>S ?_)
 ·cases run_some h
  exact a7 SC
 ·refine ah cs h (fun cs h=>S ?_) (fun cs h=>S ?_)
  ·cases run_some h
   exact a7 SC
  ·refine ah cs h (fun cs h=>S ?_) (fun cs h=>S ?_)
   ·cases run_some h
    exact a7 SC
   ·obtain⟨v22,hv22,h⟩:=run_bind h
    refine aj [false,false] (impl_sameFormula_sat hv22) SC (S ?_)
    refine ah cs h (fun cs h=>S ?_) (fun cs h=>S ?_)
    ·cases run_some h
     exact a7 SC
    ·refine ah cs h (fun cs h=>S ?_) (fun cs h=>S ?_)
     ·obtain⟨v30,hv30,h⟩:=run_bind h
      refine aj [false] (impl_not_sat hv30) SC (S ?_)
      cases run_some h
      exact a7 SC
     ·obtain⟨v33,hv33,h⟩:=run_bind h
      refine aj [false,false,false] (impl_binary_sat hv33) SC (S ?_)
      cases run_some h
      exact a7 SC

theorem impl_simplifyN_sat(n:Nat):(∀ (a0:Ft) (r:Ft),impl_simplifyN n a0=some r→Sat ai 16 [((am false) a0)] ((am false) r)):=by
 induction n with
 | zero=>exact fun _ _ h=>by simp[impl_simplifyN] at h
 | succ n ih=>
  refine fun a0 r h=>?_
  obtain⟨h,cs⟩:=au h
  rw[impl_simplifyN] at h
  refine az (nt:=68) (rs:=[.cell 2 29]) (n:=100000) Try.func16 rfl rfl rfl rfl (by simp) (S ?_)
  obtain⟨v5,hv5,h⟩:=run_bind h
  refine aj [false,false] (impl_mapParts_sat (fun _ _ hh=>ih _ _ hh) (by simp only[CapsOk_nil,CapsOk_cons]) hv5) SC (S ?_)
  refine ah cs h (fun cs h=>S ?_) (fun cs h=>S ?_)
  ·obtain⟨v12,hv12,h⟩:=run_bind h
   refine aD (f:=(am false)) hv12 SC (S ?_)
   obtain⟨v14,hv14,h⟩:=run_bind h
   refine aj [false] (impl_isConstant_sat hv14) SC (S ?_)
   refine ah cs h (fun cs h=>S ?_) (fun cs h=>S ?_)
   ·obtain⟨v17,hv17,h⟩:=run_bind h
    refine aD (f:=(am false)) hv17 SC (S ?_)
    cases run_some h
    exact a7 SC
   ·cases run_some h
    exact a7 SC
  ·refine ah cs h (fun cs h=>S ?_) (fun cs h=>S ?_)
   ·obtain⟨v26,hv26,h⟩:=run_bind h
    refine aD (f:=(am false)) hv26 SC (S ?_)
    obtain⟨v30,hv30,h⟩:=run_bind h
    refine aD (f:=(am false)) hv30 SC (S ?_)
    obtain⟨v32,hv32,h⟩:=run_bind h
    refine aj [false,false] (impl_conjunction_sat hv32) SC (S ?_)
    refine aa (aN [] []) (S ?_)
    cases run_some h
    exact a7 SC
   ·refine ah cs h (fun cs h=>S ?_) (fun cs h=>S ?_)
    ·obtain⟨v37,hv37,h⟩:=run_bind h
     refine aD (f:=(am false)) hv37 SC (S ?_)
     obtain⟨v41,hv41,h⟩:=run_bind h
     refine aD (f:=(am false)) hv41 SC (S ?_)
     obtain⟨v43,hv43,h⟩:=run_bind h
     refine aj [false,false] (impl_disjoined_sat hv43) SC (S ?_)
     refine aa (aN [] []) (S ?_)
     cases run_some h
     exact a7 SC
    ·refine ah cs h (fun cs h=>S ?_) (fun cs h=>S ?_)
     ·obtain⟨v48,hv48,h⟩:=run_bind h
      refine aD (f:=(am false)) hv48 SC (S ?_)
      obtain⟨v52,hv52,h⟩:=run_bind h
      refine aD (f:=(am false)) hv52 SC (S ?_)
      obtain⟨v54,hv54,h⟩:=run_bind h
      refine aj [false,false] (impl_implication_sat hv54) SC (S ?_)
      refine aa (aN [] []) (S ?_)
      cases run_some h
      exact a7 SC
     ·refine ah cs h (fun cs h=>S ?_) (fun cs h=>S ?_)
      ·obtain⟨v60,hv60,h⟩:=run_bind h
       refine aD (f:=(am false)) hv60 SC (S ?_)
       obtain⟨v62,hv62,h⟩:=run_bind h
       refine aj [false] (impl_isConstant_sat hv62) SC (S ?_)
       refine ah cs h (fun cs h=>S ?_) (fun cs h=>S ?_)
       ·obtain⟨v65,hv65,h⟩:=run_bind h
        refine aD (f:=(am false)) hv65 SC (S ?_)
        cases run_some h
        exact a7 SC
       ·cases run_some h
        exact a7 SC
      ·refine ah cs h (fun cs h=>S ?_) (fun cs h=>S ?_)
       ·obtain⟨v60,hv60,h⟩:=run_bind h
        refine aD (f:=(am false)) hv60 SC (S ?_)
        obtain⟨v62,hv62,h⟩:=run_bind h
        refine aj [false] (impl_isConstant_sat hv62) SC (S ?_)
        refine ah cs h (fun cs h=>S ?_) (fun cs h=>S ?_)
        ·obtain⟨v65,hv65,h⟩:=run_bind h
         refine aD (f:=(am false)) hv65 SC (S ?_)
         cases run_some h
         exact a7 SC
        ·cases run_some h
         exact a7 SC
       ·cases run_some h
        exact a7 SC
theorem impl_simplify_sat{a0:Ft}{r:Ft}(h:impl_simplify a0=some r):Sat ai 16 [((am false) a0)] ((am false) r):=by
 obtain⟨n,hn⟩:=lim_some h
 exact(impl_simplifyN_sat n) _ _ hn

theorem impl_SimplifyFormula_sat{a0:Ft}  {r:Ft×Bool}(h:impl_SimplifyFormula a0=some r):Sat ai 6 [((am false) a0)] (.tup [((am false) r.1),(B r.2)]):=by
 obtain⟨h,cs⟩:=au h
 unfold impl_SimplifyFormula at h
 refine az (nt:=10) (rs:=[.cell 2 29,.tmp 3]) (n:=100000) Try.func6 rfl rfl rfl rfl (by simp) (S ?_)
 obtain⟨v5,hv5,h⟩:=run_bind h
 refine aj [false] (impl_IsValidFormula_sat hv5) SC (S ?_)
 refine ah cs h (fun cs h=>S ?_) (fun cs h=>S ?_)
 ·obtain⟨v9,hv9,h⟩:=run_bind h
  refine aj [false] (impl_simplify_sat hv9) SC (S ?_)
  cases run_some h
  exact a7 SC
 ·cases run_some h
  exact a7 SC

theorem spec_l8ManyN_sat(n:Nat):(∀ (a0:Ft) (a1:Int) (r:Int),spec_l8ManyN n a0 a1=some r→Sat ai 36 [((am false) a0),(I a1)] (I r)):=by
 induction n with
 | zero=>exact fun _ _ _ h=>by simp[spec_l8ManyN] at h
 | succ n ih=>
  refine fun a0 a1 r h=>?_
  obtain⟨h,cs⟩:=au h
  rw[spec_l8ManyN] at h
  refine az (nt:=31) (rs:=[.tmp 4]) (n:=100000) Try.func36 rfl rfl rfl rfl (by simp) (S ?_)
  refine Mg.know_val2 (b:=false) (sz:=5) (es:=a0.Parts.map (am false)) (x:=(.pv ((am false) a0))) 0 [3] SC fun hl0=>?_; rw[aO] at hl0
  replace h:=run_loop h
  refine aX h (fun i3 s3=>[(1,.val (.pv (I a1))),(2,.box (.pv ((am false) a0))),(5,.val (.pv (I s3))),(6,.val (.pv (I (i3:Int))))]) (fun i3 s3=>[]) (aw SC) (fun i3 s3 hi h=>?_) (fun s3 h=>?_)
  ·have w:=wrap_succ (i:=i3) (by omega)
   refine S ?_
   refine aQ cs (by omega) (fun cs=>S ?_)
   refine ah cs h (fun cs h=>S ?_) (fun cs h=>S ?_)
   ·obtain⟨v23,hv23,h⟩:=run_bind h
    refine aD (f:=(am false)) hv23 SC (S ?_)
    obtain⟨v28,hv28,h⟩:=run_bind h
    refine aj [false,false] (ih _ _ _ hv28) SC (S ?_)
    have h:=run_some h
    refine aJ ⟨_,h,?_⟩
    exact aw SWx
   ·cases run_some h
    exact ag SC
  ·refine S ?_
   refine aR cs (by omega) (fun cs=>S ?_)
   cases run_some h
   exact ag SC
theorem spec_l8Many_sat{a0:Ft}{a1:Int}{r:Int}(h:spec_l8Many a0 a1=some r):Sat ai 36 [((am false) a0),(I a1)] (I r):=by
 obtain⟨n,hn⟩:=lim_some h
 exact(spec_l8ManyN_sat n) _ _ _ hn

theorem spec_l8None_sat{a0:Tt}  {r:Bool}(h:spec_l8None a0=some r):Sat ai 82 [((ao false) a0)] (B r):=by
 obtain⟨h,cs⟩:=au h
 unfold spec_l8None at h
 refine az (nt:=12) (rs:=[.tmp 2]) (n:=100000) Try.func82 rfl rfl rfl rfl (by simp) (S ?_)
 refine ah cs h (fun cs h=>S ?_) (fun cs h=>S ?_)
 ·cases run_some h
  exact ag SC
 ·cases run_some h
  exact ag SC

theorem spec_l2ManyN_sat(n:Nat):(∀ (a0:Tt) (a1:Int) (r:Int),spec_l2ManyN n a0 a1=some r→Sat ai 100 [((ao false) a0),(I a1)] (I r)):=by
 induction n with
 | zero=>exact fun _ _ _ h=>by simp[spec_l2ManyN] at h
 | succ n ih=>
  refine fun a0 a1 r h=>?_
  obtain⟨h,cs⟩:=au h
  rw[spec_l2ManyN] at h
  refine az (nt:=31) (rs:=[.tmp 4]) (n:=100000) Try.func100 rfl rfl rfl rfl (by simp) (S ?_)
  refine Mg.know_val2 (b:=false) (sz:=2) (es:=a0.Args.map (ao false)) (x:=(.pv ((ao false) a0))) 0 [1] SC fun hl0=>?_; rw[aO] at hl0
  replace h:=run_loop h
  refine aX h (fun i3 s3=>[(1,.val (.pv (I a1))),(2,.box (.pv ((ao false) a0))),(5,.val (.pv (I s3))),(6,.val (.pv (I (i3:Int))))]) (fun i3 s3=>[]) (aw SC) (fun i3 s3 hi h=>?_) (fun s3 h=>?_)
  ·have w:=wrap_succ (i:=i3) (by omega)
   refine S ?_
   refine aQ cs (by omega) (fun cs=>S ?_)
   refine ah cs h (fun cs h=>S ?_) (fun cs h=>S ?_)
   ·obtain⟨v23,hv23,h⟩:=run_bind h
    refine aD (f:=(ao false)) hv23 SC (S ?_)
    obtain⟨v28,hv28,h⟩:=run_bind h
    refine aj [false,false] (ih _ _ _ hv28) SC (S ?_)
    have h:=run_some h
    refine aJ ⟨_,h,?_⟩
    exact aw SWx
   ·cases run_some h
    exact ag SC
  ·refine S ?_
   refine aR cs (by omega) (fun cs=>S ?_)
   cases run_some h
   exact ag SC
theorem spec_l2Many_sat{a0:Tt}{a1:Int}{r:Int}(h:spec_l2Many a0 a1=some r):Sat ai 100 [((ao false) a0),(I a1)] (I r):=by
 obtain⟨n,hn⟩:=lim_some h
 exact(spec_l2ManyN_sat n) _ _ _ hn

theorem spec_l1Most_sat{a0:Int}{a1:Int}  {r:Int}(h:spec_l1Most a0 a1=some r):Sat ai 102 [(I a0),(I a1)] (I r):=by
 obtain⟨h,cs⟩:=au h
 unfold spec_l1Most at h
 refine az (nt:=10) (rs:=[.tmp 4]) (n:=100000) Try.func102 rfl rfl rfl rfl (by simp) (S ?_)
 refine ah cs h (fun cs h=>S ?_) (fun cs h=>S ?_)
 ·cases run_some h
  exact ag SC
 ·cases run_some h
  exact ag SC

theorem spec_l2DepthN_sat(n:Nat):(∀ (a0:Tt) (r:Int),spec_l2DepthN n a0=some r→Sat ai 101 [((ao false) a0)] (I r)):=by
 induction n with
 | zero=>exact fun _ _ h=>by simp[spec_l2DepthN] at h
 | succ n ih=>
  refine fun a0 r h=>?_
  obtain⟨h,cs⟩:=au h
  rw[spec_l2DepthN] at h
  refine az (nt:=22) (rs:=[.tmp 2]) (n:=100000) Try.func101 rfl rfl rfl rfl (by simp) (S ?_)
  refine Mg.know_val2 (b:=false) (sz:=2) (es:=a0.Args.map (ao false)) (x:=(.pv ((ao false) a0))) 0 [1] SC fun hl0=>?_; rw[aO] at hl0
  replace h:=run_loop h
  refine aX h (fun i3 s3=>[(1,.box (.pv ((ao false) a0))),(3,.val (.pv (I s3))),(4,.val (.pv (I (i3:Int))))]) (fun i3 s3=>[]) (aw SC) (fun i3 s3 hi h=>?_) (fun s3 h=>?_)
  ·have w:=wrap_succ (i:=i3) (by omega)
   refine S ?_
   refine aQ cs (by omega) (fun cs=>S ?_)
   obtain⟨v16,hv16,h⟩:=run_bind h
   refine aD (f:=(ao false)) hv16 SC (S ?_)
   obtain⟨v18,hv18,h⟩:=run_bind h
   refine aj [false] (ih _ _ hv18) SC (S ?_)
   obtain⟨v19,hv19,h⟩:=run_bind h
   refine aj [false,false] (spec_l1Most_sat hv19) SC (S ?_)
   have h:=run_some h
   refine aJ ⟨_,h,?_⟩
   exact aw SWx
  ·refine S ?_
   refine aR cs (by omega) (fun cs=>S ?_)
   cases run_some h
   exact ag SC
theorem spec_l2Depth_sat{a0:Tt}{r:Int}(h:spec_l2Depth a0=some r):Sat ai 101 [((ao false) a0)] (I r):=by
 obtain⟨n,hn⟩:=lim_some h
 exact(spec_l2DepthN_sat n) _ _ hn

theorem spec_l2Fits_sat{a0:Tt}  {r:Bool}(h:spec_l2Fits a0=some r):Sat ai 92 [((ao false) a0)] (B r):=by
 obtain⟨h,cs⟩:=au h
 unfold spec_l2Fits at h
 refine az (nt:=11) (rs:=[.tmp 2]) (n:=100000) Try.func92 rfl rfl rfl rfl (by simp) (S ?_)
 obtain⟨v4,hv4,h⟩:=run_bind h
 refine aj [false,false] (spec_l2Many_sat hv4) SC (S ?_)
 refine ah cs h (fun cs h=>S ?_) (fun cs h=>S ?_)
 ·obtain⟨v8,hv8,h⟩:=run_bind h
  refine aj [false] (spec_l2Depth_sat hv8) SC (S ?_)
  cases run_some h
  exact ag SC
 ·cases run_some h
  exact ag SC

theorem spec_l1In_sat{a0:Int}{a1:Int}{a2:Int}  {r:Bool}(h:spec_l1In a0 a1 a2=some r):Sat ai 96 [(I a0),(I a1),(I a2)] (B r):=by
 obtain⟨h,cs⟩:=au h
 unfold spec_l1In at h
 refine az (nt:=15) (rs:=[.tmp 6]) (n:=100000) Try.func96 rfl rfl rfl rfl (by simp) (S ?_)
 refine ah cs h (fun cs h=>S ?_) (fun cs h=>S ?_)
 ·cases run_some h
  exact ag SC
 ·cases run_some h
  exact ag SC

theorem spec_l2Small_sat{a0:Int}  {r:Bool}(h:spec_l2Small a0=some r):Sat ai 97 [((Ik .u8) a0)] (B r):=by
 obtain⟨h,cs⟩:=au h
 unfold spec_l2Small at h
 refine az (nt:=17) (rs:=[.tmp 2]) (n:=100000) Try.func97 rfl rfl rfl rfl (by simp) (S ?_)
 refine ah cs h (fun cs h=>S ?_) (fun cs h=>S ?_)
 ·refine ah cs h (fun cs h=>S ?_) (fun cs h=>S ?_)
  ·cases run_some h
   exact ag SC
  ·refine ah cs h (fun cs h=>S ?_) (fun cs h=>S ?_)
   ·cases run_some h
    exact ag SC
   ·cases run_some h
    exact ag SC
 ·refine ah cs h (fun cs h=>S ?_) (fun cs h=>S ?_)
  ·cases run_some h
   exact ag SC
  ·cases run_some h
   exact ag SC

theorem spec_l2Var_sat{a0:ByteArray}  {r:Bool}(h:spec_l2Var a0=some r):Sat ai 84 [(Sx a0)] (B r):=by
 obtain⟨h,cs⟩:=au h
 unfold spec_l2Var at h
 refine az (nt:=29) (rs:=[.tmp 2]) (n:=100000) Try.func84 rfl rfl rfl rfl (by simp) (S ?_)
 obtain⟨v6,hv6,h⟩:=run_bind h
 refine aj [false,false,false] (spec_l1In_sat hv6) SC (S ?_)
 refine ah cs h (fun cs h=>S ?_) (fun cs h=>S ?_)
 ·obtain⟨v10,hv10,h⟩:=run_bind h
  refine bd hv10 (S ?_)
  refine ah cs h (fun cs h=>S ?_) (fun cs h=>S ?_)
  ·cases run_some h
   exact ag SC
  ·obtain⟨v15,hv15,h⟩:=run_bind h
   refine bd hv15 (S ?_)
   refine ah cs h (fun cs h=>S ?_) (fun cs h=>S ?_)
   ·cases run_some h
    exact ag SC
   ·obtain⟨N4,hN4,h⟩:=run_bind h
    obtain⟨hN4a,hN4b⟩:=bnd_some hN4
    replace h:=run_loop h
    refine Mg.forA (N:=N4) (a:=1) h (fun i4 s4=>[(0,.val (.pv (Sx a0))),(3,.val (.pv (I (i4:Int))))]) (fun i4 s4=>[]) (aw SC) (fun i4 s4 hi hj h=>?_) (fun j4 s4 hj h=>?_)
    ·have w:=wrap_succ (i:=i4) (by omega)
     refine S ?_
     refine aQ cs (by omega) (fun cs=>S ?_)
     obtain⟨v26,hv26,h⟩:=run_bind h
     refine bd hv26 (S ?_)
     obtain⟨v27,hv27,h⟩:=run_bind h
     refine aj [false] (spec_l2Small_sat hv27) SC (S ?_)
     refine ah cs h (fun cs h=>S ?_) (fun cs h=>S ?_)
     ·have h:=run_some h
      refine aJ ⟨_,h,?_⟩
      exact aw SWx
     ·cases run_some h
      exact ag SC
    ·refine S ?_
     refine aR cs (by omega) (fun cs=>S ?_)
     cases run_some h
     exact ag SC
 ·cases run_some h
  exact ag SC

theorem spec_l2Symbol_sat{a0:ByteArray}  {r:Bool}(h:spec_l2Symbol a0=some r):Sat ai 94 [(Sx a0)] (B r):=by
 obtain⟨h,cs⟩:=au h
 unfold spec_l2Symbol at h
 refine az (nt:=45) (rs:=[.tmp 2]) (n:=100000) Try.func94 rfl rfl rfl rfl (by simp) (S ?_)
 obtain⟨v6,hv6,h⟩:=run_bind h
 refine aj [false,false,false] (spec_l1In_sat hv6) SC (S ?_)
 refine ah cs h (fun cs h=>S ?_) (fun cs h=>S ?_)
 ·obtain⟨v10,hv10,h⟩:=run_bind h
  refine bd hv10 (S ?_)
  refine ah cs h (fun cs h=>S ?_) (fun cs h=>S ?_)
  ·cases run_some h
   exact ag SC
  ·obtain⟨v15,hv15,h⟩:=run_bind h
   refine bd hv15 (S ?_)
   refine ah cs h (fun cs h=>S ?_) (fun cs h=>S ?_)
   ·cases run_some h
    exact ag SC
   ·refine ah cs h (fun cs h=>S ?_) (fun cs h=>S ?_)
    ·cases run_some h
     exact ag SC
    ·refine ah cs h (fun cs h=>S ?_) (fun cs h=>S ?_)
     ·cases run_some h
      exact ag SC
     ·refine ah cs h (fun cs h=>S ?_) (fun cs h=>S ?_)
      ·cases run_some h
       exact ag SC
      ·refine ah cs h (fun cs h=>S ?_) (fun cs h=>S ?_)
       ·cases run_some h
        exact ag SC
       ·refine ah cs h (fun cs h=>S ?_) (fun cs h=>S ?_)
        ·cases run_some h
         exact ag SC
        ·refine ah cs h (fun cs h=>S ?_) (fun cs h=>S ?_)
         ·cases run_some h
          exact ag SC
         ·refine ah cs h (fun cs h=>S ?_) (fun cs h=>S ?_)
          ·cases run_some h
           exact ag SC
          ·refine ah cs h (fun cs h=>S ?_) (fun cs h=>S ?_)
           ·cases run_some h
            exact ag SC
           ·obtain⟨N14,hN14,h⟩:=run_bind h
            obtain⟨hN14a,hN14b⟩:=bnd_some hN14
            replace h:=run_loop h
            refine Mg.forA (N:=N14) (a:=1) h (fun i14 s14=>[(0,.val (.pv (Sx a0))),(3,.val (.pv (I (i14:Int))))]) (fun i14 s14=>[]) (aw SC) (fun i14 s14 hi hj h=>?_) (fun j14 s14 hj h=>?_)
            ·have w:=wrap_succ (i:=i14) (by omega)
             refine S ?_
             refine aQ cs (by omega) (fun cs=>S ?_)
             obtain⟨v36,hv36,h⟩:=run_bind h
             refine bd hv36 (S ?_)
             obtain⟨v37,hv37,h⟩:=run_bind h
             refine aj [false] (spec_l2Small_sat hv37) SC (S ?_)
             refine ah cs h (fun cs h=>S ?_) (fun cs h=>S ?_)
             ·have h:=run_some h
              refine aJ ⟨_,h,?_⟩
              exact aw SWx
             ·obtain⟨v42,hv42,h⟩:=run_bind h
              refine bd hv42 (S ?_)
              refine ah cs h (fun cs h=>S ?_) (fun cs h=>S ?_)
              ·have h:=run_some h
               refine aJ ⟨_,h,?_⟩
               exact aw SWx
              ·cases run_some h
               exact ag SC
            ·refine S ?_
             refine aR cs (by omega) (fun cs=>S ?_)
             cases run_some h
             exact ag SC
 ·cases run_some h
  exact ag SC

theorem spec_l2NodesN_sat(n:Nat):(∀ (a0:Tt) (r:Bool),spec_l2NodesN n a0=some r→Sat ai 93 [((ao false) a0)] (B r)):=by
 induction n with
 | zero=>exact fun _ _ h=>by simp[spec_l2NodesN] at h
 | succ n ih=>
  refine fun a0 r h=>?_
  obtain⟨h,cs⟩:=au h
  rw[spec_l2NodesN] at h
  refine az (nt:=35) (rs:=[.tmp 2]) (n:=100000) Try.func93 rfl rfl rfl rfl (by simp) (S ?_)
  obtain⟨v6,hv6,h⟩:=run_bind h
  refine aj [false] (spec_l2Var_sat hv6) SC (S ?_)
  refine ah cs h (fun cs h=>S ?_) (fun cs h=>S ?_)
  ·cases run_some h
   exact ag SC
  ·obtain⟨v13,hv13,h⟩:=run_bind h
   refine aj [false] (spec_l2Symbol_sat hv13) SC (S ?_)
   refine ah cs h (fun cs h=>S ?_) (fun cs h=>S ?_)
   ·refine ah cs h (fun cs h=>S ?_) (fun cs h=>S ?_)
    ·cases run_some h
     exact ag SC
    ·refine bj (b:=false) (sz:=2) (es:=a0.Args.map (ao false)) 17 SC fun hl17=>?_; rw[aO] at hl17
     replace h:=run_loop h
     refine aX h (fun i6 s6=>[(1,.box (.pv ((ao false) a0))),(3,.val (.pv (I (i6:Int))))]) (fun i6 s6=>[]) (aw SC) (fun i6 s6 hi h=>?_) (fun s6 h=>?_)
     ·have w:=wrap_succ (i:=i6) (by omega)
      refine S ?_
      refine aQ cs (by omega) (fun cs=>S ?_)
      obtain⟨v31,hv31,h⟩:=run_bind h
      refine aD (f:=(ao false)) hv31 SC (S ?_)
      obtain⟨v33,hv33,h⟩:=run_bind h
      refine aj [false] (ih _ _ hv33) SC (S ?_)
      refine ah cs h (fun cs h=>S ?_) (fun cs h=>S ?_)
      ·have h:=run_some h
       refine aJ ⟨_,h,?_⟩
       exact aw SWx
      ·cases run_some h
       exact ag SC
     ·refine S ?_
      refine aR cs (by omega) (fun cs=>S ?_)
      cases run_some h
      exact ag SC
   ·cases run_some h
    exact ag SC
theorem spec_l2Nodes_sat{a0:Tt}{r:Bool}(h:spec_l2Nodes a0=some r):Sat ai 93 [((ao false) a0)] (B r):=by
 obtain⟨n,hn⟩:=lim_some h
 exact(spec_l2NodesN_sat n) _ _ hn

theorem spec_l2Good_sat{a0:Tt}  {r:Bool}(h:spec_l2Good a0=some r):Sat ai 95 [((ao false) a0)] (B r):=by
 obtain⟨h,cs⟩:=au h
 unfold spec_l2Good at h
 refine az (nt:=9) (rs:=[.tmp 2]) (n:=100000) Try.func95 rfl rfl rfl rfl (by simp) (S ?_)
 obtain⟨v4,hv4,h⟩:=run_bind h
 refine aj [false] (spec_l2Fits_sat hv4) SC (S ?_)
 refine ah cs h (fun cs h=>S ?_) (fun cs h=>S ?_)
 ·obtain⟨v7,hv7,h⟩:=run_bind h
  refine aj [false] (spec_l2Nodes_sat hv7) SC (S ?_)
  cases run_some h
  exact ag SC
 ·cases run_some h
  exact ag SC

theorem spec_l2Atom_sat{a0:Tt}  {r:Bool}(h:spec_l2Atom a0=some r):Sat ai 83 [((ao false) a0)] (B r):=by
 obtain⟨h,cs⟩:=au h
 unfold spec_l2Atom at h
 refine az (nt:=35) (rs:=[.tmp 2]) (n:=100000) Try.func83 rfl rfl rfl rfl (by simp) (S ?_)
 refine ah cs h (fun cs h=>S ?_) (fun cs h=>S ?_)
 ·refine ah cs h (fun cs h=>S ?_) (fun cs h=>S ?_)
  ·obtain⟨v12,hv12,h⟩:=run_bind h
   refine aj [false] (spec_l2Fits_sat hv12) SC (S ?_)
   refine ah cs h (fun cs h=>S ?_) (fun cs h=>S ?_)
   ·obtain⟨v17,hv17,h⟩:=run_bind h
    refine aD (f:=(ao false)) hv17 SC (S ?_)
    obtain⟨v19,hv19,h⟩:=run_bind h
    refine aj [false] (spec_l2Nodes_sat hv19) SC (S ?_)
    refine ah cs h (fun cs h=>S ?_) (fun cs h=>S ?_)
    ·obtain⟨v24,hv24,h⟩:=run_bind h
     refine aD (f:=(ao false)) hv24 SC (S ?_)
     obtain⟨v26,hv26,h⟩:=run_bind h
     refine aj [false] (spec_l2Nodes_sat hv26) SC (S ?_)
     cases run_some h
     exact ag SC
    ·cases run_some h
     exact ag SC
   ·cases run_some h
    exact ag SC
  ·cases run_some h
   exact ag SC
 ·obtain⟨v30,hv30,h⟩:=run_bind h
  refine aj [false] (spec_l2Symbol_sat hv30) SC (S ?_)
  refine ah cs h (fun cs h=>S ?_) (fun cs h=>S ?_)
  ·obtain⟨v33,hv33,h⟩:=run_bind h
   refine aj [false] (spec_l2Good_sat hv33) SC (S ?_)
   cases run_some h
   exact ag SC
  ·cases run_some h
   exact ag SC

theorem spec_l8Form_sat{a0:Ft}  {r:Bool}(h:spec_l8Form a0=some r):Sat ai 63 [((am false) a0)] (B r):=by
 obtain⟨h,cs⟩:=au h
 unfold spec_l8Form at h
 refine az (nt:=83) (rs:=[.tmp 2]) (n:=100000) Try.func63 rfl rfl rfl rfl (by simp) (S ?_)
 refine ah cs h (fun cs h=>S ?_) (fun cs h=>S ?_)
 ·refine ah cs h (fun cs h=>S ?_) (fun cs h=>S ?_)
  ·obtain⟨v17,hv17,h⟩:=run_bind h
   refine aj [false] (spec_l8None_sat hv17) SC (S ?_)
   refine ah cs h (fun cs h=>S ?_) (fun cs h=>S ?_)
   ·cases run_some h
    exact ag SC
   ·cases run_some h
    exact ag SC
  ·cases run_some h
   exact ag SC
 ·refine ah cs h (fun cs h=>S ?_) (fun cs h=>S ?_)
  ·refine ah cs h (fun cs h=>S ?_) (fun cs h=>S ?_)
   ·obtain⟨v17,hv17,h⟩:=run_bind h
    refine aj [false] (spec_l8None_sat hv17) SC (S ?_)
    refine ah cs h (fun cs h=>S ?_) (fun cs h=>S ?_)
    ·cases run_some h
     exact ag SC
    ·cases run_some h
     exact ag SC
   ·cases run_some h
    exact ag SC
  ·refine ah cs h (fun cs h=>S ?_) (fun cs h=>S ?_)
   ·refine ah cs h (fun cs h=>S ?_) (fun cs h=>S ?_)
    ·obtain⟨v31,hv31,h⟩:=run_bind h
     refine aj [false] (spec_l2Atom_sat hv31) SC (S ?_)
     refine ah cs h (fun cs h=>S ?_) (fun cs h=>S ?_)
     ·cases run_some h
      exact ag SC
     ·cases run_some h
      exact ag SC
    ·cases run_some h
     exact ag SC
   ·refine ah cs h (fun cs h=>S ?_) (fun cs h=>S ?_)
    ·refine ah cs h (fun cs h=>S ?_) (fun cs h=>S ?_)
     ·obtain⟨v45,hv45,h⟩:=run_bind h
      refine aj [false] (spec_l8None_sat hv45) SC (S ?_)
      refine ah cs h (fun cs h=>S ?_) (fun cs h=>S ?_)
      ·cases run_some h
       exact ag SC
      ·cases run_some h
       exact ag SC
     ·cases run_some h
      exact ag SC
    ·refine ah cs h (fun cs h=>S ?_) (fun cs h=>S ?_)
     ·refine ah cs h (fun cs h=>S ?_) (fun cs h=>S ?_)
      ·obtain⟨v61,hv61,h⟩:=run_bind h
       refine aj [false] (spec_l8None_sat hv61) SC (S ?_)
       refine ah cs h (fun cs h=>S ?_) (fun cs h=>S ?_)
       ·cases run_some h
        exact ag SC
       ·cases run_some h
        exact ag SC
      ·cases run_some h
       exact ag SC
     ·refine ah cs h (fun cs h=>S ?_) (fun cs h=>S ?_)
      ·refine ah cs h (fun cs h=>S ?_) (fun cs h=>S ?_)
       ·obtain⟨v61,hv61,h⟩:=run_bind h
        refine aj [false] (spec_l8None_sat hv61) SC (S ?_)
        refine ah cs h (fun cs h=>S ?_) (fun cs h=>S ?_)
        ·cases run_some h
         exact ag SC
        ·cases run_some h
         exact ag SC
       ·cases run_some h
        exact ag SC
      ·refine ah cs h (fun cs h=>S ?_) (fun cs h=>S ?_)
       ·refine ah cs h (fun cs h=>S ?_) (fun cs h=>S ?_)
        ·obtain⟨v61,hv61,h⟩:=run_bind h
         refine aj [false] (spec_l8None_sat hv61) SC (S ?_)
         refine ah cs h (fun cs h=>S ?_) (fun cs h=>S ?_)
         ·cases run_some h
          exact ag SC
         ·cases run_some h
          exact ag SC
        ·cases run_some h
         exact ag SC
       ·refine ah cs h (fun cs h=>S ?_) (fun cs h=>S ?_)
        ·refine ah cs h (fun cs h=>S ?_) (fun cs h=>S ?_)
         ·obtain⟨v76,hv76,h⟩:=run_bind h
          refine aj [false] (spec_l8None_sat hv76) SC (S ?_)
          refine ah cs h (fun cs h=>S ?_) (fun cs h=>S ?_)
          ·obtain⟨v81,hv81,h⟩:=run_bind h
           refine aj [false] (spec_l2Var_sat hv81) SC (S ?_)
           cases run_some h
           exact ag SC
          ·cases run_some h
           exact ag SC
         ·cases run_some h
          exact ag SC
        ·refine ah cs h (fun cs h=>S ?_) (fun cs h=>S ?_)
         ·refine ah cs h (fun cs h=>S ?_) (fun cs h=>S ?_)
          ·obtain⟨v76,hv76,h⟩:=run_bind h
           refine aj [false] (spec_l8None_sat hv76) SC (S ?_)
           refine ah cs h (fun cs h=>S ?_) (fun cs h=>S ?_)
           ·obtain⟨v81,hv81,h⟩:=run_bind h
            refine aj [false] (spec_l2Var_sat hv81) SC (S ?_)
            cases run_some h
            exact ag SC
           ·cases run_some h
            exact ag SC
          ·cases run_some h
           exact ag SC
         ·cases run_some h
          exact ag SC

theorem spec_l8FormsN_sat(n:Nat):(∀ (a0:Ft) (r:Bool),spec_l8FormsN n a0=some r→Sat ai 37 [((am false) a0)] (B r)):=by
 induction n with
 | zero=>exact fun _ _ h=>by simp[spec_l8FormsN] at h
 | succ n ih=>
  refine fun a0 r h=>?_
  obtain⟨h,cs⟩:=au h
  rw[spec_l8FormsN] at h
  refine az (nt:=21) (rs:=[.tmp 2]) (n:=100000) Try.func37 rfl rfl rfl rfl (by simp) (S ?_)
  obtain⟨v5,hv5,h⟩:=run_bind h
  refine aj [false] (spec_l8Form_sat hv5) SC (S ?_)
  refine ah cs h (fun cs h=>S ?_) (fun cs h=>S ?_)
  ·refine Mg.know_val2 (b:=false) (sz:=5) (es:=a0.Parts.map (am false)) (x:=(.pv ((am false) a0))) 0 [3] SC fun hl0=>?_; rw[aO] at hl0
   replace h:=run_loop h
   refine aX h (fun i4 s4=>[(1,.box (.pv ((am false) a0))),(3,.val (.pv (I (i4:Int))))]) (fun i4 s4=>[]) (aw SC) (fun i4 s4 hi h=>?_) (fun s4 h=>?_)
   ·have w:=wrap_succ (i:=i4) (by omega)
    refine S ?_
    refine aQ cs (by omega) (fun cs=>S ?_)
    obtain⟨v17,hv17,h⟩:=run_bind h
    refine aD (f:=(am false)) hv17 SC (S ?_)
    obtain⟨v19,hv19,h⟩:=run_bind h
    refine aj [false] (ih _ _ hv19) SC (S ?_)
    refine ah cs h (fun cs h=>S ?_) (fun cs h=>S ?_)
    ·have h:=run_some h
     refine aJ ⟨_,h,?_⟩
     exact aw SWx
    ·cases run_some h
     exact ag SC
   ·refine S ?_
    refine aR cs (by omega) (fun cs=>S ?_)
    cases run_some h
    exact ag SC
  ·cases run_some h
   exact ag SC
theorem spec_l8Forms_sat{a0:Ft}{r:Bool}(h:spec_l8Forms a0=some r):Sat ai 37 [((am false) a0)] (B r):=by
 obtain⟨n,hn⟩:=lim_some h
 exact(spec_l8FormsN_sat n) _ _ hn

theorem spec_l8Good_sat{a0:Ft}  {r:Bool}(h:spec_l8Good a0=some r):Sat ai 17 [((am false) a0)] (B r):=by
 obtain⟨h,cs⟩:=au h
 unfold spec_l8Good at h
 refine az (nt:=10) (rs:=[.tmp 2]) (n:=100000) Try.func17 rfl rfl rfl rfl (by simp) (S ?_)
 obtain⟨v4,hv4,h⟩:=run_bind h
 refine aj [false,false] (spec_l8Many_sat hv4) SC (S ?_)
 refine ah cs h (fun cs h=>S ?_) (fun cs h=>S ?_)
 ·obtain⟨v8,hv8,h⟩:=run_bind h
  refine aj [false] (spec_l8Forms_sat hv8) SC (S ?_)
  cases run_some h
  exact ag SC
 ·cases run_some h
  exact ag SC

theorem spec_l2OwnN_sat(n:Nat):(∀ (a0:Tt) (r:Tt),spec_l2OwnN n a0=some r→Sat ai 64 [((ao false) a0)] ((ao true) r)):=by
 induction n with
 | zero=>exact fun _ _ h=>by simp[spec_l2OwnN] at h
 | succ n ih=>
  refine fun a0 r h=>?_
  obtain⟨h,cs⟩:=au h
  rw[spec_l2OwnN] at h
  refine az (nt:=27) (rs:=[.cell 2 26]) (n:=100000) Try.func64 rfl rfl rfl rfl (by simp) (S ?_)
  refine Mg.know_val2 (b:=false) (sz:=2) (es:=a0.Args.map (ao false)) (x:=(.pv ((ao false) a0))) 0 [1] SC fun hl0=>?_; rw[aO] at hl0
  replace h:=run_loop h
  refine aX h (fun i3 s3=>[(1,.box (.pv ((ao false) a0))),(2,.box zab0),(3,.box (.node [(.pv (Sx a0.Name)),(.own 9309)])),(4,.val (.pv (I (i3:Int))))]) (fun i3 s3=>[(9309,(2,s3.map (ao true)))]) (St.le_trans (St.le_nilB (x:=(.node [(.pv (Sx a0.Name)),(.pv (.sl true 2 []))])) 3 [1] 9309 2 NM SC SC SC) (aw SC)) (fun i3 s3 hi h=>?_) (fun s3 h=>?_)
  ·have w:=wrap_succ (i:=i3) (by omega)
   refine S ?_
   refine aQ cs (by omega) (fun cs=>S ?_)
   obtain⟨v20,hv20,h⟩:=run_bind h
   refine aD (f:=(ao false)) hv20 SC (S ?_)
   obtain⟨v22,hv22,h⟩:=run_bind h
   refine aj [false] (ih _ _ hv22) SC (S ?_)
   obtain⟨v24,hv24,h⟩:=run_bind h
   refine AppH.mk (f:=(ao true)) (fun a=>Tt.psize _ a) hv24 SC SC (S ?_)
   refine aa (aN [] [352,368,384]) (S ?_)
   have h:=run_some h
   refine aJ ⟨_,h,?_⟩
   refine St.le_rt 384 9309 ?_
   exact aw SWx
  ·refine S ?_
   refine aR cs (by omega) (fun cs=>S ?_)
   cases run_some h
   exact ag SC
theorem spec_l2Own_sat{a0:Tt}{r:Tt}(h:spec_l2Own a0=some r):Sat ai 64 [((ao false) a0)] ((ao true) r):=by
 obtain⟨n,hn⟩:=lim_some h
 exact(spec_l2OwnN_sat n) _ _ hn

theorem spec_l8OwnN_sat(n:Nat):(∀ (a0:Ft) (r:Ft),spec_l8OwnN n a0=some r→Sat ai 38 [((am false) a0)] ((am true) r)):=by
 induction n with
 | zero=>exact fun _ _ h=>by simp[spec_l8OwnN] at h
 | succ n ih=>
  refine fun a0 r h=>?_
  obtain⟨h,cs⟩:=au h
  rw[spec_l8OwnN] at h
  refine az (nt:=32) (rs:=[.cell 2 29]) (n:=100000) Try.func38 rfl rfl rfl rfl (by simp) (S ?_)
  obtain⟨v9,hv9,h⟩:=run_bind h
  refine aj [false] (spec_l2Own_sat hv9) SC (S ?_)
  refine aa (aN [3] [144]) (S ?_)
  refine Mg.know_val2 (b:=false) (sz:=5) (es:=a0.Parts.map (am false)) (x:=(.pv ((am false) a0))) 0 [3] SC fun hl0=>?_; rw[aO] at hl0
  replace h:=run_loop h
  refine aX h (fun i3 s3=>[(1,.box (.pv ((am false) a0))),(2,.box (.node [(.pv (I 0)),zab0,(.pv (Sx ⟨#[]⟩)),(.pv (.sl true 5 []))])),(3,.box (.node [(.pv (I a0.Op)),(.node [(.pv (Sx v9.Name)),(.own 144)]),(.pv (Sx a0.Var)),(.own 9309)])),(4,.val (.pv (I (i3:Int))))]) (fun i3 s3=>[(144,(2,v9.Args.map (ao true))),(9309,(5,s3.map (am true)))]) (St.le_trans (St.le_nilB (x:=(.node [(.pv (I a0.Op)),(.node [(.pv (Sx v9.Name)),(.own 144)]),(.pv (Sx a0.Var)),(.pv (.sl true 5 []))])) 3 [3] 9309 5 NM SC SC SC) (aw SC)) (fun i3 s3 hi h=>?_) (fun s3 h=>?_)
  ·have w:=wrap_succ (i:=i3) (by omega)
   refine S ?_
   refine aQ cs (by omega) (fun cs=>S ?_)
   obtain⟨v25,hv25,h⟩:=run_bind h
   refine aD (f:=(am false)) hv25 SC (S ?_)
   obtain⟨v27,hv27,h⟩:=run_bind h
   refine aj [false] (ih _ _ hv27) SC (S ?_)
   obtain⟨v29,hv29,h⟩:=run_bind h
   refine AppH.mk (f:=(am true)) (fun a=>Ft.psize _ a) hv29 SC SC (S ?_)
   refine aa (aN [] [432,433,448,464]) (S ?_)
   have h:=run_some h
   refine aJ ⟨_,h,?_⟩
   refine St.le_rt 464 9309 ?_
   exact aw SWx
  ·refine S ?_
   refine aR cs (by omega) (fun cs=>S ?_)
   cases run_some h
   exact ag SC
theorem spec_l8Own_sat{a0:Ft}{r:Ft}(h:spec_l8Own a0=some r):Sat ai 38 [((am false) a0)] ((am true) r):=by
 obtain⟨n,hn⟩:=lim_some h
 exact(spec_l8OwnN_sat n) _ _ hn

theorem spec_l20Constant_sat{a0:Ft}  {r:Bool}(h:spec_l20Constant a0=some r):Sat ai 39 [((am false) a0)] (B r):=by
 obtain⟨h,cs⟩:=au h
 unfold spec_l20Constant at h
 refine az (nt:=11) (rs:=[.tmp 2]) (n:=100000) Try.func39 rfl rfl rfl rfl (by simp) (S ?_)
 refine ah cs h (fun cs h=>S ?_) (fun cs h=>S ?_)
 ·cases run_some h
  exact ag SC
 ·cases run_some h
  exact ag SC

theorem spec_l2SameN_sat(n:Nat):(∀ (a0:Tt) (a1:Tt) (r:Bool),spec_l2SameN n a0 a1=some r→Sat ai 65 [((ao false) a0),((ao false) a1)] (B r)):=by
 induction n with
 | zero=>exact fun _ _ _ h=>by simp[spec_l2SameN] at h
 | succ n ih=>
  refine fun a0 a1 r h=>?_
  obtain⟨h,cs⟩:=au h
  rw[spec_l2SameN] at h
  refine az (nt:=39) (rs:=[.tmp 4]) (n:=100000) Try.func65 rfl rfl rfl rfl (by simp) (S ?_)
  refine ah cs h (fun cs h=>S ?_) (fun cs h=>S ?_)
  ·refine ah cs h (fun cs h=>S ?_) (fun cs h=>S ?_)
   ·refine bj (b:=false) (sz:=2) (es:=a0.Args.map (ao false)) 13 SC fun hl13=>?_; rw[aO] at hl13
    replace h:=run_loop h
    refine aX h (fun i4 s4=>[(2,.box (.pv ((ao false) a0))),(3,.box (.pv ((ao false) a1))),(5,.val (.pv (I (i4:Int))))]) (fun i4 s4=>[]) (aw SC) (fun i4 s4 hi h=>?_) (fun s4 h=>?_)
    ·have w:=wrap_succ (i:=i4) (by omega)
     refine S ?_
     refine aQ cs (by omega) (fun cs=>S ?_)
     obtain⟨v30,hv30,h⟩:=run_bind h
     refine aD (f:=(ao false)) hv30 SC (S ?_)
     obtain⟨v35,hv35,h⟩:=run_bind h
     refine aD (f:=(ao false)) hv35 SC (S ?_)
     obtain⟨v37,hv37,h⟩:=run_bind h
     refine aj [false,false] (ih _ _ _ hv37) SC (S ?_)
     refine aa (aN [] []) (S ?_)
     refine ah cs h (fun cs h=>S ?_) (fun cs h=>S ?_)
     ·have h:=run_some h
      refine aJ ⟨_,h,?_⟩
      exact aw SWx
     ·cases run_some h
      exact ag SC
    ·refine S ?_
     refine aR cs (by omega) (fun cs=>S ?_)
     cases run_some h
     exact ag SC
   ·cases run_some h
    exact ag SC
  ·cases run_some h
   exact ag SC
theorem spec_l2Same_sat{a0:Tt}{a1:Tt}{r:Bool}(h:spec_l2Same a0 a1=some r):Sat ai 65 [((ao false) a0),((ao false) a1)] (B r):=by
 obtain⟨n,hn⟩:=lim_some h
 exact(spec_l2SameN_sat n) _ _ _ hn

theorem spec_l8SameN_sat(n:Nat):(∀ (a0:Ft) (a1:Ft) (r:Bool),spec_l8SameN n a0 a1=some r→Sat ai 41 [((am false) a0),((am false) a1)] (B r)):=by
 induction n with
 | zero=>exact fun _ _ _ h=>by simp[spec_l8SameN] at h
 | succ n ih=>
  refine fun a0 a1 r h=>?_
  obtain⟨h,cs⟩:=au h
  rw[spec_l8SameN] at h
  refine az (nt:=54) (rs:=[.tmp 4]) (n:=100000) Try.func41 rfl rfl rfl rfl (by simp) (S ?_)
  refine ah cs h (fun cs h=>S ?_) (fun cs h=>S ?_)
  ·refine ah cs h (fun cs h=>S ?_) (fun cs h=>S ?_)
   ·obtain⟨v23,hv23,h⟩:=run_bind h
    refine aj [false,false] (spec_l2Same_sat hv23) SC (S ?_)
    refine ah cs h (fun cs h=>S ?_) (fun cs h=>S ?_)
    ·refine ah cs h (fun cs h=>S ?_) (fun cs h=>S ?_)
     ·refine bj (b:=false) (sz:=5) (es:=a0.Parts.map (am false)) 28 SC fun hl28=>?_; rw[aO] at hl28
      replace h:=run_loop h
      refine aX h (fun i4 s4=>[(2,.box (.pv ((am false) a0))),(3,.box (.pv ((am false) a1))),(5,.val (.pv (I (i4:Int))))]) (fun i4 s4=>[]) (aw SC) (fun i4 s4 hi h=>?_) (fun s4 h=>?_)
      ·have w:=wrap_succ (i:=i4) (by omega)
       refine S ?_
       refine aQ cs (by omega) (fun cs=>S ?_)
       obtain⟨v45,hv45,h⟩:=run_bind h
       refine aD (f:=(am false)) hv45 SC (S ?_)
       obtain⟨v50,hv50,h⟩:=run_bind h
       refine aD (f:=(am false)) hv50 SC (S ?_)
       obtain⟨v52,hv52,h⟩:=run_bind h
       refine aj [false,false] (ih _ _ _ hv52) SC (S ?_)
       refine aa (aN [] []) (S ?_)
       refine ah cs h (fun cs h=>S ?_) (fun cs h=>S ?_)
       ·have h:=run_some h
        refine aJ ⟨_,h,?_⟩
        exact aw SWx
       ·cases run_some h
        exact ag SC
      ·refine S ?_
       refine aR cs (by omega) (fun cs=>S ?_)
       cases run_some h
       exact ag SC
     ·cases run_some h
      exact ag SC
    ·cases run_some h
     exact ag SC
   ·cases run_some h
    exact ag SC
  ·cases run_some h
   exact ag SC
theorem spec_l8Same_sat{a0:Ft}{a1:Ft}{r:Bool}(h:spec_l8Same a0 a1=some r):Sat ai 41 [((am false) a0),((am false) a1)] (B r):=by
 obtain⟨n,hn⟩:=lim_some h
 exact(spec_l8SameN_sat n) _ _ _ hn

theorem spec_l20Two_sat{a0:Int}{a1:Ft}{a2:Ft}  {r:Ft}(h:spec_l20Two a0 a1 a2=some r):Sat ai 40 [(I a0),((am false) a1),((am false) a2)] ((am true) r):=by
 obtain⟨h,cs⟩:=au h
 unfold spec_l20Two at h
 refine az (nt:=50) (rs:=[.cell 6 29]) (n:=100000) Try.func40 rfl rfl rfl rfl (by simp) (S ?_)
 refine ah cs h (fun cs h=>S ?_) (fun cs h=>S ?_)
 ·refine ah cs h (fun cs h=>S ?_) (fun cs h=>S ?_)
  ·cases run_some h
   exact ag SC
  ·refine ah cs h (fun cs h=>S ?_) (fun cs h=>S ?_)
   ·cases run_some h
    exact ag SC
   ·refine ah cs h (fun cs h=>S ?_) (fun cs h=>S ?_)
    ·obtain⟨v30,hv30,h⟩:=run_bind h
     refine aj [false] (spec_l8Own_sat hv30) SC (S ?_)
     cases run_some h
     exact ag SC
    ·refine ah cs h (fun cs h=>S ?_) (fun cs h=>S ?_)
     ·obtain⟨v42,hv42,h⟩:=run_bind h
      refine aj [false] (spec_l8Own_sat hv42) SC (S ?_)
      cases run_some h
      exact ag SC
     ·obtain⟨v39,hv39,h⟩:=run_bind h
      refine aj [false,false] (spec_l8Same_sat hv39) SC (S ?_)
      refine ah cs h (fun cs h=>S ?_) (fun cs h=>S ?_)
      ·obtain⟨v42,hv42,h⟩:=run_bind h
       refine aj [false] (spec_l8Own_sat hv42) SC (S ?_)
       cases run_some h
       exact ag SC
      ·obtain⟨v45,hv45,h⟩:=run_bind h
       refine aj [false] (spec_l8Own_sat hv45) SC (S ?_)
       obtain⟨v47,hv47,h⟩:=run_bind h
       refine aj [false] (spec_l8Own_sat hv47) SC (S ?_)
       refine aa (aN [] [720,721,752,753,768]) (S ?_)
       cases run_some h
       exact ag SC
 ·refine ah cs h (fun cs h=>S ?_) (fun cs h=>S ?_)
  ·cases run_some h
   exact ag SC
  ·refine ah cs h (fun cs h=>S ?_) (fun cs h=>S ?_)
   ·cases run_some h
    exact ag SC
   ·refine ah cs h (fun cs h=>S ?_) (fun cs h=>S ?_)
    ·obtain⟨v30,hv30,h⟩:=run_bind h
     refine aj [false] (spec_l8Own_sat hv30) SC (S ?_)
     cases run_some h
     exact ag SC
    ·refine ah cs h (fun cs h=>S ?_) (fun cs h=>S ?_)
     ·obtain⟨v42,hv42,h⟩:=run_bind h
      refine aj [false] (spec_l8Own_sat hv42) SC (S ?_)
      cases run_some h
      exact ag SC
     ·obtain⟨v39,hv39,h⟩:=run_bind h
      refine aj [false,false] (spec_l8Same_sat hv39) SC (S ?_)
      refine ah cs h (fun cs h=>S ?_) (fun cs h=>S ?_)
      ·obtain⟨v42,hv42,h⟩:=run_bind h
       refine aj [false] (spec_l8Own_sat hv42) SC (S ?_)
       cases run_some h
       exact ag SC
      ·obtain⟨v45,hv45,h⟩:=run_bind h
       refine aj [false] (spec_l8Own_sat hv45) SC (S ?_)
       obtain⟨v47,hv47,h⟩:=run_bind h
       refine aj [false] (spec_l8Own_sat hv47) SC (S ?_)
       refine aa (aN [] [720,721,752,753,768]) (S ?_)
       cases run_some h
       exact ag SC

theorem spec_l20SimpleN_sat(n:Nat):(∀ (a0:Ft) (r:Ft),spec_l20SimpleN n a0=some r→Sat ai 18 [((am false) a0)] ((am true) r)):=by
 induction n with
 | zero=>exact fun _ _ h=>by simp[spec_l20SimpleN] at h
 | succ n ih=>
  refine fun a0 r h=>?_
  obtain⟨h,cs⟩:=au h
  rw[spec_l20SimpleN] at h
  refine az (nt:=86) (rs:=[.cell 2 29]) (n:=100000) Try.func18 rfl rfl rfl rfl (by simp) (S ?_)
  refine ah cs h (fun cs h=>S ?_) (fun cs h=>S ?_)
  ·obtain⟨v10,hv10,h⟩:=run_bind h
   refine aj [false] (spec_l8Own_sat hv10) SC (S ?_)
   cases run_some h
   exact ag SC
  ·obtain⟨v13,hv13,h⟩:=run_bind h
   refine aD (f:=(am false)) hv13 SC (S ?_)
   obtain⟨v15,hv15,h⟩:=run_bind h
   refine aj [false] (ih _ _ hv15) SC (S ?_)
   refine ah cs h (fun cs h=>S ?_) (fun cs h=>S ?_)
   ·obtain⟨v21,hv21,h⟩:=run_bind h
    refine aj [false] (spec_l20Constant_sat hv21) SC (S ?_)
    refine ah cs h (fun cs h=>S ?_) (fun cs h=>S ?_)
    ·cases run_some h
     exact ag SC
    ·cases run_some h
     exact ag SC
   ·refine ah cs h (fun cs h=>S ?_) (fun cs h=>S ?_)
    ·obtain⟨v33,hv33,h⟩:=run_bind h
     refine aj [false] (spec_l20Constant_sat hv33) SC (S ?_)
     refine ah cs h (fun cs h=>S ?_) (fun cs h=>S ?_)
     ·cases run_some h
      exact ag SC
     ·cases run_some h
      exact ag SC
    ·refine ah cs h (fun cs h=>S ?_) (fun cs h=>S ?_)
     ·obtain⟨v33,hv33,h⟩:=run_bind h
      refine aj [false] (spec_l20Constant_sat hv33) SC (S ?_)
      refine ah cs h (fun cs h=>S ?_) (fun cs h=>S ?_)
      ·cases run_some h
       exact ag SC
      ·cases run_some h
       exact ag SC
     ·obtain⟨v44,hv44,h⟩:=run_bind h
      refine aD (f:=(am false)) hv44 SC (S ?_)
      obtain⟨v46,hv46,h⟩:=run_bind h
      refine aj [false] (ih _ _ hv46) SC (S ?_)
      refine ah cs h (fun cs h=>S ?_) (fun cs h=>S ?_)
      ·refine ah cs h (fun cs h=>S ?_) (fun cs h=>S ?_)
       ·cases run_some h
        exact ag SC
       ·refine ah cs h (fun cs h=>S ?_) (fun cs h=>S ?_)
        ·cases run_some h
         exact ag SC
        ·refine ah cs h (fun cs h=>S ?_) (fun cs h=>S ?_)
         ·cases run_some h
          exact ag SC
         ·obtain⟨v72,hv72,h⟩:=run_bind h
          refine aj [false,false] (spec_l8Same_sat hv72) SC (S ?_)
          refine ah cs h (fun cs h=>S ?_) (fun cs h=>S ?_)
          ·cases run_some h
           exact ag SC
          ·refine ah cs h (fun cs h=>S ?_) (fun cs h=>S ?_)
           ·cases run_some h
            exact ag SC
           ·cases run_some h
            exact ag SC
      ·obtain⟨v54,hv54,h⟩:=run_bind h
       refine aj [false,false,false] (spec_l20Two_sat hv54) SC (S ?_)
       cases run_some h
       exact ag SC
theorem spec_l20Simple_sat{a0:Ft}{r:Ft}(h:spec_l20Simple a0=some r):Sat ai 18 [((am false) a0)] ((am true) r):=by
 obtain⟨n,hn⟩:=lim_some h
 exact(spec_l20SimpleN_sat n) _ _ hn

theorem spec_SimplifyFormula_sat{a0:Ft}  {r:Ft×Bool}(h:spec_SimplifyFormula a0=some r):Sat ai 7 [((am false) a0)] (.tup [((am true) r.1),(B r.2)]):=by
 obtain⟨h,cs⟩:=au h
 unfold spec_SimplifyFormula at h
 refine az (nt:=10) (rs:=[.cell 2 29,.tmp 3]) (n:=100000) Try.func7 rfl rfl rfl rfl (by simp) (S ?_)
 obtain⟨v5,hv5,h⟩:=run_bind h
 refine aj [false] (spec_l8Good_sat hv5) SC (S ?_)
 refine ah cs h (fun cs h=>S ?_) (fun cs h=>S ?_)
 ·obtain⟨v9,hv9,h⟩:=run_bind h
  refine aj [false] (spec_l20Simple_sat hv9) SC (S ?_)
  cases run_some h
  exact ag SC
 ·cases run_some h
  exact ag SC

theorem spec_FormulaSize_sat{a0:Ft}  {r:Int×Bool}(h:spec_FormulaSize a0=some r):Sat ai 8 [((am false) a0)] (.tup [(I r.1),(B r.2)]):=by
 obtain⟨h,cs⟩:=au h
 unfold spec_FormulaSize at h
 refine az (nt:=9) (rs:=[.tmp 2,.tmp 3]) (n:=100000) Try.func8 rfl rfl rfl rfl (by simp) (S ?_)
 obtain⟨v5,hv5,h⟩:=run_bind h
 refine aj [false] (spec_l8Good_sat hv5) SC (S ?_)
 refine ah cs h (fun cs h=>S ?_) (fun cs h=>S ?_)
 ·obtain⟨v8,hv8,h⟩:=run_bind h
  refine aj [false] (spec_l8Size_sat hv8) SC (S ?_)
  cases run_some h
  exact ag SC
 ·cases run_some h
  exact ag SC

theorem vTermsN_sat(n:Nat):(∀ (a0:Tt) (a1:Tt) (r:Bool),vTermsN n a0 a1=some r→Sat ai 20 [((ao false) a0),((ao false) a1)] (B r)):=by
 induction n with
 | zero=>exact fun _ _ _ h=>by simp[vTermsN] at h
 | succ n ih=>
  refine fun a0 a1 r h=>?_
  obtain⟨h,cs⟩:=au h
  rw[vTermsN] at h
  refine az (nt:=39) (rs:=[.tmp 4]) (n:=100000) Try.func20 rfl rfl rfl rfl (by simp) (S ?_)
  refine ah cs h (fun cs h=>S ?_) (fun cs h=>S ?_)
  ·refine ah cs h (fun cs h=>S ?_) (fun cs h=>S ?_)
   ·refine bj (b:=false) (sz:=2) (es:=a0.Args.map (ao false)) 13 SC fun hl13=>?_; rw[aO] at hl13
    replace h:=run_loop h
    refine aX h (fun i4 s4=>[(2,.box (.pv ((ao false) a0))),(3,.box (.pv ((ao false) a1))),(5,.val (.pv (I (i4:Int))))]) (fun i4 s4=>[]) (aw SC) (fun i4 s4 hi h=>?_) (fun s4 h=>?_)
    ·have w:=wrap_succ (i:=i4) (by omega)
     refine S ?_
     refine aQ cs (by omega) (fun cs=>S ?_)
     obtain⟨v30,hv30,h⟩:=run_bind h
     refine aD (f:=(ao false)) hv30 SC (S ?_)
     obtain⟨v35,hv35,h⟩:=run_bind h
     refine aD (f:=(ao false)) hv35 SC (S ?_)
     obtain⟨v37,hv37,h⟩:=run_bind h
     refine aj [false,false] (ih _ _ _ hv37) SC (S ?_)
     refine aa (aN [] []) (S ?_)
     refine ah cs h (fun cs h=>S ?_) (fun cs h=>S ?_)
     ·have h:=run_some h
      refine aJ ⟨_,h,?_⟩
      exact aw SWx
     ·cases run_some h
      exact ag SC
    ·refine S ?_
     refine aR cs (by omega) (fun cs=>S ?_)
     cases run_some h
     exact ag SC
   ·cases run_some h
    exact ag SC
  ·cases run_some h
   exact ag SC
theorem vTerms_sat{a0:Tt}{a1:Tt}{r:Bool}(h:vTerms a0 a1=some r):Sat ai 20 [((ao false) a0),((ao false) a1)] (B r):=by
 obtain⟨n,hn⟩:=lim_some h
 exact(vTermsN_sat n) _ _ _ hn

theorem vFormulasN_sat(n:Nat):(∀ (a0:Ft) (a1:Ft) (r:Bool),vFormulasN n a0 a1=some r→Sat ai 9 [((am false) a0),((am false) a1)] (B r)):=by
 induction n with
 | zero=>exact fun _ _ _ h=>by simp[vFormulasN] at h
 | succ n ih=>
  refine fun a0 a1 r h=>?_
  obtain⟨h,cs⟩:=au h
  rw[vFormulasN] at h
  refine az (nt:=54) (rs:=[.tmp 4]) (n:=100000) Try.func9 rfl rfl rfl rfl (by simp) (S ?_)
  refine ah cs h (fun cs h=>S ?_) (fun cs h=>S ?_)
  ·refine ah cs h (fun cs h=>S ?_) (fun cs h=>S ?_)
   ·obtain⟨v23,hv23,h⟩:=run_bind h
    refine aj [false,false] (vTerms_sat hv23) SC (S ?_)
    refine ah cs h (fun cs h=>S ?_) (fun cs h=>S ?_)
    ·refine ah cs h (fun cs h=>S ?_) (fun cs h=>S ?_)
     ·refine bj (b:=false) (sz:=5) (es:=a0.Parts.map (am false)) 28 SC fun hl28=>?_; rw[aO] at hl28
      replace h:=run_loop h
      refine aX h (fun i4 s4=>[(2,.box (.pv ((am false) a0))),(3,.box (.pv ((am false) a1))),(5,.val (.pv (I (i4:Int))))]) (fun i4 s4=>[]) (aw SC) (fun i4 s4 hi h=>?_) (fun s4 h=>?_)
      ·have w:=wrap_succ (i:=i4) (by omega)
       refine S ?_
       refine aQ cs (by omega) (fun cs=>S ?_)
       obtain⟨v45,hv45,h⟩:=run_bind h
       refine aD (f:=(am false)) hv45 SC (S ?_)
       obtain⟨v50,hv50,h⟩:=run_bind h
       refine aD (f:=(am false)) hv50 SC (S ?_)
       obtain⟨v52,hv52,h⟩:=run_bind h
       refine aj [false,false] (ih _ _ _ hv52) SC (S ?_)
       refine aa (aN [] []) (S ?_)
       refine ah cs h (fun cs h=>S ?_) (fun cs h=>S ?_)
       ·have h:=run_some h
        refine aJ ⟨_,h,?_⟩
        exact aw SWx
       ·cases run_some h
        exact ag SC
      ·refine S ?_
       refine aR cs (by omega) (fun cs=>S ?_)
       cases run_some h
       exact ag SC
     ·cases run_some h
      exact ag SC
    ·cases run_some h
     exact ag SC
   ·cases run_some h
    exact ag SC
  ·cases run_some h
   exact ag SC
theorem vFormulas_sat{a0:Ft}{a1:Ft}{r:Bool}(h:vFormulas a0 a1=some r):Sat ai 9 [((am false) a0),((am false) a1)] (B r):=by
 obtain⟨n,hn⟩:=lim_some h
 exact(vFormulasN_sat n) _ _ _ hn

theorem vAt_sat{a0:List Int}{a1:Int}  {r:Int}(h:vAt a0 a1=some r):Sat ai 10 [(.sl false 1 (a0.map (Ik .u8))),(I a1)] (I r):=by
 obtain⟨h,cs⟩:=au h
 unfold vAt at h
 refine az (nt:=20) (rs:=[.tmp 4]) (n:=100000) Try.func10 rfl rfl rfl rfl (by simp) (S ?_)
 refine ah cs h (fun cs h=>S ?_) (fun cs h=>S ?_)
 ·obtain⟨v11,hv11,h⟩:=run_bind h
  refine aD (f:=(Ik .u8)) hv11 SC (S ?_)
  cases run_some h
  exact ag SC
 ·obtain⟨v19,hv19,h⟩:=run_bind h
  refine remH.mk hv19 (S ?_)
  cases run_some h
  exact ag SC

theorem vEnv__get_sat{a0:vt}{a1:ByteArray}  {r:Int}(h:vEnv__get a0 a1=some r):Sat ai 66 [((vt.pv false) a0),(Sx a1)] (I r):=by
 obtain⟨h,cs⟩:=au h
 unfold vEnv__get at h
 refine az (nt:=26) (rs:=[.tmp 4]) (n:=100000) Try.func66 rfl rfl rfl rfl (by simp) (S ?_)
 replace h:=run_loop h
 refine Mg.whileN h (fun s2=>[(1,.val (.pv (Sx a1))),(2,.box (.pv ((vt.pv false) a0))),(5,.val (.pv (I s2)))]) (fun s2=>[]) (aw SC) (fun n2 s2 h=>?_)
 refine S ?_
 refine ah cs h (fun cs h=>S ?_) (fun cs h=>S ?_)
 ·obtain⟨v17,hv17,h⟩:=run_bind h
  refine aD (f:=Sx) hv17 SC (S ?_)
  refine ah cs h (fun cs h=>S ?_) (fun cs h=>S ?_)
  ·obtain⟨v24,hv24,h⟩:=run_bind h
   refine aD (f:=I) hv24 SC (S ?_)
   cases run_some h
   exact ag SC
  ·have h:=run_some h
   refine aJ ⟨_,h,?_⟩
   exact aw SC
 ·have h:=run_some h
  cases run_some h
  exact ag SC

theorem vMix_sat{a0:List Int}{a1:ByteArray}{a2:List Int}  {r:Int}(h:vMix a0 a1 a2=some r):Sat ai 43 [(.sl false 1 (a0.map (Ik .u8))),(Sx a1),(.sl false 1 (a2.map I))] (I r):=by
 obtain⟨h,cs⟩:=au h
 unfold vMix at h
 refine az (nt:=52) (rs:=[.tmp 6]) (n:=100000) Try.func43 rfl rfl rfl rfl (by simp) (S ?_)
 obtain⟨N3,hN3,h⟩:=run_bind h
 obtain⟨hN3a,hN3b⟩:=bnd_some hN3
 replace h:=run_loop h
 refine aX h (fun i3 s3=>[(0,.val (.pv (.sl false 1 (a0.map (Ik .u8))))),(1,.val (.pv (Sx a1))),(2,.val (.pv (.sl false 1 (a2.map I)))),(7,.val (.pv (I s3))),(8,.val (.pv (I (i3:Int))))]) (fun i3 s3=>[]) (aw SC) (fun i3 s3 hi h=>?_) (fun s3 h=>?_)
 ·have w:=wrap_succ (i:=i3) (by omega)
  refine S ?_
  refine aQ cs (by omega) (fun cs=>S ?_)
  obtain⟨v20,hv20,h⟩:=run_bind h
  refine bd hv20 (S ?_)
  obtain⟨v23,hv23,h⟩:=run_bind h
  refine remH.mk hv23 (S ?_)
  have h:=run_some h
  refine aJ ⟨_,h,?_⟩
  exact aw SWx
 ·refine S ?_
  refine aR cs (by omega) (fun cs=>S ?_)
  refine bj (b:=false) (sz:=1) (es:=a2.map I) 2 SC fun hl2=>?_; rw[aO] at hl2
  replace h:=run_loop h
  refine aX h (fun i7 s7=>[(0,.val (.pv (.sl false 1 (a0.map (Ik .u8))))),(2,.val (.pv (.sl false 1 (a2.map I)))),(7,.val (.pv (I s7))),(9,.val (.pv (I (i7:Int))))]) (fun i7 s7=>[]) (aw SC) (fun i7 s7 hi h=>?_) (fun s7 h=>?_)
  ·have w:=wrap_succ (i:=i7) (by omega)
   refine S ?_
   refine aQ cs (by omega) (fun cs=>S ?_)
   obtain⟨v34,hv34,h⟩:=run_bind h
   refine aD (f:=I) hv34 SC (S ?_)
   obtain⟨v38,hv38,h⟩:=run_bind h
   refine remH.mk hv38 (S ?_)
   have h:=run_some h
   refine aJ ⟨_,h,?_⟩
   exact aw SWx
  ·refine S ?_
   refine aR cs (by omega) (fun cs=>S ?_)
   obtain⟨v42,hv42,h⟩:=run_bind h
   refine remH.mk hv42 (S ?_)
   obtain⟨v43,hv43,h⟩:=run_bind h
   refine aj [false,false] (vAt_sat hv43) SC (S ?_)
   obtain⟨v48,hv48,h⟩:=run_bind h
   refine remH.mk hv48 (S ?_)
   obtain⟨v49,hv49,h⟩:=run_bind h
   refine aj [false,false] (vAt_sat hv49) SC (S ?_)
   obtain⟨v51,hv51,h⟩:=run_bind h
   refine quoH.mk hv51 (S ?_)
   cases run_some h
   exact ag SC

theorem vValueN_sat(n:Nat):(∀ (a0:List Int) (a1:Int) (a2:vt) (a3:Tt) (r:Int),vValueN n a0 a1 a2 a3=some r→Sat ai 42 [(.sl false 1 (a0.map (Ik .u8))),(I a1),((vt.pv false) a2),((ao false) a3)] (I r)):=by
 induction n with
 | zero=>exact fun _ _ _ _ _ h=>by simp[vValueN] at h
 | succ n ih=>
  refine fun a0 a1 a2 a3 r h=>?_
  obtain⟨h,cs⟩:=au h
  rw[vValueN] at h
  refine az (nt:=64) (rs:=[.tmp 8]) (n:=100000) Try.func42 rfl rfl rfl rfl (by simp) (S ?_)
  refine ah cs h (fun cs h=>S ?_) (fun cs h=>S ?_)
  ·refine ah cs h (fun cs h=>S ?_) (fun cs h=>S ?_)
   ·obtain⟨v24,hv24,h⟩:=run_bind h
    refine bd hv24 (S ?_)
    refine ah cs h (fun cs h=>S ?_) (fun cs h=>S ?_)
    ·obtain⟨v30,hv30,h⟩:=run_bind h
     refine bd hv30 (S ?_)
     refine ah cs h (fun cs h=>S ?_) (fun cs h=>S ?_)
     ·obtain⟨v36,hv36,h⟩:=run_bind h
      refine aj [false,false] (vEnv__get_sat hv36) SC (S ?_)
      cases run_some h
      exact ag SC
     ·refine bj (b:=false) (sz:=2) (es:=a3.Args.map (ao false)) 12 SC fun hl12=>?_; rw[aO] at hl12
      replace h:=run_loop h
      refine aX h (fun i5 s5=>[(0,.val (.pv (.sl false 1 (a0.map (Ik .u8))))),(1,.val (.pv (I a1))),(6,.box (.pv ((vt.pv false) a2))),(7,.box (.pv ((ao false) a3))),(9,.val (.own 592)),(10,.val (.pv (I (i5:Int))))]) (fun i5 s5=>[(592,(1,s5.map I))]) (aw SC) (fun i5 s5 hi h=>?_) (fun s5 h=>?_)
      ·have w:=wrap_succ (i:=i5) (by omega)
       refine S ?_
       refine aQ cs (by omega) (fun cs=>S ?_)
       obtain⟨v52,hv52,h⟩:=run_bind h
       refine aD (f:=(ao false)) hv52 SC (S ?_)
       obtain⟨v54,hv54,h⟩:=run_bind h
       refine aj [false,false,false,false] (ih _ _ _ _ _ hv54) SC (S ?_)
       obtain⟨v56,hv56,h⟩:=run_bind h
       refine AppH.mk (f:=I) (fun _=>rfl) hv56 SC SC (S ?_)
       refine aa (aN [] [880,896]) (S ?_)
       have h:=run_some h
       refine aJ ⟨_,h,?_⟩
       refine St.le_rt 896 592 ?_
       exact aw SWx
      ·refine S ?_
       refine aR cs (by omega) (fun cs=>S ?_)
       obtain⟨v61,hv61,h⟩:=run_bind h
       refine aj [false,false,false] (vMix_sat hv61) SC (S ?_)
       obtain⟨v63,hv63,h⟩:=run_bind h
       refine remH.mk hv63 (S ?_)
       cases run_some h
       exact ag SC
    ·refine bj (b:=false) (sz:=2) (es:=a3.Args.map (ao false)) 12 SC fun hl12=>?_; rw[aO] at hl12
     replace h:=run_loop h
     refine aX h (fun i5 s5=>[(0,.val (.pv (.sl false 1 (a0.map (Ik .u8))))),(1,.val (.pv (I a1))),(6,.box (.pv ((vt.pv false) a2))),(7,.box (.pv ((ao false) a3))),(9,.val (.own 592)),(10,.val (.pv (I (i5:Int))))]) (fun i5 s5=>[(592,(1,s5.map I))]) (aw SC) (fun i5 s5 hi h=>?_) (fun s5 h=>?_)
     ·have w:=wrap_succ (i:=i5) (by omega)
      refine S ?_
      refine aQ cs (by omega) (fun cs=>S ?_)
      obtain⟨v52,hv52,h⟩:=run_bind h
      refine aD (f:=(ao false)) hv52 SC (S ?_)
      obtain⟨v54,hv54,h⟩:=run_bind h
      refine aj [false,false,false,false] (ih _ _ _ _ _ hv54) SC (S ?_)
      obtain⟨v56,hv56,h⟩:=run_bind h
      refine AppH.mk (f:=I) (fun _=>rfl) hv56 SC SC (S ?_)
      refine aa (aN [] [880,896]) (S ?_)
      have h:=run_some h
      refine aJ ⟨_,h,?_⟩
      refine St.le_rt 896 592 ?_
      exact aw SWx
     ·refine S ?_
      refine aR cs (by omega) (fun cs=>S ?_)
      obtain⟨v61,hv61,h⟩:=run_bind h
      refine aj [false,false,false] (vMix_sat hv61) SC (S ?_)
      obtain⟨v63,hv63,h⟩:=run_bind h
      refine remH.mk hv63 (S ?_)
      cases run_some h
      exact ag SC
   ·refine bj (b:=false) (sz:=2) (es:=a3.Args.map (ao false)) 12 SC fun hl12=>?_; rw[aO] at hl12
    replace h:=run_loop h
    refine aX h (fun i5 s5=>[(0,.val (.pv (.sl false 1 (a0.map (Ik .u8))))),(1,.val (.pv (I a1))),(6,.box (.pv ((vt.pv false) a2))),(7,.box (.pv ((ao false) a3))),(9,.val (.own 592)),(10,.val (.pv (I (i5:Int))))]) (fun i5 s5=>[(592,(1,s5.map I))]) (aw SC) (fun i5 s5 hi h=>?_) (fun s5 h=>?_)
    ·have w:=wrap_succ (i:=i5) (by omega)
     refine S ?_
     refine aQ cs (by omega) (fun cs=>S ?_)
     obtain⟨v52,hv52,h⟩:=run_bind h
     refine aD (f:=(ao false)) hv52 SC (S ?_)
     obtain⟨v54,hv54,h⟩:=run_bind h
     refine aj [false,false,false,false] (ih _ _ _ _ _ hv54) SC (S ?_)
     obtain⟨v56,hv56,h⟩:=run_bind h
     refine AppH.mk (f:=I) (fun _=>rfl) hv56 SC SC (S ?_)
     refine aa (aN [] [880,896]) (S ?_)
     have h:=run_some h
     refine aJ ⟨_,h,?_⟩
     refine St.le_rt 896 592 ?_
     exact aw SWx
    ·refine S ?_
     refine aR cs (by omega) (fun cs=>S ?_)
     obtain⟨v61,hv61,h⟩:=run_bind h
     refine aj [false,false,false] (vMix_sat hv61) SC (S ?_)
     obtain⟨v63,hv63,h⟩:=run_bind h
     refine remH.mk hv63 (S ?_)
     cases run_some h
     exact ag SC
  ·refine bj (b:=false) (sz:=2) (es:=a3.Args.map (ao false)) 12 SC fun hl12=>?_; rw[aO] at hl12
   replace h:=run_loop h
   refine aX h (fun i5 s5=>[(0,.val (.pv (.sl false 1 (a0.map (Ik .u8))))),(1,.val (.pv (I a1))),(6,.box (.pv ((vt.pv false) a2))),(7,.box (.pv ((ao false) a3))),(9,.val (.own 592)),(10,.val (.pv (I (i5:Int))))]) (fun i5 s5=>[(592,(1,s5.map I))]) (aw SC) (fun i5 s5 hi h=>?_) (fun s5 h=>?_)
   ·have w:=wrap_succ (i:=i5) (by omega)
    refine S ?_
    refine aQ cs (by omega) (fun cs=>S ?_)
    obtain⟨v52,hv52,h⟩:=run_bind h
    refine aD (f:=(ao false)) hv52 SC (S ?_)
    obtain⟨v54,hv54,h⟩:=run_bind h
    refine aj [false,false,false,false] (ih _ _ _ _ _ hv54) SC (S ?_)
    obtain⟨v56,hv56,h⟩:=run_bind h
    refine AppH.mk (f:=I) (fun _=>rfl) hv56 SC SC (S ?_)
    refine aa (aN [] [880,896]) (S ?_)
    have h:=run_some h
    refine aJ ⟨_,h,?_⟩
    refine St.le_rt 896 592 ?_
    exact aw SWx
   ·refine S ?_
    refine aR cs (by omega) (fun cs=>S ?_)
    obtain⟨v61,hv61,h⟩:=run_bind h
    refine aj [false,false,false] (vMix_sat hv61) SC (S ?_)
    obtain⟨v63,hv63,h⟩:=run_bind h
    refine remH.mk hv63 (S ?_)
    cases run_some h
    exact ag SC
theorem vValue_sat{a0:List Int}{a1:Int}{a2:vt}{a3:Tt}{r:Int}(h:vValue a0 a1 a2 a3=some r):Sat ai 42 [(.sl false 1 (a0.map (Ik .u8))),(I a1),((vt.pv false) a2),((ao false) a3)] (I r):=by
 obtain⟨n,hn⟩:=lim_some h
 exact(vValueN_sat n) _ _ _ _ _ hn

theorem vHolds_sat{a0:List Int}{a1:Int}{a2:vt}{a3:Tt}  {r:Bool}(h:vHolds a0 a1 a2 a3=some r):Sat ai 21 [(.sl false 1 (a0.map (Ik .u8))),(I a1),((vt.pv false) a2),((ao false) a3)] (B r):=by
 obtain⟨h,cs⟩:=au h
 unfold vHolds at h
 refine az (nt:=54) (rs:=[.tmp 8]) (n:=100000) Try.func21 rfl rfl rfl rfl (by simp) (S ?_)
 refine Mg.know_val2 (b:=false) (sz:=2) (es:=a3.Args.map (ao false)) (x:=(.pv ((ao false) a3))) 3 [1] SC fun hl3=>?_; rw[aO] at hl3
 replace h:=run_loop h
 refine aX h (fun i3 s3=>[(0,.val (.pv (.sl false 1 (a0.map (Ik .u8))))),(1,.val (.pv (I a1))),(6,.box (.pv ((vt.pv false) a2))),(7,.box (.pv ((ao false) a3))),(9,.val (.own 176)),(10,.val (.pv (I (i3:Int))))]) (fun i3 s3=>[(176,(1,s3.map I))]) (aw SC) (fun i3 s3 hi h=>?_) (fun s3 h=>?_)
 ·have w:=wrap_succ (i:=i3) (by omega)
  refine S ?_
  refine aQ cs (by omega) (fun cs=>S ?_)
  obtain⟨v26,hv26,h⟩:=run_bind h
  refine aD (f:=(ao false)) hv26 SC (S ?_)
  obtain⟨v28,hv28,h⟩:=run_bind h
  refine aj [false,false,false,false] (vValue_sat hv28) SC (S ?_)
  obtain⟨v30,hv30,h⟩:=run_bind h
  refine AppH.mk (f:=I) (fun _=>rfl) hv30 SC SC (S ?_)
  refine aa (aN [] [464,480]) (S ?_)
  have h:=run_some h
  refine aJ ⟨_,h,?_⟩
  refine St.le_rt 480 176 ?_
  exact aw SWx
 ·refine S ?_
  refine aR cs (by omega) (fun cs=>S ?_)
  refine ah cs h (fun cs h=>S ?_) (fun cs h=>S ?_)
  ·refine ah cs h (fun cs h=>S ?_) (fun cs h=>S ?_)
   ·obtain⟨v40,hv40,h⟩:=run_bind h
    refine aD (f:=I) hv40 SC (S ?_)
    obtain⟨v41,hv41,h⟩:=run_bind h
    refine EldH.mk (f:=I) hv41 rfl SC (S ?_)
    obtain⟨v43,hv43,h⟩:=run_bind h
    refine aD (f:=I) hv43 SC (S ?_)
    obtain⟨v44,hv44,h⟩:=run_bind h
    refine EldH.mk (f:=I) hv44 rfl SC (S ?_)
    refine aa (aN [] []) (S ?_)
    cases run_some h
    exact ag SC
   ·obtain⟨v49,hv49,h⟩:=run_bind h
    refine SappH.mk hv49 (S ?_)
    obtain⟨v51,hv51,h⟩:=run_bind h
    refine aj [false,false,false] (vMix_sat hv51) SC (S ?_)
    obtain⟨v52,hv52,h⟩:=run_bind h
    refine remH.mk hv52 (S ?_)
    cases run_some h
    exact ag SC
  ·obtain⟨v49,hv49,h⟩:=run_bind h
   refine SappH.mk hv49 (S ?_)
   obtain⟨v51,hv51,h⟩:=run_bind h
   refine aj [false,false,false] (vMix_sat hv51) SC (S ?_)
   obtain⟨v52,hv52,h⟩:=run_bind h
   refine remH.mk hv52 (S ?_)
   cases run_some h
   exact ag SC

theorem vEnv__with_sat{a0:vt}{a1:ByteArray}{a2:Int}  {r:vt}(h:vEnv__with a0 a1 a2=some r):Sat ai 22 [((vt.pv false) a0),(Sx a1),(I a2)] ((vt.pv true) r):=by
 obtain⟨h,cs⟩:=au h
 unfold vEnv__with at h
 refine az (nt:=22) (rs:=[.cell 6 40]) (n:=100000) Try.func22 rfl rfl rfl rfl (by simp) (S ?_)
 obtain⟨v10,hv10,h⟩:=run_bind h
 refine AppH.mk (f:=Sx) (fun _=>rfl) hv10 SC SC (S ?_)
 obtain⟨v13,hv13,h⟩:=run_bind h
 refine AppH.mk (f:=Sx) (fun _=>rfl) hv13 SC SC (S ?_)
 obtain⟨v17,hv17,h⟩:=run_bind h
 refine AppH.mk (f:=I) (fun _=>rfl) hv17 SC SC (S ?_)
 obtain⟨v20,hv20,h⟩:=run_bind h
 refine AppH.mk (f:=I) (fun _=>rfl) hv20 SC SC (S ?_)
 refine aa (aN [] [112,160,192,208,224,272,304,320]) (S ?_)
 cases run_some h
 exact ag SC

theorem vTrueN_sat(n:Nat):(∀ (a0:List Int) (a1:Int) (a2:vt) (a3:Ft) (r:Bool),vTrueN n a0 a1 a2 a3=some r→Sat ai 11 [(.sl false 1 (a0.map (Ik .u8))),(I a1),((vt.pv false) a2),((am false) a3)] (B r)):=by
 induction n with
 | zero=>exact fun _ _ _ _ _ h=>by simp[vTrueN] at h
 | succ n ih=>
  refine fun a0 a1 a2 a3 r h=>?_
  obtain⟨h,cs⟩:=au h
  rw[vTrueN] at h
  refine az (nt:=123) (rs:=[.tmp 8]) (n:=100000) Try.func11 rfl rfl rfl rfl (by simp) (S ?_)
  refine ah cs h (fun cs h=>S ?_) (fun cs h=>S ?_)
  ·cases run_some h
   exact ag SC
  ·refine ah cs h (fun cs h=>S ?_) (fun cs h=>S ?_)
   ·cases run_some h
    exact ag SC
   ·refine ah cs h (fun cs h=>S ?_) (fun cs h=>S ?_)
    ·obtain⟨v23,hv23,h⟩:=run_bind h
     refine aj [false,false,false,false] (vHolds_sat hv23) SC (S ?_)
     cases run_some h
     exact ag SC
    ·refine ah cs h (fun cs h=>S ?_) (fun cs h=>S ?_)
     ·obtain⟨v31,hv31,h⟩:=run_bind h
      refine aD (f:=(am false)) hv31 SC (S ?_)
      obtain⟨v33,hv33,h⟩:=run_bind h
      refine aj [false,false,false,false] (ih _ _ _ _ _ hv33) SC (S ?_)
      refine aa (aN [] []) (S ?_)
      cases run_some h
      exact ag SC
     ·refine ah cs h (fun cs h=>S ?_) (fun cs h=>S ?_)
      ·obtain⟨v42,hv42,h⟩:=run_bind h
       refine aD (f:=(am false)) hv42 SC (S ?_)
       obtain⟨v44,hv44,h⟩:=run_bind h
       refine aj [false,false,false,false] (ih _ _ _ _ _ hv44) SC (S ?_)
       refine ah cs h (fun cs h=>S ?_) (fun cs h=>S ?_)
       ·obtain⟨v51,hv51,h⟩:=run_bind h
        refine aD (f:=(am false)) hv51 SC (S ?_)
        obtain⟨v53,hv53,h⟩:=run_bind h
        refine aj [false,false,false,false] (ih _ _ _ _ _ hv53) SC (S ?_)
        refine aa (aN [] []) (S ?_)
        cases run_some h
        exact ag SC
       ·refine aa (aN [] []) (S ?_)
        cases run_some h
        exact ag SC
      ·refine ah cs h (fun cs h=>S ?_) (fun cs h=>S ?_)
       ·obtain⟨v62,hv62,h⟩:=run_bind h
        refine aD (f:=(am false)) hv62 SC (S ?_)
        obtain⟨v64,hv64,h⟩:=run_bind h
        refine aj [false,false,false,false] (ih _ _ _ _ _ hv64) SC (S ?_)
        refine ah cs h (fun cs h=>S ?_) (fun cs h=>S ?_)
        ·refine aa (aN [] []) (S ?_)
         cases run_some h
         exact ag SC
        ·obtain⟨v71,hv71,h⟩:=run_bind h
         refine aD (f:=(am false)) hv71 SC (S ?_)
         obtain⟨v73,hv73,h⟩:=run_bind h
         refine aj [false,false,false,false] (ih _ _ _ _ _ hv73) SC (S ?_)
         refine aa (aN [] []) (S ?_)
         cases run_some h
         exact ag SC
       ·refine ah cs h (fun cs h=>S ?_) (fun cs h=>S ?_)
        ·obtain⟨v82,hv82,h⟩:=run_bind h
         refine aD (f:=(am false)) hv82 SC (S ?_)
         obtain⟨v84,hv84,h⟩:=run_bind h
         refine aj [false,false,false,false] (ih _ _ _ _ _ hv84) SC (S ?_)
         refine ah cs h (fun cs h=>S ?_) (fun cs h=>S ?_)
         ·obtain⟨v92,hv92,h⟩:=run_bind h
          refine aD (f:=(am false)) hv92 SC (S ?_)
          obtain⟨v94,hv94,h⟩:=run_bind h
          refine aj [false,false,false,false] (ih _ _ _ _ _ hv94) SC (S ?_)
          refine aa (aN [] []) (S ?_)
          cases run_some h
          exact ag SC
         ·refine aa (aN [] []) (S ?_)
          cases run_some h
          exact ag SC
        ·obtain⟨N17,hN17,h⟩:=run_bind h
         obtain⟨hN17a,hN17b⟩:=bnd_some hN17
         replace h:=run_loop h
         refine aX h (fun i17 s17=>[(0,.val (.pv (.sl false 1 (a0.map (Ik .u8))))),(1,.val (.pv (I a1))),(6,.box (.pv ((vt.pv false) a2))),(7,.box (.pv ((am false) a3))),(9,.val (.pv (I (i17:Int))))]) (fun i17 s17=>[]) (aw SC) (fun i17 s17 hi h=>?_) (fun s17 h=>?_)
         ·have w:=wrap_succ (i:=i17) (by omega)
          refine S ?_
          refine aQ cs (by omega) (fun cs=>S ?_)
          obtain⟨v107,hv107,h⟩:=run_bind h
          refine aj [false,false,false] (vEnv__with_sat hv107) SC (S ?_)
          obtain⟨v110,hv110,h⟩:=run_bind h
          refine aD (f:=(am false)) hv110 SC (S ?_)
          obtain⟨v112,hv112,h⟩:=run_bind h
          refine aj [false,false,false,false] (ih _ _ _ _ _ hv112) SC (S ?_)
          refine aa (aN [] [1712,1713]) (S ?_)
          refine ah cs h (fun cs h=>S ?_) (fun cs h=>S ?_)
          ·cases run_some h
           exact ag SC
          ·have h:=run_some h
           refine aJ ⟨_,h,?_⟩
           exact aw SWx
         ·refine S ?_
          refine aR cs (by omega) (fun cs=>S ?_)
          cases run_some h
          exact ag SC
theorem vTrue_sat{a0:List Int}{a1:Int}{a2:vt}{a3:Ft}{r:Bool}(h:vTrue a0 a1 a2 a3=some r):Sat ai 11 [(.sl false 1 (a0.map (Ik .u8))),(I a1),((vt.pv false) a2),((am false) a3)] (B r):=by
 obtain⟨n,hn⟩:=lim_some h
 exact(vTrueN_sat n) _ _ _ _ _ hn

theorem FnSimplified_sat{a0:List Int}  {r:Bool}(h:FnSimplified a0=some r):Sat ai 3 [(.sl false 1 (a0.map (Ik .u8)))] (B r):=by
 obtain⟨h,cs⟩:=au h
 unfold FnSimplified at h
 refine az (nt:=107) (rs:=[.tmp 2]) (n:=100000) Try.func3 rfl rfl rfl rfl (by simp) (S ?_)
 obtain⟨v17,hv17,h⟩:=run_bind h
 refine aj [false] (vBig_sat hv17) SC (S ?_)
 refine ah cs h (fun cs h=>S ?_) (fun cs h=>S ?_)
 ·cases run_some h
  exact ag SC
 ·obtain⟨v19,hv19,h⟩:=run_bind h
  refine aj [false] (Sat.vwOf (res':=((am false) v19)) (spec_DrawSimplifyFormula_sat hv19) (by simp only[view_tup,view_sl,view_agg,view_lit,aA,RB,RS])) SC (S ?_)
  obtain⟨v22,hv22,h⟩:=run_bind h
  refine aj [false] (impl_SimplifyFormula_sat hv22) SC (S ?_)
  obtain⟨v27,hv27,h⟩:=run_bind h
  refine aj [false] (spec_SimplifyFormula_sat hv27) SC (S ?_)
  refine ah cs h (fun cs h=>S ?_) (fun cs h=>S ?_)
  ·refine ah cs h (fun cs h=>S ?_) (fun cs h=>S ?_)
   ·obtain⟨v47,hv47,h⟩:=run_bind h
    refine aj [false] (impl_SimplifyFormula_sat hv47) SC (S ?_)
    obtain⟨v52,hv52,h⟩:=run_bind h
    refine aj [false] (spec_FormulaSize_sat hv52) SC (S ?_)
    obtain⟨v57,hv57,h⟩:=run_bind h
    refine aj [false] (spec_FormulaSize_sat hv57) SC (S ?_)
    refine ah cs h (fun cs h=>S ?_) (fun cs h=>S ?_)
    ·obtain⟨v65,hv65,h⟩:=run_bind h
     refine aj [false,false] (vFormulas_sat hv65) SC (S ?_)
     refine ah cs h (fun cs h=>S ?_) (fun cs h=>S ?_)
     ·refine ah cs h (fun cs h=>S ?_) (fun cs h=>S ?_)
      ·refine ah cs h (fun cs h=>S ?_) (fun cs h=>S ?_)
       ·refine ah cs h (fun cs h=>S ?_) (fun cs h=>S ?_)
        ·cases run_some h
         exact ag SC
        ·replace h:=run_loop h
         refine Mg.forA (N:=4) (a:=1) h (fun i14 s14=>[(0,.val (.pv (.sl false 1 (a0.map (Ik .u8))))),(3,.box (.pv ((am false) v19))),(4,.box (.pv ((am false) v22.1))),(14,.val (.pv (I (i14:Int))))]) (fun i14 s14=>[]) (aw SC) (fun i14 s14 hi hj h=>?_) (fun j14 s14 hj h=>?_)
         ·have w:=wrap_succ (i:=i14) (by omega)
          refine S ?_
          refine aQ cs (by omega) (fun cs=>S ?_)
          obtain⟨v87,hv87,h⟩:=run_bind h
          refine aj [false,false] (vAt_sat hv87) SC (S ?_)
          obtain⟨v89,hv89,h⟩:=run_bind h
          refine remH.mk hv89 (S ?_)
          obtain⟨v91,hv91,h⟩:=run_bind h
          refine aj [false,false] (vAt_sat hv91) SC (S ?_)
          obtain⟨v93,hv93,h⟩:=run_bind h
          refine remH.mk hv93 (S ?_)
          refine aa (aN [15] [1360,1504]) (S ?_)
          obtain⟨v100,hv100,h⟩:=run_bind h
          refine aj [false,false,false,false] (vTrue_sat hv100) SC (S ?_)
          obtain⟨v105,hv105,h⟩:=run_bind h
          refine aj [false,false,false,false] (vTrue_sat hv105) SC (S ?_)
          refine aa (aN [] []) (S ?_)
          refine ah cs h (fun cs h=>S ?_) (fun cs h=>S ?_)
          ·have h:=run_some h
           refine aJ ⟨_,h,?_⟩
           exact aw SWx
          ·cases run_some h
           exact ag SC
         ·refine S ?_
          refine aR cs (by omega) (fun cs=>S ?_)
          cases run_some h
          exact ag SC
       ·cases run_some h
        exact ag SC
      ·cases run_some h
       exact ag SC
     ·cases run_some h
      exact ag SC
    ·cases run_some h
     exact ag SC
   ·refine ah cs h (fun cs h=>S ?_) (fun cs h=>S ?_)
    ·cases run_some h
     exact ag SC
    ·cases run_some h
     exact ag SC
  ·cases run_some h
   exact ag SC

end Go.Proofs.Ytlaeidlohpehhaa
