/- Lemmas of the proof; each says what it shows. -/
import Derived.Test.YtnjgpibbjiofpaaGreatGm
import Derived.Test.YtnjgpibbjiofpaaGreatGf
import Derived.Test.YtnjgpibbjiofpaaGreatGsf
set_option linter.unusedSimpArgs false
set_option linter.unusedVariables false
set_option linter.defProp false
set_option maxRecDepth 4000
namespace Go.Proofs.YtnjgpibbjiofpaaGreat
open Go.Av
open And renaming intro→ae
open AppH renaming mk→aN
open CallH renaming mk→am
open CondH renaming run→al,t2→aI,f2→aJ
open DrawH renaming ak→aL
open FinH renaming l→aj
open HandH renaming call→a7
open IdxH renaming mk→av
open List renaming length_map→au,nil_append→bC
open Mg renaming forN→aM,know_sl→aW
open MgF renaming reg→aD
open Nat renaming le_of_ble_eq_true→bz
open PV renaming views→az
open RdH renaming mk→aq
open RetHB renaming l→a8
open Run renaming of0→ar
open Sat renaming of_m→aw
open SidxH renaming mk→bp
open St renaming le_mk2→ao,le_trans→bn,le_rt→bd
open Tryz renaming prog→ah
open Tt renaming pv→ag,psize→aY
open VSeq renaming step→aK,nil→bF
open lc renaming pv→aG
set_option maxHeartbeats 4000000
theorem vBig_sat{a0:List Int}  {r:Bool}(h:vBig a0=some r):Sat ah 17 [(.sl false 1 (a0.map (Ik .u8)))] (B r):=by
 obtain⟨h,cs⟩:=ar h
 unfold vBig at h
 refine aw (nt:=6) (rs:=[.tmp 2]) (n:=100000) Tryz.func17 rfl rfl rfl rfl (by simp) (S ?_)
 cases run_some h
 exact aj SC

theorem spec_l1Cur__next_sat{a0:lc}  {r:Int×lc}(h:spec_l1Cur__next a0=some r):SatH ah 139 [] [] .ptr [] (.pv ((aG false) a0)) (.pv ((aG false) r.2)) (I r.1):=by
 obtain⟨h,cs⟩:=ar h
 unfold spec_l1Cur__next at h
 refine SatH.of_k (nt:=62) (rs:=[.tmp 2]) (n:=100000) 0 Tryz.func139 rfl rfl rfl rfl rfl (bz rfl) (by decide) (by first | exact bz rfl | exact SC) (S ?_)
 refine ae (aL [] []) (S ?_)
 refine al cs h (fun cs h=>S ?_) (fun cs h=>S ?_)
 ·obtain⟨v22,hv22,h⟩:=run_bind h
  refine av (f:=(Ik .u8)) hv22 SC (S ?_)
  refine ae (aL [] []) (S ?_)
  refine ae (aL [] []) (S ?_)
  refine al cs h (fun cs h=>S ?_) (fun cs h=>S ?_)
  ·cases run_some h
   exact a8 SC
  ·obtain⟨v59,hv59,h⟩:=run_bind h
   refine ShrH.mk hv59 (S ?_)
   cases run_some h
   exact a8 SC
 ·refine ae (aL [] []) (S ?_)
  refine al cs h (fun cs h=>S ?_) (fun cs h=>S ?_)
  ·cases run_some h
   exact a8 SC
  ·obtain⟨v59,hv59,h⟩:=run_bind h
   refine ShrH.mk hv59 (S ?_)
   cases run_some h
   exact a8 SC

theorem spec_l1Cur__pick_sat{a0:lc}{a1:Int}  {r:Int×lc}(h:spec_l1Cur__pick a0 a1=some r):SatH ah 112 [] [(I a1)] .ptr [] (.pv ((aG false) a0)) (.pv ((aG false) r.2)) (I r.1):=by
 obtain⟨h,cs⟩:=ar h
 unfold spec_l1Cur__pick at h
 refine SatH.of_k (nt:=20) (rs:=[.tmp 4]) (n:=100000) 0 Tryz.func112 rfl rfl rfl rfl rfl (bz rfl) (by decide) (by first | exact bz rfl | exact SC) (S ?_)
 refine al cs h (fun cs h=>S ?_) (fun cs h=>S ?_)
 ·cases run_some h
  exact a8 SC
 ·obtain⟨v9,hv9,h⟩:=run_bind h
  refine a7 (r:=0) (hc:=.cv (.pv ((aG false) a0))) 0 [] [] [] [] [] (spec_l1Cur__next_sat hv9) rfl rfl rfl SC (S ?_)
  refine al cs h (fun cs h=>S ?_) (fun cs h=>S ?_)
  ·obtain⟨v15,hv15,h⟩:=run_bind h
   refine a7 (r:=0) (hc:=.cv (.pv ((aG false) v9.2))) 0 [] [] [] [] [] (spec_l1Cur__next_sat hv15) rfl rfl rfl SC (S ?_)
   obtain⟨v19,hv19,h⟩:=run_bind h
   refine remH.mk hv19 (S ?_)
   cases run_some h
   exact a8 SC
  ·obtain⟨v19,hv19,h⟩:=run_bind h
   refine remH.mk hv19 (S ?_)
   cases run_some h
   exact a8 SC

theorem spec_l1Cur__of_sat{a0:lc}{a1:List ByteArray}  {r:ByteArray×lc}(h:spec_l1Cur__of a0 a1=some r):SatH ah 141 [] [(.sl false 1 (a1.map Sx))] .ptr [] (.pv ((aG false) a0)) (.pv ((aG false) r.2)) (Sx r.1):=by
 obtain⟨h,cs⟩:=ar h
 unfold spec_l1Cur__of at h
 refine SatH.of_k (nt:=12) (rs:=[.tmp 4]) (n:=100000) 0 Tryz.func141 rfl rfl rfl rfl rfl (bz rfl) (by decide) (by first | exact bz rfl | exact SC) (S ?_)
 obtain⟨v9,hv9,h⟩:=run_bind h
 refine a7 (r:=0) (hc:=.cv (.pv ((aG false) a0))) 0 [] [_] [] [(.pv (I (a1.length:Int)))] [false] (spec_l1Cur__pick_sat hv9) rfl rfl rfl SC (S ?_)
 obtain⟨v10,hv10,h⟩:=run_bind h
 refine av (f:=Sx) hv10 SC (S ?_)
 cases run_some h
 exact a8 SC

theorem spec_l2Small_sat{a0:Int}  {r:Bool}(h:spec_l2Small a0=some r):Sat ah 118 [((Ik .u8) a0)] (B r):=by
 obtain⟨h,cs⟩:=ar h
 unfold spec_l2Small at h
 refine aw (nt:=17) (rs:=[.tmp 2]) (n:=100000) Tryz.func118 rfl rfl rfl rfl (by simp) (S ?_)
 refine al cs h (fun cs h=>S ?_) (fun cs h=>S ?_)
 ·refine al cs h (fun cs h=>S ?_) (fun cs h=>S ?_)
  ·cases run_some h
   exact aj SC
  ·refine al cs h (fun cs h=>S ?_) (fun cs h=>S ?_)
   ·cases run_some h
    exact aj SC
   ·cases run_some h
    exact aj SC
 ·refine al cs h (fun cs h=>S ?_) (fun cs h=>S ?_)
  ·cases run_some h
   exact aj SC
  ·cases run_some h
   exact aj SC

theorem spec_l3Word_sat{a0:Int}  {r:Bool}(h:spec_l3Word a0=some r):Sat ah 160 [((Ik .u8) a0)] (B r):=by
 obtain⟨h,cs⟩:=ar h
 unfold spec_l3Word at h
 refine aw (nt:=17) (rs:=[.tmp 2]) (n:=100000) Tryz.func160 rfl rfl rfl rfl (by simp) (S ?_)
 obtain⟨v4,hv4,h⟩:=run_bind h
 refine am [false] (spec_l2Small_sat hv4) SC (S ?_)
 refine al cs h (fun cs h=>S ?_) (fun cs h=>S ?_)
 ·cases run_some h
  exact aj SC
 ·refine al cs h (fun cs h=>S ?_) (fun cs h=>S ?_)
  ·refine al cs h (fun cs h=>S ?_) (fun cs h=>S ?_)
   ·cases run_some h
    exact aj SC
   ·cases run_some h
    exact aj SC
  ·cases run_some h
   exact aj SC

theorem spec_l3ReadN_sat(n:Nat):(∀ (a0:ByteArray) (a1:Int) (r:Tt×Int),spec_l3ReadN n a0 a1=some r→Sat ah 159 [(Sx a0),(I a1)] (.tup [((ag true) r.1),(I r.2)])):=by
 induction n with
 | zero=>exact fun _ _ _ h=>by simp[spec_l3ReadN] at h
 | succ n ih=>
  refine fun a0 a1 r h=>?_
  obtain⟨h,cs⟩:=ar h
  rw[spec_l3ReadN] at h
  refine aw (nt:=86) (rs:=[.cell 4 43,.tmp 5]) (n:=100000) Tryz.func159 rfl rfl rfl rfl (by simp) (S ?_)
  replace h:=run_loop h
  refine Mg.whileN h (fun s2=>[(0,.val (.pv (Sx a0))),(1,.val (.pv (I a1))),(4,.box zab1),(6,.val (.pv (I s2)))]) (fun s2=>[]) (ao SC) (fun n2 s2 h=>?_)
  refine S ?_
  refine al cs h (fun cs h=>S ?_) (fun cs h=>S ?_)
  ·obtain⟨v18,hv18,h⟩:=run_bind h
   refine bp hv18 (S ?_)
   obtain⟨v19,hv19,h⟩:=run_bind h
   refine am [false] (spec_l3Word_sat hv19) SC (S ?_)
   refine al cs h (fun cs h=>S ?_) (fun cs h=>S ?_)
   ·have h:=run_some h
    refine aq ⟨_,h,?_⟩
    exact ao SC
   ·have h:=run_some h
    obtain⟨v26,hv26,h⟩:=run_bind h
    refine SslcH.mk hv26 (S ?_)
    refine al cs h (fun cs h=>S ?_) (fun cs h=>S ?_)
    ·cases run_some h
     exact aj SC
    ·refine al cs h (fun cs h=>S ?_) (fun cs h=>S ?_)
     ·cases run_some h
      exact aj SC
     ·obtain⟨v39,hv39,h⟩:=run_bind h
      refine bp hv39 (S ?_)
      refine al cs h (fun cs h=>S ?_) (fun cs h=>S ?_)
      ·replace h:=run_loop h
       refine Mg.whileN h (fun s9=>[(0,.val (.pv (Sx a0))),(4,.box zab1),(6,.val (.pv (I s9.1))),(7,.box (.node [(.pv (Sx v26)),(.own 9327)]))]) (fun s9=>[(9327,(2,s9.2.map (ag true)))]) (bn (St.le_nilB (x:=(.node [(.pv (Sx v26)),(.pv (.sl true 2 []))])) 7 [1] 9327 2 NM SC SC SC) (ao SC)) (fun n9 s9 h=>?_)
       refine S ?_
       obtain⟨v48,hv48,h⟩:=run_bind h
       refine am [false,false] (ih _ _ _ hv48) SC (S ?_)
       refine al cs h (fun cs h=>S ?_) (fun cs h=>S ?_)
       ·cases run_some h
        exact aj SC
       ·refine al cs h (fun cs h=>S ?_) (fun cs h=>S ?_)
        ·cases run_some h
         exact aj SC
        ·obtain⟨v62,hv62,h⟩:=run_bind h
         refine bp hv62 (S ?_)
         refine al cs h (fun cs h=>S ?_) (fun cs h=>S ?_)
         ·obtain⟨v76,hv76,h⟩:=run_bind h
          refine aN (f:=(ag true)) (fun a=>aY _ a) hv76 SC SC (S ?_)
          obtain⟨v81,hv81,h⟩:=run_bind h
          refine bp hv81 (S ?_)
          refine al cs h (fun cs h=>S ?_) (fun cs h=>S ?_)
          ·cases run_some h
           exact aj SC
          ·have h:=run_some h
           refine aq ⟨_,h,?_⟩
           refine bd 1216 9327 ?_
           exact ao SC
         ·obtain⟨v67,hv67,h⟩:=run_bind h
          refine bp hv67 (S ?_)
          refine al cs h (fun cs h=>S ?_) (fun cs h=>S ?_)
          ·obtain⟨v76,hv76,h⟩:=run_bind h
           refine aN (f:=(ag true)) (fun a=>aY _ a) hv76 SC SC (S ?_)
           obtain⟨v81,hv81,h⟩:=run_bind h
           refine bp hv81 (S ?_)
           refine al cs h (fun cs h=>S ?_) (fun cs h=>S ?_)
           ·cases run_some h
            exact aj SC
           ·have h:=run_some h
            refine aq ⟨_,h,?_⟩
            refine bd 1216 9327 ?_
            exact ao SC
          ·cases run_some h
           exact aj SC
      ·cases run_some h
       exact aj SC
  ·have h:=run_some h
   obtain⟨v26,hv26,h⟩:=run_bind h
   refine SslcH.mk hv26 (S ?_)
   refine al cs h (fun cs h=>S ?_) (fun cs h=>S ?_)
   ·cases run_some h
    exact aj SC
   ·refine al cs h (fun cs h=>S ?_) (fun cs h=>S ?_)
    ·cases run_some h
     exact aj SC
    ·obtain⟨v39,hv39,h⟩:=run_bind h
     refine bp hv39 (S ?_)
     refine al cs h (fun cs h=>S ?_) (fun cs h=>S ?_)
     ·replace h:=run_loop h
      refine Mg.whileN h (fun s9=>[(0,.val (.pv (Sx a0))),(4,.box zab1),(6,.val (.pv (I s9.1))),(7,.box (.node [(.pv (Sx v26)),(.own 9327)]))]) (fun s9=>[(9327,(2,s9.2.map (ag true)))]) (bn (St.le_nilB (x:=(.node [(.pv (Sx v26)),(.pv (.sl true 2 []))])) 7 [1] 9327 2 NM SC SC SC) (ao SC)) (fun n9 s9 h=>?_)
      refine S ?_
      obtain⟨v48,hv48,h⟩:=run_bind h
      refine am [false,false] (ih _ _ _ hv48) SC (S ?_)
      refine al cs h (fun cs h=>S ?_) (fun cs h=>S ?_)
      ·cases run_some h
       exact aj SC
      ·refine al cs h (fun cs h=>S ?_) (fun cs h=>S ?_)
       ·cases run_some h
        exact aj SC
       ·obtain⟨v62,hv62,h⟩:=run_bind h
        refine bp hv62 (S ?_)
        refine al cs h (fun cs h=>S ?_) (fun cs h=>S ?_)
        ·obtain⟨v76,hv76,h⟩:=run_bind h
         refine aN (f:=(ag true)) (fun a=>aY _ a) hv76 SC SC (S ?_)
         obtain⟨v81,hv81,h⟩:=run_bind h
         refine bp hv81 (S ?_)
         refine al cs h (fun cs h=>S ?_) (fun cs h=>S ?_)
         ·cases run_some h
          exact aj SC
         ·have h:=run_some h
          refine aq ⟨_,h,?_⟩
          refine bd 1216 9327 ?_
          exact ao SC
        ·obtain⟨v67,hv67,h⟩:=run_bind h
         refine bp hv67 (S ?_)
         refine al cs h (fun cs h=>S ?_) (fun cs h=>S ?_)
         ·obtain⟨v76,hv76,h⟩:=run_bind h
          refine aN (f:=(ag true)) (fun a=>aY _ a) hv76 SC SC (S ?_)
          obtain⟨v81,hv81,h⟩:=run_bind h
          refine bp hv81 (S ?_)
          refine al cs h (fun cs h=>S ?_) (fun cs h=>S ?_)
          ·cases run_some h
           exact aj SC
          ·have h:=run_some h
           refine aq ⟨_,h,?_⟩
           refine bd 1216 9327 ?_
           exact ao SC
         ·cases run_some h
          exact aj SC
     ·cases run_some h
      exact aj SC
theorem spec_l3Read_sat{a0:ByteArray}{a1:Int}{r:Tt×Int}(h:spec_l3Read a0 a1=some r):Sat ah 159 [(Sx a0),(I a1)] (.tup [((ag true) r.1),(I r.2)]):=by
 obtain⟨n,hn⟩:=lim_some h
 exact(spec_l3ReadN_sat n) _ _ _ hn

theorem spec_l2ManyN_sat(n:Nat):(∀ (a0:Tt) (a1:Int) (r:Int),spec_l2ManyN n a0 a1=some r→Sat ah 146 [((ag false) a0),(I a1)] (I r)):=by
 induction n with
 | zero=>exact fun _ _ _ h=>by simp[spec_l2ManyN] at h
 | succ n ih=>
  refine fun a0 a1 r h=>?_
  obtain⟨h,cs⟩:=ar h
  rw[spec_l2ManyN] at h
  refine aw (nt:=31) (rs:=[.tmp 4]) (n:=100000) Tryz.func146 rfl rfl rfl rfl (by simp) (S ?_)
  refine Mg.know_val2 (b:=false) (sz:=2) (es:=a0.Args.map (ag false)) (x:=(.pv ((ag false) a0))) 0 [1] SC fun hl0=>?_; rw[au] at hl0
  replace h:=run_loop h
  refine aM h (fun i3 s3=>[(1,.val (.pv (I a1))),(2,.box (.pv ((ag false) a0))),(5,.val (.pv (I s3))),(6,.val (.pv (I (i3:Int))))]) (fun i3 s3=>[]) (ao SC) (fun i3 s3 hi h=>?_) (fun s3 h=>?_)
  ·have w:=wrap_succ (i:=i3) (by omega)
   refine S ?_
   refine aI cs (by omega) (fun cs=>S ?_)
   refine al cs h (fun cs h=>S ?_) (fun cs h=>S ?_)
   ·obtain⟨v23,hv23,h⟩:=run_bind h
    refine av (f:=(ag false)) hv23 SC (S ?_)
    obtain⟨v28,hv28,h⟩:=run_bind h
    refine am [false,false] (ih _ _ _ hv28) SC (S ?_)
    have h:=run_some h
    refine aq ⟨_,h,?_⟩
    exact ao SWx
   ·cases run_some h
    exact aj SC
  ·refine S ?_
   refine aJ cs (by omega) (fun cs=>S ?_)
   cases run_some h
   exact aj SC
theorem spec_l2Many_sat{a0:Tt}{a1:Int}{r:Int}(h:spec_l2Many a0 a1=some r):Sat ah 146 [((ag false) a0),(I a1)] (I r):=by
 obtain⟨n,hn⟩:=lim_some h
 exact(spec_l2ManyN_sat n) _ _ _ hn

theorem spec_l1Most_sat{a0:Int}{a1:Int}  {r:Int}(h:spec_l1Most a0 a1=some r):Sat ah 156 [(I a0),(I a1)] (I r):=by
 obtain⟨h,cs⟩:=ar h
 unfold spec_l1Most at h
 refine aw (nt:=10) (rs:=[.tmp 4]) (n:=100000) Tryz.func156 rfl rfl rfl rfl (by simp) (S ?_)
 refine al cs h (fun cs h=>S ?_) (fun cs h=>S ?_)
 ·cases run_some h
  exact aj SC
 ·cases run_some h
  exact aj SC

theorem spec_l2DepthN_sat(n:Nat):(∀ (a0:Tt) (r:Int),spec_l2DepthN n a0=some r→Sat ah 147 [((ag false) a0)] (I r)):=by
 induction n with
 | zero=>exact fun _ _ h=>by simp[spec_l2DepthN] at h
 | succ n ih=>
  refine fun a0 r h=>?_
  obtain⟨h,cs⟩:=ar h
  rw[spec_l2DepthN] at h
  refine aw (nt:=22) (rs:=[.tmp 2]) (n:=100000) Tryz.func147 rfl rfl rfl rfl (by simp) (S ?_)
  refine Mg.know_val2 (b:=false) (sz:=2) (es:=a0.Args.map (ag false)) (x:=(.pv ((ag false) a0))) 0 [1] SC fun hl0=>?_; rw[au] at hl0
  replace h:=run_loop h
  refine aM h (fun i3 s3=>[(1,.box (.pv ((ag false) a0))),(3,.val (.pv (I s3))),(4,.val (.pv (I (i3:Int))))]) (fun i3 s3=>[]) (ao SC) (fun i3 s3 hi h=>?_) (fun s3 h=>?_)
  ·have w:=wrap_succ (i:=i3) (by omega)
   refine S ?_
   refine aI cs (by omega) (fun cs=>S ?_)
   obtain⟨v16,hv16,h⟩:=run_bind h
   refine av (f:=(ag false)) hv16 SC (S ?_)
   obtain⟨v18,hv18,h⟩:=run_bind h
   refine am [false] (ih _ _ hv18) SC (S ?_)
   obtain⟨v19,hv19,h⟩:=run_bind h
   refine am [false,false] (spec_l1Most_sat hv19) SC (S ?_)
   have h:=run_some h
   refine aq ⟨_,h,?_⟩
   exact ao SWx
  ·refine S ?_
   refine aJ cs (by omega) (fun cs=>S ?_)
   cases run_some h
   exact aj SC
theorem spec_l2Depth_sat{a0:Tt}{r:Int}(h:spec_l2Depth a0=some r):Sat ah 147 [((ag false) a0)] (I r):=by
 obtain⟨n,hn⟩:=lim_some h
 exact(spec_l2DepthN_sat n) _ _ hn

theorem spec_l2Fits_sat{a0:Tt}  {r:Bool}(h:spec_l2Fits a0=some r):Sat ah 119 [((ag false) a0)] (B r):=by
 obtain⟨h,cs⟩:=ar h
 unfold spec_l2Fits at h
 refine aw (nt:=11) (rs:=[.tmp 2]) (n:=100000) Tryz.func119 rfl rfl rfl rfl (by simp) (S ?_)
 obtain⟨v4,hv4,h⟩:=run_bind h
 refine am [false,false] (spec_l2Many_sat hv4) SC (S ?_)
 refine al cs h (fun cs h=>S ?_) (fun cs h=>S ?_)
 ·obtain⟨v8,hv8,h⟩:=run_bind h
  refine am [false] (spec_l2Depth_sat hv8) SC (S ?_)
  cases run_some h
  exact aj SC
 ·cases run_some h
  exact aj SC

theorem spec_l1In_sat{a0:Int}{a1:Int}{a2:Int}  {r:Bool}(h:spec_l1In a0 a1 a2=some r):Sat ah 56 [(I a0),(I a1),(I a2)] (B r):=by
 obtain⟨h,cs⟩:=ar h
 unfold spec_l1In at h
 refine aw (nt:=15) (rs:=[.tmp 6]) (n:=100000) Tryz.func56 rfl rfl rfl rfl (by simp) (S ?_)
 refine al cs h (fun cs h=>S ?_) (fun cs h=>S ?_)
 ·cases run_some h
  exact aj SC
 ·cases run_some h
  exact aj SC

theorem spec_l2Var_sat{a0:ByteArray}  {r:Bool}(h:spec_l2Var a0=some r):Sat ah 84 [(Sx a0)] (B r):=by
 obtain⟨h,cs⟩:=ar h
 unfold spec_l2Var at h
 refine aw (nt:=29) (rs:=[.tmp 2]) (n:=100000) Tryz.func84 rfl rfl rfl rfl (by simp) (S ?_)
 obtain⟨v6,hv6,h⟩:=run_bind h
 refine am [false,false,false] (spec_l1In_sat hv6) SC (S ?_)
 refine al cs h (fun cs h=>S ?_) (fun cs h=>S ?_)
 ·obtain⟨v10,hv10,h⟩:=run_bind h
  refine bp hv10 (S ?_)
  refine al cs h (fun cs h=>S ?_) (fun cs h=>S ?_)
  ·cases run_some h
   exact aj SC
  ·obtain⟨v15,hv15,h⟩:=run_bind h
   refine bp hv15 (S ?_)
   refine al cs h (fun cs h=>S ?_) (fun cs h=>S ?_)
   ·cases run_some h
    exact aj SC
   ·obtain⟨N4,hN4,h⟩:=run_bind h
    obtain⟨hN4a,hN4b⟩:=bnd_some hN4
    replace h:=run_loop h
    refine Mg.forA (N:=N4) (a:=1) h (fun i4 s4=>[(0,.val (.pv (Sx a0))),(3,.val (.pv (I (i4:Int))))]) (fun i4 s4=>[]) (ao SC) (fun i4 s4 hi hj h=>?_) (fun j4 s4 hj h=>?_)
    ·have w:=wrap_succ (i:=i4) (by omega)
     refine S ?_
     refine aI cs (by omega) (fun cs=>S ?_)
     obtain⟨v26,hv26,h⟩:=run_bind h
     refine bp hv26 (S ?_)
     obtain⟨v27,hv27,h⟩:=run_bind h
     refine am [false] (spec_l2Small_sat hv27) SC (S ?_)
     refine al cs h (fun cs h=>S ?_) (fun cs h=>S ?_)
     ·have h:=run_some h
      refine aq ⟨_,h,?_⟩
      exact ao SWx
     ·cases run_some h
      exact aj SC
    ·refine S ?_
     refine aJ cs (by omega) (fun cs=>S ?_)
     cases run_some h
     exact aj SC
 ·cases run_some h
  exact aj SC

theorem spec_l2Symbol_sat{a0:ByteArray}  {r:Bool}(h:spec_l2Symbol a0=some r):Sat ah 121 [(Sx a0)] (B r):=by
 obtain⟨h,cs⟩:=ar h
 unfold spec_l2Symbol at h
 refine aw (nt:=45) (rs:=[.tmp 2]) (n:=100000) Tryz.func121 rfl rfl rfl rfl (by simp) (S ?_)
 obtain⟨v6,hv6,h⟩:=run_bind h
 refine am [false,false,false] (spec_l1In_sat hv6) SC (S ?_)
 refine al cs h (fun cs h=>S ?_) (fun cs h=>S ?_)
 ·obtain⟨v10,hv10,h⟩:=run_bind h
  refine bp hv10 (S ?_)
  refine al cs h (fun cs h=>S ?_) (fun cs h=>S ?_)
  ·cases run_some h
   exact aj SC
  ·obtain⟨v15,hv15,h⟩:=run_bind h
   refine bp hv15 (S ?_)
   refine al cs h (fun cs h=>S ?_) (fun cs h=>S ?_)
   ·cases run_some h
    exact aj SC
   ·refine al cs h (fun cs h=>S ?_) (fun cs h=>S ?_)
    ·cases run_some h
     exact aj SC
    ·refine al cs h (fun cs h=>S ?_) (fun cs h=>S ?_)
     ·cases run_some h
      exact aj SC
     ·refine al cs h (fun cs h=>S ?_) (fun cs h=>S ?_)
      ·cases run_some h
       exact aj SC
      ·refine al cs h (fun cs h=>S ?_) (fun cs h=>S ?_)
       ·cases run_some h
        exact aj SC
       ·refine al cs h (fun cs h=>S ?_) (fun cs h=>S ?_)
        ·cases run_some h
         exact aj SC
        ·refine al cs h (fun cs h=>S ?_) (fun cs h=>S ?_)
         ·cases run_some h
          exact aj SC
         ·refine al cs h (fun cs h=>S ?_) (fun cs h=>S ?_)
          ·cases run_some h
           exact aj SC
          ·refine al cs h (fun cs h=>S ?_) (fun cs h=>S ?_)
           ·cases run_some h
            exact aj SC
           ·obtain⟨N14,hN14,h⟩:=run_bind h
            obtain⟨hN14a,hN14b⟩:=bnd_some hN14
            replace h:=run_loop h
            refine Mg.forA (N:=N14) (a:=1) h (fun i14 s14=>[(0,.val (.pv (Sx a0))),(3,.val (.pv (I (i14:Int))))]) (fun i14 s14=>[]) (ao SC) (fun i14 s14 hi hj h=>?_) (fun j14 s14 hj h=>?_)
            ·have w:=wrap_succ (i:=i14) (by omega)
             refine S ?_
             refine aI cs (by omega) (fun cs=>S ?_)
             obtain⟨v36,hv36,h⟩:=run_bind h
             refine bp hv36 (S ?_)
             obtain⟨v37,hv37,h⟩:=run_bind h
             refine am [false] (spec_l2Small_sat hv37) SC (S ?_)
             refine al cs h (fun cs h=>S ?_) (fun cs h=>S ?_)
             ·have h:=run_some h
              refine aq ⟨_,h,?_⟩
              exact ao SWx
             ·obtain⟨v42,hv42,h⟩:=run_bind h
              refine bp hv42 (S ?_)
              refine al cs h (fun cs h=>S ?_) (fun cs h=>S ?_)
              ·have h:=run_some h
               refine aq ⟨_,h,?_⟩
               exact ao SWx
              ·cases run_some h
               exact aj SC
            ·refine S ?_
             refine aJ cs (by omega) (fun cs=>S ?_)
             cases run_some h
             exact aj SC
 ·cases run_some h
  exact aj SC

theorem spec_l2NodesN_sat(n:Nat):(∀ (a0:Tt) (r:Bool),spec_l2NodesN n a0=some r→Sat ah 120 [((ag false) a0)] (B r)):=by
 induction n with
 | zero=>exact fun _ _ h=>by simp[spec_l2NodesN] at h
 | succ n ih=>
  refine fun a0 r h=>?_
  obtain⟨h,cs⟩:=ar h
  rw[spec_l2NodesN] at h
  refine aw (nt:=35) (rs:=[.tmp 2]) (n:=100000) Tryz.func120 rfl rfl rfl rfl (by simp) (S ?_)
  obtain⟨v6,hv6,h⟩:=run_bind h
  refine am [false] (spec_l2Var_sat hv6) SC (S ?_)
  refine al cs h (fun cs h=>S ?_) (fun cs h=>S ?_)
  ·cases run_some h
   exact aj SC
  ·obtain⟨v13,hv13,h⟩:=run_bind h
   refine am [false] (spec_l2Symbol_sat hv13) SC (S ?_)
   refine al cs h (fun cs h=>S ?_) (fun cs h=>S ?_)
   ·refine al cs h (fun cs h=>S ?_) (fun cs h=>S ?_)
    ·cases run_some h
     exact aj SC
    ·refine aW (b:=false) (sz:=2) (es:=a0.Args.map (ag false)) 17 SC fun hl17=>?_; rw[au] at hl17
     replace h:=run_loop h
     refine aM h (fun i6 s6=>[(1,.box (.pv ((ag false) a0))),(3,.val (.pv (I (i6:Int))))]) (fun i6 s6=>[]) (ao SC) (fun i6 s6 hi h=>?_) (fun s6 h=>?_)
     ·have w:=wrap_succ (i:=i6) (by omega)
      refine S ?_
      refine aI cs (by omega) (fun cs=>S ?_)
      obtain⟨v31,hv31,h⟩:=run_bind h
      refine av (f:=(ag false)) hv31 SC (S ?_)
      obtain⟨v33,hv33,h⟩:=run_bind h
      refine am [false] (ih _ _ hv33) SC (S ?_)
      refine al cs h (fun cs h=>S ?_) (fun cs h=>S ?_)
      ·have h:=run_some h
       refine aq ⟨_,h,?_⟩
       exact ao SWx
      ·cases run_some h
       exact aj SC
     ·refine S ?_
      refine aJ cs (by omega) (fun cs=>S ?_)
      cases run_some h
      exact aj SC
   ·cases run_some h
    exact aj SC
theorem spec_l2Nodes_sat{a0:Tt}{r:Bool}(h:spec_l2Nodes a0=some r):Sat ah 120 [((ag false) a0)] (B r):=by
 obtain⟨n,hn⟩:=lim_some h
 exact(spec_l2NodesN_sat n) _ _ hn

theorem spec_l2Good_sat{a0:Tt}  {r:Bool}(h:spec_l2Good a0=some r):Sat ah 85 [((ag false) a0)] (B r):=by
 obtain⟨h,cs⟩:=ar h
 unfold spec_l2Good at h
 refine aw (nt:=9) (rs:=[.tmp 2]) (n:=100000) Tryz.func85 rfl rfl rfl rfl (by simp) (S ?_)
 obtain⟨v4,hv4,h⟩:=run_bind h
 refine am [false] (spec_l2Fits_sat hv4) SC (S ?_)
 refine al cs h (fun cs h=>S ?_) (fun cs h=>S ?_)
 ·obtain⟨v7,hv7,h⟩:=run_bind h
  refine am [false] (spec_l2Nodes_sat hv7) SC (S ?_)
  cases run_some h
  exact aj SC
 ·cases run_some h
  exact aj SC

theorem spec_l3Whole_sat{a0:ByteArray}  {r:Tt×Bool}(h:spec_l3Whole a0=some r):Sat ah 158 [(Sx a0)] (.tup [((ag true) r.1),(B r.2)]):=by
 obtain⟨h,cs⟩:=ar h
 unfold spec_l3Whole at h
 refine aw (nt:=22) (rs:=[.cell 2 43,.tmp 3]) (n:=100000) Tryz.func158 rfl rfl rfl rfl (by simp) (S ?_)
 obtain⟨v8,hv8,h⟩:=run_bind h
 refine am [false,false] (spec_l3Read_sat hv8) SC (S ?_)
 refine al cs h (fun cs h=>S ?_) (fun cs h=>S ?_)
 ·obtain⟨v17,hv17,h⟩:=run_bind h
  refine am [false] (spec_l2Good_sat hv17) SC (S ?_)
  refine al cs h (fun cs h=>S ?_) (fun cs h=>S ?_)
  ·cases run_some h
   exact aj SC
  ·cases run_some h
   exact aj SC
 ·cases run_some h
  exact aj SC

theorem spec_ParseTerm_sat{a0:ByteArray}  {r:Tt×Bool}(h:spec_ParseTerm a0=some r):Sat ah 153 [(Sx a0)] (.tup [((ag true) r.1),(B r.2)]):=by
 obtain⟨h,cs⟩:=ar h
 unfold spec_ParseTerm at h
 refine aw (nt:=12) (rs:=[.cell 2 43,.tmp 3]) (n:=100000) Tryz.func153 rfl rfl rfl rfl (by simp) (S ?_)
 refine al cs h (fun cs h=>S ?_) (fun cs h=>S ?_)
 ·cases run_some h
  exact aj SC
 ·obtain⟨v9,hv9,h⟩:=run_bind h
  refine am [false] (spec_l3Whole_sat hv9) SC (S ?_)
  cases run_some h
  exact aj SC

theorem spec_l22Text_sat{a0:lc}{a1:List ByteArray}  {r:Tt×lc}(h:spec_l22Text a0 a1=some r):SatH ah 136 [] [(.sl false 1 (a1.map Sx))] .ptr [] (.pv ((aG false) a0)) (.pv ((aG false) r.2)) ((ag true) r.1):=by
 obtain⟨h,cs⟩:=ar h
 unfold spec_l22Text at h
 refine SatH.of_k (nt:=15) (rs:=[.cell 4 43]) (n:=100000) 0 Tryz.func136 rfl rfl rfl rfl rfl (bz rfl) (by decide) (by first | exact bz rfl | exact SC) (S ?_)
 obtain⟨v10,hv10,h⟩:=run_bind h
 refine a7 (r:=0) (hc:=.cv (.pv ((aG false) a0))) 0 [] [_] [] [(.pv (.sl false 1 (a1.map Sx)))] [false] (spec_l1Cur__of_sat hv10) rfl rfl rfl SC (S ?_)
 obtain⟨v11,hv11,h⟩:=run_bind h
 refine am [false] (spec_ParseTerm_sat hv11) SC (S ?_)
 cases run_some h
 exact a8 SC

theorem spec_l2OwnN_sat(n:Nat):(∀ (a0:Tt) (r:Tt),spec_l2OwnN n a0=some r→Sat ah 88 [((ag false) a0)] ((ag true) r)):=by
 induction n with
 | zero=>exact fun _ _ h=>by simp[spec_l2OwnN] at h
 | succ n ih=>
  refine fun a0 r h=>?_
  obtain⟨h,cs⟩:=ar h
  rw[spec_l2OwnN] at h
  refine aw (nt:=27) (rs:=[.cell 2 43]) (n:=100000) Tryz.func88 rfl rfl rfl rfl (by simp) (S ?_)
  refine Mg.know_val2 (b:=false) (sz:=2) (es:=a0.Args.map (ag false)) (x:=(.pv ((ag false) a0))) 0 [1] SC fun hl0=>?_; rw[au] at hl0
  replace h:=run_loop h
  refine aM h (fun i3 s3=>[(1,.box (.pv ((ag false) a0))),(2,.box zab1),(3,.box (.node [(.pv (Sx a0.Name)),(.own 9309)])),(4,.val (.pv (I (i3:Int))))]) (fun i3 s3=>[(9309,(2,s3.map (ag true)))]) (bn (St.le_nilB (x:=(.node [(.pv (Sx a0.Name)),(.pv (.sl true 2 []))])) 3 [1] 9309 2 NM SC SC SC) (ao SC)) (fun i3 s3 hi h=>?_) (fun s3 h=>?_)
  ·have w:=wrap_succ (i:=i3) (by omega)
   refine S ?_
   refine aI cs (by omega) (fun cs=>S ?_)
   obtain⟨v20,hv20,h⟩:=run_bind h
   refine av (f:=(ag false)) hv20 SC (S ?_)
   obtain⟨v22,hv22,h⟩:=run_bind h
   refine am [false] (ih _ _ hv22) SC (S ?_)
   obtain⟨v24,hv24,h⟩:=run_bind h
   refine aN (f:=(ag true)) (fun a=>aY _ a) hv24 SC SC (S ?_)
   refine ae (aL [] [352,368,384]) (S ?_)
   have h:=run_some h
   refine aq ⟨_,h,?_⟩
   refine bd 384 9309 ?_
   exact ao SWx
  ·refine S ?_
   refine aJ cs (by omega) (fun cs=>S ?_)
   cases run_some h
   exact aj SC
theorem spec_l2Own_sat{a0:Tt}{r:Tt}(h:spec_l2Own a0=some r):Sat ah 88 [((ag false) a0)] ((ag true) r):=by
 obtain⟨n,hn⟩:=lim_some h
 exact(spec_l2OwnN_sat n) _ _ hn

theorem spec_l4Put_sat{a0:Sa}{a1:ByteArray}{a2:Tt}  {r:Sa}(h:spec_l4Put a0 a1 a2=some r):Sat ah 154 [((Sa.pv false) a0),(Sx a1),((ag false) a2)] ((Sa.pv false) r):=by
 obtain⟨h,cs⟩:=ar h
 unfold spec_l4Put at h
 refine aw (nt:=51) (rs:=[.cell 6 53]) (n:=100000) Tryz.func154 rfl rfl rfl rfl (by simp) (S ?_)
 refine al cs h (fun cs h=>S ?_) (fun cs h=>S ?_)
 ·cases run_some h
  exact FinH.r SC
 ·refine Mg.know_val2 (b:=false) (sz:=3) (es:=a0.Bindings.map (Bt.pv false)) (x:=(.pv ((Sa.pv false) a0))) 0 [0] SC fun hl0=>?_; rw[au] at hl0
  replace h:=run_loop h
  refine aM h (fun i4 s4=>[(1,.val (.pv (Sx a1))),(3,.box (.pv ((Sa.pv false) a0))),(5,.box (.pv ((ag false) a2))),(6,.box (.node [(.pv (.sl true 3 []))])),(7,.val (.pv (I (i4:Int))))]) (fun i4 s4=>[]) (ao SC) (fun i4 s4 hi h=>?_) (fun s4 h=>?_)
  ·have w:=wrap_succ (i:=i4) (by omega)
   refine S ?_
   refine aI cs (by omega) (fun cs=>S ?_)
   obtain⟨v23,hv23,h⟩:=run_bind h
   refine av (f:=(Bt.pv false)) hv23 SC (S ?_)
   refine al cs h (fun cs h=>S ?_) (fun cs h=>S ?_)
   ·have h:=run_some h
    refine aq ⟨_,h,?_⟩
    exact ao SWx
   ·obtain⟨v35,hv35,h⟩:=run_bind h
    refine SlcH.mk (f:=(Bt.pv false)) hv35 SC (S ?_)
    obtain⟨v36,hv36,h⟩:=run_bind h
    refine aN (f:=(Bt.pv false)) (fun a=>Bt.psize _ a) hv36 SC SC (S ?_)
    obtain⟨v40,hv40,h⟩:=run_bind h
    refine am [false] (Sat.vwOf (res':=((ag false) v40)) (spec_l2Own_sat hv40) (by simp only[view_tup,view_sl,view_agg,view_lit,az,RB,RS])) SC (S ?_)
    obtain⟨v43,hv43,h⟩:=run_bind h
    refine aN (f:=(Bt.pv false)) (fun a=>Bt.psize _ a) hv43 SC SC (S ?_)
    obtain⟨v48,hv48,h⟩:=run_bind h
    refine SlcH.mk (f:=(Bt.pv false)) hv48 SC (S ?_)
    obtain⟨v49,hv49,h⟩:=run_bind h
    refine aN (f:=(Bt.pv false)) (fun a=>Bt.psize _ a) hv49 SC SC (S ?_)
    cases run_some h
    exact FinH.r SC
  ·refine S ?_
   refine aJ cs (by omega) (fun cs=>S ?_)
   obtain⟨v35,hv35,h⟩:=run_bind h
   refine SlcH.mk (f:=(Bt.pv false)) hv35 SC (S ?_)
   obtain⟨v36,hv36,h⟩:=run_bind h
   refine aN (f:=(Bt.pv false)) (fun a=>Bt.psize _ a) hv36 SC SC (S ?_)
   obtain⟨v40,hv40,h⟩:=run_bind h
   refine am [false] (Sat.vwOf (res':=((ag false) v40)) (spec_l2Own_sat hv40) (by simp only[view_tup,view_sl,view_agg,view_lit,az,RB,RS])) SC (S ?_)
   obtain⟨v43,hv43,h⟩:=run_bind h
   refine aN (f:=(Bt.pv false)) (fun a=>Bt.psize _ a) hv43 SC SC (S ?_)
   obtain⟨v48,hv48,h⟩:=run_bind h
   refine SlcH.mk (f:=(Bt.pv false)) hv48 SC (S ?_)
   obtain⟨v49,hv49,h⟩:=run_bind h
   refine aN (f:=(Bt.pv false)) (fun a=>Bt.psize _ a) hv49 SC SC (S ?_)
   cases run_some h
   exact FinH.r SC

theorem spec_l4Find_sat{a0:Sa}{a1:ByteArray}  {r:Int}(h:spec_l4Find a0 a1=some r):Sat ah 87 [((Sa.pv false) a0),(Sx a1)] (I r):=by
 obtain⟨h,cs⟩:=ar h
 unfold spec_l4Find at h
 refine aw (nt:=22) (rs:=[.tmp 4]) (n:=100000) Tryz.func87 rfl rfl rfl rfl (by simp) (S ?_)
 refine Mg.know_val2 (b:=false) (sz:=3) (es:=a0.Bindings.map (Bt.pv false)) (x:=(.pv ((Sa.pv false) a0))) 0 [0] SC fun hl0=>?_; rw[au] at hl0
 replace h:=run_loop h
 refine aM h (fun i2 s2=>[(1,.val (.pv (Sx a1))),(2,.box (.pv ((Sa.pv false) a0))),(5,.val (.pv (I (i2:Int))))]) (fun i2 s2=>[]) (ao SC) (fun i2 s2 hi h=>?_) (fun s2 h=>?_)
 ·have w:=wrap_succ (i:=i2) (by omega)
  refine S ?_
  refine aI cs (by omega) (fun cs=>S ?_)
  obtain⟨v16,hv16,h⟩:=run_bind h
  refine av (f:=(Bt.pv false)) hv16 SC (S ?_)
  refine al cs h (fun cs h=>S ?_) (fun cs h=>S ?_)
  ·cases run_some h
   exact aj SC
  ·have h:=run_some h
   refine aq ⟨_,h,?_⟩
   exact ao SWx
 ·refine S ?_
  refine aJ cs (by omega) (fun cs=>S ?_)
  cases run_some h
  exact aj SC

theorem spec_l4ApplyN_sat(n:Nat):(∀ (a0:Sa) (a1:Tt) (r:Tt),spec_l4ApplyN n a0 a1=some r→Sat ah 55 [((Sa.pv false) a0),((ag false) a1)] ((ag true) r)):=by
 induction n with
 | zero=>exact fun _ _ _ h=>by simp[spec_l4ApplyN] at h
 | succ n ih=>
  refine fun a0 a1 r h=>?_
  obtain⟨h,cs⟩:=ar h
  rw[spec_l4ApplyN] at h
  refine aw (nt:=50) (rs:=[.cell 4 43]) (n:=100000) Tryz.func55 rfl rfl rfl rfl (by simp) (S ?_)
  obtain⟨v10,hv10,h⟩:=run_bind h
  refine am [false] (spec_l2Var_sat hv10) SC (S ?_)
  refine al cs h (fun cs h=>S ?_) (fun cs h=>S ?_)
  ·obtain⟨v14,hv14,h⟩:=run_bind h
   refine am [false,false] (spec_l4Find_sat hv14) SC (S ?_)
   refine al cs h (fun cs h=>S ?_) (fun cs h=>S ?_)
   ·obtain⟨v20,hv20,h⟩:=run_bind h
    refine av (f:=(Bt.pv false)) hv20 SC (S ?_)
    obtain⟨v23,hv23,h⟩:=run_bind h
    refine am [false] (spec_l2Own_sat hv23) SC (S ?_)
    cases run_some h
    exact aj SC
   ·cases run_some h
    exact aj SC
  ·refine Mg.know_val2 (b:=false) (sz:=2) (es:=a1.Args.map (ag false)) (x:=(.pv ((ag false) a1))) 1 [1] SC fun hl1=>?_; rw[au] at hl1
   replace h:=run_loop h
   refine aM h (fun i8 s8=>[(2,.box (.pv ((Sa.pv false) a0))),(3,.box (.pv ((ag false) a1))),(4,.box zab1),(6,.box (.node [(.pv (Sx a1.Name)),(.own 9324)])),(7,.val (.pv (I (i8:Int))))]) (fun i8 s8=>[(9324,(2,s8.map (ag true)))]) (bn (St.le_nilB (x:=(.node [(.pv (Sx a1.Name)),(.pv (.sl true 2 []))])) 6 [1] 9324 2 NM SC SC SC) (ao SC)) (fun i8 s8 hi h=>?_) (fun s8 h=>?_)
   ·have w:=wrap_succ (i:=i8) (by omega)
    refine S ?_
    refine aI cs (by omega) (fun cs=>S ?_)
    obtain⟨v43,hv43,h⟩:=run_bind h
    refine av (f:=(ag false)) hv43 SC (S ?_)
    obtain⟨v45,hv45,h⟩:=run_bind h
    refine am [false,false] (ih _ _ _ hv45) SC (S ?_)
    obtain⟨v47,hv47,h⟩:=run_bind h
    refine aN (f:=(ag true)) (fun a=>aY _ a) hv47 SC SC (S ?_)
    refine ae (aL [] [720,736,752]) (S ?_)
    have h:=run_some h
    refine aq ⟨_,h,?_⟩
    refine bd 752 9324 ?_
    exact ao SWx
   ·refine S ?_
    refine aJ cs (by omega) (fun cs=>S ?_)
    cases run_some h
    exact aj SC
theorem spec_l4Apply_sat{a0:Sa}{a1:Tt}{r:Tt}(h:spec_l4Apply a0 a1=some r):Sat ah 55 [((Sa.pv false) a0),((ag false) a1)] ((ag true) r):=by
 obtain⟨n,hn⟩:=lim_some h
 exact(spec_l4ApplyN_sat n) _ _ _ hn

theorem spec_l22Fill_sat{a0:Tt}{a1:Tt}  {r:Tt}(h:spec_l22Fill a0 a1=some r):Sat ah 137 [((ag false) a0),((ag false) a1)] ((ag true) r):=by
 obtain⟨h,cs⟩:=ar h
 unfold spec_l22Fill at h
 refine aw (nt:=10) (rs:=[.cell 4 43]) (n:=100000) Tryz.func137 rfl rfl rfl rfl (by simp) (S ?_)
 obtain⟨v7,hv7,h⟩:=run_bind h
 refine am [false,false,false] (spec_l4Put_sat hv7) SC (S ?_)
 obtain⟨v9,hv9,h⟩:=run_bind h
 refine am [false,false] (spec_l4Apply_sat hv9) SC (S ?_)
 refine ae (aL [] [144]) (S ?_)
 cases run_some h
 exact aj SC

theorem spec_l2SameN_sat(n:Nat):(∀ (a0:Tt) (a1:Tt) (r:Bool),spec_l2SameN n a0 a1=some r→Sat ah 90 [((ag false) a0),((ag false) a1)] (B r)):=by
 induction n with
 | zero=>exact fun _ _ _ h=>by simp[spec_l2SameN] at h
 | succ n ih=>
  refine fun a0 a1 r h=>?_
  obtain⟨h,cs⟩:=ar h
  rw[spec_l2SameN] at h
  refine aw (nt:=39) (rs:=[.tmp 4]) (n:=100000) Tryz.func90 rfl rfl rfl rfl (by simp) (S ?_)
  refine al cs h (fun cs h=>S ?_) (fun cs h=>S ?_)
  ·refine al cs h (fun cs h=>S ?_) (fun cs h=>S ?_)
   ·refine aW (b:=false) (sz:=2) (es:=a0.Args.map (ag false)) 13 SC fun hl13=>?_; rw[au] at hl13
    replace h:=run_loop h
    refine aM h (fun i4 s4=>[(2,.box (.pv ((ag false) a0))),(3,.box (.pv ((ag false) a1))),(5,.val (.pv (I (i4:Int))))]) (fun i4 s4=>[]) (ao SC) (fun i4 s4 hi h=>?_) (fun s4 h=>?_)
    ·have w:=wrap_succ (i:=i4) (by omega)
     refine S ?_
     refine aI cs (by omega) (fun cs=>S ?_)
     obtain⟨v30,hv30,h⟩:=run_bind h
     refine av (f:=(ag false)) hv30 SC (S ?_)
     obtain⟨v35,hv35,h⟩:=run_bind h
     refine av (f:=(ag false)) hv35 SC (S ?_)
     obtain⟨v37,hv37,h⟩:=run_bind h
     refine am [false,false] (ih _ _ _ hv37) SC (S ?_)
     refine ae (aL [] []) (S ?_)
     refine al cs h (fun cs h=>S ?_) (fun cs h=>S ?_)
     ·have h:=run_some h
      refine aq ⟨_,h,?_⟩
      exact ao SWx
     ·cases run_some h
      exact aj SC
    ·refine S ?_
     refine aJ cs (by omega) (fun cs=>S ?_)
     cases run_some h
     exact aj SC
   ·cases run_some h
    exact aj SC
  ·cases run_some h
   exact aj SC
theorem spec_l2Same_sat{a0:Tt}{a1:Tt}{r:Bool}(h:spec_l2Same a0 a1=some r):Sat ah 90 [((ag false) a0),((ag false) a1)] (B r):=by
 obtain⟨n,hn⟩:=lim_some h
 exact(spec_l2SameN_sat n) _ _ _ hn

theorem spec_l16Index_sat{a0:List Tt}{a1:Tt}  {r:Int}(h:spec_l16Index a0 a1=some r):Sat ah 58 [(.sl false 2 (a0.map (ag false))),((ag false) a1)] (I r):=by
 obtain⟨h,cs⟩:=ar h
 unfold spec_l16Index at h
 refine aw (nt:=19) (rs:=[.tmp 4]) (n:=100000) Tryz.func58 rfl rfl rfl rfl (by simp) (S ?_)
 refine aW (b:=false) (sz:=2) (es:=a0.map (ag false)) 0 SC fun hl0=>?_; rw[au] at hl0
 replace h:=run_loop h
 refine aM h (fun i2 s2=>[(0,.val (.pv (.sl false 2 (a0.map (ag false))))),(3,.box (.pv ((ag false) a1))),(5,.val (.pv (I (i2:Int))))]) (fun i2 s2=>[]) (ao SC) (fun i2 s2 hi h=>?_) (fun s2 h=>?_)
 ·have w:=wrap_succ (i:=i2) (by omega)
  refine S ?_
  refine aI cs (by omega) (fun cs=>S ?_)
  obtain⟨v14,hv14,h⟩:=run_bind h
  refine av (f:=(ag false)) hv14 SC (S ?_)
  obtain⟨v17,hv17,h⟩:=run_bind h
  refine am [false,false] (spec_l2Same_sat hv17) SC (S ?_)
  refine ae (aL [] []) (S ?_)
  refine al cs h (fun cs h=>S ?_) (fun cs h=>S ?_)
  ·cases run_some h
   exact aj SC
  ·have h:=run_some h
   refine aq ⟨_,h,?_⟩
   exact ao SWx
 ·refine S ?_
  refine aJ cs (by omega) (fun cs=>S ?_)
  cases run_some h
  exact aj SC

theorem spec_l1Cur__one_sat{a0:lc}{a1:Int}  {r:Bool×lc}(h:spec_l1Cur__one a0 a1=some r):SatH ah 138 [] [(I a1)] .ptr [] (.pv ((aG false) a0)) (.pv ((aG false) r.2)) (B r.1):=by
 obtain⟨h,cs⟩:=ar h
 unfold spec_l1Cur__one at h
 refine SatH.of_k (nt:=9) (rs:=[.tmp 4]) (n:=100000) 0 Tryz.func138 rfl rfl rfl rfl rfl (bz rfl) (by decide) (by first | exact bz rfl | exact SC) (S ?_)
 obtain⟨v7,hv7,h⟩:=run_bind h
 refine a7 (r:=0) (hc:=.cv (.pv ((aG false) a0))) 0 [] [_] [] [(.pv (I a1))] [false] (spec_l1Cur__pick_sat hv7) rfl rfl rfl SC (S ?_)
 cases run_some h
 exact a8 SC

theorem spec_l1Cur__terms22_sat{a0:lc}  {r:(List Tt)×lc}(h:spec_l1Cur__terms22 a0=some r):SatH ah 111 [] [] .ptr [] (.pv ((aG false) a0)) (.pv ((aG false) r.2)) (.sl true 2 (r.1.map (ag true))):=by
 obtain⟨h,cs⟩:=ar h
 unfold spec_l1Cur__terms22 at h
 refine SatH.of_k (nt:=103) (rs:=[.tmp 2]) (n:=100000) 0 Tryz.func111 rfl rfl rfl rfl rfl (bz rfl) (by decide) (by first | exact bz rfl | exact SC) (S ?_)
 obtain⟨v19,hv19,h⟩:=run_bind h
 refine a7 (r:=0) (hc:=.cv (.pv ((aG false) a0))) 0 [] [_] [] [(.pv (I 3))] [false] (spec_l1Cur__pick_sat hv19) rfl rfl rfl SC (S ?_)
 replace h:=run_loop h
 refine Mg.whileN h (fun s6=>[(0,.box (.pv ((aG false) s6.1))),(3,.val (.pv (.sl false 1 (([(⟨#[102,40,65,41]⟩:ByteArray),(⟨#[103,40,65,44,97,41]⟩:ByteArray),(⟨#[65]⟩:ByteArray),(⟨#[103,40,65,44,65,41]⟩:ByteArray),(⟨#[102,40,102,40,65,41,41]⟩:ByteArray),(⟨#[103,40,98,44,102,40,65,41,41]⟩:ByteArray)]).map Sx)))),(4,.val (.own 240)),(5,.val (.own 256)),(6,.val (.own 272)),(7,.val (.pv (I s6.2.2))),(20000,gh 0)]) (fun s6=>[(240,(1,([(⟨#[97]⟩:ByteArray),(⟨#[98]⟩:ByteArray),(⟨#[102,40,97,41]⟩:ByteArray),(⟨#[99]⟩:ByteArray),(⟨#[103,40,97,44,98,41]⟩:ByteArray)]).map Sx)),(256,(2,([]).map (ag false))),(272,(2,s6.2.1.map (ag true)))]) (bn (St.le_demV (x:=(.own 224)) (sz:=(1)) (es:=([(⟨#[102,40,65,41]⟩:ByteArray),(⟨#[103,40,65,44,97,41]⟩:ByteArray),(⟨#[65]⟩:ByteArray),(⟨#[103,40,65,44,65,41]⟩:ByteArray),(⟨#[102,40,102,40,65,41,41]⟩:ByteArray),(⟨#[103,40,98,44,102,40,65,41,41]⟩:ByteArray)]).map Sx) 3 [] 224 SC) (ao SC)) (fun n6 s6 h=>?_)
 refine S ?_
 refine al cs h (fun cs h=>S ?_) (fun cs h=>S ?_)
 ·obtain⟨v28,hv28,h⟩:=run_bind h
  refine a7 (r:=0) (hc:=.cv (.pv ((aG false) s6.1))) 0 [] [_] [] [(.pv (.sl false 1 (([(⟨#[102,40,65,41]⟩:ByteArray),(⟨#[103,40,65,44,97,41]⟩:ByteArray),(⟨#[65]⟩:ByteArray),(⟨#[103,40,65,44,65,41]⟩:ByteArray),(⟨#[102,40,102,40,65,41,41]⟩:ByteArray),(⟨#[103,40,98,44,102,40,65,41,41]⟩:ByteArray)]).map Sx)))] [false] (spec_l22Text_sat hv28) rfl rfl rfl SC (S ?_)
  obtain⟨v30,hv30,h⟩:=run_bind h
  refine aN (f:=(ag true)) (fun a=>aY _ a) hv30 SC SC (S ?_)
  have h:=run_some h
  refine aq ⟨_,h,?_⟩
  refine bd 480 272 ?_
  exact ao SC
 ·have h:=run_some h
  obtain⟨v33,hv33,h⟩:=run_bind h
  refine a7 (r:=0) (hc:=.cv (.pv ((aG false) s6.1))) 0 [] [_] [] [(.pv (I 3))] [false] (spec_l1Cur__pick_sat hv33) rfl rfl rfl SC (S ?_)
  replace h:=run_loop h
  refine Mg.whileN h (fun s11=>[(0,.box (.pv ((aG false) s11.1))),(4,.val (.pv (.sl false 1 (([(⟨#[97]⟩:ByteArray),(⟨#[98]⟩:ByteArray),(⟨#[102,40,97,41]⟩:ByteArray),(⟨#[99]⟩:ByteArray),(⟨#[103,40,97,44,98,41]⟩:ByteArray)]).map Sx)))),(5,.val (.own 256)),(6,.val (.own 272)),(8,.val (.own 496)),(9,.val (.pv (I s11.2.2))),(20000,gh 0)]) (fun s11=>[(256,(2,([]).map (ag false))),(272,(2,s6.2.1.map (ag true))),(496,(2,s11.2.1.map (ag true)))]) (bn (St.le_demV (x:=(.own 240)) (sz:=(1)) (es:=([(⟨#[97]⟩:ByteArray),(⟨#[98]⟩:ByteArray),(⟨#[102,40,97,41]⟩:ByteArray),(⟨#[99]⟩:ByteArray),(⟨#[103,40,97,44,98,41]⟩:ByteArray)]).map Sx) 4 [] 240 SC) (ao SC)) (fun n11 s11 h=>?_)
  refine S ?_
  refine al cs h (fun cs h=>S ?_) (fun cs h=>S ?_)
  ·obtain⟨v42,hv42,h⟩:=run_bind h
   refine a7 (r:=0) (hc:=.cv (.pv ((aG false) s11.1))) 0 [] [_] [] [(.pv (.sl false 1 (([(⟨#[97]⟩:ByteArray),(⟨#[98]⟩:ByteArray),(⟨#[102,40,97,41]⟩:ByteArray),(⟨#[99]⟩:ByteArray),(⟨#[103,40,97,44,98,41]⟩:ByteArray)]).map Sx)))] [false] (spec_l22Text_sat hv42) rfl rfl rfl SC (S ?_)
   obtain⟨v44,hv44,h⟩:=run_bind h
   refine aN (f:=(ag true)) (fun a=>aY _ a) hv44 SC SC (S ?_)
   have h:=run_some h
   refine aq ⟨_,h,?_⟩
   refine bd 704 496 ?_
   exact ao SC
  ·have h:=run_some h
   refine Mg.know_own (sz:=2) (es:=s6.2.1.map (ag true)) 272 SC fun hl272=>?_; rw[au] at hl272
   replace h:=run_loop h
   refine aM h (fun i15 s15=>[(0,.box (.pv ((aG false) s15.1))),(4,.val (.pv (.sl false 1 (([(⟨#[97]⟩:ByteArray),(⟨#[98]⟩:ByteArray),(⟨#[102,40,97,41]⟩:ByteArray),(⟨#[99]⟩:ByteArray),(⟨#[103,40,97,44,98,41]⟩:ByteArray)]).map Sx)))),(5,.val (.own 256)),(6,.val (.pv (.sl false 2 (s6.2.1.map (ag false))))),(8,.val (.pv (.sl false 2 (s11.2.1.map (ag false))))),(10,.val (.pv (I (i15:Int)))),(20000,gh 0)]) (fun i15 s15=>[(256,(2,s15.2.map (ag true)))]) (bn (St.le_demV (x:=(.own 272)) (sz:=(2)) (es:=s6.2.1.map (ag true)) 6 [] 272 SC) (bn (St.le_demV (x:=(.own 496)) (sz:=(2)) (es:=s11.2.1.map (ag true)) 8 [] 496 SC) (ao SC))) (fun i15 s15 hi h=>?_) (fun s15 h=>?_)
   ·have w:=wrap_succ (i:=i15) (by omega)
    refine S ?_
    refine aI cs (by omega) (fun cs=>S ?_)
    refine aW (b:=false) (sz:=2) (es:=s11.2.1.map (ag false)) 8 SC fun hl8=>?_; rw[au] at hl8
    replace h:=run_loop h
    refine aM h (fun i18 s18=>[(0,.box (.pv ((aG false) s18.1))),(4,.val (.pv (.sl false 1 (([(⟨#[97]⟩:ByteArray),(⟨#[98]⟩:ByteArray),(⟨#[102,40,97,41]⟩:ByteArray),(⟨#[99]⟩:ByteArray),(⟨#[103,40,97,44,98,41]⟩:ByteArray)]).map Sx)))),(5,.val (.own 256)),(6,.val (.pv (.sl false 2 (s6.2.1.map (ag false))))),(8,.val (.pv (.sl false 2 (s11.2.1.map (ag false))))),(10,.val (.pv (I (i15:Int)))),(11,.val (.pv (I (i18:Int)))),(20000,gh 0)]) (fun i18 s18=>[(256,(2,s18.2.map (ag true)))]) (ao SC) (fun i18 s18 hi h=>?_) (fun s18 h=>?_)
    ·have w:=ae (wrap_succ (i:=i18) (by omega)) w
     refine S ?_
     refine aI cs (by omega) (fun cs=>S ?_)
     obtain⟨v59,hv59,h⟩:=run_bind h
     refine av (f:=(ag false)) hv59 SC (S ?_)
     obtain⟨v63,hv63,h⟩:=run_bind h
     refine av (f:=(ag false)) hv63 SC (S ?_)
     obtain⟨v65,hv65,h⟩:=run_bind h
     refine am [false,false] (spec_l22Fill_sat hv65) SC (S ?_)
     refine ae (aL [12] [1040]) (S ?_)
     obtain⟨v68,hv68,h⟩:=run_bind h
     refine am [false,false] (spec_l16Index_sat hv68) SC (S ?_)
     refine al cs h (fun cs h=>S ?_) (fun cs h=>S ?_)
     ·refine al cs h (fun cs h=>S ?_) (fun cs h=>S ?_)
      ·obtain⟨v77,hv77,h⟩:=run_bind h
       refine a7 (r:=0) (hc:=.cv (.pv ((aG false) s18.1))) 0 [] [_] [] [(.pv (I 12))] [false] (spec_l1Cur__one_sat hv77) rfl rfl rfl SC (S ?_)
       refine al cs h (fun cs h=>S ?_) (fun cs h=>S ?_)
       ·have h:=run_some h
        refine aq ⟨_,h,?_⟩
        exact ao SWx
       ·obtain⟨v83,hv83,h⟩:=run_bind h
        refine aN (f:=(ag true)) (fun a=>aY _ a) hv83 SC SC (S ?_)
        have h:=run_some h
        refine aq ⟨_,h,?_⟩
        refine bd 1328 256 ?_
        exact ao SWx
      ·have h:=run_some h
       refine aq ⟨_,h,?_⟩
       exact ao SWx
     ·have h:=run_some h
      refine aq ⟨_,h,?_⟩
      exact ao SWx
    ·refine S ?_
     refine aJ cs (by omega) (fun cs=>S ?_)
     have h:=run_some h
     refine aq ⟨_,h,?_⟩
     exact ao SWx
   ·refine S ?_
    refine aJ cs (by omega) (fun cs=>S ?_)
    obtain⟨v85,hv85,h⟩:=run_bind h
    refine a7 (r:=0) (hc:=.cv (.pv ((aG false) s15.1))) 0 [] [_] [] [(.pv (I 3))] [false] (spec_l1Cur__one_sat hv85) rfl rfl rfl SC (S ?_)
    refine al cs h (fun cs h=>S ?_) (fun cs h=>S ?_)
    ·obtain⟨v88,hv88,h⟩:=run_bind h
     refine a7 (r:=0) (hc:=.cv (.pv ((aG false) v85.2))) 0 [] [_] [] [(.pv (.sl false 1 (([(⟨#[97]⟩:ByteArray),(⟨#[98]⟩:ByteArray),(⟨#[102,40,97,41]⟩:ByteArray),(⟨#[99]⟩:ByteArray),(⟨#[103,40,97,44,98,41]⟩:ByteArray)]).map Sx)))] [false] (spec_l22Text_sat hv88) rfl rfl rfl SC (S ?_)
     obtain⟨v91,hv91,h⟩:=run_bind h
     refine am [false,false] (spec_l16Index_sat hv91) SC (S ?_)
     refine al cs h (fun cs h=>S ?_) (fun cs h=>S ?_)
     ·refine al cs h (fun cs h=>S ?_) (fun cs h=>S ?_)
      ·obtain⟨v101,hv101,h⟩:=run_bind h
       refine aN (f:=(ag true)) (fun a=>aY _ a) hv101 SC SC (S ?_)
       cases run_some h
       exact a8 SC
      ·cases run_some h
       exact a8 SC
     ·cases run_some h
      exact a8 SC
    ·cases run_some h
     exact a8 SC

theorem spec_l1Cur__grownN_sat(n:Nat):(∀ (a0:lc) (a1:Int) (r:Tt×lc),spec_l1Cur__grownN n a0 a1=some r→SatH ah 155 [] [(I a1)] .ptr [] (.pv ((aG false) a0)) (.pv ((aG false) r.2)) ((ag true) r.1)):=by
 induction n with
 | zero=>exact fun _ _ _ h=>by simp[spec_l1Cur__grownN] at h
 | succ n ih=>
  refine fun a0 a1 r h=>?_
  obtain⟨h,cs⟩:=ar h
  rw[spec_l1Cur__grownN] at h
  refine SatH.of_k (nt:=33) (rs:=[.cell 4 43]) (n:=100000) 0 Tryz.func155 rfl rfl rfl rfl rfl (bz rfl) (by decide) (by first | exact bz rfl | exact SC) (S ?_)
  refine al cs h (fun cs h=>S ?_) (fun cs h=>S ?_)
  ·obtain⟨v13,hv13,h⟩:=run_bind h
   refine a7 (r:=0) (hc:=.cv (.pv ((aG false) a0))) (pre:=[]) (post:=[(.sl true 1 (([(⟨#[88]⟩:ByteArray),(⟨#[89]⟩:ByteArray),(⟨#[90]⟩:ByteArray),(⟨#[97]⟩:ByteArray),(⟨#[98]⟩:ByteArray),(⟨#[88]⟩:ByteArray),(⟨#[97]⟩:ByteArray)]).map Sx))]) 0 [] [_] [] [(.own 192)] [true] (SatH.give [true] (spec_l1Cur__of_sat hv13) (by first | rfl | simp only[gv_t,gv_f,gv_n,view_sl,view_agg,view_lit,views_I,views_Sx,views_repB,views_repI,az,bC,List.cons_append]) rfl) rfl rfl rfl SC (S ?_)
   cases run_some h
   exact a8 SC
  ·obtain⟨v9,hv9,h⟩:=run_bind h
   refine a7 (r:=0) (hc:=.cv (.pv ((aG false) a0))) 0 [] [_] [] [(.pv (I 3))] [false] (spec_l1Cur__one_sat hv9) rfl rfl rfl SC (S ?_)
   refine al cs h (fun cs h=>S ?_) (fun cs h=>S ?_)
   ·obtain⟨v13,hv13,h⟩:=run_bind h
    refine a7 (r:=0) (hc:=.cv (.pv ((aG false) v9.2))) (pre:=[]) (post:=[(.sl true 1 (([(⟨#[88]⟩:ByteArray),(⟨#[89]⟩:ByteArray),(⟨#[90]⟩:ByteArray),(⟨#[97]⟩:ByteArray),(⟨#[98]⟩:ByteArray),(⟨#[88]⟩:ByteArray),(⟨#[97]⟩:ByteArray)]).map Sx))]) 0 [] [_] [] [(.own 192)] [true] (SatH.give [true] (spec_l1Cur__of_sat hv13) (by first | rfl | simp only[gv_t,gv_f,gv_n,view_sl,view_agg,view_lit,views_I,views_Sx,views_repB,views_repI,az,bC,List.cons_append]) rfl) rfl rfl rfl SC (S ?_)
    cases run_some h
    exact a8 SC
   ·obtain⟨v16,hv16,h⟩:=run_bind h
    refine a7 (r:=0) (hc:=.cv (.pv ((aG false) v9.2))) 0 [] [_] [] [(.pv (I 2))] [false] (spec_l1Cur__one_sat hv16) rfl rfl rfl SC (S ?_)
    refine al cs h (fun cs h=>S ?_) (fun cs h=>S ?_)
    ·obtain⟨v20,hv20,h⟩:=run_bind h
     refine a7 (r:=0) (hc:=.cv (.pv ((aG false) v16.2))) 0 [] [_] [] [(.pv (I (IntKind.i64.wrap (a1-1))))] [false] (ih _ _ _ hv20) rfl rfl rfl SC (S ?_)
     cases run_some h
     exact a8 SC
    ·obtain⟨v26,hv26,h⟩:=run_bind h
     refine a7 (r:=0) (hc:=.cv (.pv ((aG false) v16.2))) 0 [] [_] [] [(.pv (I (IntKind.i64.wrap (a1-1))))] [false] (ih _ _ _ hv26) rfl rfl rfl SC (S ?_)
     obtain⟨v30,hv30,h⟩:=run_bind h
     refine a7 (r:=0) (hc:=.cv (.pv ((aG false) v26.2))) 0 [] [_] [] [(.pv (I (IntKind.i64.wrap (a1-1))))] [false] (ih _ _ _ hv30) rfl rfl rfl SC (S ?_)
     cases run_some h
     exact a8 SC
theorem spec_l1Cur__grown_sat{a0:lc}{a1:Int}{r:Tt×lc}(h:spec_l1Cur__grown a0 a1=some r):SatH ah 155 [] [(I a1)] .ptr [] (.pv ((aG false) a0)) (.pv ((aG false) r.2)) ((ag true) r.1):=by
 obtain⟨n,hn⟩:=lim_some h
 exact(spec_l1Cur__grownN_sat n) _ _ _ hn

theorem spec_l1Cur__term_sat{a0:lc}  {r:Tt×lc}(h:spec_l1Cur__term a0=some r):SatH ah 140 [] [] .ptr [] (.pv ((aG false) a0)) (.pv ((aG false) r.2)) ((ag true) r.1):=by
 obtain⟨h,cs⟩:=ar h
 unfold spec_l1Cur__term at h
 refine SatH.of_k (nt:=8) (rs:=[.cell 2 43]) (n:=100000) 0 Tryz.func140 rfl rfl rfl rfl rfl (bz rfl) (by decide) (by first | exact bz rfl | exact SC) (S ?_)
 obtain⟨v5,hv5,h⟩:=run_bind h
 refine a7 (r:=0) (hc:=.cv (.pv ((aG false) a0))) 0 [] [_] [] [(.pv (I 3))] [false] (spec_l1Cur__pick_sat hv5) rfl rfl rfl SC (S ?_)
 obtain⟨v7,hv7,h⟩:=run_bind h
 refine a7 (r:=0) (hc:=.cv (.pv ((aG false) v5.2))) 0 [] [_] [] [(.pv (I (IntKind.i64.wrap ((1:Int)+v5.1))))] [false] (spec_l1Cur__grown_sat hv7) rfl rfl rfl SC (S ?_)
 cases run_some h
 exact a8 SC

theorem spec_l1Cur__tower_sat{a0:lc}{a1:Int}  {r:Tt×lc}(h:spec_l1Cur__tower a0 a1=some r):SatH ah 142 [] [(I a1)] .ptr [] (.pv ((aG false) a0)) (.pv ((aG false) r.2)) ((ag true) r.1):=by
 obtain⟨h,cs⟩:=ar h
 unfold spec_l1Cur__tower at h
 refine SatH.of_k (nt:=18) (rs:=[.cell 4 43]) (n:=100000) 0 Tryz.func142 rfl rfl rfl rfl rfl (bz rfl) (by decide) (by first | exact bz rfl | exact SC) (S ?_)
 obtain⟨v8,hv8,h⟩:=run_bind h
 refine a7 (r:=0) (hc:=.cv (.pv ((aG false) a0))) (pre:=[]) (post:=[(.sl true 1 (([(⟨#[88]⟩:ByteArray),(⟨#[97]⟩:ByteArray)]).map Sx))]) 0 [] [_] [] [(.own 112)] [true] (SatH.give [true] (spec_l1Cur__of_sat hv8) (by first | rfl | simp only[gv_t,gv_f,gv_n,view_sl,view_agg,view_lit,views_I,views_Sx,views_repB,views_repI,az,bC,List.cons_append]) rfl) rfl rfl rfl SC (S ?_)
 replace h:=run_loop h
 refine Mg.whileN h (fun s2=>[(0,.box (.pv ((aG false) v8.2))),(1,.val (.pv (I s2.1))),(4,.box zab1),(5,.box (.node [(.pv (Sx s2.2.1)),(.own 9306)])),(20000,gh 0)]) (fun s2=>[(9306,(2,s2.2.2.map (ag true)))]) (bn (St.le_nilB (x:=(.node [(.pv (Sx v8.1)),(.pv (.sl true 2 []))])) 5 [1] 9306 2 NM SC SC SC) (ao SC)) (fun n2 s2 h=>?_)
 refine S ?_
 refine al cs h (fun cs h=>S ?_) (fun cs h=>S ?_)
 ·have h:=run_some h
  refine aq ⟨_,h,?_⟩
  refine bd 240 9306 ?_
  exact ao SC
 ·have h:=run_some h
  cases run_some h
  exact a8 SC

theorem spec_l1Cur__wide_sat{a0:lc}  {r:Tt×lc}(h:spec_l1Cur__wide a0=some r):SatH ah 143 [] [] .ptr [] (.pv ((aG false) a0)) (.pv ((aG false) r.2)) ((ag true) r.1):=by
 obtain⟨h,cs⟩:=ar h
 unfold spec_l1Cur__wide at h
 refine SatH.of_k (nt:=54) (rs:=[.cell 2 43]) (n:=100000) 0 Tryz.func143 rfl rfl rfl rfl rfl (bz rfl) (by decide) (by first | exact bz rfl | exact SC) (S ?_)
 replace h:=run_loop h
 refine aM h (fun i3 s3=>[(0,.box (.pv ((aG false) a0))),(2,.box zab1),(3,.box (.node [(.pv (Sx (⟨#[103]⟩:ByteArray))),(.own 9309)])),(4,.val (.pv (I (i3:Int)))),(20000,gh 0)]) (fun i3 s3=>[(9309,(2,s3.map (ag true)))]) (bn (St.le_nilB (x:=(.node [(.pv (Sx (⟨#[103]⟩:ByteArray))),(.pv (.sl true 2 []))])) 3 [1] 9309 2 NM SC SC SC) (ao SC)) (fun i3 s3 hi h=>?_) (fun s3 h=>?_)
 ·have w:=wrap_succ (i:=i3) (by omega)
  refine S ?_
  refine aI cs (by omega) (fun cs=>S ?_)
  replace h:=run_loop h
  refine aM h (fun i7 s7=>[(0,.box (.pv ((aG false) a0))),(2,.box zab1),(3,.box (.node [(.pv (Sx (⟨#[103]⟩:ByteArray))),(.own 9309)])),(4,.val (.pv (I (i3:Int)))),(5,.box (.node [(.pv (Sx (⟨#[104]⟩:ByteArray))),(.own 9321)])),(6,.val (.pv (I (i7:Int)))),(20000,gh 0)]) (fun i7 s7=>[(9309,(2,s3.map (ag true))),(9321,(2,s7.map (ag true)))]) (bn (St.le_nilB (x:=(.node [(.pv (Sx (⟨#[104]⟩:ByteArray))),(.pv (.sl true 2 []))])) 5 [1] 9321 2 NM SC SC SC) (ao SC)) (fun i7 s7 hi h=>?_) (fun s7 h=>?_)
  ·have w:=ae (wrap_succ (i:=i7) (by omega)) w
   refine S ?_
   refine aI cs (by omega) (fun cs=>S ?_)
   obtain⟨v23,hv23,h⟩:=run_bind h
   refine aN (f:=(ag true)) (fun a=>aY _ a) hv23 SC SC (S ?_)
   have h:=run_some h
   refine aq ⟨_,h,?_⟩
   refine bd 368 9321 ?_
   exact ao SWx
  ·refine S ?_
   refine aJ cs (by omega) (fun cs=>S ?_)
   obtain⟨v29,hv29,h⟩:=run_bind h
   refine aN (f:=(ag true)) (fun a=>aY _ a) hv29 SC SC (S ?_)
   have h:=run_some h
   refine aq ⟨_,h,?_⟩
   refine bd 464 9309 ?_
   exact ao SWx
 ·refine S ?_
  refine aJ cs (by omega) (fun cs=>S ?_)
  obtain⟨v32,hv32,h⟩:=run_bind h
  refine a7 (r:=0) (hc:=.cv (.pv ((aG false) a0))) 0 [] [_] [] [(.pv (I 2))] [false] (spec_l1Cur__one_sat hv32) rfl rfl rfl SC (S ?_)
  refine al cs h (fun cs h=>S ?_) (fun cs h=>S ?_)
  ·obtain⟨v35,hv35,h⟩:=run_bind h
   refine SlcOH.mk (f:=(ag true)) hv35 SC (S ?_)
   obtain⟨v38,hv38,h⟩:=run_bind h
   refine a7 (r:=0) (hc:=.cv (.pv ((aG false) v32.2))) 0 [] [_] [] [(.pv (I 2))] [false] (spec_l1Cur__one_sat hv38) rfl rfl rfl SC (S ?_)
   refine al cs h (fun cs h=>S ?_) (fun cs h=>S ?_)
   ·refine al cs h (fun cs h=>S ?_) (fun cs h=>S ?_)
    ·obtain⟨v51,hv51,h⟩:=run_bind h
     refine aN (f:=(ag true)) (fun a=>aY _ a) hv51 SC SC (S ?_)
     cases run_some h
     exact a8 SC
    ·cases run_some h
     exact a8 SC
   ·cases run_some h
    exact a8 SC
  ·obtain⟨v38,hv38,h⟩:=run_bind h
   refine a7 (r:=0) (hc:=.cv (.pv ((aG false) v32.2))) 0 [] [_] [] [(.pv (I 2))] [false] (spec_l1Cur__one_sat hv38) rfl rfl rfl SC (S ?_)
   refine al cs h (fun cs h=>S ?_) (fun cs h=>S ?_)
   ·refine al cs h (fun cs h=>S ?_) (fun cs h=>S ?_)
    ·obtain⟨v51,hv51,h⟩:=run_bind h
     refine aN (f:=(ag true)) (fun a=>aY _ a) hv51 SC SC (S ?_)
     cases run_some h
     exact a8 SC
    ·cases run_some h
     exact a8 SC
   ·cases run_some h
    exact a8 SC

theorem spec_l1Cur__anyTerm_sat{a0:lc}  {r:Tt×lc}(h:spec_l1Cur__anyTerm a0=some r):SatH ah 113 [] [] .ptr [] (.pv ((aG false) a0)) (.pv ((aG false) r.2)) ((ag true) r.1):=by
 obtain⟨h,cs⟩:=ar h
 unfold spec_l1Cur__anyTerm at h
 refine SatH.of_kf (nt:=57) (rs:=[.cell 2 43]) (n:=100000) 0 Tryz.func113 rfl rfl rfl rfl rfl (bz rfl) (by decide) (by first | exact bz rfl | exact SC) (S ?_)
 refine aD (S ?_)
 refine aD (S ?_)
 obtain⟨v5,hv5,h⟩:=run_bind h
 refine a7 (r:=0) (hc:=.cv (.pv ((aG false) a0))) 0 [] [] [] [] [] (spec_l1Cur__term_sat hv5) rfl rfl rfl SC (S ?_)
 refine aD (S ?_)
 obtain⟨v7,hv7,h⟩:=run_bind h
 refine a7 (r:=0) (hc:=.cv (.pv ((aG false) v5.2))) 0 [] [_] [] [(.pv (I 24))] [false] (spec_l1Cur__pick_sat hv7) rfl rfl rfl SC (S ?_)
 refine aD (S ?_)
 refine al cs h (fun cs h=>S ?_) (fun cs h=>S ?_)
 ·refine aD (S ?_)
  obtain⟨v12,hv12,h⟩:=run_bind h
  refine a7 (r:=0) (hc:=.cv (.pv ((aG false) v7.2))) (pre:=[]) (post:=[(.sl true 1 (([(⟨#[]⟩:ByteArray),(⟨#[116,114,117,101]⟩:ByteArray),(⟨#[116,114,117,116,104]⟩:ByteArray),(⟨#[105,102]⟩:ByteArray),(⟨#[88,121,122,57]⟩:ByteArray),(⟨#[88,121,122,57,57]⟩:ByteArray),(⟨#[120,65]⟩:ByteArray),(⟨#[97,95,98]⟩:ByteArray),(⟨#[97,98,99,100,101,102]⟩:ByteArray),(⟨#[97,98,99,100,101,102,103]⟩:ByteArray),(⟨#[95,97]⟩:ByteArray),(⟨#[57]⟩:ByteArray),(⟨#[88,95]⟩:ByteArray),(⟨#[61]⟩:ByteArray)]).map Sx))]) 0 [] [_] [] [(.own 176)] [true] (SatH.give [true] (spec_l1Cur__of_sat hv12) (by first | rfl | simp only[gv_t,gv_f,gv_n,view_sl,view_agg,view_lit,views_I,views_Sx,views_repB,views_repI,az,bC,List.cons_append]) rfl) rfl rfl rfl SC (S ?_)
  refine aD (S ?_)
  cases run_some h
  exact a8 SC
 ·refine aD (S ?_)
  refine al cs h (fun cs h=>S ?_) (fun cs h=>S ?_)
  ·refine aD (S ?_)
   obtain⟨v18,hv18,h⟩:=run_bind h
   refine a7 (r:=0) (hc:=.cv (.pv ((aG false) v7.2))) 0 [] [_] [] [(.pv (I 3))] [false] (spec_l1Cur__pick_sat hv18) rfl rfl rfl SC (S ?_)
   obtain⟨v20,hv20,h⟩:=run_bind h
   refine a7 (r:=0) (hc:=.cv (.pv ((aG false) v18.2))) 0 [] [_] [] [(.pv (I (IntKind.i64.wrap ((7:Int)+v18.1))))] [false] (spec_l1Cur__tower_sat hv20) rfl rfl rfl SC (S ?_)
   cases run_some h
   exact a8 SC
  ·refine aD (S ?_)
   refine al cs h (fun cs h=>S ?_) (fun cs h=>S ?_)
   ·refine aD (S ?_)
    obtain⟨v24,hv24,h⟩:=run_bind h
    refine a7 (r:=0) (hc:=.cv (.pv ((aG false) v7.2))) 0 [] [] [] [] [] (spec_l1Cur__wide_sat hv24) rfl rfl rfl SC (S ?_)
    cases run_some h
    exact a8 SC
   ·refine aD (S ?_)
    refine al cs h (fun cs h=>S ?_) (fun cs h=>S ?_)
    ·refine MgF.drw (ae mixed (S ?_))
     obtain⟨v30,hv30,h⟩:=run_bind h
     refine a7 (r:=0) (hc:=.cv (.pv ((aG false) v7.2))) 0 [] [] [] [] [] (spec_l1Cur__term_sat hv30) rfl rfl rfl SC (S ?_)
     obtain⟨v32,hv32,h⟩:=run_bind h
     refine a7 (r:=0) (hc:=.cv (.pv ((aG false) v30.2))) 0 [] [] [] [] [] (spec_l1Cur__term_sat hv32) rfl rfl rfl SC (S ?_)
     obtain⟨v34,hv34,h⟩:=run_bind h
     refine a7 (r:=0) (hc:=.cv (.pv ((aG false) v32.2))) 0 [] [] [] [] [] (spec_l1Cur__term_sat hv34) rfl rfl rfl SC (S ?_)
     obtain⟨v36,hv36,h⟩:=run_bind h
     refine aN (f:=(ag true)) (fun a=>aY _ a) hv36 SC SC (S ?_)
     refine ae (aL [] [480,512,544,560,576]) (S ?_)
     refine aD (S ?_)
     cases run_some h
     exact a8 SC
    ·refine aD (S ?_)
     refine al cs h (fun cs h=>S ?_) (fun cs h=>S ?_)
     ·refine aD (S ?_)
      refine al cs h (fun cs h=>S ?_) (fun cs h=>S ?_)
      ·obtain⟨v48,hv48,h⟩:=run_bind h
       obtain⟨v53,hv53,h⟩:=run_bind h
       obtain⟨xs,hxs⟩:=idx0 hv53
       have hx0:v5.1.Args.map (ag true)=.agg [Sx v53.Name,.sl true 2 (v53.Args.map (ag true))]::xs.map (ag true):=by rw[hxs,List.map_cons,Tt.pv_u]
       refine MgF.split (sz:=2) (es:=v5.1.Args.map (ag true)) (sz':=2) (es':=v53.Args.map (ag true)) 80 0 9700 20001 [1] (fun v=>.agg [Sx v53.Name,.lit v]::xs.map (ag true)) (fun v=>by rw[hx0]; rfl) SC (by rw[hx0]; exact⟨Nat.succ_pos _,rfl,rfl⟩) (bz rfl) (S fun u=>?_)
       refine MgF.drw (ae mixed (S ?_))
       refine a7 (r:=0) (hc:=.cv (.pv ((aG false) v7.2))) (pre:=[]) (post:=[(.sl true 1 (([(⟨#[61]⟩:ByteArray),(⟨#[]⟩:ByteArray),(⟨#[81,49]⟩:ByteArray),(⟨#[98,50]⟩:ByteArray)]).map Sx))]) 0 [] [_] [] [(.own 752)] [true] (SatH.give [true] (spec_l1Cur__of_sat hv48) (by first | rfl | simp only[gv_t,gv_f,gv_n,view_sl,view_agg,view_lit,views_I,views_Sx,views_repB,views_repI,az,bC,List.cons_append]) rfl) rfl rfl rfl SC (S ?_)
       refine IdxH.raw (by simp only[List.length_cons]; omega) (S ?_)
       refine EldH.hd (S ?_)
       refine IdxH.raw (by simp only[List.length_cons]; omega) (S ?_)
       refine EldH.hd (S ?_)
       refine ae (aL [] [752]) (S ?_)
       refine MgF.meld (sz:=2) (es:=.agg [Sx v48.1,.lit u]::xs.map (ag true)) (sz':=2) (es':=v53.Args.map (ag true)) 80 0 9700 20001 [1] u ((v5.1.Args.set (0:Int).toNat (Tt.mk v48.1 v53.Args)).map (ag true)) (by rw[hxs]; show _=List.map (ag true) (Tt.mk v48.1 v53.Args::xs); rw[List.map_cons,Tt.pv_u]; rfl) SC (by decide) ⟨Nat.succ_pos _,rfl,rfl⟩ (bz rfl) (S ?_)
       refine aD (S ?_)
       cases run_some h
       exact a8 SC
      ·refine aD (S ?_)
       cases run_some h
       exact a8 SC
     ·refine aD (S ?_)
      cases run_some h
      exact a8 SC


theorem spec_l1NumN_sat(n:Nat):(∀ (a0:Int) (r:ByteArray),spec_l1NumN n a0=some r→Sat ah 114 [(I a0)] (Sx r)):=by
 induction n with
 | zero=>exact fun _ _ h=>by simp[spec_l1NumN] at h
 | succ n ih=>
  refine fun a0 r h=>?_
  obtain⟨h,cs⟩:=ar h
  rw[spec_l1NumN] at h
  refine aw (nt:=25) (rs:=[.tmp 2]) (n:=100000) Tryz.func114 rfl rfl rfl rfl (by simp) (S ?_)
  refine al cs h (fun cs h=>S ?_) (fun cs h=>S ?_)
  ·obtain⟨v7,hv7,h⟩:=run_bind h
   refine am [false] (ih _ _ hv7) SC (S ?_)
   obtain⟨v8,hv8,h⟩:=run_bind h
   refine SappH.mk hv8 (S ?_)
   cases run_some h
   exact aj SC
  ·refine al cs h (fun cs h=>S ?_) (fun cs h=>S ?_)
   ·obtain⟨v14,hv14,h⟩:=run_bind h
    refine SslcH.mk hv14 (S ?_)
    cases run_some h
    exact aj SC
   ·obtain⟨v16,hv16,h⟩:=run_bind h
    refine quoH.mk hv16 (S ?_)
    obtain⟨v17,hv17,h⟩:=run_bind h
    refine am [false] (ih _ _ hv17) SC (S ?_)
    obtain⟨v19,hv19,h⟩:=run_bind h
    refine remH.mk hv19 (S ?_)
    obtain⟨v21,hv21,h⟩:=run_bind h
    refine remH.mk hv21 (S ?_)
    obtain⟨v23,hv23,h⟩:=run_bind h
    refine SslcH.mk hv23 (S ?_)
    obtain⟨v24,hv24,h⟩:=run_bind h
    refine SappH.mk hv24 (S ?_)
    refine ae (aL [] []) (S ?_)
    cases run_some h
    exact aj SC
theorem spec_l1Num_sat{a0:Int}{r:ByteArray}(h:spec_l1Num a0=some r):Sat ah 114 [(I a0)] (Sx r):=by
 obtain⟨n,hn⟩:=lim_some h
 exact(spec_l1NumN_sat n) _ _ hn

theorem spec_l1Cur__anyTerms22_sat{a0:lc}  {r:(List Tt)×lc}(h:spec_l1Cur__anyTerms22 a0=some r):SatH ah 77 [] [] .ptr [] (.pv ((aG false) a0)) (.pv ((aG false) r.2)) (.sl true 2 (r.1.map (ag false))):=by
 obtain⟨h,cs⟩:=ar h
 unfold spec_l1Cur__anyTerms22 at h
 refine SatH.of_ki (nt:=37) (rs:=[.tmp 2]) (n:=100000) 0 Tryz.func77 rfl rfl rfl rfl rfl (bz rfl) (by decide) (by first | exact bz rfl | exact SC) (S ?_)
 refine aK (S ?_)
 refine bF (Nat.le_of_eq rfl) (S ?_)
 refine aK (S ?_)
 refine aK (S ?_)
 obtain⟨v5,hv5,h⟩:=run_bind h
 refine a7 (r:=0) (hc:=.cv (.pv ((aG false) a0))) 0 [] [] [] [] [] (spec_l1Cur__terms22_sat hv5) rfl rfl rfl SC (S ?_)
 refine aK (S ?_)
 refine bF (Nat.le_of_eq rfl) (S ?_)
 refine aK (S ?_)
 refine aK (S ?_)
 obtain⟨v7,hv7,h⟩:=run_bind h
 refine a7 (r:=0) (hc:=.cv (.pv ((aG false) v5.2))) 0 [] [_] [] [(.pv (I 24))] [false] (spec_l1Cur__pick_sat hv7) rfl rfl rfl SC (S ?_)
 refine bF (Nat.le_of_eq rfl) (S ?_)
 refine aK (S ?_)
 refine aK (S ?_)
 refine bF (Nat.le_of_eq rfl) (S ?_)
 refine al cs h (fun cs h=>S ?_) (fun cs h=>S ?_)
 ·refine aK (S ?_)
  refine aK (S ?_)
  refine aK (S ?_)
  obtain⟨v12,hv12,h⟩:=run_bind h
  refine a7 (r:=0) (hc:=.cv (.pv ((aG false) v7.2))) 0 [] [] [] [] [] (spec_l1Cur__anyTerm_sat hv12) rfl rfl rfl SC (S ?_)
  refine aK (S ?_)
  refine aK (S ?_)
  obtain⟨v14,hv14,h⟩:=run_bind h
  refine aN (f:=(ag true)) (fun a=>aY _ a) hv14 SC SC (S ?_)
  refine aK (S ?_)
  refine bF (Nat.le_of_eq rfl) (S ?_)
  refine VSeq.els (sz:=2) (es:=v14.map (ag true)) 224 SC (S ?_)
  refine aK (S ?_)
  refine aK (S ?_)
  refine bF (Nat.le_of_eq rfl) (S ?_)
  cases run_some h
  exact a8 SC
 ·refine aK (S ?_)
  refine aK (S ?_)
  refine bF (Nat.le_of_eq rfl) (S ?_)
  refine al cs h (fun cs h=>S ?_) (fun cs h=>S ?_)
  ·refine aK (S ?_)
   refine aK (S ?_)
   refine VSeq.els (sz:=2) (es:=v5.1.map (ag true)) 80 SC (S ?_)
   obtain⟨v19,hv19,h⟩:=run_bind h
   refine VSeq.appS (c:=80) (f:=(ag false)) hv19 rfl rfl rfl rfl (fun a=>by rw[Tt.pv_u]; rfl) (fun a=>aY _ a) SC (S ?_)
   refine aK (S ?_)
   refine bF (Nat.le_of_eq rfl) (S ?_)
   refine aK (S ?_)
   refine aK (S ?_)
   refine bF (Nat.le_of_eq rfl) (S ?_)
   cases run_some h
   exact a8 SC
  ·refine aK (S ?_)
   refine aK (S ?_)
   refine bF (Nat.le_of_eq rfl) (S ?_)
   refine al cs h (fun cs h=>S ?_) (fun cs h=>S ?_)
   ·refine aK (S ?_)
    refine aK (S ?_)
    refine bF (Nat.le_of_eq rfl) (S ?_)
    refine aK (S ?_)
    refine aK (S ?_)
    refine bF (Nat.le_of_eq rfl) (S ?_)
    cases run_some h
    exact a8 SC
   ·refine aK (S ?_)
    refine aK (S ?_)
    refine bF (Nat.le_of_eq rfl) (S ?_)
    refine al cs h (fun cs h=>S ?_) (fun cs h=>S ?_)
    ·replace h:=run_loop h
     refine MgI.whileN h (fun s10=>[(0,.box (.pv ((aG false) v7.2))),(3,.val (.own 80)),(20000,gh 0)]) (fun s10=>[(80,(2,s10.map (ag true)))]) (ao SC) (fun n10 s10 h=>?_)
     refine S ?_
     refine aK (S ?_)
     refine aK (S ?_)
     refine aK (S ?_)
     refine bF (Nat.le_of_eq rfl) (S ?_)
     refine al cs h (fun cs h=>S ?_) (fun cs h=>S ?_)
     ·refine aK (S ?_)
      refine aK (S ?_)
      refine aK (S ?_)
      refine aK (S ?_)
      obtain⟨v31,hv31,h⟩:=run_bind h
      refine am [false] (spec_l1Num_sat hv31) SC (S ?_)
      refine aK (S ?_)
      obtain⟨v32,hv32,h⟩:=run_bind h
      refine SappH.mk hv32 (S ?_)
      refine aK (S ?_)
      refine aK (S ?_)
      refine aK (S ?_)
      obtain⟨v35,hv35,h⟩:=run_bind h
      refine aN (f:=(ag true)) (fun a=>aY _ a) hv35 SC SC (S ?_)
      refine aK (S ?_)
      refine bF (Nat.le_of_eq rfl) (S ?_)
      have h:=run_some h
      refine aq ⟨_,h,?_⟩
      refine bd 560 80 ?_
      exact ao SC
     ·have h:=run_some h
      refine VSeq.els (sz:=2) (es:=s10.map (ag true)) 80 SC (S ?_)
      refine aK (S ?_)
      refine aK (S ?_)
      refine bF (Nat.le_of_eq rfl) (S ?_)
      cases run_some h
      exact a8 SC
    ·refine VSeq.els (sz:=2) (es:=v5.1.map (ag true)) 80 SC (S ?_)
     refine aK (S ?_)
     refine aK (S ?_)
     refine bF (Nat.le_of_eq rfl) (S ?_)
     cases run_some h
     exact a8 SC

theorem spec_DrawGeneralizeTerms_sat{a0:List Int}  {r:List Tt}(h:spec_DrawGeneralizeTerms a0=some r):Sat ah 44 [(.sl false 1 (a0.map (Ik .u8)))] (.sl true 2 (r.map (ag false))):=by
 obtain⟨h,cs⟩:=ar h
 unfold spec_DrawGeneralizeTerms at h
 refine aw (nt:=9) (rs:=[.tmp 2]) (n:=100000) Tryz.func44 rfl rfl rfl rfl (by simp) (S ?_)
 obtain⟨v8,hv8,h⟩:=run_bind h
 refine a7 (r:=6) (hc:=.cv (.node [(.pv (.sl false 1 (a0.map (Ik .u8)))),(.pv (I 0)),(.pv ((Ik .u64) (0:Int)))])) 0 [] [] [] [] [] (spec_l1Cur__anyTerms22_sat hv8) rfl rfl rfl SC (S ?_)
 cases run_some h
 exact aj SC

theorem spec_DrawSmallestDecomposition_sat{a0:List Int}  {r:List Tt}(h:spec_DrawSmallestDecomposition a0=some r):Sat ah 18 [(.sl false 1 (a0.map (Ik .u8)))] (.sl true 2 (r.map (ag false))):=by
 obtain⟨h,cs⟩:=ar h
 unfold spec_DrawSmallestDecomposition at h
 refine aw (nt:=5) (rs:=[.tmp 2]) (n:=100000) Tryz.func18 rfl rfl rfl rfl (by simp) (S ?_)
 obtain⟨v4,hv4,h⟩:=run_bind h
 refine am [false] (spec_DrawGeneralizeTerms_sat hv4) SC (S ?_)
 cases run_some h
 exact aj SC

theorem impl_sizeN_sat(n:Nat):(∀ (a0:Tt) (r:Int),impl_sizeN n a0=some r→Sat ah 125 [((ag false) a0)] (I r)):=by
 induction n with
 | zero=>exact fun _ _ h=>by simp[impl_sizeN] at h
 | succ n ih=>
  refine fun a0 r h=>?_
  obtain⟨h,cs⟩:=ar h
  rw[impl_sizeN] at h
  refine aw (nt:=22) (rs:=[.tmp 2]) (n:=100000) Tryz.func125 rfl rfl rfl rfl (by simp) (S ?_)
  refine aW (b:=false) (sz:=2) (es:=a0.Args.map (ag false)) 7 SC fun hl7=>?_; rw[au] at hl7
  replace h:=run_loop h
  refine aM h (fun i3 s3=>[(3,.val (.pv (I s3))),(7,.val (.pv (.sl false 2 (a0.Args.map (ag false))))),(8,.val (.pv (I (a0.Args.length:Int)))),(9,.val (.pv (I (i3:Int))))]) (fun i3 s3=>[]) (ao SC) (fun i3 s3 hi h=>?_) (fun s3 h=>?_)
  ·have w:=wrap_succ (i:=i3) (by omega)
   refine S ?_
   refine aI cs (by omega) (fun cs=>S ?_)
   obtain⟨v11,hv11,h⟩:=run_bind h
   refine av (f:=(ag false)) hv11 SC (S ?_)
   refine al cs h (fun cs h=>S ?_) (fun cs h=>S ?_)
   ·cases run_some h
    exact aj SC
   ·obtain⟨v18,hv18,h⟩:=run_bind h
    refine am [false] (ih _ _ hv18) SC (S ?_)
    have h:=run_some h
    refine aq ⟨_,h,?_⟩
    exact ao SWx
  ·refine S ?_
   refine aJ cs (by omega) (fun cs=>S ?_)
   cases run_some h
   exact aj SC
theorem impl_size_sat{a0:Tt}{r:Int}(h:impl_size a0=some r):Sat ah 125 [((ag false) a0)] (I r):=by
 obtain⟨n,hn⟩:=lim_some h
 exact(impl_sizeN_sat n) _ _ hn

theorem impl_depthN_sat(n:Nat):(∀ (a0:Tt) (r:Int),impl_depthN n a0=some r→Sat ah 126 [((ag false) a0)] (I r)):=by
 induction n with
 | zero=>exact fun _ _ h=>by simp[impl_depthN] at h
 | succ n ih=>
  refine fun a0 r h=>?_
  obtain⟨h,cs⟩:=ar h
  rw[impl_depthN] at h
  refine aw (nt:=20) (rs:=[.tmp 2]) (n:=100000) Tryz.func126 rfl rfl rfl rfl (by simp) (S ?_)
  refine aW (b:=false) (sz:=2) (es:=a0.Args.map (ag false)) 7 SC fun hl7=>?_; rw[au] at hl7
  replace h:=run_loop h
  refine aM h (fun i3 s3=>[(3,.val (.pv (I s3))),(7,.val (.pv (.sl false 2 (a0.Args.map (ag false))))),(8,.val (.pv (I (a0.Args.length:Int)))),(9,.val (.pv (I (i3:Int))))]) (fun i3 s3=>[]) (ao SC) (fun i3 s3 hi h=>?_) (fun s3 h=>?_)
  ·have w:=wrap_succ (i:=i3) (by omega)
   refine S ?_
   refine aI cs (by omega) (fun cs=>S ?_)
   obtain⟨v11,hv11,h⟩:=run_bind h
   refine av (f:=(ag false)) hv11 SC (S ?_)
   obtain⟨v15,hv15,h⟩:=run_bind h
   refine am [false] (ih _ _ hv15) SC (S ?_)
   have h:=run_some h
   refine aq ⟨_,h,?_⟩
   exact ao SWx
  ·refine S ?_
   refine aJ cs (by omega) (fun cs=>S ?_)
   cases run_some h
   exact aj SC
theorem impl_depth_sat{a0:Tt}{r:Int}(h:impl_depth a0=some r):Sat ah 126 [((ag false) a0)] (I r):=by
 obtain⟨n,hn⟩:=lim_some h
 exact(impl_depthN_sat n) _ _ hn

theorem impl_isSmall_sat{a0:Tt}  {r:Bool}(h:impl_isSmall a0=some r):Sat ah 95 [((ag false) a0)] (B r):=by
 obtain⟨h,cs⟩:=ar h
 unfold impl_isSmall at h
 refine aw (nt:=11) (rs:=[.tmp 2]) (n:=100000) Tryz.func95 rfl rfl rfl rfl (by simp) (S ?_)
 obtain⟨v4,hv4,h⟩:=run_bind h
 refine am [false] (impl_size_sat hv4) SC (S ?_)
 refine al cs h (fun cs h=>S ?_) (fun cs h=>S ?_)
 ·obtain⟨v8,hv8,h⟩:=run_bind h
  refine am [false] (impl_depth_sat hv8) SC (S ?_)
  cases run_some h
  exact aj SC
 ·cases run_some h
  exact aj SC

theorem impl_isUpper_sat{a0:Int}  {r:Bool}(h:impl_isUpper a0=some r):Sat ah 108 [((Ik .u8) a0)] (B r):=by
 obtain⟨h,cs⟩:=ar h
 unfold impl_isUpper at h
 refine aw (nt:=9) (rs:=[.tmp 2]) (n:=100000) Tryz.func108 rfl rfl rfl rfl (by simp) (S ?_)
 refine al cs h (fun cs h=>S ?_) (fun cs h=>S ?_)
 ·cases run_some h
  exact aj SC
 ·cases run_some h
  exact aj SC

theorem impl_isLower_sat{a0:Int}  {r:Bool}(h:impl_isLower a0=some r):Sat ah 149 [((Ik .u8) a0)] (B r):=by
 obtain⟨h,cs⟩:=ar h
 unfold impl_isLower at h
 refine aw (nt:=9) (rs:=[.tmp 2]) (n:=100000) Tryz.func149 rfl rfl rfl rfl (by simp) (S ?_)
 refine al cs h (fun cs h=>S ?_) (fun cs h=>S ?_)
 ·cases run_some h
  exact aj SC
 ·cases run_some h
  exact aj SC

theorem impl_isDigit_sat{a0:Int}  {r:Bool}(h:impl_isDigit a0=some r):Sat ah 150 [((Ik .u8) a0)] (B r):=by
 obtain⟨h,cs⟩:=ar h
 unfold impl_isDigit at h
 refine aw (nt:=9) (rs:=[.tmp 2]) (n:=100000) Tryz.func150 rfl rfl rfl rfl (by simp) (S ?_)
 refine al cs h (fun cs h=>S ?_) (fun cs h=>S ?_)
 ·cases run_some h
  exact aj SC
 ·cases run_some h
  exact aj SC

theorem impl_within_sat{a0:Int}{a1:Int}{a2:Int}  {r:Bool}(h:impl_within a0 a1 a2=some r):Sat ah 31 [(I a0),(I a1),(I a2)] (B r):=by
 obtain⟨h,cs⟩:=ar h
 unfold impl_within at h
 refine aw (nt:=15) (rs:=[.tmp 6]) (n:=100000) Tryz.func31 rfl rfl rfl rfl (by simp) (S ?_)
 refine al cs h (fun cs h=>S ?_) (fun cs h=>S ?_)
 ·cases run_some h
  exact aj SC
 ·cases run_some h
  exact aj SC

theorem impl_isVariable_sat{a0:ByteArray}  {r:Bool}(h:impl_isVariable a0=some r):Sat ah 127 [(Sx a0)] (B r):=by
 obtain⟨h,cs⟩:=ar h
 unfold impl_isVariable at h
 refine aw (nt:=40) (rs:=[.tmp 2]) (n:=100000) Tryz.func127 rfl rfl rfl rfl (by simp) (S ?_)
 obtain⟨N2,hN2,h⟩:=run_bind h
 obtain⟨hN2a,hN2b⟩:=bnd_some hN2
 replace h:=run_loop h
 refine aM h (fun i2 s2=>[(0,.val (.pv (Sx a0))),(5,.val (.pv (I (a0.size:Int)))),(6,.val (.pv (I (i2:Int))))]) (fun i2 s2=>[]) (ao SC) (fun i2 s2 hi h=>?_) (fun s2 h=>?_)
 ·have w:=wrap_succ (i:=i2) (by omega)
  refine S ?_
  refine aI cs (by omega) (fun cs=>S ?_)
  refine al cs h (fun cs h=>S ?_) (fun cs h=>S ?_)
  ·obtain⟨v14,hv14,h⟩:=run_bind h
   refine bp hv14 (S ?_)
   obtain⟨v15,hv15,h⟩:=run_bind h
   refine am [false] (impl_isUpper_sat hv15) SC (S ?_)
   refine al cs h (fun cs h=>S ?_) (fun cs h=>S ?_)
   ·refine al cs h (fun cs h=>S ?_) (fun cs h=>S ?_)
    ·obtain⟨v24,hv24,h⟩:=run_bind h
     refine bp hv24 (S ?_)
     obtain⟨v25,hv25,h⟩:=run_bind h
     refine am [false] (impl_isLower_sat hv25) SC (S ?_)
     refine al cs h (fun cs h=>S ?_) (fun cs h=>S ?_)
     ·have h:=run_some h
      refine aq ⟨_,h,?_⟩
      exact ao SWx
     ·obtain⟨v31,hv31,h⟩:=run_bind h
      refine bp hv31 (S ?_)
      obtain⟨v32,hv32,h⟩:=run_bind h
      refine am [false] (impl_isDigit_sat hv32) SC (S ?_)
      refine al cs h (fun cs h=>S ?_) (fun cs h=>S ?_)
      ·have h:=run_some h
       refine aq ⟨_,h,?_⟩
       exact ao SWx
      ·cases run_some h
       exact aj SC
    ·have h:=run_some h
     refine aq ⟨_,h,?_⟩
     exact ao SWx
   ·cases run_some h
    exact aj SC
  ·refine al cs h (fun cs h=>S ?_) (fun cs h=>S ?_)
   ·obtain⟨v24,hv24,h⟩:=run_bind h
    refine bp hv24 (S ?_)
    obtain⟨v25,hv25,h⟩:=run_bind h
    refine am [false] (impl_isLower_sat hv25) SC (S ?_)
    refine al cs h (fun cs h=>S ?_) (fun cs h=>S ?_)
    ·have h:=run_some h
     refine aq ⟨_,h,?_⟩
     exact ao SWx
    ·obtain⟨v31,hv31,h⟩:=run_bind h
     refine bp hv31 (S ?_)
     obtain⟨v32,hv32,h⟩:=run_bind h
     refine am [false] (impl_isDigit_sat hv32) SC (S ?_)
     refine al cs h (fun cs h=>S ?_) (fun cs h=>S ?_)
     ·have h:=run_some h
      refine aq ⟨_,h,?_⟩
      exact ao SWx
     ·cases run_some h
      exact aj SC
   ·have h:=run_some h
    refine aq ⟨_,h,?_⟩
    exact ao SWx
 ·refine S ?_
  refine aJ cs (by omega) (fun cs=>S ?_)
  obtain⟨v39,hv39,h⟩:=run_bind h
  refine am [false,false,false] (impl_within_sat hv39) SC (S ?_)
  cases run_some h
  exact aj SC

theorem impl_reserved_sat   {r:List ByteArray}(h:impl_reserved  =some r):Sat ah 151 [] (.sl true 1 (r.map Sx)):=by
 obtain⟨h,cs⟩:=ar h
 unfold impl_reserved at h
 refine aw (nt:=2) (rs:=[.tmp 0]) (n:=100000) Tryz.func151 rfl rfl rfl rfl (by simp) (S ?_)
 cases run_some h
 exact aj SC

theorem slices_Index_Sstring_string_sat{a0:List ByteArray}{a1:ByteArray}  {r:Int}(h:slices_Index_Sstring_string a0 a1=some r):Sat ah 130 [(.sl false 1 (a0.map Sx)),(Sx a1)] (I r):=by
 obtain⟨h,cs⟩:=ar h
 unfold slices_Index_Sstring_string at h
 refine aw (nt:=19) (rs:=[.tmp 4]) (n:=100000) Tryz.func130 rfl rfl rfl rfl (by simp) (S ?_)
 refine aW (b:=false) (sz:=1) (es:=a0.map Sx) 0 SC fun hl0=>?_; rw[au] at hl0
 replace h:=run_loop h
 refine aM h (fun i2 s2=>[(0,.val (.pv (.sl false 1 (a0.map Sx)))),(1,.val (.pv (Sx a1))),(7,.val (.pv (I (a0.length:Int)))),(8,.val (.pv (I (i2:Int))))]) (fun i2 s2=>[]) (ao SC) (fun i2 s2 hi h=>?_) (fun s2 h=>?_)
 ·have w:=wrap_succ (i:=i2) (by omega)
  refine S ?_
  refine aI cs (by omega) (fun cs=>S ?_)
  obtain⟨v14,hv14,h⟩:=run_bind h
  refine av (f:=Sx) hv14 SC (S ?_)
  refine al cs h (fun cs h=>S ?_) (fun cs h=>S ?_)
  ·cases run_some h
   exact aj SC
  ·have h:=run_some h
   refine aq ⟨_,h,?_⟩
   exact ao SWx
 ·refine S ?_
  refine aJ cs (by omega) (fun cs=>S ?_)
  cases run_some h
  exact aj SC

theorem slices_Contains_Sstring_string_sat{a0:List ByteArray}{a1:ByteArray}  {r:Bool}(h:slices_Contains_Sstring_string a0 a1=some r):Sat ah 97 [(.sl false 1 (a0.map Sx)),(Sx a1)] (B r):=by
 obtain⟨h,cs⟩:=ar h
 unfold slices_Contains_Sstring_string at h
 refine aw (nt:=9) (rs:=[.tmp 4]) (n:=100000) Tryz.func97 rfl rfl rfl rfl (by simp) (S ?_)
 obtain⟨v7,hv7,h⟩:=run_bind h
 refine am [false,false] (slices_Index_Sstring_string_sat hv7) SC (S ?_)
 cases run_some h
 exact aj SC

theorem impl_isSymbol_sat{a0:ByteArray}  {r:Bool}(h:impl_isSymbol a0=some r):Sat ah 128 [(Sx a0)] (B r):=by
 obtain⟨h,cs⟩:=ar h
 unfold impl_isSymbol at h
 refine aw (nt:=48) (rs:=[.tmp 2]) (n:=100000) Tryz.func128 rfl rfl rfl rfl (by simp) (S ?_)
 obtain⟨N2,hN2,h⟩:=run_bind h
 obtain⟨hN2a,hN2b⟩:=bnd_some hN2
 replace h:=run_loop h
 refine aM h (fun i2 s2=>[(0,.val (.pv (Sx a0))),(5,.val (.pv (I (a0.size:Int)))),(6,.val (.pv (I (i2:Int))))]) (fun i2 s2=>[]) (ao SC) (fun i2 s2 hi h=>?_) (fun s2 h=>?_)
 ·have w:=wrap_succ (i:=i2) (by omega)
  refine S ?_
  refine aI cs (by omega) (fun cs=>S ?_)
  refine al cs h (fun cs h=>S ?_) (fun cs h=>S ?_)
  ·obtain⟨v14,hv14,h⟩:=run_bind h
   refine bp hv14 (S ?_)
   obtain⟨v15,hv15,h⟩:=run_bind h
   refine am [false] (impl_isLower_sat hv15) SC (S ?_)
   refine al cs h (fun cs h=>S ?_) (fun cs h=>S ?_)
   ·obtain⟨v21,hv21,h⟩:=run_bind h
    refine bp hv21 (S ?_)
    obtain⟨v22,hv22,h⟩:=run_bind h
    refine am [false] (impl_isLower_sat hv22) SC (S ?_)
    refine al cs h (fun cs h=>S ?_) (fun cs h=>S ?_)
    ·have h:=run_some h
     refine aq ⟨_,h,?_⟩
     exact ao SWx
    ·obtain⟨v27,hv27,h⟩:=run_bind h
     refine bp hv27 (S ?_)
     obtain⟨v28,hv28,h⟩:=run_bind h
     refine am [false] (impl_isDigit_sat hv28) SC (S ?_)
     refine al cs h (fun cs h=>S ?_) (fun cs h=>S ?_)
     ·have h:=run_some h
      refine aq ⟨_,h,?_⟩
      exact ao SWx
     ·obtain⟨v34,hv34,h⟩:=run_bind h
      refine bp hv34 (S ?_)
      refine al cs h (fun cs h=>S ?_) (fun cs h=>S ?_)
      ·have h:=run_some h
       refine aq ⟨_,h,?_⟩
       exact ao SWx
      ·cases run_some h
       exact aj SC
   ·cases run_some h
    exact aj SC
  ·obtain⟨v21,hv21,h⟩:=run_bind h
   refine bp hv21 (S ?_)
   obtain⟨v22,hv22,h⟩:=run_bind h
   refine am [false] (impl_isLower_sat hv22) SC (S ?_)
   refine al cs h (fun cs h=>S ?_) (fun cs h=>S ?_)
   ·have h:=run_some h
    refine aq ⟨_,h,?_⟩
    exact ao SWx
   ·obtain⟨v27,hv27,h⟩:=run_bind h
    refine bp hv27 (S ?_)
    obtain⟨v28,hv28,h⟩:=run_bind h
    refine am [false] (impl_isDigit_sat hv28) SC (S ?_)
    refine al cs h (fun cs h=>S ?_) (fun cs h=>S ?_)
    ·have h:=run_some h
     refine aq ⟨_,h,?_⟩
     exact ao SWx
    ·obtain⟨v34,hv34,h⟩:=run_bind h
     refine bp hv34 (S ?_)
     refine al cs h (fun cs h=>S ?_) (fun cs h=>S ?_)
     ·have h:=run_some h
      refine aq ⟨_,h,?_⟩
      exact ao SWx
     ·cases run_some h
      exact aj SC
 ·refine S ?_
  refine aJ cs (by omega) (fun cs=>S ?_)
  obtain⟨v41,hv41,h⟩:=run_bind h
  refine am [false,false,false] (impl_within_sat hv41) SC (S ?_)
  refine al cs h (fun cs h=>S ?_) (fun cs h=>S ?_)
  ·obtain⟨v43,hv43,h⟩:=run_bind h
   refine am [] (impl_reserved_sat hv43) SC (S ?_)
   obtain⟨v45,hv45,h⟩:=run_bind h
   refine am [false,false] (slices_Contains_Sstring_string_sat hv45) SC (S ?_)
   cases run_some h
   exact aj SC
  ·cases run_some h
   exact aj SC

theorem slices_IndexFunc_Simpl_Term_impl_Term_sat{a0:List Tt}{a1:Tt→Option Bool}{a1_id:FuncId}{a1_cs:List PV}(a1_ok:∀ y0 r,a1 y0=some r→Sat ah a1_id (((ag false) y0)::a1_cs) (B r))(a1_cz:CapsOk a1_cs=True){r:Int}(h:slices_IndexFunc_Simpl_Term_impl_Term a0 a1=some r):Sat ah 65 [(.sl false 2 (a0.map (ag false))),.clo a1_id a1_cs] (I r):=by
 obtain⟨h,cs⟩:=ar h
 unfold slices_IndexFunc_Simpl_Term_impl_Term at h
 have cs:=ae a1_cz cs
 refine aw (nt:=19) (rs:=[.tmp 4]) (n:=100000) Tryz.func65 rfl rfl rfl rfl (by simp) (S ?_)
 refine aW (b:=false) (sz:=2) (es:=a0.map (ag false)) 0 SC fun hl0=>?_; rw[au] at hl0
 replace h:=run_loop h
 refine aM h (fun i2 s2=>[(0,.val (.pv (.sl false 2 (a0.map (ag false))))),(1,.val (.pv (.clo a1_id a1_cs))),(7,.val (.pv (I (a0.length:Int)))),(8,.val (.pv (I (i2:Int))))]) (fun i2 s2=>[]) (ao SC) (fun i2 s2 hi h=>?_) (fun s2 h=>?_)
 ·have w:=wrap_succ (i:=i2) (by omega)
  refine S ?_
  refine aI cs (by omega) (fun cs=>S ?_)
  obtain⟨v14,hv14,h⟩:=run_bind h
  refine av (f:=(ag false)) hv14 SC (S ?_)
  obtain⟨v16,hv16,h⟩:=run_bind h
  refine am [false] (a1_ok _ _ hv16) SC (S ?_)
  refine al cs h (fun cs h=>S ?_) (fun cs h=>S ?_)
  ·cases run_some h
   exact aj SC
  ·have h:=run_some h
   refine aq ⟨_,h,?_⟩
   exact ao SWx
 ·refine S ?_
  refine aJ cs (by omega) (fun cs=>S ?_)
  cases run_some h
  exact aj SC

theorem slices_ContainsFunc_Simpl_Term_impl_Term_sat{a0:List Tt}{a1:Tt→Option Bool}{a1_id:FuncId}{a1_cs:List PV}(a1_ok:∀ y0 r,a1 y0=some r→Sat ah a1_id (((ag false) y0)::a1_cs) (B r))(a1_cz:CapsOk a1_cs=True){r:Bool}(h:slices_ContainsFunc_Simpl_Term_impl_Term a0 a1=some r):Sat ah 46 [(.sl false 2 (a0.map (ag false))),.clo a1_id a1_cs] (B r):=by
 obtain⟨h,cs⟩:=ar h
 unfold slices_ContainsFunc_Simpl_Term_impl_Term at h
 have cs:=ae a1_cz cs
 refine aw (nt:=9) (rs:=[.tmp 4]) (n:=100000) Tryz.func46 rfl rfl rfl rfl (by simp) (S ?_)
 obtain⟨v7,hv7,h⟩:=run_bind h
 refine am [false,false] (slices_IndexFunc_Simpl_Term_impl_Term_sat a1_ok a1_cz hv7) SC (S ?_)
 cases run_some h
 exact aj SC

theorem impl_hasNamesN_sat(n:Nat):(∀ (a0:Tt) (r:Bool),impl_hasNamesN n a0=some r→Sat ah 96 [((ag false) a0)] (B r))∧(∀ (a0:Tt) (r:Bool),impl_hasNames_1N n a0=some r→Sat ah 129 [((ag false) a0)] (B r)):=by
 induction n with
 | zero=>exact⟨fun _ _ h=>by simp[impl_hasNamesN] at h,fun _ _ h=>by simp[impl_hasNames_1N] at h⟩
 | succ n ih=>
  refine⟨fun a0 r h=>?_,fun a0 r h=>?_⟩
  ·obtain⟨h,cs⟩:=ar h
   rw[impl_hasNamesN] at h
   refine aw (nt:=25) (rs:=[.tmp 2]) (n:=100000) Tryz.func96 rfl rfl rfl rfl (by simp) (S ?_)
   obtain⟨v5,hv5,h⟩:=run_bind h
   refine am [false] (impl_isVariable_sat hv5) SC (S ?_)
   refine al cs h (fun cs h=>S ?_) (fun cs h=>S ?_)
   ·cases run_some h
    exact aj SC
   ·obtain⟨v12,hv12,h⟩:=run_bind h
    refine am [false] (impl_isSymbol_sat hv12) SC (S ?_)
    refine al cs h (fun cs h=>S ?_) (fun cs h=>S ?_)
    ·refine al cs h (fun cs h=>S ?_) (fun cs h=>S ?_)
     ·obtain⟨v22,hv22,h⟩:=run_bind h
      refine am [false,false] (slices_ContainsFunc_Simpl_Term_impl_Term_sat (fun _ _ hh=>ih.2 _ _ hh) (by simp only[CapsOk_nil,CapsOk_cons]) hv22) SC (S ?_)
      cases run_some h
      exact aj SC
     ·cases run_some h
      exact aj SC
    ·cases run_some h
     exact aj SC
  ·obtain⟨h,cs⟩:=ar h
   rw[impl_hasNames_1N] at h
   refine aw (nt:=6) (rs:=[.tmp 2]) (n:=100000) Tryz.func129 rfl rfl rfl rfl (by simp) (S ?_)
   obtain⟨v4,hv4,h⟩:=run_bind h
   refine am [false] (ih.1 _ _ hv4) SC (S ?_)
   cases run_some h
   exact aj SC
theorem impl_hasNames_sat{a0:Tt}{r:Bool}(h:impl_hasNames a0=some r):Sat ah 96 [((ag false) a0)] (B r):=by
 obtain⟨n,hn⟩:=lim_some h
 exact(impl_hasNamesN_sat n).1 _ _ hn
theorem impl_hasNames_1_sat{a0:Tt}{r:Bool}(h:impl_hasNames_1 a0=some r):Sat ah 129 [((ag false) a0)] (B r):=by
 obtain⟨n,hn⟩:=lim_some h
 exact(impl_hasNamesN_sat n).2 _ _ hn

theorem impl_IsValidTerm_sat{a0:Tt}  {r:Bool}(h:impl_IsValidTerm a0=some r):Sat ah 63 [((ag false) a0)] (B r):=by
 obtain⟨h,cs⟩:=ar h
 unfold impl_IsValidTerm at h
 refine aw (nt:=9) (rs:=[.tmp 2]) (n:=100000) Tryz.func63 rfl rfl rfl rfl (by simp) (S ?_)
 obtain⟨v4,hv4,h⟩:=run_bind h
 refine am [false] (impl_isSmall_sat hv4) SC (S ?_)
 refine al cs h (fun cs h=>S ?_) (fun cs h=>S ?_)
 ·obtain⟨v7,hv7,h⟩:=run_bind h
  refine am [false] (impl_hasNames_sat hv7) SC (S ?_)
  cases run_some h
  exact aj SC
 ·cases run_some h
  exact aj SC

theorem impl_isVar_sat{a0:Tt}  {r:Bool}(h:impl_isVar a0=some r):Sat ah 72 [((ag false) a0)] (B r):=by
 obtain⟨h,cs⟩:=ar h
 unfold impl_isVar at h
 refine aw (nt:=7) (rs:=[.tmp 2]) (n:=100000) Tryz.func72 rfl rfl rfl rfl (by simp) (S ?_)
 obtain⟨v5,hv5,h⟩:=run_bind h
 refine bp hv5 (S ?_)
 obtain⟨v6,hv6,h⟩:=run_bind h
 refine am [false] (impl_isUpper_sat hv6) SC (S ?_)
 cases run_some h
 exact aj SC

theorem impl_collectN_sat(n:Nat):(∀ (a0:List ByteArray) (a1:Tt) (r:List ByteArray),impl_collectN n a0 a1=some r→Sat ah 64 [(.sl true 1 (a0.map Sx)),((ag false) a1)] (.sl true 1 (r.map Sx))):=by
 induction n with
 | zero=>exact fun _ _ _ h=>by simp[impl_collectN] at h
 | succ n ih=>
  refine fun a0 a1 r h=>?_
  obtain⟨h,cs⟩:=ar h
  rw[impl_collectN] at h
  refine aw (nt:=38) (rs:=[.tmp 4]) (n:=100000) Tryz.func64 rfl rfl rfl rfl (by simp) (S ?_)
  refine al cs h (fun cs h=>S ?_) (fun cs h=>S ?_)
  ·obtain⟨v13,hv13,h⟩:=run_bind h
   refine am [false] (impl_isVar_sat hv13) SC (S ?_)
   refine al cs h (fun cs h=>S ?_) (fun cs h=>S ?_)
   ·obtain⟨v18,hv18,h⟩:=run_bind h
    refine am [false,false] (slices_Contains_Sstring_string_sat hv18) SC (S ?_)
    refine al cs h (fun cs h=>S ?_) (fun cs h=>S ?_)
    ·cases run_some h
     exact aj SC
    ·obtain⟨v24,hv24,h⟩:=run_bind h
     refine aN (f:=Sx) (fun _=>rfl) hv24 SC SC (S ?_)
     cases run_some h
     exact aj SC
   ·refine aW (b:=false) (sz:=2) (es:=a1.Args.map (ag false)) 8 SC fun hl8=>?_; rw[au] at hl8
    replace h:=run_loop h
    refine aM h (fun i6 s6=>[(0,.val (.own 9000)),(27,.val (.pv (.sl false 2 (a1.Args.map (ag false))))),(28,.val (.pv (I (a1.Args.length:Int)))),(29,.val (.pv (I (i6:Int))))]) (fun i6 s6=>[(9000,(1,s6.map Sx))]) (ao SC) (fun i6 s6 hi h=>?_) (fun s6 h=>?_)
    ·have w:=wrap_succ (i:=i6) (by omega)
     refine S ?_
     refine aI cs (by omega) (fun cs=>S ?_)
     obtain⟨v31,hv31,h⟩:=run_bind h
     refine av (f:=(ag false)) hv31 SC (S ?_)
     obtain⟨v35,hv35,h⟩:=run_bind h
     refine am [true,false] (ih _ _ _ hv35) SC (S ?_)
     have h:=run_some h
     refine aq ⟨_,h,?_⟩
     refine bd 560 9000 ?_
     exact ao SWx
    ·refine S ?_
     refine aJ cs (by omega) (fun cs=>S ?_)
     cases run_some h
     exact aj SC
  ·refine aW (b:=false) (sz:=2) (es:=a1.Args.map (ag false)) 8 SC fun hl8=>?_; rw[au] at hl8
   replace h:=run_loop h
   refine aM h (fun i6 s6=>[(0,.val (.own 9000)),(27,.val (.pv (.sl false 2 (a1.Args.map (ag false))))),(28,.val (.pv (I (a1.Args.length:Int)))),(29,.val (.pv (I (i6:Int))))]) (fun i6 s6=>[(9000,(1,s6.map Sx))]) (ao SC) (fun i6 s6 hi h=>?_) (fun s6 h=>?_)
   ·have w:=wrap_succ (i:=i6) (by omega)
    refine S ?_
    refine aI cs (by omega) (fun cs=>S ?_)
    obtain⟨v31,hv31,h⟩:=run_bind h
    refine av (f:=(ag false)) hv31 SC (S ?_)
    obtain⟨v35,hv35,h⟩:=run_bind h
    refine am [true,false] (ih _ _ _ hv35) SC (S ?_)
    have h:=run_some h
    refine aq ⟨_,h,?_⟩
    refine bd 560 9000 ?_
    exact ao SWx
   ·refine S ?_
    refine aJ cs (by omega) (fun cs=>S ?_)
    cases run_some h
    exact aj SC
theorem impl_collect_sat{a0:List ByteArray}{a1:Tt}{r:List ByteArray}(h:impl_collect a0 a1=some r):Sat ah 64 [(.sl true 1 (a0.map Sx)),((ag false) a1)] (.sl true 1 (r.map Sx)):=by
 obtain⟨n,hn⟩:=lim_some h
 exact(impl_collectN_sat n) _ _ _ hn

theorem impl_isGroundTerm_sat{a0:Tt}  {r:Bool}(h:impl_isGroundTerm a0=some r):Sat ah 29 [((ag false) a0)] (B r):=by
 obtain⟨h,cs⟩:=ar h
 unfold impl_isGroundTerm at h
 refine aw (nt:=11) (rs:=[.tmp 2]) (n:=100000) Tryz.func29 rfl rfl rfl rfl (by simp) (S ?_)
 obtain⟨v4,hv4,h⟩:=run_bind h
 refine am [false] (impl_IsValidTerm_sat hv4) SC (S ?_)
 refine al cs h (fun cs h=>S ?_) (fun cs h=>S ?_)
 ·obtain⟨v7,hv7,h⟩:=run_bind h
  refine am [true,false] (impl_collect_sat hv7) SC (S ?_)
  cases run_some h
  exact aj SC
 ·cases run_some h
  exact aj SC

theorem slices_EqualFunc_Simpl_Term_Simpl_Term_impl_Term_impl_Term_sat{a0:List Tt}{a1:List Tt}{a2:Tt→Tt→Option Bool}{a2_id:FuncId}{a2_cs:List PV}(a2_ok:∀ y0 y1 r,a2 y0 y1=some r→Sat ah a2_id (((ag false) y0)::((ag false) y1)::a2_cs) (B r))(a2_cz:CapsOk a2_cs=True){r:Bool}(h:slices_EqualFunc_Simpl_Term_Simpl_Term_impl_Term_impl_Term a0 a1 a2=some r):Sat ah 35 [(.sl false 2 (a0.map (ag false))),(.sl false 2 (a1.map (ag false))),.clo a2_id a2_cs] (B r):=by
 obtain⟨h,cs⟩:=ar h
 unfold slices_EqualFunc_Simpl_Term_Simpl_Term_impl_Term_impl_Term at h
 have cs:=ae a2_cz cs
 refine aw (nt:=32) (rs:=[.tmp 6]) (n:=100000) Tryz.func35 rfl rfl rfl rfl (by simp) (S ?_)
 refine al cs h (fun cs h=>S ?_) (fun cs h=>S ?_)
 ·refine aW (b:=false) (sz:=2) (es:=a0.map (ag false)) 0 SC fun hl0=>?_; rw[au] at hl0
  replace h:=run_loop h
  refine aM h (fun i4 s4=>[(1,.val (.pv (.sl false 2 (a1.map (ag false))))),(2,.val (.pv (.clo a2_id a2_cs))),(15,.val (.pv (.sl false 2 (a0.map (ag false))))),(16,.val (.pv (I (a0.length:Int)))),(17,.val (.pv (I (i4:Int))))]) (fun i4 s4=>[]) (ao SC) (fun i4 s4 hi h=>?_) (fun s4 h=>?_)
  ·have w:=wrap_succ (i:=i4) (by omega)
   refine S ?_
   refine aI cs (by omega) (fun cs=>S ?_)
   obtain⟨v20,hv20,h⟩:=run_bind h
   refine av (f:=(ag false)) hv20 SC (S ?_)
   obtain⟨v24,hv24,h⟩:=run_bind h
   refine av (f:=(ag false)) hv24 SC (S ?_)
   obtain⟨v29,hv29,h⟩:=run_bind h
   refine am [false,false] (a2_ok _ _ _ hv29) SC (S ?_)
   refine al cs h (fun cs h=>S ?_) (fun cs h=>S ?_)
   ·have h:=run_some h
    refine aq ⟨_,h,?_⟩
    exact ao SWx
   ·cases run_some h
    exact aj SC
  ·refine S ?_
   refine aJ cs (by omega) (fun cs=>S ?_)
   cases run_some h
   exact aj SC
 ·cases run_some h
  exact aj SC

theorem impl_EqualTermsN_sat(n:Nat):(∀ (a0:Tt) (a1:Tt) (r:Bool),impl_EqualTermsN n a0 a1=some r→Sat ah 36 [((ag false) a0),((ag false) a1)] (B r)):=by
 induction n with
 | zero=>exact fun _ _ _ h=>by simp[impl_EqualTermsN] at h
 | succ n ih=>
  refine fun a0 a1 r h=>?_
  obtain⟨h,cs⟩:=ar h
  rw[impl_EqualTermsN] at h
  refine aw (nt:=17) (rs:=[.tmp 4]) (n:=100000) Tryz.func36 rfl rfl rfl rfl (by simp) (S ?_)
  refine al cs h (fun cs h=>S ?_) (fun cs h=>S ?_)
  ·obtain⟨v15,hv15,h⟩:=run_bind h
   refine am [false,false,false] (slices_EqualFunc_Simpl_Term_Simpl_Term_impl_Term_impl_Term_sat (fun _ _ _ hh=>ih _ _ _ hh) (by simp only[CapsOk_nil,CapsOk_cons]) hv15) SC (S ?_)
   cases run_some h
   exact aj SC
  ·cases run_some h
   exact aj SC
theorem impl_EqualTerms_sat{a0:Tt}{a1:Tt}{r:Bool}(h:impl_EqualTerms a0 a1=some r):Sat ah 36 [((ag false) a0),((ag false) a1)] (B r):=by
 obtain⟨n,hn⟩:=lim_some h
 exact(impl_EqualTermsN_sat n) _ _ _ hn

theorem impl_indexOfAtom_1_sat{a0:Tt}{b0:Tt}  {r:Bool}(h:impl_indexOfAtom_1 a0 b0=some r):Sat ah 66 [((ag false) a0),.ptr ((ag false) b0)] (B r):=by
 obtain⟨h,cs⟩:=ar h
 unfold impl_indexOfAtom_1 at h
 refine aw (nt:=7) (rs:=[.tmp 3]) (n:=100000) Tryz.func66 rfl rfl rfl rfl (by simp) (S ?_)
 obtain⟨v6,hv6,h⟩:=run_bind h
 refine am [false,false] (impl_EqualTerms_sat hv6) SC (S ?_)
 cases run_some h
 exact aj SC

theorem impl_indexOfAtom_sat{a0:List Tt}{a1:Tt}  {r:Int}(h:impl_indexOfAtom a0 a1=some r):Sat ah 30 [(.sl false 2 (a0.map (ag false))),((ag false) a1)] (I r):=by
 obtain⟨h,cs⟩:=ar h
 unfold impl_indexOfAtom at h
 refine aw (nt:=8) (rs:=[.tmp 4]) (n:=100000) Tryz.func30 rfl rfl rfl rfl (by simp) (S ?_)
 refine MfH.fr (S ?_)
 obtain⟨v7,hv7,h⟩:=run_bind h
 refine am [false,false] (slices_IndexFunc_Simpl_Term_impl_Term_sat (fun _ _ hh=>impl_indexOfAtom_1_sat hh) (by simp only[CapsOk_nil,CapsOk_cons]) hv7) SC (S ?_)
 cases run_some h
 exact aj SC

theorem impl_copyTermsN_sat(n:Nat):(∀ (a0:List Tt) (r:List Tt),impl_copyTermsN n a0=some r→Sat ah 32 [(.sl false 2 (a0.map (ag false)))] (.sl true 2 (r.map (ag true))))∧(∀ (a0:Tt) (r:Tt),impl_copyTermN n a0=some r→Sat ah 39 [((ag false) a0)] ((ag true) r)):=by
 induction n with
 | zero=>exact⟨fun _ _ h=>by simp[impl_copyTermsN] at h,fun _ _ h=>by simp[impl_copyTermN] at h⟩
 | succ n ih=>
  refine⟨fun a0 r h=>?_,fun a0 r h=>?_⟩
  ·obtain⟨h,cs⟩:=ar h
   rw[impl_copyTermsN] at h
   refine aw (nt:=26) (rs:=[.tmp 2]) (n:=100000) Tryz.func32 rfl rfl rfl rfl (by simp) (S ?_)
   refine al cs h (fun cs h=>S ?_) (fun cs h=>S ?_)
   ·cases run_some h
    exact aj SC
   ·obtain⟨n11,hn11,h⟩:=run_bind h
    refine MknH.mk hn11 (S ?_)
    refine aW (b:=false) (sz:=2) (es:=a0.map (ag false)) 0 SC fun hl0=>?_; rw[au] at hl0
    replace h:=run_loop h
    refine aM h (fun i5 s5=>[(3,.val (.own 176)),(12,.val (.pv (.sl false 2 (a0.map (ag false))))),(13,.val (.pv (I (a0.length:Int)))),(14,.val (.pv (I (i5:Int))))]) (fun i5 s5=>[(176,(2,s5.map (ag true)))]) (ao SC) (fun i5 s5 hi h=>?_) (fun s5 h=>?_)
    ·have w:=wrap_succ (i:=i5) (by omega)
     refine S ?_
     refine aI cs (by omega) (fun cs=>S ?_)
     obtain⟨v17,hv17,h⟩:=run_bind h
     refine av (f:=(ag false)) hv17 SC (S ?_)
     obtain⟨v22,hv22,h⟩:=run_bind h
     refine am [false] (ih.2 _ _ hv22) SC (S ?_)
     obtain⟨v23,hv23,h⟩:=run_bind h
     refine av (f:=(ag true)) hv23 SC (S ?_)
     obtain⟨w3,hw3,h⟩:=run_bind h
     refine EldH.mk (f:=(ag true)) hw3 rfl SC (S ?_)
     have h:=run_some h
     refine aq ⟨_,h,?_⟩
     exact ao SWx
    ·refine S ?_
     refine aJ cs (by omega) (fun cs=>S ?_)
     cases run_some h
     exact aj SC
  ·obtain⟨h,cs⟩:=ar h
   rw[impl_copyTermN] at h
   refine aw (nt:=9) (rs:=[.cell 2 43]) (n:=100000) Tryz.func39 rfl rfl rfl rfl (by simp) (S ?_)
   obtain⟨v7,hv7,h⟩:=run_bind h
   refine am [false] (ih.1 _ _ hv7) SC (S ?_)
   refine ae (aL [] [112]) (S ?_)
   cases run_some h
   exact aj SC
theorem impl_copyTerms_sat{a0:List Tt}{r:List Tt}(h:impl_copyTerms a0=some r):Sat ah 32 [(.sl false 2 (a0.map (ag false)))] (.sl true 2 (r.map (ag true))):=by
 obtain⟨n,hn⟩:=lim_some h
 exact(impl_copyTermsN_sat n).1 _ _ hn
theorem impl_copyTerm_sat{a0:Tt}{r:Tt}(h:impl_copyTerm a0=some r):Sat ah 39 [((ag false) a0)] ((ag true) r):=by
 obtain⟨n,hn⟩:=lim_some h
 exact(impl_copyTermsN_sat n).2 _ _ hn

theorem impl_subset_sat{a0:List Tt}{a1:Int}  {r:List Tt}(h:impl_subset a0 a1=some r):Sat ah 67 [(.sl false 2 (a0.map (ag false))),(I a1)] (.sl true 2 (r.map (ag false))):=by
 obtain⟨h,cs⟩:=ar h
 unfold impl_subset at h
 refine aw (nt:=27) (rs:=[.tmp 4]) (n:=100000) Tryz.func67 rfl rfl rfl rfl (by simp) (S ?_)
 refine aW (b:=false) (sz:=2) (es:=a0.map (ag false)) 0 SC fun hl0=>?_; rw[au] at hl0
 replace h:=run_loop h
 refine aM h (fun i3 s3=>[(1,.val (.pv (I a1))),(5,.val (.own 128)),(9,.val (.pv (.sl false 2 (a0.map (ag false))))),(10,.val (.pv (I (a0.length:Int)))),(11,.val (.pv (I (i3:Int))))]) (fun i3 s3=>[(128,(2,s3.map (ag false)))]) (ao SC) (fun i3 s3 hi h=>?_) (fun s3 h=>?_)
 ·have w:=wrap_succ (i:=i3) (by omega)
  refine S ?_
  refine aI cs (by omega) (fun cs=>S ?_)
  obtain⟨v14,hv14,h⟩:=run_bind h
  refine av (f:=(ag false)) hv14 SC (S ?_)
  obtain⟨v18,hv18,h⟩:=run_bind h
  refine ShrH.mk hv18 (S ?_)
  refine al cs h (fun cs h=>S ?_) (fun cs h=>S ?_)
  ·obtain⟨v24,hv24,h⟩:=run_bind h
   refine aN (f:=(ag false)) (fun a=>aY _ a) hv24 SC SC (S ?_)
   have h:=run_some h
   refine aq ⟨_,h,?_⟩
   refine bd 384 128 ?_
   exact ao SWx
  ·have h:=run_some h
   refine aq ⟨_,h,?_⟩
   exact ao SWx
 ·refine S ?_
  refine aJ cs (by omega) (fun cs=>S ?_)
  cases run_some h
  exact aj SC

theorem impl_generalization_1_sat{a0:Tt}{b0:Tt}  {r:Bool}(h:impl_generalization_1 a0 b0=some r):Sat ah 80 [((ag false) a0),.ptr ((ag false) b0)] (B r):=by
 obtain⟨h,cs⟩:=ar h
 unfold impl_generalization_1 at h
 refine aw (nt:=8) (rs:=[.tmp 3]) (n:=100000) Tryz.func80 rfl rfl rfl rfl (by simp) (S ?_)
 obtain⟨v6,hv6,h⟩:=run_bind h
 refine am [false,false] (impl_EqualTerms_sat hv6) SC (S ?_)
 cases run_some h
 exact aj SC

theorem impl_generalization_2_sat{a0:Tt}{b0:Tt}  {r:Bool}(h:impl_generalization_2 a0 b0=some r):Sat ah 81 [((ag false) a0),.ptr ((ag false) b0)] (B r):=by
 obtain⟨h,cs⟩:=ar h
 unfold impl_generalization_2 at h
 refine aw (nt:=18) (rs:=[.tmp 3]) (n:=100000) Tryz.func81 rfl rfl rfl rfl (by simp) (S ?_)
 refine al cs h (fun cs h=>S ?_) (fun cs h=>S ?_)
 ·cases run_some h
  exact aj SC
 ·cases run_some h
  exact aj SC

/-- What comes back beside the pattern: nil where it is empty. -/
def nslT:List Tt→PV
 | []=>.lit (.slice none 0 0)
 | x::xs=>.sl true 2 ((x::xs).map (ag true))
@[push_cast] theorem nslT_n:nslT []=.lit (.slice none 0 0):=rfl
@[push_cast] theorem nslT_c (x:Tt) (xs:List Tt):nslT (x::xs)=.sl true 2 ((x::xs).map (ag true)):=rfl
def nslV(c:Nat):List Tt→SlotV
 | []=>.val (.pv (.sl true 2 []))
 | _::_=>.val (.own c)
@[push_cast] theorem nslV_n (c:Nat):nslV c []=.val (.pv (.sl true 2 [])):=rfl
@[push_cast] theorem nslV_c (c:Nat) (x:Tt) (xs:List Tt):nslV c (x::xs)=.val (.own c):=rfl
def nslO(c:Nat):List Tt→List (Nat×(Nat×List PV))→List (Nat×(Nat×List PV))
 | [],O=>O
 | x::xs,O=>O++[(c,(2,(x::xs).map (ag true)))]
@[push_cast] theorem nslO_n (c:Nat) (O:List (Nat×(Nat×List PV))):nslO c [] O=O:=rfl
@[push_cast] theorem nslO_c (c:Nat) (x:Tt) (xs:List Tt) (o:Nat×(Nat×List PV)):nslO c (x::xs) [o]=[o,(c,(2,(x::xs).map (ag true)))]:=rfl
theorem impl_generalizationN_sat(n:Nat):(∀ (a0:List Tt) (r:Tt×(List Tt)),impl_generalizationN n a0=some r→Sat ah 49 [(.sl false 2 (a0.map (ag false)))] (.tup [((ag true) r.1),nslT r.2])):=by
 induction n with
 | zero=>exact fun _ _ h=>by simp[impl_generalizationN] at h
 | succ n ih=>
  refine fun a0 r h=>?_
  obtain⟨h,cs⟩:=ar h
  rw[impl_generalizationN] at h
  refine Sat.of_n (nt:=83) (rs:=[.cell 2 43,.tmp 3]) (n:=100000) Tryz.func49 rfl rfl rfl rfl (by simp) (S ?_)
  obtain⟨v15,hv15,h⟩:=run_bind h
  refine av (f:=(ag false)) hv15 SC (S ?_)
  refine MfH.fr (S ?_)
  obtain⟨v19,hv19,h⟩:=run_bind h
  refine am [false,false] (slices_ContainsFunc_Simpl_Term_impl_Term_sat (fun _ _ hh=>impl_generalization_1_sat hh) (by simp only[CapsOk_nil,CapsOk_cons]) hv19) SC (S ?_)
  refine al cs h (fun cs h=>S ?_) (fun cs h=>S ?_)
  ·refine MfH.fr (S ?_)
   obtain⟨v26,hv26,h⟩:=run_bind h
   refine am [false,false] (slices_ContainsFunc_Simpl_Term_impl_Term_sat (fun _ _ hh=>impl_generalization_2_sat hh) (by simp only[CapsOk_nil,CapsOk_cons]) hv26) SC (S ?_)
   refine al cs h (fun cs h=>S ?_) (fun cs h=>S ?_)
   ·obtain⟨v29,hv29,h⟩:=run_bind h
    cases v29 with
    | nil=>exact run_none h
    | cons p ps=>
     refine am [false] (impl_copyTerms_sat hv29) SC (S ?_)
     refine ae (aL [] [464]) (S ?_)
     cases run_some h
     exact FinN.mk (aj SC)
   ·refine aW (b:=false) (sz:=2) (es:=v15.Args.map (ag false)) 34 SC fun hl34=>?_; rw[au] at hl34
    replace h:=run_loop h
    refine aM h (fun i10 s10=>[(0,.val (.pv (.sl false 2 (a0.map (ag false))))),(2,.box zab1),(5,.box zab0),(6,.box (.node [(.pv (Sx v15.Name)),(.own 9330)])),(7,nslV 9331 s10.2),(35,.val (.pv (I (v15.Args.length:Int)))),(36,.val (.pv (I (i10:Int))))]) (fun i10 s10=>nslO 9331 s10.2 [(9330,(2,s10.1.map (ag true)))]) (bn (St.le_nilB (x:=(.node [(.pv (Sx v15.Name)),(.pv (.sl true 2 []))])) 6 [1] 9330 2 NM SC SC SC) (ao SC)) (fun i10 s10 hi h=>?_) (fun s10 h=>?_)
    ·obtain⟨q1,q2⟩:=s10
     cases q2 with
     | nil=>
      have w:=wrap_succ (i:=i10) (by omega)
      refine S ?_
      refine aI cs (by omega) (fun cs=>S ?_)
      refine aW (b:=false) (sz:=2) (es:=a0.map (ag false)) 0 SC fun hl0=>?_; rw[au] at hl0
      replace h:=run_loop h
      refine aM h (fun i14 s14=>[(0,.val (.pv (.sl false 2 (a0.map (ag false))))),(2,.box zab1),(5,.box zab0),(6,.box (.node [(.pv (Sx v15.Name)),(.own 9330)])),(7,.val (.pv (.sl true 2 []))),(8,.val (.pv (I (i10:Int)))),(9,.val (.own 624)),(35,.val (.pv (I (v15.Args.length:Int)))),(36,.val (.pv (I (i10:Int)))),(40,.val (.pv (.sl false 2 (a0.map (ag false))))),(41,.val (.pv (I (a0.length:Int)))),(42,.val (.pv (I (i14:Int))))]) (fun i14 s14=>[(9330,(2,q1.map (ag true))),(624,(2,s14.map (ag false)))]) (ao SC) (fun i14 s14 hi h=>?_) (fun s14 h=>?_)
      ·have w:=wrap_succ (i:=i14) (by omega)
       refine S ?_
       refine aI cs (by omega) (fun cs=>S ?_)
       obtain⟨v44,hv44,h⟩:=run_bind h
       refine av (f:=(ag false)) hv44 SC (S ?_)
       obtain⟨v50,hv50,h⟩:=run_bind h
       refine av (f:=(ag false)) hv50 SC (S ?_)
       obtain⟨v53,hv53,h⟩:=run_bind h
       refine aN (f:=(ag false)) (fun a=>aY _ a) hv53 SC SC (S ?_)
       have h:=run_some h
       refine aq ⟨_,h,?_⟩
       refine bn (St.le_mk (S:=[(0,.val (.pv (.sl false 2 (a0.map (ag false))))),(2,.box zab1),(5,.box zab0),(6,.box (.node [(.pv (Sx v15.Name)),(.own 9330)])),(7,.val (.pv (.sl true 2 []))),(8,.val (.pv (I (i10:Int)))),(9,.val (.own 848)),(35,.val (.pv (I (v15.Args.length:Int)))),(36,.val (.pv (I (i10:Int)))),(40,.val (.pv (.sl false 2 (a0.map (ag false))))),(41,.val (.pv (I (a0.length:Int)))),(42,.val (.pv (I (IntKind.i64.wrap ((i14:Int)+1)))))]) (O:=[(9330,(2,q1.map (ag true))),(848,(2,v53.map (ag false)))]) SWx SWx) ?_
       refine St.le_rn 848 624 (by decide) NM ?_
       exact ao SWx
      ·refine S ?_
       refine aJ cs (by omega) (fun cs=>S ?_)
       obtain⟨⟨u1,u2⟩,hv57,h⟩:=run_bind h
       cases u2 with
       | nil=>
        have hs:Sat ah 49 [(.sl false 2 (s14.map (ag false)))] (.tup [((ag true) u1),.lit (.slice none 0 0)]):=ih _ _ hv57
        refine am [false] hs SC (S ?_)
        obtain⟨v64,hv64,h⟩:=run_bind h
        refine aN (f:=(ag true)) (fun a=>aY _ a) hv64 SC SC (S ?_)
        have h:=run_some h
        refine aq ⟨_,h,?_⟩
        refine bn (St.le_mk (S:=[(0,.val (.pv (.sl false 2 (a0.map (ag false))))),(2,.box zab1),(5,.box zab0),(6,.box (.node [(.pv (Sx v15.Name)),(.own 1024)])),(7,.val (.pv (.sl true 2 []))),(35,.val (.pv (I (v15.Args.length:Int)))),(36,.val (.pv (I (IntKind.i64.wrap ((i10:Int)+1)))))]) (O:=[(1024,(2,v64.map (ag true)))]) SWx SWx) ?_
        refine St.le_rn 1024 9330 (by decide) NM ?_
        exact ao SWx
       | cons y ys=>
        have hs:Sat ah 49 [(.sl false 2 (s14.map (ag false)))] (.tup [((ag true) u1),.sl true 2 ((y::ys).map (ag true))]):=ih _ _ hv57
        refine am [false] hs SC (S ?_)
        obtain⟨v64,hv64,h⟩:=run_bind h
        refine aN (f:=(ag true)) (fun a=>aY _ a) hv64 SC SC (S ?_)
        have h:=run_some h
        refine aq ⟨_,h,?_⟩
        refine bn (St.le_mk (S:=[(0,.val (.pv (.sl false 2 (a0.map (ag false))))),(2,.box zab1),(5,.box zab0),(6,.box (.node [(.pv (Sx v15.Name)),(.own 1024)])),(7,.val (.own 913)),(35,.val (.pv (I (v15.Args.length:Int)))),(36,.val (.pv (I (IntKind.i64.wrap ((i10:Int)+1)))))]) (O:=[(1024,(2,v64.map (ag true))),(913,(2,(y::ys).map (ag true)))]) SWx SWx) ?_
        refine St.le_rn 1024 9330 (by decide) NM ?_
        refine bn (St.le_mk (S:=[(0,.val (.pv (.sl false 2 (a0.map (ag false))))),(2,.box zab1),(5,.box zab0),(6,.box (.node [(.pv (Sx v15.Name)),(.own 9330)])),(7,.val (.own 913)),(35,.val (.pv (I (v15.Args.length:Int)))),(36,.val (.pv (I (IntKind.i64.wrap ((i10:Int)+1)))))]) (O:=[(9330,(2,v64.map (ag true))),(913,(2,(y::ys).map (ag true)))]) SWx SWx) ?_
        refine St.le_rn 913 9331 (by decide) NM ?_
        exact ao SWx
     | cons z zs=>
      have w:=wrap_succ (i:=i10) (by omega)
      refine S ?_
      refine aI cs (by omega) (fun cs=>S ?_)
      refine aW (b:=false) (sz:=2) (es:=a0.map (ag false)) 0 SC fun hl0=>?_; rw[au] at hl0
      replace h:=run_loop h
      refine aM h (fun i14 s14=>[(0,.val (.pv (.sl false 2 (a0.map (ag false))))),(2,.box zab1),(5,.box zab0),(6,.box (.node [(.pv (Sx v15.Name)),(.own 9330)])),(7,.val (.own 9331)),(8,.val (.pv (I (i10:Int)))),(9,.val (.own 624)),(35,.val (.pv (I (v15.Args.length:Int)))),(36,.val (.pv (I (i10:Int)))),(40,.val (.pv (.sl false 2 (a0.map (ag false))))),(41,.val (.pv (I (a0.length:Int)))),(42,.val (.pv (I (i14:Int))))]) (fun i14 s14=>[(9330,(2,q1.map (ag true))),(9331,(2,(z::zs).map (ag true))),(624,(2,s14.map (ag false)))]) (ao SC) (fun i14 s14 hi h=>?_) (fun s14 h=>?_)
      ·have w:=wrap_succ (i:=i14) (by omega)
       refine S ?_
       refine aI cs (by omega) (fun cs=>S ?_)
       obtain⟨v44,hv44,h⟩:=run_bind h
       refine av (f:=(ag false)) hv44 SC (S ?_)
       obtain⟨v50,hv50,h⟩:=run_bind h
       refine av (f:=(ag false)) hv50 SC (S ?_)
       obtain⟨v53,hv53,h⟩:=run_bind h
       refine aN (f:=(ag false)) (fun a=>aY _ a) hv53 SC SC (S ?_)
       have h:=run_some h
       refine aq ⟨_,h,?_⟩
       refine bn (St.le_mk (S:=[(0,.val (.pv (.sl false 2 (a0.map (ag false))))),(2,.box zab1),(5,.box zab0),(6,.box (.node [(.pv (Sx v15.Name)),(.own 9330)])),(7,.val (.own 9331)),(8,.val (.pv (I (i10:Int)))),(9,.val (.own 848)),(35,.val (.pv (I (v15.Args.length:Int)))),(36,.val (.pv (I (i10:Int)))),(40,.val (.pv (.sl false 2 (a0.map (ag false))))),(41,.val (.pv (I (a0.length:Int)))),(42,.val (.pv (I (IntKind.i64.wrap ((i14:Int)+1)))))]) (O:=[(9330,(2,q1.map (ag true))),(9331,(2,(z::zs).map (ag true))),(848,(2,v53.map (ag false)))]) SWx SWx) ?_
       refine St.le_rn 848 624 (by decide) NM ?_
       exact ao SWx
      ·refine S ?_
       refine aJ cs (by omega) (fun cs=>S ?_)
       obtain⟨⟨u1,u2⟩,hv57,h⟩:=run_bind h
       cases u2 with
       | nil=>
        have hs:Sat ah 49 [(.sl false 2 (s14.map (ag false)))] (.tup [((ag true) u1),.lit (.slice none 0 0)]):=ih _ _ hv57
        refine am [false] hs SC (S ?_)
        obtain⟨v64,hv64,h⟩:=run_bind h
        refine aN (f:=(ag true)) (fun a=>aY _ a) hv64 SC SC (S ?_)
        have h:=run_some h
        refine aq ⟨_,h,?_⟩
        refine bn (St.le_mk (S:=[(0,.val (.pv (.sl false 2 (a0.map (ag false))))),(2,.box zab1),(5,.box zab0),(6,.box (.node [(.pv (Sx v15.Name)),(.own 1024)])),(7,.val (.own 9331)),(35,.val (.pv (I (v15.Args.length:Int)))),(36,.val (.pv (I (IntKind.i64.wrap ((i10:Int)+1)))))]) (O:=[(1024,(2,v64.map (ag true))),(9331,(2,(z::zs).map (ag true)))]) SWx SWx) ?_
        refine St.le_rn 1024 9330 (by decide) NM ?_
        exact ao SWx
       | cons y ys=>
        have hs:Sat ah 49 [(.sl false 2 (s14.map (ag false)))] (.tup [((ag true) u1),.sl true 2 ((y::ys).map (ag true))]):=ih _ _ hv57
        refine am [false] hs SC (S ?_)
        obtain⟨v64,hv64,h⟩:=run_bind h
        refine aN (f:=(ag true)) (fun a=>aY _ a) hv64 SC SC (S ?_)
        obtain⟨v73,hv73,h⟩:=run_bind h
        refine am [false,false,false] (slices_EqualFunc_Simpl_Term_Simpl_Term_impl_Term_impl_Term_sat (fun _ _ _ hh=>impl_EqualTerms_sat hh) (by simp only[CapsOk_nil,CapsOk_cons]) hv73) SC (S ?_)
        refine al cs h (fun cs h=>S ?_) (fun cs h=>S ?_)
        ·have h:=run_some h
         refine aq ⟨_,h,?_⟩
         refine bn (St.le_mk (S:=[(0,.val (.pv (.sl false 2 (a0.map (ag false))))),(2,.box zab1),(5,.box zab0),(6,.box (.node [(.pv (Sx v15.Name)),(.own 1024)])),(7,.val (.own 913)),(35,.val (.pv (I (v15.Args.length:Int)))),(36,.val (.pv (I (IntKind.i64.wrap ((i10:Int)+1)))))]) (O:=[(1024,(2,v64.map (ag true))),(913,(2,(y::ys).map (ag true)))]) SWx SWx) ?_
         refine St.le_rn 1024 9330 (by decide) NM ?_
         refine bn (St.le_mk (S:=[(0,.val (.pv (.sl false 2 (a0.map (ag false))))),(2,.box zab1),(5,.box zab0),(6,.box (.node [(.pv (Sx v15.Name)),(.own 9330)])),(7,.val (.own 913)),(35,.val (.pv (I (v15.Args.length:Int)))),(36,.val (.pv (I (IntKind.i64.wrap ((i10:Int)+1)))))]) (O:=[(9330,(2,v64.map (ag true))),(913,(2,(y::ys).map (ag true)))]) SWx SWx) ?_
         refine St.le_rn 913 9331 (by decide) NM ?_
         exact ao SWx
        ·obtain⟨v78,hv78,h⟩:=run_bind h
         cases v78 with
         | nil=>exact run_none h
         | cons p ps=>
          refine am [false] (impl_copyTerms_sat hv78) SC (S ?_)
          refine ae (aL [] [1248]) (S ?_)
          cases run_some h
          exact FinN.mk (aj SC)
    ·obtain⟨q1,q2⟩:=s10
     cases q2 with
     | nil=>
      refine S ?_
      refine aJ cs (by omega) (fun cs=>S ?_)
      cases run_some h
      exact FinN.nil 3 2 SC (aj SC)
     | cons z zs=>
      refine S ?_
      refine aJ cs (by omega) (fun cs=>S ?_)
      cases run_some h
      exact FinN.mk (aj SC)
  ·obtain⟨v22,hv22,h⟩:=run_bind h
   refine am [false] (impl_copyTerm_sat hv22) SC (S ?_)
   cases run_some h
   exact FinN.nil 3 2 SC (aj SC)
theorem impl_generalization_sat{a0:List Tt}{r:Tt×(List Tt)}(h:impl_generalization a0=some r):Sat ah 49 [(.sl false 2 (a0.map (ag false)))] (.tup [((ag true) r.1),(.sl true 2 (r.2.map (ag true)))]):=by
 obtain⟨n,hn⟩:=lim_some h
 obtain⟨r1,r2⟩:=r
 have hs:=(impl_generalizationN_sat n) _ _ hn
 cases r2 with
 | nil=>exact Sat.nilR hs
 | cons x xs=>exact hs

theorem impl_addAtom_1_sat{a0:Tt}{b0:Tt}  {r:Bool}(h:impl_addAtom_1 a0 b0=some r):Sat ah 79 [((ag false) a0),.ptr ((ag false) b0)] (B r):=by
 obtain⟨h,cs⟩:=ar h
 unfold impl_addAtom_1 at h
 refine aw (nt:=7) (rs:=[.tmp 3]) (n:=100000) Tryz.func79 rfl rfl rfl rfl (by simp) (S ?_)
 obtain⟨v6,hv6,h⟩:=run_bind h
 refine am [false,false] (impl_EqualTerms_sat hv6) SC (S ?_)
 cases run_some h
 exact aj SC

theorem impl_addAtom_sat{a0:List Tt}{a1:Tt}  {r:List Tt}(h:impl_addAtom a0 a1=some r):Sat ah 48 [(.sl true 2 (a0.map (ag true))),((ag false) a1)] (.sl true 2 (r.map (ag true))):=by
 obtain⟨h,cs⟩:=ar h
 unfold impl_addAtom at h
 refine aw (nt:=14) (rs:=[.tmp 4]) (n:=100000) Tryz.func48 rfl rfl rfl rfl (by simp) (S ?_)
 refine MfH.fr (S ?_)
 obtain⟨v7,hv7,h⟩:=run_bind h
 refine am [false,false] (slices_ContainsFunc_Simpl_Term_impl_Term_sat (fun _ _ hh=>impl_addAtom_1_sat hh) (by simp only[CapsOk_nil,CapsOk_cons]) hv7) SC (S ?_)
 refine al cs h (fun cs h=>S ?_) (fun cs h=>S ?_)
 ·cases run_some h
  exact aj SC
 ·obtain⟨v11,hv11,h⟩:=run_bind h
  refine am [false] (impl_copyTerm_sat hv11) SC (S ?_)
  obtain⟨v13,hv13,h⟩:=run_bind h
  refine aN (f:=(ag true)) (fun a=>aY _ a) hv13 SC SC (S ?_)
  cases run_some h
  exact aj SC

theorem cmp_isNaN_string_sat{a0:ByteArray}  {r:Bool}(h:cmp_isNaN_string a0=some r):Sat ah 109 [(Sx a0)] (B r):=by
 obtain⟨h,cs⟩:=ar h
 unfold cmp_isNaN_string at h
 refine aw (nt:=6) (rs:=[.tmp 2]) (n:=100000) Tryz.func109 rfl rfl rfl rfl (by simp) (S ?_)
 cases run_some h
 exact aj SC

theorem cmp_Compare_string_sat{a0:ByteArray}{a1:ByteArray}  {r:Int}(h:cmp_Compare_string a0 a1=some r):Sat ah 74 [(Sx a0),(Sx a1)] (I r):=by
 obtain⟨h,cs⟩:=ar h
 unfold cmp_Compare_string at h
 refine aw (nt:=20) (rs:=[.tmp 4]) (n:=100000) Tryz.func74 rfl rfl rfl rfl (by simp) (S ?_)
 obtain⟨v8,hv8,h⟩:=run_bind h
 refine am [false] (cmp_isNaN_string_sat hv8) SC (S ?_)
 obtain⟨v10,hv10,h⟩:=run_bind h
 refine am [false] (cmp_isNaN_string_sat hv10) SC (S ?_)
 refine al cs h (fun cs h=>S ?_) (fun cs h=>S ?_)
 ·refine al cs h (fun cs h=>S ?_) (fun cs h=>S ?_)
  ·cases run_some h
   exact aj SC
  ·cases run_some h
   exact aj SC
 ·refine al cs h (fun cs h=>S ?_) (fun cs h=>S ?_)
  ·cases run_some h
   exact aj SC
  ·refine al cs h (fun cs h=>S ?_) (fun cs h=>S ?_)
   ·cases run_some h
    exact aj SC
   ·refine al cs h (fun cs h=>S ?_) (fun cs h=>S ?_)
    ·cases run_some h
     exact aj SC
    ·cases run_some h
     exact aj SC

theorem cmp_isNaN_int_sat{a0:Int}  {r:Bool}(h:cmp_isNaN_int a0=some r):Sat ah 110 [(I a0)] (B r):=by
 obtain⟨h,cs⟩:=ar h
 unfold cmp_isNaN_int at h
 refine aw (nt:=6) (rs:=[.tmp 2]) (n:=100000) Tryz.func110 rfl rfl rfl rfl (by simp) (S ?_)
 cases run_some h
 exact aj SC

theorem cmp_Compare_int_sat{a0:Int}{a1:Int}  {r:Int}(h:cmp_Compare_int a0 a1=some r):Sat ah 75 [(I a0),(I a1)] (I r):=by
 obtain⟨h,cs⟩:=ar h
 unfold cmp_Compare_int at h
 refine aw (nt:=20) (rs:=[.tmp 4]) (n:=100000) Tryz.func75 rfl rfl rfl rfl (by simp) (S ?_)
 obtain⟨v8,hv8,h⟩:=run_bind h
 refine am [false] (cmp_isNaN_int_sat hv8) SC (S ?_)
 obtain⟨v10,hv10,h⟩:=run_bind h
 refine am [false] (cmp_isNaN_int_sat hv10) SC (S ?_)
 refine al cs h (fun cs h=>S ?_) (fun cs h=>S ?_)
 ·refine al cs h (fun cs h=>S ?_) (fun cs h=>S ?_)
  ·cases run_some h
   exact aj SC
  ·cases run_some h
   exact aj SC
 ·refine al cs h (fun cs h=>S ?_) (fun cs h=>S ?_)
  ·cases run_some h
   exact aj SC
  ·refine al cs h (fun cs h=>S ?_) (fun cs h=>S ?_)
   ·cases run_some h
    exact aj SC
   ·refine al cs h (fun cs h=>S ?_) (fun cs h=>S ?_)
    ·cases run_some h
     exact aj SC
    ·cases run_some h
     exact aj SC

theorem cmp_Or_int_sat{a0:List Int}  {r:Int}(h:cmp_Or_int a0=some r):Sat ah 73 [(.sl false 1 (a0.map I))] (I r):=by
 obtain⟨h,cs⟩:=ar h
 unfold cmp_Or_int at h
 refine aw (nt:=18) (rs:=[.tmp 2]) (n:=100000) Tryz.func73 rfl rfl rfl rfl (by simp) (S ?_)
 refine aW (b:=false) (sz:=1) (es:=a0.map I) 0 SC fun hl0=>?_; rw[au] at hl0
 replace h:=run_loop h
 refine aM h (fun i3 s3=>[(3,.val (.pv (I 0))),(6,.val (.pv (.sl false 1 (a0.map I)))),(7,.val (.pv (I (a0.length:Int)))),(8,.val (.pv (I (i3:Int))))]) (fun i3 s3=>[]) (ao SC) (fun i3 s3 hi h=>?_) (fun s3 h=>?_)
 ·have w:=wrap_succ (i:=i3) (by omega)
  refine S ?_
  refine aI cs (by omega) (fun cs=>S ?_)
  obtain⟨v10,hv10,h⟩:=run_bind h
  refine av (f:=I) hv10 SC (S ?_)
  refine al cs h (fun cs h=>S ?_) (fun cs h=>S ?_)
  ·have h:=run_some h
   refine aq ⟨_,h,?_⟩
   exact ao SWx
  ·cases run_some h
   exact aj SC
 ·refine S ?_
  refine aJ cs (by omega) (fun cs=>S ?_)
  cases run_some h
  exact aj SC

theorem slices_CompareFunc_Simpl_Term_Simpl_Term_impl_Term_impl_Term_sat{a0:List Tt}{a1:List Tt}{a2:Tt→Tt→Option Int}{a2_id:FuncId}{a2_cs:List PV}(a2_ok:∀ y0 y1 r,a2 y0 y1=some r→Sat ah a2_id (((ag false) y0)::((ag false) y1)::a2_cs) (I r))(a2_cz:CapsOk a2_cs=True){r:Int}(h:slices_CompareFunc_Simpl_Term_Simpl_Term_impl_Term_impl_Term a0 a1 a2=some r):Sat ah 76 [(.sl false 2 (a0.map (ag false))),(.sl false 2 (a1.map (ag false))),.clo a2_id a2_cs] (I r):=by
 obtain⟨h,cs⟩:=ar h
 unfold slices_CompareFunc_Simpl_Term_Simpl_Term_impl_Term_impl_Term at h
 have cs:=ae a2_cz cs
 refine aw (nt:=39) (rs:=[.tmp 6]) (n:=100000) Tryz.func76 rfl rfl rfl rfl (by simp) (S ?_)
 refine aW (b:=false) (sz:=2) (es:=a0.map (ag false)) 0 SC fun hl0=>?_; rw[au] at hl0
 replace h:=run_loop h
 refine aM h (fun i2 s2=>[(0,.val (.pv (.sl false 2 (a0.map (ag false))))),(1,.val (.pv (.sl false 2 (a1.map (ag false))))),(2,.val (.pv (.clo a2_id a2_cs))),(11,.val (.pv (.sl false 2 (a0.map (ag false))))),(12,.val (.pv (I (a0.length:Int)))),(13,.val (.pv (I (i2:Int))))]) (fun i2 s2=>[]) (ao SC) (fun i2 s2 hi h=>?_) (fun s2 h=>?_)
 ·have w:=wrap_succ (i:=i2) (by omega)
  refine S ?_
  refine aI cs (by omega) (fun cs=>S ?_)
  obtain⟨v16,hv16,h⟩:=run_bind h
  refine av (f:=(ag false)) hv16 SC (S ?_)
  refine al cs h (fun cs h=>S ?_) (fun cs h=>S ?_)
  ·cases run_some h
   exact aj SC
  ·obtain⟨v24,hv24,h⟩:=run_bind h
   refine av (f:=(ag false)) hv24 SC (S ?_)
   obtain⟨v29,hv29,h⟩:=run_bind h
   refine am [false,false] (a2_ok _ _ _ hv29) SC (S ?_)
   refine al cs h (fun cs h=>S ?_) (fun cs h=>S ?_)
   ·have h:=run_some h
    refine aq ⟨_,h,?_⟩
    exact ao SWx
   ·cases run_some h
    exact aj SC
 ·refine S ?_
  refine aJ cs (by omega) (fun cs=>S ?_)
  refine al cs h (fun cs h=>S ?_) (fun cs h=>S ?_)
  ·cases run_some h
   exact aj SC
  ·cases run_some h
   exact aj SC

theorem impl_compareTermsN_sat(n:Nat):(∀ (a0:Tt) (a1:Tt) (r:Int),impl_compareTermsN n a0 a1=some r→Sat ah 41 [((ag false) a0),((ag false) a1)] (I r)):=by
 induction n with
 | zero=>exact fun _ _ _ h=>by simp[impl_compareTermsN] at h
 | succ n ih=>
  refine fun a0 a1 r h=>?_
  obtain⟨h,cs⟩:=ar h
  rw[impl_compareTermsN] at h
  refine aw (nt:=46) (rs:=[.tmp 4]) (n:=100000) Tryz.func41 rfl rfl rfl rfl (by simp) (S ?_)
  obtain⟨v9,hv9,h⟩:=run_bind h
  refine am [false] (impl_isVar_sat hv9) SC (S ?_)
  obtain⟨v11,hv11,h⟩:=run_bind h
  refine am [false] (impl_isVar_sat hv11) SC (S ?_)
  refine ae (aL [] []) (S ?_)
  refine al cs h (fun cs h=>S ?_) (fun cs h=>S ?_)
  ·refine al cs h (fun cs h=>S ?_) (fun cs h=>S ?_)
   ·obtain⟨v28,hv28,h⟩:=run_bind h
    refine am [false,false] (cmp_Compare_string_sat hv28) SC (S ?_)
    obtain⟨v35,hv35,h⟩:=run_bind h
    refine am [false,false] (cmp_Compare_int_sat hv35) SC (S ?_)
    obtain⟨v37,hv37,h⟩:=run_bind h
    refine am [false] (cmp_Or_int_sat hv37) SC (S ?_)
    refine ae (aL [] [576]) (S ?_)
    refine al cs h (fun cs h=>S ?_) (fun cs h=>S ?_)
    ·obtain⟨v45,hv45,h⟩:=run_bind h
     refine am [false,false,false] (slices_CompareFunc_Simpl_Term_Simpl_Term_impl_Term_impl_Term_sat (fun _ _ _ hh=>ih _ _ _ hh) (by simp only[CapsOk_nil,CapsOk_cons]) hv45) SC (S ?_)
     cases run_some h
     exact aj SC
    ·cases run_some h
     exact aj SC
   ·cases run_some h
    exact aj SC
  ·refine al cs h (fun cs h=>S ?_) (fun cs h=>S ?_)
   ·cases run_some h
    exact aj SC
   ·obtain⟨v28,hv28,h⟩:=run_bind h
    refine am [false,false] (cmp_Compare_string_sat hv28) SC (S ?_)
    obtain⟨v35,hv35,h⟩:=run_bind h
    refine am [false,false] (cmp_Compare_int_sat hv35) SC (S ?_)
    obtain⟨v37,hv37,h⟩:=run_bind h
    refine am [false] (cmp_Or_int_sat hv37) SC (S ?_)
    refine ae (aL [] [576]) (S ?_)
    refine al cs h (fun cs h=>S ?_) (fun cs h=>S ?_)
    ·obtain⟨v45,hv45,h⟩:=run_bind h
     refine am [false,false,false] (slices_CompareFunc_Simpl_Term_Simpl_Term_impl_Term_impl_Term_sat (fun _ _ _ hh=>ih _ _ _ hh) (by simp only[CapsOk_nil,CapsOk_cons]) hv45) SC (S ?_)
     cases run_some h
     exact aj SC
    ·cases run_some h
     exact aj SC
theorem impl_compareTerms_sat{a0:Tt}{a1:Tt}{r:Int}(h:impl_compareTerms a0 a1=some r):Sat ah 41 [((ag false) a0),((ag false) a1)] (I r):=by
 obtain⟨n,hn⟩:=lim_some h
 exact(impl_compareTermsN_sat n) _ _ _ hn

theorem slices_SortFuncT_sat{a0:List Tt}{r:Unit×List Tt}(h:slices_SortFuncT a0=some r):SatIO ah 40 [.sl true 2 (a0.map (ag true)),.clo 41 []] [.sl true 2 (r.2.map (ag true)),.clo 41 []] (.tup []):=sortT_sat (fun h=>impl_compareTerms_sat h) h

theorem impl_groups_sat{a0:List Tt}  {r:List gc}(h:impl_groups a0=some r):Sat ah 33 [(.sl false 2 (a0.map (ag false)))] (.sl true 4 (r.map (gc.pv true))):=by
 obtain⟨h,cs⟩:=ar h
 unfold impl_groups at h
 refine aw (nt:=51) (rs:=[.tmp 2]) (n:=100000) Tryz.func33 rfl rfl rfl rfl (by simp) (S ?_)
 obtain⟨v14,hv14,h⟩:=run_bind h
 refine ShlH.mk hv14 (S ?_)
 obtain⟨N3,hN3,h⟩:=run_bind h
 obtain⟨hN3a,hN3b⟩:=bnd_some hN3
 replace h:=run_loop h
 refine aM h (fun i3 s3=>[(0,.val (.pv (.sl false 2 (a0.map (ag false))))),(3,.val (.own 176)),(14,.val (.pv (I v14))),(15,.val (.pv (I (i3:Int))))]) (fun i3 s3=>[(176,(4,s3.map (gc.pv true)))]) (ao SC) (fun i3 s3 hi h=>?_) (fun s3 h=>?_)
 ·have w:=wrap_succ (i:=i3) (by omega)
  refine S ?_
  refine aI cs (by omega) (fun cs=>S ?_)
  obtain⟨v20,hv20,h⟩:=run_bind h
  refine am [false,false] (impl_subset_sat hv20) SC (S ?_)
  refine al cs h (fun cs h=>S ?_) (fun cs h=>S ?_)
  ·have h:=run_some h
   refine aq ⟨_,h,?_⟩
   exact ao SWx
  ·obtain⟨v26,hv26,h⟩:=run_bind h
   refine am [false] (impl_generalization_sat hv26) SC (S ?_)
   refine Mg.know_own (sz:=2) (es:=v26.2.map (ag true)) 417 SC fun hl417=>?_; rw[au] at hl417
   replace h:=run_loop h
   refine aM h (fun i10 s10=>[(0,.val (.pv (.sl false 2 (a0.map (ag false))))),(3,.val (.own 176)),(4,.val (.pv (I (i3:Int)))),(6,.box (.node [(.pv (Sx v26.1.Name)),(.own 416)])),(8,.val (.own 464)),(14,.val (.pv (I v14))),(15,.val (.pv (I (i3:Int)))),(30,.val (.pv (.sl false 2 (v26.2.map (ag false))))),(31,.val (.pv (I (v26.2.length:Int)))),(32,.val (.pv (I (i10:Int))))]) (fun i10 s10=>[(176,(4,s3.map (gc.pv true))),(416,(2,v26.1.Args.map (ag true))),(464,(2,s10.map (ag true)))]) (bn (St.le_demV (x:=(.own 417)) (sz:=(2)) (es:=v26.2.map (ag true)) 30 [] 417 SC) (ao SC)) (fun i10 s10 hi h=>?_) (fun s10 h=>?_)
   ·have w:=ae (wrap_succ (i:=i10) (by omega)) w
    refine S ?_
    refine aI cs (by omega) (fun cs=>S ?_)
    obtain⟨v34,hv34,h⟩:=run_bind h
    refine av (f:=(ag false)) hv34 SC (S ?_)
    obtain⟨v38,hv38,h⟩:=run_bind h
    refine am [true,false] (impl_addAtom_sat hv38) SC (S ?_)
    have h:=run_some h
    refine aq ⟨_,h,?_⟩
    refine bd 608 464 ?_
    exact ao SWx
   ·refine S ?_
    refine aJ cs (by omega) (fun cs=>S ?_)
    obtain⟨v41,hv41,h⟩:=run_bind h
    refine CallH.io0 [(.own 464),(.pv (.clo 41 []))] [(464,(2,v41.2.map (ag true)))] (slices_SortFuncT_sat hv41) SC (S ?_)
    obtain⟨v48,hv48,h⟩:=run_bind h
    refine aN (f:=(gc.pv true)) (fun a=>gc.psize _ a) hv48 SC SC (S ?_)
    have h:=run_some h
    refine aq ⟨_,h,?_⟩
    refine bd 768 176 ?_
    exact ao SWx
 ·refine S ?_
  refine aJ cs (by omega) (fun cs=>S ?_)
  cases run_some h
  exact aj SC

theorem impl_SmallestDecomposition_1_sat{a0:gc}{b0:gc}  {r:Bool}(h:impl_SmallestDecomposition_1 a0 b0=some r):Sat ah 34 [((gc.pv false) a0),.ptr ((gc.pv false) b0)] (B r):=by
 obtain⟨h,cs⟩:=ar h
 unfold impl_SmallestDecomposition_1 at h
 refine aw (nt:=9) (rs:=[.tmp 3]) (n:=100000) Tryz.func34 rfl rfl rfl rfl (by simp) (S ?_)
 obtain⟨v8,hv8,h⟩:=run_bind h
 refine am [false,false,false] (slices_EqualFunc_Simpl_Term_Simpl_Term_impl_Term_impl_Term_sat (fun _ _ _ hh=>impl_EqualTerms_sat hh) (by simp only[CapsOk_nil,CapsOk_cons]) hv8) SC (S ?_)
 cases run_some h
 exact aj SC

theorem slices_IndexFunc_Simpl_grouped_impl_grouped_sat{a0:List gc}{a1:gc→Option Bool}{a1_id:FuncId}{a1_cs:List PV}(a1_ok:∀ y0 r,a1 y0=some r→Sat ah a1_id (((gc.pv false) y0)::a1_cs) (B r))(a1_cz:CapsOk a1_cs=True){r:Int}(h:slices_IndexFunc_Simpl_grouped_impl_grouped a0 a1=some r):Sat ah 68 [(.sl false 4 (a0.map (gc.pv false))),.clo a1_id a1_cs] (I r):=by
 obtain⟨h,cs⟩:=ar h
 unfold slices_IndexFunc_Simpl_grouped_impl_grouped at h
 have cs:=ae a1_cz cs
 refine aw (nt:=19) (rs:=[.tmp 4]) (n:=100000) Tryz.func68 rfl rfl rfl rfl (by simp) (S ?_)
 refine aW (b:=false) (sz:=4) (es:=a0.map (gc.pv false)) 0 SC fun hl0=>?_; rw[au] at hl0
 replace h:=run_loop h
 refine aM h (fun i2 s2=>[(0,.val (.pv (.sl false 4 (a0.map (gc.pv false))))),(1,.val (.pv (.clo a1_id a1_cs))),(7,.val (.pv (I (a0.length:Int)))),(8,.val (.pv (I (i2:Int))))]) (fun i2 s2=>[]) (ao SC) (fun i2 s2 hi h=>?_) (fun s2 h=>?_)
 ·have w:=wrap_succ (i:=i2) (by omega)
  refine S ?_
  refine aI cs (by omega) (fun cs=>S ?_)
  obtain⟨v14,hv14,h⟩:=run_bind h
  refine av (f:=(gc.pv false)) hv14 SC (S ?_)
  obtain⟨v16,hv16,h⟩:=run_bind h
  refine am [false] (a1_ok _ _ hv16) SC (S ?_)
  refine al cs h (fun cs h=>S ?_) (fun cs h=>S ?_)
  ·cases run_some h
   exact aj SC
  ·have h:=run_some h
   refine aq ⟨_,h,?_⟩
   exact ao SWx
 ·refine S ?_
  refine aJ cs (by omega) (fun cs=>S ?_)
  cases run_some h
  exact aj SC

theorem slices_ContainsFunc_Simpl_grouped_impl_grouped_sat{a0:List gc}{a1:gc→Option Bool}{a1_id:FuncId}{a1_cs:List PV}(a1_ok:∀ y0 r,a1 y0=some r→Sat ah a1_id (((gc.pv false) y0)::a1_cs) (B r))(a1_cz:CapsOk a1_cs=True){r:Bool}(h:slices_ContainsFunc_Simpl_grouped_impl_grouped a0 a1=some r):Sat ah 37 [(.sl false 4 (a0.map (gc.pv false))),.clo a1_id a1_cs] (B r):=by
 obtain⟨h,cs⟩:=ar h
 unfold slices_ContainsFunc_Simpl_grouped_impl_grouped at h
 have cs:=ae a1_cz cs
 refine aw (nt:=9) (rs:=[.tmp 4]) (n:=100000) Tryz.func37 rfl rfl rfl rfl (by simp) (S ?_)
 obtain⟨v7,hv7,h⟩:=run_bind h
 refine am [false,false] (slices_IndexFunc_Simpl_grouped_impl_grouped_sat a1_ok a1_cz hv7) SC (S ?_)
 cases run_some h
 exact aj SC

theorem impl_coverFromN_sat(n:Nat):(∀ (a0:List ct) (a1:Int) (a2:Int) (a3:Int) (r:(List Int)×Bool),impl_coverFromN n a0 a1 a2 a3=some r→Sat ah 69 [(.sl false 3 (a0.map (ct.pv false))),(I a1),(I a2),(I a3)] (.tup [(.sl true 1 (r.1.map I)),(B r.2)])):=by
 induction n with
 | zero=>exact fun _ _ _ _ _ h=>by simp[impl_coverFromN] at h
 | succ n ih=>
  refine fun a0 a1 a2 a3 r h=>?_
  obtain⟨h,cs⟩:=ar h
  rw[impl_coverFromN] at h
  refine aw (nt:=45) (rs:=[.tmp 8,.tmp 9]) (n:=100000) Tryz.func69 rfl rfl rfl rfl (by simp) (S ?_)
  refine al cs h (fun cs h=>S ?_) (fun cs h=>S ?_)
  ·cases run_some h
   exact aj SC
  ·replace h:=run_loop h
   refine Mg.whileN h (fun s4=>[(0,.val (.pv (.sl false 3 (a0.map (ct.pv false))))),(2,.val (.pv (I a2))),(3,.val (.pv (I a3))),(10,.val (.pv (I s4)))]) (fun s4=>[]) (ao SC) (fun n4 s4 h=>?_)
   refine S ?_
   refine al cs h (fun cs h=>S ?_) (fun cs h=>S ?_)
   ·obtain⟨v33,hv33,h⟩:=run_bind h
    refine av (f:=(ct.pv false)) hv33 SC (S ?_)
    obtain⟨v37,hv37,h⟩:=run_bind h
    refine am [false,false,false,false] (ih _ _ _ _ _ hv37) SC (S ?_)
    refine al cs h (fun cs h=>S ?_) (fun cs h=>S ?_)
    ·obtain⟨v44,hv44,h⟩:=run_bind h
     refine aN (f:=I) (fun _=>rfl) hv44 SC SC (S ?_)
     cases run_some h
     exact aj SC
    ·have h:=run_some h
     refine aq ⟨_,h,?_⟩
     exact ao SC
   ·have h:=run_some h
    cases run_some h
    exact aj SC
theorem impl_coverFrom_sat{a0:List ct}{a1:Int}{a2:Int}{a3:Int}{r:(List Int)×Bool}(h:impl_coverFrom a0 a1 a2 a3=some r):Sat ah 69 [(.sl false 3 (a0.map (ct.pv false))),(I a1),(I a2),(I a3)] (.tup [(.sl true 1 (r.1.map I)),(B r.2)]):=by
 obtain⟨n,hn⟩:=lim_some h
 exact(impl_coverFromN_sat n) _ _ _ _ _ hn

theorem impl_cover_sat{a0:List ct}{a1:Int}  {r:List Int}(h:impl_cover a0 a1=some r):Sat ah 38 [(.sl false 3 (a0.map (ct.pv false))),(I a1)] (.sl true 1 (r.map I)):=by
 obtain⟨h,cs⟩:=ar h
 unfold impl_cover at h
 refine aw (nt:=19) (rs:=[.tmp 4]) (n:=100000) Tryz.func38 rfl rfl rfl rfl (by simp) (S ?_)
 replace h:=run_loop h
 refine Mg.whileN h (fun s3=>[(0,.val (.pv (.sl false 3 (a0.map (ct.pv false))))),(1,.val (.pv (I a1))),(5,.val (.pv (I s3)))]) (fun s3=>[]) (ao SC) (fun n3 s3 h=>?_)
 refine S ?_
 obtain⟨v14,hv14,h⟩:=run_bind h
 refine am [false,false,false,false] (impl_coverFrom_sat hv14) SC (S ?_)
 refine al cs h (fun cs h=>S ?_) (fun cs h=>S ?_)
 ·cases run_some h
  exact aj SC
 ·have h:=run_some h
  refine aq ⟨_,h,?_⟩
  exact ao SC

theorem impl_SmallestDecomposition_sat{a0:List Tt}  {r:Dt×Bool}(h:impl_SmallestDecomposition a0=some r):Sat ah 12 [(.sl false 2 (a0.map (ag false)))] (.tup [((Dt.pv true) r.1),(B r.2)]):=by
 obtain⟨h,cs⟩:=ar h
 unfold impl_SmallestDecomposition at h
 refine aw (nt:=144) (rs:=[.cell 2 31,.tmp 3]) (n:=100000) Tryz.func12 rfl rfl rfl rfl (by simp) (S ?_)
 refine aW (b:=false) (sz:=2) (es:=a0.map (ag false)) 0 SC fun hl0=>?_; rw[au] at hl0
 replace h:=run_loop h
 refine aM h (fun i2 s2=>[(0,.val (.pv (.sl false 2 (a0.map (ag false))))),(2,.box zab2),(19,.val (.pv (.sl false 2 (a0.map (ag false))))),(20,.val (.pv (I (a0.length:Int)))),(21,.val (.pv (I (i2:Int))))]) (fun i2 s2=>[]) (ao SC) (fun i2 s2 hi h=>?_) (fun s2 h=>?_)
 ·have w:=wrap_succ (i:=i2) (by omega)
  refine S ?_
  refine aI cs (by omega) (fun cs=>S ?_)
  obtain⟨v24,hv24,h⟩:=run_bind h
  refine av (f:=(ag false)) hv24 SC (S ?_)
  obtain⟨v27,hv27,h⟩:=run_bind h
  refine am [false] (impl_isGroundTerm_sat hv27) SC (S ?_)
  refine al cs h (fun cs h=>S ?_) (fun cs h=>S ?_)
  ·obtain⟨v32,hv32,h⟩:=run_bind h
   refine SlcH.mk (f:=(ag false)) hv32 SC (S ?_)
   obtain⟨v34,hv34,h⟩:=run_bind h
   refine am [false,false] (impl_indexOfAtom_sat hv34) SC (S ?_)
   refine ae (aL [] []) (S ?_)
   refine al cs h (fun cs h=>S ?_) (fun cs h=>S ?_)
   ·cases run_some h
    exact aj SC
   ·have h:=run_some h
    refine aq ⟨_,h,?_⟩
    exact ao SWx
  ·refine ae (aL [] []) (S ?_)
   cases run_some h
   exact aj SC
 ·refine S ?_
  refine aJ cs (by omega) (fun cs=>S ?_)
  obtain⟨v41,hv41,h⟩:=run_bind h
  refine am [false,false,false] (impl_within_sat hv41) SC (S ?_)
  refine al cs h (fun cs h=>S ?_) (fun cs h=>S ?_)
  ·obtain⟨v45,hv45,h⟩:=run_bind h
   refine am [false] (impl_copyTerms_sat hv45) SC (S ?_)
   obtain⟨v48,hv48,h⟩:=run_bind h
   refine am [false] (Sat.vwOf (res':=(.sl false 4 (v48.map (gc.pv false)))) (impl_groups_sat hv48) (by simp only[view_tup,view_sl,view_agg,view_lit,az,RB,RS])) SC (S ?_)
   refine aW (b:=false) (sz:=4) (es:=v48.map (gc.pv false)) 7 SC fun hl7=>?_; rw[au] at hl7
   replace h:=run_loop h
   refine aM h (fun i12 s12=>[(0,.val (.pv (.sl false 2 (a0.map (ag false))))),(2,.box zab2),(6,.box (.node [(.own 720),(.own 9336)])),(7,.val (.pv (.sl false 4 (v48.map (gc.pv false))))),(49,.val (.pv (.sl false 4 (v48.map (gc.pv false))))),(50,.val (.pv (I (v48.length:Int)))),(51,.val (.pv (I (i12:Int))))]) (fun i12 s12=>[(720,(2,s12.1.map (ag true))),(9336,(2,s12.2.map (ag true)))]) (bn (St.le_nilB (x:=(.node [(.own 720),(.pv (.sl true 2 []))])) 6 [1] 9336 2 NM SC SC SC) (ao SC)) (fun i12 s12 hi h=>?_) (fun s12 h=>?_)
   ·have w:=wrap_succ (i:=i12) (by omega)
    refine S ?_
    refine aI cs (by omega) (fun cs=>S ?_)
    obtain⟨v54,hv54,h⟩:=run_bind h
    refine av (f:=(gc.pv false)) hv54 SC (S ?_)
    refine MfH.fr (S ?_)
    obtain⟨v59,hv59,h⟩:=run_bind h
    refine SlcH.mk (f:=(gc.pv false)) hv59 SC (S ?_)
    obtain⟨v61,hv61,h⟩:=run_bind h
    refine am [false,false] (slices_ContainsFunc_Simpl_grouped_impl_grouped_sat (fun _ _ hh=>impl_SmallestDecomposition_1_sat hh) (by simp only[CapsOk_nil,CapsOk_cons]) hv61) SC (S ?_)
    refine al cs h (fun cs h=>S ?_) (fun cs h=>S ?_)
    ·have h:=run_some h
     refine aq ⟨_,h,?_⟩
     exact ao SWx
    ·refine aW (b:=false) (sz:=4) (es:=v48.map (gc.pv false)) 7 SC fun hl7=>?_; rw[au] at hl7
     replace h:=run_loop h
     refine aM h (fun i18 s18=>[(0,.val (.pv (.sl false 2 (a0.map (ag false))))),(2,.box zab2),(6,.box (.node [(.own 720),(.own 9336)])),(7,.val (.pv (.sl false 4 (v48.map (gc.pv false))))),(9,.val (.pv (.ptr ((gc.pv false) v54)))),(10,.val (.pv (.clo 34 [(.ptr ((gc.pv false) v54))]))),(11,.val (.own 992)),(49,.val (.pv (.sl false 4 (v48.map (gc.pv false))))),(50,.val (.pv (I (v48.length:Int)))),(51,.val (.pv (I (i12:Int)))),(63,.val (.pv (.sl false 4 (v48.map (gc.pv false))))),(64,.val (.pv (I (v48.length:Int)))),(65,.val (.pv (I (i18:Int))))]) (fun i18 s18=>[(720,(2,s12.1.map (ag true))),(9336,(2,s12.2.map (ag true))),(992,(3,s18.map (ct.pv false)))]) (ao SC) (fun i18 s18 hi h=>?_) (fun s18 h=>?_)
     ·have w:=ae (wrap_succ (i:=i18) (by omega)) w
      refine S ?_
      refine aI cs (by omega) (fun cs=>S ?_)
      obtain⟨v67,hv67,h⟩:=run_bind h
      refine av (f:=(gc.pv false)) hv67 SC (S ?_)
      obtain⟨v71,hv71,h⟩:=run_bind h
      refine am [false] (impl_SmallestDecomposition_1_sat hv71) SC (S ?_)
      refine al cs h (fun cs h=>S ?_) (fun cs h=>S ?_)
      ·obtain⟨v79,hv79,h⟩:=run_bind h
       refine aN (f:=(ct.pv false)) (fun a=>ct.psize _ a) hv79 SC SC (S ?_)
       have h:=run_some h
       refine aq ⟨_,h,?_⟩
       refine bd 1264 992 ?_
       exact ao SWx
      ·have h:=run_some h
       refine aq ⟨_,h,?_⟩
       exact ao SWx
     ·refine S ?_
      refine aJ cs (by omega) (fun cs=>S ?_)
      refine aW (b:=false) (sz:=2) (es:=a0.map (ag false)) 0 SC fun hl0=>?_; rw[au] at hl0
      replace h:=run_loop h
      refine aM h (fun i24 s24=>[(0,.val (.pv (.sl false 2 (a0.map (ag false))))),(2,.box zab2),(6,.box (.node [(.own 720),(.own 9336)])),(7,.val (.pv (.sl false 4 (v48.map (gc.pv false))))),(9,.val (.pv (.ptr ((gc.pv false) v54)))),(11,.val (.own 992)),(49,.val (.pv (.sl false 4 (v48.map (gc.pv false))))),(50,.val (.pv (I (v48.length:Int)))),(51,.val (.pv (I (i12:Int)))),(81,.val (.pv (.sl false 2 (a0.map (ag false))))),(82,.val (.pv (I (a0.length:Int)))),(83,.val (.pv (I (i24:Int))))]) (fun i24 s24=>[(720,(2,s12.1.map (ag true))),(9336,(2,s12.2.map (ag true))),(992,(3,s24.map (ct.pv false)))]) (ao SC) (fun i24 s24 hi h=>?_) (fun s24 h=>?_)
      ·have w:=ae (wrap_succ (i:=i24) (by omega)) w
       refine S ?_
       refine aI cs (by omega) (fun cs=>S ?_)
       obtain⟨v86,hv86,h⟩:=run_bind h
       refine av (f:=(ag false)) hv86 SC (S ?_)
       obtain⟨v91,hv91,h⟩:=run_bind h
       refine ShlH.mk hv91 (S ?_)
       obtain⟨v94,hv94,h⟩:=run_bind h
       refine aN (f:=(ct.pv false)) (fun a=>ct.psize _ a) hv94 SC SC (S ?_)
       refine ae (aL [] [1488,1504]) (S ?_)
       have h:=run_some h
       refine aq ⟨_,h,?_⟩
       refine bd 1504 992 ?_
       exact ao SWx
      ·refine S ?_
       obtain⟨v98,hv98,h⟩:=run_bind h
       refine am [false] (impl_copyTerms_sat hv98) SC (S ?_)
       obtain⟨v103,hv103,h⟩:=run_bind h
       refine ShlH.mk hv103 (S ?_)
       obtain⟨v105,hv105,h⟩:=run_bind h
       refine am [false,false] (impl_cover_sat hv105) SC (S ?_)
       refine Mg.know_own (sz:=1) (es:=v105.map I) 1680 SC fun hl1680=>?_; rw[au] at hl1680
       replace h:=run_loop h
       refine aM h (fun i30 s30=>[(0,.val (.pv (.sl false 2 (a0.map (ag false))))),(2,.box zab2),(6,.box (.node [(.own 720),(.own 9336)])),(7,.val (.pv (.sl false 4 (v48.map (gc.pv false))))),(11,.val (.own 992)),(16,.box (.node [(.own 9390),(.own 1568)])),(49,.val (.pv (.sl false 4 (v48.map (gc.pv false))))),(50,.val (.pv (I (v48.length:Int)))),(51,.val (.pv (I (i12:Int)))),(105,.val (.own 1680)),(106,.val (.pv (I (v105.length:Int)))),(107,.val (.pv (I (i30:Int))))]) (fun i30 s30=>[(720,(2,s12.1.map (ag true))),(9336,(2,s12.2.map (ag true))),(992,(3,s24.map (ct.pv false))),(9390,(2,s30.map (ag true))),(1568,(2,v98.map (ag true))),(1680,(1,v105.map I))]) (bn (St.le_nilB (x:=(.node [(.pv (.sl true 2 [])),(.own 1568)])) 16 [0] 9390 2 NM SC SC SC) (ao SC)) (fun i30 s30 hi h=>?_) (fun s30 h=>?_)
       ·have w:=ae (wrap_succ (i:=i30) (by omega)) w
        refine S ?_
        refine aI cs (by omega) (fun cs=>S ?_)
        obtain⟨v109,hv109,h⟩:=run_bind h
        refine av (f:=I) hv109 SC (S ?_)
        obtain⟨v110,hv110,h⟩:=run_bind h
        refine EldH.mk (f:=I) hv110 rfl SC (S ?_)
        obtain⟨v115,hv115,h⟩:=run_bind h
        refine av (f:=(ct.pv false)) hv115 SC (S ?_)
        obtain⟨v117,hv117,h⟩:=run_bind h
        refine EldH.mk (f:=(ct.pv false)) hv117 rfl SC (S ?_)
        obtain⟨v118,hv118,h⟩:=run_bind h
        refine am [false] (impl_copyTerm_sat hv118) SC (S ?_)
        obtain⟨v120,hv120,h⟩:=run_bind h
        refine aN (f:=(ag true)) (fun a=>aY _ a) hv120 SC SC (S ?_)
        refine ae (aL [] [1888,1904,1920]) (S ?_)
        have h:=run_some h
        refine aq ⟨_,h,?_⟩
        refine bd 1920 9390 ?_
        exact ao SWx
       ·refine S ?_
        refine aJ cs (by omega) (fun cs=>S ?_)
        refine al cs h (fun cs h=>S ?_) (fun cs h=>S ?_)
        ·have h:=run_some h
         refine aq ⟨_,h,?_⟩
         refine bd 1568 9336 ?_
         refine bd 9390 720 ?_
         exact ao SWx
        ·have h:=run_some h
         refine aq ⟨_,h,?_⟩
         exact ao SWx
   ·refine S ?_
    refine aJ cs (by omega) (fun cs=>S ?_)
    obtain⟨v142,hv142,h⟩:=run_bind h
    refine CallH.io0 [(.own 720),(.pv (.clo 41 []))] [(720,(2,v142.2.map (ag true)))] (slices_SortFuncT_sat hv142) SC (S ?_)
    cases run_some h
    exact aj SC
  ·cases run_some h
   exact aj SC

theorem impl_SizeGain_sat{a0:List Tt}  {r:Int×Bool}(h:impl_SizeGain a0=some r):Sat ah 9 [(.sl false 2 (a0.map (ag false)))] (.tup [(I r.1),(B r.2)]):=by
 obtain⟨h,cs⟩:=ar h
 unfold impl_SizeGain at h
 refine aw (nt:=23) (rs:=[.tmp 2,.tmp 3]) (n:=100000) Tryz.func9 rfl rfl rfl rfl (by simp) (S ?_)
 obtain⟨v8,hv8,h⟩:=run_bind h
 refine am [false] (impl_SmallestDecomposition_sat hv8) SC (S ?_)
 refine al cs h (fun cs h=>S ?_) (fun cs h=>S ?_)
 ·cases run_some h
  exact aj SC
 ·cases run_some h
  exact aj SC

theorem spec_l2Put_sat{a0:List ByteArray}{a1:ByteArray}  {r:List ByteArray}(h:spec_l2Put a0 a1=some r):Sat ah 157 [(.sl false 1 (a0.map Sx)),(Sx a1)] (.sl false 1 (r.map Sx)):=by
 obtain⟨h,cs⟩:=ar h
 unfold spec_l2Put at h
 refine aw (nt:=45) (rs:=[.tmp 4]) (n:=100000) Tryz.func157 rfl rfl rfl rfl (by simp) (S ?_)
 refine aW (b:=false) (sz:=1) (es:=a0.map Sx) 0 SC fun hl0=>?_; rw[au] at hl0
 replace h:=run_loop h
 refine aM h (fun i2 s2=>[(0,.val (.pv (.sl false 1 (a0.map Sx)))),(1,.val (.pv (Sx a1))),(5,.val (.pv (I (i2:Int))))]) (fun i2 s2=>[]) (ao SC) (fun i2 s2 hi h=>?_) (fun s2 h=>?_)
 ·have w:=wrap_succ (i:=i2) (by omega)
  refine S ?_
  refine aI cs (by omega) (fun cs=>S ?_)
  obtain⟨v13,hv13,h⟩:=run_bind h
  refine av (f:=Sx) hv13 SC (S ?_)
  refine al cs h (fun cs h=>S ?_) (fun cs h=>S ?_)
  ·have h:=run_some h
   refine aq ⟨_,h,?_⟩
   exact ao SWx
  ·obtain⟨v27,hv27,h⟩:=run_bind h
   refine av (f:=Sx) hv27 SC (S ?_)
   refine al cs h (fun cs h=>S ?_) (fun cs h=>S ?_)
   ·cases run_some h
    exact FinH.r SC
   ·obtain⟨v36,hv36,h⟩:=run_bind h
    refine SlcH.mk (f:=Sx) hv36 SC (S ?_)
    obtain⟨v37,hv37,h⟩:=run_bind h
    refine aN (f:=Sx) (fun _=>rfl) hv37 SC SC (S ?_)
    obtain⟨v40,hv40,h⟩:=run_bind h
    refine aN (f:=Sx) (fun _=>rfl) hv40 SC SC (S ?_)
    obtain⟨v43,hv43,h⟩:=run_bind h
    refine SlcH.mk (f:=Sx) hv43 SC (S ?_)
    obtain⟨v44,hv44,h⟩:=run_bind h
    refine aN (f:=Sx) (fun _=>rfl) hv44 SC SC (S ?_)
    refine ae (aL [] [528,592,624,640,704]) (S ?_)
    cases run_some h
    exact FinH.r SC
 ·refine S ?_
  refine aJ cs (by omega) (fun cs=>S ?_)
  obtain⟨v36,hv36,h⟩:=run_bind h
  refine SlcH.mk (f:=Sx) hv36 SC (S ?_)
  obtain⟨v37,hv37,h⟩:=run_bind h
  refine aN (f:=Sx) (fun _=>rfl) hv37 SC SC (S ?_)
  obtain⟨v40,hv40,h⟩:=run_bind h
  refine aN (f:=Sx) (fun _=>rfl) hv40 SC SC (S ?_)
  obtain⟨v43,hv43,h⟩:=run_bind h
  refine SlcH.mk (f:=Sx) hv43 SC (S ?_)
  obtain⟨v44,hv44,h⟩:=run_bind h
  refine aN (f:=Sx) (fun _=>rfl) hv44 SC SC (S ?_)
  refine ae (aL [] [528,592,624,640,704]) (S ?_)
  cases run_some h
  exact FinH.r SC

theorem spec_l2IntoN_sat(n:Nat):(∀ (a0:List ByteArray) (a1:Tt) (r:List ByteArray),spec_l2IntoN n a0 a1=some r→Sat ah 148 [(.sl false 1 (a0.map Sx)),((ag false) a1)] (.sl false 1 (r.map Sx))):=by
 induction n with
 | zero=>exact fun _ _ _ h=>by simp[spec_l2IntoN] at h
 | succ n ih=>
  refine fun a0 a1 r h=>?_
  obtain⟨h,cs⟩:=ar h
  rw[spec_l2IntoN] at h
  refine aw (nt:=28) (rs:=[.tmp 4]) (n:=100000) Tryz.func148 rfl rfl rfl rfl (by simp) (S ?_)
  obtain⟨v8,hv8,h⟩:=run_bind h
  refine am [false] (spec_l2Var_sat hv8) SC (S ?_)
  refine al cs h (fun cs h=>S ?_) (fun cs h=>S ?_)
  ·obtain⟨v12,hv12,h⟩:=run_bind h
   refine am [false,false] (spec_l2Put_sat hv12) SC (S ?_)
   cases run_some h
   exact FinH.r SC
  ·refine Mg.know_val2 (b:=false) (sz:=2) (es:=a1.Args.map (ag false)) (x:=(.pv ((ag false) a1))) 1 [1] SC fun hl1=>?_; rw[au] at hl1
   replace h:=run_loop h
   refine aM h (fun i4 s4=>[(0,.val (.pv (.sl false 1 (s4.map Sx)))),(3,.box (.pv ((ag false) a1))),(5,.val (.pv (I (i4:Int))))]) (fun i4 s4=>[]) (ao SC) (fun i4 s4 hi h=>?_) (fun s4 h=>?_)
   ·have w:=wrap_succ (i:=i4) (by omega)
    refine S ?_
    refine aI cs (by omega) (fun cs=>S ?_)
    obtain⟨v24,hv24,h⟩:=run_bind h
    refine av (f:=(ag false)) hv24 SC (S ?_)
    obtain⟨v26,hv26,h⟩:=run_bind h
    refine am [false,false] (ih _ _ _ hv26) SC (S ?_)
    have h:=run_some h
    refine aq ⟨_,h,?_⟩
    exact ao SWx
   ·refine S ?_
    refine aJ cs (by omega) (fun cs=>S ?_)
    cases run_some h
    exact FinH.r SC
theorem spec_l2Into_sat{a0:List ByteArray}{a1:Tt}{r:List ByteArray}(h:spec_l2Into a0 a1=some r):Sat ah 148 [(.sl false 1 (a0.map Sx)),((ag false) a1)] (.sl false 1 (r.map Sx)):=by
 obtain⟨n,hn⟩:=lim_some h
 exact(spec_l2IntoN_sat n) _ _ _ hn

theorem spec_l2Vars_sat{a0:Tt}  {r:List ByteArray}(h:spec_l2Vars a0=some r):Sat ah 122 [((ag false) a0)] (.sl false 1 (r.map Sx)):=by
 obtain⟨h,cs⟩:=ar h
 unfold spec_l2Vars at h
 refine aw (nt:=6) (rs:=[.tmp 2]) (n:=100000) Tryz.func122 rfl rfl rfl rfl (by simp) (S ?_)
 obtain⟨v5,hv5,h⟩:=run_bind h
 refine am [true,false] (Sat.give (args:=[(.sl true 1 (([]).map Sx)),((ag false) a0)]) [true,false] (by have gg:=spec_l2Into_sat hv5; simp only[gv_t,gv_f,gv_n,view_sl,view_agg,view_lit,views_repB,views_repI,az,RB,RS] at gg ⊢; exact gg)) SC (S ?_)
 cases run_some h
 exact FinH.r SC

theorem spec_l16Ground_sat{a0:Tt}  {r:Bool}(h:spec_l16Ground a0=some r):Sat ah 89 [((ag false) a0)] (B r):=by
 obtain⟨h,cs⟩:=ar h
 unfold spec_l16Ground at h
 refine aw (nt:=7) (rs:=[.tmp 2]) (n:=100000) Tryz.func89 rfl rfl rfl rfl (by simp) (S ?_)
 obtain⟨v4,hv4,h⟩:=run_bind h
 refine am [false] (spec_l2Vars_sat hv4) SC (S ?_)
 cases run_some h
 exact aj SC

theorem spec_l16Terms_sat{a0:List Tt}  {r:Bool}(h:spec_l16Terms a0=some r):Sat ah 57 [(.sl false 2 (a0.map (ag false)))] (B r):=by
 obtain⟨h,cs⟩:=ar h
 unfold spec_l16Terms at h
 refine aw (nt:=31) (rs:=[.tmp 2]) (n:=100000) Tryz.func57 rfl rfl rfl rfl (by simp) (S ?_)
 refine aW (b:=false) (sz:=2) (es:=a0.map (ag false)) 0 SC fun hl0=>?_; rw[au] at hl0
 replace h:=run_loop h
 refine aM h (fun i2 s2=>[(0,.val (.pv (.sl false 2 (a0.map (ag false))))),(3,.val (.pv (I (i2:Int))))]) (fun i2 s2=>[]) (ao SC) (fun i2 s2 hi h=>?_) (fun s2 h=>?_)
 ·have w:=wrap_succ (i:=i2) (by omega)
  refine S ?_
  refine aI cs (by omega) (fun cs=>S ?_)
  refine al cs h (fun cs h=>S ?_) (fun cs h=>S ?_)
  ·obtain⟨v16,hv16,h⟩:=run_bind h
   refine av (f:=(ag false)) hv16 SC (S ?_)
   obtain⟨v18,hv18,h⟩:=run_bind h
   refine am [false] (spec_l2Good_sat hv18) SC (S ?_)
   refine al cs h (fun cs h=>S ?_) (fun cs h=>S ?_)
   ·obtain⟨v23,hv23,h⟩:=run_bind h
    refine av (f:=(ag false)) hv23 SC (S ?_)
    obtain⟨v25,hv25,h⟩:=run_bind h
    refine am [false] (spec_l16Ground_sat hv25) SC (S ?_)
    refine al cs h (fun cs h=>S ?_) (fun cs h=>S ?_)
    ·have h:=run_some h
     refine aq ⟨_,h,?_⟩
     exact ao SWx
    ·cases run_some h
     exact aj SC
   ·cases run_some h
    exact aj SC
  ·cases run_some h
   exact aj SC
 ·refine S ?_
  refine aJ cs (by omega) (fun cs=>S ?_)
  cases run_some h
  exact aj SC

theorem spec_l22Different_sat{a0:List Tt}  {r:Bool}(h:spec_l22Different a0=some r):Sat ah 25 [(.sl false 2 (a0.map (ag false)))] (B r):=by
 obtain⟨h,cs⟩:=ar h
 unfold spec_l22Different at h
 refine aw (nt:=28) (rs:=[.tmp 2]) (n:=100000) Tryz.func25 rfl rfl rfl rfl (by simp) (S ?_)
 obtain⟨v6,hv6,h⟩:=run_bind h
 refine am [false,false,false] (spec_l1In_sat hv6) SC (S ?_)
 refine al cs h (fun cs h=>S ?_) (fun cs h=>S ?_)
 ·obtain⟨v10,hv10,h⟩:=run_bind h
  refine am [false] (spec_l16Terms_sat hv10) SC (S ?_)
  refine al cs h (fun cs h=>S ?_) (fun cs h=>S ?_)
  ·refine aW (b:=false) (sz:=2) (es:=a0.map (ag false)) 0 SC fun hl0=>?_; rw[au] at hl0
   replace h:=run_loop h
   refine aM h (fun i4 s4=>[(0,.val (.pv (.sl false 2 (a0.map (ag false))))),(3,.val (.pv (I (i4:Int))))]) (fun i4 s4=>[]) (ao SC) (fun i4 s4 hi h=>?_) (fun s4 h=>?_)
   ·have w:=wrap_succ (i:=i4) (by omega)
    refine S ?_
    refine aI cs (by omega) (fun cs=>S ?_)
    obtain⟨v21,hv21,h⟩:=run_bind h
    refine SlcH.mk (f:=(ag false)) hv21 SC (S ?_)
    obtain⟨v24,hv24,h⟩:=run_bind h
    refine av (f:=(ag false)) hv24 SC (S ?_)
    obtain⟨v26,hv26,h⟩:=run_bind h
    refine am [false,false] (spec_l16Index_sat hv26) SC (S ?_)
    refine ae (aL [] []) (S ?_)
    refine al cs h (fun cs h=>S ?_) (fun cs h=>S ?_)
    ·cases run_some h
     exact aj SC
    ·have h:=run_some h
     refine aq ⟨_,h,?_⟩
     exact ao SWx
   ·refine S ?_
    refine aJ cs (by omega) (fun cs=>S ?_)
    cases run_some h
    exact aj SC
  ·cases run_some h
   exact aj SC
 ·cases run_some h
  exact aj SC

theorem spec_l2Text_sat{a0:ByteArray}{a1:ByteArray}  {r:Int}(h:spec_l2Text a0 a1=some r):Sat ah 123 [(Sx a0),(Sx a1)] (I r):=by
 obtain⟨h,cs⟩:=ar h
 unfold spec_l2Text at h
 refine aw (nt:=13) (rs:=[.tmp 4]) (n:=100000) Tryz.func123 rfl rfl rfl rfl (by simp) (S ?_)
 refine al cs h (fun cs h=>S ?_) (fun cs h=>S ?_)
 ·cases run_some h
  exact aj SC
 ·refine al cs h (fun cs h=>S ?_) (fun cs h=>S ?_)
  ·cases run_some h
   exact aj SC
  ·cases run_some h
   exact aj SC

theorem spec_l2CompareN_sat(n:Nat):(∀ (a0:Tt) (a1:Tt) (r:Int),spec_l2CompareN n a0 a1=some r→Sat ah 91 [((ag false) a0),((ag false) a1)] (I r)):=by
 induction n with
 | zero=>exact fun _ _ _ h=>by simp[spec_l2CompareN] at h
 | succ n ih=>
  refine fun a0 a1 r h=>?_
  obtain⟨h,cs⟩:=ar h
  rw[spec_l2CompareN] at h
  refine aw (nt:=75) (rs:=[.tmp 4]) (n:=100000) Tryz.func91 rfl rfl rfl rfl (by simp) (S ?_)
  obtain⟨v11,hv11,h⟩:=run_bind h
  refine am [false] (spec_l2Var_sat hv11) SC (S ?_)
  obtain⟨v14,hv14,h⟩:=run_bind h
  refine am [false] (spec_l2Var_sat hv14) SC (S ?_)
  refine ae (aL [] []) (S ?_)
  refine al cs h (fun cs h=>S ?_) (fun cs h=>S ?_)
  ·refine al cs h (fun cs h=>S ?_) (fun cs h=>S ?_)
   ·refine al cs h (fun cs h=>S ?_) (fun cs h=>S ?_)
    ·refine al cs h (fun cs h=>S ?_) (fun cs h=>S ?_)
     ·cases run_some h
      exact aj SC
     ·refine al cs h (fun cs h=>S ?_) (fun cs h=>S ?_)
      ·cases run_some h
       exact aj SC
      ·refine aW (b:=false) (sz:=2) (es:=a0.Args.map (ag false)) 40 SC fun hl40=>?_; rw[au] at hl40
       replace h:=run_loop h
       refine aM h (fun i13 s13=>[(2,.box (.pv ((ag false) a0))),(3,.box (.pv ((ag false) a1))),(7,.val (.pv (I (i13:Int))))]) (fun i13 s13=>[]) (ao SC) (fun i13 s13 hi h=>?_) (fun s13 h=>?_)
       ·have w:=wrap_succ (i:=i13) (by omega)
        refine S ?_
        refine aI cs (by omega) (fun cs=>S ?_)
        obtain⟨v64,hv64,h⟩:=run_bind h
        refine av (f:=(ag false)) hv64 SC (S ?_)
        obtain⟨v69,hv69,h⟩:=run_bind h
        refine av (f:=(ag false)) hv69 SC (S ?_)
        obtain⟨v71,hv71,h⟩:=run_bind h
        refine am [false,false] (ih _ _ _ hv71) SC (S ?_)
        refine ae (aL [] []) (S ?_)
        refine al cs h (fun cs h=>S ?_) (fun cs h=>S ?_)
        ·have h:=run_some h
         refine aq ⟨_,h,?_⟩
         exact ao SWx
        ·cases run_some h
         exact aj SC
       ·refine S ?_
        refine aJ cs (by omega) (fun cs=>S ?_)
        cases run_some h
        exact aj SC
    ·obtain⟨v37,hv37,h⟩:=run_bind h
     refine am [false,false] (spec_l2Text_sat hv37) SC (S ?_)
     cases run_some h
     exact aj SC
   ·cases run_some h
    exact aj SC
  ·refine al cs h (fun cs h=>S ?_) (fun cs h=>S ?_)
   ·cases run_some h
    exact aj SC
   ·refine al cs h (fun cs h=>S ?_) (fun cs h=>S ?_)
    ·refine al cs h (fun cs h=>S ?_) (fun cs h=>S ?_)
     ·cases run_some h
      exact aj SC
     ·refine al cs h (fun cs h=>S ?_) (fun cs h=>S ?_)
      ·cases run_some h
       exact aj SC
      ·refine aW (b:=false) (sz:=2) (es:=a0.Args.map (ag false)) 40 SC fun hl40=>?_; rw[au] at hl40
       replace h:=run_loop h
       refine aM h (fun i13 s13=>[(2,.box (.pv ((ag false) a0))),(3,.box (.pv ((ag false) a1))),(7,.val (.pv (I (i13:Int))))]) (fun i13 s13=>[]) (ao SC) (fun i13 s13 hi h=>?_) (fun s13 h=>?_)
       ·have w:=wrap_succ (i:=i13) (by omega)
        refine S ?_
        refine aI cs (by omega) (fun cs=>S ?_)
        obtain⟨v64,hv64,h⟩:=run_bind h
        refine av (f:=(ag false)) hv64 SC (S ?_)
        obtain⟨v69,hv69,h⟩:=run_bind h
        refine av (f:=(ag false)) hv69 SC (S ?_)
        obtain⟨v71,hv71,h⟩:=run_bind h
        refine am [false,false] (ih _ _ _ hv71) SC (S ?_)
        refine ae (aL [] []) (S ?_)
        refine al cs h (fun cs h=>S ?_) (fun cs h=>S ?_)
        ·have h:=run_some h
         refine aq ⟨_,h,?_⟩
         exact ao SWx
        ·cases run_some h
         exact aj SC
       ·refine S ?_
        refine aJ cs (by omega) (fun cs=>S ?_)
        cases run_some h
        exact aj SC
    ·obtain⟨v37,hv37,h⟩:=run_bind h
     refine am [false,false] (spec_l2Text_sat hv37) SC (S ?_)
     cases run_some h
     exact aj SC
theorem spec_l2Compare_sat{a0:Tt}{a1:Tt}{r:Int}(h:spec_l2Compare a0 a1=some r):Sat ah 91 [((ag false) a0),((ag false) a1)] (I r):=by
 obtain⟨n,hn⟩:=lim_some h
 exact(spec_l2CompareN_sat n) _ _ _ hn

theorem spec_l16Put_sat{a0:List Tt}{a1:Tt}  {r:List Tt}(h:spec_l16Put a0 a1=some r):Sat ah 59 [(.sl false 2 (a0.map (ag false))),((ag false) a1)] (.sl false 2 (r.map (ag false))):=by
 obtain⟨h,cs⟩:=ar h
 unfold spec_l16Put at h
 refine aw (nt:=46) (rs:=[.tmp 4]) (n:=100000) Tryz.func59 rfl rfl rfl rfl (by simp) (S ?_)
 refine aW (b:=false) (sz:=2) (es:=a0.map (ag false)) 0 SC fun hl0=>?_; rw[au] at hl0
 replace h:=run_loop h
 refine aM h (fun i2 s2=>[(0,.val (.pv (.sl false 2 (a0.map (ag false))))),(3,.box (.pv ((ag false) a1))),(5,.val (.pv (I (i2:Int))))]) (fun i2 s2=>[]) (ao SC) (fun i2 s2 hi h=>?_) (fun s2 h=>?_)
 ·have w:=wrap_succ (i:=i2) (by omega)
  refine S ?_
  refine aI cs (by omega) (fun cs=>S ?_)
  obtain⟨v13,hv13,h⟩:=run_bind h
  refine av (f:=(ag false)) hv13 SC (S ?_)
  obtain⟨v16,hv16,h⟩:=run_bind h
  refine am [false,false] (spec_l2Compare_sat hv16) SC (S ?_)
  refine ae (aL [] []) (S ?_)
  refine al cs h (fun cs h=>S ?_) (fun cs h=>S ?_)
  ·have h:=run_some h
   refine aq ⟨_,h,?_⟩
   exact ao SWx
  ·obtain⟨v28,hv28,h⟩:=run_bind h
   refine av (f:=(ag false)) hv28 SC (S ?_)
   obtain⟨v31,hv31,h⟩:=run_bind h
   refine am [false,false] (spec_l2Same_sat hv31) SC (S ?_)
   refine ae (aL [] []) (S ?_)
   refine al cs h (fun cs h=>S ?_) (fun cs h=>S ?_)
   ·cases run_some h
    exact FinH.r SC
   ·obtain⟨v37,hv37,h⟩:=run_bind h
    refine SlcH.mk (f:=(ag false)) hv37 SC (S ?_)
    obtain⟨v38,hv38,h⟩:=run_bind h
    refine aN (f:=(ag false)) (fun a=>aY _ a) hv38 SC SC (S ?_)
    obtain⟨v41,hv41,h⟩:=run_bind h
    refine aN (f:=(ag false)) (fun a=>aY _ a) hv41 SC SC (S ?_)
    obtain⟨v44,hv44,h⟩:=run_bind h
    refine SlcH.mk (f:=(ag false)) hv44 SC (S ?_)
    obtain⟨v45,hv45,h⟩:=run_bind h
    refine aN (f:=(ag false)) (fun a=>aY _ a) hv45 SC SC (S ?_)
    refine ae (aL [] [544,608,640,656,720]) (S ?_)
    cases run_some h
    exact FinH.r SC
 ·refine S ?_
  refine aJ cs (by omega) (fun cs=>S ?_)
  refine ae (aL [] []) (S ?_)
  refine ae (aL [] []) (S ?_)
  obtain⟨v37,hv37,h⟩:=run_bind h
  refine SlcH.mk (f:=(ag false)) hv37 SC (S ?_)
  obtain⟨v38,hv38,h⟩:=run_bind h
  refine aN (f:=(ag false)) (fun a=>aY _ a) hv38 SC SC (S ?_)
  obtain⟨v41,hv41,h⟩:=run_bind h
  refine aN (f:=(ag false)) (fun a=>aY _ a) hv41 SC SC (S ?_)
  obtain⟨v44,hv44,h⟩:=run_bind h
  refine SlcH.mk (f:=(ag false)) hv44 SC (S ?_)
  obtain⟨v45,hv45,h⟩:=run_bind h
  refine aN (f:=(ag false)) (fun a=>aY _ a) hv45 SC SC (S ?_)
  refine ae (aL [] [544,608,640,656,720]) (S ?_)
  cases run_some h
  exact FinH.r SC

theorem spec_l22Copy_sat{a0:List Tt}  {r:List Tt}(h:spec_l22Copy a0=some r):Sat ah 62 [(.sl false 2 (a0.map (ag false)))] (.sl true 2 (r.map (ag true))):=by
 obtain⟨h,cs⟩:=ar h
 unfold spec_l22Copy at h
 refine aw (nt:=21) (rs:=[.tmp 2]) (n:=100000) Tryz.func62 rfl rfl rfl rfl (by simp) (S ?_)
 refine aW (b:=false) (sz:=2) (es:=a0.map (ag false)) 0 SC fun hl0=>?_; rw[au] at hl0
 replace h:=run_loop h
 refine aM h (fun i3 s3=>[(0,.val (.pv (.sl false 2 (a0.map (ag false))))),(3,.val (.own 80)),(4,.val (.pv (I (i3:Int))))]) (fun i3 s3=>[(80,(2,s3.map (ag true)))]) (ao SC) (fun i3 s3 hi h=>?_) (fun s3 h=>?_)
 ·have w:=wrap_succ (i:=i3) (by omega)
  refine S ?_
  refine aI cs (by omega) (fun cs=>S ?_)
  obtain⟨v15,hv15,h⟩:=run_bind h
  refine av (f:=(ag false)) hv15 SC (S ?_)
  obtain⟨v17,hv17,h⟩:=run_bind h
  refine am [false] (spec_l2Own_sat hv17) SC (S ?_)
  obtain⟨v19,hv19,h⟩:=run_bind h
  refine aN (f:=(ag true)) (fun a=>aY _ a) hv19 SC SC (S ?_)
  have h:=run_some h
  refine aq ⟨_,h,?_⟩
  refine bd 304 80 ?_
  exact ao SWx
 ·refine S ?_
  refine aJ cs (by omega) (fun cs=>S ?_)
  cases run_some h
  exact aj SC

theorem spec_l22Same_sat{a0:List Tt}{a1:List Tt}  {r:Bool}(h:spec_l22Same a0 a1=some r):Sat ah 93 [(.sl false 2 (a0.map (ag false))),(.sl false 2 (a1.map (ag false)))] (B r):=by
 obtain⟨h,cs⟩:=ar h
 unfold spec_l22Same at h
 refine aw (nt:=27) (rs:=[.tmp 4]) (n:=100000) Tryz.func93 rfl rfl rfl rfl (by simp) (S ?_)
 refine al cs h (fun cs h=>S ?_) (fun cs h=>S ?_)
 ·refine aW (b:=false) (sz:=2) (es:=a0.map (ag false)) 0 SC fun hl0=>?_; rw[au] at hl0
  replace h:=run_loop h
  refine aM h (fun i4 s4=>[(0,.val (.pv (.sl false 2 (a0.map (ag false))))),(1,.val (.pv (.sl false 2 (a1.map (ag false))))),(5,.val (.pv (I (i4:Int))))]) (fun i4 s4=>[]) (ao SC) (fun i4 s4 hi h=>?_) (fun s4 h=>?_)
  ·have w:=wrap_succ (i:=i4) (by omega)
   refine S ?_
   refine aI cs (by omega) (fun cs=>S ?_)
   obtain⟨v19,hv19,h⟩:=run_bind h
   refine av (f:=(ag false)) hv19 SC (S ?_)
   obtain⟨v23,hv23,h⟩:=run_bind h
   refine av (f:=(ag false)) hv23 SC (S ?_)
   obtain⟨v25,hv25,h⟩:=run_bind h
   refine am [false,false] (spec_l2Same_sat hv25) SC (S ?_)
   refine ae (aL [] []) (S ?_)
   refine al cs h (fun cs h=>S ?_) (fun cs h=>S ?_)
   ·have h:=run_some h
    refine aq ⟨_,h,?_⟩
    exact ao SWx
   ·cases run_some h
    exact aj SC
  ·refine S ?_
   refine aJ cs (by omega) (fun cs=>S ?_)
   cases run_some h
   exact aj SC
 ·cases run_some h
  exact aj SC

theorem spec_l22GeneralN_sat(n:Nat):(∀ (a0:List Tt) (r:Tt×(List Tt)),spec_l22GeneralN n a0=some r→Sat ah 92 [(.sl false 2 (a0.map (ag false)))] (.tup [((ag true) r.1),(.sl true 2 (r.2.map (ag true)))])):=by
 induction n with
 | zero=>exact fun _ _ h=>by simp[spec_l22GeneralN] at h
 | succ n ih=>
  refine fun a0 r h=>?_
  obtain⟨h,cs⟩:=ar h
  rw[spec_l22GeneralN] at h
  refine aw (nt:=130) (rs:=[.cell 2 43,.tmp 3]) (n:=100000) Tryz.func92 rfl rfl rfl rfl (by simp) (S ?_)
  obtain⟨v17,hv17,h⟩:=run_bind h
  refine av (f:=(ag false)) hv17 SC (S ?_)
  refine aW (b:=false) (sz:=2) (es:=a0.map (ag false)) 0 SC fun hl0=>?_; rw[au] at hl0
  replace h:=run_loop h
  refine Mg.forA (N:=a0.length) (a:=1) h (fun i4 s4=>[(0,.val (.pv (.sl false 2 (a0.map (ag false))))),(2,.box zab1),(4,.box (.pv ((ag false) v17))),(5,.val (.pv (B s4.1))),(6,.val (.pv (B s4.2))),(7,.val (.pv (I (i4:Int))))]) (fun i4 s4=>[]) (ao SC) (fun i4 s4 hi hj h=>?_) (fun j4 s4 hj h=>?_)
  ·have w:=wrap_succ (i:=i4) (by omega)
   refine S ?_
   refine aI cs (by omega) (fun cs=>S ?_)
   refine al cs h (fun cs h=>S ?_) (fun cs h=>S ?_)
   ·obtain⟨v30,hv30,h⟩:=run_bind h
    refine av (f:=(ag false)) hv30 SC (S ?_)
    obtain⟨v32,hv32,h⟩:=run_bind h
    refine am [false,false] (spec_l2Same_sat hv32) SC (S ?_)
    refine ae (aL [] []) (S ?_)
    refine al cs h (fun cs h=>S ?_) (fun cs h=>S ?_)
    ·obtain⟨v38,hv38,h⟩:=run_bind h
     refine av (f:=(ag false)) hv38 SC (S ?_)
     refine al cs h (fun cs h=>S ?_) (fun cs h=>S ?_)
     ·obtain⟨v48,hv48,h⟩:=run_bind h
      refine av (f:=(ag false)) hv48 SC (S ?_)
      refine ae (aL [] []) (S ?_)
      have h:=run_some h
      refine aq ⟨_,h,?_⟩
      exact ao SWx
     ·refine ae (aL [] []) (S ?_)
      have h:=run_some h
      refine aq ⟨_,h,?_⟩
      exact ao SWx
    ·refine ae (aL [] []) (S ?_)
     have h:=run_some h
     refine aq ⟨_,h,?_⟩
     exact ao SWx
   ·refine ae (aL [] []) (S ?_)
    refine al cs h (fun cs h=>S ?_) (fun cs h=>S ?_)
    ·obtain⟨v38,hv38,h⟩:=run_bind h
     refine av (f:=(ag false)) hv38 SC (S ?_)
     refine al cs h (fun cs h=>S ?_) (fun cs h=>S ?_)
     ·obtain⟨v48,hv48,h⟩:=run_bind h
      refine av (f:=(ag false)) hv48 SC (S ?_)
      refine ae (aL [] []) (S ?_)
      have h:=run_some h
      refine aq ⟨_,h,?_⟩
      exact ao SWx
     ·refine ae (aL [] []) (S ?_)
      have h:=run_some h
      refine aq ⟨_,h,?_⟩
      exact ao SWx
    ·refine ae (aL [] []) (S ?_)
     have h:=run_some h
     refine aq ⟨_,h,?_⟩
     exact ao SWx
  ·refine S ?_
   refine aJ cs (by omega) (fun cs=>S ?_)
   refine al cs h (fun cs h=>S ?_) (fun cs h=>S ?_)
   ·obtain⟨v59,hv59,h⟩:=run_bind h
    refine am [false] (spec_l2Own_sat hv59) SC (S ?_)
    cases run_some h
    exact aj SC
   ·refine al cs h (fun cs h=>S ?_) (fun cs h=>S ?_)
    ·refine Mg.know_box2 (b:=false) (sz:=2) (es:=v17.Args.map (ag false)) (x:=(.pv ((ag false) v17))) 4 [1] SC fun hl4=>?_; rw[au] at hl4
     replace h:=run_loop h
     refine aM h (fun i16 s16=>[(0,.val (.pv (.sl false 2 (a0.map (ag false))))),(2,.box zab1),(4,.box (.pv ((ag false) v17))),(8,.box zab0),(9,.box (.node [(.pv (Sx v17.Name)),(.own 9348)])),(10,.val (.own 1120)),(11,.val (.pv (I (i16:Int))))]) (fun i16 s16=>[(9348,(2,s16.2.map (ag true))),(1120,(2,s16.1.map (ag true)))]) (bn (St.le_nilB (x:=(.node [(.pv (Sx v17.Name)),(.pv (.sl true 2 []))])) 9 [1] 9348 2 NM SC SC SC) (ao SC)) (fun i16 s16 hi h=>?_) (fun s16 h=>?_)
     ·have w:=wrap_succ (i:=i16) (by omega)
      refine S ?_
      refine aI cs (by omega) (fun cs=>S ?_)
      refine aW (b:=false) (sz:=2) (es:=a0.map (ag false)) 0 SC fun hl0=>?_; rw[au] at hl0
      replace h:=run_loop h
      refine aM h (fun i20 s20=>[(0,.val (.pv (.sl false 2 (a0.map (ag false))))),(2,.box zab1),(4,.box (.pv ((ag false) v17))),(8,.box zab0),(9,.box (.node [(.pv (Sx v17.Name)),(.own 9348)])),(10,.val (.own 1120)),(11,.val (.pv (I (i16:Int)))),(12,.val (.own 1248)),(13,.val (.pv (I (i20:Int))))]) (fun i20 s20=>[(9348,(2,s16.2.map (ag true))),(1120,(2,s16.1.map (ag true))),(1248,(2,s20.map (ag false)))]) (ao SC) (fun i20 s20 hi h=>?_) (fun s20 h=>?_)
      ·have w:=ae (wrap_succ (i:=i20) (by omega)) w
       refine S ?_
       refine aI cs (by omega) (fun cs=>S ?_)
       obtain⟨v88,hv88,h⟩:=run_bind h
       refine av (f:=(ag false)) hv88 SC (S ?_)
       obtain⟨v92,hv92,h⟩:=run_bind h
       refine av (f:=(ag false)) hv92 SC (S ?_)
       obtain⟨v95,hv95,h⟩:=run_bind h
       refine aN (f:=(ag false)) (fun a=>aY _ a) hv95 SC SC (S ?_)
       have h:=run_some h
       refine aq ⟨_,h,?_⟩
       refine bd 1520 1248 ?_
       exact ao SWx
      ·refine S ?_
       refine aJ cs (by omega) (fun cs=>S ?_)
       obtain⟨v98,hv98,h⟩:=run_bind h
       refine am [false] (ih _ _ hv98) SC (S ?_)
       refine al cs h (fun cs h=>S ?_) (fun cs h=>S ?_)
       ·refine al cs h (fun cs h=>S ?_) (fun cs h=>S ?_)
        ·obtain⟨v112,hv112,h⟩:=run_bind h
         refine am [false,false] (spec_l22Same_sat hv112) SC (S ?_)
         refine al cs h (fun cs h=>S ?_) (fun cs h=>S ?_)
         ·obtain⟨v126,hv126,h⟩:=run_bind h
          refine aN (f:=(ag true)) (fun a=>aY _ a) hv126 SC SC (S ?_)
          have h:=run_some h
          refine aq ⟨_,h,?_⟩
          refine bd 1569 1120 ?_
          refine bd 2016 9348 ?_
          exact ao SWx
         ·obtain⟨v117,hv117,h⟩:=run_bind h
          refine am [false] (spec_l22Copy_sat hv117) SC (S ?_)
          refine ae (aL [] [1872]) (S ?_)
          cases run_some h
          exact aj SC
        ·obtain⟨v126,hv126,h⟩:=run_bind h
         refine aN (f:=(ag true)) (fun a=>aY _ a) hv126 SC SC (S ?_)
         have h:=run_some h
         refine aq ⟨_,h,?_⟩
         refine bd 1569 1120 ?_
         refine bd 2016 9348 ?_
         exact ao SWx
       ·obtain⟨v126,hv126,h⟩:=run_bind h
        refine aN (f:=(ag true)) (fun a=>aY _ a) hv126 SC SC (S ?_)
        have h:=run_some h
        refine aq ⟨_,h,?_⟩
        refine bd 2016 9348 ?_
        exact ao SWx
     ·refine S ?_
      refine aJ cs (by omega) (fun cs=>S ?_)
      cases run_some h
      exact aj SC
    ·obtain⟨v66,hv66,h⟩:=run_bind h
     refine am [false] (spec_l22Copy_sat hv66) SC (S ?_)
     refine ae (aL [] [1056]) (S ?_)
     cases run_some h
     exact aj SC
theorem spec_l22General_sat{a0:List Tt}{r:Tt×(List Tt)}(h:spec_l22General a0=some r):Sat ah 92 [(.sl false 2 (a0.map (ag false)))] (.tup [((ag true) r.1),(.sl true 2 (r.2.map (ag true)))]):=by
 obtain⟨n,hn⟩:=lim_some h
 exact(spec_l22GeneralN_sat n) _ _ hn

theorem spec_l22Rows_sat{a0:List Tt}  {r:List lf}(h:spec_l22Rows a0=some r):Sat ah 60 [(.sl false 2 (a0.map (ag false)))] (.sl true 2 (r.map lf.pvt)):=by
 obtain⟨h,cs⟩:=ar h
 unfold spec_l22Rows at h
 refine Sat.of_mf (nt:=144) (rs:=[.tmp 2]) (n:=100000) Tryz.func60 rfl rfl rfl rfl (by simp) (S ?_)
 refine aD (S ?_)
 refine aD (S ?_)
 refine aD (S ?_)
 replace h:=run_loop h
 refine MgF.whileN h (fun s3=>[(0,.val (.pv (.sl false 2 (a0.map (ag false))))),(3,.val (.own 272)),(4,.val (.pv (I s3.1)))]) (fun s3=>[(272,(2,s3.2.map lf.pvt))]) (ao SC) (fun n3 s3 h=>?_)
 refine S ?_
 refine aD (S ?_)
 obtain⟨v22,hv22,h⟩:=run_bind h
 refine ShlH.mk hv22 (S ?_)
 refine al cs h (fun cs h=>S ?_) (fun cs h=>S ?_)
 ·refine aD (S ?_)
  refine aD (S ?_)
  refine MgF.know_sl (b:=false) (sz:=2) (es:=a0.map (ag false)) 0 SC fun hl0=>?_; rw[au] at hl0
  replace h:=run_loop h
  refine MgF.forN h (fun i7 s7=>[(0,.val (.pv (.sl false 2 (a0.map (ag false))))),(3,.val (.own 272)),(4,.val (.pv (I s3.1))),(5,.val (.own 416)),(6,.val (.pv (I (i7:Int))))]) (fun i7 s7=>[(272,(2,s3.2.map lf.pvt)),(416,(2,s7.map (ag false)))]) (ao SC) (fun i7 s7 hi h=>?_) (fun s7 h=>?_)
  ·have w:=wrap_succ (i:=i7) (by omega)
   refine S ?_
   refine aD (S ?_)
   refine aI cs (by omega) (fun cs=>S ?_)
   refine aD (S ?_)
   obtain⟨v36,hv36,h⟩:=run_bind h
   refine ShrH.mk hv36 (S ?_)
   refine al cs h (fun cs h=>S ?_) (fun cs h=>S ?_)
   ·refine aD (S ?_)
    obtain⟨v42,hv42,h⟩:=run_bind h
    refine av (f:=(ag false)) hv42 SC (S ?_)
    obtain⟨v45,hv45,h⟩:=run_bind h
    refine aN (f:=(ag false)) (fun a=>aY _ a) hv45 SC SC (S ?_)
    refine aD (S ?_)
    have h:=run_some h
    try simp only[cs] at h
    refine aq ⟨_,h,?_⟩
    refine bd 720 416 ?_
    exact ao SWx
   ·refine aD (S ?_)
    have h:=run_some h
    try simp only[cs] at h
    refine aq ⟨_,h,?_⟩
    exact ao SWx
  ·refine S ?_
   refine aD (S ?_)
   refine aJ cs (by omega) (fun cs=>S ?_)
   refine aD (S ?_)
   refine al cs h (fun cs h=>S ?_) (fun cs h=>S ?_)
   ·refine aD (S ?_)
    have h:=run_some h
    try simp only[cs] at h
    refine aq ⟨_,h,?_⟩
    exact ao SC
   ·refine aD (S ?_)
    obtain⟨v51,hv51,h⟩:=run_bind h
    refine am [true] (Sat.give (args:=[(.sl true 2 (s7.map (ag false)))]) [true] (by have gg:=Sat.vwOf (res':=(.tup [((ag false) v51.1),(.sl false 2 (v51.2.map (ag false)))])) (spec_l22General_sat hv51) (by simp only[view_tup,view_sl,view_agg,view_lit,az,RB,RS]); simp only[gv_t,gv_f,gv_n,view_sl,view_agg,view_lit,views_repB,views_repI,az,RB,RS] at gg ⊢; exact gg)) SC (S ?_)
    refine aD (S ?_)
    refine aD (S ?_)
    refine MgF.know_sl (b:=false) (sz:=2) (es:=v51.2.map (ag false)) 8 SC fun hl8=>?_; rw[au] at hl8
    replace h:=run_loop h
    refine MgF.forN h (fun i15 s15=>[(0,.val (.pv (.sl false 2 (a0.map (ag false))))),(3,.val (.own 272)),(4,.val (.pv (I s3.1))),(7,.box (.pv ((ag false) v51.1))),(8,.val (.pv (.sl false 2 (v51.2.map (ag false))))),(9,.val (.pv (.sl false 2 (s15.map (ag false))))),(10,.val (.pv (I (i15:Int))))]) (fun i15 s15=>[(272,(2,s3.2.map lf.pvt))]) (bn (St.le_demV (x:=(.own 864)) (sz:=(2)) (es:=([]).map (ag false)) 9 [] 864 SC) (ao SC)) (fun i15 s15 hi h=>?_) (fun s15 h=>?_)
    ·have w:=wrap_succ (i:=i15) (by omega)
     refine S ?_
     refine aD (S ?_)
     refine aI cs (by omega) (fun cs=>S ?_)
     refine aD (S ?_)
     obtain⟨v64,hv64,h⟩:=run_bind h
     refine av (f:=(ag false)) hv64 SC (S ?_)
     obtain⟨v66,hv66,h⟩:=run_bind h
     refine am [false,false] (spec_l16Put_sat hv66) SC (S ?_)
     refine aD (S ?_)
     have h:=run_some h
     try simp only[cs] at h
     refine aq ⟨_,h,?_⟩
     exact ao SWx
    ·refine S ?_
     refine aD (S ?_)
     refine aJ cs (by omega) (fun cs=>S ?_)
     refine aD (S ?_)
     refine aD (S ?_)
     refine MgF.know_own (sz:=2) (es:=s3.2.map lf.pvt) 272 SC fun hl272=>?_; rw[au] at hl272
     replace h:=run_loop h
     refine MgF.forN h (fun i20 s20=>[(0,.val (.pv (.sl false 2 (a0.map (ag false))))),(3,.val (.own 272)),(4,.val (.pv (I s3.1))),(7,.box (.pv ((ag false) v51.1))),(9,.val (.pv (.sl false 2 (s15.map (ag false))))),(11,.val (.pv (I s20))),(12,.val (.pv (I (i20:Int))))]) (fun i20 s20=>[(272,(2,s3.2.map lf.pvt))]) (ao SC) (fun i20 s20 hi h=>?_) (fun s20 h=>?_)
     ·have w:=wrap_succ (i:=i20) (by omega)
      refine S ?_
      refine aD (S ?_)
      refine aI cs (by omega) (fun cs=>S ?_)
      refine al cs h (fun cs h=>S ?_) (fun cs h=>S ?_)
      ·refine MgF.frzP [(3,.val (.pv (.sl false 2 (s3.2.map (lf.pv false))))),(9,.val (.pv (.sl false 2 (s15.map (ag false))))),(12,.val (.pv (I (i20:Int))))] [] [] [77,78,79,80,81,82,83] [] SC (S ?_)
       obtain⟨v79,hv79,h⟩:=run_bind h
       refine av (f:=(lf.pv false)) hv79 SC (S ?_)
       obtain⟨v83,hv83,h⟩:=run_bind h
       refine am [false,false] (spec_l22Same_sat hv83) SC (S ?_)
       refine ThawPH.mk [(0,.val (.pv (.sl false 2 (a0.map (ag false))))),(3,.val (.own 272)),(4,.val (.pv (I s3.1))),(7,.box (.pv ((ag false) v51.1))),(9,.val (.pv (.sl false 2 (s15.map (ag false))))),(11,.val (.pv (I s20))),(12,.val (.pv (I (i20:Int))))] [(83,.val (.pv (B v83)))] [(272,(2,s3.2.map lf.pvt))] [] [] SC SC (S ?_)
       refine al cs h (fun cs h=>S ?_) (fun cs h=>S ?_)
       ·refine aD (S ?_)
        refine aD (S ?_)
        have h:=run_some h
        try simp only[cs] at h
        refine aq ⟨_,h,?_⟩
        exact ao SWx
       ·refine aD (S ?_)
        have h:=run_some h
        try simp only[cs] at h
        refine aq ⟨_,h,?_⟩
        exact ao SWx
      ·refine aD (S ?_)
       refine MgF.vseq (S ?_)
       refine aK (S ?_)
       refine aK (S ?_)
       refine aK (S ?_)
       obtain⟨v96,hv96,h⟩:=run_bind h
       refine av (f:=lf.pvt) hv96 SC (S ?_)
       obtain⟨v97,hv97,h⟩:=run_bind h
       refine VSeq.takeX (c:=272) (sz:=2) (fx:=lf.pvt) (row:=.agg [(.sl false 2 (v97.instances.map (ag false))),.sl true 3 (v97.candidates.map (ld.pv false))]) hv97 rfl rfl rfl rfl rfl rfl SC (fun _ e=>nomatch e) (S ?_)
       intro q97 hq97
       refine aK (S ?_)
       refine aK (S ?_)
       refine bF (Nat.le_of_eq rfl) (S ?_)
       refine aD (S ?_)
       obtain⟨v104,hv104,h⟩:=run_bind h
       refine aN (f:=(ld.pv false)) (fun a=>ld.psize _ a) hv104 SC SC (S ?_)
       refine aD (S ?_)
       obtain⟨v109,hv109,h⟩:=run_bind h
       refine IdxH.hole (f:=lf.pvt) (j:=s20.toNat) (q:=q97) hv109 SC fun _=>(S ?_)
       obtain⟨w11,hw11,h⟩:=run_bind h
       refine EldH.hole (f:=lf.pvt) (j:=s20.toNat) (q:=q97) hw11 rfl SC rfl (S ?_)
       refine⟨hq97.symm,?_⟩
       refine aD (S ?_)
       have h:=run_some h
       try simp only[cs] at h
       refine aq ⟨_,h,?_⟩
       exact ao SC
     ·refine S ?_
      refine aD (S ?_)
      refine aJ cs (by omega) (fun cs=>S ?_)
      refine aD (S ?_)
      refine al cs h (fun cs h=>S ?_) (fun cs h=>S ?_)
      ·refine aD (S ?_)
       refine aD (S ?_)
       obtain⟨v93,hv93,h⟩:=run_bind h
       refine aN (f:=lf.pvt) (fun a=>lf.psizet a) hv93 SC SC (S ?_)
       refine MgF.vseq (S ?_)
       refine aK (S ?_)
       refine aK (S ?_)
       refine aK (S ?_)
       obtain⟨v96,hv96,h⟩:=run_bind h
       refine av (f:=lf.pvt) hv96 SC (S ?_)
       obtain⟨v97,hv97,h⟩:=run_bind h
       refine VSeq.takeX (c:=1488) (sz:=2) (fx:=lf.pvt) (row:=.agg [(.sl false 2 (v97.instances.map (ag false))),.sl true 3 (v97.candidates.map (ld.pv false))]) hv97 rfl rfl rfl rfl rfl rfl SC (fun _ e=>nomatch e) (S ?_)
       intro q97 hq97
       refine aK (S ?_)
       refine aK (S ?_)
       refine bF (Nat.le_of_eq rfl) (S ?_)
       refine aD (S ?_)
       obtain⟨v104,hv104,h⟩:=run_bind h
       refine aN (f:=(ld.pv false)) (fun a=>ld.psize _ a) hv104 SC SC (S ?_)
       refine aD (S ?_)
       obtain⟨v109,hv109,h⟩:=run_bind h
       refine IdxH.hole (f:=lf.pvt) (j:=(s3.2.length:Int).toNat) (q:=q97) hv109 SC fun _=>(S ?_)
       obtain⟨w14,hw14,h⟩:=run_bind h
       refine EldH.hole (f:=lf.pvt) (j:=(s3.2.length:Int).toNat) (q:=q97) hw14 rfl SC rfl (S ?_)
       refine⟨hq97.symm,?_⟩
       refine aD (S ?_)
       have h:=run_some h
       try simp only[cs] at h
       refine aq ⟨_,h,?_⟩
       refine bd 1488 272 ?_
       exact ao SC
      ·refine MgF.vseq (S ?_)
       refine aK (S ?_)
       refine aK (S ?_)
       refine aK (S ?_)
       obtain⟨v96,hv96,h⟩:=run_bind h
       refine av (f:=lf.pvt) hv96 SC (S ?_)
       obtain⟨v97,hv97,h⟩:=run_bind h
       refine VSeq.takeX (c:=272) (sz:=2) (fx:=lf.pvt) (row:=.agg [(.sl false 2 (v97.instances.map (ag false))),.sl true 3 (v97.candidates.map (ld.pv false))]) hv97 rfl rfl rfl rfl rfl rfl SC (fun _ e=>nomatch e) (S ?_)
       intro q97 hq97
       refine aK (S ?_)
       refine aK (S ?_)
       refine bF (Nat.le_of_eq rfl) (S ?_)
       refine aD (S ?_)
       obtain⟨v104,hv104,h⟩:=run_bind h
       refine aN (f:=(ld.pv false)) (fun a=>ld.psize _ a) hv104 SC SC (S ?_)
       refine aD (S ?_)
       obtain⟨v109,hv109,h⟩:=run_bind h
       refine IdxH.hole (f:=lf.pvt) (j:=s20.toNat) (q:=q97) hv109 SC fun _=>(S ?_)
       obtain⟨w15,hw15,h⟩:=run_bind h
       refine EldH.hole (f:=lf.pvt) (j:=s20.toNat) (q:=q97) hw15 rfl SC rfl (S ?_)
       refine⟨hq97.symm,?_⟩
       refine aD (S ?_)
       have h:=run_some h
       try simp only[cs] at h
       refine aq ⟨_,h,?_⟩
       exact ao SC
 ·have h:=run_some h
  refine aD (S ?_)
  replace h:=run_loop h
  refine MgF.whileN h (fun s31=>[(0,.val (.pv (.sl false 2 (a0.map (ag false))))),(3,.val (.own 272)),(14,.val (.pv (I s31.2)))]) (fun s31=>[(272,(2,s31.1.map lf.pvt))]) (ao SC) (fun n31 s31 h=>?_)
  refine S ?_
  refine aD (S ?_)
  refine al cs h (fun cs h=>S ?_) (fun cs h=>S ?_)
  ·refine MgF.vseq (S ?_)
   refine aK (S ?_)
   refine aK (S ?_)
   refine aK (S ?_)
   obtain⟨v118,hv118,h⟩:=run_bind h
   refine av (f:=lf.pvt) hv118 SC (S ?_)
   obtain⟨v119,hv119,h⟩:=run_bind h
   refine VSeq.takeX (c:=272) (sz:=2) (fx:=lf.pvt) (row:=.agg [(.sl false 2 (v119.instances.map (ag false))),.sl true 3 (v119.candidates.map (ld.pv false))]) hv119 rfl rfl rfl rfl rfl rfl SC (fun _ e=>nomatch e) (S ?_)
   intro q119 hq119
   refine aK (S ?_)
   refine aK (S ?_)
   refine bF (Nat.le_of_eq rfl) (S ?_)
   refine aD (S ?_)
   refine MgF.know_sl (b:=false) (sz:=2) (es:=a0.map (ag false)) 0 SC fun hl0=>?_; rw[au] at hl0
   replace h:=run_loop h
   refine MgF.forN h (fun i35 s35=>[(0,.val (.pv (.sl false 2 (a0.map (ag false))))),(3,.val (.own 272)),(14,.val (.pv (I s31.2))),(15,.box (.node [(.pv (.sl false 2 (v119.instances.map (ag false)))),(.own 1904)])),(16,.val (.pv (I (i35:Int))))]) (fun i35 s35=>[(272,(2,(s31.1.map lf.pvt).set s31.2.toNat q119)),(1904,(3,s35.map (ld.pv false)))]) (ao SC) (fun i35 s35 hi h=>?_) (fun s35 h=>?_)
   ·have w:=wrap_succ (i:=i35) (by omega)
    refine S ?_
    refine aD (S ?_)
    refine aI cs (by omega) (fun cs=>S ?_)
    refine MgF.drw (S ?_)
    obtain⟨v130,hv130,h⟩:=run_bind h
    refine av (f:=(ag false)) hv130 SC (S ?_)
    obtain⟨v134,hv134,h⟩:=run_bind h
    refine ShlH.mk hv134 (S ?_)
    obtain⟨v137,hv137,h⟩:=run_bind h
    refine aN (f:=(ld.pv false)) (fun a=>ld.psize _ a) hv137 SC SC (S ?_)
    refine ae (aL [] [2176,2192]) (S ?_)
    refine aD (S ?_)
    have h:=run_some h
    try simp only[cs] at h
    refine aq ⟨_,h,?_⟩
    refine bd 2192 1904 ?_
    exact ao SWx
   ·refine S ?_
    refine aD (S ?_)
    refine aJ cs (by omega) (fun cs=>S ?_)
    refine aD (S ?_)
    obtain⟨v142,hv142,h⟩:=run_bind h
    refine IdxH.hole (f:=lf.pvt) (j:=s31.2.toNat) (q:=q119) hv142 SC fun _=>(S ?_)
    obtain⟨w19,hw19,h⟩:=run_bind h
    refine EldH.hole (f:=lf.pvt) (j:=s31.2.toNat) (q:=q119) hw19 rfl SC rfl (S ?_)
    refine⟨hq119.symm,?_⟩
    refine aD (S ?_)
    have h:=run_some h
    try simp only[cs] at h
    refine aq ⟨_,h,?_⟩
    exact ao SC
  ·have h:=run_some h
   refine aD (S ?_)
   cases run_some h
   exact aj SC

theorem spec_l1Least_sat{a0:Int}{a1:Int}  {r:Int}(h:spec_l1Least a0 a1=some r):Sat ah 124 [(I a0),(I a1)] (I r):=by
 obtain⟨h,cs⟩:=ar h
 unfold spec_l1Least at h
 refine aw (nt:=10) (rs:=[.tmp 4]) (n:=100000) Tryz.func124 rfl rfl rfl rfl (by simp) (S ?_)
 refine al cs h (fun cs h=>S ?_) (fun cs h=>S ?_)
 ·cases run_some h
  exact aj SC
 ·cases run_some h
  exact aj SC

theorem spec_l22Fewest_sat{a0:List ld}{a1:Int}  {r:List (List Int)}(h:spec_l22Fewest a0 a1=some r):Sat ah 94 [(.sl false 3 (a0.map (ld.pv false))),(I a1)] (.sl true 1 (r.map (Lv true 1 I))):=by
 obtain⟨h,cs⟩:=ar h
 unfold spec_l22Fewest at h
 refine Sat.of_mf (nt:=72) (rs:=[.tmp 4]) (n:=100000) Tryz.func94 rfl rfl rfl rfl (by simp) (S ?_)
 refine aD (S ?_)
 refine aD (S ?_)
 refine aD (S ?_)
 obtain⟨n14,hn14,h⟩:=run_bind h
 refine MknH.mk hn14 (S ?_)
 refine aD (S ?_)
 replace h:=run_loop h
 refine MgF.whileN h (fun s4=>[(0,.val (.pv (.sl false 3 (a0.map (ld.pv false))))),(1,.val (.pv (I a1))),(5,.val (.pv (I (a0.length:Int)))),(6,.val (.own 224)),(7,.val (.pv (I s4.2)))]) (fun s4=>[(224,(1,s4.1.map (Lv true 1 I)))]) (ao SC) (fun n4 s4 h=>?_)
 refine S ?_
 refine aD (S ?_)
 refine al cs h (fun cs h=>S ?_) (fun cs h=>S ?_)
 ·refine aD (S ?_)
  obtain⟨n22,hn22,h⟩:=run_bind h
  refine MknH.mk hn22 (S ?_)
  refine aD (S ?_)
  replace h:=run_loop h
  refine MgF.whileN h (fun s8=>[(0,.val (.pv (.sl false 3 (a0.map (ld.pv false))))),(1,.val (.pv (I a1))),(5,.val (.pv (I (a0.length:Int)))),(6,.val (.own 224)),(7,.val (.pv (I s4.2))),(8,.val (.own 352)),(9,.val (.pv (I s8.2)))]) (fun s8=>[(224,(1,s4.1.map (Lv true 1 I))),(352,(1,s8.1.map I))]) (ao SC) (fun n8 s8 h=>?_)
  refine S ?_
  refine aD (S ?_)
  refine al cs h (fun cs h=>S ?_) (fun cs h=>S ?_)
  ·refine aD (S ?_)
   obtain⟨v30,hv30,h⟩:=run_bind h
   refine av (f:=I) hv30 SC (S ?_)
   obtain⟨w3,hw3,h⟩:=run_bind h
   refine EldH.mk (f:=I) hw3 rfl SC (S ?_)
   refine aD (S ?_)
   refine al cs h (fun cs h=>S ?_) (fun cs h=>S ?_)
   ·refine aD (S ?_)
    obtain⟨v36,hv36,h⟩:=run_bind h
    refine av (f:=I) hv36 SC (S ?_)
    obtain⟨w5,hw5,h⟩:=run_bind h
    refine EldH.mk (f:=I) hw5 rfl SC (S ?_)
    refine aD (S ?_)
    have h:=run_some h
    try simp only[cs] at h
    refine aq ⟨_,h,?_⟩
    exact ao SC
   ·refine aD (S ?_)
    refine al cs h (fun cs h=>S ?_) (fun cs h=>S ?_)
    ·refine MgF.frzDP [(0,.val (.pv (.sl false 3 (a0.map (ld.pv false))))),(6,.val (.pv (.sl false 1 (s4.1.map (Lv false 1 I))))),(7,.val (.pv (I s4.2))),(9,.val (.pv (I s8.2)))] [(8,.val (.own 352))] [(352,(1,(s8.1.set s8.2.toNat (1000:Int)).map I))] [40,41,42,43,44,45,46,47,48,49,50,51,52,53,54,55,56,57,58,59,60,61,62,63,64,65,66] [352] 27 mixed SC rfl rfl (S ?_)
     obtain⟨v45,hv45,h⟩:=run_bind h
     refine av (f:=(Lv false 1 I)) hv45 SC (S ?_)
     obtain⟨v48,hv48,h⟩:=run_bind h
     refine av (f:=I) hv48 SC (S ?_)
     obtain⟨v53,hv53,h⟩:=run_bind h
     refine av (f:=(Lv false 1 I)) hv53 SC (S ?_)
     obtain⟨v58,hv58,h⟩:=run_bind h
     refine av (f:=(ld.pv false)) hv58 SC (S ?_)
     obtain⟨v62,hv62,h⟩:=run_bind h
     refine av (f:=I) hv62 SC (S ?_)
     obtain⟨v65,hv65,h⟩:=run_bind h
     refine am [false,false] (spec_l1Least_sat hv65) SC (S ?_)
     obtain⟨v66,hv66,h⟩:=run_bind h
     refine av (f:=I) hv66 SC (S ?_)
     refine ae (aL [] []) (S ?_)
     refine ThawPH.mk [(0,.val (.pv (.sl false 3 (a0.map (ld.pv false))))),(1,.val (.pv (I a1))),(5,.val (.pv (I (a0.length:Int)))),(6,.val (.own 224)),(7,.val (.pv (I s4.2))),(9,.val (.pv (I s8.2)))] [(8,.val (.own 352)),(65,.val (.pv (I v65))),(66,.eptr 352 1 s8.2.toNat [] 0)] [(224,(1,s4.1.map (Lv true 1 I)))] [(352,(1,(s8.1.set s8.2.toNat (1000:Int)).map I))] [352] SC SC (S ?_)
     obtain⟨w7,hw7,h⟩:=run_bind h
     refine EldH.mk (f:=I) hw7 rfl SC (S ?_)
     refine aD (S ?_)
     have h:=run_some h
     try simp only[cs] at h
     refine aq ⟨_,h,?_⟩
     exact ao SC
    ·refine aD (S ?_)
     have h:=run_some h
     try simp only[cs] at h
     refine aq ⟨_,h,?_⟩
     exact ao SC
  ·have h:=run_some h
   refine aD (S ?_)
   obtain⟨v70,hv70,h⟩:=run_bind h
   refine av (f:=(Lv true 1 I)) hv70 SC (S ?_)
   obtain⟨w8,hw8,h⟩:=run_bind h
   refine EldH.mk (f:=(Lv true 1 I)) hw8 rfl SC (S ?_)
   refine aD (S ?_)
   have h:=run_some h
   try simp only[cs] at h
   refine aq ⟨_,h,?_⟩
   exact ao SC
 ·have h:=run_some h
  refine aD (S ?_)
  cases run_some h
  exact aj SC

theorem spec_l22Select_sat{a0:lf}{a1:Int}  {r:List Tt}(h:spec_l22Select a0 a1=some r):Sat ah 61 [((lf.pv false) a0),(I a1)] (.sl false 2 (r.map (ag false))):=by
 obtain⟨h,cs⟩:=ar h
 unfold spec_l22Select at h
 refine aw (nt:=62) (rs:=[.tmp 4]) (n:=100000) Tryz.func61 rfl rfl rfl rfl (by simp) (S ?_)
 obtain⟨v13,hv13,h⟩:=run_bind h
 refine am [false,false] (Sat.vwOf (res':=(.sl false 1 (v13.map (Lv false 1 I)))) (spec_l22Fewest_sat hv13) (by simp only[view_tup,view_sl,view_agg,view_lit,az,RB,RS])) SC (S ?_)
 refine aW (b:=false) (sz:=3) (es:=a0.candidates.map (ld.pv false)) 11 SC fun hl11=>?_; rw[au] at hl11
 replace h:=run_loop h
 refine aM h (fun i5 s5=>[(1,.val (.pv (I a1))),(2,.box (.pv ((lf.pv false) a0))),(5,.val (.pv (.sl false 1 (v13.map (Lv false 1 I))))),(6,.val (.pv (.sl false 2 (s5.2.map (ag false))))),(7,.val (.pv (I s5.1))),(8,.val (.pv (I (i5:Int))))]) (fun i5 s5=>[]) (bn (St.le_demV (x:=(.own 224)) (sz:=(2)) (es:=([]).map (ag false)) 6 [] 224 SC) (ao SC)) (fun i5 s5 hi h=>?_) (fun s5 h=>?_)
 ·have w:=wrap_succ (i:=i5) (by omega)
  refine S ?_
  refine aI cs (by omega) (fun cs=>S ?_)
  refine al cs h (fun cs h=>S ?_) (fun cs h=>S ?_)
  ·cases run_some h
   exact FinH.r SC
  ·obtain⟨v31,hv31,h⟩:=run_bind h
   refine av (f:=(ld.pv false)) hv31 SC (S ?_)
   obtain⟨v38,hv38,h⟩:=run_bind h
   refine av (f:=(Lv false 1 I)) hv38 SC (S ?_)
   obtain⟨v41,hv41,h⟩:=run_bind h
   refine av (f:=I) hv41 SC (S ?_)
   obtain⟨v46,hv46,h⟩:=run_bind h
   refine av (f:=(Lv false 1 I)) hv46 SC (S ?_)
   obtain⟨v49,hv49,h⟩:=run_bind h
   refine av (f:=I) hv49 SC (S ?_)
   refine ae (aL [] []) (S ?_)
   refine al cs h (fun cs h=>S ?_) (fun cs h=>S ?_)
   ·obtain⟨v56,hv56,h⟩:=run_bind h
    refine av (f:=(ld.pv false)) hv56 SC (S ?_)
    obtain⟨v59,hv59,h⟩:=run_bind h
    refine am [false,false] (spec_l16Put_sat hv59) SC (S ?_)
    have h:=run_some h
    refine aq ⟨_,h,?_⟩
    exact ao SWx
   ·have h:=run_some h
    refine aq ⟨_,h,?_⟩
    exact ao SWx
 ·refine S ?_
  refine aJ cs (by omega) (fun cs=>S ?_)
  cases run_some h
  exact FinH.r SC

end Go.Proofs.YtnjgpibbjiofpaaGreat
