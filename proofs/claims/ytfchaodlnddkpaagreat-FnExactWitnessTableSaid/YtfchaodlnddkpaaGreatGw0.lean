/- Lemmas of the proof; each says what it shows. -/
import Derived.Test.YtfchaodlnddkpaaGreatGm
import Derived.Test.YtfchaodlnddkpaaGreatGf
import Derived.Test.YtfchaodlnddkpaaGreatGsrt
import Derived.Test.YtfchaodlnddkpaaGreatGcp
import Derived.Test.YtfchaodlnddkpaaGreatGbk
import Derived.Test.YtfchaodlnddkpaaGreatGsf
set_option linter.unusedSimpArgs false
set_option linter.unusedVariables false
set_option linter.defProp false
set_option maxRecDepth 4000
namespace Go.Proofs.YtfchaodlnddkpaaGreat
open Go.Av
open And renaming intro→ae
open AppH renaming c→aP
open CallH renaming c→aj
open CondH renaming run→ai,t3→aH,f3→aI
open DrawH renaming ak→aO
open FinH renaming zl→am,zr→bd
open Ft renaming pv→ao
open IdxH renaming c→aA
open List renaming length_map→aC
open Mg renaming know_sl→aN,forN→aJ,know_val2→bC
open RdH renaming z→aL,mk→a7
open Run renaming of0→aq
open Sat renaming go→ar
open SidxH renaming mk→bu
open St renaming le_mk2→az,le_trans→bz,le_rt→bk
open Tryz renaming prog→ag
open Tt renaming pv→ah
set_option maxHeartbeats 4000000
theorem szTermN_sat(n:Nat):(∀ (a0:Tt) (a1:Int) (r:Int),szTermN n a0 a1=some r→Sat ag 17 [((ah false) a0),(I a1)] (I r))∧(∀ (a0:List Tt) (a1:Int) (r:Int),szTermSN n a0 a1=some r→Sat ag 19 [(.sl false 2 (a0.map (ah false))),(I a1)] (I r)):=by
 induction n with
 | zero=>exact⟨fun _ _ _ h=>by simp[szTermN] at h,fun _ _ _ h=>by simp[szTermSN] at h⟩
 | succ n ih=>
  refine⟨fun a0 a1 r h=>?_,fun a0 a1 r h=>?_⟩
  ·obtain⟨h,cs⟩:=aq h
   rw[szTermN] at h
   refine ar 19 [.tmp 4] Tryz.func17 (h:=S ?_)
   refine ai cs h (fun cs h=>S ?_) fun cs h=>S ?_
   ·exact am h
   ·refine run_bk h fun v15 q h=>aj [false,false] (ih.2 _ _ _ q) (S ?_)
    refine ai cs h (fun cs h=>S ?_) fun cs h=>S ?_
    ·exact am h
    ·exact am h
  ·obtain⟨h,cs⟩:=aq h
   rw[szTermSN] at h
   refine ar 27 [.tmp 4] Tryz.func19 (h:=S ?_)
   refine ai cs h (fun cs h=>S ?_) fun cs h=>S ?_
   ·exact am h
   ·refine aN (b:=false) (sz:=2) (es:=a0.map (ah false)) 0 SC fun hl0=>?_; rw[aC] at hl0
    refine aJ (run_loop h) (fun i5 s5=>[(0,.val (.pv (.sl false 2 (a0.map (ah false))))),(1,.val (.pv (I s5))),(5,.val (.pv (I (i5:Int))))]) (fun i5 s5=>[]) (az SC) (fun i5 s5 hi h=>?_) (fun s5 h=>?_)
    ·have w:=wrap_s2 i5
     refine S ?_
     refine aH cs fun cs=>S ?_
     refine run_bk h fun v20 q h=>aA (ah false) q (S ?_)
     refine run_bk h fun v23 q h=>aj [false,false] (ih.1 _ _ _ q) (S ?_)
     refine ai cs h (fun cs h=>S ?_) fun cs h=>S ?_
     ·exact am h
     ·exact aL h
    ·refine S ?_
     refine aI cs fun cs=>S ?_
     exact am h
theorem szTerm_sat{a0:Tt}{a1:Int}{r:Int}(h:szTerm a0 a1=some r):Sat ag 17 [((ah false) a0),(I a1)] (I r):=by
 obtain⟨n,hn⟩:=lim_some h
 exact(szTermN_sat n).1 _ _ _ hn
theorem szTermS_sat{a0:List Tt}{a1:Int}{r:Int}(h:szTermS a0 a1=some r):Sat ag 19 [(.sl false 2 (a0.map (ah false))),(I a1)] (I r):=by
 obtain⟨n,hn⟩:=lim_some h
 exact(szTermN_sat n).2 _ _ _ hn

theorem szFormulaN_sat(n:Nat):(∀ (a0:Ft) (a1:Int) (r:Int),szFormulaN n a0 a1=some r→Sat ag 4 [((ao false) a0),(I a1)] (I r))∧(∀ (a0:List Ft) (a1:Int) (r:Int),szFormulaSN n a0 a1=some r→Sat ag 18 [(.sl false 5 (a0.map (ao false))),(I a1)] (I r)):=by
 induction n with
 | zero=>exact⟨fun _ _ _ h=>by simp[szFormulaN] at h,fun _ _ _ h=>by simp[szFormulaSN] at h⟩
 | succ n ih=>
  refine⟨fun a0 a1 r h=>?_,fun a0 a1 r h=>?_⟩
  ·obtain⟨h,cs⟩:=aq h
   rw[szFormulaN] at h
   refine ar 25 [.tmp 4] Tryz.func4 (h:=S ?_)
   refine run_bk h fun v8 q h=>aj [false,false] (szTerm_sat q) (S ?_)
   refine ai cs h (fun cs h=>S ?_) fun cs h=>S ?_
   rotate_left
   refine ai cs h (fun cs h=>S ?_) fun cs h=>S ?_
   rotate_left
   refine run_bk h fun v21 q h=>aj [false,false] (ih.2 _ _ _ q) (S ?_)
   refine ai cs h (fun cs h=>S ?_) fun cs h=>S ?_
   all_goals
    exact am h
  ·obtain⟨h,cs⟩:=aq h
   rw[szFormulaSN] at h
   refine ar 27 [.tmp 4] Tryz.func18 (h:=S ?_)
   refine ai cs h (fun cs h=>S ?_) fun cs h=>S ?_
   ·exact am h
   ·refine aN (b:=false) (sz:=5) (es:=a0.map (ao false)) 0 SC fun hl0=>?_; rw[aC] at hl0
    refine aJ (run_loop h) (fun i5 s5=>[(0,.val (.pv (.sl false 5 (a0.map (ao false))))),(1,.val (.pv (I s5))),(5,.val (.pv (I (i5:Int))))]) (fun i5 s5=>[]) (az SC) (fun i5 s5 hi h=>?_) (fun s5 h=>?_)
    ·have w:=wrap_s2 i5
     refine S ?_
     refine aH cs fun cs=>S ?_
     refine run_bk h fun v20 q h=>aA (ao false) q (S ?_)
     refine run_bk h fun v23 q h=>aj [false,false] (ih.1 _ _ _ q) (S ?_)
     refine ai cs h (fun cs h=>S ?_) fun cs h=>S ?_
     ·exact am h
     ·exact aL h
    ·refine S ?_
     refine aI cs fun cs=>S ?_
     exact am h
theorem szFormula_sat{a0:Ft}{a1:Int}{r:Int}(h:szFormula a0 a1=some r):Sat ag 4 [((ao false) a0),(I a1)] (I r):=by
 obtain⟨n,hn⟩:=lim_some h
 exact(szFormulaN_sat n).1 _ _ _ hn
theorem szFormulaS_sat{a0:List Ft}{a1:Int}{r:Int}(h:szFormulaS a0 a1=some r):Sat ag 18 [(.sl false 5 (a0.map (ao false))),(I a1)] (I r):=by
 obtain⟨n,hn⟩:=lim_some h
 exact(szFormulaN_sat n).2 _ _ _ hn

theorem szTermSS_sat{a0:List (List Tt)}{a1:Int}  {r:Int}(h:szTermSS a0 a1=some r):Sat ag 5 [(.sl false 1 (a0.map (Lv false 2 (ah false)))),(I a1)] (I r):=by
 obtain⟨h,cs⟩:=aq h
 unfold szTermSS at h
 refine ar 27 [.tmp 4] Tryz.func5 (h:=S ?_)
 refine ai cs h (fun cs h=>S ?_) fun cs h=>S ?_
 ·exact am h
 ·refine aN (b:=false) (sz:=1) (es:=a0.map (Lv false 2 (ah false))) 0 SC fun hl0=>?_; rw[aC] at hl0
  refine aJ (run_loop h) (fun i5 s5=>[(0,.val (.pv (.sl false 1 (a0.map (Lv false 2 (ah false)))))),(1,.val (.pv (I s5))),(5,.val (.pv (I (i5:Int))))]) (fun i5 s5=>[]) (az SC) (fun i5 s5 hi h=>?_) (fun s5 h=>?_)
  ·have w:=wrap_s2 i5
   refine S ?_
   refine aH cs fun cs=>S ?_
   refine run_bk h fun v20 q h=>IdxH.mk (f:=(Lv false 2 (ah false))) q SC (S ?_)
   refine run_bk h fun v23 q h=>aj [false,false] (szTermS_sat q) (S ?_)
   refine ai cs h (fun cs h=>S ?_) fun cs h=>S ?_
   ·exact am h
   ·exact aL h
  ·refine S ?_
   refine aI cs fun cs=>S ?_
   exact am h

theorem toTermN_sat(n:Nat):(∀ (a0:Tt) (r:Tt),toTermN n a0=some r→Sat ag 24 [((ah false) a0)] ((ah true) r))∧(∀ (a0:List Tt) (r:List Tt),toTermSN n a0=some r→Sat ag 26 [(.sl false 2 (a0.map (ah false)))] (.sl true 2 (r.map (ah true)))):=by
 induction n with
 | zero=>exact⟨fun _ _ h=>by simp[toTermN] at h,fun _ _ h=>by simp[toTermSN] at h⟩
 | succ n ih=>
  refine⟨fun a0 r h=>?_,fun a0 r h=>?_⟩
  ·obtain⟨h,cs⟩:=aq h
   rw[toTermN] at h
   refine ar 12 [.cell 2 36] Tryz.func24 (h:=S ?_)
   refine run_bk h fun v9 q h=>aj [false] (ih.2 _ _ q) (S ?_)
   exact am h
  ·obtain⟨h,cs⟩:=aq h
   rw[toTermSN] at h
   refine ar 23 [.tmp 2] Tryz.func26 (h:=S ?_)
   refine run_bk h fun n7 q h=>MknH.mk q (S ?_)
   refine aN (b:=false) (sz:=2) (es:=a0.map (ah false)) 0 SC fun hl0=>?_; rw[aC] at hl0
   refine aJ (run_loop h) (fun i3 s3=>[(0,.val (.pv (.sl false 2 (a0.map (ah false))))),(3,.val (.own 112)),(4,.val (.pv (I (i3:Int))))]) (fun i3 s3=>[(112,(2,s3.map (ah true)))]) (az SC) (fun i3 s3 hi h=>?_) (fun s3 h=>?_)
   ·have w:=wrap_s2 i3
    refine S ?_
    refine aH cs fun cs=>S ?_
    refine run_bk h fun v18 q h=>aA (ah false) q (S ?_)
    refine run_bk h fun v20 q h=>aj [false] (ih.1 _ _ q) (S ?_)
    refine run_bk h fun v21 q h=>aA (ah true) q (S ?_)
    refine run_bk h fun w2 q h=>EldH.c (ah true) q (S ?_)
    exact aL h
   ·refine S ?_
    refine aI cs fun cs=>S ?_
    exact am h
theorem toTerm_sat{a0:Tt}{r:Tt}(h:toTerm a0=some r):Sat ag 24 [((ah false) a0)] ((ah true) r):=by
 obtain⟨n,hn⟩:=lim_some h
 exact(toTermN_sat n).1 _ _ hn
theorem toTermS_sat{a0:List Tt}{r:List Tt}(h:toTermS a0=some r):Sat ag 26 [(.sl false 2 (a0.map (ah false)))] (.sl true 2 (r.map (ah true))):=by
 obtain⟨n,hn⟩:=lim_some h
 exact(toTermN_sat n).2 _ _ hn

theorem toFormulaN_sat(n:Nat):(∀ (a0:Ft) (r:Ft),toFormulaN n a0=some r→Sat ag 7 [((ao false) a0)] ((ao true) r))∧(∀ (a0:List Ft) (r:List Ft),toFormulaSN n a0=some r→Sat ag 25 [(.sl false 5 (a0.map (ao false)))] (.sl true 5 (r.map (ao true)))):=by
 induction n with
 | zero=>exact⟨fun _ _ h=>by simp[toFormulaN] at h,fun _ _ h=>by simp[toFormulaSN] at h⟩
 | succ n ih=>
  refine⟨fun a0 r h=>?_,fun a0 r h=>?_⟩
  ·obtain⟨h,cs⟩:=aq h
   rw[toFormulaN] at h
   refine ar 19 [.cell 2 39] Tryz.func7 (h:=S ?_)
   refine run_bk h fun v9 q h=>aj [false] (toTerm_sat q) (S ?_)
   refine run_bk h fun v16 q h=>aj [false] (ih.2 _ _ q) (S ?_)
   exact am h
  ·obtain⟨h,cs⟩:=aq h
   rw[toFormulaSN] at h
   refine ar 23 [.tmp 2] Tryz.func25 (h:=S ?_)
   refine run_bk h fun n7 q h=>MknH.mk q (S ?_)
   refine aN (b:=false) (sz:=5) (es:=a0.map (ao false)) 0 SC fun hl0=>?_; rw[aC] at hl0
   refine aJ (run_loop h) (fun i3 s3=>[(0,.val (.pv (.sl false 5 (a0.map (ao false))))),(3,.val (.own 112)),(4,.val (.pv (I (i3:Int))))]) (fun i3 s3=>[(112,(5,s3.map (ao true)))]) (az SC) (fun i3 s3 hi h=>?_) (fun s3 h=>?_)
   ·have w:=wrap_s2 i3
    refine S ?_
    refine aH cs fun cs=>S ?_
    refine run_bk h fun v18 q h=>aA (ao false) q (S ?_)
    refine run_bk h fun v20 q h=>aj [false] (ih.1 _ _ q) (S ?_)
    refine run_bk h fun v21 q h=>aA (ao true) q (S ?_)
    refine run_bk h fun w2 q h=>EldH.c (ao true) q (S ?_)
    exact aL h
   ·refine S ?_
    refine aI cs fun cs=>S ?_
    exact am h
theorem toFormula_sat{a0:Ft}{r:Ft}(h:toFormula a0=some r):Sat ag 7 [((ao false) a0)] ((ao true) r):=by
 obtain⟨n,hn⟩:=lim_some h
 exact(toFormulaN_sat n).1 _ _ hn
theorem toFormulaS_sat{a0:List Ft}{r:List Ft}(h:toFormulaS a0=some r):Sat ag 25 [(.sl false 5 (a0.map (ao false)))] (.sl true 5 (r.map (ao true))):=by
 obtain⟨n,hn⟩:=lim_some h
 exact(toFormulaN_sat n).2 _ _ hn

theorem toTermSS_sat{a0:List (List Tt)}  {r:List (List Tt)}(h:toTermSS a0=some r):Sat ag 8 [(.sl false 1 (a0.map (Lv false 2 (ah false))))] (.sl true 1 (r.map (Lv true 2 (ah true)))):=by
 obtain⟨h,cs⟩:=aq h
 unfold toTermSS at h
 refine ar 23 [.tmp 2] Tryz.func8 (h:=S ?_)
 refine run_bk h fun n7 q h=>MknH.mk q (S ?_)
 refine aN (b:=false) (sz:=1) (es:=a0.map (Lv false 2 (ah false))) 0 SC fun hl0=>?_; rw[aC] at hl0
 refine aJ (run_loop h) (fun i3 s3=>[(0,.val (.pv (.sl false 1 (a0.map (Lv false 2 (ah false)))))),(3,.val (.own 112)),(4,.val (.pv (I (i3:Int))))]) (fun i3 s3=>[(112,(1,s3.map (Lv true 2 (ah true))))]) (az SC) (fun i3 s3 hi h=>?_) (fun s3 h=>?_)
 ·have w:=wrap_s2 i3
  refine S ?_
  refine aH cs fun cs=>S ?_
  refine run_bk h fun v18 q h=>IdxH.mk (f:=(Lv false 2 (ah false))) q SC (S ?_)
  refine run_bk h fun v20 q h=>aj [false] (toTermS_sat q) (S ?_)
  refine run_bk h fun v21 q h=>IdxH.mk (f:=(Lv true 2 (ah true))) q SC (S ?_)
  refine run_bk h fun w2 q h=>EldH.mk (f:=(Lv true 2 (ah true))) q rfl SC (S ?_)
  exact aL h
 ·refine S ?_
  refine aI cs fun cs=>S ?_
  exact am h

theorem spec_l8ManyN_sat(n:Nat):(∀ (a0:Ft) (a1:Int) (r:Int),spec_l8ManyN n a0 a1=some r→Sat ag 80 [((ao false) a0),(I a1)] (I r)):=by
 induction n with
 | zero=>exact fun _ _ _ h=>by simp[spec_l8ManyN] at h
 | succ n ih=>
  refine fun a0 a1 r h=>?_
  obtain⟨h,cs⟩:=aq h
  rw[spec_l8ManyN] at h
  refine ar 31 [.tmp 4] Tryz.func80 (h:=S ?_)
  refine bC (b:=false) (sz:=5) (es:=a0.Parts.map (ao false)) (x:=(.pv ((ao false) a0))) 0 [3] SC fun hl0=>?_; rw[aC] at hl0
  refine aJ (run_loop h) (fun i3 s3=>[(1,.val (.pv (I a1))),(2,.box (.pv ((ao false) a0))),(5,.val (.pv (I s3))),(6,.val (.pv (I (i3:Int))))]) (fun i3 s3=>[]) (az SC) (fun i3 s3 hi h=>?_) (fun s3 h=>?_)
  ·have w:=wrap_s2 i3
   refine S ?_
   refine aH cs fun cs=>S ?_
   refine ai cs h (fun cs h=>S ?_) fun cs h=>S ?_
   ·refine run_bk h fun v23 q h=>aA (ao false) q (S ?_)
    refine run_bk h fun v28 q h=>aj [false,false] (ih _ _ _ q) (S ?_)
    exact aL h
   ·exact am h
  ·refine S ?_
   refine aI cs fun cs=>S ?_
   exact am h
theorem spec_l8Many_sat{a0:Ft}{a1:Int}{r:Int}(h:spec_l8Many a0 a1=some r):Sat ag 80 [((ao false) a0),(I a1)] (I r):=by
 obtain⟨n,hn⟩:=lim_some h
 exact(spec_l8ManyN_sat n) _ _ _ hn

theorem spec_l8None_sat{a0:Tt}  {r:Bool}(h:spec_l8None a0=some r):Sat ag 149 [((ah false) a0)] (B r):=by
 obtain⟨h,cs⟩:=aq h
 unfold spec_l8None at h
 refine ar 12 [.tmp 2] Tryz.func149 (h:=S ?_)
 refine ai cs h (fun cs h=>S ?_) fun cs h=>S ?_
 ·exact am h
 ·exact am h

theorem spec_l2ManyN_sat(n:Nat):(∀ (a0:Tt) (a1:Int) (r:Int),spec_l2ManyN n a0 a1=some r→Sat ag 145 [((ah false) a0),(I a1)] (I r)):=by
 induction n with
 | zero=>exact fun _ _ _ h=>by simp[spec_l2ManyN] at h
 | succ n ih=>
  refine fun a0 a1 r h=>?_
  obtain⟨h,cs⟩:=aq h
  rw[spec_l2ManyN] at h
  refine ar 31 [.tmp 4] Tryz.func145 (h:=S ?_)
  refine bC (b:=false) (sz:=2) (es:=a0.Args.map (ah false)) (x:=(.pv ((ah false) a0))) 0 [1] SC fun hl0=>?_; rw[aC] at hl0
  refine aJ (run_loop h) (fun i3 s3=>[(1,.val (.pv (I a1))),(2,.box (.pv ((ah false) a0))),(5,.val (.pv (I s3))),(6,.val (.pv (I (i3:Int))))]) (fun i3 s3=>[]) (az SC) (fun i3 s3 hi h=>?_) (fun s3 h=>?_)
  ·have w:=wrap_s2 i3
   refine S ?_
   refine aH cs fun cs=>S ?_
   refine ai cs h (fun cs h=>S ?_) fun cs h=>S ?_
   ·refine run_bk h fun v23 q h=>aA (ah false) q (S ?_)
    refine run_bk h fun v28 q h=>aj [false,false] (ih _ _ _ q) (S ?_)
    exact aL h
   ·exact am h
  ·refine S ?_
   refine aI cs fun cs=>S ?_
   exact am h
theorem spec_l2Many_sat{a0:Tt}{a1:Int}{r:Int}(h:spec_l2Many a0 a1=some r):Sat ag 145 [((ah false) a0),(I a1)] (I r):=by
 obtain⟨n,hn⟩:=lim_some h
 exact(spec_l2ManyN_sat n) _ _ _ hn

theorem spec_l1Most_sat{a0:Int}{a1:Int}  {r:Int}(h:spec_l1Most a0 a1=some r):Sat ag 173 [(I a0),(I a1)] (I r):=by
 obtain⟨h,cs⟩:=aq h
 unfold spec_l1Most at h
 refine ar 10 [.tmp 4] Tryz.func173 (h:=S ?_)
 refine ai cs h (fun cs h=>S ?_) fun cs h=>S ?_
 ·exact am h
 ·exact am h

theorem spec_l2DepthN_sat(n:Nat):(∀ (a0:Tt) (r:Int),spec_l2DepthN n a0=some r→Sat ag 146 [((ah false) a0)] (I r)):=by
 induction n with
 | zero=>exact fun _ _ h=>by simp[spec_l2DepthN] at h
 | succ n ih=>
  refine fun a0 r h=>?_
  obtain⟨h,cs⟩:=aq h
  rw[spec_l2DepthN] at h
  refine ar 22 [.tmp 2] Tryz.func146 (h:=S ?_)
  refine bC (b:=false) (sz:=2) (es:=a0.Args.map (ah false)) (x:=(.pv ((ah false) a0))) 0 [1] SC fun hl0=>?_; rw[aC] at hl0
  refine aJ (run_loop h) (fun i3 s3=>[(1,.box (.pv ((ah false) a0))),(3,.val (.pv (I s3))),(4,.val (.pv (I (i3:Int))))]) (fun i3 s3=>[]) (az SC) (fun i3 s3 hi h=>?_) (fun s3 h=>?_)
  ·have w:=wrap_s2 i3
   refine S ?_
   refine aH cs fun cs=>S ?_
   refine run_bk h fun v16 q h=>aA (ah false) q (S ?_)
   refine run_bk h fun v18 q h=>aj [false] (ih _ _ q) (S ?_)
   refine run_bk h fun v19 q h=>aj [false,false] (spec_l1Most_sat q) (S ?_)
   exact aL h
  ·refine S ?_
   refine aI cs fun cs=>S ?_
   exact am h
theorem spec_l2Depth_sat{a0:Tt}{r:Int}(h:spec_l2Depth a0=some r):Sat ag 146 [((ah false) a0)] (I r):=by
 obtain⟨n,hn⟩:=lim_some h
 exact(spec_l2DepthN_sat n) _ _ hn

theorem spec_l2Fits_sat{a0:Tt}  {r:Bool}(h:spec_l2Fits a0=some r):Sat ag 117 [((ah false) a0)] (B r):=by
 obtain⟨h,cs⟩:=aq h
 unfold spec_l2Fits at h
 refine ar 11 [.tmp 2] Tryz.func117 (h:=S ?_)
 refine run_bk h fun v4 q h=>aj [false,false] (spec_l2Many_sat q) (S ?_)
 refine ai cs h (fun cs h=>S ?_) fun cs h=>S ?_
 ·refine run_bk h fun v8 q h=>aj [false] (spec_l2Depth_sat q) (S ?_)
  exact am h
 ·exact am h

theorem spec_l1In_sat{a0:Int}{a1:Int}{a2:Int}  {r:Bool}(h:spec_l1In a0 a1 a2=some r):Sat ag 147 [(I a0),(I a1),(I a2)] (B r):=by
 obtain⟨h,cs⟩:=aq h
 unfold spec_l1In at h
 refine ar 15 [.tmp 6] Tryz.func147 (h:=S ?_)
 refine ai cs h (fun cs h=>S ?_) fun cs h=>S ?_
 ·exact am h
 ·exact am h

theorem spec_l2Small_sat{a0:Int}  {r:Bool}(h:spec_l2Small a0=some r):Sat ag 148 [((Ik .u8) a0)] (B r):=by
 obtain⟨h,cs⟩:=aq h
 unfold spec_l2Small at h
 refine ar 17 [.tmp 2] Tryz.func148 (h:=S ?_)
 refine ai cs h (fun cs h=>S ?_) fun cs h=>S ?_
 refine ai cs h (fun cs h=>S ?_) fun cs h=>S ?_
 rotate_left
 refine ai cs h (fun cs h=>S ?_) fun cs h=>S ?_
 rotate_left 2
 refine ai cs h (fun cs h=>S ?_) fun cs h=>S ?_
 all_goals
  exact am h

theorem spec_l2Var_sat{a0:ByteArray}  {r:Bool}(h:spec_l2Var a0=some r):Sat ag 119 [(Sx a0)] (B r):=by
 obtain⟨h,cs⟩:=aq h
 unfold spec_l2Var at h
 refine ar 29 [.tmp 2] Tryz.func119 (h:=S ?_)
 refine run_bk h fun v6 q h=>aj [false,false,false] (spec_l1In_sat q) (S ?_)
 refine ai cs h (fun cs h=>S ?_) fun cs h=>S ?_
 refine run_bk h fun v10 q h=>bu q (S ?_)
 refine ai cs h (fun cs h=>S ?_) fun cs h=>S ?_
 rotate_left
 refine run_bk h fun v15 q h=>bu q (S ?_)
 refine ai cs h (fun cs h=>S ?_) fun cs h=>S ?_
 rotate_left
 ·obtain⟨N4,hN4,h⟩:=run_bind h
  obtain⟨hN4a,hN4b⟩:=bnd_some hN4
  replace h:=run_loop h
  refine Mg.forA (N:=N4) (a:=1) h (fun i4 s4=>[(0,.val (.pv (Sx a0))),(3,.val (.pv (I (i4:Int))))]) (fun i4 s4=>[]) (az SC) (fun i4 s4 hi hj h=>?_) (fun j4 s4 hj h=>?_)
  ·have w:=wrap_s2 i4
   refine S ?_
   refine aH cs fun cs=>S ?_
   refine run_bk h fun v26 q h=>bu q (S ?_)
   refine run_bk h fun v27 q h=>aj [false] (spec_l2Small_sat q) (S ?_)
   refine ai cs h (fun cs h=>S ?_) fun cs h=>S ?_
   ·exact aL h
   ·exact am h
  ·refine S ?_
   refine aI cs fun cs=>S ?_
   exact am h
 all_goals
  exact am h

theorem spec_l2Symbol_sat{a0:ByteArray}  {r:Bool}(h:spec_l2Symbol a0=some r):Sat ag 122 [(Sx a0)] (B r):=by
 obtain⟨h,cs⟩:=aq h
 unfold spec_l2Symbol at h
 refine ar 45 [.tmp 2] Tryz.func122 (h:=S ?_)
 refine run_bk h fun v6 q h=>aj [false,false,false] (spec_l1In_sat q) (S ?_)
 refine ai cs h (fun cs h=>S ?_) fun cs h=>S ?_
 refine run_bk h fun v10 q h=>bu q (S ?_)
 refine ai cs h (fun cs h=>S ?_) fun cs h=>S ?_
 rotate_left
 refine run_bk h fun v15 q h=>bu q (S ?_)
 refine ai cs h (fun cs h=>S ?_) fun cs h=>S ?_
 rotate_left
 refine ai cs h (fun cs h=>S ?_) fun cs h=>S ?_
 rotate_left
 refine ai cs h (fun cs h=>S ?_) fun cs h=>S ?_
 rotate_left
 refine ai cs h (fun cs h=>S ?_) fun cs h=>S ?_
 rotate_left
 refine ai cs h (fun cs h=>S ?_) fun cs h=>S ?_
 rotate_left
 refine ai cs h (fun cs h=>S ?_) fun cs h=>S ?_
 rotate_left
 refine ai cs h (fun cs h=>S ?_) fun cs h=>S ?_
 rotate_left
 refine ai cs h (fun cs h=>S ?_) fun cs h=>S ?_
 rotate_left
 refine ai cs h (fun cs h=>S ?_) fun cs h=>S ?_
 rotate_left
 ·obtain⟨N14,hN14,h⟩:=run_bind h
  obtain⟨hN14a,hN14b⟩:=bnd_some hN14
  replace h:=run_loop h
  refine Mg.forA (N:=N14) (a:=1) h (fun i14 s14=>[(0,.val (.pv (Sx a0))),(3,.val (.pv (I (i14:Int))))]) (fun i14 s14=>[]) (az SC) (fun i14 s14 hi hj h=>?_) (fun j14 s14 hj h=>?_)
  ·have w:=wrap_s2 i14
   refine S ?_
   refine aH cs fun cs=>S ?_
   refine run_bk h fun v36 q h=>bu q (S ?_)
   refine run_bk h fun v37 q h=>aj [false] (spec_l2Small_sat q) (S ?_)
   refine ai cs h (fun cs h=>S ?_) fun cs h=>S ?_
   ·exact aL h
   ·refine run_bk h fun v42 q h=>bu q (S ?_)
    refine ai cs h (fun cs h=>S ?_) fun cs h=>S ?_
    ·exact aL h
    ·exact am h
  ·refine S ?_
   refine aI cs fun cs=>S ?_
   exact am h
 all_goals
  exact am h

theorem spec_l2NodesN_sat(n:Nat):(∀ (a0:Tt) (r:Bool),spec_l2NodesN n a0=some r→Sat ag 118 [((ah false) a0)] (B r)):=by
 induction n with
 | zero=>exact fun _ _ h=>by simp[spec_l2NodesN] at h
 | succ n ih=>
  refine fun a0 r h=>?_
  obtain⟨h,cs⟩:=aq h
  rw[spec_l2NodesN] at h
  refine ar 35 [.tmp 2] Tryz.func118 (h:=S ?_)
  refine run_bk h fun v6 q h=>aj [false] (spec_l2Var_sat q) (S ?_)
  refine ai cs h (fun cs h=>S ?_) fun cs h=>S ?_
  rotate_left
  refine run_bk h fun v13 q h=>aj [false] (spec_l2Symbol_sat q) (S ?_)
  refine ai cs h (fun cs h=>S ?_) fun cs h=>S ?_
  refine ai cs h (fun cs h=>S ?_) fun cs h=>S ?_
  rotate_left
  ·refine aN (b:=false) (sz:=2) (es:=a0.Args.map (ah false)) 17 SC fun hl17=>?_; rw[aC] at hl17
   refine aJ (run_loop h) (fun i6 s6=>[(1,.box (.pv ((ah false) a0))),(3,.val (.pv (I (i6:Int))))]) (fun i6 s6=>[]) (az SC) (fun i6 s6 hi h=>?_) (fun s6 h=>?_)
   ·have w:=wrap_s2 i6
    refine S ?_
    refine aH cs fun cs=>S ?_
    refine run_bk h fun v31 q h=>aA (ah false) q (S ?_)
    refine run_bk h fun v33 q h=>aj [false] (ih _ _ q) (S ?_)
    refine ai cs h (fun cs h=>S ?_) fun cs h=>S ?_
    ·exact aL h
    ·exact am h
   ·refine S ?_
    refine aI cs fun cs=>S ?_
    exact am h
  all_goals
   exact am h
theorem spec_l2Nodes_sat{a0:Tt}{r:Bool}(h:spec_l2Nodes a0=some r):Sat ag 118 [((ah false) a0)] (B r):=by
 obtain⟨n,hn⟩:=lim_some h
 exact(spec_l2NodesN_sat n) _ _ hn

theorem spec_l2Good_sat{a0:Tt}  {r:Bool}(h:spec_l2Good a0=some r):Sat ag 73 [((ah false) a0)] (B r):=by
 obtain⟨h,cs⟩:=aq h
 unfold spec_l2Good at h
 refine ar 9 [.tmp 2] Tryz.func73 (h:=S ?_)
 refine run_bk h fun v4 q h=>aj [false] (spec_l2Fits_sat q) (S ?_)
 refine ai cs h (fun cs h=>S ?_) fun cs h=>S ?_
 ·refine run_bk h fun v7 q h=>aj [false] (spec_l2Nodes_sat q) (S ?_)
  exact am h
 ·exact am h

theorem spec_l2Atom_sat{a0:Tt}  {r:Bool}(h:spec_l2Atom a0=some r):Sat ag 77 [((ah false) a0)] (B r):=by
 obtain⟨h,cs⟩:=aq h
 unfold spec_l2Atom at h
 refine ar 35 [.tmp 2] Tryz.func77 (h:=S ?_)
 refine ai cs h (fun cs h=>S ?_) fun cs h=>S ?_
 ·refine ai cs h (fun cs h=>S ?_) fun cs h=>S ?_
  refine run_bk h fun v12 q h=>aj [false] (spec_l2Fits_sat q) (S ?_)
  refine ai cs h (fun cs h=>S ?_) fun cs h=>S ?_
  refine run_bk h fun v17 q h=>aA (ah false) q (S ?_)
  refine run_bk h fun v19 q h=>aj [false] (spec_l2Nodes_sat q) (S ?_)
  refine ai cs h (fun cs h=>S ?_) fun cs h=>S ?_
  ·refine run_bk h fun v24 q h=>aA (ah false) q (S ?_)
   refine run_bk h fun v26 q h=>aj [false] (spec_l2Nodes_sat q) (S ?_)
   exact am h
  all_goals
   exact am h
 ·refine run_bk h fun v30 q h=>aj [false] (spec_l2Symbol_sat q) (S ?_)
  refine ai cs h (fun cs h=>S ?_) fun cs h=>S ?_
  ·refine run_bk h fun v33 q h=>aj [false] (spec_l2Good_sat q) (S ?_)
   exact am h
  ·exact am h

theorem spec_l8Form_sat{a0:Ft}  {r:Bool}(h:spec_l8Form a0=some r):Sat ag 124 [((ao false) a0)] (B r):=by
 obtain⟨h,cs⟩:=aq h
 unfold spec_l8Form at h
 refine ar 83 [.tmp 2] Tryz.func124 (h:=S ?_)
 refine ai cs h (fun cs h=>S ?_) fun cs h=>S ?_
 refine ai cs h (fun cs h=>S ?_) fun cs h=>S ?_
 refine run_bk h fun v17 q h=>aj [false] (spec_l8None_sat q) (S ?_)
 refine ai cs h (fun cs h=>S ?_) fun cs h=>S ?_
 rotate_left 3
 refine ai cs h (fun cs h=>S ?_) fun cs h=>S ?_
 refine ai cs h (fun cs h=>S ?_) fun cs h=>S ?_
 refine run_bk h fun v17 q h=>aj [false] (spec_l8None_sat q) (S ?_)
 refine ai cs h (fun cs h=>S ?_) fun cs h=>S ?_
 rotate_left 3
 refine ai cs h (fun cs h=>S ?_) fun cs h=>S ?_
 refine ai cs h (fun cs h=>S ?_) fun cs h=>S ?_
 refine run_bk h fun v31 q h=>aj [false] (spec_l2Atom_sat q) (S ?_)
 refine ai cs h (fun cs h=>S ?_) fun cs h=>S ?_
 rotate_left 3
 refine ai cs h (fun cs h=>S ?_) fun cs h=>S ?_
 refine ai cs h (fun cs h=>S ?_) fun cs h=>S ?_
 refine run_bk h fun v45 q h=>aj [false] (spec_l8None_sat q) (S ?_)
 refine ai cs h (fun cs h=>S ?_) fun cs h=>S ?_
 rotate_left 3
 refine ai cs h (fun cs h=>S ?_) fun cs h=>S ?_
 refine ai cs h (fun cs h=>S ?_) fun cs h=>S ?_
 refine run_bk h fun v61 q h=>aj [false] (spec_l8None_sat q) (S ?_)
 refine ai cs h (fun cs h=>S ?_) fun cs h=>S ?_
 rotate_left 3
 refine ai cs h (fun cs h=>S ?_) fun cs h=>S ?_
 refine ai cs h (fun cs h=>S ?_) fun cs h=>S ?_
 refine run_bk h fun v61 q h=>aj [false] (spec_l8None_sat q) (S ?_)
 refine ai cs h (fun cs h=>S ?_) fun cs h=>S ?_
 rotate_left 3
 refine ai cs h (fun cs h=>S ?_) fun cs h=>S ?_
 refine ai cs h (fun cs h=>S ?_) fun cs h=>S ?_
 refine run_bk h fun v61 q h=>aj [false] (spec_l8None_sat q) (S ?_)
 refine ai cs h (fun cs h=>S ?_) fun cs h=>S ?_
 rotate_left 3
 refine ai cs h (fun cs h=>S ?_) fun cs h=>S ?_
 refine ai cs h (fun cs h=>S ?_) fun cs h=>S ?_
 refine run_bk h fun v76 q h=>aj [false] (spec_l8None_sat q) (S ?_)
 refine ai cs h (fun cs h=>S ?_) fun cs h=>S ?_
 rotate_left 3
 refine ai cs h (fun cs h=>S ?_) fun cs h=>S ?_
 refine ai cs h (fun cs h=>S ?_) fun cs h=>S ?_
 refine run_bk h fun v76 q h=>aj [false] (spec_l8None_sat q) (S ?_)
 refine ai cs h (fun cs h=>S ?_) fun cs h=>S ?_
 ·refine run_bk h fun v81 q h=>aj [false] (spec_l2Var_sat q) (S ?_)
  exact am h
 rotate_left 24
 ·refine run_bk h fun v81 q h=>aj [false] (spec_l2Var_sat q) (S ?_)
  exact am h
 all_goals
  exact am h

theorem spec_l8FormsN_sat(n:Nat):(∀ (a0:Ft) (r:Bool),spec_l8FormsN n a0=some r→Sat ag 81 [((ao false) a0)] (B r)):=by
 induction n with
 | zero=>exact fun _ _ h=>by simp[spec_l8FormsN] at h
 | succ n ih=>
  refine fun a0 r h=>?_
  obtain⟨h,cs⟩:=aq h
  rw[spec_l8FormsN] at h
  refine ar 21 [.tmp 2] Tryz.func81 (h:=S ?_)
  refine run_bk h fun v5 q h=>aj [false] (spec_l8Form_sat q) (S ?_)
  refine ai cs h (fun cs h=>S ?_) fun cs h=>S ?_
  ·refine bC (b:=false) (sz:=5) (es:=a0.Parts.map (ao false)) (x:=(.pv ((ao false) a0))) 0 [3] SC fun hl0=>?_; rw[aC] at hl0
   refine aJ (run_loop h) (fun i4 s4=>[(1,.box (.pv ((ao false) a0))),(3,.val (.pv (I (i4:Int))))]) (fun i4 s4=>[]) (az SC) (fun i4 s4 hi h=>?_) (fun s4 h=>?_)
   ·have w:=wrap_s2 i4
    refine S ?_
    refine aH cs fun cs=>S ?_
    refine run_bk h fun v17 q h=>aA (ao false) q (S ?_)
    refine run_bk h fun v19 q h=>aj [false] (ih _ _ q) (S ?_)
    refine ai cs h (fun cs h=>S ?_) fun cs h=>S ?_
    ·exact aL h
    ·exact am h
   ·refine S ?_
    refine aI cs fun cs=>S ?_
    exact am h
  ·exact am h
theorem spec_l8Forms_sat{a0:Ft}{r:Bool}(h:spec_l8Forms a0=some r):Sat ag 81 [((ao false) a0)] (B r):=by
 obtain⟨n,hn⟩:=lim_some h
 exact(spec_l8FormsN_sat n) _ _ hn

theorem spec_l8Good_sat{a0:Ft}  {r:Bool}(h:spec_l8Good a0=some r):Sat ag 46 [((ao false) a0)] (B r):=by
 obtain⟨h,cs⟩:=aq h
 unfold spec_l8Good at h
 refine ar 10 [.tmp 2] Tryz.func46 (h:=S ?_)
 refine run_bk h fun v4 q h=>aj [false,false] (spec_l8Many_sat q) (S ?_)
 refine ai cs h (fun cs h=>S ?_) fun cs h=>S ?_
 ·refine run_bk h fun v8 q h=>aj [false] (spec_l8Forms_sat q) (S ?_)
  exact am h
 ·exact am h

theorem spec_l2Put_sat{a0:List ByteArray}{a1:ByteArray}  {r:List ByteArray}(h:spec_l2Put a0 a1=some r):Sat ag 144 [(.sl false 1 (a0.map Sx)),(Sx a1)] (.sl false 1 (r.map Sx)):=by
 obtain⟨h,cs⟩:=aq h
 unfold spec_l2Put at h
 refine ar 45 [.tmp 4] Tryz.func144 (h:=S ?_)
 refine aN (b:=false) (sz:=1) (es:=a0.map Sx) 0 SC fun hl0=>?_; rw[aC] at hl0
 refine aJ (run_loop h) (fun i2 s2=>[(0,.val (.pv (.sl false 1 (a0.map Sx)))),(1,.val (.pv (Sx a1))),(5,.val (.pv (I (i2:Int))))]) (fun i2 s2=>[]) (az SC) (fun i2 s2 hi h=>?_) (fun s2 h=>?_)
 ·have w:=wrap_s2 i2
  refine S ?_
  refine aH cs fun cs=>S ?_
  refine run_bk h fun v13 q h=>aA Sx q (S ?_)
  refine ai cs h (fun cs h=>S ?_) fun cs h=>S ?_
  ·exact aL h
  ·refine run_bk h fun v27 q h=>aA Sx q (S ?_)
   refine ai cs h (fun cs h=>S ?_) fun cs h=>S ?_
   ·exact bd h
   ·refine run_bk h fun v36 q h=>SlcH.mk (f:=Sx) q SC (S ?_)
    refine run_bk h fun v37 q h=>aP Sx (fun _=>rfl) q (S ?_)
    refine run_bk h fun v40 q h=>aP Sx (fun _=>rfl) q (S ?_)
    refine run_bk h fun v43 q h=>SlcH.mk (f:=Sx) q SC (S ?_)
    refine run_bk h fun v44 q h=>aP Sx (fun _=>rfl) q (S ?_)
    refine ae (aO [] [528,592,624,640,704]) (S ?_)
    exact bd h
 ·refine S ?_
  refine aI cs fun cs=>S ?_
  refine run_bk h fun v36 q h=>SlcH.mk (f:=Sx) q SC (S ?_)
  refine run_bk h fun v37 q h=>aP Sx (fun _=>rfl) q (S ?_)
  refine run_bk h fun v40 q h=>aP Sx (fun _=>rfl) q (S ?_)
  refine run_bk h fun v43 q h=>SlcH.mk (f:=Sx) q SC (S ?_)
  refine run_bk h fun v44 q h=>aP Sx (fun _=>rfl) q (S ?_)
  refine ae (aO [] [528,592,624,640,704]) (S ?_)
  exact bd h

theorem spec_l2IntoN_sat(n:Nat):(∀ (a0:List ByteArray) (a1:Tt) (r:List ByteArray),spec_l2IntoN n a0 a1=some r→Sat ag 123 [(.sl false 1 (a0.map Sx)),((ah false) a1)] (.sl false 1 (r.map Sx))):=by
 induction n with
 | zero=>exact fun _ _ _ h=>by simp[spec_l2IntoN] at h
 | succ n ih=>
  refine fun a0 a1 r h=>?_
  obtain⟨h,cs⟩:=aq h
  rw[spec_l2IntoN] at h
  refine ar 28 [.tmp 4] Tryz.func123 (h:=S ?_)
  refine run_bk h fun v8 q h=>aj [false] (spec_l2Var_sat q) (S ?_)
  refine ai cs h (fun cs h=>S ?_) fun cs h=>S ?_
  ·refine run_bk h fun v12 q h=>aj [false,false] (spec_l2Put_sat q) (S ?_)
   exact bd h
  ·refine bC (b:=false) (sz:=2) (es:=a1.Args.map (ah false)) (x:=(.pv ((ah false) a1))) 1 [1] SC fun hl1=>?_; rw[aC] at hl1
   refine aJ (run_loop h) (fun i4 s4=>[(0,.val (.pv (.sl false 1 (s4.map Sx)))),(3,.box (.pv ((ah false) a1))),(5,.val (.pv (I (i4:Int))))]) (fun i4 s4=>[]) (az SC) (fun i4 s4 hi h=>?_) (fun s4 h=>?_)
   ·have w:=wrap_s2 i4
    refine S ?_
    refine aH cs fun cs=>S ?_
    refine run_bk h fun v24 q h=>aA (ah false) q (S ?_)
    refine run_bk h fun v26 q h=>aj [false,false] (ih _ _ _ q) (S ?_)
    exact aL h
   ·refine S ?_
    refine aI cs fun cs=>S ?_
    exact bd h
theorem spec_l2Into_sat{a0:List ByteArray}{a1:Tt}{r:List ByteArray}(h:spec_l2Into a0 a1=some r):Sat ag 123 [(.sl false 1 (a0.map Sx)),((ah false) a1)] (.sl false 1 (r.map Sx)):=by
 obtain⟨n,hn⟩:=lim_some h
 exact(spec_l2IntoN_sat n) _ _ _ hn

theorem spec_l2Vars_sat{a0:Tt}  {r:List ByteArray}(h:spec_l2Vars a0=some r):Sat ag 79 [((ah false) a0)] (.sl false 1 (r.map Sx)):=by
 obtain⟨h,cs⟩:=aq h
 unfold spec_l2Vars at h
 refine ar 6 [.tmp 2] Tryz.func79 (h:=S ?_)
 refine run_bk h fun v5 q h=>aj [true,false] (Sat.give (args:=[(.sl true 1 (([]).map Sx)),((ah false) a0)]) [true,false] (by have gg:=spec_l2Into_sat q; simp only[gv_t,gv_f,gv_n,view_sl,view_agg,view_lit,views_repB,views_repI,PV.views,RB,RS] at gg ⊢; exact gg)) (S ?_)
 exact bd h

theorem spec_l2In_sat{a0:List ByteArray}{a1:ByteArray}  {r:Bool}(h:spec_l2In a0 a1=some r):Sat ag 71 [(.sl false 1 (a0.map Sx)),(Sx a1)] (B r):=by
 obtain⟨h,cs⟩:=aq h
 unfold spec_l2In at h
 refine ar 18 [.tmp 4] Tryz.func71 (h:=S ?_)
 refine aN (b:=false) (sz:=1) (es:=a0.map Sx) 0 SC fun hl0=>?_; rw[aC] at hl0
 refine aJ (run_loop h) (fun i2 s2=>[(0,.val (.pv (.sl false 1 (a0.map Sx)))),(1,.val (.pv (Sx a1))),(5,.val (.pv (I (i2:Int))))]) (fun i2 s2=>[]) (az SC) (fun i2 s2 hi h=>?_) (fun s2 h=>?_)
 ·have w:=wrap_s2 i2
  refine S ?_
  refine aH cs fun cs=>S ?_
  refine run_bk h fun v14 q h=>aA Sx q (S ?_)
  refine ai cs h (fun cs h=>S ?_) fun cs h=>S ?_
  ·exact am h
  ·exact aL h
 ·refine S ?_
  refine aI cs fun cs=>S ?_
  exact am h

theorem spec_l8IntoN_sat(n:Nat):(∀ (a0:List ByteArray) (a1:Ft) (a2:List ByteArray) (r:List ByteArray),spec_l8IntoN n a0 a1 a2=some r→Sat ag 116 [(.sl false 1 (a0.map Sx)),((ao false) a1),(.sl false 1 (a2.map Sx))] (.sl false 1 (r.map Sx))):=by
 induction n with
 | zero=>exact fun _ _ _ _ h=>by simp[spec_l8IntoN] at h
 | succ n ih=>
  refine fun a0 a1 a2 r h=>?_
  obtain⟨h,cs⟩:=aq h
  rw[spec_l8IntoN] at h
  refine ar 66 [.tmp 6] Tryz.func116 (h:=S ?_)
  refine ai cs h (fun cs h=>S ?_) fun cs h=>S ?_
  ·refine run_bk h fun v15 q h=>aj [false] (spec_l2Vars_sat q) (S ?_)
   refine aN (b:=false) (sz:=1) (es:=v15.map Sx) 7 SC fun hl7=>?_; rw[aC] at hl7
   refine aJ (run_loop h) (fun i4 s4=>[(0,.val (.pv (.sl false 1 (s4.map Sx)))),(2,.val (.pv (.sl false 1 (a2.map Sx)))),(4,.box (.pv ((ao false) a1))),(7,.val (.pv (.sl false 1 (v15.map Sx)))),(8,.val (.pv (I (i4:Int))))]) (fun i4 s4=>[]) (az SC) (fun i4 s4 hi h=>?_) (fun s4 h=>?_)
   ·have w:=wrap_s2 i4
    refine S ?_
    refine aH cs fun cs=>S ?_
    refine run_bk h fun v25 q h=>aA Sx q (S ?_)
    refine run_bk h fun v27 q h=>aj [false,false] (spec_l2In_sat q) (S ?_)
    refine ai cs h (fun cs h=>S ?_) fun cs h=>S ?_
    ·exact aL h
    ·refine run_bk h fun v32 q h=>aA Sx q (S ?_)
     refine run_bk h fun v34 q h=>aj [false,false] (spec_l2Put_sat q) (S ?_)
     exact aL h
   ·refine S ?_
    refine aI cs fun cs=>S ?_
    refine ai cs h (fun cs h=>S ?_) fun cs h=>S ?_
    rotate_left
    refine ai cs h (fun cs h=>S ?_) fun cs h=>S ?_
    rotate_left
    ·refine Mg.know_box2 (b:=false) (sz:=5) (es:=a1.Parts.map (ao false)) (x:=(.pv ((ao false) a1))) 4 [3] SC fun hl4=>?_; rw[aC] at hl4
     refine aJ (run_loop h) (fun i11 s11=>[(0,.val (.pv (.sl false 1 (s11.map Sx)))),(2,.val (.pv (.sl false 1 (a2.map Sx)))),(4,.box (.pv ((ao false) a1))),(9,.val (.pv (I (i11:Int))))]) (fun i11 s11=>[]) (az SC) (fun i11 s11 hi h=>?_) (fun s11 h=>?_)
     ·have w:=wrap_s2 i11
      refine S ?_
      refine aH cs fun cs=>S ?_
      refine run_bk h fun v61 q h=>aA (ao false) q (S ?_)
      refine run_bk h fun v64 q h=>aj [false,false,false] (ih _ _ _ _ q) (S ?_)
      exact aL h
     ·refine S ?_
      refine aI cs fun cs=>S ?_
      exact bd h
    all_goals
     refine run_bk h fun v45 q h=>aP Sx (fun _=>rfl) q (S ?_)
     refine run_bk h fun v49 q h=>aP Sx (fun _=>rfl) q (S ?_)
     refine ae (aO [] [688,720,768,784]) (S ?_)
     refine Mg.know_box2 (b:=false) (sz:=5) (es:=a1.Parts.map (ao false)) (x:=(.pv ((ao false) a1))) 4 [3] SC fun hl4=>?_; rw[aC] at hl4
     refine aJ (run_loop h) (fun i11 s11=>[(0,.val (.pv (.sl false 1 (s11.map Sx)))),(2,.val (.pv (.sl false 1 (v49.map Sx)))),(4,.box (.pv ((ao false) a1))),(9,.val (.pv (I (i11:Int))))]) (fun i11 s11=>[]) (bz (St.le_demV (x:=(.own 784)) (sz:=(1)) (es:=v49.map Sx) 2 [] 784 SC) (az SC)) (fun i11 s11 hi h=>?_) (fun s11 h=>?_)
     ·have w:=wrap_s2 i11
      refine S ?_
      refine aH cs fun cs=>S ?_
      refine run_bk h fun v61 q h=>aA (ao false) q (S ?_)
      refine run_bk h fun v64 q h=>aj [false,false,false] (ih _ _ _ _ q) (S ?_)
      exact aL h
     ·refine S ?_
      refine aI cs fun cs=>S ?_
      exact bd h
  ·refine ai cs h (fun cs h=>S ?_) fun cs h=>S ?_
   rotate_left
   refine ai cs h (fun cs h=>S ?_) fun cs h=>S ?_
   rotate_left
   ·refine bC (b:=false) (sz:=5) (es:=a1.Parts.map (ao false)) (x:=(.pv ((ao false) a1))) 1 [3] SC fun hl1=>?_; rw[aC] at hl1
    refine aJ (run_loop h) (fun i11 s11=>[(0,.val (.pv (.sl false 1 (s11.map Sx)))),(2,.val (.pv (.sl false 1 (a2.map Sx)))),(4,.box (.pv ((ao false) a1))),(9,.val (.pv (I (i11:Int))))]) (fun i11 s11=>[]) (az SC) (fun i11 s11 hi h=>?_) (fun s11 h=>?_)
    ·have w:=wrap_s2 i11
     refine S ?_
     refine aH cs fun cs=>S ?_
     refine run_bk h fun v61 q h=>aA (ao false) q (S ?_)
     refine run_bk h fun v64 q h=>aj [false,false,false] (ih _ _ _ _ q) (S ?_)
     exact aL h
    ·refine S ?_
     refine aI cs fun cs=>S ?_
     exact bd h
   all_goals
    refine run_bk h fun v45 q h=>aP Sx (fun _=>rfl) q (S ?_)
    refine run_bk h fun v49 q h=>aP Sx (fun _=>rfl) q (S ?_)
    refine ae (aO [] [688,720,768,784]) (S ?_)
    refine bC (b:=false) (sz:=5) (es:=a1.Parts.map (ao false)) (x:=(.pv ((ao false) a1))) 1 [3] SC fun hl1=>?_; rw[aC] at hl1
    refine aJ (run_loop h) (fun i11 s11=>[(0,.val (.pv (.sl false 1 (s11.map Sx)))),(2,.val (.pv (.sl false 1 (v49.map Sx)))),(4,.box (.pv ((ao false) a1))),(9,.val (.pv (I (i11:Int))))]) (fun i11 s11=>[]) (bz (St.le_demV (x:=(.own 784)) (sz:=(1)) (es:=v49.map Sx) 2 [] 784 SC) (az SC)) (fun i11 s11 hi h=>?_) (fun s11 h=>?_)
    ·have w:=wrap_s2 i11
     refine S ?_
     refine aH cs fun cs=>S ?_
     refine run_bk h fun v61 q h=>aA (ao false) q (S ?_)
     refine run_bk h fun v64 q h=>aj [false,false,false] (ih _ _ _ _ q) (S ?_)
     exact aL h
    ·refine S ?_
     refine aI cs fun cs=>S ?_
     exact bd h
theorem spec_l8Into_sat{a0:List ByteArray}{a1:Ft}{a2:List ByteArray}{r:List ByteArray}(h:spec_l8Into a0 a1 a2=some r):Sat ag 116 [(.sl false 1 (a0.map Sx)),((ao false) a1),(.sl false 1 (a2.map Sx))] (.sl false 1 (r.map Sx)):=by
 obtain⟨n,hn⟩:=lim_some h
 exact(spec_l8IntoN_sat n) _ _ _ _ hn

theorem spec_l8Free_sat{a0:Ft}  {r:List ByteArray}(h:spec_l8Free a0=some r):Sat ag 70 [((ao false) a0)] (.sl false 1 (r.map Sx)):=by
 obtain⟨h,cs⟩:=aq h
 unfold spec_l8Free at h
 refine ar 7 [.tmp 2] Tryz.func70 (h:=S ?_)
 refine run_bk h fun v6 q h=>aj [true,false,true] (Sat.give (args:=[(.sl true 1 (([]).map Sx)),((ao false) a0),(.sl true 1 (([]).map Sx))]) [true,false,true] (by have gg:=spec_l8Into_sat q; simp only[gv_t,gv_f,gv_n,view_sl,view_agg,view_lit,views_repB,views_repI,PV.views,RB,RS] at gg ⊢; exact gg)) (S ?_)
 exact bd h

theorem spec_l16Open_sat{a0:Ft}  {r:(List ByteArray)×Ft}(h:spec_l16Open a0=some r):Sat ag 43 [((ao false) a0)] (.tup [(.sl false 1 (r.1.map Sx)),((ao false) r.2)]):=by
 obtain⟨h,cs⟩:=aq h
 unfold spec_l16Open at h
 refine ar 20 [.tmp 2,.cell 3 39] Tryz.func43 (h:=S ?_)
 replace h:=run_loop h
 refine Mg.whileN h (fun s2=>[(1,.box (.pv ((ao false) s2.1))),(3,.box zab0),(4,.val (.own 80))]) (fun s2=>[(80,(1,s2.2.map Sx))]) (az SC) (fun n2 s2 h=>?_)
 refine S ?_
 refine ai cs h (fun cs h=>S ?_) fun cs h=>S ?_
 ·refine run_bk h fun v13 q h=>aP Sx (fun _=>rfl) q (S ?_)
  refine run_bk h fun v16 q h=>aA (ao false) q (S ?_)
  have h:=run_some h
  refine a7 ⟨_,h,?_⟩
  refine bk 208 80 ?_
  exact az SC
 ·have h:=run_some h
  refine ae (aO [] []) (S ?_)
  exact bd h

theorem spec_l16PlainN_sat(n:Nat):(∀ (a0:Ft) (r:Bool),spec_l16PlainN n a0=some r→Sat ag 72 [((ao false) a0)] (B r)):=by
 induction n with
 | zero=>exact fun _ _ h=>by simp[spec_l16PlainN] at h
 | succ n ih=>
  refine fun a0 r h=>?_
  obtain⟨h,cs⟩:=aq h
  rw[spec_l16PlainN] at h
  refine ar 26 [.tmp 2] Tryz.func72 (h:=S ?_)
  refine ai cs h (fun cs h=>S ?_) fun cs h=>S ?_
  ·exact am h
  ·refine ai cs h (fun cs h=>S ?_) fun cs h=>S ?_
   ·exact am h
   ·refine bC (b:=false) (sz:=5) (es:=a0.Parts.map (ao false)) (x:=(.pv ((ao false) a0))) 0 [3] SC fun hl0=>?_; rw[aC] at hl0
    refine aJ (run_loop h) (fun i4 s4=>[(1,.box (.pv ((ao false) a0))),(3,.val (.pv (I (i4:Int))))]) (fun i4 s4=>[]) (az SC) (fun i4 s4 hi h=>?_) (fun s4 h=>?_)
    ·have w:=wrap_s2 i4
     refine S ?_
     refine aH cs fun cs=>S ?_
     refine run_bk h fun v22 q h=>aA (ao false) q (S ?_)
     refine run_bk h fun v24 q h=>aj [false] (ih _ _ q) (S ?_)
     refine ai cs h (fun cs h=>S ?_) fun cs h=>S ?_
     ·exact aL h
     ·exact am h
    ·refine S ?_
     refine aI cs fun cs=>S ?_
     exact am h
theorem spec_l16Plain_sat{a0:Ft}{r:Bool}(h:spec_l16Plain a0=some r):Sat ag 72 [((ao false) a0)] (B r):=by
 obtain⟨n,hn⟩:=lim_some h
 exact(spec_l16PlainN_sat n) _ _ hn

theorem spec_l16Formula_sat{a0:Ft}  {r:Bool}(h:spec_l16Formula a0=some r):Sat ag 42 [((ao false) a0)] (B r):=by
 obtain⟨h,cs⟩:=aq h
 unfold spec_l16Formula at h
 refine ar 36 [.tmp 2] Tryz.func42 (h:=S ?_)
 refine run_bk h fun v7 q h=>aj [false] (spec_l8Good_sat q) (S ?_)
 refine ai cs h (fun cs h=>S ?_) fun cs h=>S ?_
 ·refine run_bk h fun v11 q h=>aj [false] (spec_l8Free_sat q) (S ?_)
  refine ai cs h (fun cs h=>S ?_) fun cs h=>S ?_
  ·exact am h
  ·refine run_bk h fun v17 q h=>aj [false] (spec_l16Open_sat q) (S ?_)
   refine aN (b:=false) (sz:=1) (es:=v17.1.map Sx) 3 SC fun hl3=>?_; rw[aC] at hl3
   refine aJ (run_loop h) (fun i5 s5=>[(3,.val (.pv (.sl false 1 (v17.1.map Sx)))),(4,.box (.pv ((ao false) v17.2))),(5,.val (.pv (I (i5:Int))))]) (fun i5 s5=>[]) (az SC) (fun i5 s5 hi h=>?_) (fun s5 h=>?_)
   ·have w:=wrap_s2 i5
    refine S ?_
    refine aH cs fun cs=>S ?_
    refine run_bk h fun v28 q h=>SlcH.mk (f:=Sx) q SC (S ?_)
    refine run_bk h fun v31 q h=>aA Sx q (S ?_)
    refine run_bk h fun v33 q h=>aj [false,false] (spec_l2In_sat q) (S ?_)
    refine ae (aO [] []) (S ?_)
    refine ai cs h (fun cs h=>S ?_) fun cs h=>S ?_
    ·exact am h
    ·exact aL h
   ·refine S ?_
    refine aI cs fun cs=>S ?_
    refine run_bk h fun v35 q h=>aj [false] (spec_l16Plain_sat q) (S ?_)
    exact am h
 ·exact am h

theorem spec_l16Ground_sat{a0:Tt}  {r:Bool}(h:spec_l16Ground a0=some r):Sat ag 74 [((ah false) a0)] (B r):=by
 obtain⟨h,cs⟩:=aq h
 unfold spec_l16Ground at h
 refine ar 7 [.tmp 2] Tryz.func74 (h:=S ?_)
 refine run_bk h fun v4 q h=>aj [false] (spec_l2Vars_sat q) (S ?_)
 exact am h

theorem spec_l16Terms_sat{a0:List Tt}  {r:Bool}(h:spec_l16Terms a0=some r):Sat ag 44 [(.sl false 2 (a0.map (ah false)))] (B r):=by
 obtain⟨h,cs⟩:=aq h
 unfold spec_l16Terms at h
 refine ar 31 [.tmp 2] Tryz.func44 (h:=S ?_)
 refine aN (b:=false) (sz:=2) (es:=a0.map (ah false)) 0 SC fun hl0=>?_; rw[aC] at hl0
 refine aJ (run_loop h) (fun i2 s2=>[(0,.val (.pv (.sl false 2 (a0.map (ah false))))),(3,.val (.pv (I (i2:Int))))]) (fun i2 s2=>[]) (az SC) (fun i2 s2 hi h=>?_) (fun s2 h=>?_)
 ·have w:=wrap_s2 i2
  refine S ?_
  refine aH cs fun cs=>S ?_
  refine ai cs h (fun cs h=>S ?_) fun cs h=>S ?_
  refine run_bk h fun v16 q h=>aA (ah false) q (S ?_)
  refine run_bk h fun v18 q h=>aj [false] (spec_l2Good_sat q) (S ?_)
  refine ai cs h (fun cs h=>S ?_) fun cs h=>S ?_
  refine run_bk h fun v23 q h=>aA (ah false) q (S ?_)
  refine run_bk h fun v25 q h=>aj [false] (spec_l16Ground_sat q) (S ?_)
  refine ai cs h (fun cs h=>S ?_) fun cs h=>S ?_
  ·exact aL h
  all_goals
   exact am h
 ·refine S ?_
  refine aI cs fun cs=>S ?_
  exact am h

theorem spec_l2OwnN_sat(n:Nat):(∀ (a0:Tt) (r:Tt),spec_l2OwnN n a0=some r→Sat ag 121 [((ah false) a0)] ((ah true) r)):=by
 induction n with
 | zero=>exact fun _ _ h=>by simp[spec_l2OwnN] at h
 | succ n ih=>
  refine fun a0 r h=>?_
  obtain⟨h,cs⟩:=aq h
  rw[spec_l2OwnN] at h
  refine ar 27 [.cell 2 36] Tryz.func121 (h:=S ?_)
  refine bC (b:=false) (sz:=2) (es:=a0.Args.map (ah false)) (x:=(.pv ((ah false) a0))) 0 [1] SC fun hl0=>?_; rw[aC] at hl0
  refine aJ (run_loop h) (fun i3 s3=>[(1,.box (.pv ((ah false) a0))),(2,.box zab1),(3,.box (.node [(.pv (Sx a0.Name)),(.own 9309)])),(4,.val (.pv (I (i3:Int))))]) (fun i3 s3=>[(9309,(2,s3.map (ah true)))]) (bz (St.le_nilB (x:=(.node [(.pv (Sx a0.Name)),(.pv (.sl true 2 []))])) 3 [1] 9309 2 NM SC SC SC) (az SC)) (fun i3 s3 hi h=>?_) (fun s3 h=>?_)
  ·have w:=wrap_s2 i3
   refine S ?_
   refine aH cs fun cs=>S ?_
   refine run_bk h fun v20 q h=>aA (ah false) q (S ?_)
   refine run_bk h fun v22 q h=>aj [false] (ih _ _ q) (S ?_)
   refine run_bk h fun v24 q h=>aP (ah true) (fun a=>Tt.psize _ a) q (S ?_)
   refine ae (aO [] [352,368,384]) (S ?_)
   have h:=run_some h
   refine a7 ⟨_,h,?_⟩
   refine bk 384 9309 ?_
   exact az SWx
  ·refine S ?_
   refine aI cs fun cs=>S ?_
   exact am h
theorem spec_l2Own_sat{a0:Tt}{r:Tt}(h:spec_l2Own a0=some r):Sat ag 121 [((ah false) a0)] ((ah true) r):=by
 obtain⟨n,hn⟩:=lim_some h
 exact(spec_l2OwnN_sat n) _ _ hn

theorem spec_l4Put_sat{a0:Sa}{a1:ByteArray}{a2:Tt}  {r:Sa}(h:spec_l4Put a0 a1 a2=some r):Sat ag 76 [((Sa.pv false) a0),(Sx a1),((ah false) a2)] ((Sa.pv false) r):=by
 obtain⟨h,cs⟩:=aq h
 unfold spec_l4Put at h
 refine ar 51 [.cell 6 101] Tryz.func76 (h:=S ?_)
 refine ai cs h (fun cs h=>S ?_) fun cs h=>S ?_
 ·exact bd h
 ·refine bC (b:=false) (sz:=3) (es:=a0.Bindings.map (Bt.pv false)) (x:=(.pv ((Sa.pv false) a0))) 0 [0] SC fun hl0=>?_; rw[aC] at hl0
  refine aJ (run_loop h) (fun i4 s4=>[(1,.val (.pv (Sx a1))),(3,.box (.pv ((Sa.pv false) a0))),(5,.box (.pv ((ah false) a2))),(6,.box (.node [(.pv (.sl true 3 []))])),(7,.val (.pv (I (i4:Int))))]) (fun i4 s4=>[]) (az SC) (fun i4 s4 hi h=>?_) (fun s4 h=>?_)
  ·have w:=wrap_s2 i4
   refine S ?_
   refine aH cs fun cs=>S ?_
   refine run_bk h fun v23 q h=>aA (Bt.pv false) q (S ?_)
   refine ai cs h (fun cs h=>S ?_) fun cs h=>S ?_
   ·exact aL h
   ·refine run_bk h fun v35 q h=>SlcH.mk (f:=(Bt.pv false)) q SC (S ?_)
    refine run_bk h fun v36 q h=>aP (Bt.pv false) (fun a=>Bt.psize _ a) q (S ?_)
    refine run_bk h fun v40 q h=>aj [false] (Sat.vwOf (res':=((ah false) v40)) (spec_l2Own_sat q) (by simp only[view_tup,view_sl,view_agg,view_lit,PV.views,RB,RS])) (S ?_)
    refine run_bk h fun v43 q h=>aP (Bt.pv false) (fun a=>Bt.psize _ a) q (S ?_)
    refine run_bk h fun v48 q h=>SlcH.mk (f:=(Bt.pv false)) q SC (S ?_)
    refine run_bk h fun v49 q h=>aP (Bt.pv false) (fun a=>Bt.psize _ a) q (S ?_)
    exact bd h
  ·refine S ?_
   refine aI cs fun cs=>S ?_
   refine run_bk h fun v35 q h=>SlcH.mk (f:=(Bt.pv false)) q SC (S ?_)
   refine run_bk h fun v36 q h=>aP (Bt.pv false) (fun a=>Bt.psize _ a) q (S ?_)
   refine run_bk h fun v40 q h=>aj [false] (Sat.vwOf (res':=((ah false) v40)) (spec_l2Own_sat q) (by simp only[view_tup,view_sl,view_agg,view_lit,PV.views,RB,RS])) (S ?_)
   refine run_bk h fun v43 q h=>aP (Bt.pv false) (fun a=>Bt.psize _ a) q (S ?_)
   refine run_bk h fun v48 q h=>SlcH.mk (f:=(Bt.pv false)) q SC (S ?_)
   refine run_bk h fun v49 q h=>aP (Bt.pv false) (fun a=>Bt.psize _ a) q (S ?_)
   exact bd h

theorem spec_l4Find_sat{a0:Sa}{a1:ByteArray}  {r:Int}(h:spec_l4Find a0 a1=some r):Sat ag 120 [((Sa.pv false) a0),(Sx a1)] (I r):=by
 obtain⟨h,cs⟩:=aq h
 unfold spec_l4Find at h
 refine ar 22 [.tmp 4] Tryz.func120 (h:=S ?_)
 refine bC (b:=false) (sz:=3) (es:=a0.Bindings.map (Bt.pv false)) (x:=(.pv ((Sa.pv false) a0))) 0 [0] SC fun hl0=>?_; rw[aC] at hl0
 refine aJ (run_loop h) (fun i2 s2=>[(1,.val (.pv (Sx a1))),(2,.box (.pv ((Sa.pv false) a0))),(5,.val (.pv (I (i2:Int))))]) (fun i2 s2=>[]) (az SC) (fun i2 s2 hi h=>?_) (fun s2 h=>?_)
 ·have w:=wrap_s2 i2
  refine S ?_
  refine aH cs fun cs=>S ?_
  refine run_bk h fun v16 q h=>aA (Bt.pv false) q (S ?_)
  refine ai cs h (fun cs h=>S ?_) fun cs h=>S ?_
  ·exact am h
  ·exact aL h
 ·refine S ?_
  refine aI cs fun cs=>S ?_
  exact am h

theorem spec_l4ApplyN_sat(n:Nat):(∀ (a0:Sa) (a1:Tt) (r:Tt),spec_l4ApplyN n a0 a1=some r→Sat ag 75 [((Sa.pv false) a0),((ah false) a1)] ((ah true) r)):=by
 induction n with
 | zero=>exact fun _ _ _ h=>by simp[spec_l4ApplyN] at h
 | succ n ih=>
  refine fun a0 a1 r h=>?_
  obtain⟨h,cs⟩:=aq h
  rw[spec_l4ApplyN] at h
  refine ar 50 [.cell 4 36] Tryz.func75 (h:=S ?_)
  refine run_bk h fun v10 q h=>aj [false] (spec_l2Var_sat q) (S ?_)
  refine ai cs h (fun cs h=>S ?_) fun cs h=>S ?_
  ·refine run_bk h fun v14 q h=>aj [false,false] (spec_l4Find_sat q) (S ?_)
   refine ai cs h (fun cs h=>S ?_) fun cs h=>S ?_
   ·refine run_bk h fun v20 q h=>aA (Bt.pv false) q (S ?_)
    refine run_bk h fun v23 q h=>aj [false] (spec_l2Own_sat q) (S ?_)
    exact am h
   ·exact am h
  ·refine bC (b:=false) (sz:=2) (es:=a1.Args.map (ah false)) (x:=(.pv ((ah false) a1))) 1 [1] SC fun hl1=>?_; rw[aC] at hl1
   refine aJ (run_loop h) (fun i8 s8=>[(2,.box (.pv ((Sa.pv false) a0))),(3,.box (.pv ((ah false) a1))),(4,.box zab1),(6,.box (.node [(.pv (Sx a1.Name)),(.own 9324)])),(7,.val (.pv (I (i8:Int))))]) (fun i8 s8=>[(9324,(2,s8.map (ah true)))]) (bz (St.le_nilB (x:=(.node [(.pv (Sx a1.Name)),(.pv (.sl true 2 []))])) 6 [1] 9324 2 NM SC SC SC) (az SC)) (fun i8 s8 hi h=>?_) (fun s8 h=>?_)
   ·have w:=wrap_s2 i8
    refine S ?_
    refine aH cs fun cs=>S ?_
    refine run_bk h fun v43 q h=>aA (ah false) q (S ?_)
    refine run_bk h fun v45 q h=>aj [false,false] (ih _ _ _ q) (S ?_)
    refine run_bk h fun v47 q h=>aP (ah true) (fun a=>Tt.psize _ a) q (S ?_)
    refine ae (aO [] [720,736,752]) (S ?_)
    have h:=run_some h
    refine a7 ⟨_,h,?_⟩
    refine bk 752 9324 ?_
    exact az SWx
   ·refine S ?_
    refine aI cs fun cs=>S ?_
    exact am h
theorem spec_l4Apply_sat{a0:Sa}{a1:Tt}{r:Tt}(h:spec_l4Apply a0 a1=some r):Sat ag 75 [((Sa.pv false) a0),((ah false) a1)] ((ah true) r):=by
 obtain⟨n,hn⟩:=lim_some h
 exact(spec_l4ApplyN_sat n) _ _ _ hn

theorem spec_l8OwnN_sat(n:Nat):(∀ (a0:Ft) (r:Ft),spec_l8OwnN n a0=some r→Sat ag 78 [((ao false) a0)] ((ao true) r)):=by
 induction n with
 | zero=>exact fun _ _ h=>by simp[spec_l8OwnN] at h
 | succ n ih=>
  refine fun a0 r h=>?_
  obtain⟨h,cs⟩:=aq h
  rw[spec_l8OwnN] at h
  refine ar 32 [.cell 2 39] Tryz.func78 (h:=S ?_)
  refine run_bk h fun v9 q h=>aj [false] (spec_l2Own_sat q) (S ?_)
  refine ae (aO [3] [144]) (S ?_)
  refine bC (b:=false) (sz:=5) (es:=a0.Parts.map (ao false)) (x:=(.pv ((ao false) a0))) 0 [3] SC fun hl0=>?_; rw[aC] at hl0
  refine aJ (run_loop h) (fun i3 s3=>[(1,.box (.pv ((ao false) a0))),(2,.box zab0),(3,.box (.node [(.pv (I a0.Op)),(.node [(.pv (Sx v9.Name)),(.own 144)]),(.pv (Sx a0.Var)),(.own 9309)])),(4,.val (.pv (I (i3:Int))))]) (fun i3 s3=>[(144,(2,v9.Args.map (ah true))),(9309,(5,s3.map (ao true)))]) (bz (St.le_nilB (x:=(.node [(.pv (I a0.Op)),(.node [(.pv (Sx v9.Name)),(.own 144)]),(.pv (Sx a0.Var)),(.pv (.sl true 5 []))])) 3 [3] 9309 5 NM SC SC SC) (az SC)) (fun i3 s3 hi h=>?_) (fun s3 h=>?_)
  ·have w:=wrap_s2 i3
   refine S ?_
   refine aH cs fun cs=>S ?_
   refine run_bk h fun v25 q h=>aA (ao false) q (S ?_)
   refine run_bk h fun v27 q h=>aj [false] (ih _ _ q) (S ?_)
   refine run_bk h fun v29 q h=>aP (ao true) (fun a=>Ft.psize _ a) q (S ?_)
   refine ae (aO [] [432,433,448,464]) (S ?_)
   have h:=run_some h
   refine a7 ⟨_,h,?_⟩
   refine bk 464 9309 ?_
   exact az SWx
  ·refine S ?_
   refine aI cs fun cs=>S ?_
   exact am h
theorem spec_l8Own_sat{a0:Ft}{r:Ft}(h:spec_l8Own a0=some r):Sat ag 78 [((ao false) a0)] ((ao true) r):=by
 obtain⟨n,hn⟩:=lim_some h
 exact(spec_l8OwnN_sat n) _ _ hn

theorem spec_l8PutN_sat(n:Nat):(∀ (a0:Ft) (a1:ByteArray) (a2:Tt) (r:Ft×Bool),spec_l8PutN n a0 a1 a2=some r→Sat ag 45 [((ao false) a0),(Sx a1),((ah false) a2)] (.tup [((ao true) r.1),(B r.2)])):=by
 induction n with
 | zero=>exact fun _ _ _ _ h=>by simp[spec_l8PutN] at h
 | succ n ih=>
  refine fun a0 a1 a2 r h=>?_
  obtain⟨h,cs⟩:=aq h
  rw[spec_l8PutN] at h
  refine ar 90 [.cell 6 39,.tmp 7] Tryz.func45 (h:=S ?_)
  refine ai cs h (fun cs h=>S ?_) fun cs h=>S ?_
  rotate_left
  refine ai cs h (fun cs h=>S ?_) fun cs h=>S ?_
  refine ai cs h (fun cs h=>S ?_) fun cs h=>S ?_
  rotate_left
  refine run_bk h fun v47 q h=>aA (ao false) q (S ?_)
  refine run_bk h fun v49 q h=>aj [false] (spec_l8Free_sat q) (S ?_)
  refine run_bk h fun v51 q h=>aj [false,false] (spec_l2In_sat q) (S ?_)
  refine ai cs h (fun cs h=>S ?_) fun cs h=>S ?_
  refine run_bk h fun v57 q h=>aj [false] (spec_l2Vars_sat q) (S ?_)
  refine run_bk h fun v60 q h=>aj [false,false] (spec_l2In_sat q) (S ?_)
  refine ae (aO [] []) (S ?_)
  refine ai cs h (fun cs h=>S ?_) fun cs h=>S ?_
  rotate_left 3
  refine ai cs h (fun cs h=>S ?_) fun cs h=>S ?_
  refine ai cs h (fun cs h=>S ?_) fun cs h=>S ?_
  rotate_left
  refine run_bk h fun v47 q h=>aA (ao false) q (S ?_)
  refine run_bk h fun v49 q h=>aj [false] (spec_l8Free_sat q) (S ?_)
  refine run_bk h fun v51 q h=>aj [false,false] (spec_l2In_sat q) (S ?_)
  refine ai cs h (fun cs h=>S ?_) fun cs h=>S ?_
  refine run_bk h fun v57 q h=>aj [false] (spec_l2Vars_sat q) (S ?_)
  refine run_bk h fun v60 q h=>aj [false,false] (spec_l2In_sat q) (S ?_)
  refine ae (aO [] []) (S ?_)
  refine ai cs h (fun cs h=>S ?_) fun cs h=>S ?_
  ·exact am h
  rotate_left
  ·refine run_bk h fun v55 q h=>aj [false] (spec_l8Own_sat q) (S ?_)
   exact am h
  ·refine bC (b:=false) (sz:=5) (es:=a0.Parts.map (ao false)) (x:=(.pv ((ao false) a0))) 0 [3] SC fun hl0=>?_; rw[aC] at hl0
   refine aJ (run_loop h) (fun i11 s11=>[(1,.val (.pv (Sx a1))),(3,.box (.pv ((ao false) a0))),(5,.box (.pv ((ah false) a2))),(6,.box zab0),(8,.box (.node [(.pv (I a0.Op)),zab1,(.pv (Sx a0.Var)),(.own 9333)])),(9,.val (.pv (I (i11:Int))))]) (fun i11 s11=>[(9333,(5,s11.map (ao true)))]) (bz (St.le_nilB (x:=(.node [(.pv (I a0.Op)),zab1,(.pv (Sx a0.Var)),(.pv (.sl true 5 []))])) 8 [3] 9333 5 NM SC SC SC) (az SC)) (fun i11 s11 hi h=>?_) (fun s11 h=>?_)
   ·have w:=wrap_s2 i11
    refine S ?_
    refine aH cs fun cs=>S ?_
    refine run_bk h fun v73 q h=>aA (ao false) q (S ?_)
    refine run_bk h fun v77 q h=>aj [false,false,false] (ih _ _ _ _ q) (S ?_)
    refine ae (aO [10] [1232,1233]) (S ?_)
    refine ai cs h (fun cs h=>S ?_) fun cs h=>S ?_
    ·refine run_bk h fun v87 q h=>aP (ao true) (fun a=>Ft.psize _ a) q (S ?_)
     have h:=run_some h
     refine a7 ⟨_,h,?_⟩
     refine bk 1392 9333 ?_
     exact az SWx
    ·exact am h
   ·refine S ?_
    refine aI cs fun cs=>S ?_
    exact am h
  ·refine run_bk h fun v23 q h=>aj [false,false,false] (spec_l4Put_sat q) (S ?_)
   refine run_bk h fun v26 q h=>aj [false,false] (spec_l4Apply_sat q) (S ?_)
   refine ae (aO [] [416]) (S ?_)
   refine run_bk h fun v31 q h=>aj [false] (spec_l2Atom_sat q) (S ?_)
   refine ae (aO [] []) (S ?_)
   exact am h
  ·refine run_bk h fun v55 q h=>aj [false] (spec_l8Own_sat q) (S ?_)
   exact am h
  ·exact am h
  rotate_left
  ·refine run_bk h fun v55 q h=>aj [false] (spec_l8Own_sat q) (S ?_)
   exact am h
  ·refine run_bk h fun v55 q h=>aj [false] (spec_l8Own_sat q) (S ?_)
   exact am h
  all_goals
   refine aN (b:=false) (sz:=5) (es:=a0.Parts.map (ao false)) 46 SC fun hl46=>?_; rw[aC] at hl46
   refine aJ (run_loop h) (fun i11 s11=>[(1,.val (.pv (Sx a1))),(3,.box (.pv ((ao false) a0))),(5,.box (.pv ((ah false) a2))),(6,.box zab0),(8,.box (.node [(.pv (I a0.Op)),zab1,(.pv (Sx a0.Var)),(.own 9333)])),(9,.val (.pv (I (i11:Int))))]) (fun i11 s11=>[(9333,(5,s11.map (ao true)))]) (bz (St.le_nilB (x:=(.node [(.pv (I a0.Op)),zab1,(.pv (Sx a0.Var)),(.pv (.sl true 5 []))])) 8 [3] 9333 5 NM SC SC SC) (az SC)) (fun i11 s11 hi h=>?_) (fun s11 h=>?_)
   ·have w:=wrap_s2 i11
    refine S ?_
    refine aH cs fun cs=>S ?_
    refine run_bk h fun v73 q h=>aA (ao false) q (S ?_)
    refine run_bk h fun v77 q h=>aj [false,false,false] (ih _ _ _ _ q) (S ?_)
    refine ae (aO [10] [1232,1233]) (S ?_)
    refine ai cs h (fun cs h=>S ?_) fun cs h=>S ?_
    ·refine run_bk h fun v87 q h=>aP (ao true) (fun a=>Ft.psize _ a) q (S ?_)
     have h:=run_some h
     refine a7 ⟨_,h,?_⟩
     refine bk 1392 9333 ?_
     exact az SWx
    ·exact am h
   ·refine S ?_
    refine aI cs fun cs=>S ?_
    exact am h
theorem spec_l8Put_sat{a0:Ft}{a1:ByteArray}{a2:Tt}{r:Ft×Bool}(h:spec_l8Put a0 a1 a2=some r):Sat ag 45 [((ao false) a0),(Sx a1),((ah false) a2)] (.tup [((ao true) r.1),(B r.2)]):=by
 obtain⟨n,hn⟩:=lim_some h
 exact(spec_l8PutN_sat n) _ _ _ _ hn

theorem spec_l18Joined_sat{a0:List Ft}{a1:Int}{a2:Int}  {r:Ft}(h:spec_l18Joined a0 a1 a2=some r):Sat ag 47 [(.sl false 5 (a0.map (ao false))),(I a1),(I a2)] ((ao true) r):=by
 obtain⟨h,cs⟩:=aq h
 unfold spec_l18Joined at h
 refine ar 38 [.cell 6 39] Tryz.func47 (h:=S ?_)
 refine ai cs h (fun cs h=>S ?_) fun cs h=>S ?_
 ·exact am h
 ·refine run_bk h fun v18 q h=>aA (ao false) q (S ?_)
  refine run_bk h fun v20 q h=>aj [false] (spec_l8Own_sat q) (S ?_)
  replace h:=run_loop h
  refine Mg.whileN h (fun s5=>[(0,.val (.pv (.sl false 5 (a0.map (ao false))))),(1,.val (.pv (I a1))),(6,.box zab0),(7,.box (.node [(.pv (I s5.1)),(.node [(.pv (Sx s5.2.1)),(.own 320)]),(.pv (Sx s5.2.2.2.1)),(.own 321)])),(8,.val (.pv (I s5.2.2.2.2.2)))]) (fun s5=>[(320,(2,s5.2.2.1.map (ah true))),(321,(5,s5.2.2.2.2.1.map (ao true)))]) (az SC) (fun n5 s5 h=>?_)
  refine S ?_
  refine ai cs h (fun cs h=>S ?_) fun cs h=>S ?_
  ·refine run_bk h fun v31 q h=>aA (ao false) q (S ?_)
   refine run_bk h fun v33 q h=>aj [false] (spec_l8Own_sat q) (S ?_)
   refine ae (aO [] [528,529,560]) (S ?_)
   have h:=run_some h
   refine a7 ⟨_,h,?_⟩
   refine bz (St.le_mk (S:=[(0,.val (.pv (.sl false 5 (a0.map (ao false))))),(1,.val (.pv (I a1))),(6,.box zab0),(7,.box (.node [(.pv (I a1)),zab1,(.pv (Sx ⟨#[]⟩)),(.own 560)])),(8,.val (.pv (I (IntKind.i64.wrap (s5.2.2.2.2.2-1)))))]) (O:=[(560,(5,([v33,(Ft.mk s5.1 (Tt.mk s5.2.1 s5.2.2.1) s5.2.2.2.1 s5.2.2.2.2.1)]).map (ao true)))]) SC SC) ?_
   refine bz (St.le_nilB (x:=(.node [(.pv (I a1)),zab1,(.pv (Sx ⟨#[]⟩)),(.own 560)])) 7 [1,1] 9726 2 NM SC SC SC) (S ?_)
   refine bk 560 321 ?_
   refine bk 9726 320 ?_
   exact az SC
  ·have h:=run_some h
   exact am h

theorem spec_l16Disjunction_sat{a0:Ft}{a1:List (List Tt)}  {r:Ft×Bool}(h:spec_l16Disjunction a0 a1=some r):Sat ag 21 [((ao false) a0),(.sl false 1 (a1.map (Lv false 2 (ah false))))] (.tup [((ao true) r.1),(B r.2)]):=by
 obtain⟨h,cs⟩:=aq h
 unfold spec_l16Disjunction at h
 refine ar 92 [.cell 4 39,.tmp 5] Tryz.func21 (h:=S ?_)
 refine run_bk h fun v15 q h=>aj [false] (spec_l16Formula_sat q) (S ?_)
 refine ai cs h (fun cs h=>S ?_) fun cs h=>S ?_
 ·refine run_bk h fun v20 q h=>aj [false] (spec_l16Open_sat q) (S ?_)
  refine aN (b:=false) (sz:=1) (es:=a1.map (Lv false 2 (ah false))) 1 SC fun hl1=>?_; rw[aC] at hl1
  refine aJ (run_loop h) (fun i6 s6=>[(1,.val (.pv (.sl false 1 (a1.map (Lv false 2 (ah false)))))),(4,.box zab0),(6,.val (.pv (.sl false 1 (v20.1.map Sx)))),(7,.box (.pv ((ao false) v20.2))),(8,.val (.own 368)),(9,.val (.pv (I (i6:Int))))]) (fun i6 s6=>[(368,(5,s6.map (ao false)))]) (az SC) (fun i6 s6 hi h=>?_) (fun s6 h=>?_)
  ·have w:=wrap_s2 i6
   refine S ?_
   refine aH cs fun cs=>S ?_
   refine run_bk h fun v32 q h=>IdxH.mk (f:=(Lv false 2 (ah false))) q SC (S ?_)
   refine ai cs h (fun cs h=>S ?_) fun cs h=>S ?_
   refine run_bk h fun v41 q h=>IdxH.mk (f:=(Lv false 2 (ah false))) q SC (S ?_)
   refine run_bk h fun v43 q h=>aj [false] (spec_l16Terms_sat q) (S ?_)
   refine ai cs h (fun cs h=>S ?_) fun cs h=>S ?_
   ·refine aN (b:=false) (sz:=1) (es:=v20.1.map Sx) 6 SC fun hl6=>?_; rw[aC] at hl6
    refine aJ (run_loop h) (fun i13 s13=>[(1,.val (.pv (.sl false 1 (a1.map (Lv false 2 (ah false)))))),(4,.box zab0),(6,.val (.pv (.sl false 1 (v20.1.map Sx)))),(7,.box (.pv ((ao false) v20.2))),(8,.val (.own 368)),(9,.val (.pv (I (i6:Int)))),(10,.box (.pv ((ao false) s13.1))),(11,.val (.pv (B s13.2))),(12,.val (.pv (I (i13:Int))))]) (fun i13 s13=>[(368,(5,s6.map (ao false)))]) (az SC) (fun i13 s13 hi h=>?_) (fun s13 h=>?_)
    ·have w:=ae (wrap_s2 i13) w
     refine S ?_
     refine aH cs fun cs=>S ?_
     refine ai cs h (fun cs h=>S ?_) fun cs h=>S ?_
     ·refine run_bk h fun v61 q h=>aA Sx q (S ?_)
      refine run_bk h fun v65 q h=>IdxH.mk (f:=(Lv false 2 (ah false))) q SC (S ?_)
      refine run_bk h fun v68 q h=>aA (ah false) q (S ?_)
      refine run_bk h fun v70 q h=>aj [false,false,false] (Sat.vwOf (res':=(.tup [((ao false) v70.1),(B v70.2)])) (spec_l8Put_sat q) (by simp only[view_tup,view_sl,view_agg,view_lit,PV.views,RB,RS])) (S ?_)
      refine ae (aO [] []) (S ?_)
      exact aL h
     ·exact am h
    ·refine S ?_
     refine aI cs fun cs=>S ?_
     refine ai cs h (fun cs h=>S ?_) fun cs h=>S ?_
     ·refine run_bk h fun v77 q h=>aj [false] (spec_l8Good_sat q) (S ?_)
      refine ai cs h (fun cs h=>S ?_) fun cs h=>S ?_
      ·refine run_bk h fun v84 q h=>aP (ao false) (fun a=>Ft.psize _ a) q (S ?_)
       have h:=run_some h
       refine a7 ⟨_,h,?_⟩
       refine bk 1344 368 ?_
       exact az SWx
      ·exact am h
     ·exact am h
   all_goals
    exact am h
  ·refine S ?_
   refine aI cs fun cs=>S ?_
   refine run_bk h fun v86 q h=>aj [false,false,false] (spec_l18Joined_sat q) (S ?_)
   refine run_bk h fun v88 q h=>aj [false] (spec_l8Good_sat q) (S ?_)
   refine ai cs h (fun cs h=>S ?_) fun cs h=>S ?_
   ·exact am h
   ·exact am h
 ·exact am h

theorem spec_l2Text_sat{a0:ByteArray}{a1:ByteArray}  {r:Int}(h:spec_l2Text a0 a1=some r):Sat ag 125 [(Sx a0),(Sx a1)] (I r):=by
 obtain⟨h,cs⟩:=aq h
 unfold spec_l2Text at h
 refine ar 13 [.tmp 4] Tryz.func125 (h:=S ?_)
 refine ai cs h (fun cs h=>S ?_) fun cs h=>S ?_
 ·exact am h
 ·refine ai cs h (fun cs h=>S ?_) fun cs h=>S ?_
  ·exact am h
  ·exact am h

theorem spec_l2CompareN_sat(n:Nat):(∀ (a0:Tt) (a1:Tt) (r:Int),spec_l2CompareN n a0 a1=some r→Sat ag 82 [((ah false) a0),((ah false) a1)] (I r)):=by
 induction n with
 | zero=>exact fun _ _ _ h=>by simp[spec_l2CompareN] at h
 | succ n ih=>
  refine fun a0 a1 r h=>?_
  obtain⟨h,cs⟩:=aq h
  rw[spec_l2CompareN] at h
  refine ar 75 [.tmp 4] Tryz.func82 (h:=S ?_)
  refine run_bk h fun v11 q h=>aj [false] (spec_l2Var_sat q) (S ?_)
  refine run_bk h fun v14 q h=>aj [false] (spec_l2Var_sat q) (S ?_)
  refine ae (aO [] []) (S ?_)
  refine ai cs h (fun cs h=>S ?_) fun cs h=>S ?_
  refine ai cs h (fun cs h=>S ?_) fun cs h=>S ?_
  refine ai cs h (fun cs h=>S ?_) fun cs h=>S ?_
  refine ai cs h (fun cs h=>S ?_) fun cs h=>S ?_
  rotate_left
  refine ai cs h (fun cs h=>S ?_) fun cs h=>S ?_
  rotate_left 4
  refine ai cs h (fun cs h=>S ?_) fun cs h=>S ?_
  rotate_left
  refine ai cs h (fun cs h=>S ?_) fun cs h=>S ?_
  refine ai cs h (fun cs h=>S ?_) fun cs h=>S ?_
  rotate_left
  refine ai cs h (fun cs h=>S ?_) fun cs h=>S ?_
  ·exact am h
  rotate_left
  ·refine run_bk h fun v37 q h=>aj [false,false] (spec_l2Text_sat q) (S ?_)
   exact am h
  ·exact am h
  ·exact am h
  rotate_left
  ·refine run_bk h fun v37 q h=>aj [false,false] (spec_l2Text_sat q) (S ?_)
   exact am h
  ·exact am h
  ·exact am h
  ·exact am h
  all_goals
   refine aN (b:=false) (sz:=2) (es:=a0.Args.map (ah false)) 40 SC fun hl40=>?_; rw[aC] at hl40
   refine aJ (run_loop h) (fun i13 s13=>[(2,.box (.pv ((ah false) a0))),(3,.box (.pv ((ah false) a1))),(7,.val (.pv (I (i13:Int))))]) (fun i13 s13=>[]) (az SC) (fun i13 s13 hi h=>?_) (fun s13 h=>?_)
   ·have w:=wrap_s2 i13
    refine S ?_
    refine aH cs fun cs=>S ?_
    refine run_bk h fun v64 q h=>aA (ah false) q (S ?_)
    refine run_bk h fun v69 q h=>aA (ah false) q (S ?_)
    refine run_bk h fun v71 q h=>aj [false,false] (ih _ _ _ q) (S ?_)
    refine ae (aO [] []) (S ?_)
    refine ai cs h (fun cs h=>S ?_) fun cs h=>S ?_
    ·exact aL h
    ·exact am h
   ·refine S ?_
    refine aI cs fun cs=>S ?_
    exact am h
theorem spec_l2Compare_sat{a0:Tt}{a1:Tt}{r:Int}(h:spec_l2Compare a0 a1=some r):Sat ag 82 [((ah false) a0),((ah false) a1)] (I r):=by
 obtain⟨n,hn⟩:=lim_some h
 exact(spec_l2CompareN_sat n) _ _ _ hn

theorem spec_l2SameN_sat(n:Nat):(∀ (a0:Tt) (a1:Tt) (r:Bool),spec_l2SameN n a0 a1=some r→Sat ag 83 [((ah false) a0),((ah false) a1)] (B r)):=by
 induction n with
 | zero=>exact fun _ _ _ h=>by simp[spec_l2SameN] at h
 | succ n ih=>
  refine fun a0 a1 r h=>?_
  obtain⟨h,cs⟩:=aq h
  rw[spec_l2SameN] at h
  refine ar 39 [.tmp 4] Tryz.func83 (h:=S ?_)
  refine ai cs h (fun cs h=>S ?_) fun cs h=>S ?_
  refine ai cs h (fun cs h=>S ?_) fun cs h=>S ?_
  ·refine aN (b:=false) (sz:=2) (es:=a0.Args.map (ah false)) 13 SC fun hl13=>?_; rw[aC] at hl13
   refine aJ (run_loop h) (fun i4 s4=>[(2,.box (.pv ((ah false) a0))),(3,.box (.pv ((ah false) a1))),(5,.val (.pv (I (i4:Int))))]) (fun i4 s4=>[]) (az SC) (fun i4 s4 hi h=>?_) (fun s4 h=>?_)
   ·have w:=wrap_s2 i4
    refine S ?_
    refine aH cs fun cs=>S ?_
    refine run_bk h fun v30 q h=>aA (ah false) q (S ?_)
    refine run_bk h fun v35 q h=>aA (ah false) q (S ?_)
    refine run_bk h fun v37 q h=>aj [false,false] (ih _ _ _ q) (S ?_)
    refine ae (aO [] []) (S ?_)
    refine ai cs h (fun cs h=>S ?_) fun cs h=>S ?_
    ·exact aL h
    ·exact am h
   ·refine S ?_
    refine aI cs fun cs=>S ?_
    exact am h
  all_goals
   exact am h
theorem spec_l2Same_sat{a0:Tt}{a1:Tt}{r:Bool}(h:spec_l2Same a0 a1=some r):Sat ag 83 [((ah false) a0),((ah false) a1)] (B r):=by
 obtain⟨n,hn⟩:=lim_some h
 exact(spec_l2SameN_sat n) _ _ _ hn

theorem spec_l16Put_sat{a0:List Tt}{a1:Tt}  {r:List Tt}(h:spec_l16Put a0 a1=some r):Sat ag 48 [(.sl false 2 (a0.map (ah false))),((ah false) a1)] (.sl false 2 (r.map (ah false))):=by
 obtain⟨h,cs⟩:=aq h
 unfold spec_l16Put at h
 refine ar 46 [.tmp 4] Tryz.func48 (h:=S ?_)
 refine aN (b:=false) (sz:=2) (es:=a0.map (ah false)) 0 SC fun hl0=>?_; rw[aC] at hl0
 refine aJ (run_loop h) (fun i2 s2=>[(0,.val (.pv (.sl false 2 (a0.map (ah false))))),(3,.box (.pv ((ah false) a1))),(5,.val (.pv (I (i2:Int))))]) (fun i2 s2=>[]) (az SC) (fun i2 s2 hi h=>?_) (fun s2 h=>?_)
 ·have w:=wrap_s2 i2
  refine S ?_
  refine aH cs fun cs=>S ?_
  refine run_bk h fun v13 q h=>aA (ah false) q (S ?_)
  refine run_bk h fun v16 q h=>aj [false,false] (spec_l2Compare_sat q) (S ?_)
  refine ae (aO [] []) (S ?_)
  refine ai cs h (fun cs h=>S ?_) fun cs h=>S ?_
  ·exact aL h
  ·refine run_bk h fun v28 q h=>aA (ah false) q (S ?_)
   refine run_bk h fun v31 q h=>aj [false,false] (spec_l2Same_sat q) (S ?_)
   refine ae (aO [] []) (S ?_)
   refine ai cs h (fun cs h=>S ?_) fun cs h=>S ?_
   ·exact bd h
   ·refine run_bk h fun v37 q h=>SlcH.mk (f:=(ah false)) q SC (S ?_)
    refine run_bk h fun v38 q h=>aP (ah false) (fun a=>Tt.psize _ a) q (S ?_)
    refine run_bk h fun v41 q h=>aP (ah false) (fun a=>Tt.psize _ a) q (S ?_)
    refine run_bk h fun v44 q h=>SlcH.mk (f:=(ah false)) q SC (S ?_)
    refine run_bk h fun v45 q h=>aP (ah false) (fun a=>Tt.psize _ a) q (S ?_)
    refine ae (aO [] [544,608,640,656,720]) (S ?_)
    exact bd h
 ·refine S ?_
  refine aI cs fun cs=>S ?_
  refine ae (aO [] []) (S ?_)
  refine ae (aO [] []) (S ?_)
  refine run_bk h fun v37 q h=>SlcH.mk (f:=(ah false)) q SC (S ?_)
  refine run_bk h fun v38 q h=>aP (ah false) (fun a=>Tt.psize _ a) q (S ?_)
  refine run_bk h fun v41 q h=>aP (ah false) (fun a=>Tt.psize _ a) q (S ?_)
  refine run_bk h fun v44 q h=>SlcH.mk (f:=(ah false)) q SC (S ?_)
  refine run_bk h fun v45 q h=>aP (ah false) (fun a=>Tt.psize _ a) q (S ?_)
  refine ae (aO [] [544,608,640,656,720]) (S ?_)
  exact bd h

theorem spec_l16IntoN_sat(n:Nat):(∀ (a0:List Tt) (a1:Ft) (r:List Tt),spec_l16IntoN n a0 a1=some r→Sat ag 22 [(.sl false 2 (a0.map (ah false))),((ao false) a1)] (.sl false 2 (r.map (ah false)))):=by
 induction n with
 | zero=>exact fun _ _ _ h=>by simp[spec_l16IntoN] at h
 | succ n ih=>
  refine fun a0 a1 r h=>?_
  obtain⟨h,cs⟩:=aq h
  rw[spec_l16IntoN] at h
  refine ar 28 [.tmp 4] Tryz.func22 (h:=S ?_)
  refine ai cs h (fun cs h=>S ?_) fun cs h=>S ?_
  ·refine run_bk h fun v12 q h=>aj [false,false] (spec_l16Put_sat q) (S ?_)
   exact bd h
  ·refine bC (b:=false) (sz:=5) (es:=a1.Parts.map (ao false)) (x:=(.pv ((ao false) a1))) 1 [3] SC fun hl1=>?_; rw[aC] at hl1
   refine aJ (run_loop h) (fun i4 s4=>[(0,.val (.pv (.sl false 2 (s4.map (ah false))))),(3,.box (.pv ((ao false) a1))),(5,.val (.pv (I (i4:Int))))]) (fun i4 s4=>[]) (az SC) (fun i4 s4 hi h=>?_) (fun s4 h=>?_)
   ·have w:=wrap_s2 i4
    refine S ?_
    refine aH cs fun cs=>S ?_
    refine run_bk h fun v24 q h=>aA (ao false) q (S ?_)
    refine run_bk h fun v26 q h=>aj [false,false] (ih _ _ _ q) (S ?_)
    exact aL h
   ·refine S ?_
    refine aI cs fun cs=>S ?_
    exact bd h
theorem spec_l16Into_sat{a0:List Tt}{a1:Ft}{r:List Tt}(h:spec_l16Into a0 a1=some r):Sat ag 22 [(.sl false 2 (a0.map (ah false))),((ao false) a1)] (.sl false 2 (r.map (ah false))):=by
 obtain⟨n,hn⟩:=lim_some h
 exact(spec_l16IntoN_sat n) _ _ _ hn

theorem spec_l16Index_sat{a0:List Tt}{a1:Tt}  {r:Int}(h:spec_l16Index a0 a1=some r):Sat ag 49 [(.sl false 2 (a0.map (ah false))),((ah false) a1)] (I r):=by
 obtain⟨h,cs⟩:=aq h
 unfold spec_l16Index at h
 refine ar 19 [.tmp 4] Tryz.func49 (h:=S ?_)
 refine aN (b:=false) (sz:=2) (es:=a0.map (ah false)) 0 SC fun hl0=>?_; rw[aC] at hl0
 refine aJ (run_loop h) (fun i2 s2=>[(0,.val (.pv (.sl false 2 (a0.map (ah false))))),(3,.box (.pv ((ah false) a1))),(5,.val (.pv (I (i2:Int))))]) (fun i2 s2=>[]) (az SC) (fun i2 s2 hi h=>?_) (fun s2 h=>?_)
 ·have w:=wrap_s2 i2
  refine S ?_
  refine aH cs fun cs=>S ?_
  refine run_bk h fun v14 q h=>aA (ah false) q (S ?_)
  refine run_bk h fun v17 q h=>aj [false,false] (spec_l2Same_sat q) (S ?_)
  refine ae (aO [] []) (S ?_)
  refine ai cs h (fun cs h=>S ?_) fun cs h=>S ?_
  ·exact am h
  ·exact aL h
 ·refine S ?_
  refine aI cs fun cs=>S ?_
  exact am h

theorem spec_l16HoldsN_sat(n:Nat):(∀ (a0:Ft) (a1:List Tt) (a2:Int) (r:Bool),spec_l16HoldsN n a0 a1 a2=some r→Sat ag 23 [((ao false) a0),(.sl false 2 (a1.map (ah false))),(I a2)] (B r)):=by
 induction n with
 | zero=>exact fun _ _ _ _ h=>by simp[spec_l16HoldsN] at h
 | succ n ih=>
  refine fun a0 a1 a2 r h=>?_
  obtain⟨h,cs⟩:=aq h
  rw[spec_l16HoldsN] at h
  refine ar 87 [.tmp 6] Tryz.func23 (h:=S ?_)
  refine ai cs h (fun cs h=>S ?_) fun cs h=>S ?_
  rotate_left
  refine ai cs h (fun cs h=>S ?_) fun cs h=>S ?_
  rotate_left
  refine ai cs h (fun cs h=>S ?_) fun cs h=>S ?_
  rotate_left
  refine ai cs h (fun cs h=>S ?_) fun cs h=>S ?_
  rotate_left
  refine ai cs h (fun cs h=>S ?_) fun cs h=>S ?_
  refine run_bk h fun v38 q h=>aA (ao false) q (S ?_)
  refine run_bk h fun v42 q h=>aj [false,false,false] (ih _ _ _ _ q) (S ?_)
  refine ai cs h (fun cs h=>S ?_) fun cs h=>S ?_
  rotate_left 2
  refine ai cs h (fun cs h=>S ?_) fun cs h=>S ?_
  refine run_bk h fun v56 q h=>aA (ao false) q (S ?_)
  refine run_bk h fun v60 q h=>aj [false,false,false] (ih _ _ _ _ q) (S ?_)
  refine ai cs h (fun cs h=>S ?_) fun cs h=>S ?_
  rotate_left 2
  refine run_bk h fun v72 q h=>aA (ao false) q (S ?_)
  refine run_bk h fun v76 q h=>aj [false,false,false] (ih _ _ _ _ q) (S ?_)
  refine ai cs h (fun cs h=>S ?_) fun cs h=>S ?_
  ·refine run_bk h fun v81 q h=>aA (ao false) q (S ?_)
   refine run_bk h fun v85 q h=>aj [false,false,false] (ih _ _ _ _ q) (S ?_)
   exact am h
  rotate_left 3
  ·refine run_bk h fun v19 q h=>aj [false,false] (spec_l16Index_sat q) (S ?_)
   refine run_bk h fun v21 q h=>ShrH.mk q (S ?_)
   exact am h
  ·refine run_bk h fun v28 q h=>aA (ao false) q (S ?_)
   refine run_bk h fun v32 q h=>aj [false,false,false] (ih _ _ _ _ q) (S ?_)
   exact am h
  ·refine run_bk h fun v46 q h=>aA (ao false) q (S ?_)
   refine run_bk h fun v50 q h=>aj [false,false,false] (ih _ _ _ _ q) (S ?_)
   exact am h
  rotate_left 2
  ·refine run_bk h fun v64 q h=>aA (ao false) q (S ?_)
   refine run_bk h fun v68 q h=>aj [false,false,false] (ih _ _ _ _ q) (S ?_)
   exact am h
  all_goals
   exact am h
theorem spec_l16Holds_sat{a0:Ft}{a1:List Tt}{a2:Int}{r:Bool}(h:spec_l16Holds a0 a1 a2=some r):Sat ag 23 [((ao false) a0),(.sl false 2 (a1.map (ah false))),(I a2)] (B r):=by
 obtain⟨n,hn⟩:=lim_some h
 exact(spec_l16HoldsN_sat n) _ _ _ _ hn

theorem spec_l16Always_sat{a0:Ft}  {r:Bool×Bool}(h:spec_l16Always a0=some r):Sat ag 41 [((ao false) a0)] (.tup [(B r.1),(B r.2)]):=by
 obtain⟨h,cs⟩:=aq h
 unfold spec_l16Always at h
 refine ar 25 [.tmp 2,.tmp 3] Tryz.func41 (h:=S ?_)
 refine run_bk h fun v8 q h=>aj [true,false] (Sat.give (args:=[(.sl true 2 (([]).map (ah false))),((ao false) a0)]) [true,false] (by have gg:=spec_l16Into_sat q; simp only[gv_t,gv_f,gv_n,view_sl,view_agg,view_lit,views_repB,views_repI,PV.views,RB,RS] at gg ⊢; exact gg)) (S ?_)
 refine ai cs h (fun cs h=>S ?_) fun cs h=>S ?_
 ·exact am h
 ·replace h:=run_loop h
  refine Mg.whileN h (fun s5=>[(1,.box (.pv ((ao false) a0))),(4,.val (.pv (.sl false 2 (v8.map (ah false))))),(5,.val (.pv (I s5)))]) (fun s5=>[]) (az SC) (fun n5 s5 h=>?_)
  refine S ?_
  refine run_bk h fun v16 q h=>ShlH.mk q (S ?_)
  refine ai cs h (fun cs h=>S ?_) fun cs h=>S ?_
  ·refine run_bk h fun v23 q h=>aj [false,false,false] (spec_l16Holds_sat q) (S ?_)
   refine ai cs h (fun cs h=>S ?_) fun cs h=>S ?_
   ·have h:=run_some h
    refine a7 ⟨_,h,?_⟩
    exact az SC
   ·exact am h
  ·have h:=run_some h
   exact am h

theorem spec_IsHerbrandProof_sat{a0:Ft}{a1:List (List Tt)}  {r:Bool×Bool}(h:spec_IsHerbrandProof a0 a1=some r):Sat ag 20 [((ao false) a0),(.sl false 1 (a1.map (Lv false 2 (ah false))))] (.tup [(B r.1),(B r.2)]):=by
 obtain⟨h,cs⟩:=aq h
 unfold spec_IsHerbrandProof at h
 refine ar 20 [.tmp 4,.tmp 5] Tryz.func20 (h:=S ?_)
 refine run_bk h fun v11 q h=>aj [false,false] (spec_l16Disjunction_sat q) (S ?_)
 refine ai cs h (fun cs h=>S ?_) fun cs h=>S ?_
 ·refine run_bk h fun v17 q h=>aj [false] (spec_l16Always_sat q) (S ?_)
  exact am h
 ·exact am h

theorem spec_WitnessTable_sat{a0:Ft}{a1:List (List Tt)}  {r:(List Int)×Bool}(h:spec_WitnessTable a0 a1=some r):Sat ag 6 [((ao false) a0),(.sl false 1 (a1.map (Lv false 2 (ah false))))] (.tup [(.sl true 1 (r.1.map I)),(B r.2)]):=by
 obtain⟨h,cs⟩:=aq h
 unfold spec_WitnessTable at h
 refine ar 89 [.tmp 4,.tmp 5] Tryz.func6 (h:=S ?_)
 refine run_bk h fun v21 q h=>aj [false,false] (spec_IsHerbrandProof_sat q) (S ?_)
 refine ai cs h (fun cs h=>S ?_) fun cs h=>S ?_
 refine ai cs h (fun cs h=>S ?_) fun cs h=>S ?_
 refine run_bk h fun v34 q h=>aj [false,false] (Sat.vwOf (res':=(.tup [((ao false) v34.1),(B v34.2)])) (spec_l16Disjunction_sat q) (by simp only[view_tup,view_sl,view_agg,view_lit,PV.views,RB,RS])) (S ?_)
 refine run_bk h fun v39 q h=>aj [true,false] (Sat.give (args:=[(.sl true 2 (([]).map (ah false))),((ao false) v34.1)]) [true,false] (by have gg:=spec_l16Into_sat q; simp only[gv_t,gv_f,gv_n,view_sl,view_agg,view_lit,views_repB,views_repI,PV.views,RB,RS] at gg ⊢; exact gg)) (S ?_)
 refine ai cs h (fun cs h=>S ?_) fun cs h=>S ?_
 rotate_left
 ·refine aN (b:=false) (sz:=1) (es:=a1.map (Lv false 2 (ah false))) 1 SC fun hl1=>?_; rw[aC] at hl1
  refine aJ (run_loop h) (fun i10 s10=>[(1,.val (.pv (.sl false 1 (a1.map (Lv false 2 (ah false)))))),(2,.box (.pv ((ao false) a0))),(10,.val (.pv (.sl false 2 (v39.map (ah false))))),(11,.val (.own 704)),(12,.val (.pv (I (i10:Int))))]) (fun i10 s10=>[(704,(5,s10.map (ao false)))]) (az SC) (fun i10 s10 hi h=>?_) (fun s10 h=>?_)
  ·have w:=wrap_s2 i10
   refine S ?_
   refine aH cs fun cs=>S ?_
   refine run_bk h fun v57 q h=>SlcH.mk (f:=(Lv false 2 (ah false))) q SC (S ?_)
   refine run_bk h fun v58 q h=>aj [false,false] (Sat.vwOf (res':=(.tup [((ao false) v58.1),(B v58.2)])) (spec_l16Disjunction_sat q) (by simp only[view_tup,view_sl,view_agg,view_lit,PV.views,RB,RS])) (S ?_)
   refine ae (aO [13] []) (S ?_)
   refine run_bk h fun v64 q h=>aP (ao false) (fun a=>Ft.psize _ a) q (S ?_)
   have h:=run_some h
   refine a7 ⟨_,h,?_⟩
   refine bk 1024 704 ?_
   exact az SWx
  ·refine S ?_
   refine aI cs fun cs=>S ?_
   replace h:=run_loop h
   refine Mg.whileN h (fun s16=>[(10,.val (.pv (.sl false 2 (v39.map (ah false))))),(11,.val (.own 704)),(15,.val (.own 1040)),(16,.val (.pv (I s16.2)))]) (fun s16=>[(704,(5,s10.map (ao false))),(1040,(1,s16.1.map I))]) (az SC) (fun n16 s16 h=>?_)
   refine S ?_
   refine run_bk h fun v70 q h=>ShlH.mk q (S ?_)
   refine ai cs h (fun cs h=>S ?_) fun cs h=>S ?_
   ·replace h:=run_loop h
    refine Mg.whileN h (fun s19=>[(10,.val (.pv (.sl false 2 (v39.map (ah false))))),(11,.val (.own 704)),(15,.val (.own 1040)),(16,.val (.pv (I s16.2))),(17,.val (.pv (I s19)))]) (fun s19=>[(704,(5,s10.map (ao false))),(1040,(1,s16.1.map I))]) (az SC) (fun n19 s19 h=>?_)
    refine S ?_
    refine run_bk h fun v76 q h=>aA (ao false) q (S ?_)
    refine run_bk h fun v77 q h=>EldH.c (ao false) q (S ?_)
    refine run_bk h fun v80 q h=>aj [false,false,false] (spec_l16Holds_sat q) (S ?_)
    refine ai cs h (fun cs h=>S ?_) fun cs h=>S ?_
    ·have h:=run_some h
     refine run_bk h fun v87 q h=>aP I (fun _=>rfl) q (S ?_)
     have h:=run_some h
     refine a7 ⟨_,h,?_⟩
     refine bk 1392 1040 ?_
     exact az SC
    ·have h:=run_some h
     refine a7 ⟨_,h,?_⟩
     exact az SC
   ·have h:=run_some h
    exact am h
 all_goals
  exact am h

theorem impl_sizeOfN_sat(n:Nat):(∀ (a0:Ft) (r:Int),impl_sizeOfN n a0=some r→Sat ag 126 [((ao false) a0)] (I r)):=by
 induction n with
 | zero=>exact fun _ _ h=>by simp[impl_sizeOfN] at h
 | succ n ih=>
  refine fun a0 r h=>?_
  obtain⟨h,cs⟩:=aq h
  rw[impl_sizeOfN] at h
  refine ar 22 [.tmp 2] Tryz.func126 (h:=S ?_)
  refine aN (b:=false) (sz:=5) (es:=a0.Parts.map (ao false)) 7 SC fun hl7=>?_; rw[aC] at hl7
  refine aJ (run_loop h) (fun i3 s3=>[(3,.val (.pv (I s3))),(7,.val (.pv (.sl false 5 (a0.Parts.map (ao false))))),(8,.val (.pv (I (a0.Parts.length:Int)))),(9,.val (.pv (I (i3:Int))))]) (fun i3 s3=>[]) (az SC) (fun i3 s3 hi h=>?_) (fun s3 h=>?_)
  ·have w:=wrap_s2 i3
   refine S ?_
   refine aH cs fun cs=>S ?_
   refine run_bk h fun v11 q h=>aA (ao false) q (S ?_)
   refine ai cs h (fun cs h=>S ?_) fun cs h=>S ?_
   ·exact am h
   ·refine run_bk h fun v18 q h=>aj [false] (ih _ _ q) (S ?_)
    exact aL h
  ·refine S ?_
   refine aI cs fun cs=>S ?_
   exact am h
theorem impl_sizeOf_sat{a0:Ft}{r:Int}(h:impl_sizeOf a0=some r):Sat ag 126 [((ao false) a0)] (I r):=by
 obtain⟨n,hn⟩:=lim_some h
 exact(impl_sizeOfN_sat n) _ _ hn

theorem impl_isQuantifier_sat{a0:Int}  {r:Bool}(h:impl_isQuantifier a0=some r):Sat ag 150 [(I a0)] (B r):=by
 obtain⟨h,cs⟩:=aq h
 unfold impl_isQuantifier at h
 refine ar 9 [.tmp 2] Tryz.func150 (h:=S ?_)
 refine ai cs h (fun cs h=>S ?_) fun cs h=>S ?_
 ·exact am h
 ·exact am h

theorem impl_isBinary_sat{a0:Int}  {r:Bool}(h:impl_isBinary a0=some r):Sat ag 151 [(I a0)] (B r):=by
 obtain⟨h,cs⟩:=aq h
 unfold impl_isBinary at h
 refine ar 13 [.tmp 2] Tryz.func151 (h:=S ?_)
 refine ai cs h (fun cs h=>S ?_) fun cs h=>S ?_
 ·exact am h
 ·refine ai cs h (fun cs h=>S ?_) fun cs h=>S ?_
  ·exact am h
  ·exact am h

theorem impl_isUpper_sat{a0:Int}  {r:Bool}(h:impl_isUpper a0=some r):Sat ag 112 [((Ik .u8) a0)] (B r):=by
 obtain⟨h,cs⟩:=aq h
 unfold impl_isUpper at h
 refine ar 9 [.tmp 2] Tryz.func112 (h:=S ?_)
 refine ai cs h (fun cs h=>S ?_) fun cs h=>S ?_
 ·exact am h
 ·exact am h

theorem impl_isLower_sat{a0:Int}  {r:Bool}(h:impl_isLower a0=some r):Sat ag 174 [((Ik .u8) a0)] (B r):=by
 obtain⟨h,cs⟩:=aq h
 unfold impl_isLower at h
 refine ar 9 [.tmp 2] Tryz.func174 (h:=S ?_)
 refine ai cs h (fun cs h=>S ?_) fun cs h=>S ?_
 ·exact am h
 ·exact am h

theorem impl_isDigit_sat{a0:Int}  {r:Bool}(h:impl_isDigit a0=some r):Sat ag 175 [((Ik .u8) a0)] (B r):=by
 obtain⟨h,cs⟩:=aq h
 unfold impl_isDigit at h
 refine ar 9 [.tmp 2] Tryz.func175 (h:=S ?_)
 refine ai cs h (fun cs h=>S ?_) fun cs h=>S ?_
 ·exact am h
 ·exact am h

theorem impl_within_sat{a0:Int}{a1:Int}{a2:Int}  {r:Bool}(h:impl_within a0 a1 a2=some r):Sat ag 176 [(I a0),(I a1),(I a2)] (B r):=by
 obtain⟨h,cs⟩:=aq h
 unfold impl_within at h
 refine ar 15 [.tmp 6] Tryz.func176 (h:=S ?_)
 refine ai cs h (fun cs h=>S ?_) fun cs h=>S ?_
 ·exact am h
 ·exact am h

theorem impl_isVariable_sat{a0:ByteArray}  {r:Bool}(h:impl_isVariable a0=some r):Sat ag 152 [(Sx a0)] (B r):=by
 obtain⟨h,cs⟩:=aq h
 unfold impl_isVariable at h
 refine ar 40 [.tmp 2] Tryz.func152 (h:=S ?_)
 obtain⟨N2,hN2,h⟩:=run_bind h
 obtain⟨hN2a,hN2b⟩:=bnd_some hN2
 refine aJ (run_loop h) (fun i2 s2=>[(0,.val (.pv (Sx a0))),(5,.val (.pv (I (a0.size:Int)))),(6,.val (.pv (I (i2:Int))))]) (fun i2 s2=>[]) (az SC) (fun i2 s2 hi h=>?_) (fun s2 h=>?_)
 ·have w:=wrap_s2 i2
  refine S ?_
  refine aH cs fun cs=>S ?_
  refine ai cs h (fun cs h=>S ?_) fun cs h=>S ?_
  refine run_bk h fun v14 q h=>bu q (S ?_)
  refine run_bk h fun v15 q h=>aj [false] (impl_isUpper_sat q) (S ?_)
  refine ai cs h (fun cs h=>S ?_) fun cs h=>S ?_
  refine ai cs h (fun cs h=>S ?_) fun cs h=>S ?_
  refine run_bk h fun v24 q h=>bu q (S ?_)
  refine run_bk h fun v25 q h=>aj [false] (impl_isLower_sat q) (S ?_)
  refine ai cs h (fun cs h=>S ?_) fun cs h=>S ?_
  rotate_left
  refine run_bk h fun v31 q h=>bu q (S ?_)
  refine run_bk h fun v32 q h=>aj [false] (impl_isDigit_sat q) (S ?_)
  refine ai cs h (fun cs h=>S ?_) fun cs h=>S ?_
  rotate_left 4
  refine ai cs h (fun cs h=>S ?_) fun cs h=>S ?_
  refine run_bk h fun v24 q h=>bu q (S ?_)
  refine run_bk h fun v25 q h=>aj [false] (impl_isLower_sat q) (S ?_)
  refine ai cs h (fun cs h=>S ?_) fun cs h=>S ?_
  rotate_left
  refine run_bk h fun v31 q h=>bu q (S ?_)
  refine run_bk h fun v32 q h=>aj [false] (impl_isDigit_sat q) (S ?_)
  refine ai cs h (fun cs h=>S ?_) fun cs h=>S ?_
  rotate_left
  ·exact am h
  rotate_left 3
  ·exact am h
  rotate_left
  ·exact am h
  all_goals
   exact aL h
 ·refine S ?_
  refine aI cs fun cs=>S ?_
  refine run_bk h fun v39 q h=>aj [false,false,false] (impl_within_sat q) (S ?_)
  exact am h

theorem impl_isEquality_sat{a0:Tt}  {r:Bool}(h:impl_isEquality a0=some r):Sat ag 177 [((ah false) a0)] (B r):=by
 obtain⟨h,cs⟩:=aq h
 unfold impl_isEquality at h
 refine ar 6 [.tmp 2] Tryz.func177 (h:=S ?_)
 exact am h

theorem impl_sizeN_sat(n:Nat):(∀ (a0:Tt) (r:Int),impl_sizeN n a0=some r→Sat ag 167 [((ah false) a0)] (I r)):=by
 induction n with
 | zero=>exact fun _ _ h=>by simp[impl_sizeN] at h
 | succ n ih=>
  refine fun a0 r h=>?_
  obtain⟨h,cs⟩:=aq h
  rw[impl_sizeN] at h
  refine ar 22 [.tmp 2] Tryz.func167 (h:=S ?_)
  refine aN (b:=false) (sz:=2) (es:=a0.Args.map (ah false)) 7 SC fun hl7=>?_; rw[aC] at hl7
  refine aJ (run_loop h) (fun i3 s3=>[(3,.val (.pv (I s3))),(7,.val (.pv (.sl false 2 (a0.Args.map (ah false))))),(8,.val (.pv (I (a0.Args.length:Int)))),(9,.val (.pv (I (i3:Int))))]) (fun i3 s3=>[]) (az SC) (fun i3 s3 hi h=>?_) (fun s3 h=>?_)
  ·have w:=wrap_s2 i3
   refine S ?_
   refine aH cs fun cs=>S ?_
   refine run_bk h fun v11 q h=>aA (ah false) q (S ?_)
   refine ai cs h (fun cs h=>S ?_) fun cs h=>S ?_
   ·exact am h
   ·refine run_bk h fun v18 q h=>aj [false] (ih _ _ q) (S ?_)
    exact aL h
  ·refine S ?_
   refine aI cs fun cs=>S ?_
   exact am h
theorem impl_size_sat{a0:Tt}{r:Int}(h:impl_size a0=some r):Sat ag 167 [((ah false) a0)] (I r):=by
 obtain⟨n,hn⟩:=lim_some h
 exact(impl_sizeN_sat n) _ _ hn

theorem impl_depthN_sat(n:Nat):(∀ (a0:Tt) (r:Int),impl_depthN n a0=some r→Sat ag 168 [((ah false) a0)] (I r)):=by
 induction n with
 | zero=>exact fun _ _ h=>by simp[impl_depthN] at h
 | succ n ih=>
  refine fun a0 r h=>?_
  obtain⟨h,cs⟩:=aq h
  rw[impl_depthN] at h
  refine ar 20 [.tmp 2] Tryz.func168 (h:=S ?_)
  refine aN (b:=false) (sz:=2) (es:=a0.Args.map (ah false)) 7 SC fun hl7=>?_; rw[aC] at hl7
  refine aJ (run_loop h) (fun i3 s3=>[(3,.val (.pv (I s3))),(7,.val (.pv (.sl false 2 (a0.Args.map (ah false))))),(8,.val (.pv (I (a0.Args.length:Int)))),(9,.val (.pv (I (i3:Int))))]) (fun i3 s3=>[]) (az SC) (fun i3 s3 hi h=>?_) (fun s3 h=>?_)
  ·have w:=wrap_s2 i3
   refine S ?_
   refine aH cs fun cs=>S ?_
   refine run_bk h fun v11 q h=>aA (ah false) q (S ?_)
   refine run_bk h fun v15 q h=>aj [false] (ih _ _ q) (S ?_)
   exact aL h
  ·refine S ?_
   refine aI cs fun cs=>S ?_
   exact am h
theorem impl_depth_sat{a0:Tt}{r:Int}(h:impl_depth a0=some r):Sat ag 168 [((ah false) a0)] (I r):=by
 obtain⟨n,hn⟩:=lim_some h
 exact(impl_depthN_sat n) _ _ hn

theorem impl_isSmall_sat{a0:Tt}  {r:Bool}(h:impl_isSmall a0=some r):Sat ag 133 [((ah false) a0)] (B r):=by
 obtain⟨h,cs⟩:=aq h
 unfold impl_isSmall at h
 refine ar 11 [.tmp 2] Tryz.func133 (h:=S ?_)
 refine run_bk h fun v4 q h=>aj [false] (impl_size_sat q) (S ?_)
 refine ai cs h (fun cs h=>S ?_) fun cs h=>S ?_
 ·refine run_bk h fun v8 q h=>aj [false] (impl_depth_sat q) (S ?_)
  exact am h
 ·exact am h

theorem impl_reserved_sat   {r:List ByteArray}(h:impl_reserved  =some r):Sat ag 181 [] (.sl true 1 (r.map Sx)):=by
 obtain⟨h,cs⟩:=aq h
 unfold impl_reserved at h
 refine ar 2 [.tmp 0] Tryz.func181 (h:=S ?_)
 exact am h

theorem slices_Index_Sstring_string_sat{a0:List ByteArray}{a1:ByteArray}  {r:Int}(h:slices_Index_Sstring_string a0 a1=some r):Sat ag 171 [(.sl false 1 (a0.map Sx)),(Sx a1)] (I r):=by
 obtain⟨h,cs⟩:=aq h
 unfold slices_Index_Sstring_string at h
 refine ar 19 [.tmp 4] Tryz.func171 (h:=S ?_)
 refine aN (b:=false) (sz:=1) (es:=a0.map Sx) 0 SC fun hl0=>?_; rw[aC] at hl0
 refine aJ (run_loop h) (fun i2 s2=>[(0,.val (.pv (.sl false 1 (a0.map Sx)))),(1,.val (.pv (Sx a1))),(7,.val (.pv (I (a0.length:Int)))),(8,.val (.pv (I (i2:Int))))]) (fun i2 s2=>[]) (az SC) (fun i2 s2 hi h=>?_) (fun s2 h=>?_)
 ·have w:=wrap_s2 i2
  refine S ?_
  refine aH cs fun cs=>S ?_
  refine run_bk h fun v14 q h=>aA Sx q (S ?_)
  refine ai cs h (fun cs h=>S ?_) fun cs h=>S ?_
  ·exact am h
  ·exact aL h
 ·refine S ?_
  refine aI cs fun cs=>S ?_
  exact am h

theorem slices_Contains_Sstring_string_sat{a0:List ByteArray}{a1:ByteArray}  {r:Bool}(h:slices_Contains_Sstring_string a0 a1=some r):Sat ag 135 [(.sl false 1 (a0.map Sx)),(Sx a1)] (B r):=by
 obtain⟨h,cs⟩:=aq h
 unfold slices_Contains_Sstring_string at h
 refine ar 9 [.tmp 4] Tryz.func135 (h:=S ?_)
 refine run_bk h fun v7 q h=>aj [false,false] (slices_Index_Sstring_string_sat q) (S ?_)
 exact am h

theorem impl_isSymbol_sat{a0:ByteArray}  {r:Bool}(h:impl_isSymbol a0=some r):Sat ag 169 [(Sx a0)] (B r):=by
 obtain⟨h,cs⟩:=aq h
 unfold impl_isSymbol at h
 refine ar 48 [.tmp 2] Tryz.func169 (h:=S ?_)
 obtain⟨N2,hN2,h⟩:=run_bind h
 obtain⟨hN2a,hN2b⟩:=bnd_some hN2
 refine aJ (run_loop h) (fun i2 s2=>[(0,.val (.pv (Sx a0))),(5,.val (.pv (I (a0.size:Int)))),(6,.val (.pv (I (i2:Int))))]) (fun i2 s2=>[]) (az SC) (fun i2 s2 hi h=>?_) (fun s2 h=>?_)
 ·have w:=wrap_s2 i2
  refine S ?_
  refine aH cs fun cs=>S ?_
  refine ai cs h (fun cs h=>S ?_) fun cs h=>S ?_
  refine run_bk h fun v14 q h=>bu q (S ?_)
  refine run_bk h fun v15 q h=>aj [false] (impl_isLower_sat q) (S ?_)
  refine ai cs h (fun cs h=>S ?_) fun cs h=>S ?_
  refine run_bk h fun v21 q h=>bu q (S ?_)
  refine run_bk h fun v22 q h=>aj [false] (impl_isLower_sat q) (S ?_)
  refine ai cs h (fun cs h=>S ?_) fun cs h=>S ?_
  rotate_left
  refine run_bk h fun v27 q h=>bu q (S ?_)
  refine run_bk h fun v28 q h=>aj [false] (impl_isDigit_sat q) (S ?_)
  refine ai cs h (fun cs h=>S ?_) fun cs h=>S ?_
  rotate_left
  refine run_bk h fun v34 q h=>bu q (S ?_)
  refine ai cs h (fun cs h=>S ?_) fun cs h=>S ?_
  rotate_left 3
  refine run_bk h fun v21 q h=>bu q (S ?_)
  refine run_bk h fun v22 q h=>aj [false] (impl_isLower_sat q) (S ?_)
  refine ai cs h (fun cs h=>S ?_) fun cs h=>S ?_
  rotate_left
  refine run_bk h fun v27 q h=>bu q (S ?_)
  refine run_bk h fun v28 q h=>aj [false] (impl_isDigit_sat q) (S ?_)
  refine ai cs h (fun cs h=>S ?_) fun cs h=>S ?_
  rotate_left
  refine run_bk h fun v34 q h=>bu q (S ?_)
  refine ai cs h (fun cs h=>S ?_) fun cs h=>S ?_
  rotate_left
  ·exact am h
  rotate_left 3
  ·exact am h
  ·exact am h
  all_goals
   exact aL h
 ·refine S ?_
  refine aI cs fun cs=>S ?_
  refine run_bk h fun v41 q h=>aj [false,false,false] (impl_within_sat q) (S ?_)
  refine ai cs h (fun cs h=>S ?_) fun cs h=>S ?_
  ·refine run_bk h fun v43 q h=>aj [] (impl_reserved_sat q) (S ?_)
   refine run_bk h fun v45 q h=>aj [false,false] (slices_Contains_Sstring_string_sat q) (S ?_)
   exact am h
  ·exact am h

theorem slices_IndexFunc_Simpl_Term_impl_Term_sat{a0:List Tt}{a1:Tt→Option Bool}{a1_id:FuncId}{a1_cs:List PV}(a1_ok:∀ y0 r,a1 y0=some r→Sat ag a1_id (((ah false) y0)::a1_cs) (B r))(a1_cz:CapsOk a1_cs=True){r:Int}(h:slices_IndexFunc_Simpl_Term_impl_Term a0 a1=some r):Sat ag 90 [(.sl false 2 (a0.map (ah false))),.clo a1_id a1_cs] (I r):=by
 obtain⟨h,cs⟩:=aq h
 unfold slices_IndexFunc_Simpl_Term_impl_Term at h
 have cs:=ae a1_cz cs
 refine ar 19 [.tmp 4] Tryz.func90 (h:=S ?_)
 refine aN (b:=false) (sz:=2) (es:=a0.map (ah false)) 0 SC fun hl0=>?_; rw[aC] at hl0
 refine aJ (run_loop h) (fun i2 s2=>[(0,.val (.pv (.sl false 2 (a0.map (ah false))))),(1,.val (.pv (.clo a1_id a1_cs))),(7,.val (.pv (I (a0.length:Int)))),(8,.val (.pv (I (i2:Int))))]) (fun i2 s2=>[]) (az SC) (fun i2 s2 hi h=>?_) (fun s2 h=>?_)
 ·have w:=wrap_s2 i2
  refine S ?_
  refine aH cs fun cs=>S ?_
  refine run_bk h fun v14 q h=>aA (ah false) q (S ?_)
  refine run_bk h fun v16 q h=>aj [false] (a1_ok _ _ q) (S ?_)
  refine ai cs h (fun cs h=>S ?_) fun cs h=>S ?_
  ·exact am h
  ·exact aL h
 ·refine S ?_
  refine aI cs fun cs=>S ?_
  exact am h

theorem slices_ContainsFunc_Simpl_Term_impl_Term_sat{a0:List Tt}{a1:Tt→Option Bool}{a1_id:FuncId}{a1_cs:List PV}(a1_ok:∀ y0 r,a1 y0=some r→Sat ag a1_id (((ah false) y0)::a1_cs) (B r))(a1_cz:CapsOk a1_cs=True){r:Bool}(h:slices_ContainsFunc_Simpl_Term_impl_Term a0 a1=some r):Sat ag 53 [(.sl false 2 (a0.map (ah false))),.clo a1_id a1_cs] (B r):=by
 obtain⟨h,cs⟩:=aq h
 unfold slices_ContainsFunc_Simpl_Term_impl_Term at h
 have cs:=ae a1_cz cs
 refine ar 9 [.tmp 4] Tryz.func53 (h:=S ?_)
 refine run_bk h fun v7 q h=>aj [false,false] (slices_IndexFunc_Simpl_Term_impl_Term_sat a1_ok a1_cz q) (S ?_)
 exact am h

theorem impl_hasNamesN_sat(n:Nat):(∀ (a0:Tt) (r:Bool),impl_hasNamesN n a0=some r→Sat ag 134 [((ah false) a0)] (B r))∧(∀ (a0:Tt) (r:Bool),impl_hasNames_1N n a0=some r→Sat ag 170 [((ah false) a0)] (B r)):=by
 induction n with
 | zero=>exact⟨fun _ _ h=>by simp[impl_hasNamesN] at h,fun _ _ h=>by simp[impl_hasNames_1N] at h⟩
 | succ n ih=>
  refine⟨fun a0 r h=>?_,fun a0 r h=>?_⟩
  ·obtain⟨h,cs⟩:=aq h
   rw[impl_hasNamesN] at h
   refine ar 25 [.tmp 2] Tryz.func134 (h:=S ?_)
   refine run_bk h fun v5 q h=>aj [false] (impl_isVariable_sat q) (S ?_)
   refine ai cs h (fun cs h=>S ?_) fun cs h=>S ?_
   rotate_left
   refine run_bk h fun v12 q h=>aj [false] (impl_isSymbol_sat q) (S ?_)
   refine ai cs h (fun cs h=>S ?_) fun cs h=>S ?_
   refine ai cs h (fun cs h=>S ?_) fun cs h=>S ?_
   ·refine run_bk h fun v22 q h=>aj [false,false] (slices_ContainsFunc_Simpl_Term_impl_Term_sat (fun _ _ hh=>ih.2 _ _ hh) (by simp only[CapsOk_nil,CapsOk_cons]) q) (S ?_)
    exact am h
   all_goals
    exact am h
  ·obtain⟨h,cs⟩:=aq h
   rw[impl_hasNames_1N] at h
   refine ar 6 [.tmp 2] Tryz.func170 (h:=S ?_)
   refine run_bk h fun v4 q h=>aj [false] (ih.1 _ _ q) (S ?_)
   exact am h
theorem impl_hasNames_sat{a0:Tt}{r:Bool}(h:impl_hasNames a0=some r):Sat ag 134 [((ah false) a0)] (B r):=by
 obtain⟨n,hn⟩:=lim_some h
 exact(impl_hasNamesN_sat n).1 _ _ hn
theorem impl_hasNames_1_sat{a0:Tt}{r:Bool}(h:impl_hasNames_1 a0=some r):Sat ag 170 [((ah false) a0)] (B r):=by
 obtain⟨n,hn⟩:=lim_some h
 exact(impl_hasNamesN_sat n).2 _ _ hn

theorem impl_IsValidTerm_sat{a0:Tt}  {r:Bool}(h:impl_IsValidTerm a0=some r):Sat ag 91 [((ah false) a0)] (B r):=by
 obtain⟨h,cs⟩:=aq h
 unfold impl_IsValidTerm at h
 refine ar 9 [.tmp 2] Tryz.func91 (h:=S ?_)
 refine run_bk h fun v4 q h=>aj [false] (impl_isSmall_sat q) (S ?_)
 refine ai cs h (fun cs h=>S ?_) fun cs h=>S ?_
 ·refine run_bk h fun v7 q h=>aj [false] (impl_hasNames_sat q) (S ?_)
  exact am h
 ·exact am h

theorem impl_IsValidAtom_sat{a0:Tt}  {r:Bool}(h:impl_IsValidAtom a0=some r):Sat ag 153 [((ah false) a0)] (B r):=by
 obtain⟨h,cs⟩:=aq h
 unfold impl_IsValidAtom at h
 refine ar 34 [.tmp 2] Tryz.func153 (h:=S ?_)
 refine run_bk h fun v4 q h=>aj [false] (impl_isEquality_sat q) (S ?_)
 refine ai cs h (fun cs h=>S ?_) fun cs h=>S ?_
 ·refine ai cs h (fun cs h=>S ?_) fun cs h=>S ?_
  refine run_bk h fun v11 q h=>aj [false] (impl_isSmall_sat q) (S ?_)
  refine ai cs h (fun cs h=>S ?_) fun cs h=>S ?_
  refine run_bk h fun v16 q h=>aA (ah false) q (S ?_)
  refine run_bk h fun v18 q h=>aj [false] (impl_hasNames_sat q) (S ?_)
  refine ai cs h (fun cs h=>S ?_) fun cs h=>S ?_
  ·refine run_bk h fun v23 q h=>aA (ah false) q (S ?_)
   refine run_bk h fun v25 q h=>aj [false] (impl_hasNames_sat q) (S ?_)
   exact am h
  all_goals
   exact am h
 ·refine run_bk h fun v29 q h=>aj [false] (impl_isSymbol_sat q) (S ?_)
  refine ai cs h (fun cs h=>S ?_) fun cs h=>S ?_
  ·refine run_bk h fun v32 q h=>aj [false] (impl_IsValidTerm_sat q) (S ?_)
   exact am h
  ·exact am h

theorem impl_isZeroTerm_sat{a0:Tt}  {r:Bool}(h:impl_isZeroTerm a0=some r):Sat ag 154 [((ah false) a0)] (B r):=by
 obtain⟨h,cs⟩:=aq h
 unfold impl_isZeroTerm at h
 refine ar 12 [.tmp 2] Tryz.func154 (h:=S ?_)
 refine ai cs h (fun cs h=>S ?_) fun cs h=>S ?_
 ·exact am h
 ·exact am h

theorem slices_IndexFunc_Simpl_Formula_impl_Formula_sat{a0:List Ft}{a1:Ft→Option Bool}{a1_id:FuncId}{a1_cs:List PV}(a1_ok:∀ y0 r,a1 y0=some r→Sat ag a1_id (((ao false) y0)::a1_cs) (B r))(a1_cz:CapsOk a1_cs=True){r:Int}(h:slices_IndexFunc_Simpl_Formula_impl_Formula a0 a1=some r):Sat ag 32 [(.sl false 5 (a0.map (ao false))),.clo a1_id a1_cs] (I r):=by
 obtain⟨h,cs⟩:=aq h
 unfold slices_IndexFunc_Simpl_Formula_impl_Formula at h
 have cs:=ae a1_cz cs
 refine ar 19 [.tmp 4] Tryz.func32 (h:=S ?_)
 refine aN (b:=false) (sz:=5) (es:=a0.map (ao false)) 0 SC fun hl0=>?_; rw[aC] at hl0
 refine aJ (run_loop h) (fun i2 s2=>[(0,.val (.pv (.sl false 5 (a0.map (ao false))))),(1,.val (.pv (.clo a1_id a1_cs))),(7,.val (.pv (I (a0.length:Int)))),(8,.val (.pv (I (i2:Int))))]) (fun i2 s2=>[]) (az SC) (fun i2 s2 hi h=>?_) (fun s2 h=>?_)
 ·have w:=wrap_s2 i2
  refine S ?_
  refine aH cs fun cs=>S ?_
  refine run_bk h fun v14 q h=>aA (ao false) q (S ?_)
  refine run_bk h fun v16 q h=>aj [false] (a1_ok _ _ q) (S ?_)
  refine ai cs h (fun cs h=>S ?_) fun cs h=>S ?_
  ·exact am h
  ·exact aL h
 ·refine S ?_
  refine aI cs fun cs=>S ?_
  exact am h

theorem slices_ContainsFunc_Simpl_Formula_impl_Formula_sat{a0:List Ft}{a1:Ft→Option Bool}{a1_id:FuncId}{a1_cs:List PV}(a1_ok:∀ y0 r,a1 y0=some r→Sat ag a1_id (((ao false) y0)::a1_cs) (B r))(a1_cz:CapsOk a1_cs=True){r:Bool}(h:slices_ContainsFunc_Simpl_Formula_impl_Formula a0 a1=some r):Sat ag 131 [(.sl false 5 (a0.map (ao false))),.clo a1_id a1_cs] (B r):=by
 obtain⟨h,cs⟩:=aq h
 unfold slices_ContainsFunc_Simpl_Formula_impl_Formula at h
 have cs:=ae a1_cz cs
 refine ar 9 [.tmp 4] Tryz.func131 (h:=S ?_)
 refine run_bk h fun v7 q h=>aj [false,false] (slices_IndexFunc_Simpl_Formula_impl_Formula_sat a1_ok a1_cz q) (S ?_)
 exact am h

theorem impl_hasFormN_sat(n:Nat):(∀ (a0:Ft) (r:Bool),impl_hasFormN n a0=some r→Sat ag 127 [((ao false) a0)] (B r))∧(∀ (a0:Ft) (r:Bool),impl_hasForm_1N n a0=some r→Sat ag 155 [((ao false) a0)] (B r)):=by
 induction n with
 | zero=>exact⟨fun _ _ h=>by simp[impl_hasFormN] at h,fun _ _ h=>by simp[impl_hasForm_1N] at h⟩
 | succ n ih=>
  refine⟨fun a0 r h=>?_,fun a0 r h=>?_⟩
  ·obtain⟨h,cs⟩:=aq h
   rw[impl_hasFormN] at h
   refine ar 76 [.tmp 2] Tryz.func127 (h:=S ?_)
   refine ai cs h (fun cs h=>S ?_) fun cs h=>S ?_
   refine ai cs h (fun cs h=>S ?_) fun cs h=>S ?_
   refine run_bk h fun v33 q h=>aj [false] (impl_isQuantifier_sat q) (S ?_)
   refine ai cs h (fun cs h=>S ?_) fun cs h=>S ?_
   refine run_bk h fun v37 q h=>aj [false] (impl_isVariable_sat q) (S ?_)
   refine ai cs h (fun cs h=>S ?_) fun cs h=>S ?_
   refine run_bk h fun v44 q h=>aj [false] (impl_isQuantifier_sat q) (S ?_)
   refine ai cs h (fun cs h=>S ?_) fun cs h=>S ?_
   refine ai cs h (fun cs h=>S ?_) fun cs h=>S ?_
   refine run_bk h fun v58 q h=>aj [false] (impl_IsValidAtom_sat q) (S ?_)
   refine ai cs h (fun cs h=>S ?_) fun cs h=>S ?_
   rotate_left 2
   refine run_bk h fun v68 q h=>aj [false] (impl_isZeroTerm_sat q) (S ?_)
   refine ai cs h (fun cs h=>S ?_) fun cs h=>S ?_
   rotate_left 2
   refine ai cs h (fun cs h=>S ?_) fun cs h=>S ?_
   refine ai cs h (fun cs h=>S ?_) fun cs h=>S ?_
   refine run_bk h fun v58 q h=>aj [false] (impl_IsValidAtom_sat q) (S ?_)
   refine ai cs h (fun cs h=>S ?_) fun cs h=>S ?_
   rotate_left 2
   refine run_bk h fun v68 q h=>aj [false] (impl_isZeroTerm_sat q) (S ?_)
   refine ai cs h (fun cs h=>S ?_) fun cs h=>S ?_
   rotate_left 4
   refine run_bk h fun v44 q h=>aj [false] (impl_isQuantifier_sat q) (S ?_)
   refine ai cs h (fun cs h=>S ?_) fun cs h=>S ?_
   refine ai cs h (fun cs h=>S ?_) fun cs h=>S ?_
   refine run_bk h fun v58 q h=>aj [false] (impl_IsValidAtom_sat q) (S ?_)
   refine ai cs h (fun cs h=>S ?_) fun cs h=>S ?_
   rotate_left 2
   refine run_bk h fun v68 q h=>aj [false] (impl_isZeroTerm_sat q) (S ?_)
   refine ai cs h (fun cs h=>S ?_) fun cs h=>S ?_
   rotate_left 2
   refine ai cs h (fun cs h=>S ?_) fun cs h=>S ?_
   refine ai cs h (fun cs h=>S ?_) fun cs h=>S ?_
   refine run_bk h fun v58 q h=>aj [false] (impl_IsValidAtom_sat q) (S ?_)
   refine ai cs h (fun cs h=>S ?_) fun cs h=>S ?_
   rotate_left 2
   refine run_bk h fun v68 q h=>aj [false] (impl_isZeroTerm_sat q) (S ?_)
   refine ai cs h (fun cs h=>S ?_) fun cs h=>S ?_
   rotate_left 4
   refine ai cs h (fun cs h=>S ?_) fun cs h=>S ?_
   refine ai cs h (fun cs h=>S ?_) fun cs h=>S ?_
   refine run_bk h fun v33 q h=>aj [false] (impl_isQuantifier_sat q) (S ?_)
   refine ai cs h (fun cs h=>S ?_) fun cs h=>S ?_
   refine run_bk h fun v37 q h=>aj [false] (impl_isVariable_sat q) (S ?_)
   refine ai cs h (fun cs h=>S ?_) fun cs h=>S ?_
   refine run_bk h fun v44 q h=>aj [false] (impl_isQuantifier_sat q) (S ?_)
   refine ai cs h (fun cs h=>S ?_) fun cs h=>S ?_
   refine ai cs h (fun cs h=>S ?_) fun cs h=>S ?_
   refine run_bk h fun v58 q h=>aj [false] (impl_IsValidAtom_sat q) (S ?_)
   refine ai cs h (fun cs h=>S ?_) fun cs h=>S ?_
   rotate_left 2
   refine run_bk h fun v68 q h=>aj [false] (impl_isZeroTerm_sat q) (S ?_)
   refine ai cs h (fun cs h=>S ?_) fun cs h=>S ?_
   rotate_left 2
   refine ai cs h (fun cs h=>S ?_) fun cs h=>S ?_
   refine ai cs h (fun cs h=>S ?_) fun cs h=>S ?_
   refine run_bk h fun v58 q h=>aj [false] (impl_IsValidAtom_sat q) (S ?_)
   refine ai cs h (fun cs h=>S ?_) fun cs h=>S ?_
   rotate_left 2
   refine run_bk h fun v68 q h=>aj [false] (impl_isZeroTerm_sat q) (S ?_)
   refine ai cs h (fun cs h=>S ?_) fun cs h=>S ?_
   rotate_left 4
   refine run_bk h fun v44 q h=>aj [false] (impl_isQuantifier_sat q) (S ?_)
   refine ai cs h (fun cs h=>S ?_) fun cs h=>S ?_
   refine ai cs h (fun cs h=>S ?_) fun cs h=>S ?_
   refine run_bk h fun v58 q h=>aj [false] (impl_IsValidAtom_sat q) (S ?_)
   refine ai cs h (fun cs h=>S ?_) fun cs h=>S ?_
   rotate_left 2
   refine run_bk h fun v68 q h=>aj [false] (impl_isZeroTerm_sat q) (S ?_)
   refine ai cs h (fun cs h=>S ?_) fun cs h=>S ?_
   rotate_left 2
   refine ai cs h (fun cs h=>S ?_) fun cs h=>S ?_
   refine ai cs h (fun cs h=>S ?_) fun cs h=>S ?_
   refine run_bk h fun v58 q h=>aj [false] (impl_IsValidAtom_sat q) (S ?_)
   refine ai cs h (fun cs h=>S ?_) fun cs h=>S ?_
   rotate_left 2
   refine run_bk h fun v68 q h=>aj [false] (impl_isZeroTerm_sat q) (S ?_)
   refine ai cs h (fun cs h=>S ?_) fun cs h=>S ?_
   rotate_left 4
   refine ai cs h (fun cs h=>S ?_) fun cs h=>S ?_
   refine ai cs h (fun cs h=>S ?_) fun cs h=>S ?_
   refine run_bk h fun v33 q h=>aj [false] (impl_isQuantifier_sat q) (S ?_)
   refine ai cs h (fun cs h=>S ?_) fun cs h=>S ?_
   refine run_bk h fun v37 q h=>aj [false] (impl_isVariable_sat q) (S ?_)
   refine ai cs h (fun cs h=>S ?_) fun cs h=>S ?_
   refine run_bk h fun v44 q h=>aj [false] (impl_isQuantifier_sat q) (S ?_)
   refine ai cs h (fun cs h=>S ?_) fun cs h=>S ?_
   refine run_bk h fun v58 q h=>aj [false] (impl_IsValidAtom_sat q) (S ?_)
   refine ai cs h (fun cs h=>S ?_) fun cs h=>S ?_
   rotate_left 2
   refine ai cs h (fun cs h=>S ?_) fun cs h=>S ?_
   refine run_bk h fun v58 q h=>aj [false] (impl_IsValidAtom_sat q) (S ?_)
   refine ai cs h (fun cs h=>S ?_) fun cs h=>S ?_
   rotate_left 4
   refine run_bk h fun v44 q h=>aj [false] (impl_isQuantifier_sat q) (S ?_)
   refine ai cs h (fun cs h=>S ?_) fun cs h=>S ?_
   refine run_bk h fun v58 q h=>aj [false] (impl_IsValidAtom_sat q) (S ?_)
   refine ai cs h (fun cs h=>S ?_) fun cs h=>S ?_
   rotate_left 2
   refine ai cs h (fun cs h=>S ?_) fun cs h=>S ?_
   refine run_bk h fun v58 q h=>aj [false] (impl_IsValidAtom_sat q) (S ?_)
   refine ai cs h (fun cs h=>S ?_) fun cs h=>S ?_
   rotate_left 4
   refine ai cs h (fun cs h=>S ?_) fun cs h=>S ?_
   refine ai cs h (fun cs h=>S ?_) fun cs h=>S ?_
   refine run_bk h fun v33 q h=>aj [false] (impl_isQuantifier_sat q) (S ?_)
   refine ai cs h (fun cs h=>S ?_) fun cs h=>S ?_
   refine run_bk h fun v37 q h=>aj [false] (impl_isVariable_sat q) (S ?_)
   refine ai cs h (fun cs h=>S ?_) fun cs h=>S ?_
   refine run_bk h fun v44 q h=>aj [false] (impl_isQuantifier_sat q) (S ?_)
   refine ai cs h (fun cs h=>S ?_) fun cs h=>S ?_
   refine run_bk h fun v68 q h=>aj [false] (impl_isZeroTerm_sat q) (S ?_)
   refine ai cs h (fun cs h=>S ?_) fun cs h=>S ?_
   rotate_left 2
   refine ai cs h (fun cs h=>S ?_) fun cs h=>S ?_
   refine run_bk h fun v68 q h=>aj [false] (impl_isZeroTerm_sat q) (S ?_)
   refine ai cs h (fun cs h=>S ?_) fun cs h=>S ?_
   rotate_left 4
   refine run_bk h fun v44 q h=>aj [false] (impl_isQuantifier_sat q) (S ?_)
   refine ai cs h (fun cs h=>S ?_) fun cs h=>S ?_
   refine run_bk h fun v68 q h=>aj [false] (impl_isZeroTerm_sat q) (S ?_)
   refine ai cs h (fun cs h=>S ?_) fun cs h=>S ?_
   rotate_left 2
   refine ai cs h (fun cs h=>S ?_) fun cs h=>S ?_
   refine run_bk h fun v68 q h=>aj [false] (impl_isZeroTerm_sat q) (S ?_)
   refine ai cs h (fun cs h=>S ?_) fun cs h=>S ?_
   rotate_left 4
   refine run_bk h fun v20 q h=>aj [false] (impl_isQuantifier_sat q) (S ?_)
   refine ai cs h (fun cs h=>S ?_) fun cs h=>S ?_
   refine ai cs h (fun cs h=>S ?_) fun cs h=>S ?_
   refine run_bk h fun v33 q h=>aj [false] (impl_isQuantifier_sat q) (S ?_)
   refine ai cs h (fun cs h=>S ?_) fun cs h=>S ?_
   refine run_bk h fun v37 q h=>aj [false] (impl_isVariable_sat q) (S ?_)
   refine ai cs h (fun cs h=>S ?_) fun cs h=>S ?_
   refine run_bk h fun v44 q h=>aj [false] (impl_isQuantifier_sat q) (S ?_)
   refine ai cs h (fun cs h=>S ?_) fun cs h=>S ?_
   refine run_bk h fun v68 q h=>aj [false] (impl_isZeroTerm_sat q) (S ?_)
   refine ai cs h (fun cs h=>S ?_) fun cs h=>S ?_
   rotate_left 2
   refine ai cs h (fun cs h=>S ?_) fun cs h=>S ?_
   refine run_bk h fun v68 q h=>aj [false] (impl_isZeroTerm_sat q) (S ?_)
   refine ai cs h (fun cs h=>S ?_) fun cs h=>S ?_
   rotate_left 4
   refine run_bk h fun v44 q h=>aj [false] (impl_isQuantifier_sat q) (S ?_)
   refine ai cs h (fun cs h=>S ?_) fun cs h=>S ?_
   refine run_bk h fun v68 q h=>aj [false] (impl_isZeroTerm_sat q) (S ?_)
   refine ai cs h (fun cs h=>S ?_) fun cs h=>S ?_
   rotate_left 2
   refine ai cs h (fun cs h=>S ?_) fun cs h=>S ?_
   refine run_bk h fun v68 q h=>aj [false] (impl_isZeroTerm_sat q) (S ?_)
   refine ai cs h (fun cs h=>S ?_) fun cs h=>S ?_
   rotate_left 4
   refine run_bk h fun v24 q h=>aj [false] (impl_isBinary_sat q) (S ?_)
   refine ai cs h (fun cs h=>S ?_) fun cs h=>S ?_
   refine ai cs h (fun cs h=>S ?_) fun cs h=>S ?_
   refine run_bk h fun v33 q h=>aj [false] (impl_isQuantifier_sat q) (S ?_)
   refine ai cs h (fun cs h=>S ?_) fun cs h=>S ?_
   refine run_bk h fun v37 q h=>aj [false] (impl_isVariable_sat q) (S ?_)
   refine ai cs h (fun cs h=>S ?_) fun cs h=>S ?_
   refine run_bk h fun v44 q h=>aj [false] (impl_isQuantifier_sat q) (S ?_)
   refine ai cs h (fun cs h=>S ?_) fun cs h=>S ?_
   refine run_bk h fun v68 q h=>aj [false] (impl_isZeroTerm_sat q) (S ?_)
   refine ai cs h (fun cs h=>S ?_) fun cs h=>S ?_
   rotate_left 2
   refine ai cs h (fun cs h=>S ?_) fun cs h=>S ?_
   refine run_bk h fun v68 q h=>aj [false] (impl_isZeroTerm_sat q) (S ?_)
   refine ai cs h (fun cs h=>S ?_) fun cs h=>S ?_
   rotate_left 4
   refine run_bk h fun v44 q h=>aj [false] (impl_isQuantifier_sat q) (S ?_)
   refine ai cs h (fun cs h=>S ?_) fun cs h=>S ?_
   refine run_bk h fun v68 q h=>aj [false] (impl_isZeroTerm_sat q) (S ?_)
   refine ai cs h (fun cs h=>S ?_) fun cs h=>S ?_
   rotate_left 2
   refine ai cs h (fun cs h=>S ?_) fun cs h=>S ?_
   refine run_bk h fun v68 q h=>aj [false] (impl_isZeroTerm_sat q) (S ?_)
   refine ai cs h (fun cs h=>S ?_) fun cs h=>S ?_
   rotate_left
   ·exact am h
   ·exact am h
   ·exact am h
   ·exact am h
   rotate_left
   ·exact am h
   rotate_left
   ·exact am h
   rotate_left
   ·exact am h
   rotate_left
   ·exact am h
   ·exact am h
   ·exact am h
   rotate_left
   ·exact am h
   rotate_left
   ·exact am h
   rotate_left
   ·exact am h
   rotate_left
   ·exact am h
   ·exact am h
   ·exact am h
   rotate_left
   ·exact am h
   rotate_left
   ·exact am h
   rotate_left
   ·exact am h
   rotate_left
   ·exact am h
   ·exact am h
   ·exact am h
   rotate_left
   ·exact am h
   rotate_left
   ·exact am h
   rotate_left
   ·exact am h
   rotate_left
   ·exact am h
   ·exact am h
   ·exact am h
   rotate_left
   ·exact am h
   rotate_left
   ·exact am h
   ·exact am h
   ·exact am h
   rotate_left
   ·exact am h
   rotate_left
   ·exact am h
   ·exact am h
   ·exact am h
   rotate_left
   ·exact am h
   rotate_left
   ·exact am h
   ·exact am h
   ·exact am h
   rotate_left
   ·exact am h
   rotate_left
   ·exact am h
   ·exact am h
   ·exact am h
   rotate_left
   ·exact am h
   rotate_left
   ·exact am h
   ·exact am h
   ·exact am h
   rotate_left
   ·exact am h
   rotate_left
   ·exact am h
   ·exact am h
   ·exact am h
   rotate_left
   ·exact am h
   rotate_left
   ·exact am h
   ·exact am h
   ·exact am h
   rotate_left
   ·exact am h
   all_goals
    refine run_bk h fun v74 q h=>aj [false,false] (slices_ContainsFunc_Simpl_Formula_impl_Formula_sat (fun _ _ hh=>ih.2 _ _ hh) (by simp only[CapsOk_nil,CapsOk_cons]) q) (S ?_)
    exact am h
  ·obtain⟨h,cs⟩:=aq h
   rw[impl_hasForm_1N] at h
   refine ar 6 [.tmp 2] Tryz.func155 (h:=S ?_)
   refine run_bk h fun v4 q h=>aj [false] (ih.1 _ _ q) (S ?_)
   exact am h
theorem impl_hasForm_sat{a0:Ft}{r:Bool}(h:impl_hasForm a0=some r):Sat ag 127 [((ao false) a0)] (B r):=by
 obtain⟨n,hn⟩:=lim_some h
 exact(impl_hasFormN_sat n).1 _ _ hn
theorem impl_hasForm_1_sat{a0:Ft}{r:Bool}(h:impl_hasForm_1 a0=some r):Sat ag 155 [((ao false) a0)] (B r):=by
 obtain⟨n,hn⟩:=lim_some h
 exact(impl_hasFormN_sat n).2 _ _ hn

theorem impl_IsValidFormula_sat{a0:Ft}  {r:Bool}(h:impl_IsValidFormula a0=some r):Sat ag 84 [((ao false) a0)] (B r):=by
 obtain⟨h,cs⟩:=aq h
 unfold impl_IsValidFormula at h
 refine ar 10 [.tmp 2] Tryz.func84 (h:=S ?_)
 refine run_bk h fun v4 q h=>aj [false] (impl_sizeOf_sat q) (S ?_)
 refine ai cs h (fun cs h=>S ?_) fun cs h=>S ?_
 ·refine run_bk h fun v8 q h=>aj [false] (impl_hasForm_sat q) (S ?_)
  exact am h
 ·exact am h

theorem impl_isVar_sat{a0:Tt}  {r:Bool}(h:impl_isVar a0=some r):Sat ag 63 [((ah false) a0)] (B r):=by
 obtain⟨h,cs⟩:=aq h
 unfold impl_isVar at h
 refine ar 7 [.tmp 2] Tryz.func63 (h:=S ?_)
 refine run_bk h fun v5 q h=>bu q (S ?_)
 refine run_bk h fun v6 q h=>aj [false] (impl_isUpper_sat q) (S ?_)
 exact am h

theorem impl_collectN_sat(n:Nat):(∀ (a0:List ByteArray) (a1:Tt) (r:List ByteArray),impl_collectN n a0 a1=some r→Sat ag 92 [(.sl true 1 (a0.map Sx)),((ah false) a1)] (.sl true 1 (r.map Sx))):=by
 induction n with
 | zero=>exact fun _ _ _ h=>by simp[impl_collectN] at h
 | succ n ih=>
  refine fun a0 a1 r h=>?_
  obtain⟨h,cs⟩:=aq h
  rw[impl_collectN] at h
  refine ar 38 [.tmp 4] Tryz.func92 (h:=S ?_)
  refine ai cs h (fun cs h=>S ?_) fun cs h=>S ?_
  refine run_bk h fun v13 q h=>aj [false] (impl_isVar_sat q) (S ?_)
  refine ai cs h (fun cs h=>S ?_) fun cs h=>S ?_
  refine run_bk h fun v18 q h=>aj [false,false] (slices_Contains_Sstring_string_sat q) (S ?_)
  refine ai cs h (fun cs h=>S ?_) fun cs h=>S ?_
  ·exact am h
  ·refine run_bk h fun v24 q h=>aP Sx (fun _=>rfl) q (S ?_)
   exact am h
  all_goals
   refine aN (b:=false) (sz:=2) (es:=a1.Args.map (ah false)) 8 SC fun hl8=>?_; rw[aC] at hl8
   refine aJ (run_loop h) (fun i6 s6=>[(0,.val (.own 9000)),(27,.val (.pv (.sl false 2 (a1.Args.map (ah false))))),(28,.val (.pv (I (a1.Args.length:Int)))),(29,.val (.pv (I (i6:Int))))]) (fun i6 s6=>[(9000,(1,s6.map Sx))]) (az SC) (fun i6 s6 hi h=>?_) (fun s6 h=>?_)
   ·have w:=wrap_s2 i6
    refine S ?_
    refine aH cs fun cs=>S ?_
    refine run_bk h fun v31 q h=>aA (ah false) q (S ?_)
    refine run_bk h fun v35 q h=>aj [true,false] (ih _ _ _ q) (S ?_)
    have h:=run_some h
    refine a7 ⟨_,h,?_⟩
    refine bk 560 9000 ?_
    exact az SWx
   ·refine S ?_
    refine aI cs fun cs=>S ?_
    exact am h
theorem impl_collect_sat{a0:List ByteArray}{a1:Tt}{r:List ByteArray}(h:impl_collect a0 a1=some r):Sat ag 92 [(.sl true 1 (a0.map Sx)),((ah false) a1)] (.sl true 1 (r.map Sx)):=by
 obtain⟨n,hn⟩:=lim_some h
 exact(impl_collectN_sat n) _ _ _ hn


theorem impl_variables_sat{a0:Tt}  {r:List ByteArray}(h:impl_variables a0=some r):Sat ag 156 [((ah false) a0)] (.sl true 1 (r.map Sx)):=by
 obtain⟨h,cs⟩:=aq h
 unfold impl_variables at h
 refine ar 10 [.tmp 2] Tryz.func156 (h:=S ?_)
 refine run_bk h fun v6 q h=>aj [true,false] (impl_collect_sat q) (S ?_)
 obtain⟨v8,hv8,h⟩:=run_bind h
 refine CallH.io0 [(.own 96)] [(96,(1,v8.2.map Sx))] (slices_SortS_sat hv8) SC (S ?_)
 exact am h

theorem slices_Clone_Sstring_string_sat{a0:List ByteArray}  {r:List ByteArray}(h:slices_Clone_Sstring_string a0=some r):Sat ag 88 [(.sl false 1 (a0.map Sx))] (.sl true 1 (r.map Sx)):=by
 obtain⟨h,cs⟩:=aq h
 unfold slices_Clone_Sstring_string at h
 refine ar 8 [.tmp 2] Tryz.func88 (h:=S ?_)
 refine NilH.mk (fun e=>?_) ?_
 ·obtain rfl:a0=[]:=List.map_eq_nil_iff.1 e
  simp only[app_nn,Option.bind_some] at h
  refine S ?_
  exact am h
 ·skip
  refine S ?_
  refine run_bk h fun v7 q h=>aP Sx (fun _=>rfl) q (S ?_)
  exact am h

theorem impl_gatherN_sat(n:Nat):(∀ (a0:List ByteArray) (a1:Ft) (a2:List ByteArray) (r:List ByteArray),impl_gatherN n a0 a1 a2=some r→Sat ag 128 [(.sl true 1 (a0.map Sx)),((ao false) a1),(.sl false 1 (a2.map Sx))] (.sl true 1 (r.map Sx))):=by
 induction n with
 | zero=>exact fun _ _ _ _ h=>by simp[impl_gatherN] at h
 | succ n ih=>
  refine fun a0 a1 a2 r h=>?_
  obtain⟨h,cs⟩:=aq h
  rw[impl_gatherN] at h
  refine ar 60 [.tmp 6] Tryz.func128 (h:=S ?_)
  refine ai cs h (fun cs h=>S ?_) fun cs h=>S ?_
  ·refine run_bk h fun v16 q h=>aj [false] (impl_variables_sat q) (S ?_)
   refine Mg.know_own (sz:=1) (es:=v16.map Sx) 256 SC fun hl256=>?_; rw[aC] at hl256
   refine aJ (run_loop h) (fun i3 s3=>[(0,.val (.own 9000)),(2,.val (.pv (.sl false 1 (a2.map Sx)))),(16,.val (.own 256)),(17,.val (.pv (I (v16.length:Int)))),(18,.val (.pv (I (i3:Int))))]) (fun i3 s3=>[(9000,(1,s3.map Sx)),(256,(1,v16.map Sx))]) (az SC) (fun i3 s3 hi h=>?_) (fun s3 h=>?_)
   ·have w:=wrap_s2 i3
    refine S ?_
    refine aH cs fun cs=>S ?_
    refine run_bk h fun v20 q h=>aA Sx q (S ?_)
    refine run_bk h fun v21 q h=>EldH.c Sx q (S ?_)
    refine run_bk h fun v24 q h=>aj [false,false] (slices_Contains_Sstring_string_sat q) (S ?_)
    refine ai cs h (fun cs h=>S ?_) fun cs h=>S ?_
    ·exact aL h
    ·refine run_bk h fun v29 q h=>aj [false,false] (slices_Contains_Sstring_string_sat q) (S ?_)
     refine ai cs h (fun cs h=>S ?_) fun cs h=>S ?_
     ·exact aL h
     ·refine run_bk h fun v35 q h=>aP Sx (fun _=>rfl) q (S ?_)
      have h:=run_some h
      refine a7 ⟨_,h,?_⟩
      refine bk 560 9000 ?_
      exact az SWx
   ·refine S ?_
    refine aI cs fun cs=>S ?_
    exact am h
  ·refine run_bk h fun v40 q h=>aj [false] (impl_isQuantifier_sat q) (S ?_)
   refine ai cs h (fun cs h=>S ?_) fun cs h=>S ?_
   ·refine run_bk h fun v42 q h=>aj [false] (slices_Clone_Sstring_string_sat q) (S ?_)
    refine run_bk h fun v46 q h=>aP Sx (fun _=>rfl) q (S ?_)
    refine ae (aO [] [672,720,736]) (S ?_)
    refine aN (b:=false) (sz:=5) (es:=a1.Parts.map (ao false)) 48 SC fun hl48=>?_; rw[aC] at hl48
    refine aJ (run_loop h) (fun i12 s12=>[(0,.val (.own 9000)),(2,.val (.own 736)),(48,.val (.pv (.sl false 5 (a1.Parts.map (ao false))))),(49,.val (.pv (I (a1.Parts.length:Int)))),(50,.val (.pv (I (i12:Int))))]) (fun i12 s12=>[(9000,(1,s12.map Sx)),(736,(1,v46.map Sx))]) (az SC) (fun i12 s12 hi h=>?_) (fun s12 h=>?_)
    ·have w:=wrap_s2 i12
     refine S ?_
     refine aH cs fun cs=>S ?_
     refine run_bk h fun v52 q h=>aA (ao false) q (S ?_)
     refine run_bk h fun v57 q h=>aj [true,false,false] (ih _ _ _ _ q) (S ?_)
     have h:=run_some h
     refine a7 ⟨_,h,?_⟩
     refine bk 912 9000 ?_
     exact az SWx
    ·refine S ?_
     refine aI cs fun cs=>S ?_
     exact am h
   ·refine aN (b:=false) (sz:=5) (es:=a1.Parts.map (ao false)) 48 SC fun hl48=>?_; rw[aC] at hl48
    refine aJ (run_loop h) (fun i12 s12=>[(0,.val (.own 9000)),(2,.val (.pv (.sl false 1 (a2.map Sx)))),(48,.val (.pv (.sl false 5 (a1.Parts.map (ao false))))),(49,.val (.pv (I (a1.Parts.length:Int)))),(50,.val (.pv (I (i12:Int))))]) (fun i12 s12=>[(9000,(1,s12.map Sx))]) (az SC) (fun i12 s12 hi h=>?_) (fun s12 h=>?_)
    ·have w:=wrap_s2 i12
     refine S ?_
     refine aH cs fun cs=>S ?_
     refine run_bk h fun v52 q h=>aA (ao false) q (S ?_)
     refine run_bk h fun v57 q h=>aj [true,false,false] (ih _ _ _ _ q) (S ?_)
     have h:=run_some h
     refine a7 ⟨_,h,?_⟩
     refine bk 912 9000 ?_
     exact az SWx
    ·refine S ?_
     refine aI cs fun cs=>S ?_
     exact am h
theorem impl_gather_sat{a0:List ByteArray}{a1:Ft}{a2:List ByteArray}{r:List ByteArray}(h:impl_gather a0 a1 a2=some r):Sat ag 128 [(.sl true 1 (a0.map Sx)),((ao false) a1),(.sl false 1 (a2.map Sx))] (.sl true 1 (r.map Sx)):=by
 obtain⟨n,hn⟩:=lim_some h
 exact(impl_gatherN_sat n) _ _ _ _ hn

theorem impl_free_sat{a0:Ft}  {r:List ByteArray}(h:impl_free a0=some r):Sat ag 85 [((ao false) a0)] (.sl true 1 (r.map Sx)):=by
 obtain⟨h,cs⟩:=aq h
 unfold impl_free at h
 refine ar 10 [.tmp 2] Tryz.func85 (h:=S ?_)
 refine run_bk h fun v6 q h=>aj [true,false,false] (impl_gather_sat q) (S ?_)
 obtain⟨v8,hv8,h⟩:=run_bind h
 refine CallH.io0 [(.own 96)] [(96,(1,v8.2.map Sx))] (slices_SortS_sat hv8) SC (S ?_)
 exact am h

theorem impl_prefix_sat{a0:Ft}  {r:(List ByteArray)×Ft}(h:impl_prefix a0=some r):Sat ag 52 [((ao false) a0)] (.tup [(.sl true 1 (r.1.map Sx)),((ao false) r.2)]):=by
 obtain⟨h,cs⟩:=aq h
 unfold impl_prefix at h
 refine ar 20 [.tmp 2,.cell 3 39] Tryz.func52 (h:=S ?_)
 replace h:=run_loop h
 refine Mg.whileN h (fun s2=>[(1,.box (.pv ((ao false) s2.1))),(3,.box zab0),(4,.val (.own 80))]) (fun s2=>[(80,(1,s2.2.map Sx))]) (az SC) (fun n2 s2 h=>?_)
 refine S ?_
 refine ai cs h (fun cs h=>S ?_) fun cs h=>S ?_
 ·refine run_bk h fun v13 q h=>aP Sx (fun _=>rfl) q (S ?_)
  refine run_bk h fun v16 q h=>aA (ao false) q (S ?_)
  have h:=run_some h
  refine a7 ⟨_,h,?_⟩
  refine bk 208 80 ?_
  exact az SC
 ·have h:=run_some h
  refine ae (aO [] []) (S ?_)
  exact am h


theorem slices_Index_Sint_int_sat{a0:List Int}{a1:Int}  {r:Int}(h:slices_Index_Sint_int a0 a1=some r):Sat ag 166 [(.sl false 1 (a0.map I)),(I a1)] (I r):=by
 obtain⟨h,cs⟩:=aq h
 unfold slices_Index_Sint_int at h
 refine ar 19 [.tmp 4] Tryz.func166 (h:=S ?_)
 refine aN (b:=false) (sz:=1) (es:=a0.map I) 0 SC fun hl0=>?_; rw[aC] at hl0
 refine aJ (run_loop h) (fun i2 s2=>[(0,.val (.pv (.sl false 1 (a0.map I)))),(1,.val (.pv (I a1))),(7,.val (.pv (I (a0.length:Int)))),(8,.val (.pv (I (i2:Int))))]) (fun i2 s2=>[]) (az SC) (fun i2 s2 hi h=>?_) (fun s2 h=>?_)
 ·have w:=wrap_s2 i2
  refine S ?_
  refine aH cs fun cs=>S ?_
  refine run_bk h fun v14 q h=>aA I q (S ?_)
  refine ai cs h (fun cs h=>S ?_) fun cs h=>S ?_
  ·exact am h
  ·exact aL h
 ·refine S ?_
  refine aI cs fun cs=>S ?_
  exact am h

theorem slices_Contains_Sint_int_sat{a0:List Int}{a1:Int}  {r:Bool}(h:slices_Contains_Sint_int a0 a1=some r):Sat ag 130 [(.sl false 1 (a0.map I)),(I a1)] (B r):=by
 obtain⟨h,cs⟩:=aq h
 unfold slices_Contains_Sint_int at h
 refine ar 9 [.tmp 4] Tryz.func130 (h:=S ?_)
 refine run_bk h fun v7 q h=>aj [false,false] (slices_Index_Sint_int_sat q) (S ?_)
 exact am h

theorem impl_hasOpN_sat(n:Nat):(∀ (a0:Ft) (a1:List Int) (r:Bool),impl_hasOpN n a0 a1=some r→Sat ag 89 [((ao false) a0),(.sl false 1 (a1.map I))] (B r))∧(∀ (a0:Ft) (b0:List Int) (r:Bool),impl_hasOp_1N n a0 b0=some r→Sat ag 132 [((ao false) a0),.ptr (.sl false 1 (b0.map I))] (B r)):=by
 induction n with
 | zero=>exact⟨fun _ _ _ h=>by simp[impl_hasOpN] at h,fun _ _ _ h=>by simp[impl_hasOp_1N] at h⟩
 | succ n ih=>
  refine⟨fun a0 a1 r h=>?_,fun a0 b0 r h=>?_⟩
  ·obtain⟨h,cs⟩:=aq h
   rw[impl_hasOpN] at h
   refine ar 15 [.tmp 4] Tryz.func89 (h:=S ?_)
   refine run_bk h fun v8 q h=>aj [false,false] (slices_Contains_Sint_int_sat q) (S ?_)
   refine ai cs h (fun cs h=>S ?_) fun cs h=>S ?_
   ·exact am h
   ·refine MfH.fr (S ?_)
    refine run_bk h fun v13 q h=>aj [false,false] (slices_ContainsFunc_Simpl_Formula_impl_Formula_sat (fun _ _ hh=>ih.2 _ _ _ hh) (by simp only[CapsOk_nil,CapsOk_cons]) q) (S ?_)
    exact am h
  ·obtain⟨h,cs⟩:=aq h
   rw[impl_hasOp_1N] at h
   refine ar 7 [.tmp 3] Tryz.func132 (h:=S ?_)
   refine run_bk h fun v6 q h=>aj [false,false] (ih.1 _ _ _ q) (S ?_)
   exact am h
theorem impl_hasOp_sat{a0:Ft}{a1:List Int}{r:Bool}(h:impl_hasOp a0 a1=some r):Sat ag 89 [((ao false) a0),(.sl false 1 (a1.map I))] (B r):=by
 obtain⟨n,hn⟩:=lim_some h
 exact(impl_hasOpN_sat n).1 _ _ _ hn
theorem impl_hasOp_1_sat{a0:Ft}{b0:List Int}{r:Bool}(h:impl_hasOp_1 a0 b0=some r):Sat ag 132 [((ao false) a0),.ptr (.sl false 1 (b0.map I))] (B r):=by
 obtain⟨n,hn⟩:=lim_some h
 exact(impl_hasOpN_sat n).2 _ _ _ hn

theorem impl_IsHerbrandFormula_sat{a0:Ft}  {r:Bool}(h:impl_IsHerbrandFormula a0=some r):Sat ag 51 [((ao false) a0)] (B r):=by
 obtain⟨h,cs⟩:=aq h
 unfold impl_IsHerbrandFormula at h
 refine ar 34 [.tmp 2] Tryz.func51 (h:=S ?_)
 refine run_bk h fun v6 q h=>aj [false] (impl_IsValidFormula_sat q) (S ?_)
 refine ai cs h (fun cs h=>S ?_) fun cs h=>S ?_
 refine run_bk h fun v10 q h=>aj [false] (impl_free_sat q) (S ?_)
 refine ai cs h (fun cs h=>S ?_) fun cs h=>S ?_
 rotate_left
 refine run_bk h fun v16 q h=>aj [false] (impl_prefix_sat q) (S ?_)
 obtain⟨v20,hv20,h⟩:=run_bind h
 refine CallH.io0 [(.own 256)] [(256,(1,v20.2.map Sx))] (slices_SortS_sat hv20) SC (S ?_)
 refine run_bk h fun v22 q h=>aj [false] (slices_Clone_Sstring_string_sat q) (S ?_)
 refine run_bk h fun v23 q h=>aj [true] (slices_CompactS_sat q) (S ?_)
 refine ai cs h (fun cs h=>S ?_) fun cs h=>S ?_
 ·refine run_bk h fun v31 q h=>aj [false,false] (impl_hasOp_sat q) (S ?_)
  exact am h
 all_goals
  exact am h

theorem impl_isGroundTerm_sat{a0:Tt}  {r:Bool}(h:impl_isGroundTerm a0=some r):Sat ag 55 [((ah false) a0)] (B r):=by
 obtain⟨h,cs⟩:=aq h
 unfold impl_isGroundTerm at h
 refine ar 11 [.tmp 2] Tryz.func55 (h:=S ?_)
 refine run_bk h fun v4 q h=>aj [false] (impl_IsValidTerm_sat q) (S ?_)
 refine ai cs h (fun cs h=>S ?_) fun cs h=>S ?_
 ·refine run_bk h fun v7 q h=>aj [true,false] (impl_collect_sat q) (S ?_)
  exact am h
 ·exact am h

theorem impl_HerbrandDisjunction_1_sat{a0:Tt}  {r:Bool}(h:impl_HerbrandDisjunction_1 a0=some r):Sat ag 54 [((ah false) a0)] (B r):=by
 obtain⟨h,cs⟩:=aq h
 unfold impl_HerbrandDisjunction_1 at h
 refine ar 6 [.tmp 2] Tryz.func54 (h:=S ?_)
 refine run_bk h fun v4 q h=>aj [false] (impl_isGroundTerm_sat q) (S ?_)
 exact am h

theorem impl_copyTermN_sat(n:Nat):(∀ (a0:Tt) (r:Tt),impl_copyTermN n a0=some r→Sat ag 101 [((ah false) a0)] ((ah true) r))∧(∀ (a0:List Tt) (r:List Tt),impl_copyTermsN n a0=some r→Sat ag 138 [(.sl false 2 (a0.map (ah false)))] (.sl true 2 (r.map (ah true)))):=by
 induction n with
 | zero=>exact⟨fun _ _ h=>by simp[impl_copyTermN] at h,fun _ _ h=>by simp[impl_copyTermsN] at h⟩
 | succ n ih=>
  refine⟨fun a0 r h=>?_,fun a0 r h=>?_⟩
  ·obtain⟨h,cs⟩:=aq h
   rw[impl_copyTermN] at h
   refine ar 9 [.cell 2 36] Tryz.func101 (h:=S ?_)
   refine run_bk h fun v7 q h=>aj [false] (ih.2 _ _ q) (S ?_)
   refine ae (aO [] [112]) (S ?_)
   exact am h
  ·obtain⟨h,cs⟩:=aq h
   rw[impl_copyTermsN] at h
   refine ar 26 [.tmp 2] Tryz.func138 (h:=S ?_)
   refine ai cs h (fun cs h=>S ?_) fun cs h=>S ?_
   ·exact am h
   ·refine run_bk h fun n11 q h=>MknH.mk q (S ?_)
    refine aN (b:=false) (sz:=2) (es:=a0.map (ah false)) 0 SC fun hl0=>?_; rw[aC] at hl0
    refine aJ (run_loop h) (fun i5 s5=>[(3,.val (.own 176)),(12,.val (.pv (.sl false 2 (a0.map (ah false))))),(13,.val (.pv (I (a0.length:Int)))),(14,.val (.pv (I (i5:Int))))]) (fun i5 s5=>[(176,(2,s5.map (ah true)))]) (az SC) (fun i5 s5 hi h=>?_) (fun s5 h=>?_)
    ·have w:=wrap_s2 i5
     refine S ?_
     refine aH cs fun cs=>S ?_
     refine run_bk h fun v17 q h=>aA (ah false) q (S ?_)
     refine run_bk h fun v22 q h=>aj [false] (ih.1 _ _ q) (S ?_)
     refine run_bk h fun v23 q h=>aA (ah true) q (S ?_)
     refine run_bk h fun w3 q h=>EldH.c (ah true) q (S ?_)
     exact aL h
    ·refine S ?_
     refine aI cs fun cs=>S ?_
     exact am h
theorem impl_copyTerm_sat{a0:Tt}{r:Tt}(h:impl_copyTerm a0=some r):Sat ag 101 [((ah false) a0)] ((ah true) r):=by
 obtain⟨n,hn⟩:=lim_some h
 exact(impl_copyTermN_sat n).1 _ _ hn
theorem impl_copyTerms_sat{a0:List Tt}{r:List Tt}(h:impl_copyTerms a0=some r):Sat ag 138 [(.sl false 2 (a0.map (ah false)))] (.sl true 2 (r.map (ah true))):=by
 obtain⟨n,hn⟩:=lim_some h
 exact(impl_copyTermN_sat n).2 _ _ hn

theorem impl_replaceVarsN_sat(n:Nat):(∀ (a0:Tt) (a1:GMap Tt) (r:Tt),impl_replaceVarsN n a0 a1=some r→Sat ag 94 [((ah false) a0),((GMap.pv (ah false)) a1)] ((ah true) r)):=by
 induction n with
 | zero=>exact fun _ _ _ h=>by simp[impl_replaceVarsN] at h
 | succ n ih=>
  refine fun a0 a1 r h=>?_
  obtain⟨h,cs⟩:=aq h
  rw[impl_replaceVarsN] at h
  refine ar 46 [.cell 4 36] Tryz.func94 (h:=S ?_)
  refine HandH.vlookupOk (E:=36) (m:=a1) (f:=(ah false)) (k:=a0.Name) (z0:=(Tt.mk ⟨#[]⟩ ([]))) mt_85 mz_36 SC (S ?_)
  refine ai cs h (fun cs h=>S ?_) fun cs h=>S ?_
  ·refine ai cs h (fun cs h=>S ?_) fun cs h=>S ?_
   ·refine run_bk h fun v25 q h=>aj [false] (impl_copyTerm_sat q) (S ?_)
    exact am h
   ·refine aN (b:=false) (sz:=2) (es:=a0.Args.map (ah false)) 20 SC fun hl20=>?_; rw[aC] at hl20
    refine aJ (run_loop h) (fun i6 s6=>[(1,.val (.pv ((GMap.pv (ah false)) a1))),(4,.box zab1),(7,.box (.node [(.pv (Sx a0.Name)),(.own 9318)])),(30,.val (.pv (.sl false 2 (a0.Args.map (ah false))))),(31,.val (.pv (I (a0.Args.length:Int)))),(32,.val (.pv (I (i6:Int))))]) (fun i6 s6=>[(9318,(2,s6.map (ah true)))]) (bz (St.le_nilB (x:=(.node [(.pv (Sx a0.Name)),(.pv (.sl true 2 []))])) 7 [1] 9318 2 NM SC SC SC) (az SC)) (fun i6 s6 hi h=>?_) (fun s6 h=>?_)
    ·have w:=wrap_s2 i6
     refine S ?_
     refine aH cs fun cs=>S ?_
     refine run_bk h fun v34 q h=>aA (ah false) q (S ?_)
     refine run_bk h fun v40 q h=>aj [false,false] (ih _ _ _ q) (S ?_)
     refine run_bk h fun v42 q h=>aP (ah true) (fun a=>Tt.psize _ a) q (S ?_)
     refine ae (aO [] [640,656,672]) (S ?_)
     have h:=run_some h
     refine a7 ⟨_,h,?_⟩
     refine bk 672 9318 ?_
     exact az SWx
    ·refine S ?_
     refine aI cs fun cs=>S ?_
     exact am h
  ·refine aN (b:=false) (sz:=2) (es:=a0.Args.map (ah false)) 30 SC fun hl30=>?_; rw[aC] at hl30
   refine aJ (run_loop h) (fun i6 s6=>[(1,.val (.pv ((GMap.pv (ah false)) a1))),(4,.box zab1),(7,.box (.node [(.pv (Sx a0.Name)),(.own 9318)])),(30,.val (.pv (.sl false 2 (a0.Args.map (ah false))))),(31,.val (.pv (I (a0.Args.length:Int)))),(32,.val (.pv (I (i6:Int))))]) (fun i6 s6=>[(9318,(2,s6.map (ah true)))]) (bz (St.le_nilB (x:=(.node [(.pv (Sx a0.Name)),(.pv (.sl true 2 []))])) 7 [1] 9318 2 NM SC SC SC) (az SC)) (fun i6 s6 hi h=>?_) (fun s6 h=>?_)
   ·have w:=wrap_s2 i6
    refine S ?_
    refine aH cs fun cs=>S ?_
    refine run_bk h fun v34 q h=>aA (ah false) q (S ?_)
    refine run_bk h fun v40 q h=>aj [false,false] (ih _ _ _ q) (S ?_)
    refine run_bk h fun v42 q h=>aP (ah true) (fun a=>Tt.psize _ a) q (S ?_)
    refine ae (aO [] [640,656,672]) (S ?_)
    have h:=run_some h
    refine a7 ⟨_,h,?_⟩
    refine bk 672 9318 ?_
    exact az SWx
   ·refine S ?_
    refine aI cs fun cs=>S ?_
    exact am h
theorem impl_replaceVars_sat{a0:Tt}{a1:GMap Tt}{r:Tt}(h:impl_replaceVars a0 a1=some r):Sat ag 94 [((ah false) a0),((GMap.pv (ah false)) a1)] ((ah true) r):=by
 obtain⟨n,hn⟩:=lim_some h
 exact(impl_replaceVarsN_sat n) _ _ _ hn

theorem impl_atomOf_sat{a0:Tt}  {r:Ft}(h:impl_atomOf a0=some r):Sat ag 93 [((ah false) a0)] ((ao false) r):=by
 obtain⟨h,cs⟩:=aq h
 unfold impl_atomOf at h
 refine ar 5 [.cell 2 39] Tryz.func93 (h:=S ?_)
 exact bd h

theorem impl_mapParts_sat{a0:Ft}{a1:Ft→Option Ft}{a1_id:FuncId}{a1_cs:List PV}(a1_ok:∀ y0 r,a1 y0=some r→Sat ag a1_id (((ao false) y0)::a1_cs) ((ao true) r))(a1_cz:CapsOk a1_cs=True){r:Ft}(h:impl_mapParts a0 a1=some r):Sat ag 95 [((ao false) a0),.clo a1_id a1_cs] ((ao true) r):=by
 obtain⟨h,cs⟩:=aq h
 unfold impl_mapParts at h
 have cs:=ae a1_cz cs
 refine ar 33 [.cell 4 39] Tryz.func95 (h:=S ?_)
 refine run_bk h fun v12 q h=>aj [false] (impl_copyTerm_sat q) (S ?_)
 refine ae (aO [5] [192]) (S ?_)
 refine aN (b:=false) (sz:=5) (es:=a0.Parts.map (ao false)) 17 SC fun hl17=>?_; rw[aC] at hl17
 refine aJ (run_loop h) (fun i3 s3=>[(1,.val (.pv (.clo a1_id a1_cs))),(4,.box zab0),(5,.box (.node [(.pv (I a0.Op)),(.node [(.pv (Sx v12.Name)),(.own 192)]),(.pv (Sx a0.Var)),(.own 9309)])),(17,.val (.pv (.sl false 5 (a0.Parts.map (ao false))))),(18,.val (.pv (I (a0.Parts.length:Int)))),(19,.val (.pv (I (i3:Int))))]) (fun i3 s3=>[(192,(2,v12.Args.map (ah true))),(9309,(5,s3.map (ao true)))]) (bz (St.le_nilB (x:=(.node [(.pv (I a0.Op)),(.node [(.pv (Sx v12.Name)),(.own 192)]),(.pv (Sx a0.Var)),(.pv (.sl true 5 []))])) 5 [3] 9309 5 NM SC SC SC) (az SC)) (fun i3 s3 hi h=>?_) (fun s3 h=>?_)
 ·have w:=wrap_s2 i3
  refine S ?_
  refine aH cs fun cs=>S ?_
  refine run_bk h fun v21 q h=>aA (ao false) q (S ?_)
  refine run_bk h fun v27 q h=>aj [false] (a1_ok _ _ q) (S ?_)
  refine run_bk h fun v29 q h=>aP (ao true) (fun a=>Ft.psize _ a) q (S ?_)
  refine ae (aO [] [432,433,448,464]) (S ?_)
  have h:=run_some h
  refine a7 ⟨_,h,?_⟩
  refine bk 464 9309 ?_
  exact az SWx
 ·refine S ?_
  refine aI cs fun cs=>S ?_
  exact am h

theorem impl_atomOf_o0_sat{a0:Tt}  {r:Ft}(h:impl_atomOf a0=some r):Sat ag 93 [((ah true) a0)] ((ao true) r):=by
 obtain⟨h,cs⟩:=aq h
 unfold impl_atomOf at h
 refine ar 5 [.cell 2 39] Tryz.func93 (h:=S ?_)
 exact am h

theorem impl_instanceN_sat(n:Nat):(∀ (a0:Ft) (a1:GMap Tt) (r:Ft),impl_instanceN n a0 a1=some r→Sat ag 56 [((ao false) a0),((GMap.pv (ah false)) a1)] ((ao true) r))∧(∀ (a0:Ft) (b0:GMap Tt) (r:Ft),impl_instance_1N n a0 b0=some r→Sat ag 96 [((ao false) a0),.ptr ((GMap.pv (ah false)) b0)] ((ao true) r)):=by
 induction n with
 | zero=>exact⟨fun _ _ _ h=>by simp[impl_instanceN] at h,fun _ _ _ h=>by simp[impl_instance_1N] at h⟩
 | succ n ih=>
  refine⟨fun a0 a1 r h=>?_,fun a0 b0 r h=>?_⟩
  ·obtain⟨h,cs⟩:=aq h
   rw[impl_instanceN] at h
   refine ar 16 [.cell 4 39] Tryz.func56 (h:=S ?_)
   refine ai cs h (fun cs h=>S ?_) fun cs h=>S ?_
   ·refine run_bk h fun v11 q h=>aj [false,false] (impl_replaceVars_sat q) (S ?_)
    refine run_bk h fun v12 q h=>aj [true] (impl_atomOf_o0_sat q) (S ?_)
    exact am h
   ·refine MfH.fr (S ?_)
    refine run_bk h fun v15 q h=>aj [false,false] (impl_mapParts_sat (fun _ _ hh=>ih.2 _ _ _ hh) (by simp only[CapsOk_nil,CapsOk_cons]) q) (S ?_)
    exact am h
  ·obtain⟨h,cs⟩:=aq h
   rw[impl_instance_1N] at h
   refine ar 7 [.cell 3 39] Tryz.func96 (h:=S ?_)
   refine run_bk h fun v6 q h=>aj [false,false] (ih.1 _ _ _ q) (S ?_)
   exact am h
theorem impl_instance_sat{a0:Ft}{a1:GMap Tt}{r:Ft}(h:impl_instance a0 a1=some r):Sat ag 56 [((ao false) a0),((GMap.pv (ah false)) a1)] ((ao true) r):=by
 obtain⟨n,hn⟩:=lim_some h
 exact(impl_instanceN_sat n).1 _ _ _ hn
theorem impl_instance_1_sat{a0:Ft}{b0:GMap Tt}{r:Ft}(h:impl_instance_1 a0 b0=some r):Sat ag 96 [((ao false) a0),.ptr ((GMap.pv (ah false)) b0)] ((ao true) r):=by
 obtain⟨n,hn⟩:=lim_some h
 exact(impl_instanceN_sat n).2 _ _ _ hn

theorem impl_binary_sat{a0:Int}{a1:Ft}{a2:Ft}  {r:Ft}(h:impl_binary a0 a1 a2=some r):Sat ag 98 [(I a0),((ao false) a1),((ao false) a2)] ((ao false) r):=by
 obtain⟨h,cs⟩:=aq h
 unfold impl_binary at h
 refine ar 12 [.cell 6 39] Tryz.func98 (h:=S ?_)
 exact bd h

theorem impl_combined_sat{a0:Int}{a1:List Ft}{a2:Ft}{r:Ft}(h:impl_combined a0 a1 a2=some r):Sat ag 58 [I a0,.sl false 5 (a1.map (ao false)),ao false a2] (ao false r):=by
 cases h
 exact comb_sat (fun f o=>(impl_binary a0 f o).getD default) a0 (fun f o=>by obtain⟨r,hr⟩:∃ r,impl_binary a0 f o=some r:=⟨_,rfl⟩; rw[hr]; exact impl_binary_sat hr) a1 a2

theorem impl_ifFormula_sat{a0:Ft}  {r:Ft×Bool}(h:impl_ifFormula a0=some r):Sat ag 57 [((ao false) a0)] (.tup [((ao false) r.1),(B r.2)]):=by
 obtain⟨h,cs⟩:=aq h
 unfold impl_ifFormula at h
 refine ar 9 [.cell 2 39,.tmp 3] Tryz.func57 (h:=S ?_)
 refine run_bk h fun v5 q h=>aj [false] (impl_IsValidFormula_sat q) (S ?_)
 refine ai cs h (fun cs h=>S ?_) fun cs h=>S ?_
 ·exact bd h
 ·exact bd h

end Go.Proofs.YtfchaodlnddkpaaGreat
