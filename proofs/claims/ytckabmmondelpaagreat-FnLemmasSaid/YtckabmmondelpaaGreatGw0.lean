/- Lemmas of the proof; each says what it shows. -/
import Derived.Test.YtckabmmondelpaaGreatGm
import Derived.Test.YtckabmmondelpaaGreatGf
import Derived.Test.YtckabmmondelpaaGreatGsrt
import Derived.Test.YtckabmmondelpaaGreatGbk
import Derived.Test.YtckabmmondelpaaGreatGsf
set_option linter.unusedSimpArgs false
set_option linter.unusedVariables false
set_option linter.defProp false
set_option maxRecDepth 4000
namespace Go.Proofs.YtckabmmondelpaaGreat
open Go.Av
open And renaming intro→ae
open AppH renaming c→aK
open CallH renaming c→ak
open CondH renaming run→ag,t3→aE,f3→aF
open Ft renaming pv→al
open HandH renaming call→aC
open IdxH renaming c→am
open List renaming length_map→aw,nil_append→bh
open Mg renaming forN→aH,know_sl→aV
open Nat renaming le_of_ble_eq_true→aR
open PV renaming views→az
open RdH renaming mk→aZ,z→aI
open RetHB renaming l→aO
open SappH renaming mk→bz
open SidxH renaming mk→aW
open St renaming le_trans→bn
open Tryz renaming prog→ai
open Tt renaming pv→aj,psize→bt
open la renaming pv→ao
set_option maxHeartbeats 4000000
theorem vBs_{a0:List Int}  {r:Bool}(h:vBig a0=some r):Sat ai 4 [(.sl false 1 (a0.map (Ik .u8)))] (B r):=by
 obtain⟨h,cs⟩:=Ro_ h
 unfold vBig at h
 refine Sg_ 6 [.tmp 2] Tryz.func4 (h:=S ?_)
 exact FHz_ h

theorem slC_28{a0:la}  {r:Int×la}(h:slC_19 a0=some r):SatH ai 38 [] [] .ptr [] (.pv ((ao false) a0)) (.pv ((ao false) r.2)) (I r.1):=by
 obtain⟨h,cs⟩:=Ro_ h
 unfold slC_19 at h
 refine SHo_ (nt:=62) (rs:=[.tmp 2]) (n:=100000) 0 Tryz.func38 rfl rfl rfl rfl rfl (aR rfl) (by decide) (by first | exact aR rfl | exact SC) (S ?_)
 refine ae (DHa_ [] []) (S ?_)
 refine ag cs h (fun cs h=>S ?_) fun cs h=>S ?_
 refine rb_ h fun v22 q h=>am (Ik .u8) q (S ?_)
 refine ae (DHa_ [] []) (S ?_)
 refine ae (DHa_ [] []) (S ?_)
 refine ag cs h (fun cs h=>S ?_) fun cs h=>S ?_
 rotate_left 2
 refine ae (DHa_ [] []) (S ?_)
 refine ag cs h (fun cs h=>S ?_) fun cs h=>S ?_
 ·cases rs_ h
  exact aO SC
 rotate_left
 ·cases rs_ h
  exact aO SC
 all_goals
  refine rb_ h fun v59 q h=>ShrH.mk q (S ?_)
  cases rs_ h
  exact aO SC

theorem slC_1{a0:la}{a1:Int}  {r:Int×la}(h:slC_ a0 a1=some r):SatH ai 14 [] [(I a1)] .ptr [] (.pv ((ao false) a0)) (.pv ((ao false) r.2)) (I r.1):=by
 obtain⟨h,cs⟩:=Ro_ h
 unfold slC_ at h
 refine SHo_ (nt:=20) (rs:=[.tmp 4]) (n:=100000) 0 Tryz.func14 rfl rfl rfl rfl rfl (aR rfl) (by decide) (by first | exact aR rfl | exact SC) (S ?_)
 refine ag cs h (fun cs h=>S ?_) fun cs h=>S ?_
 ·cases rs_ h
  exact aO SC
 ·obtain⟨v9,hv9,h⟩:=rb_1 h
  refine aC (r:=0) (hc:=.cv (.pv ((ao false) a0))) 0 [] [] [] [] [] (slC_28 hv9) rfl rfl rfl SC (S ?_)
  refine ag cs h (fun cs h=>S ?_) fun cs h=>S ?_
  ·obtain⟨v15,hv15,h⟩:=rb_1 h
   refine aC (r:=0) (hc:=.cv (.pv ((ao false) v9.2))) 0 [] [] [] [] [] (slC_28 hv15) rfl rfl rfl SC (S ?_)
   refine rb_ h fun v19 q h=>remH.mk q (S ?_)
   cases rs_ h
   exact aO SC
  ·refine rb_ h fun v19 q h=>remH.mk q (S ?_)
   cases rs_ h
   exact aO SC

theorem slS_1{a0:ByteArray}{a1:Int}{a2:ByteArray}  {r:Bool}(h:slS_ a0 a1 a2=some r):Sat ai 91 [(Sx a0),(I a1),(Sx a2)] (B r):=by
 obtain⟨h,cs⟩:=Ro_ h
 unfold slS_ at h
 refine Sg_ 25 [.tmp 6] Tryz.func91 (h:=S ?_)
 refine ag cs h (fun cs h=>S ?_) fun cs h=>S ?_
 ·refine rb_ h fun v21 q h=>SslcH.mk q (S ?_)
  exact FHz_ h
 ·exact FHz_ h

theorem slS_8{a0:Int}  {r:Bool}(h:slS_3 a0=some r):Sat ai 88 [((Ik .u8) a0)] (B r):=by
 obtain⟨h,cs⟩:=Ro_ h
 unfold slS_3 at h
 refine Sg_ 17 [.tmp 2] Tryz.func88 (h:=S ?_)
 refine ag cs h (fun cs h=>S ?_) fun cs h=>S ?_
 refine ag cs h (fun cs h=>S ?_) fun cs h=>S ?_
 rotate_left
 refine ag cs h (fun cs h=>S ?_) fun cs h=>S ?_
 rotate_left 2
 refine ag cs h (fun cs h=>S ?_) fun cs h=>S ?_
 all_goals
  exact FHz_ h

theorem slW_2{a0:Int}  {r:Bool}(h:slW_ a0=some r):Sat ai 149 [((Ik .u8) a0)] (B r):=by
 obtain⟨h,cs⟩:=Ro_ h
 unfold slW_ at h
 refine Sg_ 17 [.tmp 2] Tryz.func149 (h:=S ?_)
 refine rb_ h fun v4 q h=>ak [false] (slS_8 q) (S ?_)
 refine ag cs h (fun cs h=>S ?_) fun cs h=>S ?_
 ·exact FHz_ h
 ·refine ag cs h (fun cs h=>S ?_) fun cs h=>S ?_
  refine ag cs h (fun cs h=>S ?_) fun cs h=>S ?_
  all_goals
   exact FHz_ h

theorem slR_8(n:Nat):(∀ (a0:ByteArray) (a1:Int) (r:Tt×Int),slR_1 n a0 a1=some r→Sat ai 150 [(Sx a0),(I a1)] (.tup [((aj true) r.1),(I r.2)])):=by
 induction n with
 | zero=>exact fun _ _ _ h=>by simp[slR_1] at h
 | succ n ih=>
  refine fun a0 a1 r h=>?_
  obtain⟨h,cs⟩:=Ro_ h
  rw[slR_1] at h
  refine Sg_ 86 [.cell 4 26,.tmp 5] Tryz.func150 (h:=S ?_)
  replace h:=rl_ h
  refine Mg.whileN h (fun s2=>[(0,.val (.pv (Sx a0))),(1,.val (.pv (I a1))),(4,.box zab1),(6,.val (.pv (I s2)))]) (fun s2=>[]) (Slm_ SC) (fun n2 s2 h=>?_)
  refine S ?_
  refine ag cs h (fun cs h=>S ?_) fun cs h=>S ?_
  refine rb_ h fun v18 q h=>aW q (S ?_)
  refine rb_ h fun v19 q h=>ak [false] (slW_2 q) (S ?_)
  refine ag cs h (fun cs h=>S ?_) fun cs h=>S ?_
  rotate_left
  have h:=rs_ h
  refine rb_ h fun v26 q h=>SslcH.mk q (S ?_)
  refine ag cs h (fun cs h=>S ?_) fun cs h=>S ?_
  rotate_left
  refine ag cs h (fun cs h=>S ?_) fun cs h=>S ?_
  rotate_left
  refine rb_ h fun v39 q h=>aW q (S ?_)
  refine ag cs h (fun cs h=>S ?_) fun cs h=>S ?_
  replace h:=rl_ h
  refine Mg.whileN h (fun s9=>[(0,.val (.pv (Sx a0))),(4,.box zab1),(6,.val (.pv (I s9.1))),(7,.box (.node [(.pv (Sx v26)),(.own 9327)]))]) (fun s9=>[(9327,(2,s9.2.map (aj true)))]) (bn (Sln_ (x:=(.node [(.pv (Sx v26)),(.pv (.sl true 2 []))])) 7 [1] 9327 2 NM SC SC SC) (Slm_ SC)) (fun n9 s9 h=>?_)
  refine S ?_
  refine rb_ h fun v48 q h=>ak [false,false] (ih _ _ _ q) (S ?_)
  refine ag cs h (fun cs h=>S ?_) fun cs h=>S ?_
  rotate_left
  refine ag cs h (fun cs h=>S ?_) fun cs h=>S ?_
  rotate_left
  refine rb_ h fun v62 q h=>aW q (S ?_)
  refine ag cs h (fun cs h=>S ?_) fun cs h=>S ?_
  refine rb_ h fun v76 q h=>aK (aj true) (fun a=>bt _ a) q (S ?_)
  refine rb_ h fun v81 q h=>aW q (S ?_)
  refine ag cs h (fun cs h=>S ?_) fun cs h=>S ?_
  rotate_left 2
  refine rb_ h fun v67 q h=>aW q (S ?_)
  refine ag cs h (fun cs h=>S ?_) fun cs h=>S ?_
  refine rb_ h fun v76 q h=>aK (aj true) (fun a=>bt _ a) q (S ?_)
  refine rb_ h fun v81 q h=>aW q (S ?_)
  refine ag cs h (fun cs h=>S ?_) fun cs h=>S ?_
  rotate_left 4
  have h:=rs_ h
  refine rb_ h fun v26 q h=>SslcH.mk q (S ?_)
  refine ag cs h (fun cs h=>S ?_) fun cs h=>S ?_
  rotate_left
  refine ag cs h (fun cs h=>S ?_) fun cs h=>S ?_
  rotate_left
  refine rb_ h fun v39 q h=>aW q (S ?_)
  refine ag cs h (fun cs h=>S ?_) fun cs h=>S ?_
  replace h:=rl_ h
  refine Mg.whileN h (fun s9=>[(0,.val (.pv (Sx a0))),(4,.box zab1),(6,.val (.pv (I s9.1))),(7,.box (.node [(.pv (Sx v26)),(.own 9327)]))]) (fun s9=>[(9327,(2,s9.2.map (aj true)))]) (bn (Sln_ (x:=(.node [(.pv (Sx v26)),(.pv (.sl true 2 []))])) 7 [1] 9327 2 NM SC SC SC) (Slm_ SC)) (fun n9 s9 h=>?_)
  refine S ?_
  refine rb_ h fun v48 q h=>ak [false,false] (ih _ _ _ q) (S ?_)
  refine ag cs h (fun cs h=>S ?_) fun cs h=>S ?_
  rotate_left
  refine ag cs h (fun cs h=>S ?_) fun cs h=>S ?_
  rotate_left
  refine rb_ h fun v62 q h=>aW q (S ?_)
  refine ag cs h (fun cs h=>S ?_) fun cs h=>S ?_
  refine rb_ h fun v76 q h=>aK (aj true) (fun a=>bt _ a) q (S ?_)
  refine rb_ h fun v81 q h=>aW q (S ?_)
  refine ag cs h (fun cs h=>S ?_) fun cs h=>S ?_
  rotate_left 2
  refine rb_ h fun v67 q h=>aW q (S ?_)
  refine ag cs h (fun cs h=>S ?_) fun cs h=>S ?_
  refine rb_ h fun v76 q h=>aK (aj true) (fun a=>bt _ a) q (S ?_)
  refine rb_ h fun v81 q h=>aW q (S ?_)
  refine ag cs h (fun cs h=>S ?_) fun cs h=>S ?_
  ·exact FHz_ h
  rotate_left
  ·exact FHz_ h
  ·exact FHz_ h
  ·have h:=rs_ h
   refine aZ ⟨_,h,?_⟩
   exact Slm_ SC
  ·exact FHz_ h
  ·exact FHz_ h
  ·exact FHz_ h
  ·exact FHz_ h
  ·exact FHz_ h
  rotate_left
  ·exact FHz_ h
  rotate_left
  ·exact FHz_ h
  ·exact FHz_ h
  ·exact FHz_ h
  ·exact FHz_ h
  ·exact FHz_ h
  ·exact FHz_ h
  ·exact FHz_ h
  all_goals
   have h:=rs_ h
   refine aZ ⟨_,h,?_⟩
   refine Slr_ 1216 9327 ?_
   exact Slm_ SC
theorem slR_5{a0:ByteArray}{a1:Int}{r:Tt×Int}(h:slR_3 a0 a1=some r):Sat ai 150 [(Sx a0),(I a1)] (.tup [((aj true) r.1),(I r.2)]):=by
 obtain⟨n,hn⟩:=ls_ h
 exact(slR_8 n) _ _ _ hn

theorem slS_10{a0:ByteArray}{a1:Int}  {r:Ft×Int}(h:slS_5 a0 a1=some r):Sat ai 93 [(Sx a0),(I a1)] (.tup [((al true) r.1),(I r.2)]):=by
 obtain⟨h,cs⟩:=Ro_ h
 unfold slS_5 at h
 refine Sg_ 59 [.cell 4 29,.tmp 5] Tryz.func93 (h:=S ?_)
 refine rb_ h fun v13 q h=>ak [false,false] (slR_5 q) (S ?_)
 refine ag cs h (fun cs h=>S ?_) fun cs h=>S ?_
 ·exact FHz_ h
 ·refine rb_ h fun v21 q h=>ak [false,false,false] (slS_1 q) (S ?_)
  refine ag cs h (fun cs h=>S ?_) fun cs h=>S ?_
  ·refine rb_ h fun v26 q h=>ak [false,false] (slR_5 q) (S ?_)
   exact FHz_ h
  ·refine ag cs h (fun cs h=>S ?_) fun cs h=>S ?_
   refine ag cs h (fun cs h=>S ?_) fun cs h=>S ?_
   rotate_left
   refine ag cs h (fun cs h=>S ?_) fun cs h=>S ?_
   all_goals
    exact FHz_ h

theorem slR_4(n:Nat):(∀ (a0:ByteArray) (a1:Int) (r:Ft×Int),slR_ n a0 a1=some r→Sat ai 36 [(Sx a0),(I a1)] (.tup [((al true) r.1),(I r.2)]))∧(∀ (a0:ByteArray) (a1:Int) (a2:Int) (r:Ft×Int),slQ_ n a0 a1 a2=some r→Sat ai 92 [(Sx a0),(I a1),(I a2)] (.tup [((al true) r.1),(I r.2)]))∧(∀ (a0:ByteArray) (a1:Int) (r:Ft×Int),slP_1 n a0 a1=some r→Sat ai 94 [(Sx a0),(I a1)] (.tup [((al true) r.1),(I r.2)])):=by
 induction n with
 | zero=>exact⟨fun _ _ _ h=>by simp[slR_] at h,fun _ _ _ _ h=>by simp[slQ_] at h,fun _ _ _ h=>by simp[slP_1] at h⟩
 | succ n ih=>
  refine⟨fun a0 a1 r h=>?_,fun a0 a1 a2 r h=>?_,fun a0 a1 r h=>?_⟩
  ·obtain⟨h,cs⟩:=Ro_ h
   rw[slR_] at h
   refine Sg_ 106 [.cell 4 29,.tmp 5] Tryz.func36 (h:=S ?_)
   refine rb_ h fun v15 q h=>ak [false,false,false] (slS_1 q) (S ?_)
   refine ag cs h (fun cs h=>S ?_) fun cs h=>S ?_
   ·refine rb_ h fun v19 q h=>ak [false,false,false] (ih.2.1 _ _ _ _ q) (S ?_)
    exact FHz_ h
   ·refine rb_ h fun v25 q h=>ak [false,false,false] (slS_1 q) (S ?_)
    refine ag cs h (fun cs h=>S ?_) fun cs h=>S ?_
    ·refine rb_ h fun v29 q h=>ak [false,false,false] (ih.2.1 _ _ _ _ q) (S ?_)
     exact FHz_ h
    ·refine rb_ h fun v35 q h=>ak [false,false,false] (slS_1 q) (S ?_)
     refine ag cs h (fun cs h=>S ?_) fun cs h=>S ?_
     ·refine rb_ h fun v40 q h=>ak [false,false] (slS_10 q) (S ?_)
      refine ag cs h (fun cs h=>S ?_) fun cs h=>S ?_
      refine ag cs h (fun cs h=>S ?_) fun cs h=>S ?_
      refine ag cs h (fun cs h=>S ?_) fun cs h=>S ?_
      refine rb_ h fun v59 q h=>ak [false,false,false] (slS_1 q) (S ?_)
      refine ag cs h (fun cs h=>S ?_) fun cs h=>S ?_
      ·exact FHz_ h
      all_goals
       refine rb_ h fun v70 q h=>ak [false,false] (ih.2.2 _ _ _ q) (S ?_)
       exact FHz_ h
     ·refine rb_ h fun v80 q h=>ak [false,false,false] (slS_1 q) (S ?_)
      refine ag cs h (fun cs h=>S ?_) fun cs h=>S ?_
      ·refine rb_ h fun v85 q h=>ak [false,false] (ih.1 _ _ _ q) (S ?_)
       exact FHz_ h
      ·refine rb_ h fun v95 q h=>ak [false,false,false] (slS_1 q) (S ?_)
       refine ag cs h (fun cs h=>S ?_) fun cs h=>S ?_
       ·refine rb_ h fun v98 q h=>ak [false,false] (ih.2.2 _ _ _ q) (S ?_)
        exact FHz_ h
       ·refine rb_ h fun v103 q h=>ak [false,false] (slS_10 q) (S ?_)
        exact FHz_ h
  ·obtain⟨h,cs⟩:=Ro_ h
   rw[slQ_] at h
   refine Sg_ 51 [.cell 6 29,.tmp 7] Tryz.func92 (h:=S ?_)
   replace h:=rl_ h
   refine Mg.whileN h (fun s2=>[(0,.val (.pv (Sx a0))),(1,.val (.pv (I a1))),(2,.val (.pv (I a2))),(6,.box zab0),(8,.val (.pv (I s2)))]) (fun s2=>[]) (Slm_ SC) (fun n2 s2 h=>?_)
   refine S ?_
   refine ag cs h (fun cs h=>S ?_) fun cs h=>S ?_
   refine rb_ h fun v19 q h=>aW q (S ?_)
   refine rb_ h fun v20 q h=>ak [false] (slW_2 q) (S ?_)
   refine ag cs h (fun cs h=>S ?_) fun cs h=>S ?_
   rotate_left
   have h:=rs_ h
   refine ag cs h (fun cs h=>S ?_) fun cs h=>S ?_
   rotate_left
   refine rb_ h fun v31 q h=>aW q (S ?_)
   refine ag cs h (fun cs h=>S ?_) fun cs h=>S ?_
   rotate_left 2
   have h:=rs_ h
   refine ag cs h (fun cs h=>S ?_) fun cs h=>S ?_
   rotate_left
   refine rb_ h fun v31 q h=>aW q (S ?_)
   refine ag cs h (fun cs h=>S ?_) fun cs h=>S ?_
   rotate_left
   ·exact FHz_ h
   ·have h:=rs_ h
    refine aZ ⟨_,h,?_⟩
    exact Slm_ SC
   ·exact FHz_ h
   rotate_left
   ·exact FHz_ h
   ·exact FHz_ h
   all_goals
    refine rb_ h fun v39 q h=>ak [false,false] (ih.1 _ _ _ q) (S ?_)
    refine rb_ h fun v46 q h=>SslcH.mk q (S ?_)
    refine ae (DHa_ [] [768]) (S ?_)
    exact FHz_ h
  ·obtain⟨h,cs⟩:=Ro_ h
   rw[slP_1] at h
   refine Sg_ 65 [.cell 4 29,.tmp 5] Tryz.func94 (h:=S ?_)
   refine rb_ h fun v16 q h=>ak [false,false] (ih.1 _ _ _ q) (S ?_)
   refine ag cs h (fun cs h=>S ?_) fun cs h=>S ?_
   rotate_left
   refine rb_ h fun v26 q h=>ak [false,false,false] (slS_1 q) (S ?_)
   refine ag cs h (fun cs h=>S ?_) fun cs h=>S ?_
   refine rb_ h fun v40 q h=>ak [false,false] (ih.1 _ _ _ q) (S ?_)
   refine ag cs h (fun cs h=>S ?_) fun cs h=>S ?_
   rotate_left
   refine ag cs h (fun cs h=>S ?_) fun cs h=>S ?_
   rotate_left
   refine rb_ h fun v54 q h=>aW q (S ?_)
   refine ag cs h (fun cs h=>S ?_) fun cs h=>S ?_
   rotate_left 2
   refine rb_ h fun v30 q h=>ak [false,false,false] (slS_1 q) (S ?_)
   refine ag cs h (fun cs h=>S ?_) fun cs h=>S ?_
   refine rb_ h fun v40 q h=>ak [false,false] (ih.1 _ _ _ q) (S ?_)
   refine ag cs h (fun cs h=>S ?_) fun cs h=>S ?_
   rotate_left
   refine ag cs h (fun cs h=>S ?_) fun cs h=>S ?_
   rotate_left
   refine rb_ h fun v54 q h=>aW q (S ?_)
   refine ag cs h (fun cs h=>S ?_) fun cs h=>S ?_
   rotate_left 2
   refine rb_ h fun v34 q h=>ak [false,false,false] (slS_1 q) (S ?_)
   refine ag cs h (fun cs h=>S ?_) fun cs h=>S ?_
   refine rb_ h fun v40 q h=>ak [false,false] (ih.1 _ _ _ q) (S ?_)
   refine ag cs h (fun cs h=>S ?_) fun cs h=>S ?_
   rotate_left
   refine ag cs h (fun cs h=>S ?_) fun cs h=>S ?_
   rotate_left
   refine rb_ h fun v54 q h=>aW q (S ?_)
   refine ag cs h (fun cs h=>S ?_) fun cs h=>S ?_
   all_goals
    exact FHz_ h
theorem slR_9{a0:ByteArray}{a1:Int}{r:Ft×Int}(h:slR_7 a0 a1=some r):Sat ai 36 [(Sx a0),(I a1)] (.tup [((al true) r.1),(I r.2)]):=by
 obtain⟨n,hn⟩:=ls_ h
 exact(slR_4 n).1 _ _ _ hn
theorem slQ_2{a0:ByteArray}{a1:Int}{a2:Int}{r:Ft×Int}(h:slQ_1 a0 a1 a2=some r):Sat ai 92 [(Sx a0),(I a1),(I a2)] (.tup [((al true) r.1),(I r.2)]):=by
 obtain⟨n,hn⟩:=ls_ h
 exact(slR_4 n).2.1 _ _ _ _ hn
theorem slP_16{a0:ByteArray}{a1:Int}{r:Ft×Int}(h:slP_15 a0 a1=some r):Sat ai 94 [(Sx a0),(I a1)] (.tup [((al true) r.1),(I r.2)]):=by
 obtain⟨n,hn⟩:=ls_ h
 exact(slR_4 n).2.2 _ _ _ hn

theorem slM_5(n:Nat):(∀ (a0:Ft) (a1:Int) (r:Int),slM_ n a0 a1=some r→Sat ai 71 [((al false) a0),(I a1)] (I r)):=by
 induction n with
 | zero=>exact fun _ _ _ h=>by simp[slM_] at h
 | succ n ih=>
  refine fun a0 a1 r h=>?_
  obtain⟨h,cs⟩:=Ro_ h
  rw[slM_] at h
  refine Sg_ 31 [.tmp 4] Tryz.func71 (h:=S ?_)
  refine Mkv_ (b:=false) (sz:=5) (es:=a0.Parts.map (al false)) (x:=(.pv ((al false) a0))) 0 [3] SC fun hl0=>?_; rw[aw] at hl0
  refine aH (rl_ h) (fun i3 s3=>[(1,.val (.pv (I a1))),(2,.box (.pv ((al false) a0))),(5,.val (.pv (I s3))),(6,.val (.pv (I (i3:Int))))]) (fun i3 s3=>[]) (Slm_ SC) (fun i3 s3 hi h=>?_) (fun s3 h=>?_)
  ·have w:=ws_ i3
   refine S ?_
   refine aE cs fun cs=>S ?_
   refine ag cs h (fun cs h=>S ?_) fun cs h=>S ?_
   ·refine rb_ h fun v23 q h=>am (al false) q (S ?_)
    refine rb_ h fun v28 q h=>ak [false,false] (ih _ _ _ q) (S ?_)
    exact aI h
   ·exact FHz_ h
  ·refine S ?_
   refine aF cs fun cs=>S ?_
   exact FHz_ h
theorem slM_7{a0:Ft}{a1:Int}{r:Int}(h:slM_3 a0 a1=some r):Sat ai 71 [((al false) a0),(I a1)] (I r):=by
 obtain⟨n,hn⟩:=ls_ h
 exact(slM_5 n) _ _ _ hn

theorem slN_{a0:Tt}  {r:Bool}(h:slN_1 a0=some r):Sat ai 174 [((aj false) a0)] (B r):=by
 obtain⟨h,cs⟩:=Ro_ h
 unfold slN_1 at h
 refine Sg_ 12 [.tmp 2] Tryz.func174 (h:=S ?_)
 refine ag cs h (fun cs h=>S ?_) fun cs h=>S ?_
 ·exact FHz_ h
 ·exact FHz_ h

theorem slM_6(n:Nat):(∀ (a0:Tt) (a1:Int) (r:Int),slM_1 n a0 a1=some r→Sat ai 147 [((aj false) a0),(I a1)] (I r)):=by
 induction n with
 | zero=>exact fun _ _ _ h=>by simp[slM_1] at h
 | succ n ih=>
  refine fun a0 a1 r h=>?_
  obtain⟨h,cs⟩:=Ro_ h
  rw[slM_1] at h
  refine Sg_ 31 [.tmp 4] Tryz.func147 (h:=S ?_)
  refine Mkv_ (b:=false) (sz:=2) (es:=a0.Args.map (aj false)) (x:=(.pv ((aj false) a0))) 0 [1] SC fun hl0=>?_; rw[aw] at hl0
  refine aH (rl_ h) (fun i3 s3=>[(1,.val (.pv (I a1))),(2,.box (.pv ((aj false) a0))),(5,.val (.pv (I s3))),(6,.val (.pv (I (i3:Int))))]) (fun i3 s3=>[]) (Slm_ SC) (fun i3 s3 hi h=>?_) (fun s3 h=>?_)
  ·have w:=ws_ i3
   refine S ?_
   refine aE cs fun cs=>S ?_
   refine ag cs h (fun cs h=>S ?_) fun cs h=>S ?_
   ·refine rb_ h fun v23 q h=>am (aj false) q (S ?_)
    refine rb_ h fun v28 q h=>ak [false,false] (ih _ _ _ q) (S ?_)
    exact aI h
   ·exact FHz_ h
  ·refine S ?_
   refine aF cs fun cs=>S ?_
   exact FHz_ h
theorem slM_8{a0:Tt}{a1:Int}{r:Int}(h:slM_4 a0 a1=some r):Sat ai 147 [((aj false) a0),(I a1)] (I r):=by
 obtain⟨n,hn⟩:=ls_ h
 exact(slM_6 n) _ _ _ hn

theorem slM_9{a0:Int}{a1:Int}  {r:Int}(h:slM_2 a0 a1=some r):Sat ai 189 [(I a0),(I a1)] (I r):=by
 obtain⟨h,cs⟩:=Ro_ h
 unfold slM_2 at h
 refine Sg_ 10 [.tmp 4] Tryz.func189 (h:=S ?_)
 refine ag cs h (fun cs h=>S ?_) fun cs h=>S ?_
 ·exact FHz_ h
 ·exact FHz_ h

theorem slD_2(n:Nat):(∀ (a0:Tt) (r:Int),slD_ n a0=some r→Sat ai 148 [((aj false) a0)] (I r)):=by
 induction n with
 | zero=>exact fun _ _ h=>by simp[slD_] at h
 | succ n ih=>
  refine fun a0 r h=>?_
  obtain⟨h,cs⟩:=Ro_ h
  rw[slD_] at h
  refine Sg_ 22 [.tmp 2] Tryz.func148 (h:=S ?_)
  refine Mkv_ (b:=false) (sz:=2) (es:=a0.Args.map (aj false)) (x:=(.pv ((aj false) a0))) 0 [1] SC fun hl0=>?_; rw[aw] at hl0
  refine aH (rl_ h) (fun i3 s3=>[(1,.box (.pv ((aj false) a0))),(3,.val (.pv (I s3))),(4,.val (.pv (I (i3:Int))))]) (fun i3 s3=>[]) (Slm_ SC) (fun i3 s3 hi h=>?_) (fun s3 h=>?_)
  ·have w:=ws_ i3
   refine S ?_
   refine aE cs fun cs=>S ?_
   refine rb_ h fun v16 q h=>am (aj false) q (S ?_)
   refine rb_ h fun v18 q h=>ak [false] (ih _ _ q) (S ?_)
   refine rb_ h fun v19 q h=>ak [false,false] (slM_9 q) (S ?_)
   exact aI h
  ·refine S ?_
   refine aF cs fun cs=>S ?_
   exact FHz_ h
theorem slD_3{a0:Tt}{r:Int}(h:slD_1 a0=some r):Sat ai 148 [((aj false) a0)] (I r):=by
 obtain⟨n,hn⟩:=ls_ h
 exact(slD_2 n) _ _ hn

theorem slF_7{a0:Tt}  {r:Bool}(h:slF_2 a0=some r):Sat ai 89 [((aj false) a0)] (B r):=by
 obtain⟨h,cs⟩:=Ro_ h
 unfold slF_2 at h
 refine Sg_ 11 [.tmp 2] Tryz.func89 (h:=S ?_)
 refine rb_ h fun v4 q h=>ak [false,false] (slM_8 q) (S ?_)
 refine ag cs h (fun cs h=>S ?_) fun cs h=>S ?_
 ·refine rb_ h fun v8 q h=>ak [false] (slD_3 q) (S ?_)
  exact FHz_ h
 ·exact FHz_ h

theorem slI_7{a0:Int}{a1:Int}{a2:Int}  {r:Bool}(h:slI_5 a0 a1 a2=some r):Sat ai 87 [(I a0),(I a1),(I a2)] (B r):=by
 obtain⟨h,cs⟩:=Ro_ h
 unfold slI_5 at h
 refine Sg_ 15 [.tmp 6] Tryz.func87 (h:=S ?_)
 refine ag cs h (fun cs h=>S ?_) fun cs h=>S ?_
 ·exact FHz_ h
 ·exact FHz_ h

theorem slV_1{a0:ByteArray}  {r:Bool}(h:slV_2 a0=some r):Sat ai 34 [(Sx a0)] (B r):=by
 obtain⟨h,cs⟩:=Ro_ h
 unfold slV_2 at h
 refine Sg_ 29 [.tmp 2] Tryz.func34 (h:=S ?_)
 refine rb_ h fun v6 q h=>ak [false,false,false] (slI_7 q) (S ?_)
 refine ag cs h (fun cs h=>S ?_) fun cs h=>S ?_
 refine rb_ h fun v10 q h=>aW q (S ?_)
 refine ag cs h (fun cs h=>S ?_) fun cs h=>S ?_
 rotate_left
 refine rb_ h fun v15 q h=>aW q (S ?_)
 refine ag cs h (fun cs h=>S ?_) fun cs h=>S ?_
 rotate_left
 ·obtain⟨N4,hN4,h⟩:=rb_1 h
  obtain⟨hN4a,hN4b⟩:=bs_ hN4
  replace h:=rl_ h
  refine MfA_ (N:=N4) (a:=1) h (fun i4 s4=>[(0,.val (.pv (Sx a0))),(3,.val (.pv (I (i4:Int))))]) (fun i4 s4=>[]) (Slm_ SC) (fun i4 s4 hi hj h=>?_) (fun j4 s4 hj h=>?_)
  ·have w:=ws_ i4
   refine S ?_
   refine aE cs fun cs=>S ?_
   refine rb_ h fun v26 q h=>aW q (S ?_)
   refine rb_ h fun v27 q h=>ak [false] (slS_8 q) (S ?_)
   refine ag cs h (fun cs h=>S ?_) fun cs h=>S ?_
   ·exact aI h
   ·exact FHz_ h
  ·refine S ?_
   refine aF cs fun cs=>S ?_
   exact FHz_ h
 all_goals
  exact FHz_ h

theorem slS_11{a0:ByteArray}  {r:Bool}(h:slS_6 a0=some r):Sat ai 132 [(Sx a0)] (B r):=by
 obtain⟨h,cs⟩:=Ro_ h
 unfold slS_6 at h
 refine Sg_ 45 [.tmp 2] Tryz.func132 (h:=S ?_)
 refine rb_ h fun v6 q h=>ak [false,false,false] (slI_7 q) (S ?_)
 refine ag cs h (fun cs h=>S ?_) fun cs h=>S ?_
 refine rb_ h fun v10 q h=>aW q (S ?_)
 refine ag cs h (fun cs h=>S ?_) fun cs h=>S ?_
 rotate_left
 refine rb_ h fun v15 q h=>aW q (S ?_)
 refine ag cs h (fun cs h=>S ?_) fun cs h=>S ?_
 rotate_left
 refine ag cs h (fun cs h=>S ?_) fun cs h=>S ?_
 rotate_left
 refine ag cs h (fun cs h=>S ?_) fun cs h=>S ?_
 rotate_left
 refine ag cs h (fun cs h=>S ?_) fun cs h=>S ?_
 rotate_left
 refine ag cs h (fun cs h=>S ?_) fun cs h=>S ?_
 rotate_left
 refine ag cs h (fun cs h=>S ?_) fun cs h=>S ?_
 rotate_left
 refine ag cs h (fun cs h=>S ?_) fun cs h=>S ?_
 rotate_left
 refine ag cs h (fun cs h=>S ?_) fun cs h=>S ?_
 rotate_left
 refine ag cs h (fun cs h=>S ?_) fun cs h=>S ?_
 rotate_left
 ·obtain⟨N14,hN14,h⟩:=rb_1 h
  obtain⟨hN14a,hN14b⟩:=bs_ hN14
  replace h:=rl_ h
  refine MfA_ (N:=N14) (a:=1) h (fun i14 s14=>[(0,.val (.pv (Sx a0))),(3,.val (.pv (I (i14:Int))))]) (fun i14 s14=>[]) (Slm_ SC) (fun i14 s14 hi hj h=>?_) (fun j14 s14 hj h=>?_)
  ·have w:=ws_ i14
   refine S ?_
   refine aE cs fun cs=>S ?_
   refine rb_ h fun v36 q h=>aW q (S ?_)
   refine rb_ h fun v37 q h=>ak [false] (slS_8 q) (S ?_)
   refine ag cs h (fun cs h=>S ?_) fun cs h=>S ?_
   ·exact aI h
   ·refine rb_ h fun v42 q h=>aW q (S ?_)
    refine ag cs h (fun cs h=>S ?_) fun cs h=>S ?_
    ·exact aI h
    ·exact FHz_ h
  ·refine S ?_
   refine aF cs fun cs=>S ?_
   exact FHz_ h
 all_goals
  exact FHz_ h

theorem slN_6(n:Nat):(∀ (a0:Tt) (r:Bool),slN_2 n a0=some r→Sat ai 90 [((aj false) a0)] (B r)):=by
 induction n with
 | zero=>exact fun _ _ h=>by simp[slN_2] at h
 | succ n ih=>
  refine fun a0 r h=>?_
  obtain⟨h,cs⟩:=Ro_ h
  rw[slN_2] at h
  refine Sg_ 35 [.tmp 2] Tryz.func90 (h:=S ?_)
  refine rb_ h fun v6 q h=>ak [false] (slV_1 q) (S ?_)
  refine ag cs h (fun cs h=>S ?_) fun cs h=>S ?_
  rotate_left
  refine rb_ h fun v13 q h=>ak [false] (slS_11 q) (S ?_)
  refine ag cs h (fun cs h=>S ?_) fun cs h=>S ?_
  refine ag cs h (fun cs h=>S ?_) fun cs h=>S ?_
  rotate_left
  ·refine aV (b:=false) (sz:=2) (es:=a0.Args.map (aj false)) 17 SC fun hl17=>?_; rw[aw] at hl17
   refine aH (rl_ h) (fun i6 s6=>[(1,.box (.pv ((aj false) a0))),(3,.val (.pv (I (i6:Int))))]) (fun i6 s6=>[]) (Slm_ SC) (fun i6 s6 hi h=>?_) (fun s6 h=>?_)
   ·have w:=ws_ i6
    refine S ?_
    refine aE cs fun cs=>S ?_
    refine rb_ h fun v31 q h=>am (aj false) q (S ?_)
    refine rb_ h fun v33 q h=>ak [false] (ih _ _ q) (S ?_)
    refine ag cs h (fun cs h=>S ?_) fun cs h=>S ?_
    ·exact aI h
    ·exact FHz_ h
   ·refine S ?_
    refine aF cs fun cs=>S ?_
    exact FHz_ h
  all_goals
   exact FHz_ h
theorem slN_4{a0:Tt}{r:Bool}(h:slN_3 a0=some r):Sat ai 90 [((aj false) a0)] (B r):=by
 obtain⟨n,hn⟩:=ls_ h
 exact(slN_6 n) _ _ hn

theorem slG_3{a0:Tt}  {r:Bool}(h:slG_1 a0=some r):Sat ai 35 [((aj false) a0)] (B r):=by
 obtain⟨h,cs⟩:=Ro_ h
 unfold slG_1 at h
 refine Sg_ 9 [.tmp 2] Tryz.func35 (h:=S ?_)
 refine rb_ h fun v4 q h=>ak [false] (slF_7 q) (S ?_)
 refine ag cs h (fun cs h=>S ?_) fun cs h=>S ?_
 ·refine rb_ h fun v7 q h=>ak [false] (slN_4 q) (S ?_)
  exact FHz_ h
 ·exact FHz_ h

theorem slA_3{a0:Tt}  {r:Bool}(h:slA_1 a0=some r):Sat ai 75 [((aj false) a0)] (B r):=by
 obtain⟨h,cs⟩:=Ro_ h
 unfold slA_1 at h
 refine Sg_ 35 [.tmp 2] Tryz.func75 (h:=S ?_)
 refine ag cs h (fun cs h=>S ?_) fun cs h=>S ?_
 ·refine ag cs h (fun cs h=>S ?_) fun cs h=>S ?_
  refine rb_ h fun v12 q h=>ak [false] (slF_7 q) (S ?_)
  refine ag cs h (fun cs h=>S ?_) fun cs h=>S ?_
  refine rb_ h fun v17 q h=>am (aj false) q (S ?_)
  refine rb_ h fun v19 q h=>ak [false] (slN_4 q) (S ?_)
  refine ag cs h (fun cs h=>S ?_) fun cs h=>S ?_
  ·refine rb_ h fun v24 q h=>am (aj false) q (S ?_)
   refine rb_ h fun v26 q h=>ak [false] (slN_4 q) (S ?_)
   exact FHz_ h
  all_goals
   exact FHz_ h
 ·refine rb_ h fun v30 q h=>ak [false] (slS_11 q) (S ?_)
  refine ag cs h (fun cs h=>S ?_) fun cs h=>S ?_
  ·refine rb_ h fun v33 q h=>ak [false] (slG_3 q) (S ?_)
   exact FHz_ h
  ·exact FHz_ h

theorem slF_10{a0:Ft}  {r:Bool}(h:slF_3 a0=some r):Sat ai 130 [((al false) a0)] (B r):=by
 obtain⟨h,cs⟩:=Ro_ h
 unfold slF_3 at h
 refine Sg_ 83 [.tmp 2] Tryz.func130 (h:=S ?_)
 refine ag cs h (fun cs h=>S ?_) fun cs h=>S ?_
 refine ag cs h (fun cs h=>S ?_) fun cs h=>S ?_
 refine rb_ h fun v17 q h=>ak [false] (slN_ q) (S ?_)
 refine ag cs h (fun cs h=>S ?_) fun cs h=>S ?_
 rotate_left 3
 refine ag cs h (fun cs h=>S ?_) fun cs h=>S ?_
 refine ag cs h (fun cs h=>S ?_) fun cs h=>S ?_
 refine rb_ h fun v17 q h=>ak [false] (slN_ q) (S ?_)
 refine ag cs h (fun cs h=>S ?_) fun cs h=>S ?_
 rotate_left 3
 refine ag cs h (fun cs h=>S ?_) fun cs h=>S ?_
 refine ag cs h (fun cs h=>S ?_) fun cs h=>S ?_
 refine rb_ h fun v31 q h=>ak [false] (slA_3 q) (S ?_)
 refine ag cs h (fun cs h=>S ?_) fun cs h=>S ?_
 rotate_left 3
 refine ag cs h (fun cs h=>S ?_) fun cs h=>S ?_
 refine ag cs h (fun cs h=>S ?_) fun cs h=>S ?_
 refine rb_ h fun v45 q h=>ak [false] (slN_ q) (S ?_)
 refine ag cs h (fun cs h=>S ?_) fun cs h=>S ?_
 rotate_left 3
 refine ag cs h (fun cs h=>S ?_) fun cs h=>S ?_
 refine ag cs h (fun cs h=>S ?_) fun cs h=>S ?_
 refine rb_ h fun v61 q h=>ak [false] (slN_ q) (S ?_)
 refine ag cs h (fun cs h=>S ?_) fun cs h=>S ?_
 rotate_left 3
 refine ag cs h (fun cs h=>S ?_) fun cs h=>S ?_
 refine ag cs h (fun cs h=>S ?_) fun cs h=>S ?_
 refine rb_ h fun v61 q h=>ak [false] (slN_ q) (S ?_)
 refine ag cs h (fun cs h=>S ?_) fun cs h=>S ?_
 rotate_left 3
 refine ag cs h (fun cs h=>S ?_) fun cs h=>S ?_
 refine ag cs h (fun cs h=>S ?_) fun cs h=>S ?_
 refine rb_ h fun v61 q h=>ak [false] (slN_ q) (S ?_)
 refine ag cs h (fun cs h=>S ?_) fun cs h=>S ?_
 rotate_left 3
 refine ag cs h (fun cs h=>S ?_) fun cs h=>S ?_
 refine ag cs h (fun cs h=>S ?_) fun cs h=>S ?_
 refine rb_ h fun v76 q h=>ak [false] (slN_ q) (S ?_)
 refine ag cs h (fun cs h=>S ?_) fun cs h=>S ?_
 rotate_left 3
 refine ag cs h (fun cs h=>S ?_) fun cs h=>S ?_
 refine ag cs h (fun cs h=>S ?_) fun cs h=>S ?_
 refine rb_ h fun v76 q h=>ak [false] (slN_ q) (S ?_)
 refine ag cs h (fun cs h=>S ?_) fun cs h=>S ?_
 ·refine rb_ h fun v81 q h=>ak [false] (slV_1 q) (S ?_)
  exact FHz_ h
 rotate_left 24
 ·refine rb_ h fun v81 q h=>ak [false] (slV_1 q) (S ?_)
  exact FHz_ h
 all_goals
  exact FHz_ h

theorem slF_8(n:Nat):(∀ (a0:Ft) (r:Bool),slF_ n a0=some r→Sat ai 72 [((al false) a0)] (B r)):=by
 induction n with
 | zero=>exact fun _ _ h=>by simp[slF_] at h
 | succ n ih=>
  refine fun a0 r h=>?_
  obtain⟨h,cs⟩:=Ro_ h
  rw[slF_] at h
  refine Sg_ 21 [.tmp 2] Tryz.func72 (h:=S ?_)
  refine rb_ h fun v5 q h=>ak [false] (slF_10 q) (S ?_)
  refine ag cs h (fun cs h=>S ?_) fun cs h=>S ?_
  ·refine Mkv_ (b:=false) (sz:=5) (es:=a0.Parts.map (al false)) (x:=(.pv ((al false) a0))) 0 [3] SC fun hl0=>?_; rw[aw] at hl0
   refine aH (rl_ h) (fun i4 s4=>[(1,.box (.pv ((al false) a0))),(3,.val (.pv (I (i4:Int))))]) (fun i4 s4=>[]) (Slm_ SC) (fun i4 s4 hi h=>?_) (fun s4 h=>?_)
   ·have w:=ws_ i4
    refine S ?_
    refine aE cs fun cs=>S ?_
    refine rb_ h fun v17 q h=>am (al false) q (S ?_)
    refine rb_ h fun v19 q h=>ak [false] (ih _ _ q) (S ?_)
    refine ag cs h (fun cs h=>S ?_) fun cs h=>S ?_
    ·exact aI h
    ·exact FHz_ h
   ·refine S ?_
    refine aF cs fun cs=>S ?_
    exact FHz_ h
  ·exact FHz_ h
theorem slF_9{a0:Ft}{r:Bool}(h:slF_5 a0=some r):Sat ai 72 [((al false) a0)] (B r):=by
 obtain⟨n,hn⟩:=ls_ h
 exact(slF_8 n) _ _ hn

theorem slG_4{a0:Ft}  {r:Bool}(h:slG_ a0=some r):Sat ai 28 [((al false) a0)] (B r):=by
 obtain⟨h,cs⟩:=Ro_ h
 unfold slG_ at h
 refine Sg_ 10 [.tmp 2] Tryz.func28 (h:=S ?_)
 refine rb_ h fun v4 q h=>ak [false,false] (slM_7 q) (S ?_)
 refine ag cs h (fun cs h=>S ?_) fun cs h=>S ?_
 ·refine rb_ h fun v8 q h=>ak [false] (slF_9 q) (S ?_)
  exact FHz_ h
 ·exact FHz_ h

theorem slT_11(n:Nat):(∀ (a0:Tt) (r:ByteArray),slT_1 n a0=some r→Sat ai 95 [((aj false) a0)] (Sx r)):=by
 induction n with
 | zero=>exact fun _ _ h=>by simp[slT_1] at h
 | succ n ih=>
  refine fun a0 r h=>?_
  obtain⟨h,cs⟩:=Ro_ h
  rw[slT_1] at h
  refine Sg_ 50 [.tmp 2] Tryz.func95 (h:=S ?_)
  refine ag cs h (fun cs h=>S ?_) fun cs h=>S ?_
  ·refine rb_ h fun v10 q h=>am (aj false) q (S ?_)
   refine rb_ h fun v12 q h=>ak [false] (ih _ _ q) (S ?_)
   refine rb_ h fun v13 q h=>bz q (S ?_)
   refine rb_ h fun v16 q h=>am (aj false) q (S ?_)
   refine rb_ h fun v18 q h=>ak [false] (ih _ _ q) (S ?_)
   refine rb_ h fun v19 q h=>bz q (S ?_)
   refine ae (DHa_ [] []) (S ?_)
   exact FHz_ h
  ·refine Mkv_ (b:=false) (sz:=2) (es:=a0.Args.map (aj false)) (x:=(.pv ((aj false) a0))) 0 [1] SC fun hl0=>?_; rw[aw] at hl0
   refine aH (rl_ h) (fun i5 s5=>[(1,.box (.pv ((aj false) a0))),(3,.val (.pv (Sx s5))),(4,.val (.pv (I (i5:Int))))]) (fun i5 s5=>[]) (Slm_ SC) (fun i5 s5 hi h=>?_) (fun s5 h=>?_)
   ·have w:=ws_ i5
    refine S ?_
    refine aE cs fun cs=>S ?_
    refine ag cs h (fun cs h=>S ?_) fun cs h=>S ?_
    ·refine rb_ h fun v32 q h=>bz q (S ?_)
     refine rb_ h fun v39 q h=>am (aj false) q (S ?_)
     refine rb_ h fun v41 q h=>ak [false] (ih _ _ q) (S ?_)
     refine rb_ h fun v42 q h=>bz q (S ?_)
     exact aI h
    ·refine rb_ h fun v34 q h=>bz q (S ?_)
     refine rb_ h fun v39 q h=>am (aj false) q (S ?_)
     refine rb_ h fun v41 q h=>ak [false] (ih _ _ q) (S ?_)
     refine rb_ h fun v42 q h=>bz q (S ?_)
     exact aI h
   ·refine S ?_
    refine aF cs fun cs=>S ?_
    refine ag cs h (fun cs h=>S ?_) fun cs h=>S ?_
    ·refine rb_ h fun v48 q h=>bz q (S ?_)
     exact FHz_ h
    ·exact FHz_ h
theorem slT_13{a0:Tt}{r:ByteArray}(h:slT_8 a0=some r):Sat ai 95 [((aj false) a0)] (Sx r):=by
 obtain⟨n,hn⟩:=ls_ h
 exact(slT_11 n) _ _ hn

theorem slT_10(n:Nat):(∀ (a0:Ft) (r:ByteArray),slT_ n a0=some r→Sat ai 37 [((al false) a0)] (Sx r)):=by
 induction n with
 | zero=>exact fun _ _ h=>by simp[slT_] at h
 | succ n ih=>
  refine fun a0 r h=>?_
  obtain⟨h,cs⟩:=Ro_ h
  rw[slT_] at h
  refine Sg_ 90 [.tmp 2] Tryz.func37 (h:=S ?_)
  refine ag cs h (fun cs h=>S ?_) fun cs h=>S ?_
  ·exact FHz_ h
  ·refine ag cs h (fun cs h=>S ?_) fun cs h=>S ?_
   ·exact FHz_ h
   ·refine ag cs h (fun cs h=>S ?_) fun cs h=>S ?_
    ·refine rb_ h fun v14 q h=>ak [false] (slT_13 q) (S ?_)
     exact FHz_ h
    ·refine ag cs h (fun cs h=>S ?_) fun cs h=>S ?_
     ·refine rb_ h fun v19 q h=>am (al false) q (S ?_)
      refine ag cs h (fun cs h=>S ?_) fun cs h=>S ?_
      refine rb_ h fun v26 q h=>am (al false) q (S ?_)
      refine ag cs h (fun cs h=>S ?_) fun cs h=>S ?_
      ·refine rb_ h fun v34 q h=>am (al false) q (S ?_)
       refine rb_ h fun v36 q h=>ak [false] (ih _ _ q) (S ?_)
       refine rb_ h fun v37 q h=>bz q (S ?_)
       refine rb_ h fun v38 q h=>bz q (S ?_)
       exact FHz_ h
      all_goals
       refine rb_ h fun v41 q h=>am (al false) q (S ?_)
       refine rb_ h fun v43 q h=>ak [false] (ih _ _ q) (S ?_)
       refine rb_ h fun v44 q h=>bz q (S ?_)
       exact FHz_ h
     ·refine ag cs h (fun cs h=>S ?_) fun cs h=>S ?_
      ·refine rb_ h fun v49 q h=>bz q (S ?_)
       refine rb_ h fun v50 q h=>bz q (S ?_)
       refine rb_ h fun v53 q h=>am (al false) q (S ?_)
       refine rb_ h fun v55 q h=>ak [false] (ih _ _ q) (S ?_)
       refine rb_ h fun v56 q h=>bz q (S ?_)
       refine ae (DHa_ [] []) (S ?_)
       exact FHz_ h
      ·refine ag cs h (fun cs h=>S ?_) fun cs h=>S ?_
       ·refine rb_ h fun v61 q h=>bz q (S ?_)
        refine rb_ h fun v62 q h=>bz q (S ?_)
        refine rb_ h fun v65 q h=>am (al false) q (S ?_)
        refine rb_ h fun v67 q h=>ak [false] (ih _ _ q) (S ?_)
        refine rb_ h fun v68 q h=>bz q (S ?_)
        refine ae (DHa_ [] []) (S ?_)
        exact FHz_ h
       ·refine ag cs h (fun cs h=>S ?_) fun cs h=>S ?_
        refine ag cs h (fun cs h=>S ?_) fun cs h=>S ?_
        rotate_left 2
        refine ag cs h (fun cs h=>S ?_) fun cs h=>S ?_
        all_goals
         refine rb_ h fun v77 q h=>am (al false) q (S ?_)
         refine rb_ h fun v79 q h=>ak [false] (ih _ _ q) (S ?_)
         refine rb_ h fun v80 q h=>bz q (S ?_)
         refine rb_ h fun v82 q h=>bz q (S ?_)
         refine rb_ h fun v85 q h=>am (al false) q (S ?_)
         refine rb_ h fun v87 q h=>ak [false] (ih _ _ q) (S ?_)
         refine rb_ h fun v88 q h=>bz q (S ?_)
         refine rb_ h fun v89 q h=>bz q (S ?_)
         refine ae (DHa_ [] []) (S ?_)
         exact FHz_ h
theorem slT_12{a0:Ft}{r:ByteArray}(h:slT_5 a0=some r):Sat ai 37 [((al false) a0)] (Sx r):=by
 obtain⟨n,hn⟩:=ls_ h
 exact(slT_10 n) _ _ hn

theorem sPF_1{a0:ByteArray}  {r:Ft×Bool}(h:sPF_ a0=some r):Sat ai 13 [(Sx a0)] (.tup [((al true) r.1),(B r.2)]):=by
 obtain⟨h,cs⟩:=Ro_ h
 unfold sPF_ at h
 refine Sg_ 32 [.cell 2 29,.tmp 3] Tryz.func13 (h:=S ?_)
 refine ag cs h (fun cs h=>S ?_) fun cs h=>S ?_
 ·exact FHz_ h
 ·refine rb_ h fun v12 q h=>ak [false,false] (slR_9 q) (S ?_)
  refine ag cs h (fun cs h=>S ?_) fun cs h=>S ?_
  refine rb_ h fun v21 q h=>ak [false] (slG_4 q) (S ?_)
  refine ag cs h (fun cs h=>S ?_) fun cs h=>S ?_
  refine rb_ h fun v26 q h=>ak [false] (slT_12 q) (S ?_)
  refine ag cs h (fun cs h=>S ?_) fun cs h=>S ?_
  all_goals
   exact FHz_ h

theorem slC_11{a0:la}{a1:Int}  {r:Bool×la}(h:slC_6 a0 a1=some r):SatH ai 15 [] [(I a1)] .ptr [] (.pv ((ao false) a0)) (.pv ((ao false) r.2)) (B r.1):=by
 obtain⟨h,cs⟩:=Ro_ h
 unfold slC_6 at h
 refine SHo_ (nt:=9) (rs:=[.tmp 4]) (n:=100000) 0 Tryz.func15 rfl rfl rfl rfl rfl (aR rfl) (by decide) (by first | exact aR rfl | exact SC) (S ?_)
 obtain⟨v7,hv7,h⟩:=rb_1 h
 refine aC (r:=0) (hc:=.cv (.pv ((ao false) a0))) 0 [] [_] [] [(.pv (I a1))] [false] (slC_1 hv7) rfl rfl rfl SC (S ?_)
 cases rs_ h
 exact aO SC

theorem slC_15{a0:la}{a1:List ByteArray}  {r:ByteArray×la}(h:slC_7 a0 a1=some r):SatH ai 40 [] [(.sl false 1 (a1.map Sx))] .ptr [] (.pv ((ao false) a0)) (.pv ((ao false) r.2)) (Sx r.1):=by
 obtain⟨h,cs⟩:=Ro_ h
 unfold slC_7 at h
 refine SHo_ (nt:=12) (rs:=[.tmp 4]) (n:=100000) 0 Tryz.func40 rfl rfl rfl rfl rfl (aR rfl) (by decide) (by first | exact aR rfl | exact SC) (S ?_)
 obtain⟨v9,hv9,h⟩:=rb_1 h
 refine aC (r:=0) (hc:=.cv (.pv ((ao false) a0))) 0 [] [_] [] [(.pv (I (a1.length:Int)))] [false] (slC_1 hv9) rfl rfl rfl SC (S ?_)
 refine rb_ h fun v10 q h=>am Sx q (S ?_)
 cases rs_ h
 exact aO SC

theorem slC_32(n:Nat):(∀ (a0:la) (a1:Int) (r:Tt×la),slC_3 n a0 a1=some r→SatH ai 101 [] [(I a1)] .ptr [] (.pv ((ao false) a0)) (.pv ((ao false) r.2)) ((aj true) r.1)):=by
 induction n with
 | zero=>exact fun _ _ _ h=>by simp[slC_3] at h
 | succ n ih=>
  refine fun a0 a1 r h=>?_
  obtain⟨h,cs⟩:=Ro_ h
  rw[slC_3] at h
  refine SHo_ (nt:=33) (rs:=[.cell 4 26]) (n:=100000) 0 Tryz.func101 rfl rfl rfl rfl rfl (aR rfl) (by decide) (by first | exact aR rfl | exact SC) (S ?_)
  refine ag cs h (fun cs h=>S ?_) fun cs h=>S ?_
  ·obtain⟨v13,hv13,h⟩:=rb_1 h
   refine aC (r:=0) (hc:=.cv (.pv ((ao false) a0))) (pre:=[]) (post:=[(.sl true 1 (([(⟨#[88]⟩:ByteArray),(⟨#[89]⟩:ByteArray),(⟨#[90]⟩:ByteArray),(⟨#[97]⟩:ByteArray),(⟨#[98]⟩:ByteArray),(⟨#[88]⟩:ByteArray),(⟨#[97]⟩:ByteArray)]).map Sx))]) 0 [] [_] [] [(.own 192)] [true] (SatH.give [true] (slC_15 hv13) (by first | rfl | simp only[gv_t,gv_f,gv_n,vs_,va_,vl_,vI_,vS_,vrB_,vrI_,az,bh,List.cons_append]) rfl) rfl rfl rfl SC (S ?_)
   cases rs_ h
   exact aO SC
  ·obtain⟨v9,hv9,h⟩:=rb_1 h
   refine aC (r:=0) (hc:=.cv (.pv ((ao false) a0))) 0 [] [_] [] [(.pv (I 3))] [false] (slC_11 hv9) rfl rfl rfl SC (S ?_)
   refine ag cs h (fun cs h=>S ?_) fun cs h=>S ?_
   ·obtain⟨v13,hv13,h⟩:=rb_1 h
    refine aC (r:=0) (hc:=.cv (.pv ((ao false) v9.2))) (pre:=[]) (post:=[(.sl true 1 (([(⟨#[88]⟩:ByteArray),(⟨#[89]⟩:ByteArray),(⟨#[90]⟩:ByteArray),(⟨#[97]⟩:ByteArray),(⟨#[98]⟩:ByteArray),(⟨#[88]⟩:ByteArray),(⟨#[97]⟩:ByteArray)]).map Sx))]) 0 [] [_] [] [(.own 192)] [true] (SatH.give [true] (slC_15 hv13) (by first | rfl | simp only[gv_t,gv_f,gv_n,vs_,va_,vl_,vI_,vS_,vrB_,vrI_,az,bh,List.cons_append]) rfl) rfl rfl rfl SC (S ?_)
    cases rs_ h
    exact aO SC
   ·obtain⟨v16,hv16,h⟩:=rb_1 h
    refine aC (r:=0) (hc:=.cv (.pv ((ao false) v9.2))) 0 [] [_] [] [(.pv (I 2))] [false] (slC_11 hv16) rfl rfl rfl SC (S ?_)
    refine ag cs h (fun cs h=>S ?_) fun cs h=>S ?_
    ·obtain⟨v20,hv20,h⟩:=rb_1 h
     refine aC (r:=0) (hc:=.cv (.pv ((ao false) v16.2))) 0 [] [_] [] [(.pv (I (IntKind.i64.wrap (a1-1))))] [false] (ih _ _ _ hv20) rfl rfl rfl SC (S ?_)
     cases rs_ h
     exact aO SC
    ·obtain⟨v26,hv26,h⟩:=rb_1 h
     refine aC (r:=0) (hc:=.cv (.pv ((ao false) v16.2))) 0 [] [_] [] [(.pv (I (IntKind.i64.wrap (a1-1))))] [false] (ih _ _ _ hv26) rfl rfl rfl SC (S ?_)
     obtain⟨v30,hv30,h⟩:=rb_1 h
     refine aC (r:=0) (hc:=.cv (.pv ((ao false) v26.2))) 0 [] [_] [] [(.pv (I (IntKind.i64.wrap (a1-1))))] [false] (ih _ _ _ hv30) rfl rfl rfl SC (S ?_)
     cases rs_ h
     exact aO SC
theorem slC_20{a0:la}{a1:Int}{r:Tt×la}(h:slC_14 a0 a1=some r):SatH ai 101 [] [(I a1)] .ptr [] (.pv ((ao false) a0)) (.pv ((ao false) r.2)) ((aj true) r.1):=by
 obtain⟨n,hn⟩:=ls_ h
 exact(slC_32 n) _ _ _ hn

theorem slC_10{a0:la}  {r:Tt×la}(h:slC_8 a0=some r):SatH ai 45 [] [] .ptr [] (.pv ((ao false) a0)) (.pv ((ao false) r.2)) ((aj true) r.1):=by
 obtain⟨h,cs⟩:=Ro_ h
 unfold slC_8 at h
 refine SHo_ (nt:=8) (rs:=[.cell 2 26]) (n:=100000) 0 Tryz.func45 rfl rfl rfl rfl rfl (aR rfl) (by decide) (by first | exact aR rfl | exact SC) (S ?_)
 obtain⟨v5,hv5,h⟩:=rb_1 h
 refine aC (r:=0) (hc:=.cv (.pv ((ao false) a0))) 0 [] [_] [] [(.pv (I 3))] [false] (slC_1 hv5) rfl rfl rfl SC (S ?_)
 obtain⟨v7,hv7,h⟩:=rb_1 h
 refine aC (r:=0) (hc:=.cv (.pv ((ao false) v5.2))) 0 [] [_] [] [(.pv (I (IntKind.i64.wrap ((1:Int)+v5.1))))] [false] (slC_20 hv7) rfl rfl rfl SC (S ?_)
 cases rs_ h
 exact aO SC

theorem slC_29{a0:la}  {r:Tt×la}(h:slC_16 a0=some r):SatH ai 151 [] [] .ptr [] (.pv ((ao false) a0)) (.pv ((ao false) r.2)) ((aj true) r.1):=by
 obtain⟨h,cs⟩:=Ro_ h
 unfold slC_16 at h
 refine SHo_ (nt:=30) (rs:=[.cell 2 26]) (n:=100000) 0 Tryz.func151 rfl rfl rfl rfl rfl (aR rfl) (by decide) (by first | exact aR rfl | exact SC) (S ?_)
 obtain⟨v4,hv4,h⟩:=rb_1 h
 refine aC (r:=0) (hc:=.cv (.pv ((ao false) a0))) 0 [] [_] [] [(.pv (I 8))] [false] (slC_1 hv4) rfl rfl rfl SC (S ?_)
 refine ag cs h (fun cs h=>S ?_) fun cs h=>S ?_
 rotate_left
 refine ag cs h (fun cs h=>S ?_) fun cs h=>S ?_
 rotate_left
 refine ag cs h (fun cs h=>S ?_) fun cs h=>S ?_
 rotate_left
 refine ag cs h (fun cs h=>S ?_) fun cs h=>S ?_
 rotate_left
 refine ag cs h (fun cs h=>S ?_) fun cs h=>S ?_
 rotate_left
 ·obtain⟨v27,hv27,h⟩:=rb_1 h
  refine aC (r:=0) (hc:=.cv (.pv ((ao false) v4.2))) 0 [] [_] [] [(.pv (I 2))] [false] (slC_20 hv27) rfl rfl rfl SC (S ?_)
  cases rs_ h
  exact aO SC
 ·obtain⟨v9,hv9,h⟩:=rb_1 h
  refine aC (r:=0) (hc:=.cv (.pv ((ao false) v4.2))) 0 [] [] [] [] [] (slC_10 hv9) rfl rfl rfl SC (S ?_)
  obtain⟨v11,hv11,h⟩:=rb_1 h
  refine aC (r:=0) (hc:=.cv (.pv ((ao false) v9.2))) 0 [] [] [] [] [] (slC_10 hv11) rfl rfl rfl SC (S ?_)
  cases rs_ h
  exact aO SC
 ·obtain⟨v9,hv9,h⟩:=rb_1 h
  refine aC (r:=0) (hc:=.cv (.pv ((ao false) v4.2))) 0 [] [] [] [] [] (slC_10 hv9) rfl rfl rfl SC (S ?_)
  obtain⟨v11,hv11,h⟩:=rb_1 h
  refine aC (r:=0) (hc:=.cv (.pv ((ao false) v9.2))) 0 [] [] [] [] [] (slC_10 hv11) rfl rfl rfl SC (S ?_)
  cases rs_ h
  exact aO SC
 ·cases rs_ h
  exact aO SC
 all_goals
  obtain⟨v21,hv21,h⟩:=rb_1 h
  refine aC (r:=0) (hc:=.cv (.pv ((ao false) v4.2))) 0 [] [_] [] [(.pv (I 2))] [false] (slC_20 hv21) rfl rfl rfl SC (S ?_)
  obtain⟨v23,hv23,h⟩:=rb_1 h
  refine aC (r:=0) (hc:=.cv (.pv ((ao false) v21.2))) 0 [] [_] [] [(.pv (I 2))] [false] (slC_20 hv23) rfl rfl rfl SC (S ?_)
  cases rs_ h
  exact aO SC

theorem slC_35{a0:la}{a1:List Int}  {r:Int×la}(h:slC_21 a0 a1=some r):SatH ai 152 [] [(.sl false 1 (a1.map I))] .ptr [] (.pv ((ao false) a0)) (.pv ((ao false) r.2)) (I r.1):=by
 obtain⟨h,cs⟩:=Ro_ h
 unfold slC_21 at h
 refine SHo_ (nt:=12) (rs:=[.tmp 4]) (n:=100000) 0 Tryz.func152 rfl rfl rfl rfl rfl (aR rfl) (by decide) (by first | exact aR rfl | exact SC) (S ?_)
 obtain⟨v9,hv9,h⟩:=rb_1 h
 refine aC (r:=0) (hc:=.cv (.pv ((ao false) a0))) 0 [] [_] [] [(.pv (I (a1.length:Int)))] [false] (slC_1 hv9) rfl rfl rfl SC (S ?_)
 refine rb_ h fun v10 q h=>am I q (S ?_)
 cases rs_ h
 exact aO SC

theorem slC_33(n:Nat):(∀ (a0:la) (a1:Int) (r:Ft×la),slC_2 n a0 a1=some r→SatH ai 96 [] [(I a1)] .ptr [] (.pv ((ao false) a0)) (.pv ((ao false) r.2)) ((al true) r.1)):=by
 induction n with
 | zero=>exact fun _ _ _ h=>by simp[slC_2] at h
 | succ n ih=>
  refine fun a0 a1 r h=>?_
  obtain⟨h,cs⟩:=Ro_ h
  rw[slC_2] at h
  refine SHo_ (nt:=60) (rs:=[.cell 4 29]) (n:=100000) 0 Tryz.func96 rfl rfl rfl rfl rfl (aR rfl) (by decide) (by first | exact aR rfl | exact SC) (S ?_)
  refine ag cs h (fun cs h=>S ?_) fun cs h=>S ?_
  obtain⟨v13,hv13,h⟩:=rb_1 h
  refine aC (r:=0) (hc:=.cv (.pv ((ao false) a0))) 0 [] [_] [] [(.pv (I 16))] [false] (slC_11 hv13) rfl rfl rfl SC (S ?_)
  refine ag cs h (fun cs h=>S ?_) fun cs h=>S ?_
  rotate_left 2
  obtain⟨v10,hv10,h⟩:=rb_1 h
  refine aC (r:=0) (hc:=.cv (.pv ((ao false) a0))) 0 [] [_] [] [(.pv (I 4))] [false] (slC_11 hv10) rfl rfl rfl SC (S ?_)
  refine ag cs h (fun cs h=>S ?_) fun cs h=>S ?_
  obtain⟨v13,hv13,h⟩:=rb_1 h
  refine aC (r:=0) (hc:=.cv (.pv ((ao false) v10.2))) 0 [] [_] [] [(.pv (I 16))] [false] (slC_11 hv13) rfl rfl rfl SC (S ?_)
  refine ag cs h (fun cs h=>S ?_) fun cs h=>S ?_
  rotate_left 2
  obtain⟨v23,hv23,h⟩:=rb_1 h
  refine aC (r:=0) (hc:=.cv (.pv ((ao false) v10.2))) (pre:=[]) (post:=[(.sl true 1 (([(4:Int),(5:Int),(6:Int),(7:Int),(8:Int),(9:Int),(8:Int),(9:Int),(5:Int),(7:Int)]).map I))]) 0 [] [_] [] [(.own 352)] [true] (SatH.give [true] (slC_35 hv23) (by first | rfl | simp only[gv_t,gv_f,gv_n,vs_,va_,vl_,vI_,vS_,vrB_,vrI_,az,bh,List.cons_append]) rfl) rfl rfl rfl SC (S ?_)
  refine ag cs h (fun cs h=>S ?_) fun cs h=>S ?_
  rotate_left
  refine ag cs h (fun cs h=>S ?_) fun cs h=>S ?_
  rotate_left
  refine ag cs h (fun cs h=>S ?_) fun cs h=>S ?_
  rotate_left
  ·obtain⟨v53,hv53,h⟩:=rb_1 h
   refine aC (r:=0) (hc:=.cv (.pv ((ao false) v23.2))) 0 [] [_] [] [(.pv (I (IntKind.i64.wrap (a1-1))))] [false] (ih _ _ _ hv53) rfl rfl rfl SC (S ?_)
   obtain⟨v57,hv57,h⟩:=rb_1 h
   refine aC (r:=0) (hc:=.cv (.pv ((ao false) v53.2))) 0 [] [_] [] [(.pv (I (IntKind.i64.wrap (a1-1))))] [false] (ih _ _ _ hv57) rfl rfl rfl SC (S ?_)
   cases rs_ h
   exact aO SC
  ·obtain⟨v15,hv15,h⟩:=rb_1 h
   refine aC (r:=0) (hc:=.cv (.pv ((ao false) v13.2))) 0 [] [_] [] [(.pv (I 2))] [false] (slC_1 hv15) rfl rfl rfl SC (S ?_)
   cases rs_ h
   exact aO SC
  ·obtain⟨v19,hv19,h⟩:=rb_1 h
   refine aC (r:=0) (hc:=.cv (.pv ((ao false) v13.2))) 0 [] [] [] [] [] (slC_29 hv19) rfl rfl rfl SC (S ?_)
   cases rs_ h
   exact aO SC
  ·obtain⟨v15,hv15,h⟩:=rb_1 h
   refine aC (r:=0) (hc:=.cv (.pv ((ao false) v13.2))) 0 [] [_] [] [(.pv (I 2))] [false] (slC_1 hv15) rfl rfl rfl SC (S ?_)
   cases rs_ h
   exact aO SC
  ·obtain⟨v19,hv19,h⟩:=rb_1 h
   refine aC (r:=0) (hc:=.cv (.pv ((ao false) v13.2))) 0 [] [] [] [] [] (slC_29 hv19) rfl rfl rfl SC (S ?_)
   cases rs_ h
   exact aO SC
  ·obtain⟨v30,hv30,h⟩:=rb_1 h
   refine aC (r:=0) (hc:=.cv (.pv ((ao false) v23.2))) 0 [] [_] [] [(.pv (I (IntKind.i64.wrap (a1-1))))] [false] (ih _ _ _ hv30) rfl rfl rfl SC (S ?_)
   cases rs_ h
   exact aO SC
  all_goals
   obtain⟨v42,hv42,h⟩:=rb_1 h
   refine aC (r:=0) (hc:=.cv (.pv ((ao false) v23.2))) (pre:=[]) (post:=[(.sl true 1 (([(⟨#[88]⟩:ByteArray),(⟨#[89]⟩:ByteArray),(⟨#[90]⟩:ByteArray),(⟨#[88]⟩:ByteArray)]).map Sx))]) 0 [] [_] [] [(.own 656)] [true] (SatH.give [true] (slC_15 hv42) (by first | rfl | simp only[gv_t,gv_f,gv_n,vs_,va_,vl_,vI_,vS_,vrB_,vrI_,az,bh,List.cons_append]) rfl) rfl rfl rfl SC (S ?_)
   obtain⟨v46,hv46,h⟩:=rb_1 h
   refine aC (r:=0) (hc:=.cv (.pv ((ao false) v42.2))) 0 [] [_] [] [(.pv (I (IntKind.i64.wrap (a1-1))))] [false] (ih _ _ _ hv46) rfl rfl rfl SC (S ?_)
   cases rs_ h
   exact aO SC
theorem slC_34{a0:la}{a1:Int}{r:Ft×la}(h:slC_27 a0 a1=some r):SatH ai 96 [] [(I a1)] .ptr [] (.pv ((ao false) a0)) (.pv ((ao false) r.2)) ((al true) r.1):=by
 obtain⟨n,hn⟩:=ls_ h
 exact(slC_33 n) _ _ _ hn

theorem slC_25{a0:la}  {r:Ft×la}(h:slC_13 a0=some r):SatH ai 39 [] [] .ptr [] (.pv ((ao false) a0)) (.pv ((ao false) r.2)) ((al true) r.1):=by
 obtain⟨h,cs⟩:=Ro_ h
 unfold slC_13 at h
 refine SHo_ (nt:=8) (rs:=[.cell 2 29]) (n:=100000) 0 Tryz.func39 rfl rfl rfl rfl rfl (aR rfl) (by decide) (by first | exact aR rfl | exact SC) (S ?_)
 obtain⟨v5,hv5,h⟩:=rb_1 h
 refine aC (r:=0) (hc:=.cv (.pv ((ao false) a0))) 0 [] [_] [] [(.pv (I 4))] [false] (slC_1 hv5) rfl rfl rfl SC (S ?_)
 obtain⟨v7,hv7,h⟩:=rb_1 h
 refine aC (r:=0) (hc:=.cv (.pv ((ao false) v5.2))) 0 [] [_] [] [(.pv (I (IntKind.i64.wrap ((1:Int)+v5.1))))] [false] (slC_34 hv7) rfl rfl rfl SC (S ?_)
 cases rs_ h
 exact aO SC

theorem slC_24{a0:la}{a1:Int}  {r:Tt×la}(h:slC_9 a0 a1=some r):SatH ai 46 [] [(I a1)] .ptr [] (.pv ((ao false) a0)) (.pv ((ao false) r.2)) ((aj true) r.1):=by
 obtain⟨h,cs⟩:=Ro_ h
 unfold slC_9 at h
 refine SHo_ (nt:=18) (rs:=[.cell 4 26]) (n:=100000) 0 Tryz.func46 rfl rfl rfl rfl rfl (aR rfl) (by decide) (by first | exact aR rfl | exact SC) (S ?_)
 obtain⟨v8,hv8,h⟩:=rb_1 h
 refine aC (r:=0) (hc:=.cv (.pv ((ao false) a0))) (pre:=[]) (post:=[(.sl true 1 (([(⟨#[88]⟩:ByteArray),(⟨#[97]⟩:ByteArray)]).map Sx))]) 0 [] [_] [] [(.own 112)] [true] (SatH.give [true] (slC_15 hv8) (by first | rfl | simp only[gv_t,gv_f,gv_n,vs_,va_,vl_,vI_,vS_,vrB_,vrI_,az,bh,List.cons_append]) rfl) rfl rfl rfl SC (S ?_)
 replace h:=rl_ h
 refine Mg.whileN h (fun s2=>[(0,.box (.pv ((ao false) v8.2))),(1,.val (.pv (I s2.1))),(4,.box zab1),(5,.box (.node [(.pv (Sx s2.2.1)),(.own 9306)])),(20000,gh 0)]) (fun s2=>[(9306,(2,s2.2.2.map (aj true)))]) (bn (Sln_ (x:=(.node [(.pv (Sx v8.1)),(.pv (.sl true 2 []))])) 5 [1] 9306 2 NM SC SC SC) (Slm_ SC)) (fun n2 s2 h=>?_)
 refine S ?_
 refine ag cs h (fun cs h=>S ?_) fun cs h=>S ?_
 ·have h:=rs_ h
  refine aZ ⟨_,h,?_⟩
  refine Slr_ 240 9306 ?_
  exact Slm_ SC
 ·have h:=rs_ h
  cases rs_ h
  exact aO SC

theorem slC_36{a0:la}  {r:Tt×la}(h:slC_22 a0=some r):SatH ai 97 [] [] .ptr [] (.pv ((ao false) a0)) (.pv ((ao false) r.2)) ((aj true) r.1):=by
 obtain⟨h,cs⟩:=Ro_ h
 unfold slC_22 at h
 refine SHo_ (nt:=54) (rs:=[.cell 2 26]) (n:=100000) 0 Tryz.func97 rfl rfl rfl rfl rfl (aR rfl) (by decide) (by first | exact aR rfl | exact SC) (S ?_)
 refine aH (rl_ h) (fun i3 s3=>[(0,.box (.pv ((ao false) a0))),(2,.box zab1),(3,.box (.node [(.pv (Sx (⟨#[103]⟩:ByteArray))),(.own 9309)])),(4,.val (.pv (I (i3:Int)))),(20000,gh 0)]) (fun i3 s3=>[(9309,(2,s3.map (aj true)))]) (bn (Sln_ (x:=(.node [(.pv (Sx (⟨#[103]⟩:ByteArray))),(.pv (.sl true 2 []))])) 3 [1] 9309 2 NM SC SC SC) (Slm_ SC)) (fun i3 s3 hi h=>?_) (fun s3 h=>?_)
 ·have w:=ws_ i3
  refine S ?_
  refine aE cs fun cs=>S ?_
  refine aH (rl_ h) (fun i7 s7=>[(0,.box (.pv ((ao false) a0))),(2,.box zab1),(3,.box (.node [(.pv (Sx (⟨#[103]⟩:ByteArray))),(.own 9309)])),(4,.val (.pv (I (i3:Int)))),(5,.box (.node [(.pv (Sx (⟨#[104]⟩:ByteArray))),(.own 9321)])),(6,.val (.pv (I (i7:Int)))),(20000,gh 0)]) (fun i7 s7=>[(9309,(2,s3.map (aj true))),(9321,(2,s7.map (aj true)))]) (bn (Sln_ (x:=(.node [(.pv (Sx (⟨#[104]⟩:ByteArray))),(.pv (.sl true 2 []))])) 5 [1] 9321 2 NM SC SC SC) (Slm_ SC)) (fun i7 s7 hi h=>?_) (fun s7 h=>?_)
  ·have w:=ae (ws_ i7) w
   refine S ?_
   refine aE cs fun cs=>S ?_
   refine rb_ h fun v23 q h=>aK (aj true) (fun a=>bt _ a) q (S ?_)
   have h:=rs_ h
   refine aZ ⟨_,h,?_⟩
   refine Slr_ 368 9321 ?_
   exact Slm_ SWx
  ·refine S ?_
   refine aF cs fun cs=>S ?_
   refine rb_ h fun v29 q h=>aK (aj true) (fun a=>bt _ a) q (S ?_)
   have h:=rs_ h
   refine aZ ⟨_,h,?_⟩
   refine Slr_ 464 9309 ?_
   exact Slm_ SWx
 ·refine S ?_
  refine aF cs fun cs=>S ?_
  obtain⟨v32,hv32,h⟩:=rb_1 h
  refine aC (r:=0) (hc:=.cv (.pv ((ao false) a0))) 0 [] [_] [] [(.pv (I 2))] [false] (slC_11 hv32) rfl rfl rfl SC (S ?_)
  refine ag cs h (fun cs h=>S ?_) fun cs h=>S ?_
  refine rb_ h fun v35 q h=>SlcOH.mk (f:=(aj true)) q SC (S ?_)
  obtain⟨v38,hv38,h⟩:=rb_1 h
  refine aC (r:=0) (hc:=.cv (.pv ((ao false) v32.2))) 0 [] [_] [] [(.pv (I 2))] [false] (slC_11 hv38) rfl rfl rfl SC (S ?_)
  refine ag cs h (fun cs h=>S ?_) fun cs h=>S ?_
  refine ag cs h (fun cs h=>S ?_) fun cs h=>S ?_
  rotate_left 3
  obtain⟨v38,hv38,h⟩:=rb_1 h
  refine aC (r:=0) (hc:=.cv (.pv ((ao false) v32.2))) 0 [] [_] [] [(.pv (I 2))] [false] (slC_11 hv38) rfl rfl rfl SC (S ?_)
  refine ag cs h (fun cs h=>S ?_) fun cs h=>S ?_
  refine ag cs h (fun cs h=>S ?_) fun cs h=>S ?_
  rotate_left
  ·cases rs_ h
   exact aO SC
  ·cases rs_ h
   exact aO SC
  rotate_left
  ·cases rs_ h
   exact aO SC
  ·cases rs_ h
   exact aO SC
  all_goals
   refine rb_ h fun v51 q h=>aK (aj true) (fun a=>bt _ a) q (S ?_)
   cases rs_ h
   exact aO SC

theorem slC_26{a0:la}  {r:Tt×la}(h:slC_17 a0=some r):SatH ai 41 [] [] .ptr [] (.pv ((ao false) a0)) (.pv ((ao false) r.2)) ((aj true) r.1):=by
 obtain⟨h,cs⟩:=Ro_ h
 unfold slC_17 at h
 refine SHo_1 (nt:=57) (rs:=[.cell 2 26]) (n:=100000) 0 Tryz.func41 rfl rfl rfl rfl rfl (aR rfl) (by decide) (by first | exact aR rfl | exact SC) (S ?_)
 refine MFr_ (S ?_)
 refine MFr_ (S ?_)
 obtain⟨v5,hv5,h⟩:=rb_1 h
 refine aC (r:=0) (hc:=.cv (.pv ((ao false) a0))) 0 [] [] [] [] [] (slC_10 hv5) rfl rfl rfl SC (S ?_)
 refine MFr_ (S ?_)
 obtain⟨v7,hv7,h⟩:=rb_1 h
 refine aC (r:=0) (hc:=.cv (.pv ((ao false) v5.2))) 0 [] [_] [] [(.pv (I 24))] [false] (slC_1 hv7) rfl rfl rfl SC (S ?_)
 refine MFr_ (S ?_)
 refine ag cs h (fun cs h=>S ?_) fun cs h=>S ?_
 rotate_left
 refine MFr_ (S ?_)
 refine ag cs h (fun cs h=>S ?_) fun cs h=>S ?_
 rotate_left
 refine MFr_ (S ?_)
 refine ag cs h (fun cs h=>S ?_) fun cs h=>S ?_
 rotate_left
 refine MFr_ (S ?_)
 refine ag cs h (fun cs h=>S ?_) fun cs h=>S ?_
 rotate_left
 refine MFr_ (S ?_)
 refine ag cs h (fun cs h=>S ?_) fun cs h=>S ?_
 refine MFr_ (S ?_)
 refine ag cs h (fun cs h=>S ?_) fun cs h=>S ?_
 ·obtain⟨v48,hv48,h⟩:=rb_1 h
  obtain⟨v53,hv53,h⟩:=rb_1 h
  obtain⟨xs,hxs⟩:=idx0 hv53
  have hx0:v5.1.Args.map (aj true)=.agg [Sx v53.Name,.sl true 2 (v53.Args.map (aj true))]::xs.map (aj true):=by rw[hxs,List.map_cons,Tt.pv_u]
  refine MgF.split (sz:=2) (es:=v5.1.Args.map (aj true)) (sz':=2) (es':=v53.Args.map (aj true)) 80 0 9700 20001 [1] (fun v=>.agg [Sx v53.Name,.lit v]::xs.map (aj true)) (fun v=>by rw[hx0]; rfl) SC (by rw[hx0]; exact⟨Nat.succ_pos _,rfl,rfl⟩) (aR rfl) (S fun u=>?_)
  refine MFd_ (ae mixed (S ?_))
  refine aC (r:=0) (hc:=.cv (.pv ((ao false) v7.2))) (pre:=[]) (post:=[(.sl true 1 (([(⟨#[61]⟩:ByteArray),(⟨#[]⟩:ByteArray),(⟨#[81,49]⟩:ByteArray),(⟨#[98,50]⟩:ByteArray)]).map Sx))]) 0 [] [_] [] [(.own 752)] [true] (SatH.give [true] (slC_15 hv48) (by first | rfl | simp only[gv_t,gv_f,gv_n,vs_,va_,vl_,vI_,vS_,vrB_,vrI_,az,bh,List.cons_append]) rfl) rfl rfl rfl SC (S ?_)
  refine IHr_ (by simp only[List.length_cons]; omega) (S ?_)
  refine EldH.hd (S ?_)
  refine IHr_ (by simp only[List.length_cons]; omega) (S ?_)
  refine EldH.hd (S ?_)
  refine ae (DHa_ [] [752]) (S ?_)
  refine MgF.meld (sz:=2) (es:=.agg [Sx v48.1,.lit u]::xs.map (aj true)) (sz':=2) (es':=v53.Args.map (aj true)) 80 0 9700 20001 [1] u ((v5.1.Args.set (0:Int).toNat (Tt.mk v48.1 v53.Args)).map (aj true)) (by rw[hxs]; show _=List.map (aj true) (Tt.mk v48.1 v53.Args::xs); rw[List.map_cons,Tt.pv_u]; rfl) SC (by decide) ⟨Nat.succ_pos _,rfl,rfl⟩ (aR rfl) (S ?_)
  refine MFr_ (S ?_)
  cases rs_ h
  exact aO SC
 rotate_left 2
 ·refine MFr_ (S ?_)
  obtain⟨v12,hv12,h⟩:=rb_1 h
  refine aC (r:=0) (hc:=.cv (.pv ((ao false) v7.2))) (pre:=[]) (post:=[(.sl true 1 (([(⟨#[]⟩:ByteArray),(⟨#[116,114,117,101]⟩:ByteArray),(⟨#[116,114,117,116,104]⟩:ByteArray),(⟨#[105,102]⟩:ByteArray),(⟨#[88,121,122,57]⟩:ByteArray),(⟨#[88,121,122,57,57]⟩:ByteArray),(⟨#[120,65]⟩:ByteArray),(⟨#[97,95,98]⟩:ByteArray),(⟨#[97,98,99,100,101,102]⟩:ByteArray),(⟨#[97,98,99,100,101,102,103]⟩:ByteArray),(⟨#[95,97]⟩:ByteArray),(⟨#[57]⟩:ByteArray),(⟨#[88,95]⟩:ByteArray),(⟨#[61]⟩:ByteArray)]).map Sx))]) 0 [] [_] [] [(.own 176)] [true] (SatH.give [true] (slC_15 hv12) (by first | rfl | simp only[gv_t,gv_f,gv_n,vs_,va_,vl_,vI_,vS_,vrB_,vrI_,az,bh,List.cons_append]) rfl) rfl rfl rfl SC (S ?_)
  refine MFr_ (S ?_)
  cases rs_ h
  exact aO SC
 ·refine MFr_ (S ?_)
  obtain⟨v18,hv18,h⟩:=rb_1 h
  refine aC (r:=0) (hc:=.cv (.pv ((ao false) v7.2))) 0 [] [_] [] [(.pv (I 3))] [false] (slC_1 hv18) rfl rfl rfl SC (S ?_)
  obtain⟨v20,hv20,h⟩:=rb_1 h
  refine aC (r:=0) (hc:=.cv (.pv ((ao false) v18.2))) 0 [] [_] [] [(.pv (I (IntKind.i64.wrap ((7:Int)+v18.1))))] [false] (slC_24 hv20) rfl rfl rfl SC (S ?_)
  cases rs_ h
  exact aO SC
 ·refine MFr_ (S ?_)
  obtain⟨v24,hv24,h⟩:=rb_1 h
  refine aC (r:=0) (hc:=.cv (.pv ((ao false) v7.2))) 0 [] [] [] [] [] (slC_36 hv24) rfl rfl rfl SC (S ?_)
  cases rs_ h
  exact aO SC
 ·refine MFd_ (ae mixed (S ?_))
  obtain⟨v30,hv30,h⟩:=rb_1 h
  refine aC (r:=0) (hc:=.cv (.pv ((ao false) v7.2))) 0 [] [] [] [] [] (slC_10 hv30) rfl rfl rfl SC (S ?_)
  obtain⟨v32,hv32,h⟩:=rb_1 h
  refine aC (r:=0) (hc:=.cv (.pv ((ao false) v30.2))) 0 [] [] [] [] [] (slC_10 hv32) rfl rfl rfl SC (S ?_)
  obtain⟨v34,hv34,h⟩:=rb_1 h
  refine aC (r:=0) (hc:=.cv (.pv ((ao false) v32.2))) 0 [] [] [] [] [] (slC_10 hv34) rfl rfl rfl SC (S ?_)
  refine rb_ h fun v36 q h=>aK (aj true) (fun a=>bt _ a) q (S ?_)
  refine ae (DHa_ [] [480,512,544,560,576]) (S ?_)
  refine MFr_ (S ?_)
  cases rs_ h
  exact aO SC
 all_goals
  refine MFr_ (S ?_)
  cases rs_ h
  exact aO SC


theorem slS_12(n:Nat):(∀ (a0:Ft) (r:Int),slS_2 n a0=some r→Sat ai 42 [((al false) a0)] (I r)):=by
 induction n with
 | zero=>exact fun _ _ h=>by simp[slS_2] at h
 | succ n ih=>
  refine fun a0 r h=>?_
  obtain⟨h,cs⟩:=Ro_ h
  rw[slS_2] at h
  refine Sg_ 21 [.tmp 2] Tryz.func42 (h:=S ?_)
  refine Mkv_ (b:=false) (sz:=5) (es:=a0.Parts.map (al false)) (x:=(.pv ((al false) a0))) 0 [3] SC fun hl0=>?_; rw[aw] at hl0
  refine aH (rl_ h) (fun i3 s3=>[(1,.box (.pv ((al false) a0))),(3,.val (.pv (I s3))),(4,.val (.pv (I (i3:Int))))]) (fun i3 s3=>[]) (Slm_ SC) (fun i3 s3 hi h=>?_) (fun s3 h=>?_)
  ·have w:=ws_ i3
   refine S ?_
   refine aE cs fun cs=>S ?_
   refine rb_ h fun v16 q h=>am (al false) q (S ?_)
   refine rb_ h fun v18 q h=>ak [false] (ih _ _ q) (S ?_)
   exact aI h
  ·refine S ?_
   refine aF cs fun cs=>S ?_
   exact FHz_ h
theorem slS_14{a0:Ft}{r:Int}(h:slS_7 a0=some r):Sat ai 42 [((al false) a0)] (I r):=by
 obtain⟨n,hn⟩:=ls_ h
 exact(slS_12 n) _ _ hn

theorem slC_31{a0:la}  {r:Ft×la}(h:slC_4 a0=some r):SatH ai 16 [] [] .ptr [] (.pv ((ao false) a0)) (.pv ((ao false) r.2)) ((al true) r.1):=by
 obtain⟨h,cs⟩:=Ro_ h
 unfold slC_4 at h
 refine SHo_ (nt:=59) (rs:=[.cell 2 29]) (n:=100000) 0 Tryz.func16 rfl rfl rfl rfl rfl (aR rfl) (by decide) (by first | exact aR rfl | exact SC) (S ?_)
 obtain⟨v6,hv6,h⟩:=rb_1 h
 refine aC (r:=0) (hc:=.cv (.pv ((ao false) a0))) 0 [] [] [] [] [] (slC_25 hv6) rfl rfl rfl SC (S ?_)
 obtain⟨v8,hv8,h⟩:=rb_1 h
 refine aC (r:=0) (hc:=.cv (.pv ((ao false) v6.2))) 0 [] [_] [] [(.pv (I 24))] [false] (slC_1 hv8) rfl rfl rfl SC (S ?_)
 refine ag cs h (fun cs h=>S ?_) fun cs h=>S ?_
 rotate_left
 refine ag cs h (fun cs h=>S ?_) fun cs h=>S ?_
 rotate_left
 refine ag cs h (fun cs h=>S ?_) fun cs h=>S ?_
 rotate_left
 refine ag cs h (fun cs h=>S ?_) fun cs h=>S ?_
 rotate_left
 refine ag cs h (fun cs h=>S ?_) fun cs h=>S ?_
 obtain⟨v37,hv37,h⟩:=rb_1 h
 refine aC (r:=0) (hc:=.cv (.pv ((ao false) v8.2))) 0 [] [_] [] [(.pv (I 5))] [false] (slC_1 hv37) rfl rfl rfl SC (S ?_)
 replace h:=rl_ h
 refine Mg.whileN h (fun s13=>[(0,.box (.pv ((ao false) v37.2))),(2,.box zab0),(3,.box (.node [(.pv (I s13.1)),(.node [(.pv (Sx s13.2.1)),(.own 96)]),(.pv (Sx s13.2.2.2.1)),(.own 97)])),(4,.val (.pv (I (IntKind.i64.wrap ((36:Int)+v37.1))))),(20000,gh 0)]) (fun s13=>[(96,(2,s13.2.2.1.map (aj true))),(97,(5,s13.2.2.2.2.map (al true)))]) (Slm_ SC) (fun n13 s13 h=>?_)
 refine S ?_
 refine rb_ h fun v40 q h=>ak [false] (slS_14 q) (S ?_)
 refine ag cs h (fun cs h=>S ?_) fun cs h=>S ?_
 rotate_left 2
 refine ag cs h (fun cs h=>S ?_) fun cs h=>S ?_
 refine ag cs h (fun cs h=>S ?_) fun cs h=>S ?_
 ·obtain⟨v55,hv55,h⟩:=rb_1 h
  refine aC (r:=0) (hc:=.cv (.pv ((ao false) v8.2))) 0 [] [_] [] [(.pv (I 11))] [false] (slC_1 hv55) rfl rfl rfl SC (S ?_)
  refine rb_ h fun v56 q h=>am (al true) q (S ?_)
  refine rb_ h fun w9 q h=>EldH.c (al true) q (S ?_)
  refine ae (DHa_ [] []) (S ?_)
  cases rs_ h
  exact aO SC
 rotate_left 2
 ·obtain⟨v12,hv12,h⟩:=rb_1 h
  refine aC (r:=0) (hc:=.cv (.pv ((ao false) v8.2))) 0 [] [_] [] [(.pv (I 11))] [false] (slC_1 hv12) rfl rfl rfl SC (S ?_)
  cases rs_ h
  exact aO SC
 ·obtain⟨v18,hv18,h⟩:=rb_1 h
  refine aC (r:=0) (hc:=.cv (.pv ((ao false) v8.2))) (pre:=[]) (post:=[(.sl true 1 (([(⟨#[88]⟩:ByteArray),(⟨#[97]⟩:ByteArray),(⟨#[]⟩:ByteArray)]).map Sx))]) 0 [] [_] [] [(.own 272)] [true] (SatH.give [true] (slC_15 hv18) (by first | rfl | simp only[gv_t,gv_f,gv_n,vs_,va_,vl_,vI_,vS_,vrB_,vrI_,az,bh,List.cons_append]) rfl) rfl rfl rfl SC (S ?_)
  cases rs_ h
  exact aO SC
 ·obtain⟨v23,hv23,h⟩:=rb_1 h
  refine aC (r:=0) (hc:=.cv (.pv ((ao false) v8.2))) 0 [] [] [] [] [] (slC_26 hv23) rfl rfl rfl SC (S ?_)
  cases rs_ h
  exact aO SC
 ·obtain⟨v30,hv30,h⟩:=rb_1 h
  refine aC (r:=0) (hc:=.cv (.pv ((ao false) v8.2))) 0 [] [] [] [] [] (slC_25 hv30) rfl rfl rfl SC (S ?_)
  refine rb_ h fun v32 q h=>aK (al true) (fun a=>Ft.psize _ a) q (S ?_)
  refine ae (DHa_ [] [480,481,496,512]) (S ?_)
  cases rs_ h
  exact aO SC
 ·have h:=rs_ h
  refine aZ ⟨_,h,?_⟩
  refine bn (Slm_1 (S:=[(0,.box (.pv ((ao false) v37.2))),(2,.box zab0),(3,.box (.node [(.pv (I 4)),zab1,(.pv (Sx ⟨#[]⟩)),(.own 704)])),(4,.val (.pv (I (IntKind.i64.wrap ((36:Int)+v37.1))))),(20000,gh 0)]) (O:=[(704,(5,([(Ft.mk s13.1 (Tt.mk s13.2.1 s13.2.2.1) s13.2.2.2.1 s13.2.2.2.2)]).map (al true)))]) SC SC) ?_
  refine bn (Sln_ (x:=(.node [(.pv (I 4)),zab1,(.pv (Sx ⟨#[]⟩)),(.own 704)])) 3 [1,1] 9766 2 NM SC SC SC) (S ?_)
  refine Slr_ 704 97 ?_
  refine Slr_ 9766 96 ?_
  exact Slm_ SC
 ·have h:=rs_ h
  cases rs_ h
  exact aO SC
 all_goals
  cases rs_ h
  exact aO SC

theorem slW_3{a0:ByteArray}  {r:Tt×Bool}(h:slW_1 a0=some r):Sat ai 154 [(Sx a0)] (.tup [((aj true) r.1),(B r.2)]):=by
 obtain⟨h,cs⟩:=Ro_ h
 unfold slW_1 at h
 refine Sg_ 22 [.cell 2 26,.tmp 3] Tryz.func154 (h:=S ?_)
 refine rb_ h fun v8 q h=>ak [false,false] (slR_5 q) (S ?_)
 refine ag cs h (fun cs h=>S ?_) fun cs h=>S ?_
 refine rb_ h fun v17 q h=>ak [false] (slG_3 q) (S ?_)
 refine ag cs h (fun cs h=>S ?_) fun cs h=>S ?_
 all_goals
  exact FHz_ h

theorem sPT_1{a0:ByteArray}  {r:Tt×Bool}(h:sPT_ a0=some r):Sat ai 100 [(Sx a0)] (.tup [((aj true) r.1),(B r.2)]):=by
 obtain⟨h,cs⟩:=Ro_ h
 unfold sPT_ at h
 refine Sg_ 12 [.cell 2 26,.tmp 3] Tryz.func100 (h:=S ?_)
 refine ag cs h (fun cs h=>S ?_) fun cs h=>S ?_
 ·exact FHz_ h
 ·refine rb_ h fun v9 q h=>ak [false] (slW_3 q) (S ?_)
  exact FHz_ h

theorem slT_6{a0:la}{a1:List ByteArray}  {r:Tt×la}(h:slT_2 a0 a1=some r):SatH ai 44 [] [(.sl false 1 (a1.map Sx))] .ptr [] (.pv ((ao false) a0)) (.pv ((ao false) r.2)) ((aj true) r.1):=by
 obtain⟨h,cs⟩:=Ro_ h
 unfold slT_2 at h
 refine SHo_ (nt:=15) (rs:=[.cell 4 26]) (n:=100000) 0 Tryz.func44 rfl rfl rfl rfl rfl (aR rfl) (by decide) (by first | exact aR rfl | exact SC) (S ?_)
 obtain⟨v10,hv10,h⟩:=rb_1 h
 refine aC (r:=0) (hc:=.cv (.pv ((ao false) a0))) 0 [] [_] [] [(.pv (.sl false 1 (a1.map Sx)))] [false] (slC_15 hv10) rfl rfl rfl SC (S ?_)
 refine rb_ h fun v11 q h=>ak [false] (sPT_1 q) (S ?_)
 cases rs_ h
 exact aO SC

theorem slT_7{a0:ByteArray}{a1:ByteArray}  {r:Int}(h:slT_3 a0 a1=some r):Sat ai 153 [(Sx a0),(Sx a1)] (I r):=by
 obtain⟨h,cs⟩:=Ro_ h
 unfold slT_3 at h
 refine Sg_ 13 [.tmp 4] Tryz.func153 (h:=S ?_)
 refine ag cs h (fun cs h=>S ?_) fun cs h=>S ?_
 ·exact FHz_ h
 ·refine ag cs h (fun cs h=>S ?_) fun cs h=>S ?_
  ·exact FHz_ h
  ·exact FHz_ h

theorem slC_37(n:Nat):(∀ (a0:Tt) (a1:Tt) (r:Int),slC_5 n a0 a1=some r→Sat ai 98 [((aj false) a0),((aj false) a1)] (I r)):=by
 induction n with
 | zero=>exact fun _ _ _ h=>by simp[slC_5] at h
 | succ n ih=>
  refine fun a0 a1 r h=>?_
  obtain⟨h,cs⟩:=Ro_ h
  rw[slC_5] at h
  refine Sg_ 75 [.tmp 4] Tryz.func98 (h:=S ?_)
  refine rb_ h fun v11 q h=>ak [false] (slV_1 q) (S ?_)
  refine rb_ h fun v14 q h=>ak [false] (slV_1 q) (S ?_)
  refine ae (DHa_ [] []) (S ?_)
  refine ag cs h (fun cs h=>S ?_) fun cs h=>S ?_
  refine ag cs h (fun cs h=>S ?_) fun cs h=>S ?_
  refine ag cs h (fun cs h=>S ?_) fun cs h=>S ?_
  refine ag cs h (fun cs h=>S ?_) fun cs h=>S ?_
  rotate_left
  refine ag cs h (fun cs h=>S ?_) fun cs h=>S ?_
  rotate_left 4
  refine ag cs h (fun cs h=>S ?_) fun cs h=>S ?_
  rotate_left
  refine ag cs h (fun cs h=>S ?_) fun cs h=>S ?_
  refine ag cs h (fun cs h=>S ?_) fun cs h=>S ?_
  rotate_left
  refine ag cs h (fun cs h=>S ?_) fun cs h=>S ?_
  ·exact FHz_ h
  rotate_left
  ·refine rb_ h fun v37 q h=>ak [false,false] (slT_7 q) (S ?_)
   exact FHz_ h
  ·exact FHz_ h
  ·exact FHz_ h
  rotate_left
  ·refine rb_ h fun v37 q h=>ak [false,false] (slT_7 q) (S ?_)
   exact FHz_ h
  ·exact FHz_ h
  ·exact FHz_ h
  ·exact FHz_ h
  all_goals
   refine aV (b:=false) (sz:=2) (es:=a0.Args.map (aj false)) 40 SC fun hl40=>?_; rw[aw] at hl40
   refine aH (rl_ h) (fun i13 s13=>[(2,.box (.pv ((aj false) a0))),(3,.box (.pv ((aj false) a1))),(7,.val (.pv (I (i13:Int))))]) (fun i13 s13=>[]) (Slm_ SC) (fun i13 s13 hi h=>?_) (fun s13 h=>?_)
   ·have w:=ws_ i13
    refine S ?_
    refine aE cs fun cs=>S ?_
    refine rb_ h fun v64 q h=>am (aj false) q (S ?_)
    refine rb_ h fun v69 q h=>am (aj false) q (S ?_)
    refine rb_ h fun v71 q h=>ak [false,false] (ih _ _ _ q) (S ?_)
    refine ae (DHa_ [] []) (S ?_)
    refine ag cs h (fun cs h=>S ?_) fun cs h=>S ?_
    ·exact aI h
    ·exact FHz_ h
   ·refine S ?_
    refine aF cs fun cs=>S ?_
    exact FHz_ h
theorem slC_30{a0:Tt}{a1:Tt}{r:Int}(h:slC_18 a0 a1=some r):Sat ai 98 [((aj false) a0),((aj false) a1)] (I r):=by
 obtain⟨n,hn⟩:=ls_ h
 exact(slC_37 n) _ _ _ hn

theorem slS_13(n:Nat):(∀ (a0:Tt) (a1:Tt) (r:Bool),slS_4 n a0 a1=some r→Sat ai 99 [((aj false) a0),((aj false) a1)] (B r)):=by
 induction n with
 | zero=>exact fun _ _ _ h=>by simp[slS_4] at h
 | succ n ih=>
  refine fun a0 a1 r h=>?_
  obtain⟨h,cs⟩:=Ro_ h
  rw[slS_4] at h
  refine Sg_ 39 [.tmp 4] Tryz.func99 (h:=S ?_)
  refine ag cs h (fun cs h=>S ?_) fun cs h=>S ?_
  refine ag cs h (fun cs h=>S ?_) fun cs h=>S ?_
  ·refine aV (b:=false) (sz:=2) (es:=a0.Args.map (aj false)) 13 SC fun hl13=>?_; rw[aw] at hl13
   refine aH (rl_ h) (fun i4 s4=>[(2,.box (.pv ((aj false) a0))),(3,.box (.pv ((aj false) a1))),(5,.val (.pv (I (i4:Int))))]) (fun i4 s4=>[]) (Slm_ SC) (fun i4 s4 hi h=>?_) (fun s4 h=>?_)
   ·have w:=ws_ i4
    refine S ?_
    refine aE cs fun cs=>S ?_
    refine rb_ h fun v30 q h=>am (aj false) q (S ?_)
    refine rb_ h fun v35 q h=>am (aj false) q (S ?_)
    refine rb_ h fun v37 q h=>ak [false,false] (ih _ _ _ q) (S ?_)
    refine ae (DHa_ [] []) (S ?_)
    refine ag cs h (fun cs h=>S ?_) fun cs h=>S ?_
    ·exact aI h
    ·exact FHz_ h
   ·refine S ?_
    refine aF cs fun cs=>S ?_
    exact FHz_ h
  all_goals
   exact FHz_ h
theorem slS_15{a0:Tt}{a1:Tt}{r:Bool}(h:slS_9 a0 a1=some r):Sat ai 99 [((aj false) a0),((aj false) a1)] (B r):=by
 obtain⟨n,hn⟩:=ls_ h
 exact(slS_13 n) _ _ _ hn

theorem slP_6{a0:List Tt}{a1:Tt}  {r:List Tt}(h:slP_3 a0 a1=some r):Sat ai 43 [(.sl true 2 (a0.map (aj false))),((aj false) a1)] (.sl true 2 (r.map (aj false))):=by
 obtain⟨h,cs⟩:=Ro_ h
 unfold slP_3 at h
 refine Som_ (nt:=46) (rs:=[.tmp 4]) (n:=100000) Tryz.func43 rfl rfl rfl rfl (by simp) (S ?_)
 refine MFr_ (S ?_)
 refine MFr_ (S ?_)
 refine MgF.know_own (sz:=2) (es:=a0.map (aj false)) 9000 SC fun hl9000=>?_; rw[aw] at hl9000
 replace h:=rl_ h
 refine MgF.forN h (fun i2 s2=>[(0,.val (.own 9000)),(3,.box (.pv ((aj false) a1))),(5,.val (.pv (I (i2:Int))))]) (fun i2 s2=>[(9000,(2,a0.map (aj false)))]) (Slm_ SC) (fun i2 s2 hi h=>?_) (fun s2 h=>?_)
 ·have w:=ws_ i2
  refine S ?_
  refine MFd_ (S ?_)
  refine aE cs fun cs=>S ?_
  refine rb_ h fun v13 q h=>am (aj false) q (S ?_)
  refine rb_ h fun v14 q h=>EldH.c (aj false) q (S ?_)
  refine rb_ h fun v16 q h=>ak [false,false] (slC_30 q) (S ?_)
  refine ae (DHa_ [] []) (S ?_)
  refine ag cs h (fun cs h=>S ?_) fun cs h=>S ?_
  ·refine MFr_ (S ?_)
   have h:=rs_ h
   try simp only[cs] at h
   refine aZ ⟨_,h,?_⟩
   exact Slm_ SWx
  ·refine MFd_ (S ?_)
   refine rb_ h fun v28 q h=>am (aj false) q (S ?_)
   refine rb_ h fun v29 q h=>EldH.c (aj false) q (S ?_)
   refine rb_ h fun v31 q h=>ak [false,false] (slS_15 q) (S ?_)
   refine ae (DHa_ [] []) (S ?_)
   refine ag cs h (fun cs h=>S ?_) fun cs h=>S ?_
   ·refine MFr_ (S ?_)
    exact FHz_ h
   ·refine MFw_ (Sld_1 (x:=(.own 9000)) (sz:=2) (es:=a0.map (aj false)) 0 [] 9000 SC) (S ?_)
    refine MFd_ (S ?_)
    refine rb_ h fun v37 q h=>SlcH.mk (f:=(aj false)) q SC (S ?_)
    refine rb_ h fun v38 q h=>aK (aj false) (fun a=>bt _ a) q (S ?_)
    refine rb_ h fun v41 q h=>aK (aj false) (fun a=>bt _ a) q (S ?_)
    refine rb_ h fun v44 q h=>SlcH.mk (f:=(aj false)) q SC (S ?_)
    refine rb_ h fun v45 q h=>aK (aj false) (fun a=>bt _ a) q (S ?_)
    refine ae (DHa_ [] [544,608,640,656,720]) (S ?_)
    exact FHz_ h
 ·refine S ?_
  refine MFd_ (S ?_)
  refine aF cs fun cs=>S ?_
  refine ae (DHa_ [] []) (S ?_)
  refine MFd_ (S ?_)
  refine ae (DHa_ [] []) (S ?_)
  refine MFw_ (Sld_1 (x:=(.own 9000)) (sz:=2) (es:=a0.map (aj false)) 0 [] 9000 SC) (S ?_)
  refine MFd_ (S ?_)
  refine rb_ h fun v37 q h=>SlcH.mk (f:=(aj false)) q SC (S ?_)
  refine rb_ h fun v38 q h=>aK (aj false) (fun a=>bt _ a) q (S ?_)
  refine rb_ h fun v41 q h=>aK (aj false) (fun a=>bt _ a) q (S ?_)
  refine rb_ h fun v44 q h=>SlcH.mk (f:=(aj false)) q SC (S ?_)
  refine rb_ h fun v45 q h=>aK (aj false) (fun a=>bt _ a) q (S ?_)
  refine ae (DHa_ [] [544,608,640,656,720]) (S ?_)
  exact FHz_ h

theorem slP_10{a0:List ByteArray}{a1:ByteArray}  {r:List ByteArray}(h:slP_5 a0 a1=some r):Sat ai 175 [(.sl false 1 (a0.map Sx)),(Sx a1)] (.sl false 1 (r.map Sx)):=by
 obtain⟨h,cs⟩:=Ro_ h
 unfold slP_5 at h
 refine Sg_ 45 [.tmp 4] Tryz.func175 (h:=S ?_)
 refine aV (b:=false) (sz:=1) (es:=a0.map Sx) 0 SC fun hl0=>?_; rw[aw] at hl0
 refine aH (rl_ h) (fun i2 s2=>[(0,.val (.pv (.sl false 1 (a0.map Sx)))),(1,.val (.pv (Sx a1))),(5,.val (.pv (I (i2:Int))))]) (fun i2 s2=>[]) (Slm_ SC) (fun i2 s2 hi h=>?_) (fun s2 h=>?_)
 ·have w:=ws_ i2
  refine S ?_
  refine aE cs fun cs=>S ?_
  refine rb_ h fun v13 q h=>am Sx q (S ?_)
  refine ag cs h (fun cs h=>S ?_) fun cs h=>S ?_
  ·exact aI h
  ·refine rb_ h fun v27 q h=>am Sx q (S ?_)
   refine ag cs h (fun cs h=>S ?_) fun cs h=>S ?_
   ·exact FHz_1 h
   ·refine rb_ h fun v36 q h=>SlcH.mk (f:=Sx) q SC (S ?_)
    refine rb_ h fun v37 q h=>aK Sx (fun _=>rfl) q (S ?_)
    refine rb_ h fun v40 q h=>aK Sx (fun _=>rfl) q (S ?_)
    refine rb_ h fun v43 q h=>SlcH.mk (f:=Sx) q SC (S ?_)
    refine rb_ h fun v44 q h=>aK Sx (fun _=>rfl) q (S ?_)
    refine ae (DHa_ [] [528,592,624,640,704]) (S ?_)
    exact FHz_1 h
 ·refine S ?_
  refine aF cs fun cs=>S ?_
  refine rb_ h fun v36 q h=>SlcH.mk (f:=Sx) q SC (S ?_)
  refine rb_ h fun v37 q h=>aK Sx (fun _=>rfl) q (S ?_)
  refine rb_ h fun v40 q h=>aK Sx (fun _=>rfl) q (S ?_)
  refine rb_ h fun v43 q h=>SlcH.mk (f:=Sx) q SC (S ?_)
  refine rb_ h fun v44 q h=>aK Sx (fun _=>rfl) q (S ?_)
  refine ae (DHa_ [] [528,592,624,640,704]) (S ?_)
  exact FHz_1 h

theorem slI_9(n:Nat):(∀ (a0:List ByteArray) (a1:Tt) (r:List ByteArray),slI_ n a0 a1=some r→Sat ai 134 [(.sl false 1 (a0.map Sx)),((aj false) a1)] (.sl false 1 (r.map Sx))):=by
 induction n with
 | zero=>exact fun _ _ _ h=>by simp[slI_] at h
 | succ n ih=>
  refine fun a0 a1 r h=>?_
  obtain⟨h,cs⟩:=Ro_ h
  rw[slI_] at h
  refine Sg_ 28 [.tmp 4] Tryz.func134 (h:=S ?_)
  refine rb_ h fun v8 q h=>ak [false] (slV_1 q) (S ?_)
  refine ag cs h (fun cs h=>S ?_) fun cs h=>S ?_
  ·refine rb_ h fun v12 q h=>ak [false,false] (slP_10 q) (S ?_)
   exact FHz_1 h
  ·refine Mkv_ (b:=false) (sz:=2) (es:=a1.Args.map (aj false)) (x:=(.pv ((aj false) a1))) 1 [1] SC fun hl1=>?_; rw[aw] at hl1
   refine aH (rl_ h) (fun i4 s4=>[(0,.val (.pv (.sl false 1 (s4.map Sx)))),(3,.box (.pv ((aj false) a1))),(5,.val (.pv (I (i4:Int))))]) (fun i4 s4=>[]) (Slm_ SC) (fun i4 s4 hi h=>?_) (fun s4 h=>?_)
   ·have w:=ws_ i4
    refine S ?_
    refine aE cs fun cs=>S ?_
    refine rb_ h fun v24 q h=>am (aj false) q (S ?_)
    refine rb_ h fun v26 q h=>ak [false,false] (ih _ _ _ q) (S ?_)
    exact aI h
   ·refine S ?_
    refine aF cs fun cs=>S ?_
    exact FHz_1 h
theorem slI_11{a0:List ByteArray}{a1:Tt}{r:List ByteArray}(h:slI_4 a0 a1=some r):Sat ai 134 [(.sl false 1 (a0.map Sx)),((aj false) a1)] (.sl false 1 (r.map Sx)):=by
 obtain⟨n,hn⟩:=ls_ h
 exact(slI_9 n) _ _ _ hn

theorem slV_3{a0:Tt}  {r:List ByteArray}(h:slV_ a0=some r):Sat ai 78 [((aj false) a0)] (.sl false 1 (r.map Sx)):=by
 obtain⟨h,cs⟩:=Ro_ h
 unfold slV_ at h
 refine Sg_ 6 [.tmp 2] Tryz.func78 (h:=S ?_)
 refine rb_ h fun v5 q h=>ak [true,false] (Sat.give (args:=[(.sl true 1 (([]).map Sx)),((aj false) a0)]) [true,false] (by have gg:=slI_11 q; simp only[gv_t,gv_f,gv_n,vs_,va_,vl_,vrB_,vrI_,az,RB,RS] at gg ⊢; exact gg)) (S ?_)
 exact FHz_1 h

theorem slG_6{a0:Tt}  {r:Bool}(h:slG_2 a0=some r):Sat ai 47 [((aj false) a0)] (B r):=by
 obtain⟨h,cs⟩:=Ro_ h
 unfold slG_2 at h
 refine Sg_ 7 [.tmp 2] Tryz.func47 (h:=S ?_)
 refine rb_ h fun v4 q h=>ak [false] (slV_3 q) (S ?_)
 exact FHz_ h

theorem slC_23{a0:la}  {r:Dt×la}(h:slC_12 a0=some r):SatH ai 17 [] [] .ptr [] (.pv ((ao false) a0)) (.pv ((ao false) r.2)) ((Dt.pv false) r.1):=by
 obtain⟨h,cs⟩:=Ro_ h
 unfold slC_12 at h
 refine SHo_1 (nt:=104) (rs:=[.cell 2 31]) (n:=100000) 0 Tryz.func17 rfl rfl rfl rfl rfl (aR rfl) (by decide) (by first | exact aR rfl | exact SC) (S ?_)
 refine MFr_ (S ?_)
 refine MFr_ (S ?_)
 refine MFr_ (S ?_)
 refine MFr_ (S ?_)
 refine MFr_ (S ?_)
 obtain⟨v14,hv14,h⟩:=rb_1 h
 refine aC (r:=0) (hc:=.cv (.pv ((ao false) a0))) 0 [] [_] [] [(.pv (I 4))] [false] (slC_1 hv14) rfl rfl rfl SC (S ?_)
 replace h:=rl_ h
 refine MgF.whileN h (fun s5=>[(0,.box (.pv ((ao false) s5.1))),(2,.box (.node [(.pv (.sl true 2 [])),(.pv (.sl true 2 []))])),(3,.box (.node [(.own 9315),(.pv (.sl true 2 []))])),(4,.val (.pv (.sl false 1 (([(⟨#[102,40,65,41]⟩:ByteArray),(⟨#[103,40,65,44,97,41]⟩:ByteArray),(⟨#[65]⟩:ByteArray),(⟨#[103,40,65,44,65,41]⟩:ByteArray),(⟨#[102,40,102,40,65,41,41]⟩:ByteArray),(⟨#[97]⟩:ByteArray),(⟨#[102,40,98,41]⟩:ByteArray)]).map Sx)))),(5,.val (.own 192)),(6,.val (.pv (I s5.2.1))),(20000,gh 0)]) (fun s5=>[(9315,(2,s5.2.2.map (aj false))),(192,(1,([(⟨#[97]⟩:ByteArray),(⟨#[98]⟩:ByteArray),(⟨#[102,40,97,41]⟩:ByteArray),(⟨#[99]⟩:ByteArray),(⟨#[103,40,97,44,98,41]⟩:ByteArray)]).map Sx))]) (bn (Sln_ (x:=(.node [(.pv (.sl true 2 [])),(.pv (.sl true 2 []))])) 3 [0] 9315 2 NM SC SC SC) (bn (Sld_1 (x:=(.own 176)) (sz:=(1)) (es:=([(⟨#[102,40,65,41]⟩:ByteArray),(⟨#[103,40,65,44,97,41]⟩:ByteArray),(⟨#[65]⟩:ByteArray),(⟨#[103,40,65,44,65,41]⟩:ByteArray),(⟨#[102,40,102,40,65,41,41]⟩:ByteArray),(⟨#[97]⟩:ByteArray),(⟨#[102,40,98,41]⟩:ByteArray)]).map Sx) 4 [] 176 SC) (Slm_ SC))) (fun n5 s5 h=>?_)
 refine S ?_
 refine MFr_ (S ?_)
 refine ag cs h (fun cs h=>S ?_) fun cs h=>S ?_
 rotate_left
 have h:=rs_ h
 refine MFr_ (S ?_)
 obtain⟨v27,hv27,h⟩:=rb_1 h
 refine aC (r:=0) (hc:=.cv (.pv ((ao false) s5.1))) 0 [] [_] [] [(.pv (I 3))] [false] (slC_1 hv27) rfl rfl rfl SC (S ?_)
 replace h:=rl_ h
 refine MgF.whileN h (fun s9=>[(0,.box (.pv ((ao false) s9.1))),(2,.box (.node [(.pv (.sl true 2 [])),(.pv (.sl true 2 []))])),(3,.box (.node [(.own 9315),(.own 9327)])),(5,.val (.pv (.sl false 1 (([(⟨#[97]⟩:ByteArray),(⟨#[98]⟩:ByteArray),(⟨#[102,40,97,41]⟩:ByteArray),(⟨#[99]⟩:ByteArray),(⟨#[103,40,97,44,98,41]⟩:ByteArray)]).map Sx)))),(7,.val (.pv (I s9.2.1))),(20000,gh 0)]) (fun s9=>[(9315,(2,s5.2.2.map (aj false))),(9327,(2,s9.2.2.map (aj false)))]) (bn (Sln_ (x:=(.node [(.own 9315),(.pv (.sl true 2 []))])) 3 [1] 9327 2 NM SC SC SC) (bn (Sld_1 (x:=(.own 192)) (sz:=(1)) (es:=([(⟨#[97]⟩:ByteArray),(⟨#[98]⟩:ByteArray),(⟨#[102,40,97,41]⟩:ByteArray),(⟨#[99]⟩:ByteArray),(⟨#[103,40,97,44,98,41]⟩:ByteArray)]).map Sx) 5 [] 192 SC) (Slm_ SC))) (fun n9 s9 h=>?_)
 refine S ?_
 refine MFr_ (S ?_)
 refine ag cs h (fun cs h=>S ?_) fun cs h=>S ?_
 rotate_left
 have h:=rs_ h
 refine MFr_ (S ?_)
 obtain⟨v41,hv41,h⟩:=rb_1 h
 refine aC (r:=0) (hc:=.cv (.pv ((ao false) s9.1))) 0 [] [_] [] [(.pv (I 24))] [false] (slC_1 hv41) rfl rfl rfl SC (S ?_)
 refine MFr_ (S ?_)
 refine ag cs h (fun cs h=>S ?_) fun cs h=>S ?_
 rotate_left
 refine MFr_ (S ?_)
 refine ag cs h (fun cs h=>S ?_) fun cs h=>S ?_
 rotate_left
 refine MFr_ (S ?_)
 refine ag cs h (fun cs h=>S ?_) fun cs h=>S ?_
 rotate_left
 refine MFr_ (S ?_)
 refine ag cs h (fun cs h=>S ?_) fun cs h=>S ?_
 refine MFr_ (S ?_)
 refine ag cs h (fun cs h=>S ?_) fun cs h=>S ?_
 rotate_left 2
 refine MFr_ (S ?_)
 refine ag cs h (fun cs h=>S ?_) fun cs h=>S ?_
 refine MFr_ (S ?_)
 obtain⟨v87,hv87,h⟩:=rb_1 h
 refine aC (r:=0) (hc:=.cv (.pv ((ao false) v41.2))) 0 [] [_] [] [(.pv (I 6))] [false] (slC_24 hv87) rfl rfl rfl SC (S ?_)
 obtain⟨v89,hv89,h⟩:=rb_1 h
 refine aC (r:=0) (hc:=.cv (.pv ((ao false) v87.2))) 0 [] [_] [] [(.pv (I 6))] [false] (slC_24 hv89) rfl rfl rfl SC (S ?_)
 refine MFr_ (S ?_)
 refine rb_ h fun v93 q h=>ak [false] (slG_6 q) (S ?_)
 refine ag cs h (fun cs h=>S ?_) fun cs h=>S ?_
 refine rb_ h fun v96 q h=>ak [false] (slG_3 q) (S ?_)
 refine ag cs h (fun cs h=>S ?_) fun cs h=>S ?_
 ·refine MFr_ (S ?_)
  refine rb_ h fun v101 q h=>ak [true,true] (Sat.give (args:=[(.sl true 2 (s9.2.2.map (aj false))),(.agg [(Sx (⟨#[103]⟩:ByteArray)),(.sl true 2 (([v87.1,v89.1]).map (aj true)))])]) [false,true] (by have gg:=slP_6 q; simp only[gv_t,gv_f,gv_n,vs_,va_,vl_,vrB_,vrI_,az,RB,RS] at gg ⊢; exact gg)) (S ?_)
  refine MFw_ (Sld_ (x:=(.node [(.own 9315),(.own 1616)])) (sz:=2) (es:=s5.2.2.map (aj false)) 3 [0] 9315 SC) (S ?_)
  refine MFw_ (Sld_ (x:=(.node [(.pv (.sl false 2 (s5.2.2.map (aj false)))),(.own 1616)])) (sz:=2) (es:=v101.map (aj false)) 3 [1] 1616 SC) (S ?_)
  refine MFr_ (S ?_)
  cases rs_ h
  exact RetHB.r SC
 rotate_left 3
 ·refine MFd_ (S ?_)
  obtain⟨v23,hv23,h⟩:=rb_1 h
  refine aC (r:=0) (hc:=.cv (.pv ((ao false) s5.1))) 0 [] [_] [] [(.pv (.sl false 1 (([(⟨#[102,40,65,41]⟩:ByteArray),(⟨#[103,40,65,44,97,41]⟩:ByteArray),(⟨#[65]⟩:ByteArray),(⟨#[103,40,65,44,65,41]⟩:ByteArray),(⟨#[102,40,102,40,65,41,41]⟩:ByteArray),(⟨#[97]⟩:ByteArray),(⟨#[102,40,98,41]⟩:ByteArray)]).map Sx)))] [false] (SatH.vwOf (res':=((aj false) v23.1)) (slT_6 hv23) (by simp only[vt_,vs_,va_,vl_,az,RB,RS])) rfl rfl rfl SC (S ?_)
  refine rb_ h fun v24 q h=>ak [true,false] (slP_6 q) (S ?_)
  refine ae (DHa_ [] [384]) (S ?_)
  refine MFr_ (S ?_)
  have h:=rs_ h
  refine aZ ⟨_,h,?_⟩
  refine Slr_ 384 9315 ?_
  exact Slm_ SC
 ·refine MFd_ (S ?_)
  obtain⟨v37,hv37,h⟩:=rb_1 h
  refine aC (r:=0) (hc:=.cv (.pv ((ao false) s9.1))) 0 [] [_] [] [(.pv (.sl false 1 (([(⟨#[97]⟩:ByteArray),(⟨#[98]⟩:ByteArray),(⟨#[102,40,97,41]⟩:ByteArray),(⟨#[99]⟩:ByteArray),(⟨#[103,40,97,44,98,41]⟩:ByteArray)]).map Sx)))] [false] (SatH.vwOf (res':=((aj false) v37.1)) (slT_6 hv37) (by simp only[vt_,vs_,va_,vl_,az,RB,RS])) rfl rfl rfl SC (S ?_)
  refine rb_ h fun v38 q h=>ak [true,false] (slP_6 q) (S ?_)
  refine ae (DHa_ [] [608]) (S ?_)
  refine MFr_ (S ?_)
  have h:=rs_ h
  refine aZ ⟨_,h,?_⟩
  refine Slr_ 608 9327 ?_
  exact Slm_ SC
 ·refine MFd_ (S ?_)
  obtain⟨v47,hv47,h⟩:=rb_1 h
  refine aC (r:=0) (hc:=.cv (.pv ((ao false) v41.2))) 0 [] [] [] [] [] (SatH.vwOf (res':=((aj false) v47.1)) (slC_26 hv47) (by simp only[vt_,vs_,va_,vl_,az,RB,RS])) rfl rfl rfl SC (S ?_)
  refine rb_ h fun v49 q h=>aK (aj false) (fun a=>bt _ a) q (S ?_)
  refine ae (DHa_ [] [768,784]) (S ?_)
  refine MFw_ (Sld_ (x:=(.node [(.own 784),(.own 9327)])) (sz:=2) (es:=v49.map (aj false)) 3 [0] 784 SC) (S ?_)
  refine MFw_ (Sld_ (x:=(.node [(.pv (.sl false 2 (v49.map (aj false)))),(.own 9327)])) (sz:=2) (es:=s9.2.2.map (aj false)) 3 [1] 9327 SC) (S ?_)
  refine MFr_ (S ?_)
  cases rs_ h
  exact RetHB.r SC
 ·refine MFd_ (S ?_)
  obtain⟨v56,hv56,h⟩:=rb_1 h
  refine aC (r:=0) (hc:=.cv (.pv ((ao false) v41.2))) 0 [] [] [] [] [] (SatH.vwOf (res':=((aj false) v56.1)) (slC_10 hv56) (by simp only[vt_,vs_,va_,vl_,az,RB,RS])) rfl rfl rfl SC (S ?_)
  refine rb_ h fun v58 q h=>aK (aj false) (fun a=>bt _ a) q (S ?_)
  refine ae (DHa_ [] [912,928]) (S ?_)
  refine MFw_ (Sld_ (x:=(.node [(.own 9315),(.own 928)])) (sz:=2) (es:=s5.2.2.map (aj false)) 3 [0] 9315 SC) (S ?_)
  refine MFw_ (Sld_ (x:=(.node [(.pv (.sl false 2 (s5.2.2.map (aj false)))),(.own 928)])) (sz:=2) (es:=v58.map (aj false)) 3 [1] 928 SC) (S ?_)
  refine MFr_ (S ?_)
  cases rs_ h
  exact RetHB.r SC
 ·refine MFr_ (S ?_)
  refine MFw_ (Sld_ (x:=(.node [(.own 9315),(.pv (.sl true 2 []))])) (sz:=2) (es:=s5.2.2.map (aj false)) 3 [0] 9315 SC) (S ?_)
  refine MFr_ (S ?_)
  cases rs_ h
  exact RetHB.r SC
 ·refine MFr_ (S ?_)
  refine rb_ h fun v71 q h=>am (aj false) q (S ?_)
  refine rb_ h fun v72 q h=>EldH.c (aj false) q (S ?_)
  refine MFd_ (S ?_)
  refine rb_ h fun v77 q h=>am (aj false) q (S ?_)
  refine rb_ h fun v78 q h=>EldH.c (aj false) q (S ?_)
  refine rb_ h fun v79 q h=>am (aj false) q (S ?_)
  refine rb_ h fun w8 q h=>EldH.c (aj false) q (S ?_)
  refine ae (DHa_ [] []) (S ?_)
  refine MFr_ (S ?_)
  refine rb_ h fun v83 q h=>am (aj false) q (S ?_)
  refine rb_ h fun w9 q h=>EldH.c (aj false) q (S ?_)
  refine MFw_ (Sld_ (x:=(.node [(.own 9315),(.own 9327)])) (sz:=2) (es:=((s5.2.2.set (0:Int).toNat v78).set (1:Int).toNat v72).map (aj false)) 3 [0] 9315 SC) (S ?_)
  refine MFw_ (Sld_ (x:=(.node [(.pv (.sl false 2 (((s5.2.2.set (0:Int).toNat v78).set (1:Int).toNat v72).map (aj false)))),(.own 9327)])) (sz:=2) (es:=s9.2.2.map (aj false)) 3 [1] 9327 SC) (S ?_)
  refine MFr_ (S ?_)
  cases rs_ h
  exact RetHB.r SC
 all_goals
  refine MFw_ (Sld_ (x:=(.node [(.own 9315),(.own 9327)])) (sz:=2) (es:=s5.2.2.map (aj false)) 3 [0] 9315 SC) (S ?_)
  refine MFw_ (Sld_ (x:=(.node [(.pv (.sl false 2 (s5.2.2.map (aj false)))),(.own 9327)])) (sz:=2) (es:=s9.2.2.map (aj false)) 3 [1] 9327 SC) (S ?_)
  refine MFr_ (S ?_)
  cases rs_ h
  exact RetHB.r SC

theorem sDL_1{a0:List Int}  {r:Ft×Dt}(h:sDL_ a0=some r):Sat ai 5 [(.sl false 1 (a0.map (Ik .u8)))] (.tup [((al false) r.1),((Dt.pv false) r.2)]):=by
 obtain⟨h,cs⟩:=Ro_ h
 unfold sDL_ at h
 refine Sg_ 33 [.cell 2 29,.cell 3 31] Tryz.func5 (h:=S ?_)
 obtain⟨v16,hv16,h⟩:=rb_1 h
 refine aC (r:=10) (hc:=.cv (.node [(.pv (.sl false 1 (a0.map (Ik .u8)))),(.pv (I 0)),(.pv ((Ik .u64) (0:Int)))])) 0 [] [_] [] [(.pv (I 4))] [false] (slC_1 hv16) rfl rfl rfl SC (S ?_)
 refine rb_ h fun v17 q h=>quoH.mk q (S ?_)
 obtain⟨v20,hv20,h⟩:=rb_1 h
 refine aC (r:=10) (hc:=.cv (.pv ((ao false) v16.2))) 0 [] [_] [] [(.pv (I (IntKind.i64.wrap ((4:Int)+(IntKind.i64.wrap ((4:Int)*v17))))))] [false] (slC_1 hv20) rfl rfl rfl SC (S ?_)
 refine rb_ h fun v21 q h=>am Sx q (S ?_)
 refine rb_ h fun v22 q h=>EldH.c Sx q (S ?_)
 refine rb_ h fun v23 q h=>ak [false] (sPF_1 q) (S ?_)
 obtain⟨v27,hv27,h⟩:=rb_1 h
 refine aC (r:=10) (hc:=.cv (.pv ((ao false) v20.2))) 0 [] [_] [] [(.pv (I 12))] [false] (slC_11 hv27) rfl rfl rfl SC (S ?_)
 refine ag cs h (fun cs h=>S ?_) fun cs h=>S ?_
 ·obtain⟨v29,hv29,h⟩:=rb_1 h
  refine aC (r:=10) (hc:=.cv (.pv ((ao false) v27.2))) 0 [] [] [] [] [] (slC_31 hv29) rfl rfl rfl SC (S ?_)
  obtain⟨v32,hv32,h⟩:=rb_1 h
  refine aC (r:=10) (hc:=.cv (.pv ((ao false) v29.2))) 0 [] [] [] [] [] (slC_23 hv32) rfl rfl rfl SC (S ?_)
  refine ae (DHa_ [] []) (S ?_)
  exact FHz_1 h
 ·obtain⟨v32,hv32,h⟩:=rb_1 h
  refine aC (r:=10) (hc:=.cv (.pv ((ao false) v27.2))) 0 [] [] [] [] [] (slC_23 hv32) rfl rfl rfl SC (S ?_)
  refine ae (DHa_ [] []) (S ?_)
  exact FHz_1 h

theorem isO_2(n:Nat):(∀ (a0:Ft) (r:Int),isO_ n a0=some r→Sat ai 48 [((al false) a0)] (I r)):=by
 induction n with
 | zero=>exact fun _ _ h=>by simp[isO_] at h
 | succ n ih=>
  refine fun a0 r h=>?_
  obtain⟨h,cs⟩:=Ro_ h
  rw[isO_] at h
  refine Sg_ 22 [.tmp 2] Tryz.func48 (h:=S ?_)
  refine aV (b:=false) (sz:=5) (es:=a0.Parts.map (al false)) 7 SC fun hl7=>?_; rw[aw] at hl7
  refine aH (rl_ h) (fun i3 s3=>[(3,.val (.pv (I s3))),(7,.val (.pv (.sl false 5 (a0.Parts.map (al false))))),(8,.val (.pv (I (a0.Parts.length:Int)))),(9,.val (.pv (I (i3:Int))))]) (fun i3 s3=>[]) (Slm_ SC) (fun i3 s3 hi h=>?_) (fun s3 h=>?_)
  ·have w:=ws_ i3
   refine S ?_
   refine aE cs fun cs=>S ?_
   refine rb_ h fun v11 q h=>am (al false) q (S ?_)
   refine ag cs h (fun cs h=>S ?_) fun cs h=>S ?_
   ·exact FHz_ h
   ·refine rb_ h fun v18 q h=>ak [false] (ih _ _ q) (S ?_)
    exact aI h
  ·refine S ?_
   refine aF cs fun cs=>S ?_
   exact FHz_ h
theorem isO_3{a0:Ft}{r:Int}(h:isO_1 a0=some r):Sat ai 48 [((al false) a0)] (I r):=by
 obtain⟨n,hn⟩:=ls_ h
 exact(isO_2 n) _ _ hn

theorem iiQ_{a0:Int}  {r:Bool}(h:iiQ_1 a0=some r):Sat ai 102 [(I a0)] (B r):=by
 obtain⟨h,cs⟩:=Ro_ h
 unfold iiQ_1 at h
 refine Sg_ 9 [.tmp 2] Tryz.func102 (h:=S ?_)
 refine ag cs h (fun cs h=>S ?_) fun cs h=>S ?_
 ·exact FHz_ h
 ·exact FHz_ h

theorem iiB_1{a0:Int}  {r:Bool}(h:iiB_ a0=some r):Sat ai 103 [(I a0)] (B r):=by
 obtain⟨h,cs⟩:=Ro_ h
 unfold iiB_ at h
 refine Sg_ 13 [.tmp 2] Tryz.func103 (h:=S ?_)
 refine ag cs h (fun cs h=>S ?_) fun cs h=>S ?_
 ·exact FHz_ h
 ·refine ag cs h (fun cs h=>S ?_) fun cs h=>S ?_
  ·exact FHz_ h
  ·exact FHz_ h

theorem iiU_1{a0:Int}  {r:Bool}(h:iiU_ a0=some r):Sat ai 116 [((Ik .u8) a0)] (B r):=by
 obtain⟨h,cs⟩:=Ro_ h
 unfold iiU_ at h
 refine Sg_ 9 [.tmp 2] Tryz.func116 (h:=S ?_)
 refine ag cs h (fun cs h=>S ?_) fun cs h=>S ?_
 ·exact FHz_ h
 ·exact FHz_ h

theorem iiL_1{a0:Int}  {r:Bool}(h:iiL_ a0=some r):Sat ai 117 [((Ik .u8) a0)] (B r):=by
 obtain⟨h,cs⟩:=Ro_ h
 unfold iiL_ at h
 refine Sg_ 9 [.tmp 2] Tryz.func117 (h:=S ?_)
 refine ag cs h (fun cs h=>S ?_) fun cs h=>S ?_
 ·exact FHz_ h
 ·exact FHz_ h

theorem iiD_1{a0:Int}  {r:Bool}(h:iiD_ a0=some r):Sat ai 118 [((Ik .u8) a0)] (B r):=by
 obtain⟨h,cs⟩:=Ro_ h
 unfold iiD_ at h
 refine Sg_ 9 [.tmp 2] Tryz.func118 (h:=S ?_)
 refine ag cs h (fun cs h=>S ?_) fun cs h=>S ?_
 ·exact FHz_ h
 ·exact FHz_ h

theorem iws_{a0:Int}{a1:Int}{a2:Int}  {r:Bool}(h:iw_ a0 a1 a2=some r):Sat ai 119 [(I a0),(I a1),(I a2)] (B r):=by
 obtain⟨h,cs⟩:=Ro_ h
 unfold iw_ at h
 refine Sg_ 15 [.tmp 6] Tryz.func119 (h:=S ?_)
 refine ag cs h (fun cs h=>S ?_) fun cs h=>S ?_
 ·exact FHz_ h
 ·exact FHz_ h

theorem iiV_1{a0:ByteArray}  {r:Bool}(h:iiV_ a0=some r):Sat ai 62 [(Sx a0)] (B r):=by
 obtain⟨h,cs⟩:=Ro_ h
 unfold iiV_ at h
 refine Sg_ 40 [.tmp 2] Tryz.func62 (h:=S ?_)
 obtain⟨N2,hN2,h⟩:=rb_1 h
 obtain⟨hN2a,hN2b⟩:=bs_ hN2
 refine aH (rl_ h) (fun i2 s2=>[(0,.val (.pv (Sx a0))),(5,.val (.pv (I (a0.size:Int)))),(6,.val (.pv (I (i2:Int))))]) (fun i2 s2=>[]) (Slm_ SC) (fun i2 s2 hi h=>?_) (fun s2 h=>?_)
 ·have w:=ws_ i2
  refine S ?_
  refine aE cs fun cs=>S ?_
  refine ag cs h (fun cs h=>S ?_) fun cs h=>S ?_
  refine rb_ h fun v14 q h=>aW q (S ?_)
  refine rb_ h fun v15 q h=>ak [false] (iiU_1 q) (S ?_)
  refine ag cs h (fun cs h=>S ?_) fun cs h=>S ?_
  refine ag cs h (fun cs h=>S ?_) fun cs h=>S ?_
  refine rb_ h fun v24 q h=>aW q (S ?_)
  refine rb_ h fun v25 q h=>ak [false] (iiL_1 q) (S ?_)
  refine ag cs h (fun cs h=>S ?_) fun cs h=>S ?_
  rotate_left
  refine rb_ h fun v31 q h=>aW q (S ?_)
  refine rb_ h fun v32 q h=>ak [false] (iiD_1 q) (S ?_)
  refine ag cs h (fun cs h=>S ?_) fun cs h=>S ?_
  rotate_left 4
  refine ag cs h (fun cs h=>S ?_) fun cs h=>S ?_
  refine rb_ h fun v24 q h=>aW q (S ?_)
  refine rb_ h fun v25 q h=>ak [false] (iiL_1 q) (S ?_)
  refine ag cs h (fun cs h=>S ?_) fun cs h=>S ?_
  rotate_left
  refine rb_ h fun v31 q h=>aW q (S ?_)
  refine rb_ h fun v32 q h=>ak [false] (iiD_1 q) (S ?_)
  refine ag cs h (fun cs h=>S ?_) fun cs h=>S ?_
  rotate_left
  ·exact FHz_ h
  rotate_left 3
  ·exact FHz_ h
  rotate_left
  ·exact FHz_ h
  all_goals
   exact aI h
 ·refine S ?_
  refine aF cs fun cs=>S ?_
  refine rb_ h fun v39 q h=>ak [false,false,false] (iws_ q) (S ?_)
  exact FHz_ h

theorem iiE_1{a0:Tt}  {r:Bool}(h:iiE_ a0=some r):Sat ai 155 [((aj false) a0)] (B r):=by
 obtain⟨h,cs⟩:=Ro_ h
 unfold iiE_ at h
 refine Sg_ 6 [.tmp 2] Tryz.func155 (h:=S ?_)
 exact FHz_ h

theorem isN_3(n:Nat):(∀ (a0:Tt) (r:Int),isN_1 n a0=some r→Sat ai 169 [((aj false) a0)] (I r)):=by
 induction n with
 | zero=>exact fun _ _ h=>by simp[isN_1] at h
 | succ n ih=>
  refine fun a0 r h=>?_
  obtain⟨h,cs⟩:=Ro_ h
  rw[isN_1] at h
  refine Sg_ 22 [.tmp 2] Tryz.func169 (h:=S ?_)
  refine aV (b:=false) (sz:=2) (es:=a0.Args.map (aj false)) 7 SC fun hl7=>?_; rw[aw] at hl7
  refine aH (rl_ h) (fun i3 s3=>[(3,.val (.pv (I s3))),(7,.val (.pv (.sl false 2 (a0.Args.map (aj false))))),(8,.val (.pv (I (a0.Args.length:Int)))),(9,.val (.pv (I (i3:Int))))]) (fun i3 s3=>[]) (Slm_ SC) (fun i3 s3 hi h=>?_) (fun s3 h=>?_)
  ·have w:=ws_ i3
   refine S ?_
   refine aE cs fun cs=>S ?_
   refine rb_ h fun v11 q h=>am (aj false) q (S ?_)
   refine ag cs h (fun cs h=>S ?_) fun cs h=>S ?_
   ·exact FHz_ h
   ·refine rb_ h fun v18 q h=>ak [false] (ih _ _ q) (S ?_)
    exact aI h
  ·refine S ?_
   refine aF cs fun cs=>S ?_
   exact FHz_ h
theorem iss_1{a0:Tt}{r:Int}(h:is_1 a0=some r):Sat ai 169 [((aj false) a0)] (I r):=by
 obtain⟨n,hn⟩:=ls_ h
 exact(isN_3 n) _ _ hn

theorem idN_1(n:Nat):(∀ (a0:Tt) (r:Int),idN_ n a0=some r→Sat ai 170 [((aj false) a0)] (I r)):=by
 induction n with
 | zero=>exact fun _ _ h=>by simp[idN_] at h
 | succ n ih=>
  refine fun a0 r h=>?_
  obtain⟨h,cs⟩:=Ro_ h
  rw[idN_] at h
  refine Sg_ 20 [.tmp 2] Tryz.func170 (h:=S ?_)
  refine aV (b:=false) (sz:=2) (es:=a0.Args.map (aj false)) 7 SC fun hl7=>?_; rw[aw] at hl7
  refine aH (rl_ h) (fun i3 s3=>[(3,.val (.pv (I s3))),(7,.val (.pv (.sl false 2 (a0.Args.map (aj false))))),(8,.val (.pv (I (a0.Args.length:Int)))),(9,.val (.pv (I (i3:Int))))]) (fun i3 s3=>[]) (Slm_ SC) (fun i3 s3 hi h=>?_) (fun s3 h=>?_)
  ·have w:=ws_ i3
   refine S ?_
   refine aE cs fun cs=>S ?_
   refine rb_ h fun v11 q h=>am (aj false) q (S ?_)
   refine rb_ h fun v15 q h=>ak [false] (ih _ _ q) (S ?_)
   exact aI h
  ·refine S ?_
   refine aF cs fun cs=>S ?_
   exact FHz_ h
theorem ids_{a0:Tt}{r:Int}(h:id_ a0=some r):Sat ai 170 [((aj false) a0)] (I r):=by
 obtain⟨n,hn⟩:=ls_ h
 exact(idN_1 n) _ _ hn

theorem iiS_3{a0:Tt}  {r:Bool}(h:iiS_1 a0=some r):Sat ai 120 [((aj false) a0)] (B r):=by
 obtain⟨h,cs⟩:=Ro_ h
 unfold iiS_1 at h
 refine Sg_ 11 [.tmp 2] Tryz.func120 (h:=S ?_)
 refine rb_ h fun v4 q h=>ak [false] (iss_1 q) (S ?_)
 refine ag cs h (fun cs h=>S ?_) fun cs h=>S ?_
 ·refine rb_ h fun v8 q h=>ak [false] (ids_ q) (S ?_)
  exact FHz_ h
 ·exact FHz_ h

theorem irs_   {r:List ByteArray}(h:ir_  =some r):Sat ai 190 [] (.sl true 1 (r.map Sx)):=by
 obtain⟨h,cs⟩:=Ro_ h
 unfold ir_ at h
 refine Sg_ 2 [.tmp 0] Tryz.func190 (h:=S ?_)
 exact FHz_ h

theorem sIS_2{a0:List ByteArray}{a1:ByteArray}  {r:Int}(h:sIS_ a0 a1=some r):Sat ai 53 [(.sl false 1 (a0.map Sx)),(Sx a1)] (I r):=by
 obtain⟨h,cs⟩:=Ro_ h
 unfold sIS_ at h
 refine Sg_ 19 [.tmp 4] Tryz.func53 (h:=S ?_)
 refine aV (b:=false) (sz:=1) (es:=a0.map Sx) 0 SC fun hl0=>?_; rw[aw] at hl0
 refine aH (rl_ h) (fun i2 s2=>[(0,.val (.pv (.sl false 1 (a0.map Sx)))),(1,.val (.pv (Sx a1))),(7,.val (.pv (I (a0.length:Int)))),(8,.val (.pv (I (i2:Int))))]) (fun i2 s2=>[]) (Slm_ SC) (fun i2 s2 hi h=>?_) (fun s2 h=>?_)
 ·have w:=ws_ i2
  refine S ?_
  refine aE cs fun cs=>S ?_
  refine rb_ h fun v14 q h=>am Sx q (S ?_)
  refine ag cs h (fun cs h=>S ?_) fun cs h=>S ?_
  ·exact FHz_ h
  ·exact aI h
 ·refine S ?_
  refine aF cs fun cs=>S ?_
  exact FHz_ h

theorem sCS_1{a0:List ByteArray}{a1:ByteArray}  {r:Bool}(h:sCS_ a0 a1=some r):Sat ai 20 [(.sl false 1 (a0.map Sx)),(Sx a1)] (B r):=by
 obtain⟨h,cs⟩:=Ro_ h
 unfold sCS_ at h
 refine Sg_ 9 [.tmp 4] Tryz.func20 (h:=S ?_)
 refine rb_ h fun v7 q h=>ak [false,false] (sIS_2 q) (S ?_)
 exact FHz_ h

theorem iiS_2{a0:ByteArray}  {r:Bool}(h:iiS_ a0=some r):Sat ai 156 [(Sx a0)] (B r):=by
 obtain⟨h,cs⟩:=Ro_ h
 unfold iiS_ at h
 refine Sg_ 48 [.tmp 2] Tryz.func156 (h:=S ?_)
 obtain⟨N2,hN2,h⟩:=rb_1 h
 obtain⟨hN2a,hN2b⟩:=bs_ hN2
 refine aH (rl_ h) (fun i2 s2=>[(0,.val (.pv (Sx a0))),(5,.val (.pv (I (a0.size:Int)))),(6,.val (.pv (I (i2:Int))))]) (fun i2 s2=>[]) (Slm_ SC) (fun i2 s2 hi h=>?_) (fun s2 h=>?_)
 ·have w:=ws_ i2
  refine S ?_
  refine aE cs fun cs=>S ?_
  refine ag cs h (fun cs h=>S ?_) fun cs h=>S ?_
  refine rb_ h fun v14 q h=>aW q (S ?_)
  refine rb_ h fun v15 q h=>ak [false] (iiL_1 q) (S ?_)
  refine ag cs h (fun cs h=>S ?_) fun cs h=>S ?_
  refine rb_ h fun v21 q h=>aW q (S ?_)
  refine rb_ h fun v22 q h=>ak [false] (iiL_1 q) (S ?_)
  refine ag cs h (fun cs h=>S ?_) fun cs h=>S ?_
  rotate_left
  refine rb_ h fun v27 q h=>aW q (S ?_)
  refine rb_ h fun v28 q h=>ak [false] (iiD_1 q) (S ?_)
  refine ag cs h (fun cs h=>S ?_) fun cs h=>S ?_
  rotate_left
  refine rb_ h fun v34 q h=>aW q (S ?_)
  refine ag cs h (fun cs h=>S ?_) fun cs h=>S ?_
  rotate_left 3
  refine rb_ h fun v21 q h=>aW q (S ?_)
  refine rb_ h fun v22 q h=>ak [false] (iiL_1 q) (S ?_)
  refine ag cs h (fun cs h=>S ?_) fun cs h=>S ?_
  rotate_left
  refine rb_ h fun v27 q h=>aW q (S ?_)
  refine rb_ h fun v28 q h=>ak [false] (iiD_1 q) (S ?_)
  refine ag cs h (fun cs h=>S ?_) fun cs h=>S ?_
  rotate_left
  refine rb_ h fun v34 q h=>aW q (S ?_)
  refine ag cs h (fun cs h=>S ?_) fun cs h=>S ?_
  rotate_left
  ·exact FHz_ h
  rotate_left 3
  ·exact FHz_ h
  ·exact FHz_ h
  all_goals
   exact aI h
 ·refine S ?_
  refine aF cs fun cs=>S ?_
  refine rb_ h fun v41 q h=>ak [false,false,false] (iws_ q) (S ?_)
  refine ag cs h (fun cs h=>S ?_) fun cs h=>S ?_
  ·refine rb_ h fun v43 q h=>ak [] (irs_ q) (S ?_)
   refine rb_ h fun v45 q h=>ak [false,false] (sCS_1 q) (S ?_)
   exact FHz_ h
  ·exact FHz_ h

theorem sIF_4{a0:List Tt}{a1:Tt→Option Bool}{a1_id:FuncId}{a1_cs:List PV}(a1_ok:∀ y0 r,a1 y0=some r→Sat ai a1_id (((aj false) y0)::a1_cs) (B r))(a1_cz:CO_ a1_cs=True){r:Int}(h:sIF_ a0 a1=some r):Sat ai 112 [(.sl false 2 (a0.map (aj false))),.clo a1_id a1_cs] (I r):=by
 obtain⟨h,cs⟩:=Ro_ h
 unfold sIF_ at h
 have cs:=ae a1_cz cs
 refine Sg_ 19 [.tmp 4] Tryz.func112 (h:=S ?_)
 refine aV (b:=false) (sz:=2) (es:=a0.map (aj false)) 0 SC fun hl0=>?_; rw[aw] at hl0
 refine aH (rl_ h) (fun i2 s2=>[(0,.val (.pv (.sl false 2 (a0.map (aj false))))),(1,.val (.pv (.clo a1_id a1_cs))),(7,.val (.pv (I (a0.length:Int)))),(8,.val (.pv (I (i2:Int))))]) (fun i2 s2=>[]) (Slm_ SC) (fun i2 s2 hi h=>?_) (fun s2 h=>?_)
 ·have w:=ws_ i2
  refine S ?_
  refine aE cs fun cs=>S ?_
  refine rb_ h fun v14 q h=>am (aj false) q (S ?_)
  refine rb_ h fun v16 q h=>ak [false] (a1_ok _ _ q) (S ?_)
  refine ag cs h (fun cs h=>S ?_) fun cs h=>S ?_
  ·exact FHz_ h
  ·exact aI h
 ·refine S ?_
  refine aF cs fun cs=>S ?_
  exact FHz_ h

theorem sCF_3{a0:List Tt}{a1:Tt→Option Bool}{a1_id:FuncId}{a1_cs:List PV}(a1_ok:∀ y0 r,a1 y0=some r→Sat ai a1_id (((aj false) y0)::a1_cs) (B r))(a1_cz:CO_ a1_cs=True){r:Bool}(h:sCF_1 a0 a1=some r):Sat ai 57 [(.sl false 2 (a0.map (aj false))),.clo a1_id a1_cs] (B r):=by
 obtain⟨h,cs⟩:=Ro_ h
 unfold sCF_1 at h
 have cs:=ae a1_cz cs
 refine Sg_ 9 [.tmp 4] Tryz.func57 (h:=S ?_)
 refine rb_ h fun v7 q h=>ak [false,false] (sIF_4 a1_ok a1_cz q) (S ?_)
 exact FHz_ h

theorem ihN_4(n:Nat):(∀ (a0:Tt) (r:Bool),ihN_ n a0=some r→Sat ai 121 [((aj false) a0)] (B r))∧(∀ (a0:Tt) (r:Bool),ihN_1 n a0=some r→Sat ai 171 [((aj false) a0)] (B r)):=by
 induction n with
 | zero=>exact⟨fun _ _ h=>by simp[ihN_] at h,fun _ _ h=>by simp[ihN_1] at h⟩
 | succ n ih=>
  refine⟨fun a0 r h=>?_,fun a0 r h=>?_⟩
  ·obtain⟨h,cs⟩:=Ro_ h
   rw[ihN_] at h
   refine Sg_ 25 [.tmp 2] Tryz.func121 (h:=S ?_)
   refine rb_ h fun v5 q h=>ak [false] (iiV_1 q) (S ?_)
   refine ag cs h (fun cs h=>S ?_) fun cs h=>S ?_
   rotate_left
   refine rb_ h fun v12 q h=>ak [false] (iiS_2 q) (S ?_)
   refine ag cs h (fun cs h=>S ?_) fun cs h=>S ?_
   refine ag cs h (fun cs h=>S ?_) fun cs h=>S ?_
   ·refine rb_ h fun v22 q h=>ak [false,false] (sCF_3 (fun _ _ hh=>ih.2 _ _ hh) (by simp only[COn_,COc_]) q) (S ?_)
    exact FHz_ h
   all_goals
    exact FHz_ h
  ·obtain⟨h,cs⟩:=Ro_ h
   rw[ihN_1] at h
   refine Sg_ 6 [.tmp 2] Tryz.func171 (h:=S ?_)
   refine rb_ h fun v4 q h=>ak [false] (ih.1 _ _ q) (S ?_)
   exact FHz_ h
theorem ihN_3{a0:Tt}{r:Bool}(h:ihN_2 a0=some r):Sat ai 121 [((aj false) a0)] (B r):=by
 obtain⟨n,hn⟩:=ls_ h
 exact(ihN_4 n).1 _ _ hn
theorem ihN_7{a0:Tt}{r:Bool}(h:ihN_6 a0=some r):Sat ai 171 [((aj false) a0)] (B r):=by
 obtain⟨n,hn⟩:=ls_ h
 exact(ihN_4 n).2 _ _ hn

theorem iIV_6{a0:Tt}  {r:Bool}(h:iIV_4 a0=some r):Sat ai 63 [((aj false) a0)] (B r):=by
 obtain⟨h,cs⟩:=Ro_ h
 unfold iIV_4 at h
 refine Sg_ 9 [.tmp 2] Tryz.func63 (h:=S ?_)
 refine rb_ h fun v4 q h=>ak [false] (iiS_3 q) (S ?_)
 refine ag cs h (fun cs h=>S ?_) fun cs h=>S ?_
 ·refine rb_ h fun v7 q h=>ak [false] (ihN_3 q) (S ?_)
  exact FHz_ h
 ·exact FHz_ h

theorem iIV_1{a0:Tt}  {r:Bool}(h:iIV_ a0=some r):Sat ai 104 [((aj false) a0)] (B r):=by
 obtain⟨h,cs⟩:=Ro_ h
 unfold iIV_ at h
 refine Sg_ 34 [.tmp 2] Tryz.func104 (h:=S ?_)
 refine rb_ h fun v4 q h=>ak [false] (iiE_1 q) (S ?_)
 refine ag cs h (fun cs h=>S ?_) fun cs h=>S ?_
 ·refine ag cs h (fun cs h=>S ?_) fun cs h=>S ?_
  refine rb_ h fun v11 q h=>ak [false] (iiS_3 q) (S ?_)
  refine ag cs h (fun cs h=>S ?_) fun cs h=>S ?_
  refine rb_ h fun v16 q h=>am (aj false) q (S ?_)
  refine rb_ h fun v18 q h=>ak [false] (ihN_3 q) (S ?_)
  refine ag cs h (fun cs h=>S ?_) fun cs h=>S ?_
  ·refine rb_ h fun v23 q h=>am (aj false) q (S ?_)
   refine rb_ h fun v25 q h=>ak [false] (ihN_3 q) (S ?_)
   exact FHz_ h
  all_goals
   exact FHz_ h
 ·refine rb_ h fun v29 q h=>ak [false] (iiS_2 q) (S ?_)
  refine ag cs h (fun cs h=>S ?_) fun cs h=>S ?_
  ·refine rb_ h fun v32 q h=>ak [false] (iIV_6 q) (S ?_)
   exact FHz_ h
  ·exact FHz_ h

theorem iiZ_{a0:Tt}  {r:Bool}(h:iiZ_1 a0=some r):Sat ai 105 [((aj false) a0)] (B r):=by
 obtain⟨h,cs⟩:=Ro_ h
 unfold iiZ_1 at h
 refine Sg_ 12 [.tmp 2] Tryz.func105 (h:=S ?_)
 refine ag cs h (fun cs h=>S ?_) fun cs h=>S ?_
 ·exact FHz_ h
 ·exact FHz_ h

theorem sIF_3{a0:List Ft}{a1:Ft→Option Bool}{a1_id:FuncId}{a1_cs:List PV}(a1_ok:∀ y0 r,a1 y0=some r→Sat ai a1_id (((al false) y0)::a1_cs) (B r))(a1_cz:CO_ a1_cs=True){r:Int}(h:sIF_1 a0 a1=some r):Sat ai 108 [(.sl false 5 (a0.map (al false))),.clo a1_id a1_cs] (I r):=by
 obtain⟨h,cs⟩:=Ro_ h
 unfold sIF_1 at h
 have cs:=ae a1_cz cs
 refine Sg_ 19 [.tmp 4] Tryz.func108 (h:=S ?_)
 refine aV (b:=false) (sz:=5) (es:=a0.map (al false)) 0 SC fun hl0=>?_; rw[aw] at hl0
 refine aH (rl_ h) (fun i2 s2=>[(0,.val (.pv (.sl false 5 (a0.map (al false))))),(1,.val (.pv (.clo a1_id a1_cs))),(7,.val (.pv (I (a0.length:Int)))),(8,.val (.pv (I (i2:Int))))]) (fun i2 s2=>[]) (Slm_ SC) (fun i2 s2 hi h=>?_) (fun s2 h=>?_)
 ·have w:=ws_ i2
  refine S ?_
  refine aE cs fun cs=>S ?_
  refine rb_ h fun v14 q h=>am (al false) q (S ?_)
  refine rb_ h fun v16 q h=>ak [false] (a1_ok _ _ q) (S ?_)
  refine ag cs h (fun cs h=>S ?_) fun cs h=>S ?_
  ·exact FHz_ h
  ·exact aI h
 ·refine S ?_
  refine aF cs fun cs=>S ?_
  exact FHz_ h

theorem sCF_5{a0:List Ft}{a1:Ft→Option Bool}{a1_id:FuncId}{a1_cs:List PV}(a1_ok:∀ y0 r,a1 y0=some r→Sat ai a1_id (((al false) y0)::a1_cs) (B r))(a1_cz:CO_ a1_cs=True){r:Bool}(h:sCF_ a0 a1=some r):Sat ai 51 [(.sl false 5 (a0.map (al false))),.clo a1_id a1_cs] (B r):=by
 obtain⟨h,cs⟩:=Ro_ h
 unfold sCF_ at h
 have cs:=ae a1_cz cs
 refine Sg_ 9 [.tmp 4] Tryz.func51 (h:=S ?_)
 refine rb_ h fun v7 q h=>ak [false,false] (sIF_3 a1_ok a1_cz q) (S ?_)
 exact FHz_ h

theorem ihF_2(n:Nat):(∀ (a0:Ft) (r:Bool),ihF_1 n a0=some r→Sat ai 49 [((al false) a0)] (B r))∧(∀ (a0:Ft) (r:Bool),ihF_ n a0=some r→Sat ai 106 [((al false) a0)] (B r)):=by
 induction n with
 | zero=>exact⟨fun _ _ h=>by simp[ihF_1] at h,fun _ _ h=>by simp[ihF_] at h⟩
 | succ n ih=>
  refine⟨fun a0 r h=>?_,fun a0 r h=>?_⟩
  ·obtain⟨h,cs⟩:=Ro_ h
   rw[ihF_1] at h
   refine Sg_ 76 [.tmp 2] Tryz.func49 (h:=S ?_)
   refine ag cs h (fun cs h=>S ?_) fun cs h=>S ?_
   refine ag cs h (fun cs h=>S ?_) fun cs h=>S ?_
   refine rb_ h fun v33 q h=>ak [false] (iiQ_ q) (S ?_)
   refine ag cs h (fun cs h=>S ?_) fun cs h=>S ?_
   refine rb_ h fun v37 q h=>ak [false] (iiV_1 q) (S ?_)
   refine ag cs h (fun cs h=>S ?_) fun cs h=>S ?_
   refine rb_ h fun v44 q h=>ak [false] (iiQ_ q) (S ?_)
   refine ag cs h (fun cs h=>S ?_) fun cs h=>S ?_
   refine ag cs h (fun cs h=>S ?_) fun cs h=>S ?_
   refine rb_ h fun v58 q h=>ak [false] (iIV_1 q) (S ?_)
   refine ag cs h (fun cs h=>S ?_) fun cs h=>S ?_
   rotate_left 2
   refine rb_ h fun v68 q h=>ak [false] (iiZ_ q) (S ?_)
   refine ag cs h (fun cs h=>S ?_) fun cs h=>S ?_
   rotate_left 2
   refine ag cs h (fun cs h=>S ?_) fun cs h=>S ?_
   refine ag cs h (fun cs h=>S ?_) fun cs h=>S ?_
   refine rb_ h fun v58 q h=>ak [false] (iIV_1 q) (S ?_)
   refine ag cs h (fun cs h=>S ?_) fun cs h=>S ?_
   rotate_left 2
   refine rb_ h fun v68 q h=>ak [false] (iiZ_ q) (S ?_)
   refine ag cs h (fun cs h=>S ?_) fun cs h=>S ?_
   rotate_left 4
   refine rb_ h fun v44 q h=>ak [false] (iiQ_ q) (S ?_)
   refine ag cs h (fun cs h=>S ?_) fun cs h=>S ?_
   refine ag cs h (fun cs h=>S ?_) fun cs h=>S ?_
   refine rb_ h fun v58 q h=>ak [false] (iIV_1 q) (S ?_)
   refine ag cs h (fun cs h=>S ?_) fun cs h=>S ?_
   rotate_left 2
   refine rb_ h fun v68 q h=>ak [false] (iiZ_ q) (S ?_)
   refine ag cs h (fun cs h=>S ?_) fun cs h=>S ?_
   rotate_left 2
   refine ag cs h (fun cs h=>S ?_) fun cs h=>S ?_
   refine ag cs h (fun cs h=>S ?_) fun cs h=>S ?_
   refine rb_ h fun v58 q h=>ak [false] (iIV_1 q) (S ?_)
   refine ag cs h (fun cs h=>S ?_) fun cs h=>S ?_
   rotate_left 2
   refine rb_ h fun v68 q h=>ak [false] (iiZ_ q) (S ?_)
   refine ag cs h (fun cs h=>S ?_) fun cs h=>S ?_
   rotate_left 4
   refine ag cs h (fun cs h=>S ?_) fun cs h=>S ?_
   refine ag cs h (fun cs h=>S ?_) fun cs h=>S ?_
   refine rb_ h fun v33 q h=>ak [false] (iiQ_ q) (S ?_)
   refine ag cs h (fun cs h=>S ?_) fun cs h=>S ?_
   refine rb_ h fun v37 q h=>ak [false] (iiV_1 q) (S ?_)
   refine ag cs h (fun cs h=>S ?_) fun cs h=>S ?_
   refine rb_ h fun v44 q h=>ak [false] (iiQ_ q) (S ?_)
   refine ag cs h (fun cs h=>S ?_) fun cs h=>S ?_
   refine ag cs h (fun cs h=>S ?_) fun cs h=>S ?_
   refine rb_ h fun v58 q h=>ak [false] (iIV_1 q) (S ?_)
   refine ag cs h (fun cs h=>S ?_) fun cs h=>S ?_
   rotate_left 2
   refine rb_ h fun v68 q h=>ak [false] (iiZ_ q) (S ?_)
   refine ag cs h (fun cs h=>S ?_) fun cs h=>S ?_
   rotate_left 2
   refine ag cs h (fun cs h=>S ?_) fun cs h=>S ?_
   refine ag cs h (fun cs h=>S ?_) fun cs h=>S ?_
   refine rb_ h fun v58 q h=>ak [false] (iIV_1 q) (S ?_)
   refine ag cs h (fun cs h=>S ?_) fun cs h=>S ?_
   rotate_left 2
   refine rb_ h fun v68 q h=>ak [false] (iiZ_ q) (S ?_)
   refine ag cs h (fun cs h=>S ?_) fun cs h=>S ?_
   rotate_left 4
   refine rb_ h fun v44 q h=>ak [false] (iiQ_ q) (S ?_)
   refine ag cs h (fun cs h=>S ?_) fun cs h=>S ?_
   refine ag cs h (fun cs h=>S ?_) fun cs h=>S ?_
   refine rb_ h fun v58 q h=>ak [false] (iIV_1 q) (S ?_)
   refine ag cs h (fun cs h=>S ?_) fun cs h=>S ?_
   rotate_left 2
   refine rb_ h fun v68 q h=>ak [false] (iiZ_ q) (S ?_)
   refine ag cs h (fun cs h=>S ?_) fun cs h=>S ?_
   rotate_left 2
   refine ag cs h (fun cs h=>S ?_) fun cs h=>S ?_
   refine ag cs h (fun cs h=>S ?_) fun cs h=>S ?_
   refine rb_ h fun v58 q h=>ak [false] (iIV_1 q) (S ?_)
   refine ag cs h (fun cs h=>S ?_) fun cs h=>S ?_
   rotate_left 2
   refine rb_ h fun v68 q h=>ak [false] (iiZ_ q) (S ?_)
   refine ag cs h (fun cs h=>S ?_) fun cs h=>S ?_
   rotate_left 4
   refine ag cs h (fun cs h=>S ?_) fun cs h=>S ?_
   refine ag cs h (fun cs h=>S ?_) fun cs h=>S ?_
   refine rb_ h fun v33 q h=>ak [false] (iiQ_ q) (S ?_)
   refine ag cs h (fun cs h=>S ?_) fun cs h=>S ?_
   refine rb_ h fun v37 q h=>ak [false] (iiV_1 q) (S ?_)
   refine ag cs h (fun cs h=>S ?_) fun cs h=>S ?_
   refine rb_ h fun v44 q h=>ak [false] (iiQ_ q) (S ?_)
   refine ag cs h (fun cs h=>S ?_) fun cs h=>S ?_
   refine rb_ h fun v58 q h=>ak [false] (iIV_1 q) (S ?_)
   refine ag cs h (fun cs h=>S ?_) fun cs h=>S ?_
   rotate_left 2
   refine ag cs h (fun cs h=>S ?_) fun cs h=>S ?_
   refine rb_ h fun v58 q h=>ak [false] (iIV_1 q) (S ?_)
   refine ag cs h (fun cs h=>S ?_) fun cs h=>S ?_
   rotate_left 4
   refine rb_ h fun v44 q h=>ak [false] (iiQ_ q) (S ?_)
   refine ag cs h (fun cs h=>S ?_) fun cs h=>S ?_
   refine rb_ h fun v58 q h=>ak [false] (iIV_1 q) (S ?_)
   refine ag cs h (fun cs h=>S ?_) fun cs h=>S ?_
   rotate_left 2
   refine ag cs h (fun cs h=>S ?_) fun cs h=>S ?_
   refine rb_ h fun v58 q h=>ak [false] (iIV_1 q) (S ?_)
   refine ag cs h (fun cs h=>S ?_) fun cs h=>S ?_
   rotate_left 4
   refine ag cs h (fun cs h=>S ?_) fun cs h=>S ?_
   refine ag cs h (fun cs h=>S ?_) fun cs h=>S ?_
   refine rb_ h fun v33 q h=>ak [false] (iiQ_ q) (S ?_)
   refine ag cs h (fun cs h=>S ?_) fun cs h=>S ?_
   refine rb_ h fun v37 q h=>ak [false] (iiV_1 q) (S ?_)
   refine ag cs h (fun cs h=>S ?_) fun cs h=>S ?_
   refine rb_ h fun v44 q h=>ak [false] (iiQ_ q) (S ?_)
   refine ag cs h (fun cs h=>S ?_) fun cs h=>S ?_
   refine rb_ h fun v68 q h=>ak [false] (iiZ_ q) (S ?_)
   refine ag cs h (fun cs h=>S ?_) fun cs h=>S ?_
   rotate_left 2
   refine ag cs h (fun cs h=>S ?_) fun cs h=>S ?_
   refine rb_ h fun v68 q h=>ak [false] (iiZ_ q) (S ?_)
   refine ag cs h (fun cs h=>S ?_) fun cs h=>S ?_
   rotate_left 4
   refine rb_ h fun v44 q h=>ak [false] (iiQ_ q) (S ?_)
   refine ag cs h (fun cs h=>S ?_) fun cs h=>S ?_
   refine rb_ h fun v68 q h=>ak [false] (iiZ_ q) (S ?_)
   refine ag cs h (fun cs h=>S ?_) fun cs h=>S ?_
   rotate_left 2
   refine ag cs h (fun cs h=>S ?_) fun cs h=>S ?_
   refine rb_ h fun v68 q h=>ak [false] (iiZ_ q) (S ?_)
   refine ag cs h (fun cs h=>S ?_) fun cs h=>S ?_
   rotate_left 4
   refine rb_ h fun v20 q h=>ak [false] (iiQ_ q) (S ?_)
   refine ag cs h (fun cs h=>S ?_) fun cs h=>S ?_
   refine ag cs h (fun cs h=>S ?_) fun cs h=>S ?_
   refine rb_ h fun v33 q h=>ak [false] (iiQ_ q) (S ?_)
   refine ag cs h (fun cs h=>S ?_) fun cs h=>S ?_
   refine rb_ h fun v37 q h=>ak [false] (iiV_1 q) (S ?_)
   refine ag cs h (fun cs h=>S ?_) fun cs h=>S ?_
   refine rb_ h fun v44 q h=>ak [false] (iiQ_ q) (S ?_)
   refine ag cs h (fun cs h=>S ?_) fun cs h=>S ?_
   refine rb_ h fun v68 q h=>ak [false] (iiZ_ q) (S ?_)
   refine ag cs h (fun cs h=>S ?_) fun cs h=>S ?_
   rotate_left 2
   refine ag cs h (fun cs h=>S ?_) fun cs h=>S ?_
   refine rb_ h fun v68 q h=>ak [false] (iiZ_ q) (S ?_)
   refine ag cs h (fun cs h=>S ?_) fun cs h=>S ?_
   rotate_left 4
   refine rb_ h fun v44 q h=>ak [false] (iiQ_ q) (S ?_)
   refine ag cs h (fun cs h=>S ?_) fun cs h=>S ?_
   refine rb_ h fun v68 q h=>ak [false] (iiZ_ q) (S ?_)
   refine ag cs h (fun cs h=>S ?_) fun cs h=>S ?_
   rotate_left 2
   refine ag cs h (fun cs h=>S ?_) fun cs h=>S ?_
   refine rb_ h fun v68 q h=>ak [false] (iiZ_ q) (S ?_)
   refine ag cs h (fun cs h=>S ?_) fun cs h=>S ?_
   rotate_left 4
   refine rb_ h fun v24 q h=>ak [false] (iiB_1 q) (S ?_)
   refine ag cs h (fun cs h=>S ?_) fun cs h=>S ?_
   refine ag cs h (fun cs h=>S ?_) fun cs h=>S ?_
   refine rb_ h fun v33 q h=>ak [false] (iiQ_ q) (S ?_)
   refine ag cs h (fun cs h=>S ?_) fun cs h=>S ?_
   refine rb_ h fun v37 q h=>ak [false] (iiV_1 q) (S ?_)
   refine ag cs h (fun cs h=>S ?_) fun cs h=>S ?_
   refine rb_ h fun v44 q h=>ak [false] (iiQ_ q) (S ?_)
   refine ag cs h (fun cs h=>S ?_) fun cs h=>S ?_
   refine rb_ h fun v68 q h=>ak [false] (iiZ_ q) (S ?_)
   refine ag cs h (fun cs h=>S ?_) fun cs h=>S ?_
   rotate_left 2
   refine ag cs h (fun cs h=>S ?_) fun cs h=>S ?_
   refine rb_ h fun v68 q h=>ak [false] (iiZ_ q) (S ?_)
   refine ag cs h (fun cs h=>S ?_) fun cs h=>S ?_
   rotate_left 4
   refine rb_ h fun v44 q h=>ak [false] (iiQ_ q) (S ?_)
   refine ag cs h (fun cs h=>S ?_) fun cs h=>S ?_
   refine rb_ h fun v68 q h=>ak [false] (iiZ_ q) (S ?_)
   refine ag cs h (fun cs h=>S ?_) fun cs h=>S ?_
   rotate_left 2
   refine ag cs h (fun cs h=>S ?_) fun cs h=>S ?_
   refine rb_ h fun v68 q h=>ak [false] (iiZ_ q) (S ?_)
   refine ag cs h (fun cs h=>S ?_) fun cs h=>S ?_
   rotate_left
   ·exact FHz_ h
   ·exact FHz_ h
   ·exact FHz_ h
   ·exact FHz_ h
   rotate_left
   ·exact FHz_ h
   rotate_left
   ·exact FHz_ h
   rotate_left
   ·exact FHz_ h
   rotate_left
   ·exact FHz_ h
   ·exact FHz_ h
   ·exact FHz_ h
   rotate_left
   ·exact FHz_ h
   rotate_left
   ·exact FHz_ h
   rotate_left
   ·exact FHz_ h
   rotate_left
   ·exact FHz_ h
   ·exact FHz_ h
   ·exact FHz_ h
   rotate_left
   ·exact FHz_ h
   rotate_left
   ·exact FHz_ h
   rotate_left
   ·exact FHz_ h
   rotate_left
   ·exact FHz_ h
   ·exact FHz_ h
   ·exact FHz_ h
   rotate_left
   ·exact FHz_ h
   rotate_left
   ·exact FHz_ h
   rotate_left
   ·exact FHz_ h
   rotate_left
   ·exact FHz_ h
   ·exact FHz_ h
   ·exact FHz_ h
   rotate_left
   ·exact FHz_ h
   rotate_left
   ·exact FHz_ h
   ·exact FHz_ h
   ·exact FHz_ h
   rotate_left
   ·exact FHz_ h
   rotate_left
   ·exact FHz_ h
   ·exact FHz_ h
   ·exact FHz_ h
   rotate_left
   ·exact FHz_ h
   rotate_left
   ·exact FHz_ h
   ·exact FHz_ h
   ·exact FHz_ h
   rotate_left
   ·exact FHz_ h
   rotate_left
   ·exact FHz_ h
   ·exact FHz_ h
   ·exact FHz_ h
   rotate_left
   ·exact FHz_ h
   rotate_left
   ·exact FHz_ h
   ·exact FHz_ h
   ·exact FHz_ h
   rotate_left
   ·exact FHz_ h
   rotate_left
   ·exact FHz_ h
   ·exact FHz_ h
   ·exact FHz_ h
   rotate_left
   ·exact FHz_ h
   rotate_left
   ·exact FHz_ h
   ·exact FHz_ h
   ·exact FHz_ h
   rotate_left
   ·exact FHz_ h
   all_goals
    refine rb_ h fun v74 q h=>ak [false,false] (sCF_5 (fun _ _ hh=>ih.2 _ _ hh) (by simp only[COn_,COc_]) q) (S ?_)
    exact FHz_ h
  ·obtain⟨h,cs⟩:=Ro_ h
   rw[ihF_] at h
   refine Sg_ 6 [.tmp 2] Tryz.func106 (h:=S ?_)
   refine rb_ h fun v4 q h=>ak [false] (ih.1 _ _ q) (S ?_)
   exact FHz_ h
theorem ihF_4{a0:Ft}{r:Bool}(h:ihF_3 a0=some r):Sat ai 49 [((al false) a0)] (B r):=by
 obtain⟨n,hn⟩:=ls_ h
 exact(ihF_2 n).1 _ _ hn
theorem ihF_6{a0:Ft}{r:Bool}(h:ihF_5 a0=some r):Sat ai 106 [((al false) a0)] (B r):=by
 obtain⟨n,hn⟩:=ls_ h
 exact(ihF_2 n).2 _ _ hn

theorem iIV_7{a0:Ft}  {r:Bool}(h:iIV_5 a0=some r):Sat ai 18 [((al false) a0)] (B r):=by
 obtain⟨h,cs⟩:=Ro_ h
 unfold iIV_5 at h
 refine Sg_ 10 [.tmp 2] Tryz.func18 (h:=S ?_)
 refine rb_ h fun v4 q h=>ak [false] (isO_3 q) (S ?_)
 refine ag cs h (fun cs h=>S ?_) fun cs h=>S ?_
 ·refine rb_ h fun v8 q h=>ak [false] (ihF_4 q) (S ?_)
  exact FHz_ h
 ·exact FHz_ h

theorem sIS_3{a0:List Int}{a1:Int}  {r:Int}(h:sIS_1 a0 a1=some r):Sat ai 107 [(.sl false 1 (a0.map I)),(I a1)] (I r):=by
 obtain⟨h,cs⟩:=Ro_ h
 unfold sIS_1 at h
 refine Sg_ 19 [.tmp 4] Tryz.func107 (h:=S ?_)
 refine aV (b:=false) (sz:=1) (es:=a0.map I) 0 SC fun hl0=>?_; rw[aw] at hl0
 refine aH (rl_ h) (fun i2 s2=>[(0,.val (.pv (.sl false 1 (a0.map I)))),(1,.val (.pv (I a1))),(7,.val (.pv (I (a0.length:Int)))),(8,.val (.pv (I (i2:Int))))]) (fun i2 s2=>[]) (Slm_ SC) (fun i2 s2 hi h=>?_) (fun s2 h=>?_)
 ·have w:=ws_ i2
  refine S ?_
  refine aE cs fun cs=>S ?_
  refine rb_ h fun v14 q h=>am I q (S ?_)
  refine ag cs h (fun cs h=>S ?_) fun cs h=>S ?_
  ·exact FHz_ h
  ·exact aI h
 ·refine S ?_
  refine aF cs fun cs=>S ?_
  exact FHz_ h

theorem sCS_5{a0:List Int}{a1:Int}  {r:Bool}(h:sCS_3 a0 a1=some r):Sat ai 50 [(.sl false 1 (a0.map I)),(I a1)] (B r):=by
 obtain⟨h,cs⟩:=Ro_ h
 unfold sCS_3 at h
 refine Sg_ 9 [.tmp 4] Tryz.func50 (h:=S ?_)
 refine rb_ h fun v7 q h=>ak [false,false] (sIS_3 q) (S ?_)
 exact FHz_ h

theorem ihO_2(n:Nat):(∀ (a0:Ft) (a1:List Int) (r:Bool),ihO_ n a0 a1=some r→Sat ai 19 [((al false) a0),(.sl false 1 (a1.map I))] (B r))∧(∀ (a0:Ft) (b0:List Int) (r:Bool),ihO_1 n a0 b0=some r→Sat ai 52 [((al false) a0),.ptr (.sl false 1 (b0.map I))] (B r)):=by
 induction n with
 | zero=>exact⟨fun _ _ _ h=>by simp[ihO_] at h,fun _ _ _ h=>by simp[ihO_1] at h⟩
 | succ n ih=>
  refine⟨fun a0 a1 r h=>?_,fun a0 b0 r h=>?_⟩
  ·obtain⟨h,cs⟩:=Ro_ h
   rw[ihO_] at h
   refine Sg_ 15 [.tmp 4] Tryz.func19 (h:=S ?_)
   refine rb_ h fun v8 q h=>ak [false,false] (sCS_5 q) (S ?_)
   refine ag cs h (fun cs h=>S ?_) fun cs h=>S ?_
   ·exact FHz_ h
   ·refine MfH.fr (S ?_)
    refine rb_ h fun v13 q h=>ak [false,false] (sCF_5 (fun _ _ hh=>ih.2 _ _ _ hh) (by simp only[COn_,COc_]) q) (S ?_)
    exact FHz_ h
  ·obtain⟨h,cs⟩:=Ro_ h
   rw[ihO_1] at h
   refine Sg_ 7 [.tmp 3] Tryz.func52 (h:=S ?_)
   refine rb_ h fun v6 q h=>ak [false,false] (ih.1 _ _ _ q) (S ?_)
   exact FHz_ h
theorem ihO_4{a0:Ft}{a1:List Int}{r:Bool}(h:ihO_3 a0 a1=some r):Sat ai 19 [((al false) a0),(.sl false 1 (a1.map I))] (B r):=by
 obtain⟨n,hn⟩:=ls_ h
 exact(ihO_2 n).1 _ _ _ hn
theorem ihO_6{a0:Ft}{b0:List Int}{r:Bool}(h:ihO_5 a0 b0=some r):Sat ai 52 [((al false) a0),.ptr (.sl false 1 (b0.map I))] (B r):=by
 obtain⟨n,hn⟩:=ls_ h
 exact(ihO_2 n).2 _ _ _ hn

theorem iaO_2(n:Nat):(∀ (a0:Ft) (r:List Tt),iaO_ n a0=some r→Sat ai 54 [((al false) a0)] (.sl true 2 (r.map (aj false)))):=by
 induction n with
 | zero=>exact fun _ _ h=>by simp[iaO_] at h
 | succ n ih=>
  refine fun a0 r h=>?_
  obtain⟨h,cs⟩:=Ro_ h
  rw[iaO_] at h
  refine Sg_ 26 [.tmp 2] Tryz.func54 (h:=S ?_)
  refine ag cs h (fun cs h=>S ?_) fun cs h=>S ?_
  ·exact FHz_ h
  ·refine aV (b:=false) (sz:=5) (es:=a0.Parts.map (al false)) 14 SC fun hl14=>?_; rw[aw] at hl14
   refine aH (rl_ h) (fun i5 s5=>[(3,.val (.own 192)),(14,.val (.pv (.sl false 5 (a0.Parts.map (al false))))),(15,.val (.pv (I (a0.Parts.length:Int)))),(16,.val (.pv (I (i5:Int))))]) (fun i5 s5=>[(192,(2,s5.map (aj false)))]) (Slm_ SC) (fun i5 s5 hi h=>?_) (fun s5 h=>?_)
   ·have w:=ws_ i5
    refine S ?_
    refine aE cs fun cs=>S ?_
    refine rb_ h fun v18 q h=>am (al false) q (S ?_)
    refine rb_ h fun v22 q h=>ak [false] (ih _ _ q) (S ?_)
    refine rb_ h fun v23 q h=>aK (aj false) (fun a=>bt _ a) q (S ?_)
    have h:=rs_ h
    refine aZ ⟨_,h,?_⟩
    refine Slr_ 368 192 ?_
    exact Slm_ SWx
   ·refine S ?_
    refine aF cs fun cs=>S ?_
    exact FHz_ h
theorem iaO_3{a0:Ft}{r:List Tt}(h:iaO_1 a0=some r):Sat ai 54 [((al false) a0)] (.sl true 2 (r.map (aj false))):=by
 obtain⟨n,hn⟩:=ls_ h
 exact(iaO_2 n) _ _ hn

theorem iiV_3{a0:Tt}  {r:Bool}(h:iiV_2 a0=some r):Sat ai 109 [((aj false) a0)] (B r):=by
 obtain⟨h,cs⟩:=Ro_ h
 unfold iiV_2 at h
 refine Sg_ 7 [.tmp 2] Tryz.func109 (h:=S ?_)
 refine rb_ h fun v5 q h=>aW q (S ?_)
 refine rb_ h fun v6 q h=>ak [false] (iiU_1 q) (S ?_)
 exact FHz_ h

theorem icN_5(n:Nat):(∀ (a0:List ByteArray) (a1:Tt) (r:List ByteArray),icN_ n a0 a1=some r→Sat ai 55 [(.sl true 1 (a0.map Sx)),((aj false) a1)] (.sl true 1 (r.map Sx))):=by
 induction n with
 | zero=>exact fun _ _ _ h=>by simp[icN_] at h
 | succ n ih=>
  refine fun a0 a1 r h=>?_
  obtain⟨h,cs⟩:=Ro_ h
  rw[icN_] at h
  refine Sg_ 38 [.tmp 4] Tryz.func55 (h:=S ?_)
  refine ag cs h (fun cs h=>S ?_) fun cs h=>S ?_
  refine rb_ h fun v13 q h=>ak [false] (iiV_3 q) (S ?_)
  refine ag cs h (fun cs h=>S ?_) fun cs h=>S ?_
  refine rb_ h fun v18 q h=>ak [false,false] (sCS_1 q) (S ?_)
  refine ag cs h (fun cs h=>S ?_) fun cs h=>S ?_
  ·exact FHz_ h
  ·refine rb_ h fun v24 q h=>aK Sx (fun _=>rfl) q (S ?_)
   exact FHz_ h
  all_goals
   refine aV (b:=false) (sz:=2) (es:=a1.Args.map (aj false)) 8 SC fun hl8=>?_; rw[aw] at hl8
   refine aH (rl_ h) (fun i6 s6=>[(0,.val (.own 9000)),(27,.val (.pv (.sl false 2 (a1.Args.map (aj false))))),(28,.val (.pv (I (a1.Args.length:Int)))),(29,.val (.pv (I (i6:Int))))]) (fun i6 s6=>[(9000,(1,s6.map Sx))]) (Slm_ SC) (fun i6 s6 hi h=>?_) (fun s6 h=>?_)
   ·have w:=ws_ i6
    refine S ?_
    refine aE cs fun cs=>S ?_
    refine rb_ h fun v31 q h=>am (aj false) q (S ?_)
    refine rb_ h fun v35 q h=>ak [true,false] (ih _ _ _ q) (S ?_)
    have h:=rs_ h
    refine aZ ⟨_,h,?_⟩
    refine Slr_ 560 9000 ?_
    exact Slm_ SWx
   ·refine S ?_
    refine aF cs fun cs=>S ?_
    exact FHz_ h
theorem ics_{a0:List ByteArray}{a1:Tt}{r:List ByteArray}(h:ic_ a0 a1=some r):Sat ai 55 [(.sl true 1 (a0.map Sx)),((aj false) a1)] (.sl true 1 (r.map Sx)):=by
 obtain⟨n,hn⟩:=ls_ h
 exact(icN_5 n) _ _ _ hn


theorem ivI_1{a0:Ft}  {r:List ByteArray}(h:ivI_ a0=some r):Sat ai 21 [((al false) a0)] (.sl true 1 (r.map Sx)):=by
 obtain⟨h,cs⟩:=Ro_ h
 unfold ivI_ at h
 refine Sg_ 21 [.tmp 2] Tryz.func21 (h:=S ?_)
 refine rb_ h fun v8 q h=>ak [false] (iaO_3 q) (S ?_)
 refine Mg.know_own (sz:=2) (es:=v8.map (aj false)) 128 SC fun hl128=>?_; rw[aw] at hl128
 refine aH (rl_ h) (fun i3 s3=>[(3,.val (.own 96)),(8,.val (.own 128)),(9,.val (.pv (I (v8.length:Int)))),(10,.val (.pv (I (i3:Int))))]) (fun i3 s3=>[(96,(1,s3.map Sx)),(128,(2,v8.map (aj false)))]) (Slm_ SC) (fun i3 s3 hi h=>?_) (fun s3 h=>?_)
 ·have w:=ws_ i3
  refine S ?_
  refine aE cs fun cs=>S ?_
  refine rb_ h fun v12 q h=>am (aj false) q (S ?_)
  refine rb_ h fun v13 q h=>EldH.c (aj false) q (S ?_)
  refine rb_ h fun v16 q h=>ak [true,false] (ics_ q) (S ?_)
  have h:=rs_ h
  refine aZ ⟨_,h,?_⟩
  refine Slr_ 256 96 ?_
  exact Slm_ SWx
 ·refine S ?_
  refine aF cs fun cs=>S ?_
  obtain⟨v19,hv19,h⟩:=rb_1 h
  refine CHi_ [(.own 96)] [(96,(1,v19.2.map Sx))] (sSS_1 hv19) SC (S ?_)
  exact FHz_ h

theorem iiG_1{a0:Tt}  {r:Bool}(h:iiG_ a0=some r):Sat ai 113 [((aj false) a0)] (B r):=by
 obtain⟨h,cs⟩:=Ro_ h
 unfold iiG_ at h
 refine Sg_ 11 [.tmp 2] Tryz.func113 (h:=S ?_)
 refine rb_ h fun v4 q h=>ak [false] (iIV_6 q) (S ?_)
 refine ag cs h (fun cs h=>S ?_) fun cs h=>S ?_
 ·refine rb_ h fun v7 q h=>ak [true,false] (ics_ q) (S ?_)
  exact FHz_ h
 ·exact FHz_ h

theorem inG_1{a0:Tt}  {r:Bool}(h:inG_ a0=some r):Sat ai 58 [((aj false) a0)] (B r):=by
 obtain⟨h,cs⟩:=Ro_ h
 unfold inG_ at h
 refine Sg_ 6 [.tmp 2] Tryz.func58 (h:=S ?_)
 refine rb_ h fun v4 q h=>ak [false] (iiG_1 q) (S ?_)
 exact FHz_ h

theorem iiP_2{a0:ByteArray}  {r:Bool}(h:iiP_1 a0=some r):Sat ai 115 [(Sx a0)] (B r):=by
 obtain⟨h,cs⟩:=Ro_ h
 unfold iiP_1 at h
 refine Sg_ 5 [.tmp 2] Tryz.func115 (h:=S ?_)
 exact FHz_ h

theorem sIF_5{a0:List ByteArray}{a1:ByteArray→Option Bool}{a1_id:FuncId}{a1_cs:List PV}(a1_ok:∀ y0 r,a1 y0=some r→Sat ai a1_id ((Sx y0)::a1_cs) (B r))(a1_cz:CO_ a1_cs=True){r:Int}(h:sIF_2 a0 a1=some r):Sat ai 168 [(.sl false 1 (a0.map Sx)),.clo a1_id a1_cs] (I r):=by
 obtain⟨h,cs⟩:=Ro_ h
 unfold sIF_2 at h
 have cs:=ae a1_cz cs
 refine Sg_ 19 [.tmp 4] Tryz.func168 (h:=S ?_)
 refine aV (b:=false) (sz:=1) (es:=a0.map Sx) 0 SC fun hl0=>?_; rw[aw] at hl0
 refine aH (rl_ h) (fun i2 s2=>[(0,.val (.pv (.sl false 1 (a0.map Sx)))),(1,.val (.pv (.clo a1_id a1_cs))),(7,.val (.pv (I (a0.length:Int)))),(8,.val (.pv (I (i2:Int))))]) (fun i2 s2=>[]) (Slm_ SC) (fun i2 s2 hi h=>?_) (fun s2 h=>?_)
 ·have w:=ws_ i2
  refine S ?_
  refine aE cs fun cs=>S ?_
  refine rb_ h fun v14 q h=>am Sx q (S ?_)
  refine rb_ h fun v16 q h=>ak [false] (a1_ok _ _ q) (S ?_)
  refine ag cs h (fun cs h=>S ?_) fun cs h=>S ?_
  ·exact FHz_ h
  ·exact aI h
 ·refine S ?_
  refine aF cs fun cs=>S ?_
  exact FHz_ h

theorem sCF_7{a0:List ByteArray}{a1:ByteArray→Option Bool}{a1_id:FuncId}{a1_cs:List PV}(a1_ok:∀ y0 r,a1 y0=some r→Sat ai a1_id ((Sx y0)::a1_cs) (B r))(a1_cz:CO_ a1_cs=True){r:Bool}(h:sCF_4 a0 a1=some r):Sat ai 114 [(.sl false 1 (a0.map Sx)),.clo a1_id a1_cs] (B r):=by
 obtain⟨h,cs⟩:=Ro_ h
 unfold sCF_4 at h
 have cs:=ae a1_cz cs
 refine Sg_ 9 [.tmp 4] Tryz.func114 (h:=S ?_)
 refine rb_ h fun v7 q h=>ak [false,false] (sIF_5 a1_ok a1_cz q) (S ?_)
 exact FHz_ h

theorem iiP_3{a0:Tt}  {r:Bool}(h:iiP_ a0=some r):Sat ai 60 [((aj false) a0)] (B r):=by
 obtain⟨h,cs⟩:=Ro_ h
 unfold iiP_ at h
 refine Sg_ 11 [.tmp 2] Tryz.func60 (h:=S ?_)
 refine rb_ h fun v4 q h=>ak [false] (iIV_6 q) (S ?_)
 refine ag cs h (fun cs h=>S ?_) fun cs h=>S ?_
 ·refine rb_ h fun v7 q h=>ak [true,false] (ics_ q) (S ?_)
  refine rb_ h fun v8 q h=>ak [false,false] (sCF_7 (fun _ _ hh=>iiP_2 hh) (by simp only[COn_,COc_]) q) (S ?_)
  exact FHz_ h
 ·exact FHz_ h

theorem iIV_9{a0:Tt}  {r:Bool}(h:iIV_3 a0=some r):Sat ai 59 [((aj false) a0)] (B r):=by
 obtain⟨h,cs⟩:=Ro_ h
 unfold iIV_3 at h
 refine Sg_ 6 [.tmp 2] Tryz.func59 (h:=S ?_)
 refine rb_ h fun v4 q h=>ak [false] (iiP_3 q) (S ?_)
 exact FHz_ h

theorem ciN_2{a0:ByteArray}  {r:Bool}(h:ciN_ a0=some r):Sat ai 187 [(Sx a0)] (B r):=by
 obtain⟨h,cs⟩:=Ro_ h
 unfold ciN_ at h
 refine Sg_ 6 [.tmp 2] Tryz.func187 (h:=S ?_)
 exact FHz_ h

theorem cCs_1{a0:ByteArray}{a1:ByteArray}  {r:Int}(h:cCs_ a0 a1=some r):Sat ai 144 [(Sx a0),(Sx a1)] (I r):=by
 obtain⟨h,cs⟩:=Ro_ h
 unfold cCs_ at h
 refine Sg_ 20 [.tmp 4] Tryz.func144 (h:=S ?_)
 refine rb_ h fun v8 q h=>ak [false] (ciN_2 q) (S ?_)
 refine rb_ h fun v10 q h=>ak [false] (ciN_2 q) (S ?_)
 refine ag cs h (fun cs h=>S ?_) fun cs h=>S ?_
 refine ag cs h (fun cs h=>S ?_) fun cs h=>S ?_
 rotate_left 2
 refine ag cs h (fun cs h=>S ?_) fun cs h=>S ?_
 rotate_left
 refine ag cs h (fun cs h=>S ?_) fun cs h=>S ?_
 rotate_left
 refine ag cs h (fun cs h=>S ?_) fun cs h=>S ?_
 all_goals
  exact FHz_ h

theorem ciN_3{a0:Int}  {r:Bool}(h:ciN_1 a0=some r):Sat ai 188 [(I a0)] (B r):=by
 obtain⟨h,cs⟩:=Ro_ h
 unfold ciN_1 at h
 refine Sg_ 6 [.tmp 2] Tryz.func188 (h:=S ?_)
 exact FHz_ h

theorem cCi_1{a0:Int}{a1:Int}  {r:Int}(h:cCi_ a0 a1=some r):Sat ai 145 [(I a0),(I a1)] (I r):=by
 obtain⟨h,cs⟩:=Ro_ h
 unfold cCi_ at h
 refine Sg_ 20 [.tmp 4] Tryz.func145 (h:=S ?_)
 refine rb_ h fun v8 q h=>ak [false] (ciN_3 q) (S ?_)
 refine rb_ h fun v10 q h=>ak [false] (ciN_3 q) (S ?_)
 refine ag cs h (fun cs h=>S ?_) fun cs h=>S ?_
 refine ag cs h (fun cs h=>S ?_) fun cs h=>S ?_
 rotate_left 2
 refine ag cs h (fun cs h=>S ?_) fun cs h=>S ?_
 rotate_left
 refine ag cs h (fun cs h=>S ?_) fun cs h=>S ?_
 rotate_left
 refine ag cs h (fun cs h=>S ?_) fun cs h=>S ?_
 all_goals
  exact FHz_ h

theorem cOi_1{a0:List Int}  {r:Int}(h:cOi_ a0=some r):Sat ai 143 [(.sl false 1 (a0.map I))] (I r):=by
 obtain⟨h,cs⟩:=Ro_ h
 unfold cOi_ at h
 refine Sg_ 18 [.tmp 2] Tryz.func143 (h:=S ?_)
 refine aV (b:=false) (sz:=1) (es:=a0.map I) 0 SC fun hl0=>?_; rw[aw] at hl0
 refine aH (rl_ h) (fun i3 s3=>[(3,.val (.pv (I 0))),(6,.val (.pv (.sl false 1 (a0.map I)))),(7,.val (.pv (I (a0.length:Int)))),(8,.val (.pv (I (i3:Int))))]) (fun i3 s3=>[]) (Slm_ SC) (fun i3 s3 hi h=>?_) (fun s3 h=>?_)
 ·have w:=ws_ i3
  refine S ?_
  refine aE cs fun cs=>S ?_
  refine rb_ h fun v10 q h=>am I q (S ?_)
  refine ag cs h (fun cs h=>S ?_) fun cs h=>S ?_
  ·exact aI h
  ·exact FHz_ h
 ·refine S ?_
  refine aF cs fun cs=>S ?_
  exact FHz_ h

end Go.Proofs.YtckabmmondelpaaGreat
