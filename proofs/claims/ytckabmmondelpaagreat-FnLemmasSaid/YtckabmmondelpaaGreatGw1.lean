/- Lemmas of the proof; each says what it shows. -/
import Derived.Test.YtckabmmondelpaaGreatGw0
set_option linter.unusedSimpArgs false
set_option linter.unusedVariables false
set_option linter.defProp false
set_option maxRecDepth 4000
namespace Go.Proofs.YtckabmmondelpaaGreat
open Go.Av
open And renaming intro→ae
open AppH renaming c→aK
open CallH renaming c→ak
open CondH renaming t3→aE,run→ag,f3→aF
open Ft renaming pv→al
open HandH renaming call→aC
open IdxH renaming c→am
open List renaming length_map→aw
open Mg renaming know_sl→aV,forN→aH
open Nat renaming le_of_ble_eq_true→aR
open PV renaming views→az
open RdH renaming z→aI,mk→aZ
open St renaming le_trans→bn
open Tryz renaming prog→ai
open Tt renaming pv→aj
set_option maxHeartbeats 4000000
theorem sCF_6{a0:List Tt}{a1:List Tt}{a2:Tt→Tt→Option Int}{a2_id:FuncId}{a2_cs:List PV}(a2_ok:∀ y0 y1 r,a2 y0 y1=some r→Sat ai a2_id (((aj false) y0)::((aj false) y1)::a2_cs) (I r))(a2_cz:CO_ a2_cs=True){r:Int}(h:sCF_2 a0 a1 a2=some r):Sat ai 146 [(.sl false 2 (a0.map (aj false))),(.sl false 2 (a1.map (aj false))),.clo a2_id a2_cs] (I r):=by
 obtain⟨h,cs⟩:=Ro_ h
 unfold sCF_2 at h
 have cs:=ae a2_cz cs
 refine Sg_ 39 [.tmp 6] Tryz.func146 (h:=S ?_)
 refine aV (b:=false) (sz:=2) (es:=a0.map (aj false)) 0 SC fun hl0=>?_; rw[aw] at hl0
 refine aH (rl_ h) (fun i2 s2=>[(0,.val (.pv (.sl false 2 (a0.map (aj false))))),(1,.val (.pv (.sl false 2 (a1.map (aj false))))),(2,.val (.pv (.clo a2_id a2_cs))),(11,.val (.pv (.sl false 2 (a0.map (aj false))))),(12,.val (.pv (I (a0.length:Int)))),(13,.val (.pv (I (i2:Int))))]) (fun i2 s2=>[]) (Slm_ SC) (fun i2 s2 hi h=>?_) (fun s2 h=>?_)
 ·have w:=ws_ i2
  refine S ?_
  refine aE cs fun cs=>S ?_
  refine rb_ h fun v16 q h=>am (aj false) q (S ?_)
  refine ag cs h (fun cs h=>S ?_) fun cs h=>S ?_
  ·exact FHz_ h
  ·refine rb_ h fun v24 q h=>am (aj false) q (S ?_)
   refine rb_ h fun v29 q h=>ak [false,false] (a2_ok _ _ _ q) (S ?_)
   refine ag cs h (fun cs h=>S ?_) fun cs h=>S ?_
   ·exact aI h
   ·exact FHz_ h
 ·refine S ?_
  refine aF cs fun cs=>S ?_
  refine ag cs h (fun cs h=>S ?_) fun cs h=>S ?_
  ·exact FHz_ h
  ·exact FHz_ h

theorem icT_8(n:Nat):(∀ (a0:Tt) (a1:Tt) (r:Int),icT_ n a0 a1=some r→Sat ai 86 [((aj false) a0),((aj false) a1)] (I r)):=by
 induction n with
 | zero=>exact fun _ _ _ h=>by simp[icT_] at h
 | succ n ih=>
  refine fun a0 a1 r h=>?_
  obtain⟨h,cs⟩:=Ro_ h
  rw[icT_] at h
  refine Sg_ 46 [.tmp 4] Tryz.func86 (h:=S ?_)
  refine rb_ h fun v9 q h=>ak [false] (iiV_3 q) (S ?_)
  refine rb_ h fun v11 q h=>ak [false] (iiV_3 q) (S ?_)
  refine ae (DHa_ [] []) (S ?_)
  refine ag cs h (fun cs h=>S ?_) fun cs h=>S ?_
  refine ag cs h (fun cs h=>S ?_) fun cs h=>S ?_
  refine rb_ h fun v28 q h=>ak [false,false] (cCs_1 q) (S ?_)
  refine rb_ h fun v35 q h=>ak [false,false] (cCi_1 q) (S ?_)
  refine rb_ h fun v37 q h=>ak [false] (cOi_1 q) (S ?_)
  refine ae (DHa_ [] [576]) (S ?_)
  refine ag cs h (fun cs h=>S ?_) fun cs h=>S ?_
  rotate_left 3
  refine ag cs h (fun cs h=>S ?_) fun cs h=>S ?_
  rotate_left
  refine rb_ h fun v28 q h=>ak [false,false] (cCs_1 q) (S ?_)
  refine rb_ h fun v35 q h=>ak [false,false] (cCi_1 q) (S ?_)
  refine rb_ h fun v37 q h=>ak [false] (cOi_1 q) (S ?_)
  refine ae (DHa_ [] [576]) (S ?_)
  refine ag cs h (fun cs h=>S ?_) fun cs h=>S ?_
  rotate_left
  ·exact FHz_ h
  rotate_left
  ·exact FHz_ h
  ·exact FHz_ h
  ·exact FHz_ h
  all_goals
   refine rb_ h fun v45 q h=>ak [false,false,false] (sCF_6 (fun _ _ _ hh=>ih _ _ _ hh) (by simp only[COn_,COc_]) q) (S ?_)
   exact FHz_ h
theorem icT_6{a0:Tt}{a1:Tt}{r:Int}(h:icT_2 a0 a1=some r):Sat ai 86 [((aj false) a0),((aj false) a1)] (I r):=by
 obtain⟨n,hn⟩:=ls_ h
 exact(icT_8 n) _ _ _ hn

theorem iaA_3{a0:List Tt}  {r:Bool}(h:iaA_ a0=some r):Sat ai 61 [(.sl false 2 (a0.map (aj false)))] (B r):=by
 obtain⟨h,cs⟩:=Ro_ h
 unfold iaA_ at h
 refine Sg_ 28 [.tmp 2] Tryz.func61 (h:=S ?_)
 refine aV (b:=false) (sz:=2) (es:=a0.map (aj false)) 0 SC fun hl0=>?_; rw[aw] at hl0
 refine aH (rl_ h) (fun i2 s2=>[(0,.val (.pv (.sl false 2 (a0.map (aj false))))),(5,.val (.pv (I (a0.length:Int)))),(6,.val (.pv (I (i2:Int))))]) (fun i2 s2=>[]) (Slm_ SC) (fun i2 s2 hi h=>?_) (fun s2 h=>?_)
 ·have w:=ws_ i2
  refine S ?_
  refine aE cs fun cs=>S ?_
  refine ag cs h (fun cs h=>S ?_) fun cs h=>S ?_
  ·refine rb_ h fun v15 q h=>am (aj false) q (S ?_)
   refine rb_ h fun v19 q h=>am (aj false) q (S ?_)
   refine rb_ h fun v21 q h=>ak [false,false] (icT_6 q) (S ?_)
   refine ae (DHa_ [] []) (S ?_)
   refine ag cs h (fun cs h=>S ?_) fun cs h=>S ?_
   ·exact FHz_ h
   ·exact aI h
  ·refine ae (DHa_ [] []) (S ?_)
   exact aI h
 ·refine S ?_
  refine aF cs fun cs=>S ?_
  exact FHz_ h

theorem iIV_8{a0:Dt}  {r:Bool}(h:iIV_2 a0=some r):Sat ai 22 [((Dt.pv false) a0)] (B r):=by
 obtain⟨h,cs⟩:=Ro_ h
 unfold iIV_2 at h
 refine Sg_ 31 [.tmp 2] Tryz.func22 (h:=S ?_)
 refine rb_ h fun v5 q h=>ak [false,false] (sCF_3 (fun _ _ hh=>inG_1 hh) (by simp only[COn_,COc_]) q) (S ?_)
 refine ag cs h (fun cs h=>S ?_) fun cs h=>S ?_
 rotate_left
 refine rb_ h fun v9 q h=>ak [false,false] (sCF_3 (fun _ _ hh=>iIV_9 hh) (by simp only[COn_,COc_]) q) (S ?_)
 refine ag cs h (fun cs h=>S ?_) fun cs h=>S ?_
 rotate_left
 refine rb_ h fun v13 q h=>ak [false] (iaA_3 q) (S ?_)
 refine ag cs h (fun cs h=>S ?_) fun cs h=>S ?_
 refine rb_ h fun v17 q h=>ak [false] (iaA_3 q) (S ?_)
 refine ag cs h (fun cs h=>S ?_) fun cs h=>S ?_
 refine ag cs h (fun cs h=>S ?_) fun cs h=>S ?_
 rotate_left
 ·refine rb_ h fun v27 q h=>ak [false,false] (sCF_3 (fun _ _ hh=>inG_1 hh) (by simp only[COn_,COc_]) q) (S ?_)
  exact FHz_ h
 all_goals
  exact FHz_ h

theorem ivs_{a0:Tt}  {r:List ByteArray}(h:iv_ a0=some r):Sat ai 196 [((aj false) a0)] (.sl true 1 (r.map Sx)):=by
 obtain⟨h,cs⟩:=Ro_ h
 unfold iv_ at h
 refine Sg_ 10 [.tmp 2] Tryz.func196 (h:=S ?_)
 refine rb_ h fun v6 q h=>ak [true,false] (ics_ q) (S ?_)
 obtain⟨v8,hv8,h⟩:=rb_1 h
 refine CHi_ [(.own 96)] [(96,(1,v8.2.map Sx))] (sSS_1 hv8) SC (S ?_)
 exact FHz_ h

theorem sCS_4{a0:List ByteArray}  {r:List ByteArray}(h:sCS_2 a0=some r):Sat ai 197 [(.sl false 1 (a0.map Sx))] (.sl true 1 (r.map Sx)):=by
 obtain⟨h,cs⟩:=Ro_ h
 unfold sCS_2 at h
 refine Sg_ 8 [.tmp 2] Tryz.func197 (h:=S ?_)
 refine NilH.mk (fun e=>?_) ?_
 ·obtain rfl:a0=[]:=List.map_eq_nil_iff.1 e
  simp only[an_1,Option.bind_some] at h
  refine S ?_
  exact FHz_ h
 ·skip
  refine S ?_
  refine rb_ h fun v7 q h=>aK Sx (fun _=>rfl) q (S ?_)
  exact FHz_ h

theorem igN_1(n:Nat):(∀ (a0:List ByteArray) (a1:Ft) (a2:List ByteArray) (r:List ByteArray),igN_ n a0 a1 a2=some r→Sat ai 172 [(.sl true 1 (a0.map Sx)),((al false) a1),(.sl false 1 (a2.map Sx))] (.sl true 1 (r.map Sx))):=by
 induction n with
 | zero=>exact fun _ _ _ _ h=>by simp[igN_] at h
 | succ n ih=>
  refine fun a0 a1 a2 r h=>?_
  obtain⟨h,cs⟩:=Ro_ h
  rw[igN_] at h
  refine Sg_ 60 [.tmp 6] Tryz.func172 (h:=S ?_)
  refine ag cs h (fun cs h=>S ?_) fun cs h=>S ?_
  ·refine rb_ h fun v16 q h=>ak [false] (ivs_ q) (S ?_)
   refine Mg.know_own (sz:=1) (es:=v16.map Sx) 256 SC fun hl256=>?_; rw[aw] at hl256
   refine aH (rl_ h) (fun i3 s3=>[(0,.val (.own 9000)),(2,.val (.pv (.sl false 1 (a2.map Sx)))),(16,.val (.own 256)),(17,.val (.pv (I (v16.length:Int)))),(18,.val (.pv (I (i3:Int))))]) (fun i3 s3=>[(9000,(1,s3.map Sx)),(256,(1,v16.map Sx))]) (Slm_ SC) (fun i3 s3 hi h=>?_) (fun s3 h=>?_)
   ·have w:=ws_ i3
    refine S ?_
    refine aE cs fun cs=>S ?_
    refine rb_ h fun v20 q h=>am Sx q (S ?_)
    refine rb_ h fun v21 q h=>EldH.c Sx q (S ?_)
    refine rb_ h fun v24 q h=>ak [false,false] (sCS_1 q) (S ?_)
    refine ag cs h (fun cs h=>S ?_) fun cs h=>S ?_
    ·exact aI h
    ·refine rb_ h fun v29 q h=>ak [false,false] (sCS_1 q) (S ?_)
     refine ag cs h (fun cs h=>S ?_) fun cs h=>S ?_
     ·exact aI h
     ·refine rb_ h fun v35 q h=>aK Sx (fun _=>rfl) q (S ?_)
      have h:=rs_ h
      refine aZ ⟨_,h,?_⟩
      refine Slr_ 560 9000 ?_
      exact Slm_ SWx
   ·refine S ?_
    refine aF cs fun cs=>S ?_
    exact FHz_ h
  ·refine rb_ h fun v40 q h=>ak [false] (iiQ_ q) (S ?_)
   refine ag cs h (fun cs h=>S ?_) fun cs h=>S ?_
   ·refine rb_ h fun v42 q h=>ak [false] (sCS_4 q) (S ?_)
    refine rb_ h fun v46 q h=>aK Sx (fun _=>rfl) q (S ?_)
    refine ae (DHa_ [] [672,720,736]) (S ?_)
    refine aV (b:=false) (sz:=5) (es:=a1.Parts.map (al false)) 48 SC fun hl48=>?_; rw[aw] at hl48
    refine aH (rl_ h) (fun i12 s12=>[(0,.val (.own 9000)),(2,.val (.own 736)),(48,.val (.pv (.sl false 5 (a1.Parts.map (al false))))),(49,.val (.pv (I (a1.Parts.length:Int)))),(50,.val (.pv (I (i12:Int))))]) (fun i12 s12=>[(9000,(1,s12.map Sx)),(736,(1,v46.map Sx))]) (Slm_ SC) (fun i12 s12 hi h=>?_) (fun s12 h=>?_)
    ·have w:=ws_ i12
     refine S ?_
     refine aE cs fun cs=>S ?_
     refine rb_ h fun v52 q h=>am (al false) q (S ?_)
     refine rb_ h fun v57 q h=>ak [true,false,false] (ih _ _ _ _ q) (S ?_)
     have h:=rs_ h
     refine aZ ⟨_,h,?_⟩
     refine Slr_ 912 9000 ?_
     exact Slm_ SWx
    ·refine S ?_
     refine aF cs fun cs=>S ?_
     exact FHz_ h
   ·refine aV (b:=false) (sz:=5) (es:=a1.Parts.map (al false)) 48 SC fun hl48=>?_; rw[aw] at hl48
    refine aH (rl_ h) (fun i12 s12=>[(0,.val (.own 9000)),(2,.val (.pv (.sl false 1 (a2.map Sx)))),(48,.val (.pv (.sl false 5 (a1.Parts.map (al false))))),(49,.val (.pv (I (a1.Parts.length:Int)))),(50,.val (.pv (I (i12:Int))))]) (fun i12 s12=>[(9000,(1,s12.map Sx))]) (Slm_ SC) (fun i12 s12 hi h=>?_) (fun s12 h=>?_)
    ·have w:=ws_ i12
     refine S ?_
     refine aE cs fun cs=>S ?_
     refine rb_ h fun v52 q h=>am (al false) q (S ?_)
     refine rb_ h fun v57 q h=>ak [true,false,false] (ih _ _ _ _ q) (S ?_)
     have h:=rs_ h
     refine aZ ⟨_,h,?_⟩
     refine Slr_ 912 9000 ?_
     exact Slm_ SWx
    ·refine S ?_
     refine aF cs fun cs=>S ?_
     exact FHz_ h
theorem igs_{a0:List ByteArray}{a1:Ft}{a2:List ByteArray}{r:List ByteArray}(h:ig_ a0 a1 a2=some r):Sat ai 172 [(.sl true 1 (a0.map Sx)),((al false) a1),(.sl false 1 (a2.map Sx))] (.sl true 1 (r.map Sx)):=by
 obtain⟨n,hn⟩:=ls_ h
 exact(igN_1 n) _ _ _ _ hn

theorem ifs_1{a0:Ft}  {r:List ByteArray}(h:if_1 a0=some r):Sat ai 122 [((al false) a0)] (.sl true 1 (r.map Sx)):=by
 obtain⟨h,cs⟩:=Ro_ h
 unfold if_1 at h
 refine Sg_ 10 [.tmp 2] Tryz.func122 (h:=S ?_)
 refine rb_ h fun v6 q h=>ak [true,false,false] (igs_ q) (S ?_)
 obtain⟨v8,hv8,h⟩:=rb_1 h
 refine CHi_ [(.own 96)] [(96,(1,v8.2.map Sx))] (sSS_1 hv8) SC (S ?_)
 exact FHz_ h

theorem icT_7(n:Nat):(∀ (a0:Tt) (r:Tt),icT_1 n a0=some r→Sat ai 140 [((aj false) a0)] ((aj true) r))∧(∀ (a0:List Tt) (r:List Tt),icT_3 n a0=some r→Sat ai 178 [(.sl false 2 (a0.map (aj false)))] (.sl true 2 (r.map (aj true)))):=by
 induction n with
 | zero=>exact⟨fun _ _ h=>by simp[icT_1] at h,fun _ _ h=>by simp[icT_3] at h⟩
 | succ n ih=>
  refine⟨fun a0 r h=>?_,fun a0 r h=>?_⟩
  ·obtain⟨h,cs⟩:=Ro_ h
   rw[icT_1] at h
   refine Sg_ 9 [.cell 2 26] Tryz.func140 (h:=S ?_)
   refine rb_ h fun v7 q h=>ak [false] (ih.2 _ _ q) (S ?_)
   refine ae (DHa_ [] [112]) (S ?_)
   exact FHz_ h
  ·obtain⟨h,cs⟩:=Ro_ h
   rw[icT_3] at h
   refine Sg_ 26 [.tmp 2] Tryz.func178 (h:=S ?_)
   refine ag cs h (fun cs h=>S ?_) fun cs h=>S ?_
   ·exact FHz_ h
   ·refine rb_ h fun n11 q h=>MknH.mk q (S ?_)
    refine aV (b:=false) (sz:=2) (es:=a0.map (aj false)) 0 SC fun hl0=>?_; rw[aw] at hl0
    refine aH (rl_ h) (fun i5 s5=>[(3,.val (.own 176)),(12,.val (.pv (.sl false 2 (a0.map (aj false))))),(13,.val (.pv (I (a0.length:Int)))),(14,.val (.pv (I (i5:Int))))]) (fun i5 s5=>[(176,(2,s5.map (aj true)))]) (Slm_ SC) (fun i5 s5 hi h=>?_) (fun s5 h=>?_)
    ·have w:=ws_ i5
     refine S ?_
     refine aE cs fun cs=>S ?_
     refine rb_ h fun v17 q h=>am (aj false) q (S ?_)
     refine rb_ h fun v22 q h=>ak [false] (ih.1 _ _ q) (S ?_)
     refine rb_ h fun v23 q h=>am (aj true) q (S ?_)
     refine rb_ h fun w3 q h=>EldH.c (aj true) q (S ?_)
     exact aI h
    ·refine S ?_
     refine aF cs fun cs=>S ?_
     exact FHz_ h
theorem icT_4{a0:Tt}{r:Tt}(h:icT_5 a0=some r):Sat ai 140 [((aj false) a0)] ((aj true) r):=by
 obtain⟨n,hn⟩:=ls_ h
 exact(icT_7 n).1 _ _ hn
theorem icT_10{a0:List Tt}{r:List Tt}(h:icT_9 a0=some r):Sat ai 178 [(.sl false 2 (a0.map (aj false)))] (.sl true 2 (r.map (aj true))):=by
 obtain⟨n,hn⟩:=ls_ h
 exact(icT_7 n).2 _ _ hn

theorem imP_3{a0:Ft}{a1:Ft→Option Ft}{a1_id:FuncId}{a1_cs:List PV}(a1_ok:∀ y0 r,a1 y0=some r→Sat ai a1_id (((al false) y0)::a1_cs) ((al true) r))(a1_cz:CO_ a1_cs=True){r:Ft}(h:imP_2 a0 a1=some r):Sat ai 124 [((al false) a0),.clo a1_id a1_cs] ((al true) r):=by
 obtain⟨h,cs⟩:=Ro_ h
 unfold imP_2 at h
 have cs:=ae a1_cz cs
 refine Sg_ 33 [.cell 4 29] Tryz.func124 (h:=S ?_)
 refine rb_ h fun v12 q h=>ak [false] (icT_4 q) (S ?_)
 refine ae (DHa_ [5] [192]) (S ?_)
 refine aV (b:=false) (sz:=5) (es:=a0.Parts.map (al false)) 17 SC fun hl17=>?_; rw[aw] at hl17
 refine aH (rl_ h) (fun i3 s3=>[(1,.val (.pv (.clo a1_id a1_cs))),(4,.box zab0),(5,.box (.node [(.pv (I a0.Op)),(.node [(.pv (Sx v12.Name)),(.own 192)]),(.pv (Sx a0.Var)),(.own 9309)])),(17,.val (.pv (.sl false 5 (a0.Parts.map (al false))))),(18,.val (.pv (I (a0.Parts.length:Int)))),(19,.val (.pv (I (i3:Int))))]) (fun i3 s3=>[(192,(2,v12.Args.map (aj true))),(9309,(5,s3.map (al true)))]) (bn (Sln_ (x:=(.node [(.pv (I a0.Op)),(.node [(.pv (Sx v12.Name)),(.own 192)]),(.pv (Sx a0.Var)),(.pv (.sl true 5 []))])) 5 [3] 9309 5 NM SC SC SC) (Slm_ SC)) (fun i3 s3 hi h=>?_) (fun s3 h=>?_)
 ·have w:=ws_ i3
  refine S ?_
  refine aE cs fun cs=>S ?_
  refine rb_ h fun v21 q h=>am (al false) q (S ?_)
  refine rb_ h fun v27 q h=>ak [false] (a1_ok _ _ q) (S ?_)
  refine rb_ h fun v29 q h=>aK (al true) (fun a=>Ft.psize _ a) q (S ?_)
  refine ae (DHa_ [] [432,433,448,464]) (S ?_)
  have h:=rs_ h
  refine aZ ⟨_,h,?_⟩
  refine Slr_ 464 9309 ?_
  exact Slm_ SWx
 ·refine S ?_
  refine aF cs fun cs=>S ?_
  exact FHz_ h

theorem icF_3(n:Nat):(∀ (a0:Ft) (r:Ft),icF_ n a0=some r→Sat ai 123 [((al false) a0)] ((al true) r)):=by
 induction n with
 | zero=>exact fun _ _ h=>by simp[icF_] at h
 | succ n ih=>
  refine fun a0 r h=>?_
  obtain⟨h,cs⟩:=Ro_ h
  rw[icF_] at h
  refine Sg_ 5 [.cell 2 29] Tryz.func123 (h:=S ?_)
  refine rb_ h fun v4 q h=>ak [false,false] (imP_3 (fun _ _ hh=>ih _ _ hh) (by simp only[COn_,COc_]) q) (S ?_)
  exact FHz_ h
theorem icF_2{a0:Ft}{r:Ft}(h:icF_1 a0=some r):Sat ai 123 [((al false) a0)] ((al true) r):=by
 obtain⟨n,hn⟩:=ls_ h
 exact(icF_3 n) _ _ hn

theorem icN_3(n:Nat):(∀ (a0:Tt) (a1:ByteArray) (r:Int),icN_1 n a0 a1=some r→Sat ai 137 [((aj false) a0),(Sx a1)] (I r)):=by
 induction n with
 | zero=>exact fun _ _ _ h=>by simp[icN_1] at h
 | succ n ih=>
  refine fun a0 a1 r h=>?_
  obtain⟨h,cs⟩:=Ro_ h
  rw[icN_1] at h
  refine Sg_ 26 [.tmp 4] Tryz.func137 (h:=S ?_)
  refine ag cs h (fun cs h=>S ?_) fun cs h=>S ?_
  all_goals
   refine aV (b:=false) (sz:=2) (es:=a0.Args.map (aj false)) 13 SC fun hl13=>?_; rw[aw] at hl13
   refine aH (rl_ h) (fun i5 s5=>[(1,.val (.pv (Sx a1))),(5,.val (.pv (I s5))),(13,.val (.pv (.sl false 2 (a0.Args.map (aj false))))),(14,.val (.pv (I (a0.Args.length:Int)))),(15,.val (.pv (I (i5:Int))))]) (fun i5 s5=>[]) (Slm_ SC) (fun i5 s5 hi h=>?_) (fun s5 h=>?_)
   ·have w:=ws_ i5
    refine S ?_
    refine aE cs fun cs=>S ?_
    refine rb_ h fun v17 q h=>am (aj false) q (S ?_)
    refine rb_ h fun v22 q h=>ak [false,false] (ih _ _ _ q) (S ?_)
    exact aI h
   ·refine S ?_
    refine aF cs fun cs=>S ?_
    exact FHz_ h
theorem icN_4{a0:Tt}{a1:ByteArray}{r:Int}(h:icN_2 a0 a1=some r):Sat ai 137 [((aj false) a0),(Sx a1)] (I r):=by
 obtain⟨n,hn⟩:=ls_ h
 exact(icN_3 n) _ _ _ hn

theorem ios_{a0:ByteArray}{a1:Tt}  {r:Bool}(h:io_ a0 a1=some r):Sat ai 82 [(Sx a0),((aj false) a1)] (B r):=by
 obtain⟨h,cs⟩:=Ro_ h
 unfold io_ at h
 refine Sg_ 9 [.tmp 4] Tryz.func82 (h:=S ?_)
 refine rb_ h fun v7 q h=>ak [false,false] (icN_4 q) (S ?_)
 exact FHz_ h

theorem iSt_2{a0:Bt}{a1:ByteArray}  {r:Int}(h:iSt_ a0 a1=some r):Sat ai 199 [((Bt.pv false) a0),(Sx a1)] (I r):=by
 obtain⟨h,cs⟩:=Ro_ h
 unfold iSt_ at h
 refine Sg_ 9 [.tmp 4] Tryz.func199 (h:=S ?_)
 refine rb_ h fun v8 q h=>ak [false,false] (cCs_1 q) (S ?_)
 exact FHz_ h

theorem sBS_1{a0:List Bt}{a1:ByteArray}{a2:Bt→ByteArray→Option Int}{a2_id:FuncId}{a2_cs:List PV}(a2_ok:∀ y0 y1 r,a2 y0 y1=some r→Sat ai a2_id (((Bt.pv false) y0)::(Sx y1)::a2_cs) (I r))(a2_cz:CO_ a2_cs=True){r:Int×Bool}(h:sBS_ a0 a1 a2=some r):Sat ai 198 [(.sl false 3 (a0.map (Bt.pv false))),(Sx a1),.clo a2_id a2_cs] (.tup [(I r.1),(B r.2)]):=by
 obtain⟨h,cs⟩:=Ro_ h
 unfold sBS_ at h
 have cs:=ae a2_cz cs
 refine Sg_ 49 [.tmp 6,.tmp 7] Tryz.func198 (h:=S ?_)
 replace h:=rl_ h
 refine Mg.whileN h (fun s3=>[(0,.val (.pv (.sl false 3 (a0.map (Bt.pv false))))),(1,.val (.pv (Sx a1))),(2,.val (.pv (.clo a2_id a2_cs))),(8,.val (.pv (I (a0.length:Int)))),(9,.val (.pv (I s3.1))),(10,.val (.pv (I s3.2)))]) (fun s3=>[]) (Slm_ SC) (fun n3 s3 h=>?_)
 refine S ?_
 refine ag cs h (fun cs h=>S ?_) fun cs h=>S ?_
 ·refine rb_ h fun v22 q h=>ShrH.mk q (S ?_)
  refine rb_ h fun v27 q h=>am (Bt.pv false) q (S ?_)
  refine rb_ h fun v30 q h=>ak [false,false] (a2_ok _ _ _ q) (S ?_)
  refine ag cs h (fun cs h=>S ?_) fun cs h=>S ?_
  all_goals
   have h:=rs_ h
   refine aZ ⟨_,h,?_⟩
   exact Slm_ SC
 ·have h:=rs_ h
  refine ag cs h (fun cs h=>S ?_) fun cs h=>S ?_
  ·refine rb_ h fun v43 q h=>am (Bt.pv false) q (S ?_)
   refine rb_ h fun v46 q h=>ak [false,false] (a2_ok _ _ _ q) (S ?_)
   exact FHz_ h
  ·exact FHz_ h

theorem iSt_3{a0:Sb}{a1:ByteArray}  {r:Tt×Bool}(h:iSt_1 a0 a1=some r):Sat ai 173 [((Sb.pv false) a0),(Sx a1)] (.tup [((aj false) r.1),(B r.2)]):=by
 obtain⟨h,cs⟩:=Ro_ h
 unfold iSt_1 at h
 refine Sg_ 24 [.cell 4 26,.tmp 5] Tryz.func173 (h:=S ?_)
 refine rb_ h fun v12 q h=>ak [false,false,false] (sBS_1 (fun _ _ _ hh=>iSt_2 hh) (by simp only[COn_,COc_]) q) (S ?_)
 refine ag cs h (fun cs h=>S ?_) fun cs h=>S ?_
 ·refine rb_ h fun v21 q h=>am (Bt.pv false) q (S ?_)
  exact FHz_1 h
 ·exact FHz_1 h

theorem iSa_2(n:Nat):(∀ (a0:Sb) (a1:Tt) (r:Tt),iSa_ n a0 a1=some r→Sat ai 126 [((Sb.pv false) a0),((aj false) a1)] ((aj true) r)):=by
 induction n with
 | zero=>exact fun _ _ _ h=>by simp[iSa_] at h
 | succ n ih=>
  refine fun a0 a1 r h=>?_
  obtain⟨h,cs⟩:=Ro_ h
  rw[iSa_] at h
  refine Sg_ 51 [.cell 4 26] Tryz.func126 (h:=S ?_)
  refine ag cs h (fun cs h=>S ?_) fun cs h=>S ?_
  ·refine rb_ h fun v18 q h=>ak [false,false] (iSt_3 q) (S ?_)
   refine ag cs h (fun cs h=>S ?_) fun cs h=>S ?_
   ·refine rb_ h fun v23 q h=>ak [false] (icT_4 q) (S ?_)
    exact FHz_ h
   ·exact FHz_ h
  ·refine rb_ h fun n32 q h=>MknH.mk q (S ?_)
   refine ae (DHa_ [7] [512]) (S ?_)
   refine aV (b:=false) (sz:=2) (es:=a1.Args.map (aj false)) 11 SC fun hl11=>?_; rw[aw] at hl11
   refine aH (rl_ h) (fun i8 s8=>[(2,.box (.pv ((Sb.pv false) a0))),(4,.box zab1),(7,.box (.node [(.pv (Sx a1.Name)),(.own 512)])),(35,.val (.pv (.sl false 2 (a1.Args.map (aj false))))),(36,.val (.pv (I (a1.Args.length:Int)))),(37,.val (.pv (I (i8:Int))))]) (fun i8 s8=>[(512,(2,s8.map (aj true)))]) (Slm_ SC) (fun i8 s8 hi h=>?_) (fun s8 h=>?_)
   ·have w:=ws_ i8
    refine S ?_
    refine aE cs fun cs=>S ?_
    refine rb_ h fun v40 q h=>am (aj false) q (S ?_)
    refine rb_ h fun v47 q h=>ak [false,false] (ih _ _ _ q) (S ?_)
    refine rb_ h fun v48 q h=>am (aj true) q (S ?_)
    refine rb_ h fun w4 q h=>EldH.c (aj true) q (S ?_)
    refine ae (DHa_ [] [752]) (S ?_)
    exact aI h
   ·refine S ?_
    refine aF cs fun cs=>S ?_
    exact FHz_ h
theorem iSa_3{a0:Sb}{a1:Tt}{r:Tt}(h:iSa_1 a0 a1=some r):Sat ai 126 [((Sb.pv false) a0),((aj false) a1)] ((aj true) r):=by
 obtain⟨n,hn⟩:=ls_ h
 exact(iSa_2 n) _ _ _ hn

theorem imP_1{a0:Ft}{a1:Ft→Bool→Option (Ft×Bool)}{a1_s:Bool}{a1_id:FuncId}{a1_pat:List Bool}{a1_ps a1_p1 a1_p2:List PV}(a1_ok:∀ y0 s r,a1 y0 s=some r→SatH ai a1_id (((al false) y0)::a1_p1) a1_p2 .ptr [] (.pv (B s)) (.pv (B r.2)) ((al true) r.1))(a1_sp:sP_ a1_pat a1_ps=some (a1_p1,a1_p2))(a1_cz:CO_ a1_ps){r:Ft×Bool}(h:imP_ a0 a1 a1_s=some r):SatH ai 124 [((al false) a0)] [] (.clo a1_id a1_pat) a1_ps (.pv (B a1_s)) (.pv (B r.2)) ((al true) r.1):=by
 obtain⟨h,cs⟩:=Ro_ h
 unfold imP_ at h
 refine SHo_ (nt:=33) (rs:=[.cell 4 29]) (n:=100000) 1 Tryz.func124 rfl rfl rfl rfl rfl (aR rfl) (by decide) (by first | exact aR rfl | exact SC) (S ?_)
 refine rb_ h fun v12 q h=>ak [false] (icT_4 q) (S ?_)
 refine ae (DHa_ [5] [192]) (S ?_)
 refine aV (b:=false) (sz:=5) (es:=a0.Parts.map (al false)) 17 SC fun hl17=>?_; rw[aw] at hl17
 refine aH (rl_ h) (fun i3 s3=>[(1,.hold (.clo a1_id a1_pat) a1_ps (.cv (.pv (B s3.1)))),(4,.box zab0),(5,.box (.node [(.pv (I a0.Op)),(.node [(.pv (Sx v12.Name)),(.own 192)]),(.pv (Sx a0.Var)),(.own 9309)])),(17,.val (.pv (.sl false 5 (a0.Parts.map (al false))))),(18,.val (.pv (I (a0.Parts.length:Int)))),(19,.val (.pv (I (i3:Int)))),(20000,gh 1)]) (fun i3 s3=>[(192,(2,v12.Args.map (aj true))),(9309,(5,s3.2.map (al true)))]) (bn (Sln_ (x:=(.node [(.pv (I a0.Op)),(.node [(.pv (Sx v12.Name)),(.own 192)]),(.pv (Sx a0.Var)),(.pv (.sl true 5 []))])) 5 [3] 9309 5 NM SC SC SC) (Slm_ SC)) (fun i3 s3 hi h=>?_) (fun s3 h=>?_)
 ·have w:=ws_ i3
  refine S ?_
  refine aE cs fun cs=>S ?_
  refine rb_ h fun v21 q h=>am (al false) q (S ?_)
  obtain⟨v27,hv27,h⟩:=rb_1 h
  refine HHc_ (r:=1) (hc:=.cv (.pv (B s3.1))) (pre:=[((al false) v21)]) a1_pat a1_ps a1_p1 a1_p2 [(.pv ((al false) v21))] [false] (a1_ok _ _ _ hv27) a1_sp a1_cz SC (S ?_)
  refine rb_ h fun v29 q h=>aK (al true) (fun a=>Ft.psize _ a) q (S ?_)
  refine ae (DHa_ [] [432,433,448,464]) (S ?_)
  have h:=rs_ h
  refine aZ ⟨_,h,?_⟩
  refine Slr_ 464 9309 ?_
  exact Slm_ SWx
 ·refine S ?_
  refine aF cs fun cs=>S ?_
  cases rs_ h
  exact RetHB.l SC

theorem isN_2(n:Nat):(∀ (a0:Ft) (a1:ByteArray) (a2:Tt) (r:Ft×Bool),isN_ n a0 a1 a2=some r→Sat ai 64 [((al false) a0),(Sx a1),((aj false) a2)] (.tup [((al true) r.1),(B r.2)]))∧(∀ (a0:Ft) (b0:ByteArray) (b1:Tt) (b2:Bool) (r:Ft×Bool),is1_ n a0 b0 b1 b2=some r→SatH ai 125 [((al false) a0),.ptr (Sx b0),.ptr ((aj false) b1)] [] .ptr [] (.pv (B b2)) (.pv (B r.2)) ((al true) r.1)):=by
 induction n with
 | zero=>exact⟨fun _ _ _ _ h=>by simp[isN_] at h,fun _ _ _ _ _ h=>by simp[is1_] at h⟩
 | succ n ih=>
  refine⟨fun a0 a1 a2 r h=>?_,fun a0 b0 b1 b2 r h=>?_⟩
  ·obtain⟨h,cs⟩:=Ro_ h
   rw[isN_] at h
   refine Sg_ 55 [.cell 6 29,.tmp 7] Tryz.func64 (h:=S ?_)
   refine rb_ h fun v12 q h=>ak [false] (iiQ_ q) (S ?_)
   refine ag cs h (fun cs h=>S ?_) fun cs h=>S ?_
   refine ag cs h (fun cs h=>S ?_) fun cs h=>S ?_
   rotate_left
   refine rb_ h fun v20 q h=>ak [false] (ifs_1 q) (S ?_)
   refine rb_ h fun v22 q h=>ak [false,false] (sCS_1 q) (S ?_)
   refine ae (DHa_ [] [320]) (S ?_)
   refine ag cs h (fun cs h=>S ?_) fun cs h=>S ?_
   refine rb_ h fun v30 q h=>ak [false] (iiQ_ q) (S ?_)
   refine ag cs h (fun cs h=>S ?_) fun cs h=>S ?_
   refine rb_ h fun v35 q h=>ak [false,false] (ios_ q) (S ?_)
   refine ag cs h (fun cs h=>S ?_) fun cs h=>S ?_
   rotate_left
   refine MfH.hcl (r:=8) (x:=(.pv (B true))) [.tmp 4,.tmp 5] [] [(4,(Sx a1)),(5,((aj false) a2))] [false,false,true] [(.ptr (Sx a1)),(.ptr ((aj false) a2))] rfl rfl rfl SC (S ?_)
   obtain⟨v40,hv40,h⟩:=rb_1 h
   refine aC (r:=8) (hc:=.cv (.pv (B true))) 1 [_] [] [(.pv ((al false) a0))] [] [false] (imP_1 (a1_id:=125) (a1_pat:=[false,false,true]) (a1_ps:=[(.ptr (Sx a1)),(.ptr ((aj false) a2))]) (a1_p1:=[(.ptr (Sx a1)),(.ptr ((aj false) a2))]) (a1_p2:=[]) (a1_ok:=fun _ _ _ hh=>ih.2 _ _ _ _ _ hh) (a1_sp:=rfl) (a1_cz:=by simp only[COn_,COc_]) hv40) rfl rfl rfl SC (S ?_)
   refine ag cs h (fun cs h=>S ?_) fun cs h=>S ?_
   rotate_left 2
   refine MfH.hcl (r:=8) (x:=(.pv (B true))) [.tmp 4,.tmp 5] [] [(4,(Sx a1)),(5,((aj false) a2))] [false,false,true] [(.ptr (Sx a1)),(.ptr ((aj false) a2))] rfl rfl rfl SC (S ?_)
   obtain⟨v40,hv40,h⟩:=rb_1 h
   refine aC (r:=8) (hc:=.cv (.pv (B true))) 1 [_] [] [(.pv ((al false) a0))] [] [false] (imP_1 (a1_id:=125) (a1_pat:=[false,false,true]) (a1_ps:=[(.ptr (Sx a1)),(.ptr ((aj false) a2))]) (a1_p1:=[(.ptr (Sx a1)),(.ptr ((aj false) a2))]) (a1_p2:=[]) (a1_ok:=fun _ _ _ hh=>ih.2 _ _ _ _ _ hh) (a1_sp:=rfl) (a1_cz:=by simp only[COn_,COc_]) hv40) rfl rfl rfl SC (S ?_)
   refine ag cs h (fun cs h=>S ?_) fun cs h=>S ?_
   rotate_left 3
   refine ae (DHa_ [] []) (S ?_)
   refine rb_ h fun v30 q h=>ak [false] (iiQ_ q) (S ?_)
   refine ag cs h (fun cs h=>S ?_) fun cs h=>S ?_
   refine rb_ h fun v35 q h=>ak [false,false] (ios_ q) (S ?_)
   refine ag cs h (fun cs h=>S ?_) fun cs h=>S ?_
   rotate_left
   refine MfH.hcl (r:=8) (x:=(.pv (B true))) [.tmp 4,.tmp 5] [] [(4,(Sx a1)),(5,((aj false) a2))] [false,false,true] [(.ptr (Sx a1)),(.ptr ((aj false) a2))] rfl rfl rfl SC (S ?_)
   obtain⟨v40,hv40,h⟩:=rb_1 h
   refine aC (r:=8) (hc:=.cv (.pv (B true))) 1 [_] [] [(.pv ((al false) a0))] [] [false] (imP_1 (a1_id:=125) (a1_pat:=[false,false,true]) (a1_ps:=[(.ptr (Sx a1)),(.ptr ((aj false) a2))]) (a1_p1:=[(.ptr (Sx a1)),(.ptr ((aj false) a2))]) (a1_p2:=[]) (a1_ok:=fun _ _ _ hh=>ih.2 _ _ _ _ _ hh) (a1_sp:=rfl) (a1_cz:=by simp only[COn_,COc_]) hv40) rfl rfl rfl SC (S ?_)
   refine ag cs h (fun cs h=>S ?_) fun cs h=>S ?_
   rotate_left 2
   refine MfH.hcl (r:=8) (x:=(.pv (B true))) [.tmp 4,.tmp 5] [] [(4,(Sx a1)),(5,((aj false) a2))] [false,false,true] [(.ptr (Sx a1)),(.ptr ((aj false) a2))] rfl rfl rfl SC (S ?_)
   obtain⟨v40,hv40,h⟩:=rb_1 h
   refine aC (r:=8) (hc:=.cv (.pv (B true))) 1 [_] [] [(.pv ((al false) a0))] [] [false] (imP_1 (a1_id:=125) (a1_pat:=[false,false,true]) (a1_ps:=[(.ptr (Sx a1)),(.ptr ((aj false) a2))]) (a1_p1:=[(.ptr (Sx a1)),(.ptr ((aj false) a2))]) (a1_p2:=[]) (a1_ok:=fun _ _ _ hh=>ih.2 _ _ _ _ _ hh) (a1_sp:=rfl) (a1_cz:=by simp only[COn_,COc_]) hv40) rfl rfl rfl SC (S ?_)
   refine ag cs h (fun cs h=>S ?_) fun cs h=>S ?_
   rotate_left
   ·refine ae (DHa_ [] []) (S ?_)
    exact FHz_ h
   ·refine ae (DHa_ [] []) (S ?_)
    refine rb_ h fun v27 q h=>ak [false] (icF_2 q) (S ?_)
    exact FHz_ h
   ·exact FHz_ h
   rotate_left
   ·refine ae (DHa_ [] []) (S ?_)
    exact FHz_ h
   rotate_left
   ·refine ae (DHa_ [] []) (S ?_)
    exact FHz_ h
   ·refine rb_ h fun v27 q h=>ak [false] (icF_2 q) (S ?_)
    exact FHz_ h
   ·exact FHz_ h
   rotate_left
   ·refine ae (DHa_ [] []) (S ?_)
    exact FHz_ h
   all_goals
    refine rb_ h fun v51 q h=>ak [false,false] (iSa_3 q) (S ?_)
    refine ae (DHa_ [] []) (S ?_)
    exact FHz_ h
  ·obtain⟨h,cs⟩:=Ro_ h
   rw[is1_] at h
   refine SHo_ (nt:=20) (rs:=[.cell 5 29]) (n:=100000) 3 Tryz.func125 rfl rfl rfl rfl rfl (aR rfl) (by decide) (by first | exact aR rfl | exact SC) (S ?_)
   refine rb_ h fun v12 q h=>ak [false,false,false] (ih.1 _ _ _ _ q) (S ?_)
   refine ag cs h (fun cs h=>S ?_) fun cs h=>S ?_
   all_goals
    cases rs_ h
    exact RetHB.l SC
theorem iss_{a0:Ft}{a1:ByteArray}{a2:Tt}{r:Ft×Bool}(h:is_ a0 a1 a2=some r):Sat ai 64 [((al false) a0),(Sx a1),((aj false) a2)] (.tup [((al true) r.1),(B r.2)]):=by
 obtain⟨n,hn⟩:=ls_ h
 exact(isN_2 n).1 _ _ _ _ hn
theorem is1_2{a0:Ft}{b0:ByteArray}{b1:Tt}{b2:Bool}{r:Ft×Bool}(h:is1_1 a0 b0 b1 b2=some r):SatH ai 125 [((al false) a0),.ptr (Sx b0),.ptr ((aj false) b1)] [] .ptr [] (.pv (B b2)) (.pv (B r.2)) ((al true) r.1):=by
 obtain⟨n,hn⟩:=ls_ h
 exact(isN_2 n).2 _ _ _ _ _ hn

theorem iiF_2{a0:Ft}  {r:Ft×Bool}(h:iiF_ a0=some r):Sat ai 24 [((al false) a0)] (.tup [((al false) r.1),(B r.2)]):=by
 obtain⟨h,cs⟩:=Ro_ h
 unfold iiF_ at h
 refine Sg_ 9 [.cell 2 29,.tmp 3] Tryz.func24 (h:=S ?_)
 refine rb_ h fun v5 q h=>ak [false] (iIV_7 q) (S ?_)
 refine ag cs h (fun cs h=>S ?_) fun cs h=>S ?_
 ·exact FHz_1 h
 ·exact FHz_1 h

theorem iiF_1{a0:Ft}  {r:Ft×Bool}(h:iiF_ a0=some r):Sat ai 24 [((al true) a0)] (.tup [((al true) r.1),(B r.2)]):=by
 obtain⟨h,cs⟩:=Ro_ h
 unfold iiF_ at h
 refine Sg_ 9 [.cell 2 29,.tmp 3] Tryz.func24 (h:=S ?_)
 refine rb_ h fun v5 q h=>ak [false] (iIV_7 q) (S ?_)
 refine ag cs h (fun cs h=>S ?_) fun cs h=>S ?_
 ·exact FHz_ h
 ·exact FHz_ h

theorem iSF_1{a0:Ft}{a1:ByteArray}{a2:Tt}  {r:Ft×Bool}(h:iSF_ a0 a1 a2=some r):Sat ai 23 [((al false) a0),(Sx a1),((aj false) a2)] (.tup [((al true) r.1),(B r.2)]):=by
 obtain⟨h,cs⟩:=Ro_ h
 unfold iSF_ at h
 refine Sg_ 38 [.cell 6 29,.tmp 7] Tryz.func23 (h:=S ?_)
 refine rb_ h fun v11 q h=>ak [false] (iIV_7 q) (S ?_)
 refine ag cs h (fun cs h=>S ?_) fun cs h=>S ?_
 refine rb_ h fun v15 q h=>ak [false] (iiV_1 q) (S ?_)
 refine ag cs h (fun cs h=>S ?_) fun cs h=>S ?_
 refine rb_ h fun v20 q h=>ak [false] (iIV_6 q) (S ?_)
 refine ag cs h (fun cs h=>S ?_) fun cs h=>S ?_
 refine rb_ h fun v28 q h=>ak [false,false,false] (iss_ q) (S ?_)
 refine ag cs h (fun cs h=>S ?_) fun cs h=>S ?_
 ·refine rb_ h fun v35 q h=>ak [true] (iiF_1 q) (S ?_)
  exact FHz_ h
 all_goals
  exact FHz_ h

theorem ibs_{a0:Int}{a1:Ft}{a2:Ft}  {r:Ft}(h:ib_ a0 a1 a2=some r):Sat ai 66 [(I a0),((al false) a1),((al false) a2)] ((al false) r):=by
 obtain⟨h,cs⟩:=Ro_ h
 unfold ib_ at h
 refine Sg_ 12 [.cell 6 29] Tryz.func66 (h:=S ?_)
 exact FHz_1 h

theorem ics_1{a0:Int}{a1:List Ft}{a2:Ft}{r:Ft}(h:ic_1 a0 a1 a2=some r):Sat ai 26 [I a0,.sl false 5 (a1.map (al false)),al false a2] (al false r):=by
 cases h
 exact cs_3 (fun f o=>(ib_ a0 f o).getD default) a0 (fun f o=>by obtain⟨r,hr⟩:∃ r,ib_ a0 f o=some r:=⟨_,rfl⟩; rw[hr]; exact ibs_ hr) a1 a2

theorem iqs_{a0:Int}{a1:ByteArray}{a2:Ft}  {r:Ft}(h:iq_ a0 a1 a2=some r):Sat ai 25 [(I a0),(Sx a1),((al false) a2)] ((al false) r):=by
 obtain⟨h,cs⟩:=Ro_ h
 unfold iq_ at h
 refine Sg_ 12 [.cell 6 29] Tryz.func25 (h:=S ?_)
 exact FHz_1 h

theorem iLO_2{a0:Ft}{a1:Dt}  {r:Ft×Bool}(h:iLO_ a0 a1=some r):Sat ai 6 [((al false) a0),((Dt.pv false) a1)] (.tup [((al false) r.1),(B r.2)]):=by
 obtain⟨h,cs⟩:=Ro_ h
 unfold iLO_ at h
 refine Sg_ 75 [.cell 4 29,.tmp 5] Tryz.func6 (h:=S ?_)
 refine rb_ h fun v12 q h=>ak [false] (iIV_7 q) (S ?_)
 refine ag cs h (fun cs h=>S ?_) fun cs h=>S ?_
 refine ag cs h (fun cs h=>S ?_) fun cs h=>S ?_
 refine rb_ h fun v22 q h=>am (al false) q (S ?_)
 refine rb_ h fun v25 q h=>ak [false,false] (ihO_4 q) (S ?_)
 refine ag cs h (fun cs h=>S ?_) fun cs h=>S ?_
 rotate_left
 refine rb_ h fun v30 q h=>am (al false) q (S ?_)
 refine rb_ h fun v32 q h=>ak [false] (ivI_1 q) (S ?_)
 refine rb_ h fun v33 q h=>ak [false,false] (sCS_1 q) (S ?_)
 refine ag cs h (fun cs h=>S ?_) fun cs h=>S ?_
 rotate_left
 refine rb_ h fun v37 q h=>ak [false] (iIV_8 q) (S ?_)
 refine ag cs h (fun cs h=>S ?_) fun cs h=>S ?_
 ·refine aV (b:=false) (sz:=2) (es:=a1.Patterns.map (aj false)) 43 SC fun hl43=>?_; rw[aw] at hl43
  refine aH (rl_ h) (fun i5 s5=>[(2,.box (.pv ((al false) a0))),(4,.box zab0),(6,.val (.own 656)),(43,.val (.pv (.sl false 2 (a1.Patterns.map (aj false))))),(44,.val (.pv (I (a1.Patterns.length:Int)))),(45,.val (.pv (I (i5:Int))))]) (fun i5 s5=>[(656,(5,s5.map (al true)))]) (Slm_ SC) (fun i5 s5 hi h=>?_) (fun s5 h=>?_)
  ·have w:=ws_ i5
   refine S ?_
   refine aE cs fun cs=>S ?_
   refine rb_ h fun v47 q h=>am (aj false) q (S ?_)
   refine rb_ h fun v52 q h=>am (al false) q (S ?_)
   refine rb_ h fun v57 q h=>ak [false,false,false] (iSF_1 q) (S ?_)
   refine ae (DHa_ [9] [912,913]) (S ?_)
   refine ag cs h (fun cs h=>S ?_) fun cs h=>S ?_
   ·refine rb_ h fun v66 q h=>aK (al true) (fun a=>Ft.psize _ a) q (S ?_)
    have h:=rs_ h
    refine aZ ⟨_,h,?_⟩
    refine Slr_ 1056 656 ?_
    exact Slm_ SWx
   ·exact FHz_1 h
  ·refine S ?_
   refine aF cs fun cs=>S ?_
   refine rb_ h fun v70 q h=>ak [false,true,true] (Sat.give (args:=[(I 5),(.sl true 5 (s5.map (al true))),(.agg [(I 1),(.agg [(Sx ⟨#[]⟩),(.sl true 2 [])]),(Sx ⟨#[]⟩),(.sl true 5 [])])]) [false,true,true] (by have gg:=ics_1 q; simp only[gv_t,gv_f,gv_n,vs_,va_,vl_,vrB_,vrI_,az,RB,RS] at gg ⊢; exact gg)) (S ?_)
   refine rb_ h fun v71 q h=>ak [false,false,false] (iqs_ q) (S ?_)
   refine rb_ h fun v72 q h=>ak [false] (iiF_2 q) (S ?_)
   exact FHz_1 h
 all_goals
  exact FHz_1 h

theorem iLI_1{a0:Ft}{a1:Dt}  {r:(List Ft)×Bool}(h:iLI_ a0 a1=some r):Sat ai 7 [((al false) a0),((Dt.pv false) a1)] (.tup [(.sl true 5 (r.1.map (al true))),(B r.2)]):=by
 obtain⟨h,cs⟩:=Ro_ h
 unfold iLI_ at h
 refine Sg_ 46 [.tmp 4,.tmp 5] Tryz.func7 (h:=S ?_)
 refine rb_ h fun v16 q h=>ak [false,false] (iLO_2 q) (S ?_)
 refine ag cs h (fun cs h=>S ?_) fun cs h=>S ?_
 ·refine aV (b:=false) (sz:=2) (es:=a1.Instances.map (aj false)) 23 SC fun hl23=>?_; rw[aw] at hl23
  refine aH (rl_ h) (fun i6 s6=>[(6,.box (.pv ((al false) v16.1))),(8,.val (.own 336)),(23,.val (.pv (.sl false 2 (a1.Instances.map (aj false))))),(24,.val (.pv (I (a1.Instances.length:Int)))),(25,.val (.pv (I (i6:Int))))]) (fun i6 s6=>[(336,(5,s6.map (al true)))]) (Slm_ SC) (fun i6 s6 hi h=>?_) (fun s6 h=>?_)
  ·have w:=ws_ i6
   refine S ?_
   refine aE cs fun cs=>S ?_
   refine rb_ h fun v27 q h=>am (aj false) q (S ?_)
   refine rb_ h fun v32 q h=>am (al false) q (S ?_)
   refine rb_ h fun v35 q h=>ak [false,false,false] (iSF_1 q) (S ?_)
   refine ae (DHa_ [11] [560,561]) (S ?_)
   refine ag cs h (fun cs h=>S ?_) fun cs h=>S ?_
   ·refine rb_ h fun v43 q h=>aK (al true) (fun a=>Ft.psize _ a) q (S ?_)
    have h:=rs_ h
    refine aZ ⟨_,h,?_⟩
    refine Slr_ 688 336 ?_
    exact Slm_ SWx
   ·exact FHz_ h
  ·refine S ?_
   refine aF cs fun cs=>S ?_
   exact FHz_ h
 ·exact FHz_ h

theorem slP_11(n:Nat):(∀ (a0:Ft) (r:Bool),slP_2 n a0=some r→Sat ai 67 [((al false) a0)] (B r)):=by
 induction n with
 | zero=>exact fun _ _ h=>by simp[slP_2] at h
 | succ n ih=>
  refine fun a0 r h=>?_
  obtain⟨h,cs⟩:=Ro_ h
  rw[slP_2] at h
  refine Sg_ 26 [.tmp 2] Tryz.func67 (h:=S ?_)
  refine ag cs h (fun cs h=>S ?_) fun cs h=>S ?_
  ·exact FHz_ h
  ·refine ag cs h (fun cs h=>S ?_) fun cs h=>S ?_
   ·exact FHz_ h
   ·refine Mkv_ (b:=false) (sz:=5) (es:=a0.Parts.map (al false)) (x:=(.pv ((al false) a0))) 0 [3] SC fun hl0=>?_; rw[aw] at hl0
    refine aH (rl_ h) (fun i4 s4=>[(1,.box (.pv ((al false) a0))),(3,.val (.pv (I (i4:Int))))]) (fun i4 s4=>[]) (Slm_ SC) (fun i4 s4 hi h=>?_) (fun s4 h=>?_)
    ·have w:=ws_ i4
     refine S ?_
     refine aE cs fun cs=>S ?_
     refine rb_ h fun v22 q h=>am (al false) q (S ?_)
     refine rb_ h fun v24 q h=>ak [false] (ih _ _ q) (S ?_)
     refine ag cs h (fun cs h=>S ?_) fun cs h=>S ?_
     ·exact aI h
     ·exact FHz_ h
    ·refine S ?_
     refine aF cs fun cs=>S ?_
     exact FHz_ h
theorem slP_12{a0:Ft}{r:Bool}(h:slP_9 a0=some r):Sat ai 67 [((al false) a0)] (B r):=by
 obtain⟨n,hn⟩:=ls_ h
 exact(slP_11 n) _ _ hn

theorem slI_3{a0:List ByteArray}{a1:ByteArray}  {r:Bool}(h:slI_2 a0 a1=some r):Sat ai 76 [(.sl false 1 (a0.map Sx)),(Sx a1)] (B r):=by
 obtain⟨h,cs⟩:=Ro_ h
 unfold slI_2 at h
 refine Sg_ 18 [.tmp 4] Tryz.func76 (h:=S ?_)
 refine aV (b:=false) (sz:=1) (es:=a0.map Sx) 0 SC fun hl0=>?_; rw[aw] at hl0
 refine aH (rl_ h) (fun i2 s2=>[(0,.val (.pv (.sl false 1 (a0.map Sx)))),(1,.val (.pv (Sx a1))),(5,.val (.pv (I (i2:Int))))]) (fun i2 s2=>[]) (Slm_ SC) (fun i2 s2 hi h=>?_) (fun s2 h=>?_)
 ·have w:=ws_ i2
  refine S ?_
  refine aE cs fun cs=>S ?_
  refine rb_ h fun v14 q h=>am Sx q (S ?_)
  refine ag cs h (fun cs h=>S ?_) fun cs h=>S ?_
  ·exact FHz_ h
  ·exact aI h
 ·refine S ?_
  refine aF cs fun cs=>S ?_
  exact FHz_ h

theorem slO_8(n:Nat):(∀ (a0:Ft) (r:Bool),slO_ n a0=some r→Sat ai 68 [((al false) a0)] (B r)):=by
 induction n with
 | zero=>exact fun _ _ h=>by simp[slO_] at h
 | succ n ih=>
  refine fun a0 r h=>?_
  obtain⟨h,cs⟩:=Ro_ h
  rw[slO_] at h
  refine Sg_ 26 [.tmp 2] Tryz.func68 (h:=S ?_)
  refine ag cs h (fun cs h=>S ?_) fun cs h=>S ?_
  refine rb_ h fun v10 q h=>ak [false] (slV_3 q) (S ?_)
  refine rb_ h fun v11 q h=>ak [false,false] (slI_3 q) (S ?_)
  refine ag cs h (fun cs h=>S ?_) fun cs h=>S ?_
  ·exact FHz_ h
  all_goals
   refine Mkv_ (b:=false) (sz:=5) (es:=a0.Parts.map (al false)) (x:=(.pv ((al false) a0))) 0 [3] SC fun hl0=>?_; rw[aw] at hl0
   refine aH (rl_ h) (fun i4 s4=>[(1,.box (.pv ((al false) a0))),(3,.val (.pv (I (i4:Int))))]) (fun i4 s4=>[]) (Slm_ SC) (fun i4 s4 hi h=>?_) (fun s4 h=>?_)
   ·have w:=ws_ i4
    refine S ?_
    refine aE cs fun cs=>S ?_
    refine rb_ h fun v23 q h=>am (al false) q (S ?_)
    refine rb_ h fun v25 q h=>ak [false] (ih _ _ q) (S ?_)
    refine ag cs h (fun cs h=>S ?_) fun cs h=>S ?_
    ·exact FHz_ h
    ·exact aI h
   ·refine S ?_
    refine aF cs fun cs=>S ?_
    exact FHz_ h
theorem slO_9{a0:Ft}{r:Bool}(h:slO_6 a0=some r):Sat ai 68 [((al false) a0)] (B r):=by
 obtain⟨n,hn⟩:=ls_ h
 exact(slO_8 n) _ _ hn

theorem slT_9{a0:List Tt}  {r:Bool}(h:slT_4 a0=some r):Sat ai 128 [(.sl false 2 (a0.map (aj false)))] (B r):=by
 obtain⟨h,cs⟩:=Ro_ h
 unfold slT_4 at h
 refine Sg_ 31 [.tmp 2] Tryz.func128 (h:=S ?_)
 refine aV (b:=false) (sz:=2) (es:=a0.map (aj false)) 0 SC fun hl0=>?_; rw[aw] at hl0
 refine aH (rl_ h) (fun i2 s2=>[(0,.val (.pv (.sl false 2 (a0.map (aj false))))),(3,.val (.pv (I (i2:Int))))]) (fun i2 s2=>[]) (Slm_ SC) (fun i2 s2 hi h=>?_) (fun s2 h=>?_)
 ·have w:=ws_ i2
  refine S ?_
  refine aE cs fun cs=>S ?_
  refine ag cs h (fun cs h=>S ?_) fun cs h=>S ?_
  refine rb_ h fun v16 q h=>am (aj false) q (S ?_)
  refine rb_ h fun v18 q h=>ak [false] (slG_3 q) (S ?_)
  refine ag cs h (fun cs h=>S ?_) fun cs h=>S ?_
  refine rb_ h fun v23 q h=>am (aj false) q (S ?_)
  refine rb_ h fun v25 q h=>ak [false] (slG_6 q) (S ?_)
  refine ag cs h (fun cs h=>S ?_) fun cs h=>S ?_
  ·exact aI h
  all_goals
   exact FHz_ h
 ·refine S ?_
  refine aF cs fun cs=>S ?_
  exact FHz_ h

theorem slR_6{a0:List Tt}  {r:Bool}(h:slR_2 a0=some r):Sat ai 129 [(.sl false 2 (a0.map (aj false)))] (B r):=by
 obtain⟨h,cs⟩:=Ro_ h
 unfold slR_2 at h
 refine Sg_ 21 [.tmp 2] Tryz.func129 (h:=S ?_)
 refine aV (b:=false) (sz:=2) (es:=a0.map (aj false)) 0 SC fun hl0=>?_; rw[aw] at hl0
 replace h:=rl_ h
 refine MfA_ (N:=a0.length) (a:=1) h (fun i2 s2=>[(0,.val (.pv (.sl false 2 (a0.map (aj false))))),(3,.val (.pv (I (i2:Int))))]) (fun i2 s2=>[]) (Slm_ SC) (fun i2 s2 hi hj h=>?_) (fun j2 s2 hj h=>?_)
 ·have w:=ws_ i2
  refine S ?_
  refine aE cs fun cs=>S ?_
  refine rb_ h fun v13 q h=>am (aj false) q (S ?_)
  refine rb_ h fun v17 q h=>am (aj false) q (S ?_)
  refine rb_ h fun v19 q h=>ak [false,false] (slC_30 q) (S ?_)
  refine ae (DHa_ [] []) (S ?_)
  refine ag cs h (fun cs h=>S ?_) fun cs h=>S ?_
  ·exact FHz_ h
  ·exact aI h
 ·refine S ?_
  refine aF cs fun cs=>S ?_
  exact FHz_ h

theorem slG_7{a0:Dt}  {r:Bool}(h:slG_5 a0=some r):Sat ai 69 [((Dt.pv false) a0)] (B r):=by
 obtain⟨h,cs⟩:=Ro_ h
 unfold slG_5 at h
 refine Sg_ 69 [.tmp 2] Tryz.func69 (h:=S ?_)
 refine ag cs h (fun cs h=>S ?_) fun cs h=>S ?_
 rotate_left
 refine ag cs h (fun cs h=>S ?_) fun cs h=>S ?_
 rotate_left
 refine rb_ h fun v18 q h=>ak [false] (slT_9 q) (S ?_)
 refine ag cs h (fun cs h=>S ?_) fun cs h=>S ?_
 ·refine aV (b:=false) (sz:=2) (es:=a0.Patterns.map (aj false)) 6 SC fun hl6=>?_; rw[aw] at hl6
  refine aH (rl_ h) (fun i4 s4=>[(1,.box (.pv ((Dt.pv false) a0))),(3,.val (.pv (I (i4:Int))))]) (fun i4 s4=>[]) (Slm_ SC) (fun i4 s4 hi h=>?_) (fun s4 h=>?_)
  ·have w:=ws_ i4
   refine S ?_
   refine aE cs fun cs=>S ?_
   refine rb_ h fun v31 q h=>am (aj false) q (S ?_)
   refine rb_ h fun v33 q h=>ak [false] (slG_3 q) (S ?_)
   refine ag cs h (fun cs h=>S ?_) fun cs h=>S ?_
   refine rb_ h fun v38 q h=>am (aj false) q (S ?_)
   refine rb_ h fun v40 q h=>ak [false] (slV_3 q) (S ?_)
   refine ag cs h (fun cs h=>S ?_) fun cs h=>S ?_
   rotate_left
   refine ag cs h (fun cs h=>S ?_) fun cs h=>S ?_
   refine rb_ h fun v50 q h=>am Sx q (S ?_)
   refine ag cs h (fun cs h=>S ?_) fun cs h=>S ?_
   refine ag cs h (fun cs h=>S ?_) fun cs h=>S ?_
   rotate_left
   ·exact aI h
   rotate_left
   ·exact aI h
   all_goals
    exact FHz_ h
  ·refine S ?_
   refine aF cs fun cs=>S ?_
   refine rb_ h fun v63 q h=>ak [false] (slR_6 q) (S ?_)
   refine ag cs h (fun cs h=>S ?_) fun cs h=>S ?_
   ·refine rb_ h fun v67 q h=>ak [false] (slR_6 q) (S ?_)
    exact FHz_ h
   ·exact FHz_ h
 all_goals
  exact FHz_ h

theorem slO_11(n:Nat):(∀ (a0:Tt) (r:Tt),slO_4 n a0=some r→Sat ai 79 [((aj false) a0)] ((aj true) r)):=by
 induction n with
 | zero=>exact fun _ _ h=>by simp[slO_4] at h
 | succ n ih=>
  refine fun a0 r h=>?_
  obtain⟨h,cs⟩:=Ro_ h
  rw[slO_4] at h
  refine Sg_ 27 [.cell 2 26] Tryz.func79 (h:=S ?_)
  refine Mkv_ (b:=false) (sz:=2) (es:=a0.Args.map (aj false)) (x:=(.pv ((aj false) a0))) 0 [1] SC fun hl0=>?_; rw[aw] at hl0
  refine aH (rl_ h) (fun i3 s3=>[(1,.box (.pv ((aj false) a0))),(2,.box zab1),(3,.box (.node [(.pv (Sx a0.Name)),(.own 9309)])),(4,.val (.pv (I (i3:Int))))]) (fun i3 s3=>[(9309,(2,s3.map (aj true)))]) (bn (Sln_ (x:=(.node [(.pv (Sx a0.Name)),(.pv (.sl true 2 []))])) 3 [1] 9309 2 NM SC SC SC) (Slm_ SC)) (fun i3 s3 hi h=>?_) (fun s3 h=>?_)
  ·have w:=ws_ i3
   refine S ?_
   refine aE cs fun cs=>S ?_
   refine rb_ h fun v20 q h=>am (aj false) q (S ?_)
   refine rb_ h fun v22 q h=>ak [false] (ih _ _ q) (S ?_)
   refine rb_ h fun v24 q h=>aK (aj true) (fun a=>Tt.psize _ a) q (S ?_)
   refine ae (DHa_ [] [352,368,384]) (S ?_)
   have h:=rs_ h
   refine aZ ⟨_,h,?_⟩
   refine Slr_ 384 9309 ?_
   exact Slm_ SWx
  ·refine S ?_
   refine aF cs fun cs=>S ?_
   exact FHz_ h
theorem slO_5{a0:Tt}{r:Tt}(h:slO_7 a0=some r):Sat ai 79 [((aj false) a0)] ((aj true) r):=by
 obtain⟨n,hn⟩:=ls_ h
 exact(slO_11 n) _ _ hn

theorem slP_14{a0:Sb}{a1:ByteArray}{a2:Tt}  {r:Sb}(h:slP_7 a0 a1 a2=some r):Sat ai 74 [((Sb.pv false) a0),(Sx a1),((aj false) a2)] ((Sb.pv false) r):=by
 obtain⟨h,cs⟩:=Ro_ h
 unfold slP_7 at h
 refine Sg_ 51 [.cell 6 97] Tryz.func74 (h:=S ?_)
 refine ag cs h (fun cs h=>S ?_) fun cs h=>S ?_
 ·exact FHz_1 h
 ·refine Mkv_ (b:=false) (sz:=3) (es:=a0.Bindings.map (Bt.pv false)) (x:=(.pv ((Sb.pv false) a0))) 0 [0] SC fun hl0=>?_; rw[aw] at hl0
  refine aH (rl_ h) (fun i4 s4=>[(1,.val (.pv (Sx a1))),(3,.box (.pv ((Sb.pv false) a0))),(5,.box (.pv ((aj false) a2))),(6,.box (.node [(.pv (.sl true 3 []))])),(7,.val (.pv (I (i4:Int))))]) (fun i4 s4=>[]) (Slm_ SC) (fun i4 s4 hi h=>?_) (fun s4 h=>?_)
  ·have w:=ws_ i4
   refine S ?_
   refine aE cs fun cs=>S ?_
   refine rb_ h fun v23 q h=>am (Bt.pv false) q (S ?_)
   refine ag cs h (fun cs h=>S ?_) fun cs h=>S ?_
   ·exact aI h
   ·refine rb_ h fun v35 q h=>SlcH.mk (f:=(Bt.pv false)) q SC (S ?_)
    refine rb_ h fun v36 q h=>aK (Bt.pv false) (fun a=>Bt.psize _ a) q (S ?_)
    refine rb_ h fun v40 q h=>ak [false] (Sat.vwOf (res':=((aj false) v40)) (slO_5 q) (by simp only[vt_,vs_,va_,vl_,az,RB,RS])) (S ?_)
    refine rb_ h fun v43 q h=>aK (Bt.pv false) (fun a=>Bt.psize _ a) q (S ?_)
    refine rb_ h fun v48 q h=>SlcH.mk (f:=(Bt.pv false)) q SC (S ?_)
    refine rb_ h fun v49 q h=>aK (Bt.pv false) (fun a=>Bt.psize _ a) q (S ?_)
    exact FHz_1 h
  ·refine S ?_
   refine aF cs fun cs=>S ?_
   refine rb_ h fun v35 q h=>SlcH.mk (f:=(Bt.pv false)) q SC (S ?_)
   refine rb_ h fun v36 q h=>aK (Bt.pv false) (fun a=>Bt.psize _ a) q (S ?_)
   refine rb_ h fun v40 q h=>ak [false] (Sat.vwOf (res':=((aj false) v40)) (slO_5 q) (by simp only[vt_,vs_,va_,vl_,az,RB,RS])) (S ?_)
   refine rb_ h fun v43 q h=>aK (Bt.pv false) (fun a=>Bt.psize _ a) q (S ?_)
   refine rb_ h fun v48 q h=>SlcH.mk (f:=(Bt.pv false)) q SC (S ?_)
   refine rb_ h fun v49 q h=>aK (Bt.pv false) (fun a=>Bt.psize _ a) q (S ?_)
   exact FHz_1 h

theorem slF_11{a0:Sb}{a1:ByteArray}  {r:Int}(h:slF_4 a0 a1=some r):Sat ai 131 [((Sb.pv false) a0),(Sx a1)] (I r):=by
 obtain⟨h,cs⟩:=Ro_ h
 unfold slF_4 at h
 refine Sg_ 22 [.tmp 4] Tryz.func131 (h:=S ?_)
 refine Mkv_ (b:=false) (sz:=3) (es:=a0.Bindings.map (Bt.pv false)) (x:=(.pv ((Sb.pv false) a0))) 0 [0] SC fun hl0=>?_; rw[aw] at hl0
 refine aH (rl_ h) (fun i2 s2=>[(1,.val (.pv (Sx a1))),(2,.box (.pv ((Sb.pv false) a0))),(5,.val (.pv (I (i2:Int))))]) (fun i2 s2=>[]) (Slm_ SC) (fun i2 s2 hi h=>?_) (fun s2 h=>?_)
 ·have w:=ws_ i2
  refine S ?_
  refine aE cs fun cs=>S ?_
  refine rb_ h fun v16 q h=>am (Bt.pv false) q (S ?_)
  refine ag cs h (fun cs h=>S ?_) fun cs h=>S ?_
  ·exact FHz_ h
  ·exact aI h
 ·refine S ?_
  refine aF cs fun cs=>S ?_
  exact FHz_ h

theorem slA_4(n:Nat):(∀ (a0:Sb) (a1:Tt) (r:Tt),slA_ n a0 a1=some r→Sat ai 73 [((Sb.pv false) a0),((aj false) a1)] ((aj true) r)):=by
 induction n with
 | zero=>exact fun _ _ _ h=>by simp[slA_] at h
 | succ n ih=>
  refine fun a0 a1 r h=>?_
  obtain⟨h,cs⟩:=Ro_ h
  rw[slA_] at h
  refine Sg_ 50 [.cell 4 26] Tryz.func73 (h:=S ?_)
  refine rb_ h fun v10 q h=>ak [false] (slV_1 q) (S ?_)
  refine ag cs h (fun cs h=>S ?_) fun cs h=>S ?_
  ·refine rb_ h fun v14 q h=>ak [false,false] (slF_11 q) (S ?_)
   refine ag cs h (fun cs h=>S ?_) fun cs h=>S ?_
   ·refine rb_ h fun v20 q h=>am (Bt.pv false) q (S ?_)
    refine rb_ h fun v23 q h=>ak [false] (slO_5 q) (S ?_)
    exact FHz_ h
   ·exact FHz_ h
  ·refine Mkv_ (b:=false) (sz:=2) (es:=a1.Args.map (aj false)) (x:=(.pv ((aj false) a1))) 1 [1] SC fun hl1=>?_; rw[aw] at hl1
   refine aH (rl_ h) (fun i8 s8=>[(2,.box (.pv ((Sb.pv false) a0))),(3,.box (.pv ((aj false) a1))),(4,.box zab1),(6,.box (.node [(.pv (Sx a1.Name)),(.own 9324)])),(7,.val (.pv (I (i8:Int))))]) (fun i8 s8=>[(9324,(2,s8.map (aj true)))]) (bn (Sln_ (x:=(.node [(.pv (Sx a1.Name)),(.pv (.sl true 2 []))])) 6 [1] 9324 2 NM SC SC SC) (Slm_ SC)) (fun i8 s8 hi h=>?_) (fun s8 h=>?_)
   ·have w:=ws_ i8
    refine S ?_
    refine aE cs fun cs=>S ?_
    refine rb_ h fun v43 q h=>am (aj false) q (S ?_)
    refine rb_ h fun v45 q h=>ak [false,false] (ih _ _ _ q) (S ?_)
    refine rb_ h fun v47 q h=>aK (aj true) (fun a=>Tt.psize _ a) q (S ?_)
    refine ae (DHa_ [] [720,736,752]) (S ?_)
    have h:=rs_ h
    refine aZ ⟨_,h,?_⟩
    refine Slr_ 752 9324 ?_
    exact Slm_ SWx
   ·refine S ?_
    refine aF cs fun cs=>S ?_
    exact FHz_ h
theorem slA_5{a0:Sb}{a1:Tt}{r:Tt}(h:slA_2 a0 a1=some r):Sat ai 73 [((Sb.pv false) a0),((aj false) a1)] ((aj true) r):=by
 obtain⟨n,hn⟩:=ls_ h
 exact(slA_4 n) _ _ _ hn

theorem slI_8(n:Nat):(∀ (a0:List ByteArray) (a1:Ft) (a2:List ByteArray) (r:List ByteArray),slI_1 n a0 a1 a2=some r→Sat ai 133 [(.sl false 1 (a0.map Sx)),((al false) a1),(.sl false 1 (a2.map Sx))] (.sl false 1 (r.map Sx))):=by
 induction n with
 | zero=>exact fun _ _ _ _ h=>by simp[slI_1] at h
 | succ n ih=>
  refine fun a0 a1 a2 r h=>?_
  obtain⟨h,cs⟩:=Ro_ h
  rw[slI_1] at h
  refine Sg_ 66 [.tmp 6] Tryz.func133 (h:=S ?_)
  refine ag cs h (fun cs h=>S ?_) fun cs h=>S ?_
  ·refine rb_ h fun v15 q h=>ak [false] (slV_3 q) (S ?_)
   refine aV (b:=false) (sz:=1) (es:=v15.map Sx) 7 SC fun hl7=>?_; rw[aw] at hl7
   refine aH (rl_ h) (fun i4 s4=>[(0,.val (.pv (.sl false 1 (s4.map Sx)))),(2,.val (.pv (.sl false 1 (a2.map Sx)))),(4,.box (.pv ((al false) a1))),(7,.val (.pv (.sl false 1 (v15.map Sx)))),(8,.val (.pv (I (i4:Int))))]) (fun i4 s4=>[]) (Slm_ SC) (fun i4 s4 hi h=>?_) (fun s4 h=>?_)
   ·have w:=ws_ i4
    refine S ?_
    refine aE cs fun cs=>S ?_
    refine rb_ h fun v25 q h=>am Sx q (S ?_)
    refine rb_ h fun v27 q h=>ak [false,false] (slI_3 q) (S ?_)
    refine ag cs h (fun cs h=>S ?_) fun cs h=>S ?_
    ·exact aI h
    ·refine rb_ h fun v32 q h=>am Sx q (S ?_)
     refine rb_ h fun v34 q h=>ak [false,false] (slP_10 q) (S ?_)
     exact aI h
   ·refine S ?_
    refine aF cs fun cs=>S ?_
    refine ag cs h (fun cs h=>S ?_) fun cs h=>S ?_
    rotate_left
    refine ag cs h (fun cs h=>S ?_) fun cs h=>S ?_
    rotate_left
    ·refine Mkb_ (b:=false) (sz:=5) (es:=a1.Parts.map (al false)) (x:=(.pv ((al false) a1))) 4 [3] SC fun hl4=>?_; rw[aw] at hl4
     refine aH (rl_ h) (fun i11 s11=>[(0,.val (.pv (.sl false 1 (s11.map Sx)))),(2,.val (.pv (.sl false 1 (a2.map Sx)))),(4,.box (.pv ((al false) a1))),(9,.val (.pv (I (i11:Int))))]) (fun i11 s11=>[]) (Slm_ SC) (fun i11 s11 hi h=>?_) (fun s11 h=>?_)
     ·have w:=ws_ i11
      refine S ?_
      refine aE cs fun cs=>S ?_
      refine rb_ h fun v61 q h=>am (al false) q (S ?_)
      refine rb_ h fun v64 q h=>ak [false,false,false] (ih _ _ _ _ q) (S ?_)
      exact aI h
     ·refine S ?_
      refine aF cs fun cs=>S ?_
      exact FHz_1 h
    all_goals
     refine rb_ h fun v45 q h=>aK Sx (fun _=>rfl) q (S ?_)
     refine rb_ h fun v49 q h=>aK Sx (fun _=>rfl) q (S ?_)
     refine ae (DHa_ [] [688,720,768,784]) (S ?_)
     refine Mkb_ (b:=false) (sz:=5) (es:=a1.Parts.map (al false)) (x:=(.pv ((al false) a1))) 4 [3] SC fun hl4=>?_; rw[aw] at hl4
     refine aH (rl_ h) (fun i11 s11=>[(0,.val (.pv (.sl false 1 (s11.map Sx)))),(2,.val (.pv (.sl false 1 (v49.map Sx)))),(4,.box (.pv ((al false) a1))),(9,.val (.pv (I (i11:Int))))]) (fun i11 s11=>[]) (bn (Sld_1 (x:=(.own 784)) (sz:=(1)) (es:=v49.map Sx) 2 [] 784 SC) (Slm_ SC)) (fun i11 s11 hi h=>?_) (fun s11 h=>?_)
     ·have w:=ws_ i11
      refine S ?_
      refine aE cs fun cs=>S ?_
      refine rb_ h fun v61 q h=>am (al false) q (S ?_)
      refine rb_ h fun v64 q h=>ak [false,false,false] (ih _ _ _ _ q) (S ?_)
      exact aI h
     ·refine S ?_
      refine aF cs fun cs=>S ?_
      exact FHz_1 h
  ·refine ag cs h (fun cs h=>S ?_) fun cs h=>S ?_
   rotate_left
   refine ag cs h (fun cs h=>S ?_) fun cs h=>S ?_
   rotate_left
   ·refine Mkv_ (b:=false) (sz:=5) (es:=a1.Parts.map (al false)) (x:=(.pv ((al false) a1))) 1 [3] SC fun hl1=>?_; rw[aw] at hl1
    refine aH (rl_ h) (fun i11 s11=>[(0,.val (.pv (.sl false 1 (s11.map Sx)))),(2,.val (.pv (.sl false 1 (a2.map Sx)))),(4,.box (.pv ((al false) a1))),(9,.val (.pv (I (i11:Int))))]) (fun i11 s11=>[]) (Slm_ SC) (fun i11 s11 hi h=>?_) (fun s11 h=>?_)
    ·have w:=ws_ i11
     refine S ?_
     refine aE cs fun cs=>S ?_
     refine rb_ h fun v61 q h=>am (al false) q (S ?_)
     refine rb_ h fun v64 q h=>ak [false,false,false] (ih _ _ _ _ q) (S ?_)
     exact aI h
    ·refine S ?_
     refine aF cs fun cs=>S ?_
     exact FHz_1 h
   all_goals
    refine rb_ h fun v45 q h=>aK Sx (fun _=>rfl) q (S ?_)
    refine rb_ h fun v49 q h=>aK Sx (fun _=>rfl) q (S ?_)
    refine ae (DHa_ [] [688,720,768,784]) (S ?_)
    refine Mkv_ (b:=false) (sz:=5) (es:=a1.Parts.map (al false)) (x:=(.pv ((al false) a1))) 1 [3] SC fun hl1=>?_; rw[aw] at hl1
    refine aH (rl_ h) (fun i11 s11=>[(0,.val (.pv (.sl false 1 (s11.map Sx)))),(2,.val (.pv (.sl false 1 (v49.map Sx)))),(4,.box (.pv ((al false) a1))),(9,.val (.pv (I (i11:Int))))]) (fun i11 s11=>[]) (bn (Sld_1 (x:=(.own 784)) (sz:=(1)) (es:=v49.map Sx) 2 [] 784 SC) (Slm_ SC)) (fun i11 s11 hi h=>?_) (fun s11 h=>?_)
    ·have w:=ws_ i11
     refine S ?_
     refine aE cs fun cs=>S ?_
     refine rb_ h fun v61 q h=>am (al false) q (S ?_)
     refine rb_ h fun v64 q h=>ak [false,false,false] (ih _ _ _ _ q) (S ?_)
     exact aI h
    ·refine S ?_
     refine aF cs fun cs=>S ?_
     exact FHz_1 h
theorem slI_10{a0:List ByteArray}{a1:Ft}{a2:List ByteArray}{r:List ByteArray}(h:slI_6 a0 a1 a2=some r):Sat ai 133 [(.sl false 1 (a0.map Sx)),((al false) a1),(.sl false 1 (a2.map Sx))] (.sl false 1 (r.map Sx)):=by
 obtain⟨n,hn⟩:=ls_ h
 exact(slI_8 n) _ _ _ _ hn

theorem slF_6{a0:Ft}  {r:List ByteArray}(h:slF_1 a0=some r):Sat ai 77 [((al false) a0)] (.sl false 1 (r.map Sx)):=by
 obtain⟨h,cs⟩:=Ro_ h
 unfold slF_1 at h
 refine Sg_ 7 [.tmp 2] Tryz.func77 (h:=S ?_)
 refine rb_ h fun v6 q h=>ak [true,false,true] (Sat.give (args:=[(.sl true 1 (([]).map Sx)),((al false) a0),(.sl true 1 (([]).map Sx))]) [true,false,true] (by have gg:=slI_10 q; simp only[gv_t,gv_f,gv_n,vs_,va_,vl_,vrB_,vrI_,az,RB,RS] at gg ⊢; exact gg)) (S ?_)
 exact FHz_1 h

theorem slO_10(n:Nat):(∀ (a0:Ft) (r:Ft),slO_3 n a0=some r→Sat ai 30 [((al false) a0)] ((al true) r)):=by
 induction n with
 | zero=>exact fun _ _ h=>by simp[slO_3] at h
 | succ n ih=>
  refine fun a0 r h=>?_
  obtain⟨h,cs⟩:=Ro_ h
  rw[slO_3] at h
  refine Sg_ 32 [.cell 2 29] Tryz.func30 (h:=S ?_)
  refine rb_ h fun v9 q h=>ak [false] (slO_5 q) (S ?_)
  refine ae (DHa_ [3] [144]) (S ?_)
  refine Mkv_ (b:=false) (sz:=5) (es:=a0.Parts.map (al false)) (x:=(.pv ((al false) a0))) 0 [3] SC fun hl0=>?_; rw[aw] at hl0
  refine aH (rl_ h) (fun i3 s3=>[(1,.box (.pv ((al false) a0))),(2,.box zab0),(3,.box (.node [(.pv (I a0.Op)),(.node [(.pv (Sx v9.Name)),(.own 144)]),(.pv (Sx a0.Var)),(.own 9309)])),(4,.val (.pv (I (i3:Int))))]) (fun i3 s3=>[(144,(2,v9.Args.map (aj true))),(9309,(5,s3.map (al true)))]) (bn (Sln_ (x:=(.node [(.pv (I a0.Op)),(.node [(.pv (Sx v9.Name)),(.own 144)]),(.pv (Sx a0.Var)),(.pv (.sl true 5 []))])) 3 [3] 9309 5 NM SC SC SC) (Slm_ SC)) (fun i3 s3 hi h=>?_) (fun s3 h=>?_)
  ·have w:=ws_ i3
   refine S ?_
   refine aE cs fun cs=>S ?_
   refine rb_ h fun v25 q h=>am (al false) q (S ?_)
   refine rb_ h fun v27 q h=>ak [false] (ih _ _ q) (S ?_)
   refine rb_ h fun v29 q h=>aK (al true) (fun a=>Ft.psize _ a) q (S ?_)
   refine ae (DHa_ [] [432,433,448,464]) (S ?_)
   have h:=rs_ h
   refine aZ ⟨_,h,?_⟩
   refine Slr_ 464 9309 ?_
   exact Slm_ SWx
  ·refine S ?_
   refine aF cs fun cs=>S ?_
   exact FHz_ h
theorem slO_2{a0:Ft}{r:Ft}(h:slO_1 a0=some r):Sat ai 30 [((al false) a0)] ((al true) r):=by
 obtain⟨n,hn⟩:=ls_ h
 exact(slO_10 n) _ _ hn

theorem slP_13(n:Nat):(∀ (a0:Ft) (a1:ByteArray) (a2:Tt) (r:Ft×Bool),slP_ n a0 a1 a2=some r→Sat ai 29 [((al false) a0),(Sx a1),((aj false) a2)] (.tup [((al true) r.1),(B r.2)])):=by
 induction n with
 | zero=>exact fun _ _ _ _ h=>by simp[slP_] at h
 | succ n ih=>
  refine fun a0 a1 a2 r h=>?_
  obtain⟨h,cs⟩:=Ro_ h
  rw[slP_] at h
  refine Sg_ 90 [.cell 6 29,.tmp 7] Tryz.func29 (h:=S ?_)
  refine ag cs h (fun cs h=>S ?_) fun cs h=>S ?_
  rotate_left
  refine ag cs h (fun cs h=>S ?_) fun cs h=>S ?_
  refine ag cs h (fun cs h=>S ?_) fun cs h=>S ?_
  rotate_left
  refine rb_ h fun v47 q h=>am (al false) q (S ?_)
  refine rb_ h fun v49 q h=>ak [false] (slF_6 q) (S ?_)
  refine rb_ h fun v51 q h=>ak [false,false] (slI_3 q) (S ?_)
  refine ag cs h (fun cs h=>S ?_) fun cs h=>S ?_
  refine rb_ h fun v57 q h=>ak [false] (slV_3 q) (S ?_)
  refine rb_ h fun v60 q h=>ak [false,false] (slI_3 q) (S ?_)
  refine ae (DHa_ [] []) (S ?_)
  refine ag cs h (fun cs h=>S ?_) fun cs h=>S ?_
  rotate_left 3
  refine ag cs h (fun cs h=>S ?_) fun cs h=>S ?_
  refine ag cs h (fun cs h=>S ?_) fun cs h=>S ?_
  rotate_left
  refine rb_ h fun v47 q h=>am (al false) q (S ?_)
  refine rb_ h fun v49 q h=>ak [false] (slF_6 q) (S ?_)
  refine rb_ h fun v51 q h=>ak [false,false] (slI_3 q) (S ?_)
  refine ag cs h (fun cs h=>S ?_) fun cs h=>S ?_
  refine rb_ h fun v57 q h=>ak [false] (slV_3 q) (S ?_)
  refine rb_ h fun v60 q h=>ak [false,false] (slI_3 q) (S ?_)
  refine ae (DHa_ [] []) (S ?_)
  refine ag cs h (fun cs h=>S ?_) fun cs h=>S ?_
  ·exact FHz_ h
  rotate_left
  ·refine rb_ h fun v55 q h=>ak [false] (slO_2 q) (S ?_)
   exact FHz_ h
  ·refine Mkv_ (b:=false) (sz:=5) (es:=a0.Parts.map (al false)) (x:=(.pv ((al false) a0))) 0 [3] SC fun hl0=>?_; rw[aw] at hl0
   refine aH (rl_ h) (fun i11 s11=>[(1,.val (.pv (Sx a1))),(3,.box (.pv ((al false) a0))),(5,.box (.pv ((aj false) a2))),(6,.box zab0),(8,.box (.node [(.pv (I a0.Op)),zab1,(.pv (Sx a0.Var)),(.own 9333)])),(9,.val (.pv (I (i11:Int))))]) (fun i11 s11=>[(9333,(5,s11.map (al true)))]) (bn (Sln_ (x:=(.node [(.pv (I a0.Op)),zab1,(.pv (Sx a0.Var)),(.pv (.sl true 5 []))])) 8 [3] 9333 5 NM SC SC SC) (Slm_ SC)) (fun i11 s11 hi h=>?_) (fun s11 h=>?_)
   ·have w:=ws_ i11
    refine S ?_
    refine aE cs fun cs=>S ?_
    refine rb_ h fun v73 q h=>am (al false) q (S ?_)
    refine rb_ h fun v77 q h=>ak [false,false,false] (ih _ _ _ _ q) (S ?_)
    refine ae (DHa_ [10] [1232,1233]) (S ?_)
    refine ag cs h (fun cs h=>S ?_) fun cs h=>S ?_
    ·refine rb_ h fun v87 q h=>aK (al true) (fun a=>Ft.psize _ a) q (S ?_)
     have h:=rs_ h
     refine aZ ⟨_,h,?_⟩
     refine Slr_ 1392 9333 ?_
     exact Slm_ SWx
    ·exact FHz_ h
   ·refine S ?_
    refine aF cs fun cs=>S ?_
    exact FHz_ h
  ·refine rb_ h fun v23 q h=>ak [false,false,false] (slP_14 q) (S ?_)
   refine rb_ h fun v26 q h=>ak [false,false] (slA_5 q) (S ?_)
   refine ae (DHa_ [] [416]) (S ?_)
   refine rb_ h fun v31 q h=>ak [false] (slA_3 q) (S ?_)
   refine ae (DHa_ [] []) (S ?_)
   exact FHz_ h
  ·refine rb_ h fun v55 q h=>ak [false] (slO_2 q) (S ?_)
   exact FHz_ h
  ·exact FHz_ h
  rotate_left
  ·refine rb_ h fun v55 q h=>ak [false] (slO_2 q) (S ?_)
   exact FHz_ h
  ·refine rb_ h fun v55 q h=>ak [false] (slO_2 q) (S ?_)
   exact FHz_ h
  all_goals
   refine aV (b:=false) (sz:=5) (es:=a0.Parts.map (al false)) 46 SC fun hl46=>?_; rw[aw] at hl46
   refine aH (rl_ h) (fun i11 s11=>[(1,.val (.pv (Sx a1))),(3,.box (.pv ((al false) a0))),(5,.box (.pv ((aj false) a2))),(6,.box zab0),(8,.box (.node [(.pv (I a0.Op)),zab1,(.pv (Sx a0.Var)),(.own 9333)])),(9,.val (.pv (I (i11:Int))))]) (fun i11 s11=>[(9333,(5,s11.map (al true)))]) (bn (Sln_ (x:=(.node [(.pv (I a0.Op)),zab1,(.pv (Sx a0.Var)),(.pv (.sl true 5 []))])) 8 [3] 9333 5 NM SC SC SC) (Slm_ SC)) (fun i11 s11 hi h=>?_) (fun s11 h=>?_)
   ·have w:=ws_ i11
    refine S ?_
    refine aE cs fun cs=>S ?_
    refine rb_ h fun v73 q h=>am (al false) q (S ?_)
    refine rb_ h fun v77 q h=>ak [false,false,false] (ih _ _ _ _ q) (S ?_)
    refine ae (DHa_ [10] [1232,1233]) (S ?_)
    refine ag cs h (fun cs h=>S ?_) fun cs h=>S ?_
    ·refine rb_ h fun v87 q h=>aK (al true) (fun a=>Ft.psize _ a) q (S ?_)
     have h:=rs_ h
     refine aZ ⟨_,h,?_⟩
     refine Slr_ 1392 9333 ?_
     exact Slm_ SWx
    ·exact FHz_ h
   ·refine S ?_
    refine aF cs fun cs=>S ?_
    exact FHz_ h
theorem slP_8{a0:Ft}{a1:ByteArray}{a2:Tt}{r:Ft×Bool}(h:slP_4 a0 a1 a2=some r):Sat ai 29 [((al false) a0),(Sx a1),((aj false) a2)] (.tup [((al true) r.1),(B r.2)]):=by
 obtain⟨n,hn⟩:=ls_ h
 exact(slP_13 n) _ _ _ _ hn

theorem slJ_1{a0:List Ft}{a1:Int}{a2:Int}  {r:Ft}(h:slJ_ a0 a1 a2=some r):Sat ai 70 [(.sl false 5 (a0.map (al false))),(I a1),(I a2)] ((al true) r):=by
 obtain⟨h,cs⟩:=Ro_ h
 unfold slJ_ at h
 refine Sg_ 38 [.cell 6 29] Tryz.func70 (h:=S ?_)
 refine ag cs h (fun cs h=>S ?_) fun cs h=>S ?_
 ·exact FHz_ h
 ·refine rb_ h fun v18 q h=>am (al false) q (S ?_)
  refine rb_ h fun v20 q h=>ak [false] (slO_2 q) (S ?_)
  replace h:=rl_ h
  refine Mg.whileN h (fun s5=>[(0,.val (.pv (.sl false 5 (a0.map (al false))))),(1,.val (.pv (I a1))),(6,.box zab0),(7,.box (.node [(.pv (I s5.1)),(.node [(.pv (Sx s5.2.1)),(.own 320)]),(.pv (Sx s5.2.2.2.1)),(.own 321)])),(8,.val (.pv (I s5.2.2.2.2.2)))]) (fun s5=>[(320,(2,s5.2.2.1.map (aj true))),(321,(5,s5.2.2.2.2.1.map (al true)))]) (Slm_ SC) (fun n5 s5 h=>?_)
  refine S ?_
  refine ag cs h (fun cs h=>S ?_) fun cs h=>S ?_
  ·refine rb_ h fun v31 q h=>am (al false) q (S ?_)
   refine rb_ h fun v33 q h=>ak [false] (slO_2 q) (S ?_)
   refine ae (DHa_ [] [528,529,560]) (S ?_)
   have h:=rs_ h
   refine aZ ⟨_,h,?_⟩
   refine bn (Slm_1 (S:=[(0,.val (.pv (.sl false 5 (a0.map (al false))))),(1,.val (.pv (I a1))),(6,.box zab0),(7,.box (.node [(.pv (I a1)),zab1,(.pv (Sx ⟨#[]⟩)),(.own 560)])),(8,.val (.pv (I (IntKind.i64.wrap (s5.2.2.2.2.2-1)))))]) (O:=[(560,(5,([v33,(Ft.mk s5.1 (Tt.mk s5.2.1 s5.2.2.1) s5.2.2.2.1 s5.2.2.2.2.1)]).map (al true)))]) SC SC) ?_
   refine bn (Sln_ (x:=(.node [(.pv (I a1)),zab1,(.pv (Sx ⟨#[]⟩)),(.own 560)])) 7 [1,1] 9726 2 NM SC SC SC) (S ?_)
   refine Slr_ 560 321 ?_
   refine Slr_ 9726 320 ?_
   exact Slm_ SC
  ·have h:=rs_ h
   exact FHz_ h

theorem slB_1{a0:Ft}{a1:Dt}  {r:Ft×Bool}(h:slB_ a0 a1=some r):Sat ai 27 [((al false) a0),((Dt.pv false) a1)] (.tup [((al true) r.1),(B r.2)]):=by
 obtain⟨h,cs⟩:=Ro_ h
 unfold slB_ at h
 refine Sg_ 73 [.cell 4 29,.tmp 5] Tryz.func27 (h:=S ?_)
 refine rb_ h fun v11 q h=>ak [false] (slG_4 q) (S ?_)
 refine ag cs h (fun cs h=>S ?_) fun cs h=>S ?_
 refine ag cs h (fun cs h=>S ?_) fun cs h=>S ?_
 refine rb_ h fun v21 q h=>am (al false) q (S ?_)
 refine rb_ h fun v23 q h=>ak [false] (slP_12 q) (S ?_)
 refine ag cs h (fun cs h=>S ?_) fun cs h=>S ?_
 refine ag cs h (fun cs h=>S ?_) fun cs h=>S ?_
 rotate_left
 refine rb_ h fun v33 q h=>ak [false] (slO_9 q) (S ?_)
 refine ag cs h (fun cs h=>S ?_) fun cs h=>S ?_
 rotate_left
 refine rb_ h fun v37 q h=>ak [false] (slG_7 q) (S ?_)
 refine ag cs h (fun cs h=>S ?_) fun cs h=>S ?_
 ·refine Mkv_ (b:=false) (sz:=2) (es:=a1.Patterns.map (aj false)) (x:=(.pv ((Dt.pv false) a1))) 1 [0] SC fun hl1=>?_; rw[aw] at hl1
  refine aH (rl_ h) (fun i5 s5=>[(2,.box (.pv ((al false) a0))),(3,.box (.pv ((Dt.pv false) a1))),(4,.box zab0),(6,.val (.own 656)),(7,.val (.pv (I (i5:Int))))]) (fun i5 s5=>[(656,(5,s5.map (al true)))]) (Slm_ SC) (fun i5 s5 hi h=>?_) (fun s5 h=>?_)
  ·have w:=ws_ i5
   refine S ?_
   refine aE cs fun cs=>S ?_
   refine rb_ h fun v52 q h=>am (al false) q (S ?_)
   refine rb_ h fun v59 q h=>am (aj false) q (S ?_)
   refine rb_ h fun v61 q h=>ak [false,false,false] (slP_8 q) (S ?_)
   refine ae (DHa_ [8] [976,977]) (S ?_)
   refine ag cs h (fun cs h=>S ?_) fun cs h=>S ?_
   ·refine rb_ h fun v70 q h=>aK (al true) (fun a=>Ft.psize _ a) q (S ?_)
    have h:=rs_ h
    refine aZ ⟨_,h,?_⟩
    refine Slr_ 1120 656 ?_
    exact Slm_ SWx
   ·exact FHz_ h
  ·refine S ?_
   refine aF cs fun cs=>S ?_
   refine rb_ h fun v72 q h=>ak [false,false,false] (slJ_1 q) (S ?_)
   exact FHz_ h
 all_goals
  exact FHz_ h

theorem sLO_1{a0:Ft}{a1:Dt}  {r:Ft×Bool}(h:sLO_ a0 a1=some r):Sat ai 8 [((al false) a0),((Dt.pv false) a1)] (.tup [((al true) r.1),(B r.2)]):=by
 obtain⟨h,cs⟩:=Ro_ h
 unfold sLO_ at h
 refine Sg_ 27 [.cell 4 29,.tmp 5] Tryz.func8 (h:=S ?_)
 refine rb_ h fun v12 q h=>ak [false,false] (slB_1 q) (S ?_)
 refine ag cs h (fun cs h=>S ?_) fun cs h=>S ?_
 refine rb_ h fun v22 q h=>ak [false] (slG_4 q) (S ?_)
 refine ag cs h (fun cs h=>S ?_) fun cs h=>S ?_
 all_goals
  exact FHz_ h

theorem sLI_1{a0:Ft}{a1:Dt}  {r:(List Ft)×Bool}(h:sLI_ a0 a1=some r):Sat ai 9 [((al false) a0),((Dt.pv false) a1)] (.tup [(.sl true 5 (r.1.map (al true))),(B r.2)]):=by
 obtain⟨h,cs⟩:=Ro_ h
 unfold sLI_ at h
 refine Sg_ 56 [.tmp 4,.tmp 5] Tryz.func9 (h:=S ?_)
 refine rb_ h fun v15 q h=>ak [false,false] (Sat.vwOf (res':=(.tup [((al false) v15.1),(B v15.2)])) (sLO_1 q) (by simp only[vt_,vs_,va_,vl_,az,RB,RS])) (S ?_)
 refine ag cs h (fun cs h=>S ?_) fun cs h=>S ?_
 ·refine Mkv_ (b:=false) (sz:=2) (es:=a1.Instances.map (aj false)) (x:=(.pv ((Dt.pv false) a1))) 1 [1] SC fun hl1=>?_; rw[aw] at hl1
  refine aH (rl_ h) (fun i6 s6=>[(3,.box (.pv ((Dt.pv false) a1))),(6,.box (.pv ((al false) v15.1))),(8,.val (.own 288)),(9,.val (.pv (I (i6:Int))))]) (fun i6 s6=>[(288,(5,s6.map (al true)))]) (Slm_ SC) (fun i6 s6 hi h=>?_) (fun s6 h=>?_)
  ·have w:=ws_ i6
   refine S ?_
   refine aE cs fun cs=>S ?_
   refine rb_ h fun v32 q h=>am (al false) q (S ?_)
   refine rb_ h fun v37 q h=>am (aj false) q (S ?_)
   refine rb_ h fun v39 q h=>ak [false,false,false] (slP_8 q) (S ?_)
   refine ae (DHa_ [10] [624,625]) (S ?_)
   refine ag cs h (fun cs h=>S ?_) fun cs h=>S ?_
   ·refine rb_ h fun v46 q h=>ak [false] (slG_4 q) (S ?_)
    refine ag cs h (fun cs h=>S ?_) fun cs h=>S ?_
    ·refine rb_ h fun v52 q h=>ak [false] (slO_2 q) (S ?_)
     refine rb_ h fun v54 q h=>aK (al true) (fun a=>Ft.psize _ a) q (S ?_)
     have h:=rs_ h
     refine aZ ⟨_,h,?_⟩
     refine Slr_ 864 288 ?_
     exact Slm_ SWx
    ·exact FHz_ h
   ·exact FHz_ h
  ·refine S ?_
   refine aF cs fun cs=>S ?_
   exact FHz_ h
 ·exact FHz_ h

theorem vAs_{a0:List Int}{a1:Int}  {r:Int}(h:vAt a0 a1=some r):Sat ai 31 [(.sl false 1 (a0.map (Ik .u8))),(I a1)] (I r):=by
 obtain⟨h,cs⟩:=Ro_ h
 unfold vAt at h
 refine Sg_ 20 [.tmp 4] Tryz.func31 (h:=S ?_)
 refine ag cs h (fun cs h=>S ?_) fun cs h=>S ?_
 ·refine rb_ h fun v11 q h=>am (Ik .u8) q (S ?_)
  exact FHz_ h
 ·refine rb_ h fun v19 q h=>remH.mk q (S ?_)
  exact FHz_ h

theorem vEg_1{a0:vt}{a1:ByteArray}  {r:Int}(h:vEg_ a0 a1=some r):Sat ai 176 [((vt.pv false) a0),(Sx a1)] (I r):=by
 obtain⟨h,cs⟩:=Ro_ h
 unfold vEg_ at h
 refine Sg_ 26 [.tmp 4] Tryz.func176 (h:=S ?_)
 replace h:=rl_ h
 refine Mg.whileN h (fun s2=>[(1,.val (.pv (Sx a1))),(2,.box (.pv ((vt.pv false) a0))),(5,.val (.pv (I s2)))]) (fun s2=>[]) (Slm_ SC) (fun n2 s2 h=>?_)
 refine S ?_
 refine ag cs h (fun cs h=>S ?_) fun cs h=>S ?_
 ·refine rb_ h fun v17 q h=>am Sx q (S ?_)
  refine ag cs h (fun cs h=>S ?_) fun cs h=>S ?_
  ·refine rb_ h fun v24 q h=>am I q (S ?_)
   exact FHz_ h
  ·have h:=rs_ h
   refine aZ ⟨_,h,?_⟩
   exact Slm_ SC
 ·have h:=rs_ h
  exact FHz_ h

theorem vMs_{a0:List Int}{a1:ByteArray}{a2:List Int}  {r:Int}(h:vMix a0 a1 a2=some r):Sat ai 136 [(.sl false 1 (a0.map (Ik .u8))),(Sx a1),(.sl false 1 (a2.map I))] (I r):=by
 obtain⟨h,cs⟩:=Ro_ h
 unfold vMix at h
 refine Sg_ 52 [.tmp 6] Tryz.func136 (h:=S ?_)
 obtain⟨N3,hN3,h⟩:=rb_1 h
 obtain⟨hN3a,hN3b⟩:=bs_ hN3
 refine aH (rl_ h) (fun i3 s3=>[(0,.val (.pv (.sl false 1 (a0.map (Ik .u8))))),(1,.val (.pv (Sx a1))),(2,.val (.pv (.sl false 1 (a2.map I)))),(7,.val (.pv (I s3))),(8,.val (.pv (I (i3:Int))))]) (fun i3 s3=>[]) (Slm_ SC) (fun i3 s3 hi h=>?_) (fun s3 h=>?_)
 ·have w:=ws_ i3
  refine S ?_
  refine aE cs fun cs=>S ?_
  refine rb_ h fun v20 q h=>SidxH.mk q (S ?_)
  refine rb_ h fun v23 q h=>remH.mk q (S ?_)
  exact aI h
 ·refine S ?_
  refine aF cs fun cs=>S ?_
  refine aV (b:=false) (sz:=1) (es:=a2.map I) 2 SC fun hl2=>?_; rw[aw] at hl2
  refine aH (rl_ h) (fun i7 s7=>[(0,.val (.pv (.sl false 1 (a0.map (Ik .u8))))),(2,.val (.pv (.sl false 1 (a2.map I)))),(7,.val (.pv (I s7))),(9,.val (.pv (I (i7:Int))))]) (fun i7 s7=>[]) (Slm_ SC) (fun i7 s7 hi h=>?_) (fun s7 h=>?_)
  ·have w:=ws_ i7
   refine S ?_
   refine aE cs fun cs=>S ?_
   refine rb_ h fun v34 q h=>am I q (S ?_)
   refine rb_ h fun v38 q h=>remH.mk q (S ?_)
   exact aI h
  ·refine S ?_
   refine aF cs fun cs=>S ?_
   refine rb_ h fun v42 q h=>remH.mk q (S ?_)
   refine rb_ h fun v43 q h=>ak [false,false] (vAs_ q) (S ?_)
   refine rb_ h fun v48 q h=>remH.mk q (S ?_)
   refine rb_ h fun v49 q h=>ak [false,false] (vAs_ q) (S ?_)
   refine rb_ h fun v51 q h=>quoH.mk q (S ?_)
   exact FHz_ h

theorem vVN_1(n:Nat):(∀ (a0:List Int) (a1:Int) (a2:vt) (a3:Tt) (r:Int),vVN_ n a0 a1 a2 a3=some r→Sat ai 135 [(.sl false 1 (a0.map (Ik .u8))),(I a1),((vt.pv false) a2),((aj false) a3)] (I r)):=by
 induction n with
 | zero=>exact fun _ _ _ _ _ h=>by simp[vVN_] at h
 | succ n ih=>
  refine fun a0 a1 a2 a3 r h=>?_
  obtain⟨h,cs⟩:=Ro_ h
  rw[vVN_] at h
  refine Sg_ 64 [.tmp 8] Tryz.func135 (h:=S ?_)
  refine ag cs h (fun cs h=>S ?_) fun cs h=>S ?_
  refine ag cs h (fun cs h=>S ?_) fun cs h=>S ?_
  refine rb_ h fun v24 q h=>SidxH.mk q (S ?_)
  refine ag cs h (fun cs h=>S ?_) fun cs h=>S ?_
  refine rb_ h fun v30 q h=>SidxH.mk q (S ?_)
  refine ag cs h (fun cs h=>S ?_) fun cs h=>S ?_
  ·refine rb_ h fun v36 q h=>ak [false,false] (vEg_1 q) (S ?_)
   exact FHz_ h
  all_goals
   refine aV (b:=false) (sz:=2) (es:=a3.Args.map (aj false)) 12 SC fun hl12=>?_; rw[aw] at hl12
   refine aH (rl_ h) (fun i5 s5=>[(0,.val (.pv (.sl false 1 (a0.map (Ik .u8))))),(1,.val (.pv (I a1))),(6,.box (.pv ((vt.pv false) a2))),(7,.box (.pv ((aj false) a3))),(9,.val (.own 592)),(10,.val (.pv (I (i5:Int))))]) (fun i5 s5=>[(592,(1,s5.map I))]) (Slm_ SC) (fun i5 s5 hi h=>?_) (fun s5 h=>?_)
   ·have w:=ws_ i5
    refine S ?_
    refine aE cs fun cs=>S ?_
    refine rb_ h fun v52 q h=>am (aj false) q (S ?_)
    refine rb_ h fun v54 q h=>ak [false,false,false,false] (ih _ _ _ _ _ q) (S ?_)
    refine rb_ h fun v56 q h=>aK I (fun _=>rfl) q (S ?_)
    refine ae (DHa_ [] [880,896]) (S ?_)
    have h:=rs_ h
    refine aZ ⟨_,h,?_⟩
    refine Slr_ 896 592 ?_
    exact Slm_ SWx
   ·refine S ?_
    refine aF cs fun cs=>S ?_
    refine rb_ h fun v61 q h=>ak [false,false,false] (vMs_ q) (S ?_)
    refine rb_ h fun v63 q h=>remH.mk q (S ?_)
    exact FHz_ h
theorem vVs_{a0:List Int}{a1:Int}{a2:vt}{a3:Tt}{r:Int}(h:vV_ a0 a1 a2 a3=some r):Sat ai 135 [(.sl false 1 (a0.map (Ik .u8))),(I a1),((vt.pv false) a2),((aj false) a3)] (I r):=by
 obtain⟨n,hn⟩:=ls_ h
 exact(vVN_1 n) _ _ _ _ _ hn

theorem vHs_{a0:List Int}{a1:Int}{a2:vt}{a3:Tt}  {r:Bool}(h:vH_ a0 a1 a2 a3=some r):Sat ai 80 [(.sl false 1 (a0.map (Ik .u8))),(I a1),((vt.pv false) a2),((aj false) a3)] (B r):=by
 obtain⟨h,cs⟩:=Ro_ h
 unfold vH_ at h
 refine Sg_ 54 [.tmp 8] Tryz.func80 (h:=S ?_)
 refine Mkv_ (b:=false) (sz:=2) (es:=a3.Args.map (aj false)) (x:=(.pv ((aj false) a3))) 3 [1] SC fun hl3=>?_; rw[aw] at hl3
 refine aH (rl_ h) (fun i3 s3=>[(0,.val (.pv (.sl false 1 (a0.map (Ik .u8))))),(1,.val (.pv (I a1))),(6,.box (.pv ((vt.pv false) a2))),(7,.box (.pv ((aj false) a3))),(9,.val (.own 176)),(10,.val (.pv (I (i3:Int))))]) (fun i3 s3=>[(176,(1,s3.map I))]) (Slm_ SC) (fun i3 s3 hi h=>?_) (fun s3 h=>?_)
 ·have w:=ws_ i3
  refine S ?_
  refine aE cs fun cs=>S ?_
  refine rb_ h fun v26 q h=>am (aj false) q (S ?_)
  refine rb_ h fun v28 q h=>ak [false,false,false,false] (vVs_ q) (S ?_)
  refine rb_ h fun v30 q h=>aK I (fun _=>rfl) q (S ?_)
  refine ae (DHa_ [] [464,480]) (S ?_)
  have h:=rs_ h
  refine aZ ⟨_,h,?_⟩
  refine Slr_ 480 176 ?_
  exact Slm_ SWx
 ·refine S ?_
  refine aF cs fun cs=>S ?_
  refine ag cs h (fun cs h=>S ?_) fun cs h=>S ?_
  refine ag cs h (fun cs h=>S ?_) fun cs h=>S ?_
  ·refine rb_ h fun v40 q h=>am I q (S ?_)
   refine rb_ h fun v41 q h=>EldH.c I q (S ?_)
   refine rb_ h fun v43 q h=>am I q (S ?_)
   refine rb_ h fun v44 q h=>EldH.c I q (S ?_)
   refine ae (DHa_ [] []) (S ?_)
   exact FHz_ h
  all_goals
   refine rb_ h fun v49 q h=>SappH.mk q (S ?_)
   refine rb_ h fun v51 q h=>ak [false,false,false] (vMs_ q) (S ?_)
   refine rb_ h fun v52 q h=>remH.mk q (S ?_)
   exact FHz_ h

theorem vEw_1{a0:vt}{a1:ByteArray}{a2:Int}  {r:vt}(h:vEw_ a0 a1 a2=some r):Sat ai 81 [((vt.pv false) a0),(Sx a1),(I a2)] ((vt.pv true) r):=by
 obtain⟨h,cs⟩:=Ro_ h
 unfold vEw_ at h
 refine Sg_ 22 [.cell 6 66] Tryz.func81 (h:=S ?_)
 refine rb_ h fun v10 q h=>aK Sx (fun _=>rfl) q (S ?_)
 refine rb_ h fun v13 q h=>aK Sx (fun _=>rfl) q (S ?_)
 refine rb_ h fun v17 q h=>aK I (fun _=>rfl) q (S ?_)
 refine rb_ h fun v20 q h=>aK I (fun _=>rfl) q (S ?_)
 refine ae (DHa_ [] [112,160,192,208,224,272,304,320]) (S ?_)
 exact FHz_ h

theorem vTN_1(n:Nat):(∀ (a0:List Int) (a1:Int) (a2:vt) (a3:Ft) (r:Bool),vTN_ n a0 a1 a2 a3=some r→Sat ai 32 [(.sl false 1 (a0.map (Ik .u8))),(I a1),((vt.pv false) a2),((al false) a3)] (B r)):=by
 induction n with
 | zero=>exact fun _ _ _ _ _ h=>by simp[vTN_] at h
 | succ n ih=>
  refine fun a0 a1 a2 a3 r h=>?_
  obtain⟨h,cs⟩:=Ro_ h
  rw[vTN_] at h
  refine Sg_ 123 [.tmp 8] Tryz.func32 (h:=S ?_)
  refine ag cs h (fun cs h=>S ?_) fun cs h=>S ?_
  rotate_left
  refine ag cs h (fun cs h=>S ?_) fun cs h=>S ?_
  rotate_left
  refine ag cs h (fun cs h=>S ?_) fun cs h=>S ?_
  rotate_left
  refine ag cs h (fun cs h=>S ?_) fun cs h=>S ?_
  rotate_left
  refine ag cs h (fun cs h=>S ?_) fun cs h=>S ?_
  refine rb_ h fun v42 q h=>am (al false) q (S ?_)
  refine rb_ h fun v44 q h=>ak [false,false,false,false] (ih _ _ _ _ _ q) (S ?_)
  refine ag cs h (fun cs h=>S ?_) fun cs h=>S ?_
  rotate_left 2
  refine ag cs h (fun cs h=>S ?_) fun cs h=>S ?_
  refine rb_ h fun v62 q h=>am (al false) q (S ?_)
  refine rb_ h fun v64 q h=>ak [false,false,false,false] (ih _ _ _ _ _ q) (S ?_)
  refine ag cs h (fun cs h=>S ?_) fun cs h=>S ?_
  rotate_left 2
  refine ag cs h (fun cs h=>S ?_) fun cs h=>S ?_
  refine rb_ h fun v82 q h=>am (al false) q (S ?_)
  refine rb_ h fun v84 q h=>ak [false,false,false,false] (ih _ _ _ _ _ q) (S ?_)
  refine ag cs h (fun cs h=>S ?_) fun cs h=>S ?_
  ·refine rb_ h fun v92 q h=>am (al false) q (S ?_)
   refine rb_ h fun v94 q h=>ak [false,false,false,false] (ih _ _ _ _ _ q) (S ?_)
   refine ae (DHa_ [] []) (S ?_)
   exact FHz_ h
  rotate_left
  ·obtain⟨N17,hN17,h⟩:=rb_1 h
   obtain⟨hN17a,hN17b⟩:=bs_ hN17
   refine aH (rl_ h) (fun i17 s17=>[(0,.val (.pv (.sl false 1 (a0.map (Ik .u8))))),(1,.val (.pv (I a1))),(6,.box (.pv ((vt.pv false) a2))),(7,.box (.pv ((al false) a3))),(9,.val (.pv (I (i17:Int))))]) (fun i17 s17=>[]) (Slm_ SC) (fun i17 s17 hi h=>?_) (fun s17 h=>?_)
   ·have w:=ws_ i17
    refine S ?_
    refine aE cs fun cs=>S ?_
    refine rb_ h fun v107 q h=>ak [false,false,false] (vEw_1 q) (S ?_)
    refine rb_ h fun v110 q h=>am (al false) q (S ?_)
    refine rb_ h fun v112 q h=>ak [false,false,false,false] (ih _ _ _ _ _ q) (S ?_)
    refine ae (DHa_ [] [1712,1713]) (S ?_)
    refine ag cs h (fun cs h=>S ?_) fun cs h=>S ?_
    ·exact FHz_ h
    ·exact aI h
   ·refine S ?_
    refine aF cs fun cs=>S ?_
    exact FHz_ h
  ·exact FHz_ h
  ·exact FHz_ h
  ·refine rb_ h fun v23 q h=>ak [false,false,false,false] (vHs_ q) (S ?_)
   exact FHz_ h
  ·refine rb_ h fun v31 q h=>am (al false) q (S ?_)
   refine rb_ h fun v33 q h=>ak [false,false,false,false] (ih _ _ _ _ _ q) (S ?_)
   refine ae (DHa_ [] []) (S ?_)
   exact FHz_ h
  ·refine rb_ h fun v51 q h=>am (al false) q (S ?_)
   refine rb_ h fun v53 q h=>ak [false,false,false,false] (ih _ _ _ _ _ q) (S ?_)
   refine ae (DHa_ [] []) (S ?_)
   exact FHz_ h
  rotate_left 2
  ·refine rb_ h fun v71 q h=>am (al false) q (S ?_)
   refine rb_ h fun v73 q h=>ak [false,false,false,false] (ih _ _ _ _ _ q) (S ?_)
   refine ae (DHa_ [] []) (S ?_)
   exact FHz_ h
  all_goals
   refine ae (DHa_ [] []) (S ?_)
   exact FHz_ h
theorem vTs_{a0:List Int}{a1:Int}{a2:vt}{a3:Ft}{r:Bool}(h:vT_ a0 a1 a2 a3=some r):Sat ai 32 [(.sl false 1 (a0.map (Ik .u8))),(I a1),((vt.pv false) a2),((al false) a3)] (B r):=by
 obtain⟨n,hn⟩:=ls_ h
 exact(vTN_1 n) _ _ _ _ _ hn

theorem rSs_{a0:List Int}{a1:Sa}  {r:Bool}(h:rS_1 a0 a1=some r):Sat ai 10 [(.sl false 1 (a0.map (Ik .u8))),((Sa.pv false) a1)] (B r):=by
 obtain⟨h,cs⟩:=Ro_ h
 unfold rS_1 at h
 refine Sg_ 85 [.tmp 4] Tryz.func10 (h:=S ?_)
 replace h:=rl_ h
 refine MfA_ (N:=4) (a:=1) h (fun i2 s2=>[(0,.val (.pv (.sl false 1 (a0.map (Ik .u8))))),(3,.box (.pv ((Sa.pv false) a1))),(5,.val (.pv (I (i2:Int))))]) (fun i2 s2=>[]) (Slm_ SC) (fun i2 s2 hi hj h=>?_) (fun j2 s2 hj h=>?_)
 ·have w:=ws_ i2
  refine S ?_
  refine aE cs fun cs=>S ?_
  obtain⟨N5,hN5,h⟩:=rb_1 h
  obtain⟨hN5a,hN5b⟩:=bs_ hN5
  refine aH (rl_ h) (fun i5 s5=>[(0,.val (.pv (.sl false 1 (a0.map (Ik .u8))))),(3,.box (.pv ((Sa.pv false) a1))),(5,.val (.pv (I (i2:Int)))),(6,.val (.pv (I (i5:Int))))]) (fun i5 s5=>[]) (Slm_ SC) (fun i5 s5 hi h=>?_) (fun s5 h=>?_)
  ·have w:=ae (ws_ i5) w
   refine S ?_
   refine aE cs fun cs=>S ?_
   refine rb_ h fun v25 q h=>ak [false,false] (vAs_ q) (S ?_)
   refine rb_ h fun v27 q h=>remH.mk q (S ?_)
   refine rb_ h fun v31 q h=>ak [false,false] (vAs_ q) (S ?_)
   refine rb_ h fun v33 q h=>remH.mk q (S ?_)
   refine rb_ h fun v37 q h=>ak [false,false] (vAs_ q) (S ?_)
   refine rb_ h fun v39 q h=>remH.mk q (S ?_)
   refine ae (DHa_ [7] [336,640]) (S ?_)
   refine Mkb_ (b:=false) (sz:=5) (es:=a1.Left.map (al false)) (x:=(.pv ((Sa.pv false) a1))) 3 [0] SC fun hl3=>?_; rw[aw] at hl3
   refine aH (rl_ h) (fun i10 s10=>[(0,.val (.pv (.sl false 1 (a0.map (Ik .u8))))),(3,.box (.pv ((Sa.pv false) a1))),(5,.val (.pv (I (i2:Int)))),(6,.val (.pv (I (i5:Int)))),(7,.box (.node [(.own 336),(.own 640)])),(8,.val (.pv (B s10))),(9,.val (.pv (B false))),(10,.val (.pv (I (i10:Int))))]) (fun i10 s10=>[(336,(1,([(⟨#[88]⟩:ByteArray),(⟨#[89]⟩:ByteArray),(⟨#[90]⟩:ByteArray),(⟨#[85]⟩:ByteArray)]).map Sx)),(640,(1,([(i5:Int),v27,v33,v39]).map I))]) (Slm_ SC) (fun i10 s10 hi h=>?_) (fun s10 h=>?_)
   ·have w:=ae (ws_ i10) w
    refine S ?_
    refine aE cs fun cs=>S ?_
    refine ag cs h (fun cs h=>S ?_) fun cs h=>S ?_
    ·refine rb_ h fun v57 q h=>am (al false) q (S ?_)
     refine rb_ h fun v59 q h=>ak [false,false,false,false] (vTs_ q) (S ?_)
     refine ae (DHa_ [] []) (S ?_)
     exact aI h
    ·refine ae (DHa_ [] []) (S ?_)
     exact aI h
   ·refine S ?_
    refine aF cs fun cs=>S ?_
    refine Mkb_ (b:=false) (sz:=5) (es:=a1.Right.map (al false)) (x:=(.pv ((Sa.pv false) a1))) 3 [1] SC fun hl3=>?_; rw[aw] at hl3
    refine aH (rl_ h) (fun i14 s14=>[(0,.val (.pv (.sl false 1 (a0.map (Ik .u8))))),(3,.box (.pv ((Sa.pv false) a1))),(5,.val (.pv (I (i2:Int)))),(6,.val (.pv (I (i5:Int)))),(7,.box (.node [(.own 336),(.own 640)])),(8,.val (.pv (B s10))),(9,.val (.pv (B s14))),(11,.val (.pv (I (i14:Int))))]) (fun i14 s14=>[(336,(1,([(⟨#[88]⟩:ByteArray),(⟨#[89]⟩:ByteArray),(⟨#[90]⟩:ByteArray),(⟨#[85]⟩:ByteArray)]).map Sx)),(640,(1,([(i5:Int),v27,v33,v39]).map I))]) (Slm_ SC) (fun i14 s14 hi h=>?_) (fun s14 h=>?_)
    ·have w:=ae (ws_ i14) w
     refine S ?_
     refine aE cs fun cs=>S ?_
     refine ag cs h (fun cs h=>S ?_) fun cs h=>S ?_
     ·refine ae (DHa_ [] []) (S ?_)
      exact aI h
     ·refine rb_ h fun v76 q h=>am (al false) q (S ?_)
      refine rb_ h fun v78 q h=>ak [false,false,false,false] (vTs_ q) (S ?_)
      refine ae (DHa_ [] []) (S ?_)
      exact aI h
    ·refine S ?_
     refine aF cs fun cs=>S ?_
     refine ag cs h (fun cs h=>S ?_) fun cs h=>S ?_
     ·refine ag cs h (fun cs h=>S ?_) fun cs h=>S ?_
      ·exact aI h
      ·exact FHz_ h
     ·exact aI h
  ·refine S ?_
   refine aF cs fun cs=>S ?_
   exact aI h
 ·refine S ?_
  refine aF cs fun cs=>S ?_
  exact FHz_ h

theorem sEF_1{a0:List Tt}{a1:List Tt}{a2:Tt→Tt→Option Bool}{a2_id:FuncId}{a2_cs:List PV}(a2_ok:∀ y0 y1 r,a2 y0 y1=some r→Sat ai a2_id (((aj false) y0)::((aj false) y1)::a2_cs) (B r))(a2_cz:CO_ a2_cs=True){r:Bool}(h:sEF_ a0 a1 a2=some r):Sat ai 177 [(.sl false 2 (a0.map (aj false))),(.sl false 2 (a1.map (aj false))),.clo a2_id a2_cs] (B r):=by
 obtain⟨h,cs⟩:=Ro_ h
 unfold sEF_ at h
 have cs:=ae a2_cz cs
 refine Sg_ 32 [.tmp 6] Tryz.func177 (h:=S ?_)
 refine ag cs h (fun cs h=>S ?_) fun cs h=>S ?_
 ·refine aV (b:=false) (sz:=2) (es:=a0.map (aj false)) 0 SC fun hl0=>?_; rw[aw] at hl0
  refine aH (rl_ h) (fun i4 s4=>[(1,.val (.pv (.sl false 2 (a1.map (aj false))))),(2,.val (.pv (.clo a2_id a2_cs))),(15,.val (.pv (.sl false 2 (a0.map (aj false))))),(16,.val (.pv (I (a0.length:Int)))),(17,.val (.pv (I (i4:Int))))]) (fun i4 s4=>[]) (Slm_ SC) (fun i4 s4 hi h=>?_) (fun s4 h=>?_)
  ·have w:=ws_ i4
   refine S ?_
   refine aE cs fun cs=>S ?_
   refine rb_ h fun v20 q h=>am (aj false) q (S ?_)
   refine rb_ h fun v24 q h=>am (aj false) q (S ?_)
   refine rb_ h fun v29 q h=>ak [false,false] (a2_ok _ _ _ q) (S ?_)
   refine ag cs h (fun cs h=>S ?_) fun cs h=>S ?_
   ·exact aI h
   ·exact FHz_ h
  ·refine S ?_
   refine aF cs fun cs=>S ?_
   exact FHz_ h
 ·exact FHz_ h

theorem iET_2(n:Nat):(∀ (a0:Tt) (a1:Tt) (r:Bool),iET_ n a0 a1=some r→Sat ai 139 [((aj false) a0),((aj false) a1)] (B r)):=by
 induction n with
 | zero=>exact fun _ _ _ h=>by simp[iET_] at h
 | succ n ih=>
  refine fun a0 a1 r h=>?_
  obtain⟨h,cs⟩:=Ro_ h
  rw[iET_] at h
  refine Sg_ 17 [.tmp 4] Tryz.func139 (h:=S ?_)
  refine ag cs h (fun cs h=>S ?_) fun cs h=>S ?_
  ·refine rb_ h fun v15 q h=>ak [false,false,false] (sEF_1 (fun _ _ _ hh=>ih _ _ _ hh) (by simp only[COn_,COc_]) q) (S ?_)
   exact FHz_ h
  ·exact FHz_ h
theorem iET_3{a0:Tt}{a1:Tt}{r:Bool}(h:iET_1 a0 a1=some r):Sat ai 139 [((aj false) a0),((aj false) a1)] (B r):=by
 obtain⟨n,hn⟩:=ls_ h
 exact(iET_2 n) _ _ _ hn

theorem iaA_5{a0:Tt}{b0:Tt}  {r:Bool}(h:iaA_2 a0 b0=some r):Sat ai 138 [((aj false) a0),.ptr ((aj false) b0)] (B r):=by
 obtain⟨h,cs⟩:=Ro_ h
 unfold iaA_2 at h
 refine Sg_ 7 [.tmp 3] Tryz.func138 (h:=S ?_)
 refine rb_ h fun v6 q h=>ak [false,false] (iET_3 q) (S ?_)
 exact FHz_ h

theorem iaA_4{a0:List Tt}{a1:Tt}  {r:List Tt}(h:iaA_1 a0 a1=some r):Sat ai 83 [(.sl true 2 (a0.map (aj true))),((aj false) a1)] (.sl true 2 (r.map (aj true))):=by
 obtain⟨h,cs⟩:=Ro_ h
 unfold iaA_1 at h
 refine Sg_ 14 [.tmp 4] Tryz.func83 (h:=S ?_)
 refine MfH.fr (S ?_)
 refine rb_ h fun v7 q h=>ak [false,false] (sCF_3 (fun _ _ hh=>iaA_5 hh) (by simp only[COn_,COc_]) q) (S ?_)
 refine ag cs h (fun cs h=>S ?_) fun cs h=>S ?_
 ·exact FHz_ h
 ·refine rb_ h fun v11 q h=>ak [false] (icT_4 q) (S ?_)
  refine rb_ h fun v13 q h=>aK (aj true) (fun a=>Tt.psize _ a) q (S ?_)
  exact FHz_ h

theorem irV_2(n:Nat):(∀ (a0:Tt) (a1:GMap Tt) (r:Tt),irV_ n a0 a1=some r→SatH ai 141 [((aj false) a0)] [] .mp [] (.mp (gmap (aj false) a1.es) a1.clock) (.mp (gmap (aj false) a1.es) a1.clock) ((aj true) r)):=by
 induction n with
 | zero=>exact fun _ _ _ h=>by simp[irV_] at h
 | succ n ih=>
  refine fun a0 a1 r h=>?_
  obtain⟨h,cs⟩:=Ro_ h
  rw[irV_] at h
  refine SHo_ (nt:=46) (rs:=[.cell 4 26]) (n:=100000) 1 Tryz.func141 rfl rfl rfl rfl rfl (aR rfl) (by decide) (by first | exact aR rfl | exact SC) (S ?_)
  refine HHl_ (E:=26) (r:=1) (sh:=.mp) (ps:=[]) (m:=a1) (f:=(aj false)) (k:=a0.Name) (z0:=(Tt.mk ⟨#[]⟩ ([]))) m1_ m2_ SC (S ?_)
  refine ag cs h (fun cs h=>S ?_) fun cs h=>S ?_
  ·refine ag cs h (fun cs h=>S ?_) fun cs h=>S ?_
   ·refine rb_ h fun v25 q h=>ak [false] (icT_4 q) (S ?_)
    cases rs_ h
    exact RetHB.l SC
   ·refine aV (b:=false) (sz:=2) (es:=a0.Args.map (aj false)) 20 SC fun hl20=>?_; rw[aw] at hl20
    refine aH (rl_ h) (fun i6 s6=>[(1,.hold .mp [] (.mp (gmap (aj false) (a1).es) (a1).clock)),(4,.box zab1),(7,.box (.node [(.pv (Sx a0.Name)),(.own 9318)])),(30,.val (.pv (.sl false 2 (a0.Args.map (aj false))))),(31,.val (.pv (I (a0.Args.length:Int)))),(32,.val (.pv (I (i6:Int)))),(20000,gh 1)]) (fun i6 s6=>[(9318,(2,s6.map (aj true)))]) (bn (Sln_ (x:=(.node [(.pv (Sx a0.Name)),(.pv (.sl true 2 []))])) 7 [1] 9318 2 NM SC SC SC) (Slm_ SC)) (fun i6 s6 hi h=>?_) (fun s6 h=>?_)
    ·have w:=ws_ i6
     refine S ?_
     refine aE cs fun cs=>S ?_
     refine rb_ h fun v34 q h=>am (aj false) q (S ?_)
     obtain⟨v40,hv40,h⟩:=rb_1 h
     refine aC (r:=1) (hc:=.mp (gmap (aj false) (a1).es) (a1).clock) 1 [_] [] [(.pv ((aj false) v34))] [] [false] (ih _ _ _ hv40) rfl rfl rfl SC (S ?_)
     refine rb_ h fun v42 q h=>aK (aj true) (fun a=>Tt.psize _ a) q (S ?_)
     refine ae (DHa_ [] [640,656,672]) (S ?_)
     have h:=rs_ h
     refine aZ ⟨_,h,?_⟩
     refine Slr_ 672 9318 ?_
     exact Slm_ SWx
    ·refine S ?_
     refine aF cs fun cs=>S ?_
     cases rs_ h
     exact RetHB.l SC
  ·refine aV (b:=false) (sz:=2) (es:=a0.Args.map (aj false)) 30 SC fun hl30=>?_; rw[aw] at hl30
   refine aH (rl_ h) (fun i6 s6=>[(1,.hold .mp [] (.mp (gmap (aj false) (a1).es) (a1).clock)),(4,.box zab1),(7,.box (.node [(.pv (Sx a0.Name)),(.own 9318)])),(30,.val (.pv (.sl false 2 (a0.Args.map (aj false))))),(31,.val (.pv (I (a0.Args.length:Int)))),(32,.val (.pv (I (i6:Int)))),(20000,gh 1)]) (fun i6 s6=>[(9318,(2,s6.map (aj true)))]) (bn (Sln_ (x:=(.node [(.pv (Sx a0.Name)),(.pv (.sl true 2 []))])) 7 [1] 9318 2 NM SC SC SC) (Slm_ SC)) (fun i6 s6 hi h=>?_) (fun s6 h=>?_)
   ·have w:=ws_ i6
    refine S ?_
    refine aE cs fun cs=>S ?_
    refine rb_ h fun v34 q h=>am (aj false) q (S ?_)
    obtain⟨v40,hv40,h⟩:=rb_1 h
    refine aC (r:=1) (hc:=.mp (gmap (aj false) (a1).es) (a1).clock) 1 [_] [] [(.pv ((aj false) v34))] [] [false] (ih _ _ _ hv40) rfl rfl rfl SC (S ?_)
    refine rb_ h fun v42 q h=>aK (aj true) (fun a=>Tt.psize _ a) q (S ?_)
    refine ae (DHa_ [] [640,656,672]) (S ?_)
    have h:=rs_ h
    refine aZ ⟨_,h,?_⟩
    refine Slr_ 672 9318 ?_
    exact Slm_ SWx
   ·refine S ?_
    refine aF cs fun cs=>S ?_
    cases rs_ h
    exact RetHB.l SC
theorem irV_3{a0:Tt}{a1:GMap Tt}{r:Tt}(h:irV_1 a0 a1=some r):SatH ai 141 [((aj false) a0)] [] .mp [] (.mp (gmap (aj false) a1.es) a1.clock) (.mp (gmap (aj false) a1.es) a1.clock) ((aj true) r):=by
 obtain⟨n,hn⟩:=ls_ h
 exact(irV_2 n) _ _ _ hn

theorem ifs_{a0:Tt}{a1:Tt}  {r:Tt}(h:if_ a0 a1=some r):Sat ai 84 [((aj false) a0),((aj false) a1)] ((aj true) r):=by
 obtain⟨h,cs⟩:=Ro_ h
 unfold if_ at h
 refine Sg_ 10 [.cell 4 26] Tryz.func84 (h:=S ?_)
 refine HandH.makeMap (α:=Tt) (aj false) (by decide) (S ?_)
 refine HHi_ (E:=26) (r:=6) (sh:=.mp) (ps:=[]) (m:=(GMap.empty:GMap Tt)) (f:=(aj false)) (k:=(⟨#[65]⟩:ByteArray)) (v0:=a1) (c:=(.pv ((aj false) a1))) m1_ SC (S ?_)
 obtain⟨v9,hv9,h⟩:=rb_1 h
 refine aC (r:=6) (hc:=.mp (gmap (aj false) (GMap.put (GMap.empty:GMap Tt) (⟨#[65]⟩:ByteArray) a1).es) (GMap.put (GMap.empty:GMap Tt) (⟨#[65]⟩:ByteArray) a1).clock) 1 [_] [] [(.pv ((aj false) a0))] [] [false] (irV_3 hv9) rfl rfl rfl SC (S ?_)
 exact FHz_ h

theorem sSF_3{a0:List Tt}{r:Unit×List Tt}(h:sSF_1 a0=some r):SI_ ai 85 [.sl true 2 (a0.map (aj true)),.clo 86 []] [.sl true 2 (r.2.map (aj true)),.clo 86 []] (.tup []):=sTs_1 (fun h=>icT_6 h) h

theorem ils_{a0:Dt}  {r:(List Tt)×Bool}(h:il_ a0=some r):Sat ai 33 [((Dt.pv false) a0)] (.tup [(.sl true 2 (r.1.map (aj true))),(B r.2)]):=by
 obtain⟨h,cs⟩:=Ro_ h
 unfold il_ at h
 refine Sg_ 45 [.tmp 2,.tmp 3] Tryz.func33 (h:=S ?_)
 refine aV (b:=false) (sz:=2) (es:=a0.Patterns.map (aj false)) 12 SC fun hl12=>?_; rw[aw] at hl12
 refine aH (rl_ h) (fun i3 s3=>[(1,.box (.pv ((Dt.pv false) a0))),(4,.val (.own 160)),(12,.val (.pv (.sl false 2 (a0.Patterns.map (aj false))))),(13,.val (.pv (I (a0.Patterns.length:Int)))),(14,.val (.pv (I (i3:Int))))]) (fun i3 s3=>[(160,(2,s3.map (aj true)))]) (Slm_ SC) (fun i3 s3 hi h=>?_) (fun s3 h=>?_)
 ·have w:=ws_ i3
  refine S ?_
  refine aE cs fun cs=>S ?_
  refine rb_ h fun v16 q h=>am (aj false) q (S ?_)
  refine rb_ h fun v19 q h=>ak [false,false] (ios_ q) (S ?_)
  refine ag cs h (fun cs h=>S ?_) fun cs h=>S ?_
  ·refine aV (b:=false) (sz:=2) (es:=a0.Instances.map (aj false)) 25 SC fun hl25=>?_; rw[aw] at hl25
   refine aH (rl_ h) (fun i8 s8=>[(1,.box (.pv ((Dt.pv false) a0))),(4,.val (.own 160)),(6,.box (.pv ((aj false) v16))),(12,.val (.pv (.sl false 2 (a0.Patterns.map (aj false))))),(13,.val (.pv (I (a0.Patterns.length:Int)))),(14,.val (.pv (I (i3:Int)))),(25,.val (.pv (.sl false 2 (a0.Instances.map (aj false))))),(26,.val (.pv (I (a0.Instances.length:Int)))),(27,.val (.pv (I (i8:Int))))]) (fun i8 s8=>[(160,(2,s8.map (aj true)))]) (Slm_ SC) (fun i8 s8 hi h=>?_) (fun s8 h=>?_)
   ·have w:=ae (ws_ i8) w
    refine S ?_
    refine aE cs fun cs=>S ?_
    refine rb_ h fun v29 q h=>am (aj false) q (S ?_)
    refine rb_ h fun v33 q h=>ak [false,false] (ifs_ q) (S ?_)
    refine rb_ h fun v35 q h=>ak [false] (iIV_6 q) (S ?_)
    refine ag cs h (fun cs h=>S ?_) fun cs h=>S ?_
    ·refine rb_ h fun v39 q h=>ak [true,false] (iaA_4 q) (S ?_)
     have h:=rs_ h
     refine aZ ⟨_,h,?_⟩
     refine Slr_ 624 160 ?_
     exact Slm_ SWx
    ·exact FHz_ h
   ·refine S ?_
    refine aF cs fun cs=>S ?_
    exact aI h
  ·refine rb_ h fun v23 q h=>ak [true,false] (iaA_4 q) (S ?_)
   have h:=rs_ h
   refine aZ ⟨_,h,?_⟩
   refine Slr_ 368 160 ?_
   exact Slm_ SWx
 ·refine S ?_
  refine aF cs fun cs=>S ?_
  obtain⟨v43,hv43,h⟩:=rb_1 h
  refine CHi_ [(.own 160),(.pv (.clo 86 []))] [(160,(2,v43.2.map (aj true)))] (sSF_3 hv43) SC (S ?_)
  exact FHz_ h

theorem iLO_3{a0:Dt}  {r:(List Tt)×Bool}(h:iLO_1 a0=some r):Sat ai 11 [((Dt.pv false) a0)] (.tup [(.sl true 2 (r.1.map (aj true))),(B r.2)]):=by
 obtain⟨h,cs⟩:=Ro_ h
 unfold iLO_1 at h
 refine Sg_ 11 [.tmp 2,.tmp 3] Tryz.func11 (h:=S ?_)
 refine rb_ h fun v5 q h=>ak [false] (iIV_8 q) (S ?_)
 refine ag cs h (fun cs h=>S ?_) fun cs h=>S ?_
 ·refine rb_ h fun v8 q h=>ak [false] (ils_ q) (S ?_)
  exact FHz_ h
 ·exact FHz_ h

theorem sSF_2{a0:Ft}{a1:ByteArray}{a2:Tt}  {r:Ft×Bool}(h:sSF_ a0 a1 a2=some r):Sat ai 12 [((al false) a0),(Sx a1),((aj false) a2)] (.tup [((al true) r.1),(B r.2)]):=by
 obtain⟨h,cs⟩:=Ro_ h
 unfold sSF_ at h
 refine Sg_ 35 [.cell 6 29,.tmp 7] Tryz.func12 (h:=S ?_)
 refine rb_ h fun v11 q h=>ak [false] (slG_4 q) (S ?_)
 refine ag cs h (fun cs h=>S ?_) fun cs h=>S ?_
 refine rb_ h fun v15 q h=>ak [false] (slV_1 q) (S ?_)
 refine ag cs h (fun cs h=>S ?_) fun cs h=>S ?_
 refine rb_ h fun v20 q h=>ak [false] (slG_3 q) (S ?_)
 refine ag cs h (fun cs h=>S ?_) fun cs h=>S ?_
 refine rb_ h fun v28 q h=>ak [false,false,false] (slP_8 q) (S ?_)
 refine ag cs h (fun cs h=>S ?_) fun cs h=>S ?_
 all_goals
  exact FHz_ h

theorem FnLemmas_sat{a0:List Int}  {r:Bool}(h:FnLemmas a0=some r):Sat ai 3 [(.sl false 1 (a0.map (Ik .u8)))] (B r):=by
 obtain⟨h,cs⟩:=Ro_ h
 unfold FnLemmas at h
 refine Sg_ 121 [.tmp 2] Tryz.func3 (h:=S ?_)
 refine rb_ h fun v19 q h=>ak [false] (vBs_ q) (S ?_)
 refine ag cs h (fun cs h=>S ?_) fun cs h=>S ?_
 rotate_left
 refine rb_ h fun v22 q h=>ak [false] (sDL_1 q) (S ?_)
 refine rb_ h fun v28 q h=>ak [false,false] (iLO_2 q) (S ?_)
 refine rb_ h fun v34 q h=>ak [false,false] (iLI_1 q) (S ?_)
 refine rb_ h fun v40 q h=>ak [false,false] (sLO_1 q) (S ?_)
 refine rb_ h fun v46 q h=>ak [false,false] (sLI_1 q) (S ?_)
 refine ag cs h (fun cs h=>S ?_) fun cs h=>S ?_
 refine ag cs h (fun cs h=>S ?_) fun cs h=>S ?_
 refine ag cs h (fun cs h=>S ?_) fun cs h=>S ?_
 refine ag cs h (fun cs h=>S ?_) fun cs h=>S ?_
 refine rb_ h fun v69 q h=>ak [false,false] (rSs_ q) (S ?_)
 refine ag cs h (fun cs h=>S ?_) fun cs h=>S ?_
 refine ag cs h (fun cs h=>S ?_) fun cs h=>S ?_
 refine rb_ h fun v81 q h=>ak [false] (Sat.vwOf (res':=(.tup [(.sl false 2 (v81.1.map (aj false))),(B v81.2)])) (iLO_3 q) (by simp only[vt_,vs_,va_,vl_,az,RB,RS])) (S ?_)
 refine ag cs h (fun cs h=>S ?_) fun cs h=>S ?_
 refine ag cs h (fun cs h=>S ?_) fun cs h=>S ?_
 rotate_left
 ·refine aV (b:=false) (sz:=2) (es:=v81.1.map (aj false)) 13 SC fun hl13=>?_; rw[aw] at hl13
  refine aH (rl_ h) (fun i18 s18=>[(0,.val (.pv (.sl false 1 (a0.map (Ik .u8))))),(3,.box (.pv ((al false) v22.1))),(7,.val (.own 544)),(13,.val (.pv (.sl false 2 (v81.1.map (aj false))))),(15,.val (.pv (I (i18:Int))))]) (fun i18 s18=>[(544,(5,v34.1.map (al true)))]) (Slm_ SC) (fun i18 s18 hi h=>?_) (fun s18 h=>?_)
  ·have w:=ws_ i18
   refine S ?_
   refine aE cs fun cs=>S ?_
   refine rb_ h fun v100 q h=>am (al false) q (S ?_)
   refine rb_ h fun v106 q h=>am (aj false) q (S ?_)
   refine rb_ h fun v108 q h=>ak [false,false,false] (sSF_2 q) (S ?_)
   refine ae (DHa_ [16] [1728,1729]) (S ?_)
   refine ag cs h (fun cs h=>S ?_) fun cs h=>S ?_
   ·refine rb_ h fun v118 q h=>ak [false,false] (rSs_ q) (S ?_)
    refine ag cs h (fun cs h=>S ?_) fun cs h=>S ?_
    ·exact aI h
    ·exact FHz_ h
   ·exact aI h
  ·refine S ?_
   refine aF cs fun cs=>S ?_
   exact FHz_ h
 all_goals
  exact FHz_ h

end Go.Proofs.YtckabmmondelpaaGreat
