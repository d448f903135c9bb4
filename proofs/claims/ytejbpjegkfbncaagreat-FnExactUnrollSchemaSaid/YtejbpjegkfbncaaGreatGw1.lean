/- Lemmas of the proof; each says what it shows. -/
import Derived.Test.YtejbpjegkfbncaaGreatGw0
set_option linter.unusedSimpArgs false
set_option linter.unusedVariables false
set_option linter.defProp false
set_option maxRecDepth 4000
namespace Go.Proofs.YtejbpjegkfbncaaGreat
open Go.Av
open And renaming intro→ae
open AppH renaming c→aO
open CallH renaming c→ai
open CondH renaming run→ah,t3→aE,f3→aF
open Dt renaming pv→aq
open Ft renaming pv→aj,psize→bC
open IdxH renaming c→av
open List renaming length_map→aB
open Mg renaming forN→aG,know_sl→aL
open Nat renaming le_of_ble_eq_true→bP
open PV renaming views→aD
open RdH renaming mk→aW,z→aJ
open SidxH renaming mk→bE
open Tryz renaming prog→ag
open Tt renaming pv→al
set_option maxHeartbeats 4000000
theorem slI_11(n:Nat):(∀ (a0:Dt) (a1:Ft) (a2:Bool) (a3:Int) (r:Dt),slI_ n a0 a1 a2 a3=some r→Sat ag 53 [((aq false) a0),((aj false) a1),(B a2),(I a3)] ((aq false) r)):=by
 induction n with
 | zero=>exact fun _ _ _ _ _ h=>by simp[slI_] at h
 | succ n ih=>
  refine fun a0 a1 a2 a3 r h=>?_
  obtain⟨h,cs⟩:=Ro_ h
  rw[slI_] at h
  refine Sg_ 126 [.cell 8 46] Tryz.func53 (h:=SB ?_)
  refine rb_ h fun v22 q h=>ai [false] (slO_8 q) (SB ?_)
  refine rb_ h fun v25 q h=>ai [false] (slO_2 q) (SB ?_)
  refine ae (DHa_ [9] [352,400,401]) (SB ?_)
  refine OrR.v [] (SB ?_)
  refine rb_ h fun v32 q h=>ai [false,false,false,false,false] (SvO_ (res':=((Sa.pv false) v32)) (slN_ q) (by simp only[vt_,vs_,va_,vl_,aD,RB,RS])) (SB ?_)
  refine ah cs h (fun cs h=>SB ?_) fun cs h=>SB ?_
  ·refine OrR.l (SB ?_)
   refine rb_ h fun v41 q h=>SlcH.mk (f:=(aj false)) q SC (SB ?_)
   refine rb_ h fun v42 q h=>aO (aj false) (fun a=>bC _ a) q (SB ?_)
   refine rb_ h fun v44 q h=>ai [false] (SvO_ (res':=((aj false) v44)) (slO_2 q) (by simp only[vt_,vs_,va_,vl_,aD,RB,RS])) (SB ?_)
   refine OrR.l (SB ?_)
   refine rb_ h fun v46 q h=>aO (aj false) (fun a=>bC _ a) q (SB ?_)
   refine rb_ h fun v49 q h=>SlcH.mk (f:=(aj false)) q SC (SB ?_)
   refine rb_ h fun v50 q h=>aO (aj false) (fun a=>bC _ a) q (SB ?_)
   refine ae (DHa_ [] [608,672,720,736,800]) (SB ?_)
   refine ah cs h (fun cs h=>SB ?_) fun cs h=>SB ?_
   refine rb_ h fun v94 q h=>ai [false,false] (slR_3 q) (SB ?_)
   refine ah cs h (fun cs h=>SB ?_) fun cs h=>asZ a3 cs fun z0 cs=>asZ a0.Main cs fun z1 cs=>SB ?_
   refine ah cs h (fun cs h=>asZ ( IntKind.i64.wrap ( a3-( 1:Int ) ) ) cs fun z0 cs=>asZ a0.Main cs fun z1 cs=>SB ?_) fun cs h=>asZ a3 cs fun z0 cs=>asZ a0.Main cs fun z1 cs=>SB ?_
   rotate_left 3
   refine rb_ h fun v77 q h=>ai [false] (slO_5 q) (SB ?_)
   refine ah cs h (fun cs h=>SB ?_) fun cs h=>SB ?_
   refine ah cs h (fun cs h=>SB ?_) fun cs h=>SB ?_
   refine rb_ h fun v94 q h=>ai [false,false] (slR_3 q) (SB ?_)
   refine ah cs h (fun cs h=>SB ?_) fun cs h=>asZ a3 cs fun z0 cs=>asZ ( IntKind.i64.wrap ( a0.Main+( 1:Int ) ) ) cs fun z1 cs=>SB ?_
   refine ah cs h (fun cs h=>asZ ( IntKind.i64.wrap ( a3-( 1:Int ) ) ) cs fun z0 cs=>asZ ( IntKind.i64.wrap ( a0.Main+( 1:Int ) ) ) cs fun z1 cs=>SB ?_) fun cs h=>asZ a3 cs fun z0 cs=>asZ ( IntKind.i64.wrap ( a0.Main+( 1:Int ) ) ) cs fun z1 cs=>SB ?_
   rotate_left 3
   refine rb_ h fun v94 q h=>ai [false,false] (slR_3 q) (SB ?_)
   refine ah cs h (fun cs h=>SB ?_) fun cs h=>asZ a3 cs fun z0 cs=>asZ a0.Main cs fun z1 cs=>SB ?_
   refine ah cs h (fun cs h=>asZ ( IntKind.i64.wrap ( a3-( 1:Int ) ) ) cs fun z0 cs=>asZ a0.Main cs fun z1 cs=>SB ?_) fun cs h=>asZ a3 cs fun z0 cs=>asZ a0.Main cs fun z1 cs=>SB ?_
   rotate_left 3
   refine rb_ h fun v94 q h=>ai [false,false] (slR_3 q) (SB ?_)
   refine ah cs h (fun cs h=>SB ?_) fun cs h=>asZ a3 cs fun z0 cs=>asZ a0.Main cs fun z1 cs=>SB ?_
   refine ah cs h (fun cs h=>asZ ( IntKind.i64.wrap ( a3-( 1:Int ) ) ) cs fun z0 cs=>asZ a0.Main cs fun z1 cs=>SB ?_) fun cs h=>asZ a3 cs fun z0 cs=>asZ a0.Main cs fun z1 cs=>SB ?_
   all_goals
    refine Mkv_ (b:=false) (sz:=12) (es:=a0.Parts.map (aq false)) (x:=(.pv ((aq false) a0))) 0 [5] SC fun hl0=>?_; rw[aB] at hl0
    refine aG (rl_ h) (fun i16 s16=>[(2,.val (.pv (B a2))),(4,.box (.pv ((aq false) a0))),(5,.box (.pv ((aj false) a1))),(8,.box zab0),(9,.box (.node [(.pv (I a0.Rule)),(.node [(.own 800),(.pv (.sl false 5 (v32.Right.map (aj false))))]),(.pv (I z1)),(.node [(.pv (Sx v22.Name)),(.own 352)]),(.node [(.pv (I v25.Op)),(.node [(.pv (Sx v25.Atom.Name)),(.own 400)]),(.pv (Sx v25.Var)),(.own 401)]),(.own 9348)])),(13,.val (.pv (I z0))),(15,.val (.pv (I (i16:Int))))]) (fun i16 s16=>[(800,(5,v50.map (aj false))),(352,(2,v22.Args.map (al true))),(400,(2,v25.Atom.Args.map (al true))),(401,(5,v25.Parts.map (aj true))),(9348,(12,s16.map (aq false)))]) (St.le_trans (Sln_ (x:=(.node [(.pv (I a0.Rule)),(.node [(.own 800),(.pv (.sl false 5 (v32.Right.map (aj false))))]),(.pv (I z1)),(.node [(.pv (Sx v22.Name)),(.own 352)]),(.node [(.pv (I v25.Op)),(.node [(.pv (Sx v25.Atom.Name)),(.own 400)]),(.pv (Sx v25.Var)),(.own 401)]),(.pv (.sl true 12 []))])) 9 [5] 9348 12 NM SC SC SC) (Slm_ SC)) (fun i16 s16 hi h=>?_) (fun s16 h=>?_)
    ·have w:=ws_ i16
     refine SB ?_
     refine aE cs fun cs=>SB ?_
     refine rb_ h fun v116 q h=>av (aq false) q (SB ?_)
     refine rb_ h fun v121 q h=>ai [false,false,false,false] (ih _ _ _ _ _ q) (SB ?_)
     refine OrR.l (SB ?_)
     refine rb_ h fun v123 q h=>aO (aq false) (fun a=>Dt.psize _ a) q (SB ?_)
     refine ae (DHa_ [] [1952,1968]) (SB ?_)
     have h:=rs_ h
     refine aW ⟨_,h,?_⟩
     refine Slr_ 1968 9348 ?_
     exact Slm_ SWx
    ·refine SB ?_
     refine aF cs fun cs=>SB ?_
     exact FHz_1 h
  ·refine OrR.l (SB ?_)
   refine rb_ h fun v59 q h=>SlcH.mk (f:=(aj false)) q SC (SB ?_)
   refine rb_ h fun v60 q h=>aO (aj false) (fun a=>bC _ a) q (SB ?_)
   refine rb_ h fun v62 q h=>ai [false] (SvO_ (res':=((aj false) v62)) (slO_2 q) (by simp only[vt_,vs_,va_,vl_,aD,RB,RS])) (SB ?_)
   refine OrR.l (SB ?_)
   refine rb_ h fun v64 q h=>aO (aj false) (fun a=>bC _ a) q (SB ?_)
   refine rb_ h fun v67 q h=>SlcH.mk (f:=(aj false)) q SC (SB ?_)
   refine rb_ h fun v68 q h=>aO (aj false) (fun a=>bC _ a) q (SB ?_)
   refine ae (DHa_ [] [896,960,1008,1024,1088]) (SB ?_)
   refine ah cs h (fun cs h=>SB ?_) fun cs h=>SB ?_
   refine rb_ h fun v94 q h=>ai [false,false] (slR_3 q) (SB ?_)
   refine ah cs h (fun cs h=>SB ?_) fun cs h=>asZ a3 cs fun z0 cs=>asZ a0.Main cs fun z1 cs=>SB ?_
   refine ah cs h (fun cs h=>asZ ( IntKind.i64.wrap ( a3-( 1:Int ) ) ) cs fun z0 cs=>asZ a0.Main cs fun z1 cs=>SB ?_) fun cs h=>asZ a3 cs fun z0 cs=>asZ a0.Main cs fun z1 cs=>SB ?_
   rotate_left 3
   refine rb_ h fun v77 q h=>ai [false] (slO_5 q) (SB ?_)
   refine ah cs h (fun cs h=>SB ?_) fun cs h=>SB ?_
   refine ah cs h (fun cs h=>SB ?_) fun cs h=>SB ?_
   refine rb_ h fun v94 q h=>ai [false,false] (slR_3 q) (SB ?_)
   refine ah cs h (fun cs h=>SB ?_) fun cs h=>asZ a3 cs fun z0 cs=>asZ ( IntKind.i64.wrap ( a0.Main+( 1:Int ) ) ) cs fun z1 cs=>SB ?_
   refine ah cs h (fun cs h=>asZ ( IntKind.i64.wrap ( a3-( 1:Int ) ) ) cs fun z0 cs=>asZ ( IntKind.i64.wrap ( a0.Main+( 1:Int ) ) ) cs fun z1 cs=>SB ?_) fun cs h=>asZ a3 cs fun z0 cs=>asZ ( IntKind.i64.wrap ( a0.Main+( 1:Int ) ) ) cs fun z1 cs=>SB ?_
   rotate_left 3
   refine rb_ h fun v94 q h=>ai [false,false] (slR_3 q) (SB ?_)
   refine ah cs h (fun cs h=>SB ?_) fun cs h=>asZ a3 cs fun z0 cs=>asZ a0.Main cs fun z1 cs=>SB ?_
   refine ah cs h (fun cs h=>asZ ( IntKind.i64.wrap ( a3-( 1:Int ) ) ) cs fun z0 cs=>asZ a0.Main cs fun z1 cs=>SB ?_) fun cs h=>asZ a3 cs fun z0 cs=>asZ a0.Main cs fun z1 cs=>SB ?_
   rotate_left 3
   refine rb_ h fun v94 q h=>ai [false,false] (slR_3 q) (SB ?_)
   refine ah cs h (fun cs h=>SB ?_) fun cs h=>asZ a3 cs fun z0 cs=>asZ a0.Main cs fun z1 cs=>SB ?_
   refine ah cs h (fun cs h=>asZ ( IntKind.i64.wrap ( a3-( 1:Int ) ) ) cs fun z0 cs=>asZ a0.Main cs fun z1 cs=>SB ?_) fun cs h=>asZ a3 cs fun z0 cs=>asZ a0.Main cs fun z1 cs=>SB ?_
   all_goals
    refine Mkv_ (b:=false) (sz:=12) (es:=a0.Parts.map (aq false)) (x:=(.pv ((aq false) a0))) 0 [5] SC fun hl0=>?_; rw[aB] at hl0
    refine aG (rl_ h) (fun i16 s16=>[(2,.val (.pv (B a2))),(4,.box (.pv ((aq false) a0))),(5,.box (.pv ((aj false) a1))),(8,.box zab0),(9,.box (.node [(.pv (I a0.Rule)),(.node [(.pv (.sl false 5 (v32.Left.map (aj false)))),(.own 1088)]),(.pv (I z1)),(.node [(.pv (Sx v22.Name)),(.own 352)]),(.node [(.pv (I v25.Op)),(.node [(.pv (Sx v25.Atom.Name)),(.own 400)]),(.pv (Sx v25.Var)),(.own 401)]),(.own 9348)])),(13,.val (.pv (I z0))),(15,.val (.pv (I (i16:Int))))]) (fun i16 s16=>[(1088,(5,v68.map (aj false))),(352,(2,v22.Args.map (al true))),(400,(2,v25.Atom.Args.map (al true))),(401,(5,v25.Parts.map (aj true))),(9348,(12,s16.map (aq false)))]) (St.le_trans (Sln_ (x:=(.node [(.pv (I a0.Rule)),(.node [(.pv (.sl false 5 (v32.Left.map (aj false)))),(.own 1088)]),(.pv (I z1)),(.node [(.pv (Sx v22.Name)),(.own 352)]),(.node [(.pv (I v25.Op)),(.node [(.pv (Sx v25.Atom.Name)),(.own 400)]),(.pv (Sx v25.Var)),(.own 401)]),(.pv (.sl true 12 []))])) 9 [5] 9348 12 NM SC SC SC) (Slm_ SC)) (fun i16 s16 hi h=>?_) (fun s16 h=>?_)
    ·have w:=ws_ i16
     refine SB ?_
     refine aE cs fun cs=>SB ?_
     refine rb_ h fun v116 q h=>av (aq false) q (SB ?_)
     refine rb_ h fun v121 q h=>ai [false,false,false,false] (ih _ _ _ _ _ q) (SB ?_)
     refine OrR.l (SB ?_)
     refine rb_ h fun v123 q h=>aO (aq false) (fun a=>Dt.psize _ a) q (SB ?_)
     refine ae (DHa_ [] [1952,1968]) (SB ?_)
     have h:=rs_ h
     refine aW ⟨_,h,?_⟩
     refine Slr_ 1968 9348 ?_
     exact Slm_ SWx
    ·refine SB ?_
     refine aF cs fun cs=>SB ?_
     exact FHz_1 h
theorem slI_12{a0:Dt}{a1:Ft}{a2:Bool}{a3:Int}{r:Dt}(h:slI_9 a0 a1 a2 a3=some r):Sat ag 53 [((aq false) a0),((aj false) a1),(B a2),(I a3)] ((aq false) r):=by
 obtain⟨n,hn⟩:=ls_ h
 exact(slI_11 n) _ _ _ _ _ hn

theorem slC_3{a0:Sa}{a1:Ft}{a2:Dt}{a3:Dt}  {r:Dt}(h:slC_1 a0 a1 a2 a3=some r):Sat ag 52 [((Sa.pv false) a0),((aj false) a1),((aq false) a2),((aq false) a3)] ((aq false) r):=by
 obtain⟨h,cs⟩:=Ro_ h
 unfold slC_1 at h
 refine Sg_ 21 [.cell 8 46] Tryz.func52 (h:=S ?_)
 refine rb_ h fun v12 q h=>ai [false] (slO_2 q) (S ?_)
 refine rb_ h fun v16 q h=>ai [false,false,false,false,false] (slN_ q) (S ?_)
 refine ae (DHa_ [] [192,193,256,257,304]) (S ?_)
 exact FHz_1 h

theorem slU_2(n:Nat):(∀ (a0:Sb) (a1:Int) (r:Dt×Bool),slU_ n a0 a1=some r→Sat ag 17 [((Sb.pv false) a0),(I a1)] (.tup [((aq false) r.1),(B r.2)])):=by
 induction n with
 | zero=>exact fun _ _ _ h=>by simp[slU_] at h
 | succ n ih=>
  refine fun a0 a1 r h=>?_
  obtain⟨h,cs⟩:=Ro_ h
  rw[slU_] at h
  refine Sg_ 91 [.cell 4 46,.tmp 5] Tryz.func17 (h:=S ?_)
  refine ah cs h (fun cs h=>S ?_) fun cs h=>S ?_
  ·refine rb_ h fun v19 q h=>ai [false] (slO_13 q) (S ?_)
   exact FHz_1 h
  ·refine rb_ h fun v24 q h=>ai [false,false] (ih _ _ _ q) (S ?_)
   refine ah cs h (fun cs h=>S ?_) fun cs h=>S ?_
   refine rb_ h fun v36 q h=>ai [false] (SvO_ (res':=((al false) v36)) (slN_7 q) (by simp only[vt_,vs_,va_,vl_,aD,RB,RS])) (S ?_)
   refine rb_ h fun v37 q h=>ai [false,false,false] (SvO_ (res':=(.tup [((aj false) v37.1),(B v37.2)])) (slP_3 q) (by simp only[vt_,vs_,va_,vl_,aD,RB,RS])) (S ?_)
   refine ae (DHa_ [8] []) (S ?_)
   refine rb_ h fun v47 q h=>ai [false] (slN_7 q) (S ?_)
   refine rb_ h fun v48 q h=>ai [false,false,false] (slP_3 q) (S ?_)
   refine ae (DHa_ [10] [752,768,769]) (S ?_)
   refine rb_ h fun v58 q h=>ai [false] (slN_7 q) (S ?_)
   refine rb_ h fun v59 q h=>ai [false,false,false] (slR_6 q) (S ?_)
   refine ae (DHa_ [12] [928,944,945,946,947,948,949]) (S ?_)
   refine ah cs h (fun cs h=>S ?_) fun cs h=>S ?_
   refine ah cs h (fun cs h=>S ?_) fun cs h=>S ?_
   refine ah cs h (fun cs h=>S ?_) fun cs h=>S ?_
   refine rb_ h fun v83 q h=>ai [false,false,false,false] (slI_12 q) (S ?_)
   refine rb_ h fun v85 q h=>ai [true,true,false,true] (Sg_1 (args:=[(.agg [(.sl false 5 (a0.Base.Sequent.Left.map (aj false))),(.sl true 5 (([v37.1]).map (aj false)))]),(.agg [(I v48.1.Op),(.agg [(Sx v48.1.Atom.Name),(.sl true 2 (v48.1.Atom.Args.map (al true)))]),(Sx v48.1.Var),(.sl true 5 (v48.1.Parts.map (aj true)))]),((aq false) v83),(.agg [(I v59.1.Rule),(.agg [(.sl true 5 (v59.1.Sequent.Left.map (aj true))),(.sl true 5 (v59.1.Sequent.Right.map (aj true)))]),(I v59.1.Main),(.agg [(Sx v59.1.Term.Name),(.sl true 2 (v59.1.Term.Args.map (al true)))]),(.agg [(I v59.1.Cut.Op),(.agg [(Sx v59.1.Cut.Atom.Name),(.sl true 2 (v59.1.Cut.Atom.Args.map (al true)))]),(Sx v59.1.Cut.Var),(.sl true 5 (v59.1.Cut.Parts.map (aj true)))]),(.sl true 12 (v59.1.Parts.map (aq true)))])]) [true,true,false,true] (by have gg:=slC_3 q; simp only[gv_t,gv_f,gv_n,vs_,va_,vl_,vrB_,vrI_,aD,RB,RS] at gg ⊢; exact gg)) (S ?_)
   refine ae (DHa_ [14] [1248]) (S ?_)
   refine rb_ h fun v87 q h=>ai [false] (slV_4 q) (S ?_)
   refine ah cs h (fun cs h=>S ?_) fun cs h=>S ?_
   all_goals
    exact FHz_1 h
theorem slU_3{a0:Sb}{a1:Int}{r:Dt×Bool}(h:slU_1 a0 a1=some r):Sat ag 17 [((Sb.pv false) a0),(I a1)] (.tup [((aq false) r.1),(B r.2)]):=by
 obtain⟨n,hn⟩:=ls_ h
 exact(slU_2 n) _ _ _ hn

theorem sUS_1{a0:Sb}{a1:Int}  {r:Dt×Bool}(h:sUS_ a0 a1=some r):Sat ag 5 [((Sb.pv false) a0),(I a1)] (.tup [((aq true) r.1),(B r.2)]):=by
 obtain⟨h,cs⟩:=Ro_ h
 unfold sUS_ at h
 refine Sg_ 28 [.cell 4 46,.tmp 5] Tryz.func5 (h:=S ?_)
 refine rb_ h fun v9 q h=>ai [false] (slG_7 q) (S ?_)
 refine ah cs h (fun cs h=>S ?_) fun cs h=>S ?_
 refine rb_ h fun v13 q h=>ai [false,false,false] (slI_2 q) (S ?_)
 refine ah cs h (fun cs h=>S ?_) fun cs h=>S ?_
 refine rb_ h fun v20 q h=>ai [false,false] (slU_3 q) (S ?_)
 refine ah cs h (fun cs h=>S ?_) fun cs h=>S ?_
 ·refine rb_ h fun v27 q h=>ai [false] (slO_13 q) (S ?_)
  exact FHz_ h
 all_goals
  exact FHz_ h

theorem iiU_1{a0:Int}  {r:Bool}(h:iiU_ a0=some r):Sat ag 103 [((Ik .u8) a0)] (B r):=by
 obtain⟨h,cs⟩:=Ro_ h
 unfold iiU_ at h
 refine Sg_ 9 [.tmp 2] Tryz.func103 (h:=S ?_)
 refine ah cs h (fun cs h=>S ?_) fun cs h=>S ?_
 ·exact FHz_ h
 ·exact FHz_ h

theorem iiL_1{a0:Int}  {r:Bool}(h:iiL_ a0=some r):Sat ag 104 [((Ik .u8) a0)] (B r):=by
 obtain⟨h,cs⟩:=Ro_ h
 unfold iiL_ at h
 refine Sg_ 9 [.tmp 2] Tryz.func104 (h:=S ?_)
 refine ah cs h (fun cs h=>S ?_) fun cs h=>S ?_
 ·exact FHz_ h
 ·exact FHz_ h

theorem iiD_3{a0:Int}  {r:Bool}(h:iiD_2 a0=some r):Sat ag 105 [((Ik .u8) a0)] (B r):=by
 obtain⟨h,cs⟩:=Ro_ h
 unfold iiD_2 at h
 refine Sg_ 9 [.tmp 2] Tryz.func105 (h:=S ?_)
 refine ah cs h (fun cs h=>S ?_) fun cs h=>S ?_
 ·exact FHz_ h
 ·exact FHz_ h

theorem iws_{a0:Int}{a1:Int}{a2:Int}  {r:Bool}(h:iw_ a0 a1 a2=some r):Sat ag 22 [(I a0),(I a1),(I a2)] (B r):=by
 obtain⟨h,cs⟩:=Ro_ h
 unfold iw_ at h
 refine Sg_ 15 [.tmp 6] Tryz.func22 (h:=S ?_)
 refine ah cs h (fun cs h=>S ?_) fun cs h=>S ?_
 ·exact FHz_ h
 ·exact FHz_ h

theorem iiV_1{a0:ByteArray}  {r:Bool}(h:iiV_ a0=some r):Sat ag 61 [(Sx a0)] (B r):=by
 obtain⟨h,cs⟩:=Ro_ h
 unfold iiV_ at h
 refine Sg_ 40 [.tmp 2] Tryz.func61 (h:=S ?_)
 obtain⟨N2,hN2,h⟩:=rb_1 h
 obtain⟨hN2a,hN2b⟩:=bs_ hN2
 refine aG (rl_ h) (fun i2 s2=>[(0,.val (.pv (Sx a0))),(5,.val (.pv (I (a0.size:Int)))),(6,.val (.pv (I (i2:Int))))]) (fun i2 s2=>[]) (Slm_ SC) (fun i2 s2 hi h=>?_) (fun s2 h=>?_)
 ·have w:=ws_ i2
  refine S ?_
  refine aE cs fun cs=>S ?_
  refine ah cs h (fun cs h=>S ?_) fun cs h=>S ?_
  refine rb_ h fun v14 q h=>bE q (S ?_)
  refine rb_ h fun v15 q h=>ai [false] (iiU_1 q) (S ?_)
  refine ah cs h (fun cs h=>S ?_) fun cs h=>S ?_
  refine ah cs h (fun cs h=>S ?_) fun cs h=>S ?_
  refine rb_ h fun v24 q h=>bE q (S ?_)
  refine rb_ h fun v25 q h=>ai [false] (iiL_1 q) (S ?_)
  refine ah cs h (fun cs h=>S ?_) fun cs h=>S ?_
  rotate_left
  refine rb_ h fun v31 q h=>bE q (S ?_)
  refine rb_ h fun v32 q h=>ai [false] (iiD_3 q) (S ?_)
  refine ah cs h (fun cs h=>S ?_) fun cs h=>S ?_
  rotate_left 4
  refine ah cs h (fun cs h=>S ?_) fun cs h=>S ?_
  refine rb_ h fun v24 q h=>bE q (S ?_)
  refine rb_ h fun v25 q h=>ai [false] (iiL_1 q) (S ?_)
  refine ah cs h (fun cs h=>S ?_) fun cs h=>S ?_
  rotate_left
  refine rb_ h fun v31 q h=>bE q (S ?_)
  refine rb_ h fun v32 q h=>ai [false] (iiD_3 q) (S ?_)
  refine ah cs h (fun cs h=>S ?_) fun cs h=>S ?_
  rotate_left
  ·exact FHz_ h
  rotate_left 3
  ·exact FHz_ h
  rotate_left
  ·exact FHz_ h
  all_goals
   exact aJ h
 ·refine S ?_
  refine aF cs fun cs=>S ?_
  refine rb_ h fun v39 q h=>ai [false,false,false] (iws_ q) (S ?_)
  exact FHz_ h

theorem isO_2(n:Nat):(∀ (a0:Ft) (r:Int),isO_ n a0=some r→Sat ag 106 [((aj false) a0)] (I r)):=by
 induction n with
 | zero=>exact fun _ _ h=>by simp[isO_] at h
 | succ n ih=>
  refine fun a0 r h=>?_
  obtain⟨h,cs⟩:=Ro_ h
  rw[isO_] at h
  refine Sg_ 22 [.tmp 2] Tryz.func106 (h:=S ?_)
  refine aL (b:=false) (sz:=5) (es:=a0.Parts.map (aj false)) 7 SC fun hl7=>?_; rw[aB] at hl7
  refine aG (rl_ h) (fun i3 s3=>[(3,.val (.pv (I s3))),(7,.val (.pv (.sl false 5 (a0.Parts.map (aj false))))),(8,.val (.pv (I (a0.Parts.length:Int)))),(9,.val (.pv (I (i3:Int))))]) (fun i3 s3=>[]) (Slm_ SC) (fun i3 s3 hi h=>?_) (fun s3 h=>?_)
  ·have w:=ws_ i3
   refine S ?_
   refine aE cs fun cs=>S ?_
   refine rb_ h fun v11 q h=>av (aj false) q (S ?_)
   refine ah cs h (fun cs h=>S ?_) fun cs h=>S ?_
   ·exact FHz_ h
   ·refine rb_ h fun v18 q h=>ai [false] (ih _ _ q) (S ?_)
    exact aJ h
  ·refine S ?_
   refine aF cs fun cs=>S ?_
   exact FHz_ h
theorem isO_3{a0:Ft}{r:Int}(h:isO_1 a0=some r):Sat ag 106 [((aj false) a0)] (I r):=by
 obtain⟨n,hn⟩:=ls_ h
 exact(isO_2 n) _ _ hn

theorem iiQ_{a0:Int}  {r:Bool}(h:iiQ_2 a0=some r):Sat ag 133 [(I a0)] (B r):=by
 obtain⟨h,cs⟩:=Ro_ h
 unfold iiQ_2 at h
 refine Sg_ 9 [.tmp 2] Tryz.func133 (h:=S ?_)
 refine ah cs h (fun cs h=>S ?_) fun cs h=>S ?_
 ·exact FHz_ h
 ·exact FHz_ h

theorem iiB_1{a0:Int}  {r:Bool}(h:iiB_ a0=some r):Sat ag 134 [(I a0)] (B r):=by
 obtain⟨h,cs⟩:=Ro_ h
 unfold iiB_ at h
 refine Sg_ 13 [.tmp 2] Tryz.func134 (h:=S ?_)
 refine ah cs h (fun cs h=>S ?_) fun cs h=>S ?_
 ·exact FHz_ h
 ·refine ah cs h (fun cs h=>S ?_) fun cs h=>S ?_
  ·exact FHz_ h
  ·exact FHz_ h

theorem iiE_1{a0:Tt}  {r:Bool}(h:iiE_ a0=some r):Sat ag 161 [((al false) a0)] (B r):=by
 obtain⟨h,cs⟩:=Ro_ h
 unfold iiE_ at h
 refine Sg_ 6 [.tmp 2] Tryz.func161 (h:=S ?_)
 exact FHz_ h

theorem isN_3(n:Nat):(∀ (a0:Tt) (r:Int),isN_1 n a0=some r→Sat ag 169 [((al false) a0)] (I r)):=by
 induction n with
 | zero=>exact fun _ _ h=>by simp[isN_1] at h
 | succ n ih=>
  refine fun a0 r h=>?_
  obtain⟨h,cs⟩:=Ro_ h
  rw[isN_1] at h
  refine Sg_ 22 [.tmp 2] Tryz.func169 (h:=S ?_)
  refine aL (b:=false) (sz:=2) (es:=a0.Args.map (al false)) 7 SC fun hl7=>?_; rw[aB] at hl7
  refine aG (rl_ h) (fun i3 s3=>[(3,.val (.pv (I s3))),(7,.val (.pv (.sl false 2 (a0.Args.map (al false))))),(8,.val (.pv (I (a0.Args.length:Int)))),(9,.val (.pv (I (i3:Int))))]) (fun i3 s3=>[]) (Slm_ SC) (fun i3 s3 hi h=>?_) (fun s3 h=>?_)
  ·have w:=ws_ i3
   refine S ?_
   refine aE cs fun cs=>S ?_
   refine rb_ h fun v11 q h=>av (al false) q (S ?_)
   refine ah cs h (fun cs h=>S ?_) fun cs h=>S ?_
   ·exact FHz_ h
   ·refine rb_ h fun v18 q h=>ai [false] (ih _ _ q) (S ?_)
    exact aJ h
  ·refine S ?_
   refine aF cs fun cs=>S ?_
   exact FHz_ h
theorem iss_2{a0:Tt}{r:Int}(h:is_2 a0=some r):Sat ag 169 [((al false) a0)] (I r):=by
 obtain⟨n,hn⟩:=ls_ h
 exact(isN_3 n) _ _ hn

theorem idN_1(n:Nat):(∀ (a0:Tt) (r:Int),idN_ n a0=some r→Sat ag 170 [((al false) a0)] (I r)):=by
 induction n with
 | zero=>exact fun _ _ h=>by simp[idN_] at h
 | succ n ih=>
  refine fun a0 r h=>?_
  obtain⟨h,cs⟩:=Ro_ h
  rw[idN_] at h
  refine Sg_ 20 [.tmp 2] Tryz.func170 (h:=S ?_)
  refine aL (b:=false) (sz:=2) (es:=a0.Args.map (al false)) 7 SC fun hl7=>?_; rw[aB] at hl7
  refine aG (rl_ h) (fun i3 s3=>[(3,.val (.pv (I s3))),(7,.val (.pv (.sl false 2 (a0.Args.map (al false))))),(8,.val (.pv (I (a0.Args.length:Int)))),(9,.val (.pv (I (i3:Int))))]) (fun i3 s3=>[]) (Slm_ SC) (fun i3 s3 hi h=>?_) (fun s3 h=>?_)
  ·have w:=ws_ i3
   refine S ?_
   refine aE cs fun cs=>S ?_
   refine rb_ h fun v11 q h=>av (al false) q (S ?_)
   refine rb_ h fun v15 q h=>ai [false] (ih _ _ q) (S ?_)
   exact aJ h
  ·refine S ?_
   refine aF cs fun cs=>S ?_
   exact FHz_ h
theorem ids_{a0:Tt}{r:Int}(h:id_ a0=some r):Sat ag 170 [((al false) a0)] (I r):=by
 obtain⟨n,hn⟩:=ls_ h
 exact(idN_1 n) _ _ hn

theorem iiS_3{a0:Tt}  {r:Bool}(h:iiS_1 a0=some r):Sat ag 145 [((al false) a0)] (B r):=by
 obtain⟨h,cs⟩:=Ro_ h
 unfold iiS_1 at h
 refine Sg_ 11 [.tmp 2] Tryz.func145 (h:=S ?_)
 refine rb_ h fun v4 q h=>ai [false] (iss_2 q) (S ?_)
 refine ah cs h (fun cs h=>S ?_) fun cs h=>S ?_
 ·refine rb_ h fun v8 q h=>ai [false] (ids_ q) (S ?_)
  exact FHz_ h
 ·exact FHz_ h

theorem irs_   {r:List ByteArray}(h:ir_  =some r):Sat ag 181 [] (.sl true 1 (r.map Sx)):=by
 obtain⟨h,cs⟩:=Ro_ h
 unfold ir_ at h
 refine Sg_ 2 [.tmp 0] Tryz.func181 (h:=S ?_)
 exact FHz_ h

theorem sIS_1{a0:List ByteArray}{a1:ByteArray}  {r:Int}(h:sIS_ a0 a1=some r):Sat ag 142 [(.sl false 1 (a0.map Sx)),(Sx a1)] (I r):=by
 obtain⟨h,cs⟩:=Ro_ h
 unfold sIS_ at h
 refine Sg_ 19 [.tmp 4] Tryz.func142 (h:=S ?_)
 refine aL (b:=false) (sz:=1) (es:=a0.map Sx) 0 SC fun hl0=>?_; rw[aB] at hl0
 refine aG (rl_ h) (fun i2 s2=>[(0,.val (.pv (.sl false 1 (a0.map Sx)))),(1,.val (.pv (Sx a1))),(7,.val (.pv (I (a0.length:Int)))),(8,.val (.pv (I (i2:Int))))]) (fun i2 s2=>[]) (Slm_ SC) (fun i2 s2 hi h=>?_) (fun s2 h=>?_)
 ·have w:=ws_ i2
  refine S ?_
  refine aE cs fun cs=>S ?_
  refine rb_ h fun v14 q h=>av Sx q (S ?_)
  refine ah cs h (fun cs h=>S ?_) fun cs h=>S ?_
  ·exact FHz_ h
  ·exact aJ h
 ·refine S ?_
  refine aF cs fun cs=>S ?_
  exact FHz_ h

theorem sCS_2{a0:List ByteArray}{a1:ByteArray}  {r:Bool}(h:sCS_ a0 a1=some r):Sat ag 113 [(.sl false 1 (a0.map Sx)),(Sx a1)] (B r):=by
 obtain⟨h,cs⟩:=Ro_ h
 unfold sCS_ at h
 refine Sg_ 9 [.tmp 4] Tryz.func113 (h:=S ?_)
 refine rb_ h fun v7 q h=>ai [false,false] (sIS_1 q) (S ?_)
 exact FHz_ h

theorem iiS_2{a0:ByteArray}  {r:Bool}(h:iiS_ a0=some r):Sat ag 162 [(Sx a0)] (B r):=by
 obtain⟨h,cs⟩:=Ro_ h
 unfold iiS_ at h
 refine Sg_ 48 [.tmp 2] Tryz.func162 (h:=S ?_)
 obtain⟨N2,hN2,h⟩:=rb_1 h
 obtain⟨hN2a,hN2b⟩:=bs_ hN2
 refine aG (rl_ h) (fun i2 s2=>[(0,.val (.pv (Sx a0))),(5,.val (.pv (I (a0.size:Int)))),(6,.val (.pv (I (i2:Int))))]) (fun i2 s2=>[]) (Slm_ SC) (fun i2 s2 hi h=>?_) (fun s2 h=>?_)
 ·have w:=ws_ i2
  refine S ?_
  refine aE cs fun cs=>S ?_
  refine ah cs h (fun cs h=>S ?_) fun cs h=>S ?_
  refine rb_ h fun v14 q h=>bE q (S ?_)
  refine rb_ h fun v15 q h=>ai [false] (iiL_1 q) (S ?_)
  refine ah cs h (fun cs h=>S ?_) fun cs h=>S ?_
  refine rb_ h fun v21 q h=>bE q (S ?_)
  refine rb_ h fun v22 q h=>ai [false] (iiL_1 q) (S ?_)
  refine ah cs h (fun cs h=>S ?_) fun cs h=>S ?_
  rotate_left
  refine rb_ h fun v27 q h=>bE q (S ?_)
  refine rb_ h fun v28 q h=>ai [false] (iiD_3 q) (S ?_)
  refine ah cs h (fun cs h=>S ?_) fun cs h=>S ?_
  rotate_left
  refine rb_ h fun v34 q h=>bE q (S ?_)
  refine ah cs h (fun cs h=>S ?_) fun cs h=>S ?_
  rotate_left 3
  refine rb_ h fun v21 q h=>bE q (S ?_)
  refine rb_ h fun v22 q h=>ai [false] (iiL_1 q) (S ?_)
  refine ah cs h (fun cs h=>S ?_) fun cs h=>S ?_
  rotate_left
  refine rb_ h fun v27 q h=>bE q (S ?_)
  refine rb_ h fun v28 q h=>ai [false] (iiD_3 q) (S ?_)
  refine ah cs h (fun cs h=>S ?_) fun cs h=>S ?_
  rotate_left
  refine rb_ h fun v34 q h=>bE q (S ?_)
  refine ah cs h (fun cs h=>S ?_) fun cs h=>S ?_
  rotate_left
  ·exact FHz_ h
  rotate_left 3
  ·exact FHz_ h
  ·exact FHz_ h
  all_goals
   exact aJ h
 ·refine S ?_
  refine aF cs fun cs=>S ?_
  refine rb_ h fun v41 q h=>ai [false,false,false] (iws_ q) (S ?_)
  refine ah cs h (fun cs h=>S ?_) fun cs h=>S ?_
  ·refine rb_ h fun v43 q h=>ai [] (irs_ q) (S ?_)
   refine rb_ h fun v45 q h=>ai [false,false] (sCS_2 q) (S ?_)
   exact FHz_ h
  ·exact FHz_ h

theorem sIF_4{a0:List Tt}{a1:Tt→Option Bool}{a1_id:FuncId}{a1_cs:List PV}(a1_ok:∀ y0 r,a1 y0=some r→Sat ag a1_id (((al false) y0)::a1_cs) (B r))(a1_cz:CO_ a1_cs=True){r:Int}(h:sIF_1 a0 a1=some r):Sat ag 198 [(.sl false 2 (a0.map (al false))),.clo a1_id a1_cs] (I r):=by
 obtain⟨h,cs⟩:=Ro_ h
 unfold sIF_1 at h
 have cs:=ae a1_cz cs
 refine Sg_ 19 [.tmp 4] Tryz.func198 (h:=S ?_)
 refine aL (b:=false) (sz:=2) (es:=a0.map (al false)) 0 SC fun hl0=>?_; rw[aB] at hl0
 refine aG (rl_ h) (fun i2 s2=>[(0,.val (.pv (.sl false 2 (a0.map (al false))))),(1,.val (.pv (.clo a1_id a1_cs))),(7,.val (.pv (I (a0.length:Int)))),(8,.val (.pv (I (i2:Int))))]) (fun i2 s2=>[]) (Slm_ SC) (fun i2 s2 hi h=>?_) (fun s2 h=>?_)
 ·have w:=ws_ i2
  refine S ?_
  refine aE cs fun cs=>S ?_
  refine rb_ h fun v14 q h=>av (al false) q (S ?_)
  refine rb_ h fun v16 q h=>ai [false] (a1_ok _ _ q) (S ?_)
  refine ah cs h (fun cs h=>S ?_) fun cs h=>S ?_
  ·exact FHz_ h
  ·exact aJ h
 ·refine S ?_
  refine aF cs fun cs=>S ?_
  exact FHz_ h

theorem sCF_3{a0:List Tt}{a1:Tt→Option Bool}{a1_id:FuncId}{a1_cs:List PV}(a1_ok:∀ y0 r,a1 y0=some r→Sat ag a1_id (((al false) y0)::a1_cs) (B r))(a1_cz:CO_ a1_cs=True){r:Bool}(h:sCF_2 a0 a1=some r):Sat ag 171 [(.sl false 2 (a0.map (al false))),.clo a1_id a1_cs] (B r):=by
 obtain⟨h,cs⟩:=Ro_ h
 unfold sCF_2 at h
 have cs:=ae a1_cz cs
 refine Sg_ 9 [.tmp 4] Tryz.func171 (h:=S ?_)
 refine rb_ h fun v7 q h=>ai [false,false] (sIF_4 a1_ok a1_cz q) (S ?_)
 exact FHz_ h

theorem ihN_4(n:Nat):(∀ (a0:Tt) (r:Bool),ihN_ n a0=some r→Sat ag 146 [((al false) a0)] (B r))∧(∀ (a0:Tt) (r:Bool),ihN_1 n a0=some r→Sat ag 172 [((al false) a0)] (B r)):=by
 induction n with
 | zero=>exact⟨fun _ _ h=>by simp[ihN_] at h,fun _ _ h=>by simp[ihN_1] at h⟩
 | succ n ih=>
  refine⟨fun a0 r h=>?_,fun a0 r h=>?_⟩
  ·obtain⟨h,cs⟩:=Ro_ h
   rw[ihN_] at h
   refine Sg_ 25 [.tmp 2] Tryz.func146 (h:=S ?_)
   refine rb_ h fun v5 q h=>ai [false] (iiV_1 q) (S ?_)
   refine ah cs h (fun cs h=>S ?_) fun cs h=>S ?_
   rotate_left
   refine rb_ h fun v12 q h=>ai [false] (iiS_2 q) (S ?_)
   refine ah cs h (fun cs h=>S ?_) fun cs h=>S ?_
   refine ah cs h (fun cs h=>S ?_) fun cs h=>S ?_
   ·refine rb_ h fun v22 q h=>ai [false,false] (sCF_3 (fun _ _ hh=>ih.2 _ _ hh) (by simp only[COn_,COc_]) q) (S ?_)
    exact FHz_ h
   all_goals
    exact FHz_ h
  ·obtain⟨h,cs⟩:=Ro_ h
   rw[ihN_1] at h
   refine Sg_ 6 [.tmp 2] Tryz.func172 (h:=S ?_)
   refine rb_ h fun v4 q h=>ai [false] (ih.1 _ _ q) (S ?_)
   exact FHz_ h
theorem ihN_3{a0:Tt}{r:Bool}(h:ihN_2 a0=some r):Sat ag 146 [((al false) a0)] (B r):=by
 obtain⟨n,hn⟩:=ls_ h
 exact(ihN_4 n).1 _ _ hn
theorem ihN_7{a0:Tt}{r:Bool}(h:ihN_6 a0=some r):Sat ag 172 [((al false) a0)] (B r):=by
 obtain⟨n,hn⟩:=ls_ h
 exact(ihN_4 n).2 _ _ hn

theorem iIV_10{a0:Tt}  {r:Bool}(h:iIV_8 a0=some r):Sat ag 117 [((al false) a0)] (B r):=by
 obtain⟨h,cs⟩:=Ro_ h
 unfold iIV_8 at h
 refine Sg_ 9 [.tmp 2] Tryz.func117 (h:=S ?_)
 refine rb_ h fun v4 q h=>ai [false] (iiS_3 q) (S ?_)
 refine ah cs h (fun cs h=>S ?_) fun cs h=>S ?_
 ·refine rb_ h fun v7 q h=>ai [false] (ihN_3 q) (S ?_)
  exact FHz_ h
 ·exact FHz_ h

theorem iIV_2{a0:Tt}  {r:Bool}(h:iIV_ a0=some r):Sat ag 135 [((al false) a0)] (B r):=by
 obtain⟨h,cs⟩:=Ro_ h
 unfold iIV_ at h
 refine Sg_ 34 [.tmp 2] Tryz.func135 (h:=S ?_)
 refine rb_ h fun v4 q h=>ai [false] (iiE_1 q) (S ?_)
 refine ah cs h (fun cs h=>S ?_) fun cs h=>S ?_
 ·refine ah cs h (fun cs h=>S ?_) fun cs h=>S ?_
  refine rb_ h fun v11 q h=>ai [false] (iiS_3 q) (S ?_)
  refine ah cs h (fun cs h=>S ?_) fun cs h=>S ?_
  refine rb_ h fun v16 q h=>av (al false) q (S ?_)
  refine rb_ h fun v18 q h=>ai [false] (ihN_3 q) (S ?_)
  refine ah cs h (fun cs h=>S ?_) fun cs h=>S ?_
  ·refine rb_ h fun v23 q h=>av (al false) q (S ?_)
   refine rb_ h fun v25 q h=>ai [false] (ihN_3 q) (S ?_)
   exact FHz_ h
  all_goals
   exact FHz_ h
 ·refine rb_ h fun v29 q h=>ai [false] (iiS_2 q) (S ?_)
  refine ah cs h (fun cs h=>S ?_) fun cs h=>S ?_
  ·refine rb_ h fun v32 q h=>ai [false] (iIV_10 q) (S ?_)
   exact FHz_ h
  ·exact FHz_ h

theorem iiZ_{a0:Tt}  {r:Bool}(h:iiZ_1 a0=some r):Sat ag 136 [((al false) a0)] (B r):=by
 obtain⟨h,cs⟩:=Ro_ h
 unfold iiZ_1 at h
 refine Sg_ 12 [.tmp 2] Tryz.func136 (h:=S ?_)
 refine ah cs h (fun cs h=>S ?_) fun cs h=>S ?_
 ·exact FHz_ h
 ·exact FHz_ h

theorem sIF_2{a0:List Ft}{a1:Ft→Option Bool}{a1_id:FuncId}{a1_cs:List PV}(a1_ok:∀ y0 r,a1 y0=some r→Sat ag a1_id (((aj false) y0)::a1_cs) (B r))(a1_cz:CO_ a1_cs=True){r:Int}(h:sIF_ a0 a1=some r):Sat ag 141 [(.sl false 5 (a0.map (aj false))),.clo a1_id a1_cs] (I r):=by
 obtain⟨h,cs⟩:=Ro_ h
 unfold sIF_ at h
 have cs:=ae a1_cz cs
 refine Sg_ 19 [.tmp 4] Tryz.func141 (h:=S ?_)
 refine aL (b:=false) (sz:=5) (es:=a0.map (aj false)) 0 SC fun hl0=>?_; rw[aB] at hl0
 refine aG (rl_ h) (fun i2 s2=>[(0,.val (.pv (.sl false 5 (a0.map (aj false))))),(1,.val (.pv (.clo a1_id a1_cs))),(7,.val (.pv (I (a0.length:Int)))),(8,.val (.pv (I (i2:Int))))]) (fun i2 s2=>[]) (Slm_ SC) (fun i2 s2 hi h=>?_) (fun s2 h=>?_)
 ·have w:=ws_ i2
  refine S ?_
  refine aE cs fun cs=>S ?_
  refine rb_ h fun v14 q h=>av (aj false) q (S ?_)
  refine rb_ h fun v16 q h=>ai [false] (a1_ok _ _ q) (S ?_)
  refine ah cs h (fun cs h=>S ?_) fun cs h=>S ?_
  ·exact FHz_ h
  ·exact aJ h
 ·refine S ?_
  refine aF cs fun cs=>S ?_
  exact FHz_ h

theorem sCF_1{a0:List Ft}{a1:Ft→Option Bool}{a1_id:FuncId}{a1_cs:List PV}(a1_ok:∀ y0 r,a1 y0=some r→Sat ag a1_id (((aj false) y0)::a1_cs) (B r))(a1_cz:CO_ a1_cs=True){r:Bool}(h:sCF_ a0 a1=some r):Sat ag 111 [(.sl false 5 (a0.map (aj false))),.clo a1_id a1_cs] (B r):=by
 obtain⟨h,cs⟩:=Ro_ h
 unfold sCF_ at h
 have cs:=ae a1_cz cs
 refine Sg_ 9 [.tmp 4] Tryz.func111 (h:=S ?_)
 refine rb_ h fun v7 q h=>ai [false,false] (sIF_2 a1_ok a1_cz q) (S ?_)
 exact FHz_ h

theorem ihF_2(n:Nat):(∀ (a0:Ft) (r:Bool),ihF_1 n a0=some r→Sat ag 107 [((aj false) a0)] (B r))∧(∀ (a0:Ft) (r:Bool),ihF_ n a0=some r→Sat ag 137 [((aj false) a0)] (B r)):=by
 induction n with
 | zero=>exact⟨fun _ _ h=>by simp[ihF_1] at h,fun _ _ h=>by simp[ihF_] at h⟩
 | succ n ih=>
  refine⟨fun a0 r h=>?_,fun a0 r h=>?_⟩
  ·obtain⟨h,cs⟩:=Ro_ h
   rw[ihF_1] at h
   refine Sg_ 76 [.tmp 2] Tryz.func107 (h:=S ?_)
   refine ah cs h (fun cs h=>S ?_) fun cs h=>S ?_
   refine ah cs h (fun cs h=>S ?_) fun cs h=>S ?_
   refine rb_ h fun v33 q h=>ai [false] (iiQ_ q) (S ?_)
   refine ah cs h (fun cs h=>S ?_) fun cs h=>S ?_
   refine rb_ h fun v37 q h=>ai [false] (iiV_1 q) (S ?_)
   refine ah cs h (fun cs h=>S ?_) fun cs h=>S ?_
   refine rb_ h fun v44 q h=>ai [false] (iiQ_ q) (S ?_)
   refine ah cs h (fun cs h=>S ?_) fun cs h=>S ?_
   refine ah cs h (fun cs h=>S ?_) fun cs h=>S ?_
   refine rb_ h fun v58 q h=>ai [false] (iIV_2 q) (S ?_)
   refine ah cs h (fun cs h=>S ?_) fun cs h=>S ?_
   rotate_left 2
   refine rb_ h fun v68 q h=>ai [false] (iiZ_ q) (S ?_)
   refine ah cs h (fun cs h=>S ?_) fun cs h=>S ?_
   rotate_left 2
   refine ah cs h (fun cs h=>S ?_) fun cs h=>S ?_
   refine ah cs h (fun cs h=>S ?_) fun cs h=>S ?_
   refine rb_ h fun v58 q h=>ai [false] (iIV_2 q) (S ?_)
   refine ah cs h (fun cs h=>S ?_) fun cs h=>S ?_
   rotate_left 2
   refine rb_ h fun v68 q h=>ai [false] (iiZ_ q) (S ?_)
   refine ah cs h (fun cs h=>S ?_) fun cs h=>S ?_
   rotate_left 4
   refine rb_ h fun v44 q h=>ai [false] (iiQ_ q) (S ?_)
   refine ah cs h (fun cs h=>S ?_) fun cs h=>S ?_
   refine ah cs h (fun cs h=>S ?_) fun cs h=>S ?_
   refine rb_ h fun v58 q h=>ai [false] (iIV_2 q) (S ?_)
   refine ah cs h (fun cs h=>S ?_) fun cs h=>S ?_
   rotate_left 2
   refine rb_ h fun v68 q h=>ai [false] (iiZ_ q) (S ?_)
   refine ah cs h (fun cs h=>S ?_) fun cs h=>S ?_
   rotate_left 2
   refine ah cs h (fun cs h=>S ?_) fun cs h=>S ?_
   refine ah cs h (fun cs h=>S ?_) fun cs h=>S ?_
   refine rb_ h fun v58 q h=>ai [false] (iIV_2 q) (S ?_)
   refine ah cs h (fun cs h=>S ?_) fun cs h=>S ?_
   rotate_left 2
   refine rb_ h fun v68 q h=>ai [false] (iiZ_ q) (S ?_)
   refine ah cs h (fun cs h=>S ?_) fun cs h=>S ?_
   rotate_left 4
   refine ah cs h (fun cs h=>S ?_) fun cs h=>S ?_
   refine ah cs h (fun cs h=>S ?_) fun cs h=>S ?_
   refine rb_ h fun v33 q h=>ai [false] (iiQ_ q) (S ?_)
   refine ah cs h (fun cs h=>S ?_) fun cs h=>S ?_
   refine rb_ h fun v37 q h=>ai [false] (iiV_1 q) (S ?_)
   refine ah cs h (fun cs h=>S ?_) fun cs h=>S ?_
   refine rb_ h fun v44 q h=>ai [false] (iiQ_ q) (S ?_)
   refine ah cs h (fun cs h=>S ?_) fun cs h=>S ?_
   refine ah cs h (fun cs h=>S ?_) fun cs h=>S ?_
   refine rb_ h fun v58 q h=>ai [false] (iIV_2 q) (S ?_)
   refine ah cs h (fun cs h=>S ?_) fun cs h=>S ?_
   rotate_left 2
   refine rb_ h fun v68 q h=>ai [false] (iiZ_ q) (S ?_)
   refine ah cs h (fun cs h=>S ?_) fun cs h=>S ?_
   rotate_left 2
   refine ah cs h (fun cs h=>S ?_) fun cs h=>S ?_
   refine ah cs h (fun cs h=>S ?_) fun cs h=>S ?_
   refine rb_ h fun v58 q h=>ai [false] (iIV_2 q) (S ?_)
   refine ah cs h (fun cs h=>S ?_) fun cs h=>S ?_
   rotate_left 2
   refine rb_ h fun v68 q h=>ai [false] (iiZ_ q) (S ?_)
   refine ah cs h (fun cs h=>S ?_) fun cs h=>S ?_
   rotate_left 4
   refine rb_ h fun v44 q h=>ai [false] (iiQ_ q) (S ?_)
   refine ah cs h (fun cs h=>S ?_) fun cs h=>S ?_
   refine ah cs h (fun cs h=>S ?_) fun cs h=>S ?_
   refine rb_ h fun v58 q h=>ai [false] (iIV_2 q) (S ?_)
   refine ah cs h (fun cs h=>S ?_) fun cs h=>S ?_
   rotate_left 2
   refine rb_ h fun v68 q h=>ai [false] (iiZ_ q) (S ?_)
   refine ah cs h (fun cs h=>S ?_) fun cs h=>S ?_
   rotate_left 2
   refine ah cs h (fun cs h=>S ?_) fun cs h=>S ?_
   refine ah cs h (fun cs h=>S ?_) fun cs h=>S ?_
   refine rb_ h fun v58 q h=>ai [false] (iIV_2 q) (S ?_)
   refine ah cs h (fun cs h=>S ?_) fun cs h=>S ?_
   rotate_left 2
   refine rb_ h fun v68 q h=>ai [false] (iiZ_ q) (S ?_)
   refine ah cs h (fun cs h=>S ?_) fun cs h=>S ?_
   rotate_left 4
   refine ah cs h (fun cs h=>S ?_) fun cs h=>S ?_
   refine ah cs h (fun cs h=>S ?_) fun cs h=>S ?_
   refine rb_ h fun v33 q h=>ai [false] (iiQ_ q) (S ?_)
   refine ah cs h (fun cs h=>S ?_) fun cs h=>S ?_
   refine rb_ h fun v37 q h=>ai [false] (iiV_1 q) (S ?_)
   refine ah cs h (fun cs h=>S ?_) fun cs h=>S ?_
   refine rb_ h fun v44 q h=>ai [false] (iiQ_ q) (S ?_)
   refine ah cs h (fun cs h=>S ?_) fun cs h=>S ?_
   refine rb_ h fun v58 q h=>ai [false] (iIV_2 q) (S ?_)
   refine ah cs h (fun cs h=>S ?_) fun cs h=>S ?_
   rotate_left 2
   refine ah cs h (fun cs h=>S ?_) fun cs h=>S ?_
   refine rb_ h fun v58 q h=>ai [false] (iIV_2 q) (S ?_)
   refine ah cs h (fun cs h=>S ?_) fun cs h=>S ?_
   rotate_left 4
   refine rb_ h fun v44 q h=>ai [false] (iiQ_ q) (S ?_)
   refine ah cs h (fun cs h=>S ?_) fun cs h=>S ?_
   refine rb_ h fun v58 q h=>ai [false] (iIV_2 q) (S ?_)
   refine ah cs h (fun cs h=>S ?_) fun cs h=>S ?_
   rotate_left 2
   refine ah cs h (fun cs h=>S ?_) fun cs h=>S ?_
   refine rb_ h fun v58 q h=>ai [false] (iIV_2 q) (S ?_)
   refine ah cs h (fun cs h=>S ?_) fun cs h=>S ?_
   rotate_left 4
   refine ah cs h (fun cs h=>S ?_) fun cs h=>S ?_
   refine ah cs h (fun cs h=>S ?_) fun cs h=>S ?_
   refine rb_ h fun v33 q h=>ai [false] (iiQ_ q) (S ?_)
   refine ah cs h (fun cs h=>S ?_) fun cs h=>S ?_
   refine rb_ h fun v37 q h=>ai [false] (iiV_1 q) (S ?_)
   refine ah cs h (fun cs h=>S ?_) fun cs h=>S ?_
   refine rb_ h fun v44 q h=>ai [false] (iiQ_ q) (S ?_)
   refine ah cs h (fun cs h=>S ?_) fun cs h=>S ?_
   refine rb_ h fun v68 q h=>ai [false] (iiZ_ q) (S ?_)
   refine ah cs h (fun cs h=>S ?_) fun cs h=>S ?_
   rotate_left 2
   refine ah cs h (fun cs h=>S ?_) fun cs h=>S ?_
   refine rb_ h fun v68 q h=>ai [false] (iiZ_ q) (S ?_)
   refine ah cs h (fun cs h=>S ?_) fun cs h=>S ?_
   rotate_left 4
   refine rb_ h fun v44 q h=>ai [false] (iiQ_ q) (S ?_)
   refine ah cs h (fun cs h=>S ?_) fun cs h=>S ?_
   refine rb_ h fun v68 q h=>ai [false] (iiZ_ q) (S ?_)
   refine ah cs h (fun cs h=>S ?_) fun cs h=>S ?_
   rotate_left 2
   refine ah cs h (fun cs h=>S ?_) fun cs h=>S ?_
   refine rb_ h fun v68 q h=>ai [false] (iiZ_ q) (S ?_)
   refine ah cs h (fun cs h=>S ?_) fun cs h=>S ?_
   rotate_left 4
   refine rb_ h fun v20 q h=>ai [false] (iiQ_ q) (S ?_)
   refine ah cs h (fun cs h=>S ?_) fun cs h=>S ?_
   refine ah cs h (fun cs h=>S ?_) fun cs h=>S ?_
   refine rb_ h fun v33 q h=>ai [false] (iiQ_ q) (S ?_)
   refine ah cs h (fun cs h=>S ?_) fun cs h=>S ?_
   refine rb_ h fun v37 q h=>ai [false] (iiV_1 q) (S ?_)
   refine ah cs h (fun cs h=>S ?_) fun cs h=>S ?_
   refine rb_ h fun v44 q h=>ai [false] (iiQ_ q) (S ?_)
   refine ah cs h (fun cs h=>S ?_) fun cs h=>S ?_
   refine rb_ h fun v68 q h=>ai [false] (iiZ_ q) (S ?_)
   refine ah cs h (fun cs h=>S ?_) fun cs h=>S ?_
   rotate_left 2
   refine ah cs h (fun cs h=>S ?_) fun cs h=>S ?_
   refine rb_ h fun v68 q h=>ai [false] (iiZ_ q) (S ?_)
   refine ah cs h (fun cs h=>S ?_) fun cs h=>S ?_
   rotate_left 4
   refine rb_ h fun v44 q h=>ai [false] (iiQ_ q) (S ?_)
   refine ah cs h (fun cs h=>S ?_) fun cs h=>S ?_
   refine rb_ h fun v68 q h=>ai [false] (iiZ_ q) (S ?_)
   refine ah cs h (fun cs h=>S ?_) fun cs h=>S ?_
   rotate_left 2
   refine ah cs h (fun cs h=>S ?_) fun cs h=>S ?_
   refine rb_ h fun v68 q h=>ai [false] (iiZ_ q) (S ?_)
   refine ah cs h (fun cs h=>S ?_) fun cs h=>S ?_
   rotate_left 4
   refine rb_ h fun v24 q h=>ai [false] (iiB_1 q) (S ?_)
   refine ah cs h (fun cs h=>S ?_) fun cs h=>S ?_
   refine ah cs h (fun cs h=>S ?_) fun cs h=>S ?_
   refine rb_ h fun v33 q h=>ai [false] (iiQ_ q) (S ?_)
   refine ah cs h (fun cs h=>S ?_) fun cs h=>S ?_
   refine rb_ h fun v37 q h=>ai [false] (iiV_1 q) (S ?_)
   refine ah cs h (fun cs h=>S ?_) fun cs h=>S ?_
   refine rb_ h fun v44 q h=>ai [false] (iiQ_ q) (S ?_)
   refine ah cs h (fun cs h=>S ?_) fun cs h=>S ?_
   refine rb_ h fun v68 q h=>ai [false] (iiZ_ q) (S ?_)
   refine ah cs h (fun cs h=>S ?_) fun cs h=>S ?_
   rotate_left 2
   refine ah cs h (fun cs h=>S ?_) fun cs h=>S ?_
   refine rb_ h fun v68 q h=>ai [false] (iiZ_ q) (S ?_)
   refine ah cs h (fun cs h=>S ?_) fun cs h=>S ?_
   rotate_left 4
   refine rb_ h fun v44 q h=>ai [false] (iiQ_ q) (S ?_)
   refine ah cs h (fun cs h=>S ?_) fun cs h=>S ?_
   refine rb_ h fun v68 q h=>ai [false] (iiZ_ q) (S ?_)
   refine ah cs h (fun cs h=>S ?_) fun cs h=>S ?_
   rotate_left 2
   refine ah cs h (fun cs h=>S ?_) fun cs h=>S ?_
   refine rb_ h fun v68 q h=>ai [false] (iiZ_ q) (S ?_)
   refine ah cs h (fun cs h=>S ?_) fun cs h=>S ?_
   rotate_left
   ·exact FHz_ h
   ·exact FHz_ h
   ·exact FHz_ h
   ·exact FHz_ h
   rotate_left
   ·exact FHz_ h
   rotate_left
   ·exact FHz_ h
   rotate_left
   ·exact FHz_ h
   rotate_left
   ·exact FHz_ h
   ·exact FHz_ h
   ·exact FHz_ h
   rotate_left
   ·exact FHz_ h
   rotate_left
   ·exact FHz_ h
   rotate_left
   ·exact FHz_ h
   rotate_left
   ·exact FHz_ h
   ·exact FHz_ h
   ·exact FHz_ h
   rotate_left
   ·exact FHz_ h
   rotate_left
   ·exact FHz_ h
   rotate_left
   ·exact FHz_ h
   rotate_left
   ·exact FHz_ h
   ·exact FHz_ h
   ·exact FHz_ h
   rotate_left
   ·exact FHz_ h
   rotate_left
   ·exact FHz_ h
   rotate_left
   ·exact FHz_ h
   rotate_left
   ·exact FHz_ h
   ·exact FHz_ h
   ·exact FHz_ h
   rotate_left
   ·exact FHz_ h
   rotate_left
   ·exact FHz_ h
   ·exact FHz_ h
   ·exact FHz_ h
   rotate_left
   ·exact FHz_ h
   rotate_left
   ·exact FHz_ h
   ·exact FHz_ h
   ·exact FHz_ h
   rotate_left
   ·exact FHz_ h
   rotate_left
   ·exact FHz_ h
   ·exact FHz_ h
   ·exact FHz_ h
   rotate_left
   ·exact FHz_ h
   rotate_left
   ·exact FHz_ h
   ·exact FHz_ h
   ·exact FHz_ h
   rotate_left
   ·exact FHz_ h
   rotate_left
   ·exact FHz_ h
   ·exact FHz_ h
   ·exact FHz_ h
   rotate_left
   ·exact FHz_ h
   rotate_left
   ·exact FHz_ h
   ·exact FHz_ h
   ·exact FHz_ h
   rotate_left
   ·exact FHz_ h
   rotate_left
   ·exact FHz_ h
   ·exact FHz_ h
   ·exact FHz_ h
   rotate_left
   ·exact FHz_ h
   all_goals
    refine rb_ h fun v74 q h=>ai [false,false] (sCF_1 (fun _ _ hh=>ih.2 _ _ hh) (by simp only[COn_,COc_]) q) (S ?_)
    exact FHz_ h
  ·obtain⟨h,cs⟩:=Ro_ h
   rw[ihF_] at h
   refine Sg_ 6 [.tmp 2] Tryz.func137 (h:=S ?_)
   refine rb_ h fun v4 q h=>ai [false] (ih.1 _ _ q) (S ?_)
   exact FHz_ h
theorem ihF_4{a0:Ft}{r:Bool}(h:ihF_3 a0=some r):Sat ag 107 [((aj false) a0)] (B r):=by
 obtain⟨n,hn⟩:=ls_ h
 exact(ihF_2 n).1 _ _ hn
theorem ihF_6{a0:Ft}{r:Bool}(h:ihF_5 a0=some r):Sat ag 137 [((aj false) a0)] (B r):=by
 obtain⟨n,hn⟩:=ls_ h
 exact(ihF_2 n).2 _ _ hn

theorem iIV_5{a0:Ft}  {r:Bool}(h:iIV_3 a0=some r):Sat ag 62 [((aj false) a0)] (B r):=by
 obtain⟨h,cs⟩:=Ro_ h
 unfold iIV_3 at h
 refine Sg_ 10 [.tmp 2] Tryz.func62 (h:=S ?_)
 refine rb_ h fun v4 q h=>ai [false] (isO_3 q) (S ?_)
 refine ah cs h (fun cs h=>S ?_) fun cs h=>S ?_
 ·refine rb_ h fun v8 q h=>ai [false] (ihF_4 q) (S ?_)
  exact FHz_ h
 ·exact FHz_ h

theorem irN_2(n:Nat):(∀ (a0:Dt) (r:Int),irN_ n a0=some r→Sat ag 138 [((aq false) a0)] (I r)):=by
 induction n with
 | zero=>exact fun _ _ h=>by simp[irN_] at h
 | succ n ih=>
  refine fun a0 r h=>?_
  obtain⟨h,cs⟩:=Ro_ h
  rw[irN_] at h
  refine Sg_ 22 [.tmp 2] Tryz.func138 (h:=S ?_)
  refine aL (b:=false) (sz:=12) (es:=a0.Parts.map (aq false)) 7 SC fun hl7=>?_; rw[aB] at hl7
  refine aG (rl_ h) (fun i3 s3=>[(3,.val (.pv (I s3))),(7,.val (.pv (.sl false 12 (a0.Parts.map (aq false))))),(8,.val (.pv (I (a0.Parts.length:Int)))),(9,.val (.pv (I (i3:Int))))]) (fun i3 s3=>[]) (Slm_ SC) (fun i3 s3 hi h=>?_) (fun s3 h=>?_)
  ·have w:=ws_ i3
   refine S ?_
   refine aE cs fun cs=>S ?_
   refine rb_ h fun v11 q h=>av (aq false) q (S ?_)
   refine ah cs h (fun cs h=>S ?_) fun cs h=>S ?_
   ·exact FHz_ h
   ·refine rb_ h fun v18 q h=>ai [false] (ih _ _ q) (S ?_)
    exact aJ h
  ·refine S ?_
   refine aF cs fun cs=>S ?_
   exact FHz_ h
theorem irN_3{a0:Dt}{r:Int}(h:irN_1 a0=some r):Sat ag 138 [((aq false) a0)] (I r):=by
 obtain⟨n,hn⟩:=ls_ h
 exact(irN_2 n) _ _ hn

theorem iIV_11{a0:Ft}  {r:Bool}(h:iIV_7 a0=some r):Sat ag 217 [((aj false) a0)] (B r):=by
 obtain⟨h,cs⟩:=Ro_ h
 unfold iIV_7 at h
 refine Sg_ 6 [.tmp 2] Tryz.func217 (h:=S ?_)
 refine rb_ h fun v4 q h=>ai [false] (iIV_5 q) (S ?_)
 exact FHz_ h

theorem iIV_12{a0:Sa}  {r:Bool}(h:iIV_6 a0=some r):Sat ag 207 [((Sa.pv false) a0)] (B r):=by
 obtain⟨h,cs⟩:=Ro_ h
 unfold iIV_6 at h
 refine Sg_ 28 [.tmp 2] Tryz.func207 (h:=S ?_)
 refine ah cs h (fun cs h=>S ?_) fun cs h=>S ?_
 refine ah cs h (fun cs h=>S ?_) fun cs h=>S ?_
 refine rb_ h fun v18 q h=>ai [false,false] (sCF_1 (fun _ _ hh=>iIV_11 hh) (by simp only[COn_,COc_]) q) (S ?_)
 refine ah cs h (fun cs h=>S ?_) fun cs h=>S ?_
 rotate_left
 ·refine rb_ h fun v25 q h=>ai [false,false] (sCF_1 (fun _ _ hh=>iIV_11 hh) (by simp only[COn_,COc_]) q) (S ?_)
  exact FHz_ h
 all_goals
  exact FHz_ h

theorem sEF_5{a0:List Tt}{a1:List Tt}{a2:Tt→Tt→Option Bool}{a2_id:FuncId}{a2_cs:List PV}(a2_ok:∀ y0 y1 r,a2 y0 y1=some r→Sat ag a2_id (((al false) y0)::((al false) y1)::a2_cs) (B r))(a2_cz:CO_ a2_cs=True){r:Bool}(h:sEF_2 a0 a1 a2=some r):Sat ag 164 [(.sl false 2 (a0.map (al false))),(.sl false 2 (a1.map (al false))),.clo a2_id a2_cs] (B r):=by
 obtain⟨h,cs⟩:=Ro_ h
 unfold sEF_2 at h
 have cs:=ae a2_cz cs
 refine Sg_ 32 [.tmp 6] Tryz.func164 (h:=S ?_)
 refine ah cs h (fun cs h=>S ?_) fun cs h=>S ?_
 ·refine aL (b:=false) (sz:=2) (es:=a0.map (al false)) 0 SC fun hl0=>?_; rw[aB] at hl0
  refine aG (rl_ h) (fun i4 s4=>[(1,.val (.pv (.sl false 2 (a1.map (al false))))),(2,.val (.pv (.clo a2_id a2_cs))),(15,.val (.pv (.sl false 2 (a0.map (al false))))),(16,.val (.pv (I (a0.length:Int)))),(17,.val (.pv (I (i4:Int))))]) (fun i4 s4=>[]) (Slm_ SC) (fun i4 s4 hi h=>?_) (fun s4 h=>?_)
  ·have w:=ws_ i4
   refine S ?_
   refine aE cs fun cs=>S ?_
   refine rb_ h fun v20 q h=>av (al false) q (S ?_)
   refine rb_ h fun v24 q h=>av (al false) q (S ?_)
   refine rb_ h fun v29 q h=>ai [false,false] (a2_ok _ _ _ q) (S ?_)
   refine ah cs h (fun cs h=>S ?_) fun cs h=>S ?_
   ·exact aJ h
   ·exact FHz_ h
  ·refine S ?_
   refine aF cs fun cs=>S ?_
   exact FHz_ h
 ·exact FHz_ h

theorem iET_2(n:Nat):(∀ (a0:Tt) (a1:Tt) (r:Bool),iET_ n a0 a1=some r→Sat ag 140 [((al false) a0),((al false) a1)] (B r)):=by
 induction n with
 | zero=>exact fun _ _ _ h=>by simp[iET_] at h
 | succ n ih=>
  refine fun a0 a1 r h=>?_
  obtain⟨h,cs⟩:=Ro_ h
  rw[iET_] at h
  refine Sg_ 17 [.tmp 4] Tryz.func140 (h:=S ?_)
  refine ah cs h (fun cs h=>S ?_) fun cs h=>S ?_
  ·refine rb_ h fun v15 q h=>ai [false,false,false] (sEF_5 (fun _ _ _ hh=>ih _ _ _ hh) (by simp only[COn_,COc_]) q) (S ?_)
   exact FHz_ h
  ·exact FHz_ h
theorem iET_3{a0:Tt}{a1:Tt}{r:Bool}(h:iET_1 a0 a1=some r):Sat ag 140 [((al false) a0),((al false) a1)] (B r):=by
 obtain⟨n,hn⟩:=ls_ h
 exact(iET_2 n) _ _ _ hn

theorem sEF_3{a0:List Ft}{a1:List Ft}{a2:Ft→Ft→Option Bool}{a2_id:FuncId}{a2_cs:List PV}(a2_ok:∀ y0 y1 r,a2 y0 y1=some r→Sat ag a2_id (((aj false) y0)::((aj false) y1)::a2_cs) (B r))(a2_cz:CO_ a2_cs=True){r:Bool}(h:sEF_ a0 a1 a2=some r):Sat ag 110 [(.sl false 5 (a0.map (aj false))),(.sl false 5 (a1.map (aj false))),.clo a2_id a2_cs] (B r):=by
 obtain⟨h,cs⟩:=Ro_ h
 unfold sEF_ at h
 have cs:=ae a2_cz cs
 refine Sg_ 32 [.tmp 6] Tryz.func110 (h:=S ?_)
 refine ah cs h (fun cs h=>S ?_) fun cs h=>S ?_
 ·refine aL (b:=false) (sz:=5) (es:=a0.map (aj false)) 0 SC fun hl0=>?_; rw[aB] at hl0
  refine aG (rl_ h) (fun i4 s4=>[(1,.val (.pv (.sl false 5 (a1.map (aj false))))),(2,.val (.pv (.clo a2_id a2_cs))),(15,.val (.pv (.sl false 5 (a0.map (aj false))))),(16,.val (.pv (I (a0.length:Int)))),(17,.val (.pv (I (i4:Int))))]) (fun i4 s4=>[]) (Slm_ SC) (fun i4 s4 hi h=>?_) (fun s4 h=>?_)
  ·have w:=ws_ i4
   refine S ?_
   refine aE cs fun cs=>S ?_
   refine rb_ h fun v20 q h=>av (aj false) q (S ?_)
   refine rb_ h fun v24 q h=>av (aj false) q (S ?_)
   refine rb_ h fun v29 q h=>ai [false,false] (a2_ok _ _ _ q) (S ?_)
   refine ah cs h (fun cs h=>S ?_) fun cs h=>S ?_
   ·exact aJ h
   ·exact FHz_ h
  ·refine S ?_
   refine aF cs fun cs=>S ?_
   exact FHz_ h
 ·exact FHz_ h

theorem isF_5(n:Nat):(∀ (a0:Ft) (a1:Ft) (r:Bool),isF_ n a0 a1=some r→Sat ag 109 [((aj false) a0),((aj false) a1)] (B r)):=by
 induction n with
 | zero=>exact fun _ _ _ h=>by simp[isF_] at h
 | succ n ih=>
  refine fun a0 a1 r h=>?_
  obtain⟨h,cs⟩:=Ro_ h
  rw[isF_] at h
  refine Sg_ 31 [.tmp 4] Tryz.func109 (h:=S ?_)
  refine ah cs h (fun cs h=>S ?_) fun cs h=>S ?_
  refine rb_ h fun v15 q h=>ai [false,false] (iET_3 q) (S ?_)
  refine ah cs h (fun cs h=>S ?_) fun cs h=>S ?_
  refine ah cs h (fun cs h=>S ?_) fun cs h=>S ?_
  ·refine rb_ h fun v29 q h=>ai [false,false,false] (sEF_3 (fun _ _ _ hh=>ih _ _ _ hh) (by simp only[COn_,COc_]) q) (S ?_)
   exact FHz_ h
  all_goals
   exact FHz_ h
theorem isF_3{a0:Ft}{a1:Ft}{r:Bool}(h:isF_2 a0 a1=some r):Sat ag 109 [((aj false) a0),((aj false) a1)] (B r):=by
 obtain⟨n,hn⟩:=ls_ h
 exact(isF_5 n) _ _ _ hn

theorem iiQ_3{a0:Int}  {r:Bool}(h:iiQ_1 a0=some r):Sat ag 222 [(I a0)] (B r):=by
 obtain⟨h,cs⟩:=Ro_ h
 unfold iiQ_1 at h
 refine Sg_ 5 [.tmp 2] Tryz.func222 (h:=S ?_)
 refine rb_ h fun v4 q h=>ai [false,false,false] (iws_ q) (S ?_)
 exact FHz_ h

theorem imO_1{a0:Int}  {r:Bool×Int}(h:imO_ a0=some r):Sat ag 152 [(I a0)] (.tup [(B r.1),(I r.2)]):=by
 obtain⟨h,cs⟩:=Ro_ h
 unfold imO_ at h
 refine Sg_ 36 [.tmp 2,.tmp 3] Tryz.func152 (h:=S ?_)
 refine ah cs h (fun cs h=>S ?_) fun cs h=>S ?_
 rotate_left
 refine ah cs h (fun cs h=>S ?_) fun cs h=>S ?_
 rotate_left
 refine ah cs h (fun cs h=>S ?_) fun cs h=>S ?_
 rotate_left
 refine ah cs h (fun cs h=>S ?_) fun cs h=>S ?_
 rotate_left
 refine ah cs h (fun cs h=>S ?_) fun cs h=>S ?_
 rotate_left
 refine ah cs h (fun cs h=>S ?_) fun cs h=>S ?_
 rotate_left
 refine ah cs h (fun cs h=>S ?_) fun cs h=>S ?_
 rotate_left
 refine ah cs h (fun cs h=>S ?_) fun cs h=>S ?_
 rotate_left
 refine ah cs h (fun cs h=>S ?_) fun cs h=>S ?_
 rotate_left
 refine ah cs h (fun cs h=>S ?_) fun cs h=>S ?_
 rotate_left
 refine ah cs h (fun cs h=>S ?_) fun cs h=>S ?_
 rotate_left
 refine ah cs h (fun cs h=>S ?_) fun cs h=>S ?_
 all_goals
  exact FHz_ h

theorem imF_1{a0:Sa}{a1:Dt}  {r:Ft×Bool}(h:imF_ a0 a1=some r):Sat ag 223 [((Sa.pv false) a0),((aq false) a1)] (.tup [((aj false) r.1),(B r.2)]):=by
 obtain⟨h,cs⟩:=Ro_ h
 unfold imF_ at h
 refine Sg_ 47 [.cell 4 43,.tmp 5] Tryz.func223 (h:=S ?_)
 refine rb_ h fun v12 q h=>ai [false] (imO_1 q) (S ?_)
 refine ah cs h (fun cs h=>S ?_) fun cs h=>S ?_
 refine rb_ h fun v25 q h=>ai [false,false,false] (iws_ q) (S ?_)
 refine ah cs h (fun cs h=>S ?_) fun cs h=>S ?_
 refine ah cs h (fun cs h=>S ?_) fun cs h=>S ?_
 rotate_left
 refine rb_ h fun v34 q h=>av (aj false) q (S ?_)
 refine ah cs h (fun cs h=>S ?_) fun cs h=>S ?_
 rotate_left 3
 refine rb_ h fun v25 q h=>ai [false,false,false] (iws_ q) (S ?_)
 refine ah cs h (fun cs h=>S ?_) fun cs h=>S ?_
 refine ah cs h (fun cs h=>S ?_) fun cs h=>S ?_
 rotate_left
 refine rb_ h fun v34 q h=>av (aj false) q (S ?_)
 refine ah cs h (fun cs h=>S ?_) fun cs h=>S ?_
 rotate_left
 ·exact FHz_1 h
 ·exact FHz_1 h
 rotate_left 2
 ·exact FHz_1 h
 ·exact FHz_1 h
 all_goals
  refine rb_ h fun v45 q h=>av (aj false) q (S ?_)
  exact FHz_1 h

theorem imR_1{a0:Int}  {r:Bool}(h:imR_ a0=some r):Sat ag 177 [(I a0)] (B r):=by
 obtain⟨h,cs⟩:=Ro_ h
 unfold imR_ at h
 refine Sg_ 9 [.tmp 2] Tryz.func177 (h:=S ?_)
 refine ah cs h (fun cs h=>S ?_) fun cs h=>S ?_
 ·exact FHz_ h
 ·exact FHz_ h

theorem iiV_3{a0:Tt}  {r:Bool}(h:iiV_2 a0=some r):Sat ag 209 [((al false) a0)] (B r):=by
 obtain⟨h,cs⟩:=Ro_ h
 unfold iiV_2 at h
 refine Sg_ 7 [.tmp 2] Tryz.func209 (h:=S ?_)
 refine rb_ h fun v5 q h=>bE q (S ?_)
 refine rb_ h fun v6 q h=>ai [false] (iiU_1 q) (S ?_)
 exact FHz_ h

theorem icN_5(n:Nat):(∀ (a0:List ByteArray) (a1:Tt) (r:List ByteArray),icN_1 n a0 a1=some r→Sat ag 186 [(.sl true 1 (a0.map Sx)),((al false) a1)] (.sl true 1 (r.map Sx))):=by
 induction n with
 | zero=>exact fun _ _ _ h=>by simp[icN_1] at h
 | succ n ih=>
  refine fun a0 a1 r h=>?_
  obtain⟨h,cs⟩:=Ro_ h
  rw[icN_1] at h
  refine Sg_ 38 [.tmp 4] Tryz.func186 (h:=S ?_)
  refine ah cs h (fun cs h=>S ?_) fun cs h=>S ?_
  refine rb_ h fun v13 q h=>ai [false] (iiV_3 q) (S ?_)
  refine ah cs h (fun cs h=>S ?_) fun cs h=>S ?_
  refine rb_ h fun v18 q h=>ai [false,false] (sCS_2 q) (S ?_)
  refine ah cs h (fun cs h=>S ?_) fun cs h=>S ?_
  ·exact FHz_ h
  ·refine rb_ h fun v24 q h=>aO Sx (fun _=>rfl) q (S ?_)
   exact FHz_ h
  all_goals
   refine aL (b:=false) (sz:=2) (es:=a1.Args.map (al false)) 8 SC fun hl8=>?_; rw[aB] at hl8
   refine aG (rl_ h) (fun i6 s6=>[(0,.val (.own 9000)),(27,.val (.pv (.sl false 2 (a1.Args.map (al false))))),(28,.val (.pv (I (a1.Args.length:Int)))),(29,.val (.pv (I (i6:Int))))]) (fun i6 s6=>[(9000,(1,s6.map Sx))]) (Slm_ SC) (fun i6 s6 hi h=>?_) (fun s6 h=>?_)
   ·have w:=ws_ i6
    refine S ?_
    refine aE cs fun cs=>S ?_
    refine rb_ h fun v31 q h=>av (al false) q (S ?_)
    refine rb_ h fun v35 q h=>ai [true,false] (ih _ _ _ q) (S ?_)
    have h:=rs_ h
    refine aW ⟨_,h,?_⟩
    refine Slr_ 560 9000 ?_
    exact Slm_ SWx
   ·refine S ?_
    refine aF cs fun cs=>S ?_
    exact FHz_ h
theorem ics_{a0:List ByteArray}{a1:Tt}{r:List ByteArray}(h:ic_ a0 a1=some r):Sat ag 186 [(.sl true 1 (a0.map Sx)),((al false) a1)] (.sl true 1 (r.map Sx)):=by
 obtain⟨n,hn⟩:=ls_ h
 exact(icN_5 n) _ _ _ hn


theorem ivs_{a0:Tt}  {r:List ByteArray}(h:iv_ a0=some r):Sat ag 165 [((al false) a0)] (.sl true 1 (r.map Sx)):=by
 obtain⟨h,cs⟩:=Ro_ h
 unfold iv_ at h
 refine Sg_ 10 [.tmp 2] Tryz.func165 (h:=S ?_)
 refine rb_ h fun v6 q h=>ai [true,false] (ics_ q) (S ?_)
 obtain⟨v8,hv8,h⟩:=rb_1 h
 refine CHi_1 [(.own 96)] [(96,(1,v8.2.map Sx))] (sSS_1 hv8) SC (S ?_)
 exact FHz_ h

theorem sCS_7{a0:List ByteArray}  {r:List ByteArray}(h:sCS_4 a0=some r):Sat ag 166 [(.sl false 1 (a0.map Sx))] (.sl true 1 (r.map Sx)):=by
 obtain⟨h,cs⟩:=Ro_ h
 unfold sCS_4 at h
 refine Sg_ 8 [.tmp 2] Tryz.func166 (h:=S ?_)
 refine NilH.mk (fun e=>?_) ?_
 ·obtain rfl:a0=[]:=List.map_eq_nil_iff.1 e
  simp only[an_1,Option.bind_some] at h
  refine S ?_
  exact FHz_ h
 ·skip
  refine S ?_
  refine rb_ h fun v7 q h=>aO Sx (fun _=>rfl) q (S ?_)
  exact FHz_ h

theorem igN_1(n:Nat):(∀ (a0:List ByteArray) (a1:Ft) (a2:List ByteArray) (r:List ByteArray),igN_ n a0 a1 a2=some r→Sat ag 143 [(.sl true 1 (a0.map Sx)),((aj false) a1),(.sl false 1 (a2.map Sx))] (.sl true 1 (r.map Sx))):=by
 induction n with
 | zero=>exact fun _ _ _ _ h=>by simp[igN_] at h
 | succ n ih=>
  refine fun a0 a1 a2 r h=>?_
  obtain⟨h,cs⟩:=Ro_ h
  rw[igN_] at h
  refine Sg_ 60 [.tmp 6] Tryz.func143 (h:=S ?_)
  refine ah cs h (fun cs h=>S ?_) fun cs h=>S ?_
  ·refine rb_ h fun v16 q h=>ai [false] (ivs_ q) (S ?_)
   refine Mg.know_own (sz:=1) (es:=v16.map Sx) 256 SC fun hl256=>?_; rw[aB] at hl256
   refine aG (rl_ h) (fun i3 s3=>[(0,.val (.own 9000)),(2,.val (.pv (.sl false 1 (a2.map Sx)))),(16,.val (.own 256)),(17,.val (.pv (I (v16.length:Int)))),(18,.val (.pv (I (i3:Int))))]) (fun i3 s3=>[(9000,(1,s3.map Sx)),(256,(1,v16.map Sx))]) (Slm_ SC) (fun i3 s3 hi h=>?_) (fun s3 h=>?_)
   ·have w:=ws_ i3
    refine S ?_
    refine aE cs fun cs=>S ?_
    refine rb_ h fun v20 q h=>av Sx q (S ?_)
    refine rb_ h fun v21 q h=>EldH.c Sx q (S ?_)
    refine rb_ h fun v24 q h=>ai [false,false] (sCS_2 q) (S ?_)
    refine ah cs h (fun cs h=>S ?_) fun cs h=>S ?_
    ·exact aJ h
    ·refine rb_ h fun v29 q h=>ai [false,false] (sCS_2 q) (S ?_)
     refine ah cs h (fun cs h=>S ?_) fun cs h=>S ?_
     ·exact aJ h
     ·refine rb_ h fun v35 q h=>aO Sx (fun _=>rfl) q (S ?_)
      have h:=rs_ h
      refine aW ⟨_,h,?_⟩
      refine Slr_ 560 9000 ?_
      exact Slm_ SWx
   ·refine S ?_
    refine aF cs fun cs=>S ?_
    exact FHz_ h
  ·refine rb_ h fun v40 q h=>ai [false] (iiQ_ q) (S ?_)
   refine ah cs h (fun cs h=>S ?_) fun cs h=>S ?_
   ·refine rb_ h fun v42 q h=>ai [false] (sCS_7 q) (S ?_)
    refine rb_ h fun v46 q h=>aO Sx (fun _=>rfl) q (S ?_)
    refine ae (DHa_ [] [672,720,736]) (S ?_)
    refine aL (b:=false) (sz:=5) (es:=a1.Parts.map (aj false)) 48 SC fun hl48=>?_; rw[aB] at hl48
    refine aG (rl_ h) (fun i12 s12=>[(0,.val (.own 9000)),(2,.val (.own 736)),(48,.val (.pv (.sl false 5 (a1.Parts.map (aj false))))),(49,.val (.pv (I (a1.Parts.length:Int)))),(50,.val (.pv (I (i12:Int))))]) (fun i12 s12=>[(9000,(1,s12.map Sx)),(736,(1,v46.map Sx))]) (Slm_ SC) (fun i12 s12 hi h=>?_) (fun s12 h=>?_)
    ·have w:=ws_ i12
     refine S ?_
     refine aE cs fun cs=>S ?_
     refine rb_ h fun v52 q h=>av (aj false) q (S ?_)
     refine rb_ h fun v57 q h=>ai [true,false,false] (ih _ _ _ _ q) (S ?_)
     have h:=rs_ h
     refine aW ⟨_,h,?_⟩
     refine Slr_ 912 9000 ?_
     exact Slm_ SWx
    ·refine S ?_
     refine aF cs fun cs=>S ?_
     exact FHz_ h
   ·refine aL (b:=false) (sz:=5) (es:=a1.Parts.map (aj false)) 48 SC fun hl48=>?_; rw[aB] at hl48
    refine aG (rl_ h) (fun i12 s12=>[(0,.val (.own 9000)),(2,.val (.pv (.sl false 1 (a2.map Sx)))),(48,.val (.pv (.sl false 5 (a1.Parts.map (aj false))))),(49,.val (.pv (I (a1.Parts.length:Int)))),(50,.val (.pv (I (i12:Int))))]) (fun i12 s12=>[(9000,(1,s12.map Sx))]) (Slm_ SC) (fun i12 s12 hi h=>?_) (fun s12 h=>?_)
    ·have w:=ws_ i12
     refine S ?_
     refine aE cs fun cs=>S ?_
     refine rb_ h fun v52 q h=>av (aj false) q (S ?_)
     refine rb_ h fun v57 q h=>ai [true,false,false] (ih _ _ _ _ q) (S ?_)
     have h:=rs_ h
     refine aW ⟨_,h,?_⟩
     refine Slr_ 912 9000 ?_
     exact Slm_ SWx
    ·refine S ?_
     refine aF cs fun cs=>S ?_
     exact FHz_ h
theorem igs_{a0:List ByteArray}{a1:Ft}{a2:List ByteArray}{r:List ByteArray}(h:ig_ a0 a1 a2=some r):Sat ag 143 [(.sl true 1 (a0.map Sx)),((aj false) a1),(.sl false 1 (a2.map Sx))] (.sl true 1 (r.map Sx)):=by
 obtain⟨n,hn⟩:=ls_ h
 exact(igN_1 n) _ _ _ _ hn

theorem ifs_{a0:Ft}  {r:List ByteArray}(h:if_ a0=some r):Sat ag 114 [((aj false) a0)] (.sl true 1 (r.map Sx)):=by
 obtain⟨h,cs⟩:=Ro_ h
 unfold if_ at h
 refine Sg_ 10 [.tmp 2] Tryz.func114 (h:=S ?_)
 refine rb_ h fun v6 q h=>ai [true,false,false] (igs_ q) (S ?_)
 obtain⟨v8,hv8,h⟩:=rb_1 h
 refine CHi_1 [(.own 96)] [(96,(1,v8.2.map Sx))] (sSS_1 hv8) SC (S ?_)
 exact FHz_ h

theorem iiF_3{a0:Ft}{b0:ByteArray}  {r:Bool}(h:iiF_ a0 b0=some r):Sat ag 229 [((aj false) a0),.ptr (Sx b0)] (B r):=by
 obtain⟨h,cs⟩:=Ro_ h
 unfold iiF_ at h
 refine Sg_ 8 [.tmp 3] Tryz.func229 (h:=S ?_)
 refine rb_ h fun v5 q h=>ai [false] (ifs_ q) (S ?_)
 refine rb_ h fun v7 q h=>ai [false,false] (sCS_2 q) (S ?_)
 refine ae (DHa_ [] [80]) (S ?_)
 exact FHz_ h

theorem iiF_5{a0:Sa}{a1:ByteArray}  {r:Bool}(h:iiF_2 a0 a1=some r):Sat ag 228 [((Sa.pv false) a0),(Sx a1)] (B r):=by
 obtain⟨h,cs⟩:=Ro_ h
 unfold iiF_2 at h
 refine Sg_ 17 [.tmp 4] Tryz.func228 (h:=S ?_)
 refine MfH.fr (S ?_)
 refine rb_ h fun v10 q h=>ai [false,false] (sCF_1 (fun _ _ hh=>iiF_3 hh) (by simp only[COn_,COc_]) q) (S ?_)
 refine ah cs h (fun cs h=>S ?_) fun cs h=>S ?_
 ·exact FHz_ h
 ·refine rb_ h fun v15 q h=>ai [false,false] (sCF_1 (fun _ _ hh=>iiF_3 hh) (by simp only[COn_,COc_]) q) (S ?_)
  exact FHz_ h

theorem icT_4(n:Nat):(∀ (a0:Tt) (r:Tt),icT_ n a0=some r→Sat ag 71 [((al false) a0)] ((al true) r))∧(∀ (a0:List Tt) (r:List Tt),icT_1 n a0=some r→Sat ag 115 [(.sl false 2 (a0.map (al false)))] (.sl true 2 (r.map (al true)))):=by
 induction n with
 | zero=>exact⟨fun _ _ h=>by simp[icT_] at h,fun _ _ h=>by simp[icT_1] at h⟩
 | succ n ih=>
  refine⟨fun a0 r h=>?_,fun a0 r h=>?_⟩
  ·obtain⟨h,cs⟩:=Ro_ h
   rw[icT_] at h
   refine Sg_ 9 [.cell 2 41] Tryz.func71 (h:=S ?_)
   refine rb_ h fun v7 q h=>ai [false] (ih.2 _ _ q) (S ?_)
   refine ae (DHa_ [] [112]) (S ?_)
   exact FHz_ h
  ·obtain⟨h,cs⟩:=Ro_ h
   rw[icT_1] at h
   refine Sg_ 26 [.tmp 2] Tryz.func115 (h:=S ?_)
   refine ah cs h (fun cs h=>S ?_) fun cs h=>S ?_
   ·exact FHz_ h
   ·refine rb_ h fun n11 q h=>MknH.mk q (S ?_)
    refine aL (b:=false) (sz:=2) (es:=a0.map (al false)) 0 SC fun hl0=>?_; rw[aB] at hl0
    refine aG (rl_ h) (fun i5 s5=>[(3,.val (.own 176)),(12,.val (.pv (.sl false 2 (a0.map (al false))))),(13,.val (.pv (I (a0.length:Int)))),(14,.val (.pv (I (i5:Int))))]) (fun i5 s5=>[(176,(2,s5.map (al true)))]) (Slm_ SC) (fun i5 s5 hi h=>?_) (fun s5 h=>?_)
    ·have w:=ws_ i5
     refine S ?_
     refine aE cs fun cs=>S ?_
     refine rb_ h fun v17 q h=>av (al false) q (S ?_)
     refine rb_ h fun v22 q h=>ai [false] (ih.1 _ _ q) (S ?_)
     refine rb_ h fun v23 q h=>av (al true) q (S ?_)
     refine rb_ h fun w3 q h=>EldH.c (al true) q (S ?_)
     exact aJ h
    ·refine S ?_
     refine aF cs fun cs=>S ?_
     exact FHz_ h
theorem icT_2{a0:Tt}{r:Tt}(h:icT_3 a0=some r):Sat ag 71 [((al false) a0)] ((al true) r):=by
 obtain⟨n,hn⟩:=ls_ h
 exact(icT_4 n).1 _ _ hn
theorem icT_6{a0:List Tt}{r:List Tt}(h:icT_5 a0=some r):Sat ag 115 [(.sl false 2 (a0.map (al false)))] (.sl true 2 (r.map (al true))):=by
 obtain⟨n,hn⟩:=ls_ h
 exact(icT_4 n).2 _ _ hn

theorem imP_3{a0:Ft}{a1:Ft→Option Ft}{a1_id:FuncId}{a1_cs:List PV}(a1_ok:∀ y0 r,a1 y0=some r→Sat ag a1_id (((aj false) y0)::a1_cs) ((aj true) r))(a1_cz:CO_ a1_cs=True){r:Ft}(h:imP_2 a0 a1=some r):Sat ag 116 [((aj false) a0),.clo a1_id a1_cs] ((aj true) r):=by
 obtain⟨h,cs⟩:=Ro_ h
 unfold imP_2 at h
 have cs:=ae a1_cz cs
 refine Sg_ 33 [.cell 4 43] Tryz.func116 (h:=S ?_)
 refine rb_ h fun v12 q h=>ai [false] (icT_2 q) (S ?_)
 refine ae (DHa_ [5] [192]) (S ?_)
 refine aL (b:=false) (sz:=5) (es:=a0.Parts.map (aj false)) 17 SC fun hl17=>?_; rw[aB] at hl17
 refine aG (rl_ h) (fun i3 s3=>[(1,.val (.pv (.clo a1_id a1_cs))),(4,.box zab1),(5,.box (.node [(.pv (I a0.Op)),(.node [(.pv (Sx v12.Name)),(.own 192)]),(.pv (Sx a0.Var)),(.own 9309)])),(17,.val (.pv (.sl false 5 (a0.Parts.map (aj false))))),(18,.val (.pv (I (a0.Parts.length:Int)))),(19,.val (.pv (I (i3:Int))))]) (fun i3 s3=>[(192,(2,v12.Args.map (al true))),(9309,(5,s3.map (aj true)))]) (St.le_trans (Sln_ (x:=(.node [(.pv (I a0.Op)),(.node [(.pv (Sx v12.Name)),(.own 192)]),(.pv (Sx a0.Var)),(.pv (.sl true 5 []))])) 5 [3] 9309 5 NM SC SC SC) (Slm_ SC)) (fun i3 s3 hi h=>?_) (fun s3 h=>?_)
 ·have w:=ws_ i3
  refine S ?_
  refine aE cs fun cs=>S ?_
  refine rb_ h fun v21 q h=>av (aj false) q (S ?_)
  refine rb_ h fun v27 q h=>ai [false] (a1_ok _ _ q) (S ?_)
  refine rb_ h fun v29 q h=>aO (aj true) (fun a=>bC _ a) q (S ?_)
  refine ae (DHa_ [] [432,433,448,464]) (S ?_)
  have h:=rs_ h
  refine aW ⟨_,h,?_⟩
  refine Slr_ 464 9309 ?_
  exact Slm_ SWx
 ·refine S ?_
  refine aF cs fun cs=>S ?_
  exact FHz_ h

theorem icF_5(n:Nat):(∀ (a0:Ft) (r:Ft),icF_1 n a0=some r→Sat ag 72 [((aj false) a0)] ((aj true) r)):=by
 induction n with
 | zero=>exact fun _ _ h=>by simp[icF_1] at h
 | succ n ih=>
  refine fun a0 r h=>?_
  obtain⟨h,cs⟩:=Ro_ h
  rw[icF_1] at h
  refine Sg_ 5 [.cell 2 43] Tryz.func72 (h:=S ?_)
  refine rb_ h fun v4 q h=>ai [false,false] (imP_3 (fun _ _ hh=>ih _ _ hh) (by simp only[COn_,COc_]) q) (S ?_)
  exact FHz_ h
theorem icF_2{a0:Ft}{r:Ft}(h:icF_ a0=some r):Sat ag 72 [((aj false) a0)] ((aj true) r):=by
 obtain⟨n,hn⟩:=ls_ h
 exact(icF_5 n) _ _ hn

theorem icN_3(n:Nat):(∀ (a0:Tt) (a1:ByteArray) (r:Int),icN_ n a0 a1=some r→Sat ag 173 [((al false) a0),(Sx a1)] (I r)):=by
 induction n with
 | zero=>exact fun _ _ _ h=>by simp[icN_] at h
 | succ n ih=>
  refine fun a0 a1 r h=>?_
  obtain⟨h,cs⟩:=Ro_ h
  rw[icN_] at h
  refine Sg_ 26 [.tmp 4] Tryz.func173 (h:=S ?_)
  refine ah cs h (fun cs h=>S ?_) fun cs h=>S ?_
  all_goals
   refine aL (b:=false) (sz:=2) (es:=a0.Args.map (al false)) 13 SC fun hl13=>?_; rw[aB] at hl13
   refine aG (rl_ h) (fun i5 s5=>[(1,.val (.pv (Sx a1))),(5,.val (.pv (I s5))),(13,.val (.pv (.sl false 2 (a0.Args.map (al false))))),(14,.val (.pv (I (a0.Args.length:Int)))),(15,.val (.pv (I (i5:Int))))]) (fun i5 s5=>[]) (Slm_ SC) (fun i5 s5 hi h=>?_) (fun s5 h=>?_)
   ·have w:=ws_ i5
    refine S ?_
    refine aE cs fun cs=>S ?_
    refine rb_ h fun v17 q h=>av (al false) q (S ?_)
    refine rb_ h fun v22 q h=>ai [false,false] (ih _ _ _ q) (S ?_)
    exact aJ h
   ·refine S ?_
    refine aF cs fun cs=>S ?_
    exact FHz_ h
theorem icN_4{a0:Tt}{a1:ByteArray}{r:Int}(h:icN_2 a0 a1=some r):Sat ag 173 [((al false) a0),(Sx a1)] (I r):=by
 obtain⟨n,hn⟩:=ls_ h
 exact(icN_3 n) _ _ _ hn

theorem ios_{a0:ByteArray}{a1:Tt}  {r:Bool}(h:io_ a0 a1=some r):Sat ag 147 [(Sx a0),((al false) a1)] (B r):=by
 obtain⟨h,cs⟩:=Ro_ h
 unfold io_ at h
 refine Sg_ 9 [.tmp 4] Tryz.func147 (h:=S ?_)
 refine rb_ h fun v7 q h=>ai [false,false] (icN_4 q) (S ?_)
 exact FHz_ h

theorem ciN_1{a0:ByteArray}  {r:Bool}(h:ciN_ a0=some r):Sat ag 215 [(Sx a0)] (B r):=by
 obtain⟨h,cs⟩:=Ro_ h
 unfold ciN_ at h
 refine Sg_ 6 [.tmp 2] Tryz.func215 (h:=S ?_)
 exact FHz_ h

theorem cCs_1{a0:ByteArray}{a1:ByteArray}  {r:Int}(h:cCs_ a0 a1=some r):Sat ag 201 [(Sx a0),(Sx a1)] (I r):=by
 obtain⟨h,cs⟩:=Ro_ h
 unfold cCs_ at h
 refine Sg_ 20 [.tmp 4] Tryz.func201 (h:=S ?_)
 refine rb_ h fun v8 q h=>ai [false] (ciN_1 q) (S ?_)
 refine rb_ h fun v10 q h=>ai [false] (ciN_1 q) (S ?_)
 refine ah cs h (fun cs h=>S ?_) fun cs h=>S ?_
 refine ah cs h (fun cs h=>S ?_) fun cs h=>S ?_
 rotate_left 2
 refine ah cs h (fun cs h=>S ?_) fun cs h=>S ?_
 rotate_left
 refine ah cs h (fun cs h=>S ?_) fun cs h=>S ?_
 rotate_left
 refine ah cs h (fun cs h=>S ?_) fun cs h=>S ?_
 all_goals
  exact FHz_ h

theorem iSt_2{a0:Bt}{a1:ByteArray}  {r:Int}(h:iSt_ a0 a1=some r):Sat ag 200 [((Bt.pv false) a0),(Sx a1)] (I r):=by
 obtain⟨h,cs⟩:=Ro_ h
 unfold iSt_ at h
 refine Sg_ 9 [.tmp 4] Tryz.func200 (h:=S ?_)
 refine rb_ h fun v8 q h=>ai [false,false] (cCs_1 q) (S ?_)
 exact FHz_ h

theorem sBS_1{a0:List Bt}{a1:ByteArray}{a2:Bt→ByteArray→Option Int}{a2_id:FuncId}{a2_cs:List PV}(a2_ok:∀ y0 y1 r,a2 y0 y1=some r→Sat ag a2_id (((Bt.pv false) y0)::(Sx y1)::a2_cs) (I r))(a2_cz:CO_ a2_cs=True){r:Int×Bool}(h:sBS_ a0 a1 a2=some r):Sat ag 199 [(.sl false 3 (a0.map (Bt.pv false))),(Sx a1),.clo a2_id a2_cs] (.tup [(I r.1),(B r.2)]):=by
 obtain⟨h,cs⟩:=Ro_ h
 unfold sBS_ at h
 have cs:=ae a2_cz cs
 refine Sg_ 49 [.tmp 6,.tmp 7] Tryz.func199 (h:=S ?_)
 replace h:=rl_ h
 refine Mg.whileN h (fun s3=>[(0,.val (.pv (.sl false 3 (a0.map (Bt.pv false))))),(1,.val (.pv (Sx a1))),(2,.val (.pv (.clo a2_id a2_cs))),(8,.val (.pv (I (a0.length:Int)))),(9,.val (.pv (I s3.1))),(10,.val (.pv (I s3.2)))]) (fun s3=>[]) (Slm_ SC) (fun n3 s3 h=>?_)
 refine S ?_
 refine ah cs h (fun cs h=>S ?_) fun cs h=>S ?_
 ·refine rb_ h fun v22 q h=>ShrH.mk q (S ?_)
  refine rb_ h fun v27 q h=>av (Bt.pv false) q (S ?_)
  refine rb_ h fun v30 q h=>ai [false,false] (a2_ok _ _ _ q) (S ?_)
  refine ah cs h (fun cs h=>S ?_) fun cs h=>S ?_
  all_goals
   have h:=rs_ h
   refine aW ⟨_,h,?_⟩
   exact Slm_ SC
 ·have h:=rs_ h
  refine ah cs h (fun cs h=>S ?_) fun cs h=>S ?_
  ·refine rb_ h fun v43 q h=>av (Bt.pv false) q (S ?_)
   refine rb_ h fun v46 q h=>ai [false,false] (a2_ok _ _ _ q) (S ?_)
   exact FHz_ h
  ·exact FHz_ h

theorem iSt_3{a0:Sc}{a1:ByteArray}  {r:Tt×Bool}(h:iSt_1 a0 a1=some r):Sat ag 174 [((Sc.pv false) a0),(Sx a1)] (.tup [((al false) r.1),(B r.2)]):=by
 obtain⟨h,cs⟩:=Ro_ h
 unfold iSt_1 at h
 refine Sg_ 24 [.cell 4 41,.tmp 5] Tryz.func174 (h:=S ?_)
 refine rb_ h fun v12 q h=>ai [false,false,false] (sBS_1 (fun _ _ _ hh=>iSt_2 hh) (by simp only[COn_,COc_]) q) (S ?_)
 refine ah cs h (fun cs h=>S ?_) fun cs h=>S ?_
 ·refine rb_ h fun v21 q h=>av (Bt.pv false) q (S ?_)
  exact FHz_1 h
 ·exact FHz_1 h

theorem iSa_2(n:Nat):(∀ (a0:Sc) (a1:Tt) (r:Tt),iSa_ n a0 a1=some r→Sat ag 149 [((Sc.pv false) a0),((al false) a1)] ((al true) r)):=by
 induction n with
 | zero=>exact fun _ _ _ h=>by simp[iSa_] at h
 | succ n ih=>
  refine fun a0 a1 r h=>?_
  obtain⟨h,cs⟩:=Ro_ h
  rw[iSa_] at h
  refine Sg_ 51 [.cell 4 41] Tryz.func149 (h:=S ?_)
  refine ah cs h (fun cs h=>S ?_) fun cs h=>S ?_
  ·refine rb_ h fun v18 q h=>ai [false,false] (iSt_3 q) (S ?_)
   refine ah cs h (fun cs h=>S ?_) fun cs h=>S ?_
   ·refine rb_ h fun v23 q h=>ai [false] (icT_2 q) (S ?_)
    exact FHz_ h
   ·exact FHz_ h
  ·refine rb_ h fun n32 q h=>MknH.mk q (S ?_)
   refine ae (DHa_ [7] [512]) (S ?_)
   refine aL (b:=false) (sz:=2) (es:=a1.Args.map (al false)) 11 SC fun hl11=>?_; rw[aB] at hl11
   refine aG (rl_ h) (fun i8 s8=>[(2,.box (.pv ((Sc.pv false) a0))),(4,.box zab2),(7,.box (.node [(.pv (Sx a1.Name)),(.own 512)])),(35,.val (.pv (.sl false 2 (a1.Args.map (al false))))),(36,.val (.pv (I (a1.Args.length:Int)))),(37,.val (.pv (I (i8:Int))))]) (fun i8 s8=>[(512,(2,s8.map (al true)))]) (Slm_ SC) (fun i8 s8 hi h=>?_) (fun s8 h=>?_)
   ·have w:=ws_ i8
    refine S ?_
    refine aE cs fun cs=>S ?_
    refine rb_ h fun v40 q h=>av (al false) q (S ?_)
    refine rb_ h fun v47 q h=>ai [false,false] (ih _ _ _ q) (S ?_)
    refine rb_ h fun v48 q h=>av (al true) q (S ?_)
    refine rb_ h fun w4 q h=>EldH.c (al true) q (S ?_)
    refine ae (DHa_ [] [752]) (S ?_)
    exact aJ h
   ·refine S ?_
    refine aF cs fun cs=>S ?_
    exact FHz_ h
theorem iSa_3{a0:Sc}{a1:Tt}{r:Tt}(h:iSa_1 a0 a1=some r):Sat ag 149 [((Sc.pv false) a0),((al false) a1)] ((al true) r):=by
 obtain⟨n,hn⟩:=ls_ h
 exact(iSa_2 n) _ _ _ hn

theorem imP_1{a0:Ft}{a1:Ft→Bool→Option (Ft×Bool)}{a1_s:Bool}{a1_id:FuncId}{a1_pat:List Bool}{a1_ps a1_p1 a1_p2:List PV}(a1_ok:∀ y0 s r,a1 y0 s=some r→SatH ag a1_id (((aj false) y0)::a1_p1) a1_p2 .ptr [] (.pv (B s)) (.pv (B r.2)) ((aj true) r.1))(a1_sp:sP_ a1_pat a1_ps=some (a1_p1,a1_p2))(a1_cz:CO_ a1_ps){r:Ft×Bool}(h:imP_ a0 a1 a1_s=some r):SatH ag 116 [((aj false) a0)] [] (.clo a1_id a1_pat) a1_ps (.pv (B a1_s)) (.pv (B r.2)) ((aj true) r.1):=by
 obtain⟨h,cs⟩:=Ro_ h
 unfold imP_ at h
 refine SHo_ (nt:=33) (rs:=[.cell 4 43]) (n:=100000) 1 Tryz.func116 rfl rfl rfl rfl rfl (bP rfl) (by decide) (by first | exact bP rfl | exact SC) (S ?_)
 refine rb_ h fun v12 q h=>ai [false] (icT_2 q) (S ?_)
 refine ae (DHa_ [5] [192]) (S ?_)
 refine aL (b:=false) (sz:=5) (es:=a0.Parts.map (aj false)) 17 SC fun hl17=>?_; rw[aB] at hl17
 refine aG (rl_ h) (fun i3 s3=>[(1,.hold (.clo a1_id a1_pat) a1_ps (.cv (.pv (B s3.1)))),(4,.box zab1),(5,.box (.node [(.pv (I a0.Op)),(.node [(.pv (Sx v12.Name)),(.own 192)]),(.pv (Sx a0.Var)),(.own 9309)])),(17,.val (.pv (.sl false 5 (a0.Parts.map (aj false))))),(18,.val (.pv (I (a0.Parts.length:Int)))),(19,.val (.pv (I (i3:Int)))),(20000,gh 1)]) (fun i3 s3=>[(192,(2,v12.Args.map (al true))),(9309,(5,s3.2.map (aj true)))]) (St.le_trans (Sln_ (x:=(.node [(.pv (I a0.Op)),(.node [(.pv (Sx v12.Name)),(.own 192)]),(.pv (Sx a0.Var)),(.pv (.sl true 5 []))])) 5 [3] 9309 5 NM SC SC SC) (Slm_ SC)) (fun i3 s3 hi h=>?_) (fun s3 h=>?_)
 ·have w:=ws_ i3
  refine S ?_
  refine aE cs fun cs=>S ?_
  refine rb_ h fun v21 q h=>av (aj false) q (S ?_)
  obtain⟨v27,hv27,h⟩:=rb_1 h
  refine HHc_ (r:=1) (hc:=.cv (.pv (B s3.1))) (pre:=[((aj false) v21)]) a1_pat a1_ps a1_p1 a1_p2 [(.pv ((aj false) v21))] [false] (a1_ok _ _ _ hv27) a1_sp a1_cz SC (S ?_)
  refine rb_ h fun v29 q h=>aO (aj true) (fun a=>bC _ a) q (S ?_)
  refine ae (DHa_ [] [432,433,448,464]) (S ?_)
  have h:=rs_ h
  refine aW ⟨_,h,?_⟩
  refine Slr_ 464 9309 ?_
  exact Slm_ SWx
 ·refine S ?_
  refine aF cs fun cs=>S ?_
  cases rs_ h
  exact RetHB.l SC

theorem isN_2(n:Nat):(∀ (a0:Ft) (a1:ByteArray) (a2:Tt) (r:Ft×Bool),isN_ n a0 a1 a2=some r→Sat ag 118 [((aj false) a0),(Sx a1),((al false) a2)] (.tup [((aj true) r.1),(B r.2)]))∧(∀ (a0:Ft) (b0:ByteArray) (b1:Tt) (b2:Bool) (r:Ft×Bool),is1_ n a0 b0 b1 b2=some r→SatH ag 148 [((aj false) a0),.ptr (Sx b0),.ptr ((al false) b1)] [] .ptr [] (.pv (B b2)) (.pv (B r.2)) ((aj true) r.1)):=by
 induction n with
 | zero=>exact⟨fun _ _ _ _ h=>by simp[isN_] at h,fun _ _ _ _ _ h=>by simp[is1_] at h⟩
 | succ n ih=>
  refine⟨fun a0 a1 a2 r h=>?_,fun a0 b0 b1 b2 r h=>?_⟩
  ·obtain⟨h,cs⟩:=Ro_ h
   rw[isN_] at h
   refine Sg_ 55 [.cell 6 43,.tmp 7] Tryz.func118 (h:=S ?_)
   refine rb_ h fun v12 q h=>ai [false] (iiQ_ q) (S ?_)
   refine ah cs h (fun cs h=>S ?_) fun cs h=>S ?_
   refine ah cs h (fun cs h=>S ?_) fun cs h=>S ?_
   rotate_left
   refine rb_ h fun v20 q h=>ai [false] (ifs_ q) (S ?_)
   refine rb_ h fun v22 q h=>ai [false,false] (sCS_2 q) (S ?_)
   refine ae (DHa_ [] [320]) (S ?_)
   refine ah cs h (fun cs h=>S ?_) fun cs h=>S ?_
   refine rb_ h fun v30 q h=>ai [false] (iiQ_ q) (S ?_)
   refine ah cs h (fun cs h=>S ?_) fun cs h=>S ?_
   refine rb_ h fun v35 q h=>ai [false,false] (ios_ q) (S ?_)
   refine ah cs h (fun cs h=>S ?_) fun cs h=>S ?_
   rotate_left
   refine MfH.hcl (r:=8) (x:=(.pv (B true))) [.tmp 4,.tmp 5] [] [(4,(Sx a1)),(5,((al false) a2))] [false,false,true] [(.ptr (Sx a1)),(.ptr ((al false) a2))] rfl rfl rfl SC (S ?_)
   obtain⟨v40,hv40,h⟩:=rb_1 h
   refine HandH.call (r:=8) (hc:=.cv (.pv (B true))) 1 [_] [] [(.pv ((aj false) a0))] [] [false] (imP_1 (a1_id:=148) (a1_pat:=[false,false,true]) (a1_ps:=[(.ptr (Sx a1)),(.ptr ((al false) a2))]) (a1_p1:=[(.ptr (Sx a1)),(.ptr ((al false) a2))]) (a1_p2:=[]) (a1_ok:=fun _ _ _ hh=>ih.2 _ _ _ _ _ hh) (a1_sp:=rfl) (a1_cz:=by simp only[COn_,COc_]) hv40) rfl rfl rfl SC (S ?_)
   refine ah cs h (fun cs h=>S ?_) fun cs h=>S ?_
   rotate_left 2
   refine MfH.hcl (r:=8) (x:=(.pv (B true))) [.tmp 4,.tmp 5] [] [(4,(Sx a1)),(5,((al false) a2))] [false,false,true] [(.ptr (Sx a1)),(.ptr ((al false) a2))] rfl rfl rfl SC (S ?_)
   obtain⟨v40,hv40,h⟩:=rb_1 h
   refine HandH.call (r:=8) (hc:=.cv (.pv (B true))) 1 [_] [] [(.pv ((aj false) a0))] [] [false] (imP_1 (a1_id:=148) (a1_pat:=[false,false,true]) (a1_ps:=[(.ptr (Sx a1)),(.ptr ((al false) a2))]) (a1_p1:=[(.ptr (Sx a1)),(.ptr ((al false) a2))]) (a1_p2:=[]) (a1_ok:=fun _ _ _ hh=>ih.2 _ _ _ _ _ hh) (a1_sp:=rfl) (a1_cz:=by simp only[COn_,COc_]) hv40) rfl rfl rfl SC (S ?_)
   refine ah cs h (fun cs h=>S ?_) fun cs h=>S ?_
   rotate_left 3
   refine ae (DHa_ [] []) (S ?_)
   refine rb_ h fun v30 q h=>ai [false] (iiQ_ q) (S ?_)
   refine ah cs h (fun cs h=>S ?_) fun cs h=>S ?_
   refine rb_ h fun v35 q h=>ai [false,false] (ios_ q) (S ?_)
   refine ah cs h (fun cs h=>S ?_) fun cs h=>S ?_
   rotate_left
   refine MfH.hcl (r:=8) (x:=(.pv (B true))) [.tmp 4,.tmp 5] [] [(4,(Sx a1)),(5,((al false) a2))] [false,false,true] [(.ptr (Sx a1)),(.ptr ((al false) a2))] rfl rfl rfl SC (S ?_)
   obtain⟨v40,hv40,h⟩:=rb_1 h
   refine HandH.call (r:=8) (hc:=.cv (.pv (B true))) 1 [_] [] [(.pv ((aj false) a0))] [] [false] (imP_1 (a1_id:=148) (a1_pat:=[false,false,true]) (a1_ps:=[(.ptr (Sx a1)),(.ptr ((al false) a2))]) (a1_p1:=[(.ptr (Sx a1)),(.ptr ((al false) a2))]) (a1_p2:=[]) (a1_ok:=fun _ _ _ hh=>ih.2 _ _ _ _ _ hh) (a1_sp:=rfl) (a1_cz:=by simp only[COn_,COc_]) hv40) rfl rfl rfl SC (S ?_)
   refine ah cs h (fun cs h=>S ?_) fun cs h=>S ?_
   rotate_left 2
   refine MfH.hcl (r:=8) (x:=(.pv (B true))) [.tmp 4,.tmp 5] [] [(4,(Sx a1)),(5,((al false) a2))] [false,false,true] [(.ptr (Sx a1)),(.ptr ((al false) a2))] rfl rfl rfl SC (S ?_)
   obtain⟨v40,hv40,h⟩:=rb_1 h
   refine HandH.call (r:=8) (hc:=.cv (.pv (B true))) 1 [_] [] [(.pv ((aj false) a0))] [] [false] (imP_1 (a1_id:=148) (a1_pat:=[false,false,true]) (a1_ps:=[(.ptr (Sx a1)),(.ptr ((al false) a2))]) (a1_p1:=[(.ptr (Sx a1)),(.ptr ((al false) a2))]) (a1_p2:=[]) (a1_ok:=fun _ _ _ hh=>ih.2 _ _ _ _ _ hh) (a1_sp:=rfl) (a1_cz:=by simp only[COn_,COc_]) hv40) rfl rfl rfl SC (S ?_)
   refine ah cs h (fun cs h=>S ?_) fun cs h=>S ?_
   rotate_left
   ·refine ae (DHa_ [] []) (S ?_)
    exact FHz_ h
   ·refine ae (DHa_ [] []) (S ?_)
    refine rb_ h fun v27 q h=>ai [false] (icF_2 q) (S ?_)
    exact FHz_ h
   ·exact FHz_ h
   rotate_left
   ·refine ae (DHa_ [] []) (S ?_)
    exact FHz_ h
   rotate_left
   ·refine ae (DHa_ [] []) (S ?_)
    exact FHz_ h
   ·refine rb_ h fun v27 q h=>ai [false] (icF_2 q) (S ?_)
    exact FHz_ h
   ·exact FHz_ h
   rotate_left
   ·refine ae (DHa_ [] []) (S ?_)
    exact FHz_ h
   all_goals
    refine rb_ h fun v51 q h=>ai [false,false] (iSa_3 q) (S ?_)
    refine ae (DHa_ [] []) (S ?_)
    exact FHz_ h
  ·obtain⟨h,cs⟩:=Ro_ h
   rw[is1_] at h
   refine SHo_ (nt:=20) (rs:=[.cell 5 43]) (n:=100000) 3 Tryz.func148 rfl rfl rfl rfl rfl (bP rfl) (by decide) (by first | exact bP rfl | exact SC) (S ?_)
   refine rb_ h fun v12 q h=>ai [false,false,false] (ih.1 _ _ _ _ q) (S ?_)
   refine ah cs h (fun cs h=>S ?_) fun cs h=>S ?_
   all_goals
    cases rs_ h
    exact RetHB.l SC
theorem iss_1{a0:Ft}{a1:ByteArray}{a2:Tt}{r:Ft×Bool}(h:is_1 a0 a1 a2=some r):Sat ag 118 [((aj false) a0),(Sx a1),((al false) a2)] (.tup [((aj true) r.1),(B r.2)]):=by
 obtain⟨n,hn⟩:=ls_ h
 exact(isN_2 n).1 _ _ _ _ hn
theorem is1_2{a0:Ft}{b0:ByteArray}{b1:Tt}{b2:Bool}{r:Ft×Bool}(h:is1_1 a0 b0 b1 b2=some r):SatH ag 148 [((aj false) a0),.ptr (Sx b0),.ptr ((al false) b1)] [] .ptr [] (.pv (B b2)) (.pv (B r.2)) ((aj true) r.1):=by
 obtain⟨n,hn⟩:=ls_ h
 exact(isN_2 n).2 _ _ _ _ _ hn

theorem iiF_6{a0:Ft}  {r:Ft×Bool}(h:iiF_1 a0=some r):Sat ag 119 [((aj false) a0)] (.tup [((aj false) r.1),(B r.2)]):=by
 obtain⟨h,cs⟩:=Ro_ h
 unfold iiF_1 at h
 refine Sg_ 9 [.cell 2 43,.tmp 3] Tryz.func119 (h:=S ?_)
 refine rb_ h fun v5 q h=>ai [false] (iIV_5 q) (S ?_)
 refine ah cs h (fun cs h=>S ?_) fun cs h=>S ?_
 ·exact FHz_1 h
 ·exact FHz_1 h

theorem iiF_4{a0:Ft}  {r:Ft×Bool}(h:iiF_1 a0=some r):Sat ag 119 [((aj true) a0)] (.tup [((aj true) r.1),(B r.2)]):=by
 obtain⟨h,cs⟩:=Ro_ h
 unfold iiF_1 at h
 refine Sg_ 9 [.cell 2 43,.tmp 3] Tryz.func119 (h:=S ?_)
 refine rb_ h fun v5 q h=>ai [false] (iIV_5 q) (S ?_)
 refine ah cs h (fun cs h=>S ?_) fun cs h=>S ?_
 ·exact FHz_ h
 ·exact FHz_ h

theorem iSF_1{a0:Ft}{a1:ByteArray}{a2:Tt}  {r:Ft×Bool}(h:iSF_ a0 a1 a2=some r):Sat ag 73 [((aj false) a0),(Sx a1),((al false) a2)] (.tup [((aj true) r.1),(B r.2)]):=by
 obtain⟨h,cs⟩:=Ro_ h
 unfold iSF_ at h
 refine Sg_ 38 [.cell 6 43,.tmp 7] Tryz.func73 (h:=S ?_)
 refine rb_ h fun v11 q h=>ai [false] (iIV_5 q) (S ?_)
 refine ah cs h (fun cs h=>S ?_) fun cs h=>S ?_
 refine rb_ h fun v15 q h=>ai [false] (iiV_1 q) (S ?_)
 refine ah cs h (fun cs h=>S ?_) fun cs h=>S ?_
 refine rb_ h fun v20 q h=>ai [false] (iIV_10 q) (S ?_)
 refine ah cs h (fun cs h=>S ?_) fun cs h=>S ?_
 refine rb_ h fun v28 q h=>ai [false,false,false] (iss_1 q) (S ?_)
 refine ah cs h (fun cs h=>S ?_) fun cs h=>S ?_
 ·refine rb_ h fun v35 q h=>ai [true] (iiF_4 q) (S ?_)
  exact FHz_ h
 all_goals
  exact FHz_ h

theorem iis_{a0:Sa}{a1:Dt}{a2:Ft}  {r:(List Sa)×Bool}(h:ii_ a0 a1 a2=some r):Sat ag 224 [((Sa.pv false) a0),((aq false) a1),((aj false) a2)] (.tup [(.sl true 2 (r.1.map (Sa.pv true))),(B r.2)]):=by
 obtain⟨h,cs⟩:=Ro_ h
 unfold ii_ at h
 refine Sg_ 59 [.tmp 6,.tmp 7] Tryz.func224 (h:=S ?_)
 refine rb_ h fun v14 q h=>ai [false] (imR_1 q) (S ?_)
 refine ah cs h (fun cs h=>S ?_) fun cs h=>S ?_
 refine rb_ h fun v33 q h=>av (aj false) q (S ?_)
 refine rb_ h fun v39 q h=>ai [false,false,false] (iSF_1 q) (S ?_)
 refine ae (DHa_ [8] [624,625]) (S ?_)
 refine ah cs h (fun cs h=>S ?_) fun cs h=>S ?_
 refine rb_ h fun v47 q h=>ai [false] (imO_1 q) (S ?_)
 refine ah cs h (fun cs h=>S ?_) fun cs h=>S ?_
 rotate_left 3
 refine rb_ h fun v20 q h=>ai [false] (iiV_1 q) (S ?_)
 refine ah cs h (fun cs h=>S ?_) fun cs h=>S ?_
 refine rb_ h fun v27 q h=>ai [false,false] (iiF_5 q) (S ?_)
 refine ah cs h (fun cs h=>S ?_) fun cs h=>S ?_
 rotate_left
 refine rb_ h fun v33 q h=>av (aj false) q (S ?_)
 refine rb_ h fun v39 q h=>ai [false,false,false] (iSF_1 q) (S ?_)
 refine ae (DHa_ [8] [624,625]) (S ?_)
 refine ah cs h (fun cs h=>S ?_) fun cs h=>S ?_
 refine rb_ h fun v47 q h=>ai [false] (imO_1 q) (S ?_)
 refine ah cs h (fun cs h=>S ?_) fun cs h=>S ?_
 all_goals
  exact FHz_ h

theorem ia1_1{a0:Int}{b0:Ft}  {r:List Ft}(h:ia1_ a0 b0=some r):Sat ag 225 [(I a0),.ptr ((aj false) b0)] (.sl true 5 (r.map (aj false))):=by
 obtain⟨h,cs⟩:=Ro_ h
 unfold ia1_ at h
 refine Sg_ 10 [.tmp 3] Tryz.func225 (h:=S ?_)
 refine rb_ h fun v7 q h=>av (aj false) q (S ?_)
 exact FHz_ h

theorem ia2_1{a0:Ft}{b0:Ft}  {r:Bool}(h:ia2_ a0 b0=some r):Sat ag 226 [((aj false) a0),.ptr ((aj false) b0)] (B r):=by
 obtain⟨h,cs⟩:=Ro_ h
 unfold ia2_ at h
 refine Sg_ 7 [.tmp 3] Tryz.func226 (h:=S ?_)
 refine rb_ h fun v6 q h=>ai [false,false] (isF_3 q) (S ?_)
 exact FHz_ h

theorem ias_{a0:Sa}{a1:Dt}  {r:(List Sa)×Bool}(h:ia_ a0 a1=some r):Sat ag 218 [((Sa.pv false) a0),((aq false) a1)] (.tup [(.sl false 2 (r.1.map (Sa.pv false))),(B r.2)]):=by
 obtain⟨h,cs⟩:=Ro_ h
 unfold ia_ at h
 refine Sg_ 147 [.tmp 4,.tmp 5] Tryz.func218 (h:=SB ?_)
 refine ah cs h (fun cs h=>SB ?_) fun cs h=>SB ?_
 refine ah cs h (fun cs h=>SB ?_) fun cs h=>SB ?_
 refine rb_ h fun v18 q h=>ai [false] (iiZ_ q) (SB ?_)
 refine ah cs h (fun cs h=>SB ?_) fun cs h=>SB ?_
 refine rb_ h fun v24 q h=>ai [false] (iIV_5 q) (SB ?_)
 refine ah cs h (fun cs h=>SB ?_) fun cs h=>SB ?_
 rotate_left 4
 refine rb_ h fun v38 q h=>ai [false,false,false] (iws_ q) (SB ?_)
 refine ah cs h (fun cs h=>SB ?_) fun cs h=>SB ?_
 refine rb_ h fun v44 q h=>ai [false,false] (isF_3 q) (SB ?_)
 refine ah cs h (fun cs h=>SB ?_) fun cs h=>SB ?_
 refine rb_ h fun v50 q h=>ai [false] (iiQ_3 q) (SB ?_)
 refine rb_ h fun v53 q h=>ai [false] (iiZ_ q) (SB ?_)
 refine ae (DHa_ [] []) (SB ?_)
 refine ah cs h (fun cs h=>SB ?_) fun cs h=>SB ?_
 refine rb_ h fun v60 q h=>ai [false,false] (imF_1 q) (SB ?_)
 refine ah cs h (fun cs h=>SB ?_) fun cs h=>SB ?_
 refine rb_ h fun v67 q h=>ai [false] (iiQ_3 q) (SB ?_)
 refine ah cs h (fun cs h=>SB ?_) fun cs h=>SB ?_
 rotate_left
 refine MfH.fr (SB ?_)
 refine ah cs h (fun cs h=>SB ?_) fun cs h=>SB ?_
 refine ah cs h (fun cs h=>SB ?_) fun cs h=>SB ?_
 rotate_left 2
 refine ah cs h (fun cs h=>SB ?_) fun cs h=>SB ?_
 rotate_left
 refine ah cs h (fun cs h=>SB ?_) fun cs h=>SB ?_
 rotate_left
 refine ah cs h (fun cs h=>SB ?_) fun cs h=>SB ?_
 rotate_left
 refine ah cs h (fun cs h=>SB ?_) fun cs h=>SB ?_
 rotate_left
 refine ah cs h (fun cs h=>SB ?_) fun cs h=>SB ?_
 rotate_left
 refine ah cs h (fun cs h=>SB ?_) fun cs h=>SB ?_
 rotate_left
 refine ah cs h (fun cs h=>SB ?_) fun cs h=>SB ?_
 rotate_left
 refine ah cs h (fun cs h=>SB ?_) fun cs h=>SB ?_
 ·refine rb_ h fun v135 q h=>ai [false] (SvO_ (res':=(.sl false 5 (v135.map (aj false)))) (ia1_1 q) (by simp only[vt_,vs_,va_,vl_,aD,RB,RS])) (SB ?_)
  refine rb_ h fun v138 q h=>ai [false] (SvO_ (res':=(.sl false 5 (v138.map (aj false)))) (ia1_1 q) (by simp only[vt_,vs_,va_,vl_,aD,RB,RS])) (SB ?_)
  refine OrR.l (SB ?_)
  exact FHz_1 h
 ·refine rb_ h fun v142 q h=>ai [false] (SvO_ (res':=(.sl false 5 (v142.map (aj false)))) (ia1_1 q) (by simp only[vt_,vs_,va_,vl_,aD,RB,RS])) (SB ?_)
  refine rb_ h fun v144 q h=>ai [false] (SvO_ (res':=(.sl false 5 (v144.map (aj false)))) (ia1_1 q) (by simp only[vt_,vs_,va_,vl_,aD,RB,RS])) (SB ?_)
  refine OrR.l (SB ?_)
  exact FHz_1 h
 rotate_left 2
 ·refine ae (DHa_ [] []) (SB ?_)
  exact FHz_1 h
 ·refine ae (DHa_ [] []) (SB ?_)
  exact FHz_1 h
 ·refine OrR.v [((aj false) a1.Cut)] (SB ?_)
  refine OrR.v [((aj false) a1.Cut)] (SB ?_)
  refine OrR.l (SB ?_)
  exact FHz_1 h
 rotate_left 3
 ·refine rb_ h fun v71 q h=>ai [false,false,false] (iis_ q) (SB ?_)
  exact FHz_1 h
 rotate_left
 ·refine MfH.fr (SB ?_)
  refine rb_ h fun v86 q h=>ai [false,false] (sCF_1 (fun _ _ hh=>ia2_1 hh) (by simp only[COn_,COc_]) q) (SB ?_)
  exact FHz_1 h
 rotate_left
 ·refine rb_ h fun v93 q h=>ai [false] (SvO_ (res':=(.sl false 5 (v93.map (aj false)))) (ia1_1 q) (by simp only[vt_,vs_,va_,vl_,aD,RB,RS])) (SB ?_)
  refine OrR.l (SB ?_)
  exact FHz_1 h
 ·refine rb_ h fun v99 q h=>ai [false] (SvO_ (res':=(.sl false 5 (v99.map (aj false)))) (ia1_1 q) (by simp only[vt_,vs_,va_,vl_,aD,RB,RS])) (SB ?_)
  refine OrR.l (SB ?_)
  exact FHz_1 h
 ·refine OrR.l (SB ?_)
  exact FHz_1 h
 ·refine rb_ h fun v111 q h=>ai [false] (SvO_ (res':=(.sl false 5 (v111.map (aj false)))) (ia1_1 q) (by simp only[vt_,vs_,va_,vl_,aD,RB,RS])) (SB ?_)
  refine rb_ h fun v114 q h=>ai [false] (SvO_ (res':=(.sl false 5 (v114.map (aj false)))) (ia1_1 q) (by simp only[vt_,vs_,va_,vl_,aD,RB,RS])) (SB ?_)
  refine OrR.l (SB ?_)
  exact FHz_1 h
 ·refine rb_ h fun v120 q h=>ai [false] (SvO_ (res':=(.sl false 5 (v120.map (aj false)))) (ia1_1 q) (by simp only[vt_,vs_,va_,vl_,aD,RB,RS])) (SB ?_)
  refine rb_ h fun v123 q h=>ai [false] (SvO_ (res':=(.sl false 5 (v123.map (aj false)))) (ia1_1 q) (by simp only[vt_,vs_,va_,vl_,aD,RB,RS])) (SB ?_)
  refine OrR.l (SB ?_)
  exact FHz_1 h
 ·refine OrR.l (SB ?_)
  exact FHz_1 h
 all_goals
  exact FHz_1 h

theorem iDr_2{a0:Dt}{a1:Bool}{a2:Int}  {r:Bool}(h:iDr_ a0 a1 a2=some r):Sat ag 151 [((aq false) a0),(B a1),(I a2)] (B r):=by
 obtain⟨h,cs⟩:=Ro_ h
 unfold iDr_ at h
 refine Sg_ 32 [.tmp 6] Tryz.func151 (h:=S ?_)
 refine ah cs h (fun cs h=>S ?_) fun cs h=>S ?_
 rotate_left
 refine rb_ h fun v15 q h=>ai [false] (imR_1 q) (S ?_)
 refine ah cs h (fun cs h=>S ?_) fun cs h=>S ?_
 rotate_left
 refine rb_ h fun v20 q h=>ai [false] (imO_1 q) (S ?_)
 refine ah cs h (fun cs h=>S ?_) fun cs h=>S ?_
 all_goals
  exact FHz_ h

theorem iDr_3{a0:Dt}{a1:List Ft}{a2:Bool}  {r:List Ft}(h:iDr_1 a0 a1 a2=some r):Sat ag 220 [((aq false) a0),(.sl false 5 (a1.map (aj false))),(B a2)] (.sl true 5 (r.map (aj false))):=by
 obtain⟨h,cs⟩:=Ro_ h
 unfold iDr_1 at h
 refine Sg_ 29 [.tmp 6] Tryz.func220 (h:=S ?_)
 refine aL (b:=false) (sz:=5) (es:=a1.map (aj false)) 1 SC fun hl1=>?_; rw[aB] at hl1
 refine aG (rl_ h) (fun i3 s3=>[(2,.val (.pv (B a2))),(3,.box (.pv ((aq false) a0))),(7,.val (.own 160)),(11,.val (.pv (.sl false 5 (a1.map (aj false))))),(12,.val (.pv (I (a1.length:Int)))),(13,.val (.pv (I (i3:Int))))]) (fun i3 s3=>[(160,(5,s3.map (aj false)))]) (Slm_ SC) (fun i3 s3 hi h=>?_) (fun s3 h=>?_)
 ·have w:=ws_ i3
  refine S ?_
  refine aE cs fun cs=>S ?_
  refine rb_ h fun v16 q h=>av (aj false) q (S ?_)
  refine rb_ h fun v21 q h=>ai [false,false,false] (iDr_2 q) (S ?_)
  refine ah cs h (fun cs h=>S ?_) fun cs h=>S ?_
  ·exact aJ h
  ·refine rb_ h fun v26 q h=>aO (aj false) (fun a=>bC _ a) q (S ?_)
   have h:=rs_ h
   refine aW ⟨_,h,?_⟩
   refine Slr_ 416 160 ?_
   exact Slm_ SWx
 ·refine S ?_
  refine aF cs fun cs=>S ?_
  exact FHz_ h

theorem sGS_1{a1:Int}  {r:List Ft}(h:sGS_ a1=some r):Sat ag 227 [(.lit (.slice none 0 0)),(I a1)] (.sl true 5 (r.map (aj false))):=by
 obtain⟨h,cs⟩:=Ro_ h
 unfold sGS_ at h
 refine Son_ (sz:=5) (nt:=27) (rs:=[.tmp 4]) (n:=100000) Tryz.func227 rfl rfl rfl rfl (by simp) (S ?_)
 refine ah cs h (fun cs h=>S ?_) fun cs h=>S ?_
 ·exact rn_ h
 ·refine ah cs h (fun cs h=>S ?_) fun cs h=>S ?_
  ·refine rb_ h fun n22 q h=>AppzH.mk q (S ?_)
   obtain⟨v25,hv25,h⟩:=rb_1 h
   refine SlcOH.mk (f:=(aj true)) hv25 SC ?_
   obtain rfl:=sn_4 hv25
   refine S ?_
   refine S ?_
   exact FHz_ h
  ·exact FHz_ h

end Go.Proofs.YtejbpjegkfbncaaGreat
