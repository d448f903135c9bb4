/- Lemmas of the proof; each says what it shows. -/
import Derived.Test.YtjpljobgioglmaaGm
import Derived.Test.YtjpljobgioglmaaGf
import Derived.Test.YtjpljobgioglmaaGinv
set_option linter.unusedSimpArgs false
set_option linter.unusedVariables false
set_option linter.defProp false
set_option maxRecDepth 4000
namespace Go.Proofs.Ytjpljobgioglmaa
open Go.Av
open And renaming intro→aa
open CallH renaming mk→aw
open CondH renaming run→ap,t2→aS,f2→aW
open DrawH renaming ak→aP
open EldH renaming mk→a8
open FinH renaming l→ah
open IdxH renaming mk→az
open List renaming length_map→aI,length_append→aH
open Mg renaming know_sl→bc,forN→aY
open MgF renaming reg→aR
open RdH renaming mk→aF
open Run renaming of0→aC
open Sa renaming pv→al
open Sat renaming of_m→aE
open Sb renaming pv→aj
open St renaming le_mk2→au
open Try renaming prog→ag
open VSeq renaming step→ai,nil→aQ
set_option maxHeartbeats 4000000
theorem szIntS_sat{a0:List Int}{a1:Int}  {r:Int}(h:szIntS a0 a1=some r):Sat ag 47 [(.sl false 1 (a0.map I)),(I a1)] (I r):=by
 obtain⟨h,cs⟩:=aC h
 unfold szIntS at h
 refine aE (nt:=12) (rs:=[.tmp 4]) (n:=100000) Try.func47 rfl rfl rfl rfl (by simp) (S ?_)
 refine ap cs h (fun cs h=>S ?_) (fun cs h=>S ?_)
 ·cases run_some h
  exact ah SC
 ·cases run_some h
  exact ah SC

theorem szSizeEdgeS_sat{a0:List Sa}{a1:Int}  {r:Int}(h:szSizeEdgeS a0 a1=some r):Sat ag 106 [(.sl false 3 (a0.map (al false))),(I a1)] (I r):=by
 obtain⟨h,cs⟩:=aC h
 unfold szSizeEdgeS at h
 refine aE (nt:=12) (rs:=[.tmp 4]) (n:=100000) Try.func106 rfl rfl rfl rfl (by simp) (S ?_)
 refine ap cs h (fun cs h=>S ?_) (fun cs h=>S ?_)
 ·cases run_some h
  exact ah SC
 ·cases run_some h
  exact ah SC

theorem szSizeGraph_sat{a0:Sb}{a1:Int}  {r:Int}(h:szSizeGraph a0 a1=some r):Sat ag 90 [((aj false) a0),(I a1)] (I r):=by
 obtain⟨h,cs⟩:=aC h
 unfold szSizeGraph at h
 refine aE (nt:=12) (rs:=[.tmp 4]) (n:=100000) Try.func90 rfl rfl rfl rfl (by simp) (S ?_)
 obtain⟨v8,hv8,h⟩:=run_bind h
 refine aw [false,false] (szSizeEdgeS_sat hv8) SC (S ?_)
 refine ap cs h (fun cs h=>S ?_) (fun cs h=>S ?_)
 ·cases run_some h
  exact ah SC
 ·cases run_some h
  exact ah SC

theorem szSizeGraphS_sat{a0:List Sb}{a1:Int}  {r:Int}(h:szSizeGraphS a0 a1=some r):Sat ag 48 [(.sl false 3 (a0.map (aj false))),(I a1)] (I r):=by
 obtain⟨h,cs⟩:=aC h
 unfold szSizeGraphS at h
 refine aE (nt:=27) (rs:=[.tmp 4]) (n:=100000) Try.func48 rfl rfl rfl rfl (by simp) (S ?_)
 refine ap cs h (fun cs h=>S ?_) (fun cs h=>S ?_)
 ·cases run_some h
  exact ah SC
 ·refine bc (b:=false) (sz:=3) (es:=a0.map (aj false)) 0 SC fun hl0=>?_; rw[aI] at hl0
  replace h:=run_loop h
  refine aY h (fun i5 s5=>[(0,.val (.pv (.sl false 3 (a0.map (aj false))))),(1,.val (.pv (I s5))),(5,.val (.pv (I (i5:Int))))]) (fun i5 s5=>[]) (au SC) (fun i5 s5 hi h=>?_) (fun s5 h=>?_)
  ·have w:=wrap_succ (i:=i5) (by omega)
   refine S ?_
   refine aS cs (by omega) (fun cs=>S ?_)
   obtain⟨v20,hv20,h⟩:=run_bind h
   refine az (f:=(aj false)) hv20 SC (S ?_)
   obtain⟨v23,hv23,h⟩:=run_bind h
   refine aw [false,false] (szSizeGraph_sat hv23) SC (S ?_)
   refine ap cs h (fun cs h=>S ?_) (fun cs h=>S ?_)
   ·cases run_some h
    exact ah SC
   ·have h:=run_some h
    refine aF ⟨_,h,?_⟩
    exact au SWx
  ·refine S ?_
   refine aW cs (by omega) (fun cs=>S ?_)
   cases run_some h
   exact ah SC

theorem szCyclicProof_sat{a0:Ct}{a1:Int}  {r:Int}(h:szCyclicProof a0 a1=some r):Sat ag 16 [((Ct.pv false) a0),(I a1)] (I r):=by
 obtain⟨h,cs⟩:=aC h
 unfold szCyclicProof at h
 refine aE (nt:=18) (rs:=[.tmp 4]) (n:=100000) Try.func16 rfl rfl rfl rfl (by simp) (S ?_)
 obtain⟨v8,hv8,h⟩:=run_bind h
 refine aw [false,false] (szIntS_sat hv8) SC (S ?_)
 refine ap cs h (fun cs h=>S ?_) (fun cs h=>S ?_)
 ·cases run_some h
  exact ah SC
 ·obtain⟨v14,hv14,h⟩:=run_bind h
  refine aw [false,false] (szSizeGraphS_sat hv14) SC (S ?_)
  refine ap cs h (fun cs h=>S ?_) (fun cs h=>S ?_)
  ·cases run_some h
   exact ah SC
  ·cases run_some h
   exact ah SC

theorem toIntS_sat{a0:List Int}  {r:List Int}(h:toIntS a0=some r):Sat ag 51 [(.sl false 1 (a0.map I))] (.sl true 1 (r.map I)):=by
 obtain⟨h,cs⟩:=aC h
 unfold toIntS at h
 refine aE (nt:=22) (rs:=[.tmp 2]) (n:=100000) Try.func51 rfl rfl rfl rfl (by simp) (S ?_)
 obtain⟨n7,hn7,h⟩:=run_bind h
 refine MknH.mk hn7 (S ?_)
 refine bc (b:=false) (sz:=1) (es:=a0.map I) 0 SC fun hl0=>?_; rw[aI] at hl0
 replace h:=run_loop h
 refine aY h (fun i3 s3=>[(0,.val (.pv (.sl false 1 (a0.map I)))),(3,.val (.own 112)),(4,.val (.pv (I (i3:Int))))]) (fun i3 s3=>[(112,(1,s3.map I))]) (au SC) (fun i3 s3 hi h=>?_) (fun s3 h=>?_)
 ·have w:=wrap_succ (i:=i3) (by omega)
  refine S ?_
  refine aS cs (by omega) (fun cs=>S ?_)
  obtain⟨v18,hv18,h⟩:=run_bind h
  refine az (f:=I) hv18 SC (S ?_)
  obtain⟨v20,hv20,h⟩:=run_bind h
  refine az (f:=I) hv20 SC (S ?_)
  obtain⟨w2,hw2,h⟩:=run_bind h
  refine a8 (f:=I) hw2 rfl SC (S ?_)
  have h:=run_some h
  refine aF ⟨_,h,?_⟩
  exact au SWx
 ·refine S ?_
  refine aW cs (by omega) (fun cs=>S ?_)
  cases run_some h
  exact ah SC

theorem toSizeEdge_sat{a0:Sa}  {r:Sa}(h:toSizeEdge a0=some r):Sat ag 113 [((al false) a0)] ((al false) r):=by
 obtain⟨h,cs⟩:=aC h
 unfold toSizeEdge at h
 refine aE (nt:=14) (rs:=[.cell 2 72]) (n:=100000) Try.func113 rfl rfl rfl rfl (by simp) (S ?_)
 cases run_some h
 exact ah SC

theorem toSizeEdgeS_sat{a0:List Sa}  {r:List Sa}(h:toSizeEdgeS a0=some r):Sat ag 107 [(.sl false 3 (a0.map (al false)))] (.sl true 3 (r.map (al false))):=by
 obtain⟨h,cs⟩:=aC h
 unfold toSizeEdgeS at h
 refine aE (nt:=23) (rs:=[.tmp 2]) (n:=100000) Try.func107 rfl rfl rfl rfl (by simp) (S ?_)
 obtain⟨n7,hn7,h⟩:=run_bind h
 refine MknH.mk hn7 (S ?_)
 refine bc (b:=false) (sz:=3) (es:=a0.map (al false)) 0 SC fun hl0=>?_; rw[aI] at hl0
 replace h:=run_loop h
 refine aY h (fun i3 s3=>[(0,.val (.pv (.sl false 3 (a0.map (al false))))),(3,.val (.own 112)),(4,.val (.pv (I (i3:Int))))]) (fun i3 s3=>[(112,(3,s3.map (al false)))]) (au SC) (fun i3 s3 hi h=>?_) (fun s3 h=>?_)
 ·have w:=wrap_succ (i:=i3) (by omega)
  refine S ?_
  refine aS cs (by omega) (fun cs=>S ?_)
  obtain⟨v18,hv18,h⟩:=run_bind h
  refine az (f:=(al false)) hv18 SC (S ?_)
  obtain⟨v20,hv20,h⟩:=run_bind h
  refine aw [false] (toSizeEdge_sat hv20) SC (S ?_)
  obtain⟨v21,hv21,h⟩:=run_bind h
  refine az (f:=(al false)) hv21 SC (S ?_)
  obtain⟨w2,hw2,h⟩:=run_bind h
  refine a8 (f:=(al false)) hw2 rfl SC (S ?_)
  have h:=run_some h
  refine aF ⟨_,h,?_⟩
  exact au SWx
 ·refine S ?_
  refine aW cs (by omega) (fun cs=>S ?_)
  cases run_some h
  exact ah SC

theorem toSizeGraph_sat{a0:Sb}  {r:Sb}(h:toSizeGraph a0=some r):Sat ag 92 [((aj false) a0)] ((aj true) r):=by
 obtain⟨h,cs⟩:=aC h
 unfold toSizeGraph at h
 refine aE (nt:=15) (rs:=[.cell 2 26]) (n:=100000) Try.func92 rfl rfl rfl rfl (by simp) (S ?_)
 obtain⟨v12,hv12,h⟩:=run_bind h
 refine aw [false] (toSizeEdgeS_sat hv12) SC (S ?_)
 cases run_some h
 exact ah SC

theorem toSizeGraphS_sat{a0:List Sb}  {r:List Sb}(h:toSizeGraphS a0=some r):Sat ag 52 [(.sl false 3 (a0.map (aj false)))] (.sl true 3 (r.map (aj true))):=by
 obtain⟨h,cs⟩:=aC h
 unfold toSizeGraphS at h
 refine aE (nt:=23) (rs:=[.tmp 2]) (n:=100000) Try.func52 rfl rfl rfl rfl (by simp) (S ?_)
 obtain⟨n7,hn7,h⟩:=run_bind h
 refine MknH.mk hn7 (S ?_)
 refine bc (b:=false) (sz:=3) (es:=a0.map (aj false)) 0 SC fun hl0=>?_; rw[aI] at hl0
 replace h:=run_loop h
 refine aY h (fun i3 s3=>[(0,.val (.pv (.sl false 3 (a0.map (aj false))))),(3,.val (.own 112)),(4,.val (.pv (I (i3:Int))))]) (fun i3 s3=>[(112,(3,s3.map (aj true)))]) (au SC) (fun i3 s3 hi h=>?_) (fun s3 h=>?_)
 ·have w:=wrap_succ (i:=i3) (by omega)
  refine S ?_
  refine aS cs (by omega) (fun cs=>S ?_)
  obtain⟨v18,hv18,h⟩:=run_bind h
  refine az (f:=(aj false)) hv18 SC (S ?_)
  obtain⟨v20,hv20,h⟩:=run_bind h
  refine aw [false] (toSizeGraph_sat hv20) SC (S ?_)
  obtain⟨v21,hv21,h⟩:=run_bind h
  refine az (f:=(aj true)) hv21 SC (S ?_)
  obtain⟨w2,hw2,h⟩:=run_bind h
  refine a8 (f:=(aj true)) hw2 rfl SC (S ?_)
  have h:=run_some h
  refine aF ⟨_,h,?_⟩
  exact au SWx
 ·refine S ?_
  refine aW cs (by omega) (fun cs=>S ?_)
  cases run_some h
  exact ah SC

theorem toCyclicProof_sat{a0:Ct}  {r:Ct}(h:toCyclicProof a0=some r):Sat ag 18 [((Ct.pv false) a0)] ((Ct.pv true) r):=by
 obtain⟨h,cs⟩:=aC h
 unfold toCyclicProof at h
 refine aE (nt:=13) (rs:=[.cell 2 36]) (n:=100000) Try.func18 rfl rfl rfl rfl (by simp) (S ?_)
 obtain⟨v6,hv6,h⟩:=run_bind h
 refine aw [false] (toIntS_sat hv6) SC (S ?_)
 obtain⟨v10,hv10,h⟩:=run_bind h
 refine aw [false] (toSizeGraphS_sat hv10) SC (S ?_)
 cases run_some h
 exact ah SC

theorem spec_l1In_sat{a0:Int}{a1:Int}{a2:Int}  {r:Bool}(h:spec_l1In a0 a1 a2=some r):Sat ag 74 [(I a0),(I a1),(I a2)] (B r):=by
 obtain⟨h,cs⟩:=aC h
 unfold spec_l1In at h
 refine aE (nt:=15) (rs:=[.tmp 6]) (n:=100000) Try.func74 rfl rfl rfl rfl (by simp) (S ?_)
 refine ap cs h (fun cs h=>S ?_) (fun cs h=>S ?_)
 ·cases run_some h
  exact ah SC
 ·cases run_some h
  exact ah SC

theorem spec_l24Graph_sat{a0:Sb}  {r:Bool}(h:spec_l24Graph a0=some r):Sat ag 40 [((aj false) a0)] (B r):=by
 obtain⟨h,cs⟩:=aC h
 unfold spec_l24Graph at h
 refine aE (nt:=64) (rs:=[.tmp 2]) (n:=100000) Try.func40 rfl rfl rfl rfl (by simp) (S ?_)
 obtain⟨v7,hv7,h⟩:=run_bind h
 refine aw [false,false,false] (spec_l1In_sat hv7) SC (S ?_)
 refine ap cs h (fun cs h=>S ?_) (fun cs h=>S ?_)
 ·obtain⟨v12,hv12,h⟩:=run_bind h
  refine aw [false,false,false] (spec_l1In_sat hv12) SC (S ?_)
  refine ap cs h (fun cs h=>S ?_) (fun cs h=>S ?_)
  ·refine Mg.know_val2 (b:=false) (sz:=3) (es:=a0.Edges.map (al false)) (x:=(.pv ((aj false) a0))) 0 [2] SC fun hl0=>?_; rw[aI] at hl0
   replace h:=run_loop h
   refine aY h (fun i4 s4=>[(1,.box (.pv ((aj false) a0))),(3,.val (.pv (I (i4:Int))))]) (fun i4 s4=>[]) (au SC) (fun i4 s4 hi h=>?_) (fun s4 h=>?_)
   ·have w:=wrap_succ (i:=i4) (by omega)
    refine S ?_
    refine aS cs (by omega) (fun cs=>S ?_)
    obtain⟨v25,hv25,h⟩:=run_bind h
    refine az (f:=(al false)) hv25 SC (S ?_)
    obtain⟨v29,hv29,h⟩:=run_bind h
    refine aw [false,false,false] (spec_l1In_sat hv29) SC (S ?_)
    refine ap cs h (fun cs h=>S ?_) (fun cs h=>S ?_)
    ·obtain⟨v34,hv34,h⟩:=run_bind h
     refine aw [false,false,false] (spec_l1In_sat hv34) SC (S ?_)
     refine ap cs h (fun cs h=>S ?_) (fun cs h=>S ?_)
     ·refine ap cs h (fun cs h=>S ?_) (fun cs h=>S ?_)
      ·obtain⟨v44,hv44,h⟩:=run_bind h
       refine az (f:=(al false)) hv44 SC (S ?_)
       obtain⟨v52,hv52,h⟩:=run_bind h
       refine az (f:=(al false)) hv52 SC (S ?_)
       refine aa (aP [] []) (S ?_)
       refine ap cs h (fun cs h=>S ?_) (fun cs h=>S ?_)
       ·cases run_some h
        exact ah SC
       ·have h:=run_some h
        refine aF ⟨_,h,?_⟩
        exact au SWx
      ·refine aa (aP [] []) (S ?_)
       have h:=run_some h
       refine aF ⟨_,h,?_⟩
       exact au SWx
     ·cases run_some h
      exact ah SC
    ·cases run_some h
     exact ah SC
   ·refine S ?_
    refine aW cs (by omega) (fun cs=>S ?_)
    cases run_some h
    exact ah SC
  ·cases run_some h
   exact ah SC
 ·cases run_some h
  exact ah SC

theorem spec_l24Good_sat{a0:Ct}  {r:Bool}(h:spec_l24Good a0=some r):Sat ag 45 [((Ct.pv false) a0)] (B r):=by
 obtain⟨h,cs⟩:=aC h
 unfold spec_l24Good at h
 refine aE (nt:=94) (rs:=[.tmp 2]) (n:=100000) Try.func45 rfl rfl rfl rfl (by simp) (S ?_)
 obtain⟨v12,hv12,h⟩:=run_bind h
 refine aw [false,false,false] (spec_l1In_sat hv12) SC (S ?_)
 refine ap cs h (fun cs h=>S ?_) (fun cs h=>S ?_)
 ·refine ap cs h (fun cs h=>S ?_) (fun cs h=>S ?_)
  ·cases run_some h
   exact ah SC
  ·refine bc (b:=false) (sz:=1) (es:=a0.Arities.map I) 9 SC fun hl9=>?_; rw[aI] at hl9
   replace h:=run_loop h
   refine aY h (fun i5 s5=>[(1,.box (.pv ((Ct.pv false) a0))),(3,.val (.pv (I (a0.Arities.length:Int)))),(4,.val (.pv (I (i5:Int))))]) (fun i5 s5=>[]) (au SC) (fun i5 s5 hi h=>?_) (fun s5 h=>?_)
   ·have w:=wrap_succ (i:=i5) (by omega)
    refine S ?_
    refine aS cs (by omega) (fun cs=>S ?_)
    obtain⟨v28,hv28,h⟩:=run_bind h
    refine az (f:=I) hv28 SC (S ?_)
    obtain⟨v30,hv30,h⟩:=run_bind h
    refine aw [false,false,false] (spec_l1In_sat hv30) SC (S ?_)
    refine ap cs h (fun cs h=>S ?_) (fun cs h=>S ?_)
    ·have h:=run_some h
     refine aF ⟨_,h,?_⟩
     exact au SWx
    ·cases run_some h
     exact ah SC
   ·refine S ?_
    refine aW cs (by omega) (fun cs=>S ?_)
    refine Mg.know_box2 (b:=false) (sz:=3) (es:=a0.Calls.map (aj false)) (x:=(.pv ((Ct.pv false) a0))) 1 [1] SC fun hl1=>?_; rw[aI] at hl1
    replace h:=run_loop h
    refine aY h (fun i10 s10=>[(1,.box (.pv ((Ct.pv false) a0))),(3,.val (.pv (I (a0.Arities.length:Int)))),(5,.val (.pv (I (i10:Int))))]) (fun i10 s10=>[]) (au SC) (fun i10 s10 hi h=>?_) (fun s10 h=>?_)
    ·have w:=wrap_succ (i:=i10) (by omega)
     refine S ?_
     refine aS cs (by omega) (fun cs=>S ?_)
     obtain⟨v42,hv42,h⟩:=run_bind h
     refine az (f:=(aj false)) hv42 SC (S ?_)
     obtain⟨v45,hv45,h⟩:=run_bind h
     refine aw [false] (spec_l24Graph_sat hv45) SC (S ?_)
     refine ap cs h (fun cs h=>S ?_) (fun cs h=>S ?_)
     ·refine ap cs h (fun cs h=>S ?_) (fun cs h=>S ?_)
      ·cases run_some h
       exact ah SC
      ·refine ap cs h (fun cs h=>S ?_) (fun cs h=>S ?_)
       ·cases run_some h
        exact ah SC
       ·refine Mg.know_box2 (b:=false) (sz:=3) (es:=v42.Edges.map (al false)) (x:=(.pv ((aj false) v42))) 6 [2] SC fun hl6=>?_; rw[aI] at hl6
        replace h:=run_loop h
        refine aY h (fun i16 s16=>[(1,.box (.pv ((Ct.pv false) a0))),(3,.val (.pv (I (a0.Arities.length:Int)))),(5,.val (.pv (I (i10:Int)))),(6,.box (.pv ((aj false) v42))),(7,.val (.pv (I (i16:Int))))]) (fun i16 s16=>[]) (au SC) (fun i16 s16 hi h=>?_) (fun s16 h=>?_)
        ·have w:=aa (wrap_succ (i:=i16) (by omega)) w
         refine S ?_
         refine aS cs (by omega) (fun cs=>S ?_)
         obtain⟨v69,hv69,h⟩:=run_bind h
         refine az (f:=(al false)) hv69 SC (S ?_)
         obtain⟨v76,hv76,h⟩:=run_bind h
         refine az (f:=I) hv76 SC (S ?_)
         refine ap cs h (fun cs h=>S ?_) (fun cs h=>S ?_)
         ·refine aa (aP [] []) (S ?_)
          cases run_some h
          exact ah SC
         ·obtain⟨v83,hv83,h⟩:=run_bind h
          refine az (f:=(al false)) hv83 SC (S ?_)
          obtain⟨v90,hv90,h⟩:=run_bind h
          refine az (f:=I) hv90 SC (S ?_)
          refine aa (aP [] []) (S ?_)
          refine ap cs h (fun cs h=>S ?_) (fun cs h=>S ?_)
          ·cases run_some h
           exact ah SC
          ·have h:=run_some h
           refine aF ⟨_,h,?_⟩
           exact au SWx
        ·refine S ?_
         refine aW cs (by omega) (fun cs=>S ?_)
         have h:=run_some h
         refine aF ⟨_,h,?_⟩
         exact au SWx
     ·cases run_some h
      exact ah SC
    ·refine S ?_
     refine aW cs (by omega) (fun cs=>S ?_)
     cases run_some h
     exact ah SC
 ·cases run_some h
  exact ah SC

theorem spec_l24Same_sat{a0:Sb}{a1:Sb}  {r:Bool}(h:spec_l24Same a0 a1=some r):Sat ag 91 [((aj false) a0),((aj false) a1)] (B r):=by
 obtain⟨h,cs⟩:=aC h
 unfold spec_l24Same at h
 refine aE (nt:=45) (rs:=[.tmp 4]) (n:=100000) Try.func91 rfl rfl rfl rfl (by simp) (S ?_)
 refine ap cs h (fun cs h=>S ?_) (fun cs h=>S ?_)
 ·refine ap cs h (fun cs h=>S ?_) (fun cs h=>S ?_)
  ·refine ap cs h (fun cs h=>S ?_) (fun cs h=>S ?_)
   ·refine bc (b:=false) (sz:=3) (es:=a0.Edges.map (al false)) 20 SC fun hl20=>?_; rw[aI] at hl20
    replace h:=run_loop h
    refine aY h (fun i4 s4=>[(2,.box (.pv ((aj false) a0))),(3,.box (.pv ((aj false) a1))),(5,.val (.pv (I (i4:Int))))]) (fun i4 s4=>[]) (au SC) (fun i4 s4 hi h=>?_) (fun s4 h=>?_)
    ·have w:=wrap_succ (i:=i4) (by omega)
     refine S ?_
     refine aS cs (by omega) (fun cs=>S ?_)
     obtain⟨v37,hv37,h⟩:=run_bind h
     refine az (f:=(al false)) hv37 SC (S ?_)
     obtain⟨v42,hv42,h⟩:=run_bind h
     refine az (f:=(al false)) hv42 SC (S ?_)
     refine aa (aP [] []) (S ?_)
     refine ap cs h (fun cs h=>S ?_) (fun cs h=>S ?_)
     ·have h:=run_some h
      refine aF ⟨_,h,?_⟩
      exact au SWx
     ·cases run_some h
      exact ah SC
    ·refine S ?_
     refine aW cs (by omega) (fun cs=>S ?_)
     cases run_some h
     exact ah SC
   ·cases run_some h
    exact ah SC
  ·cases run_some h
   exact ah SC
 ·cases run_some h
  exact ah SC

theorem spec_l24At_sat{a0:List Sb}{a1:Sb}  {r:Int}(h:spec_l24At a0 a1=some r):Sat ag 87 [(.sl false 3 (a0.map (aj false))),((aj false) a1)] (I r):=by
 obtain⟨h,cs⟩:=aC h
 unfold spec_l24At at h
 refine aE (nt:=19) (rs:=[.tmp 4]) (n:=100000) Try.func87 rfl rfl rfl rfl (by simp) (S ?_)
 refine bc (b:=false) (sz:=3) (es:=a0.map (aj false)) 0 SC fun hl0=>?_; rw[aI] at hl0
 replace h:=run_loop h
 refine aY h (fun i2 s2=>[(0,.val (.pv (.sl false 3 (a0.map (aj false))))),(3,.box (.pv ((aj false) a1))),(5,.val (.pv (I (i2:Int))))]) (fun i2 s2=>[]) (au SC) (fun i2 s2 hi h=>?_) (fun s2 h=>?_)
 ·have w:=wrap_succ (i:=i2) (by omega)
  refine S ?_
  refine aS cs (by omega) (fun cs=>S ?_)
  obtain⟨v14,hv14,h⟩:=run_bind h
  refine az (f:=(aj false)) hv14 SC (S ?_)
  obtain⟨v17,hv17,h⟩:=run_bind h
  refine aw [false,false] (spec_l24Same_sat hv17) SC (S ?_)
  refine aa (aP [] []) (S ?_)
  refine ap cs h (fun cs h=>S ?_) (fun cs h=>S ?_)
  ·cases run_some h
   exact ah SC
  ·have h:=run_some h
   refine aF ⟨_,h,?_⟩
   exact au SWx
 ·refine S ?_
  refine aW cs (by omega) (fun cs=>S ?_)
  cases run_some h
  exact ah SC

theorem spec_l24Own_sat{a0:Sb}  {r:Sb}(h:spec_l24Own a0=some r):Sat ag 88 [((aj false) a0)] ((aj true) r):=by
 obtain⟨h,cs⟩:=aC h
 unfold spec_l24Own at h
 refine aE (nt:=12) (rs:=[.cell 2 26]) (n:=100000) Try.func88 rfl rfl rfl rfl (by simp) (S ?_)
 obtain⟨v10,hv10,h⟩:=run_bind h
 refine AppH.mk (f:=(al false)) (fun a=>Sa.psize _ a) hv10 SC SC (S ?_)
 refine aa (aP [] [112,160]) (S ?_)
 cases run_some h
 exact ah SC

theorem spec_l24Level_sat{a0:Sb}{a1:Int}{a2:Int}  {r:Int}(h:spec_l24Level a0 a1 a2=some r):Sat ag 75 [((aj false) a0),(I a1),(I a2)] (I r):=by
 obtain⟨h,cs⟩:=aC h
 unfold spec_l24Level at h
 refine aE (nt:=39) (rs:=[.tmp 6]) (n:=100000) Try.func75 rfl rfl rfl rfl (by simp) (S ?_)
 refine Mg.know_val2 (b:=false) (sz:=3) (es:=a0.Edges.map (al false)) (x:=(.pv ((aj false) a0))) 0 [2] SC fun hl0=>?_; rw[aI] at hl0
 replace h:=run_loop h
 refine aY h (fun i2 s2=>[(1,.val (.pv (I a1))),(2,.val (.pv (I a2))),(3,.box (.pv ((aj false) a0))),(7,.val (.pv (I (i2:Int))))]) (fun i2 s2=>[]) (au SC) (fun i2 s2 hi h=>?_) (fun s2 h=>?_)
 ·have w:=wrap_succ (i:=i2) (by omega)
  refine S ?_
  refine aS cs (by omega) (fun cs=>S ?_)
  obtain⟨v18,hv18,h⟩:=run_bind h
  refine az (f:=(al false)) hv18 SC (S ?_)
  refine ap cs h (fun cs h=>S ?_) (fun cs h=>S ?_)
  ·obtain⟨v27,hv27,h⟩:=run_bind h
   refine az (f:=(al false)) hv27 SC (S ?_)
   refine ap cs h (fun cs h=>S ?_) (fun cs h=>S ?_)
   ·obtain⟨v36,hv36,h⟩:=run_bind h
    refine az (f:=(al false)) hv36 SC (S ?_)
    refine ap cs h (fun cs h=>S ?_) (fun cs h=>S ?_)
    ·cases run_some h
     exact ah SC
    ·cases run_some h
     exact ah SC
   ·have h:=run_some h
    refine aF ⟨_,h,?_⟩
    exact au SWx
  ·have h:=run_some h
   refine aF ⟨_,h,?_⟩
   exact au SWx
 ·refine S ?_
  refine aW cs (by omega) (fun cs=>S ?_)
  cases run_some h
  exact ah SC

theorem spec_l1Most_sat{a0:Int}{a1:Int}  {r:Int}(h:spec_l1Most a0 a1=some r):Sat ag 76 [(I a0),(I a1)] (I r):=by
 obtain⟨h,cs⟩:=aC h
 unfold spec_l1Most at h
 refine aE (nt:=10) (rs:=[.tmp 4]) (n:=100000) Try.func76 rfl rfl rfl rfl (by simp) (S ?_)
 refine ap cs h (fun cs h=>S ?_) (fun cs h=>S ?_)
 ·cases run_some h
  exact ah SC
 ·cases run_some h
  exact ah SC

theorem spec_l24Compose_sat{a0:Sb}{a1:Sb}  {r:Sb}(h:spec_l24Compose a0 a1=some r):Sat ag 41 [((aj false) a0),((aj false) a1)] ((aj true) r):=by
 obtain⟨h,cs⟩:=aC h
 unfold spec_l24Compose at h
 refine aE (nt:=62) (rs:=[.cell 4 26]) (n:=100000) Try.func41 rfl rfl rfl rfl (by simp) (S ?_)
 replace h:=run_loop h
 refine aY h (fun i3 s3=>[(2,.box (.pv ((aj false) a0))),(3,.box (.pv ((aj false) a1))),(4,.box (.node [(.pv (I 0)),(.pv (I 0)),(.pv (.sl true 3 []))])),(5,.box (.node [(.pv (I a0.Source)),(.pv (I a1.Target)),(.own 256)])),(6,.val (.pv (I (i3:Int))))]) (fun i3 s3=>[(256,(3,s3.map (al false)))]) (au SC) (fun i3 s3 hi h=>?_) (fun s3 h=>?_)
 ·have w:=wrap_succ (i:=i3) (by omega)
  refine S ?_
  refine aS cs (by omega) (fun cs=>S ?_)
  replace h:=run_loop h
  refine aY h (fun i6 s6=>[(2,.box (.pv ((aj false) a0))),(3,.box (.pv ((aj false) a1))),(4,.box (.node [(.pv (I 0)),(.pv (I 0)),(.pv (.sl true 3 []))])),(5,.box (.node [(.pv (I a0.Source)),(.pv (I a1.Target)),(.own 256)])),(6,.val (.pv (I (i3:Int)))),(7,.val (.pv (I (i6:Int))))]) (fun i6 s6=>[(256,(3,s6.map (al false)))]) (au SC) (fun i6 s6 hi h=>?_) (fun s6 h=>?_)
  ·have w:=aa (wrap_succ (i:=i6) (by omega)) w
   refine S ?_
   refine aS cs (by omega) (fun cs=>S ?_)
   replace h:=run_loop h
   refine aY h (fun i10 s10=>[(2,.box (.pv ((aj false) a0))),(3,.box (.pv ((aj false) a1))),(4,.box (.node [(.pv (I 0)),(.pv (I 0)),(.pv (.sl true 3 []))])),(5,.box (.node [(.pv (I a0.Source)),(.pv (I a1.Target)),(.own 256)])),(6,.val (.pv (I (i3:Int)))),(7,.val (.pv (I (i6:Int)))),(8,.val (.pv (I s10))),(9,.val (.pv (I (i10:Int))))]) (fun i10 s10=>[(256,(3,s6.map (al false)))]) (au SC) (fun i10 s10 hi h=>?_) (fun s10 h=>?_)
   ·have w:=aa (wrap_succ (i:=i10) (by omega)) w
    refine S ?_
    refine aS cs (by omega) (fun cs=>S ?_)
    obtain⟨v33,hv33,h⟩:=run_bind h
    refine aw [false,false,false] (spec_l24Level_sat hv33) SC (S ?_)
    obtain⟨v37,hv37,h⟩:=run_bind h
    refine aw [false,false,false] (spec_l24Level_sat hv37) SC (S ?_)
    refine aa (aP [] []) (S ?_)
    refine ap cs h (fun cs h=>S ?_) (fun cs h=>S ?_)
    ·refine ap cs h (fun cs h=>S ?_) (fun cs h=>S ?_)
     ·obtain⟨v47,hv47,h⟩:=run_bind h
      refine aw [false,false] (spec_l1Most_sat hv47) SC (S ?_)
      obtain⟨v48,hv48,h⟩:=run_bind h
      refine aw [false,false] (spec_l1Most_sat hv48) SC (S ?_)
      have h:=run_some h
      refine aF ⟨_,h,?_⟩
      exact au SWx
     ·have h:=run_some h
      refine aF ⟨_,h,?_⟩
      exact au SWx
    ·have h:=run_some h
     refine aF ⟨_,h,?_⟩
     exact au SWx
   ·refine S ?_
    refine aW cs (by omega) (fun cs=>S ?_)
    refine ap cs h (fun cs h=>S ?_) (fun cs h=>S ?_)
    ·obtain⟨v59,hv59,h⟩:=run_bind h
     refine AppH.mk (f:=(al false)) (fun a=>Sa.psize _ a) hv59 SC SC (S ?_)
     have h:=run_some h
     refine aF ⟨_,h,?_⟩
     refine St.le_rt 944 256 ?_
     exact au SWx
    ·have h:=run_some h
     refine aF ⟨_,h,?_⟩
     exact au SWx
  ·refine S ?_
   refine aW cs (by omega) (fun cs=>S ?_)
   have h:=run_some h
   refine aF ⟨_,h,?_⟩
   exact au SWx
 ·refine S ?_
  refine aW cs (by omega) (fun cs=>S ?_)
  cases run_some h
  exact ah SC

theorem spec_l1Own_sat{a0:List Int}  {r:List Int}(h:spec_l1Own a0=some r):Sat ag 89 [(.sl false 1 (a0.map I))] (.sl true 1 (r.map I)):=by
 obtain⟨h,cs⟩:=aC h
 unfold spec_l1Own at h
 refine aE (nt:=6) (rs:=[.tmp 2]) (n:=100000) Try.func89 rfl rfl rfl rfl (by simp) (S ?_)
 obtain⟨v5,hv5,h⟩:=run_bind h
 refine AppH.mk (f:=I) (fun _=>rfl) hv5 SC SC (S ?_)
 cases run_some h
 exact ah SC

theorem spec_l24Closure_sat{a0:Ct}  {r:(List Sb)×(List (List Int))×Bool}(h:spec_l24Closure a0=some r):Sat ag 46 [((Ct.pv false) a0)] (.tup [(.sl true 3 (r.1.map (aj false))),(.sl true 1 (r.2.1.map (Lv false 1 I))),(B r.2.2)]):=by
 obtain⟨h,cs⟩:=aC h
 unfold spec_l24Closure at h
 refine Sat.of_mi (nt:=103) (rs:=[.tmp 2,.tmp 3,.tmp 4]) (n:=100000) Try.func46 rfl rfl rfl rfl (by simp) (SB ?_)
 refine ai (SB ?_)
 refine ai (SB ?_)
 refine ai (SB ?_)
 refine ai (SB ?_)
 refine aQ (Nat.le_of_eq rfl) (SB ?_)
 refine ai (SB ?_)
 refine OrR.l (SB ?_)
 refine ai (SB ?_)
 refine aQ (Nat.le_of_eq rfl) (SB ?_)
 refine ai (SB ?_)
 refine OrR.l (SB ?_)
 refine ai (SB ?_)
 refine aQ (Nat.le_of_eq rfl) (SB ?_)
 refine ai (SB ?_)
 refine aQ (Nat.le_of_eq rfl) (SB ?_)
 refine MgI.know_val2 (b:=false) (sz:=3) (es:=a0.Calls.map (aj false)) (x:=(.pv ((Ct.pv false) a0))) 0 [1] SC fun hl0=>?_; rw[aI] at hl0
 replace h:=run_loop h
 refine MgI.forN h (fun i4 s4=>[(1,.box (.pv ((Ct.pv false) a0))),(5,.val (.own 176)),(6,.val (.own 192)),(7,.val (.pv (I (i4:Int))))]) (fun i4 s4=>[(176,(3,s4.1.map (aj false))),(192,(1,s4.2.map (Lv false 1 I)))]) (au SC) (fun i4 s4 hi h=>?_) (fun s4 h=>?_)
 ·have w:=wrap_succ (i:=i4) (by omega)
  refine SB ?_
  refine ai (SB ?_)
  refine ai (SB ?_)
  refine ai (SB ?_)
  refine ai (SB ?_)
  refine ai (SB ?_)
  refine aQ (Nat.le_of_eq rfl) (SB ?_)
  refine aS cs (by omega) (fun cs=>SB ?_)
  refine ai (SB ?_)
  refine ai (SB ?_)
  refine ai (SB ?_)
  refine ai (SB ?_)
  refine ai (SB ?_)
  obtain⟨v24,hv24,h⟩:=run_bind h
  refine az (f:=(aj false)) hv24 SC (SB ?_)
  refine ai (SB ?_)
  refine ai (SB ?_)
  obtain⟨v26,hv26,h⟩:=run_bind h
  refine aw [false,false] (spec_l24At_sat hv26) SC (SB ?_)
  refine ai (SB ?_)
  refine aQ (Nat.le_of_eq rfl) (SB ?_)
  refine ap cs h (fun cs h=>SB ?_) (fun cs h=>SB ?_)
  ·refine ai (SB ?_)
   refine ai (SB ?_)
   refine ai (SB ?_)
   refine ai (SB ?_)
   refine ai (SB ?_)
   obtain⟨v32,hv32,h⟩:=run_bind h
   refine az (f:=(aj false)) hv32 SC (SB ?_)
   refine ai (SB ?_)
   refine ai (SB ?_)
   obtain⟨v34,hv34,h⟩:=run_bind h
   refine aw [false] (Sat.vwOf (res':=((aj false) v34)) (spec_l24Own_sat hv34) (by simp only[view_tup,view_sl,view_agg,view_lit,PV.views,RB,RS])) SC (SB ?_)
   refine ai (SB ?_)
   refine OrR.l (SB ?_)
   refine ai (SB ?_)
   obtain⟨v36,hv36,h⟩:=run_bind h
   refine AppH.mk (f:=(aj false)) (fun a=>Sb.psize _ a) hv36 SC SC (SB ?_)
   refine ai (SB ?_)
   refine aQ (Nat.le_of_eq rfl) (SB ?_)
   refine ai (SB ?_)
   refine ai (SB ?_)
   refine ai (SB ?_)
   refine OrR.v [(I (i4:Int))] (SB ?_)
   refine ai (SB ?_)
   refine OrR.l (SB ?_)
   refine ai (SB ?_)
   obtain⟨v41,hv41,h⟩:=run_bind h
   refine AppH.mk (f:=(Lv false 1 I)) (fun _=>rfl) hv41 SC SC (SB ?_)
   refine ai (SB ?_)
   refine aQ (Nat.le_of_eq rfl) (SB ?_)
   refine ai (SB ?_)
   refine ai (SB ?_)
   refine ai (SB ?_)
   refine aQ (Nat.le_of_eq rfl) (SB ?_)
   have h:=run_some h
   refine aF ⟨_,h,?_⟩
   refine St.le_rt 656 192 ?_
   refine St.le_rt 576 176 ?_
   exact au SWx
  ·refine ai (SB ?_)
   refine ai (SB ?_)
   refine ai (SB ?_)
   refine aQ (Nat.le_of_eq rfl) (SB ?_)
   have h:=run_some h
   refine aF ⟨_,h,?_⟩
   exact au SWx
 ·refine SB ?_
  refine ai (SB ?_)
  refine ai (SB ?_)
  refine ai (SB ?_)
  refine ai (SB ?_)
  refine ai (SB ?_)
  refine aQ (Nat.le_of_eq rfl) (SB ?_)
  refine aW cs (by omega) (fun cs=>SB ?_)
  refine ai (SB ?_)
  refine aQ (Nat.le_of_eq rfl) (SB ?_)
  replace h:=run_loop h
  refine MgI.whileN h (fun s10=>[(1,.box (.pv ((Ct.pv false) a0))),(5,.val (.own 176)),(6,.val (.own 192)),(8,.val (.pv (I s10.2.2)))]) (fun s10=>[(176,(3,s10.1.map (aj false))),(192,(1,s10.2.1.map (Lv false 1 I)))]) (au SC) (fun n10 s10 h=>?_)
  refine SB ?_
  refine ai (SB ?_)
  refine ai (SB ?_)
  refine ai (SB ?_)
  refine ai (SB ?_)
  refine aQ (Nat.le_of_eq rfl) (SB ?_)
  refine ap cs h (fun cs h=>SB ?_) (fun cs h=>SB ?_)
  ·refine ai (SB ?_)
   refine aQ (Nat.le_of_eq rfl) (SB ?_)
   refine MgI.know_box2 (b:=false) (sz:=3) (es:=a0.Calls.map (aj false)) (x:=(.pv ((Ct.pv false) a0))) 1 [1] SC fun hl1=>?_; rw[aI] at hl1
   replace h:=run_loop h
   refine MgI.forN h (fun i13 s13=>[(1,.box (.pv ((Ct.pv false) a0))),(5,.val (.own 176)),(6,.val (.own 192)),(8,.val (.pv (I s10.2.2))),(9,.val (.pv (I (i13:Int))))]) (fun i13 s13=>[(176,(3,s13.1.map (aj false))),(192,(1,s13.2.map (Lv false 1 I)))]) (au SC) (fun i13 s13 hi h=>?_) (fun s13 h=>?_)
   ·have w:=wrap_succ (i:=i13) (by omega)
    refine SB ?_
    refine ai (SB ?_)
    refine ai (SB ?_)
    refine ai (SB ?_)
    refine ai (SB ?_)
    refine ai (SB ?_)
    refine aQ (Nat.le_of_eq rfl) (SB ?_)
    refine aS cs (by omega) (fun cs=>SB ?_)
    obtain⟨v58,hv58,h⟩:=run_bind h
    refine az (f:=(aj false)) hv58 SC (SB ?_)
    obtain⟨v63,hv63,h⟩:=run_bind h
    refine az (f:=(aj false)) hv63 SC (SB ?_)
    obtain⟨v65,hv65,h⟩:=run_bind h
    refine a8 (f:=(aj false)) hv65 rfl SC (SB ?_)
    refine aa (aP [] []) (SB ?_)
    refine ap cs h (fun cs h=>SB ?_) (fun cs h=>SB ?_)
    ·obtain⟨v69,hv69,h⟩:=run_bind h
     refine az (f:=(aj false)) hv69 SC (SB ?_)
     obtain⟨v70,hv70,h⟩:=run_bind h
     refine a8 (f:=(aj false)) hv70 rfl SC (SB ?_)
     obtain⟨v74,hv74,h⟩:=run_bind h
     refine az (f:=(aj false)) hv74 SC (SB ?_)
     obtain⟨v76,hv76,h⟩:=run_bind h
     refine aw [false,false] (Sat.vwOf (res':=((aj false) v76)) (spec_l24Compose_sat hv76) (by simp only[view_tup,view_sl,view_agg,view_lit,PV.views,RB,RS])) SC (SB ?_)
     refine aa (aP [10] []) (SB ?_)
     refine ai (SB ?_)
     refine ai (SB ?_)
     refine ai (SB ?_)
     obtain⟨v79,hv79,h⟩:=run_bind h
     refine aw [false,false] (spec_l24At_sat hv79) SC (SB ?_)
     refine ai (SB ?_)
     refine aQ (Nat.le_of_eq rfl) (SB ?_)
     refine ap cs h (fun cs h=>SB ?_) (fun cs h=>SB ?_)
     ·refine ai (SB ?_)
      refine ai (SB ?_)
      refine ai (SB ?_)
      refine aQ (Nat.le_of_eq rfl) (SB ?_)
      have h:=run_some h
      refine aF ⟨_,h,?_⟩
      exact au SWx
     ·refine ai (SB ?_)
      refine ai (SB ?_)
      refine ai (SB ?_)
      refine aQ (Nat.le_of_eq rfl) (SB ?_)
      refine ap cs h (fun cs h=>SB ?_) (fun cs h=>SB ?_)
      ·refine ai (SB ?_)
       refine ai (SB ?_)
       refine ai (SB ?_)
       refine ai (SB ?_)
       refine ai (SB ?_)
       refine aQ (Nat.le_of_eq rfl) (SB ?_)
       cases run_some h
       exact ah SC
      ·refine ai (SB ?_)
       refine ai (SB ?_)
       refine ai (SB ?_)
       refine OrR.l (SB ?_)
       refine ai (SB ?_)
       obtain⟨v89,hv89,h⟩:=run_bind h
       refine AppH.mk (f:=(aj false)) (fun a=>Sb.psize _ a) hv89 SC SC (SB ?_)
       refine ai (SB ?_)
       refine aQ (Nat.le_of_eq rfl) (SB ?_)
       refine ai (SB ?_)
       refine ai (SB ?_)
       refine ai (SB ?_)
       refine ai (SB ?_)
       obtain⟨v93,hv93,h⟩:=run_bind h
       refine az (f:=(Lv false 1 I)) hv93 SC (SB ?_)
       refine ai (SB ?_)
       obtain⟨v94,hv94,h⟩:=run_bind h
       refine a8 (f:=(Lv false 1 I)) hv94 rfl SC (SB ?_)
       refine ai (SB ?_)
       obtain⟨v95,hv95,h⟩:=run_bind h
       refine aw [false] (spec_l1Own_sat hv95) SC (SB ?_)
       refine ai (SB ?_)
       refine ai (SB ?_)
       refine OrR.l (SB ?_)
       refine ai (SB ?_)
       obtain⟨v98,hv98,h⟩:=run_bind h
       refine AppH.mk (f:=I) (fun _=>rfl) hv98 SC SC (SB ?_)
       refine VSeq.demV (x:=(.own 1568)) (sz:=1) (es:=v98.map I) 98 [] 1568 SC (SB ?_)
       refine ai (SB ?_)
       refine OrR.l (SB ?_)
       refine ai (SB ?_)
       obtain⟨v100,hv100,h⟩:=run_bind h
       refine AppH.mk (f:=(Lv false 1 I)) (fun _=>rfl) hv100 SC SC (SB ?_)
       refine ai (SB ?_)
       refine aQ (Nat.le_of_eq rfl) (SB ?_)
       refine ai (SB ?_)
       refine ai (SB ?_)
       refine ai (SB ?_)
       refine aQ (Nat.le_of_eq rfl) (SB ?_)
       have h:=run_some h
       refine aF ⟨_,h,?_⟩
       refine St.le_rt 1600 192 ?_
       refine St.le_rt 1424 176 ?_
       exact au SWx
    ·refine ai (SB ?_)
     refine ai (SB ?_)
     refine ai (SB ?_)
     refine aQ (Nat.le_of_eq rfl) (SB ?_)
     have h:=run_some h
     refine aF ⟨_,h,?_⟩
     exact au SWx
   ·refine SB ?_
    refine ai (SB ?_)
    refine ai (SB ?_)
    refine ai (SB ?_)
    refine ai (SB ?_)
    refine ai (SB ?_)
    refine aQ (Nat.le_of_eq rfl) (SB ?_)
    refine ai (SB ?_)
    refine ai (SB ?_)
    refine ai (SB ?_)
    refine aQ (Nat.le_of_eq rfl) (SB ?_)
    have h:=run_some h
    refine aF ⟨_,h,?_⟩
    exact au SC
  ·have h:=run_some h
   refine ai (SB ?_)
   refine ai (SB ?_)
   refine ai (SB ?_)
   refine ai (SB ?_)
   refine ai (SB ?_)
   refine aQ (Nat.le_of_eq rfl) (SB ?_)
   cases run_some h
   exact ah SC

theorem spec_l24Idempotent_sat{a0:Sb}  {r:Bool}(h:spec_l24Idempotent a0=some r):Sat ag 49 [((aj false) a0)] (B r):=by
 obtain⟨h,cs⟩:=aC h
 unfold spec_l24Idempotent at h
 refine aE (nt:=15) (rs:=[.tmp 2]) (n:=100000) Try.func49 rfl rfl rfl rfl (by simp) (S ?_)
 refine ap cs h (fun cs h=>S ?_) (fun cs h=>S ?_)
 ·obtain⟨v11,hv11,h⟩:=run_bind h
  refine aw [false,false] (spec_l24Compose_sat hv11) SC (S ?_)
  obtain⟨v13,hv13,h⟩:=run_bind h
  refine aw [false,false] (spec_l24Same_sat hv13) SC (S ?_)
  refine aa (aP [] [176]) (S ?_)
  cases run_some h
  exact ah SC
 ·refine aa (aP [] []) (S ?_)
  cases run_some h
  exact ah SC

theorem spec_l24Descends_sat{a0:Sb}  {r:Bool}(h:spec_l24Descends a0=some r):Sat ag 50 [((aj false) a0)] (B r):=by
 obtain⟨h,cs⟩:=aC h
 unfold spec_l24Descends at h
 refine aE (nt:=32) (rs:=[.tmp 2]) (n:=100000) Try.func50 rfl rfl rfl rfl (by simp) (S ?_)
 refine Mg.know_val2 (b:=false) (sz:=3) (es:=a0.Edges.map (al false)) (x:=(.pv ((aj false) a0))) 0 [2] SC fun hl0=>?_; rw[aI] at hl0
 replace h:=run_loop h
 refine aY h (fun i2 s2=>[(1,.box (.pv ((aj false) a0))),(3,.val (.pv (I (i2:Int))))]) (fun i2 s2=>[]) (au SC) (fun i2 s2 hi h=>?_) (fun s2 h=>?_)
 ·have w:=wrap_succ (i:=i2) (by omega)
  refine S ?_
  refine aS cs (by omega) (fun cs=>S ?_)
  obtain⟨v14,hv14,h⟩:=run_bind h
  refine az (f:=(al false)) hv14 SC (S ?_)
  obtain⟨v20,hv20,h⟩:=run_bind h
  refine az (f:=(al false)) hv20 SC (S ?_)
  refine ap cs h (fun cs h=>S ?_) (fun cs h=>S ?_)
  ·obtain⟨v28,hv28,h⟩:=run_bind h
   refine az (f:=(al false)) hv28 SC (S ?_)
   refine aa (aP [] []) (S ?_)
   refine ap cs h (fun cs h=>S ?_) (fun cs h=>S ?_)
   ·cases run_some h
    exact ah SC
   ·have h:=run_some h
    refine aF ⟨_,h,?_⟩
    exact au SWx
  ·refine aa (aP [] []) (S ?_)
   have h:=run_some h
   refine aF ⟨_,h,?_⟩
   exact au SWx
 ·refine S ?_
  refine aW cs (by omega) (fun cs=>S ?_)
  cases run_some h
  exact ah SC

theorem spec_TraceDefect_sat{a0:Ct}  {r:(List Int)×Bool}(h:spec_TraceDefect a0=some r):Sat ag 17 [((Ct.pv false) a0)] (.tup [(.sl false 1 (r.1.map I)),(B r.2)]):=by
 obtain⟨h,cs⟩:=aC h
 unfold spec_TraceDefect at h
 refine aE (nt:=45) (rs:=[.tmp 2,.tmp 3]) (n:=100000) Try.func17 rfl rfl rfl rfl (by simp) (S ?_)
 obtain⟨v9,hv9,h⟩:=run_bind h
 refine aw [false] (spec_l24Good_sat hv9) SC (S ?_)
 refine ap cs h (fun cs h=>S ?_) (fun cs h=>S ?_)
 ·obtain⟨v14,hv14,h⟩:=run_bind h
  refine aw [false] (spec_l24Closure_sat hv14) SC (S ?_)
  refine ap cs h (fun cs h=>S ?_) (fun cs h=>S ?_)
  ·refine Mg.know_own (sz:=3) (es:=v14.1.map (aj false)) 224 SC fun hl224=>?_; rw[aI] at hl224
   replace h:=run_loop h
   refine aY h (fun i7 s7=>[(4,.val (.own 224)),(5,.val (.own 225)),(7,.val (.pv (I (i7:Int))))]) (fun i7 s7=>[(224,(3,v14.1.map (aj false))),(225,(1,v14.2.1.map (Lv false 1 I)))]) (au SC) (fun i7 s7 hi h=>?_) (fun s7 h=>?_)
   ·have w:=wrap_succ (i:=i7) (by omega)
    refine S ?_
    refine aS cs (by omega) (fun cs=>S ?_)
    obtain⟨v29,hv29,h⟩:=run_bind h
    refine az (f:=(aj false)) hv29 SC (S ?_)
    obtain⟨v30,hv30,h⟩:=run_bind h
    refine a8 (f:=(aj false)) hv30 rfl SC (S ?_)
    obtain⟨v31,hv31,h⟩:=run_bind h
    refine aw [false] (spec_l24Idempotent_sat hv31) SC (S ?_)
    refine ap cs h (fun cs h=>S ?_) (fun cs h=>S ?_)
    ·obtain⟨v35,hv35,h⟩:=run_bind h
     refine az (f:=(aj false)) hv35 SC (S ?_)
     obtain⟨v36,hv36,h⟩:=run_bind h
     refine a8 (f:=(aj false)) hv36 rfl SC (S ?_)
     obtain⟨v37,hv37,h⟩:=run_bind h
     refine aw [false] (spec_l24Descends_sat hv37) SC (S ?_)
     refine ap cs h (fun cs h=>S ?_) (fun cs h=>S ?_)
     ·have h:=run_some h
      refine aF ⟨_,h,?_⟩
      exact au SWx
     ·obtain⟨v42,hv42,h⟩:=run_bind h
      refine az (f:=(Lv false 1 I)) hv42 SC (S ?_)
      obtain⟨v43,hv43,h⟩:=run_bind h
      refine a8 (f:=(Lv false 1 I)) hv43 rfl SC (S ?_)
      cases run_some h
      exact FinH.r SC
    ·have h:=run_some h
     refine aF ⟨_,h,?_⟩
     exact au SWx
   ·refine S ?_
    refine aW cs (by omega) (fun cs=>S ?_)
    cases run_some h
    exact FinH.r SC
  ·cases run_some h
   exact FinH.r SC
 ·cases run_some h
  exact FinH.r SC

theorem impl_within_sat{a0:Int}{a1:Int}{a2:Int}  {r:Bool}(h:impl_within a0 a1 a2=some r):Sat ag 70 [(I a0),(I a1),(I a2)] (B r):=by
 obtain⟨h,cs⟩:=aC h
 unfold impl_within at h
 refine aE (nt:=15) (rs:=[.tmp 6]) (n:=100000) Try.func70 rfl rfl rfl rfl (by simp) (S ?_)
 refine ap cs h (fun cs h=>S ?_) (fun cs h=>S ?_)
 ·cases run_some h
  exact ah SC
 ·cases run_some h
  exact ah SC

theorem impl_IsValidCyclic_1_sat{a0:Int}  {r:Bool}(h:impl_IsValidCyclic_1 a0=some r):Sat ag 78 [(I a0)] (B r):=by
 obtain⟨h,cs⟩:=aC h
 unfold impl_IsValidCyclic_1 at h
 refine aE (nt:=6) (rs:=[.tmp 2]) (n:=100000) Try.func78 rfl rfl rfl rfl (by simp) (S ?_)
 obtain⟨v4,hv4,h⟩:=run_bind h
 refine aw [false,false,false] (impl_within_sat hv4) SC (S ?_)
 cases run_some h
 exact ah SC

theorem slices_IndexFunc_Sint_int_sat{a0:List Int}{a1:Int→Option Bool}{a1_id:FuncId}{a1_cs:List PV}(a1_ok:∀ y0 r,a1 y0=some r→Sat ag a1_id ((I y0)::a1_cs) (B r))(a1_cz:CapsOk a1_cs=True){r:Int}(h:slices_IndexFunc_Sint_int a0 a1=some r):Sat ag 102 [(.sl false 1 (a0.map I)),.clo a1_id a1_cs] (I r):=by
 obtain⟨h,cs⟩:=aC h
 unfold slices_IndexFunc_Sint_int at h
 have cs:=aa a1_cz cs
 refine aE (nt:=19) (rs:=[.tmp 4]) (n:=100000) Try.func102 rfl rfl rfl rfl (by simp) (S ?_)
 refine bc (b:=false) (sz:=1) (es:=a0.map I) 0 SC fun hl0=>?_; rw[aI] at hl0
 replace h:=run_loop h
 refine aY h (fun i2 s2=>[(0,.val (.pv (.sl false 1 (a0.map I)))),(1,.val (.pv (.clo a1_id a1_cs))),(7,.val (.pv (I (a0.length:Int)))),(8,.val (.pv (I (i2:Int))))]) (fun i2 s2=>[]) (au SC) (fun i2 s2 hi h=>?_) (fun s2 h=>?_)
 ·have w:=wrap_succ (i:=i2) (by omega)
  refine S ?_
  refine aS cs (by omega) (fun cs=>S ?_)
  obtain⟨v14,hv14,h⟩:=run_bind h
  refine az (f:=I) hv14 SC (S ?_)
  obtain⟨v16,hv16,h⟩:=run_bind h
  refine aw [false] (a1_ok _ _ hv16) SC (S ?_)
  refine ap cs h (fun cs h=>S ?_) (fun cs h=>S ?_)
  ·cases run_some h
   exact ah SC
  ·have h:=run_some h
   refine aF ⟨_,h,?_⟩
   exact au SWx
 ·refine S ?_
  refine aW cs (by omega) (fun cs=>S ?_)
  cases run_some h
  exact ah SC

theorem slices_ContainsFunc_Sint_int_sat{a0:List Int}{a1:Int→Option Bool}{a1_id:FuncId}{a1_cs:List PV}(a1_ok:∀ y0 r,a1 y0=some r→Sat ag a1_id ((I y0)::a1_cs) (B r))(a1_cz:CapsOk a1_cs=True){r:Bool}(h:slices_ContainsFunc_Sint_int a0 a1=some r):Sat ag 77 [(.sl false 1 (a0.map I)),.clo a1_id a1_cs] (B r):=by
 obtain⟨h,cs⟩:=aC h
 unfold slices_ContainsFunc_Sint_int at h
 have cs:=aa a1_cz cs
 refine aE (nt:=9) (rs:=[.tmp 4]) (n:=100000) Try.func77 rfl rfl rfl rfl (by simp) (S ?_)
 obtain⟨v7,hv7,h⟩:=run_bind h
 refine aw [false,false] (slices_IndexFunc_Sint_int_sat a1_ok a1_cz hv7) SC (S ?_)
 cases run_some h
 exact ah SC

theorem cmp_isNaN_int_sat{a0:Int}  {r:Bool}(h:cmp_isNaN_int a0=some r):Sat ag 111 [(I a0)] (B r):=by
 obtain⟨h,cs⟩:=aC h
 unfold cmp_isNaN_int at h
 refine aE (nt:=6) (rs:=[.tmp 2]) (n:=100000) Try.func111 rfl rfl rfl rfl (by simp) (S ?_)
 cases run_some h
 exact ah SC

theorem cmp_Compare_int_sat{a0:Int}{a1:Int}  {r:Int}(h:cmp_Compare_int a0 a1=some r):Sat ag 99 [(I a0),(I a1)] (I r):=by
 obtain⟨h,cs⟩:=aC h
 unfold cmp_Compare_int at h
 refine aE (nt:=20) (rs:=[.tmp 4]) (n:=100000) Try.func99 rfl rfl rfl rfl (by simp) (S ?_)
 obtain⟨v8,hv8,h⟩:=run_bind h
 refine aw [false] (cmp_isNaN_int_sat hv8) SC (S ?_)
 obtain⟨v10,hv10,h⟩:=run_bind h
 refine aw [false] (cmp_isNaN_int_sat hv10) SC (S ?_)
 refine ap cs h (fun cs h=>S ?_) (fun cs h=>S ?_)
 ·refine ap cs h (fun cs h=>S ?_) (fun cs h=>S ?_)
  ·cases run_some h
   exact ah SC
  ·cases run_some h
   exact ah SC
 ·refine ap cs h (fun cs h=>S ?_) (fun cs h=>S ?_)
  ·cases run_some h
   exact ah SC
  ·refine ap cs h (fun cs h=>S ?_) (fun cs h=>S ?_)
   ·cases run_some h
    exact ah SC
   ·refine ap cs h (fun cs h=>S ?_) (fun cs h=>S ?_)
    ·cases run_some h
     exact ah SC
    ·cases run_some h
     exact ah SC

theorem cmp_Or_int_sat{a0:List Int}  {r:Int}(h:cmp_Or_int a0=some r):Sat ag 98 [(.sl false 1 (a0.map I))] (I r):=by
 obtain⟨h,cs⟩:=aC h
 unfold cmp_Or_int at h
 refine aE (nt:=18) (rs:=[.tmp 2]) (n:=100000) Try.func98 rfl rfl rfl rfl (by simp) (S ?_)
 refine bc (b:=false) (sz:=1) (es:=a0.map I) 0 SC fun hl0=>?_; rw[aI] at hl0
 replace h:=run_loop h
 refine aY h (fun i3 s3=>[(3,.val (.pv (I 0))),(6,.val (.pv (.sl false 1 (a0.map I)))),(7,.val (.pv (I (a0.length:Int)))),(8,.val (.pv (I (i3:Int))))]) (fun i3 s3=>[]) (au SC) (fun i3 s3 hi h=>?_) (fun s3 h=>?_)
 ·have w:=wrap_succ (i:=i3) (by omega)
  refine S ?_
  refine aS cs (by omega) (fun cs=>S ?_)
  obtain⟨v10,hv10,h⟩:=run_bind h
  refine az (f:=I) hv10 SC (S ?_)
  refine ap cs h (fun cs h=>S ?_) (fun cs h=>S ?_)
  ·have h:=run_some h
   refine aF ⟨_,h,?_⟩
   exact au SWx
  ·cases run_some h
   exact ah SC
 ·refine S ?_
  refine aW cs (by omega) (fun cs=>S ?_)
  cases run_some h
  exact ah SC

theorem impl_compareEdges_sat{a0:Sa}{a1:Sa}  {r:Int}(h:impl_compareEdges a0 a1=some r):Sat ag 71 [((al false) a0),((al false) a1)] (I r):=by
 obtain⟨h,cs⟩:=aC h
 unfold impl_compareEdges at h
 refine aE (nt:=17) (rs:=[.tmp 4]) (n:=100000) Try.func71 rfl rfl rfl rfl (by simp) (S ?_)
 obtain⟨v9,hv9,h⟩:=run_bind h
 refine aw [false,false] (cmp_Compare_int_sat hv9) SC (S ?_)
 obtain⟨v14,hv14,h⟩:=run_bind h
 refine aw [false,false] (cmp_Compare_int_sat hv14) SC (S ?_)
 obtain⟨v16,hv16,h⟩:=run_bind h
 refine aw [false] (cmp_Or_int_sat hv16) SC (S ?_)
 refine aa (aP [] [240]) (S ?_)
 cases run_some h
 exact ah SC

theorem impl_IsValidGraph_sat{a0:Sb}  {r:Bool}(h:impl_IsValidGraph a0=some r):Sat ag 38 [((aj false) a0)] (B r):=by
 obtain⟨h,cs⟩:=aC h
 unfold impl_IsValidGraph at h
 refine aE (nt:=47) (rs:=[.tmp 2]) (n:=100000) Try.func38 rfl rfl rfl rfl (by simp) (S ?_)
 refine bc (b:=false) (sz:=3) (es:=a0.Edges.map (al false)) 6 SC fun hl6=>?_; rw[aI] at hl6
 replace h:=run_loop h
 refine aY h (fun i2 s2=>[(1,.box (.pv ((aj false) a0))),(6,.val (.pv (.sl false 3 (a0.Edges.map (al false))))),(7,.val (.pv (I (a0.Edges.length:Int)))),(8,.val (.pv (I (i2:Int))))]) (fun i2 s2=>[]) (au SC) (fun i2 s2 hi h=>?_) (fun s2 h=>?_)
 ·have w:=wrap_succ (i:=i2) (by omega)
  refine S ?_
  refine aS cs (by omega) (fun cs=>S ?_)
  obtain⟨v11,hv11,h⟩:=run_bind h
  refine az (f:=(al false)) hv11 SC (S ?_)
  obtain⟨v15,hv15,h⟩:=run_bind h
  refine aw [false,false,false] (impl_within_sat hv15) SC (S ?_)
  refine ap cs h (fun cs h=>S ?_) (fun cs h=>S ?_)
  ·obtain⟨v20,hv20,h⟩:=run_bind h
   refine aw [false,false,false] (impl_within_sat hv20) SC (S ?_)
   refine ap cs h (fun cs h=>S ?_) (fun cs h=>S ?_)
   ·refine ap cs h (fun cs h=>S ?_) (fun cs h=>S ?_)
    ·obtain⟨v31,hv31,h⟩:=run_bind h
     refine az (f:=(al false)) hv31 SC (S ?_)
     obtain⟨v34,hv34,h⟩:=run_bind h
     refine aw [false,false] (impl_compareEdges_sat hv34) SC (S ?_)
     refine aa (aP [] []) (S ?_)
     refine ap cs h (fun cs h=>S ?_) (fun cs h=>S ?_)
     ·cases run_some h
      exact ah SC
     ·have h:=run_some h
      refine aF ⟨_,h,?_⟩
      exact au SWx
    ·refine aa (aP [] []) (S ?_)
     have h:=run_some h
     refine aF ⟨_,h,?_⟩
     exact au SWx
   ·refine aa (aP [] []) (S ?_)
    cases run_some h
    exact ah SC
  ·refine aa (aP [] []) (S ?_)
   cases run_some h
   exact ah SC
 ·refine S ?_
  refine aW cs (by omega) (fun cs=>S ?_)
  obtain⟨v41,hv41,h⟩:=run_bind h
  refine aw [false,false,false] (impl_within_sat hv41) SC (S ?_)
  refine ap cs h (fun cs h=>S ?_) (fun cs h=>S ?_)
  ·obtain⟨v45,hv45,h⟩:=run_bind h
   refine aw [false,false,false] (impl_within_sat hv45) SC (S ?_)
   cases run_some h
   exact ah SC
  ·cases run_some h
   exact ah SC

theorem impl_IsValidCyclic_2_1_sat{a0:Sa}{b0:Ct}{b1:Sb}  {r:Bool}(h:impl_IsValidCyclic_2_1 a0 b0 b1=some r):Sat ag 81 [((al false) a0),.ptr ((Ct.pv false) b0),.ptr ((aj false) b1)] (B r):=by
 obtain⟨h,cs⟩:=aC h
 unfold impl_IsValidCyclic_2_1 at h
 refine aE (nt:=25) (rs:=[.tmp 4]) (n:=100000) Try.func81 rfl rfl rfl rfl (by simp) (S ?_)
 obtain⟨v11,hv11,h⟩:=run_bind h
 refine az (f:=I) hv11 SC (S ?_)
 refine ap cs h (fun cs h=>S ?_) (fun cs h=>S ?_)
 ·refine aa (aP [] []) (S ?_)
  cases run_some h
  exact ah SC
 ·obtain⟨v21,hv21,h⟩:=run_bind h
  refine az (f:=I) hv21 SC (S ?_)
  refine aa (aP [] []) (S ?_)
  cases run_some h
  exact ah SC

theorem slices_IndexFunc_Simpl_SizeEdge_impl_SizeEdge_sat{a0:List Sa}{a1:Sa→Option Bool}{a1_id:FuncId}{a1_cs:List PV}(a1_ok:∀ y0 r,a1 y0=some r→Sat ag a1_id (((al false) y0)::a1_cs) (B r))(a1_cz:CapsOk a1_cs=True){r:Int}(h:slices_IndexFunc_Simpl_SizeEdge_impl_SizeEdge a0 a1=some r):Sat ag 93 [(.sl false 3 (a0.map (al false))),.clo a1_id a1_cs] (I r):=by
 obtain⟨h,cs⟩:=aC h
 unfold slices_IndexFunc_Simpl_SizeEdge_impl_SizeEdge at h
 have cs:=aa a1_cz cs
 refine aE (nt:=19) (rs:=[.tmp 4]) (n:=100000) Try.func93 rfl rfl rfl rfl (by simp) (S ?_)
 refine bc (b:=false) (sz:=3) (es:=a0.map (al false)) 0 SC fun hl0=>?_; rw[aI] at hl0
 replace h:=run_loop h
 refine aY h (fun i2 s2=>[(0,.val (.pv (.sl false 3 (a0.map (al false))))),(1,.val (.pv (.clo a1_id a1_cs))),(7,.val (.pv (I (a0.length:Int)))),(8,.val (.pv (I (i2:Int))))]) (fun i2 s2=>[]) (au SC) (fun i2 s2 hi h=>?_) (fun s2 h=>?_)
 ·have w:=wrap_succ (i:=i2) (by omega)
  refine S ?_
  refine aS cs (by omega) (fun cs=>S ?_)
  obtain⟨v14,hv14,h⟩:=run_bind h
  refine az (f:=(al false)) hv14 SC (S ?_)
  obtain⟨v16,hv16,h⟩:=run_bind h
  refine aw [false] (a1_ok _ _ hv16) SC (S ?_)
  refine ap cs h (fun cs h=>S ?_) (fun cs h=>S ?_)
  ·cases run_some h
   exact ah SC
  ·have h:=run_some h
   refine aF ⟨_,h,?_⟩
   exact au SWx
 ·refine S ?_
  refine aW cs (by omega) (fun cs=>S ?_)
  cases run_some h
  exact ah SC

theorem slices_ContainsFunc_Simpl_SizeEdge_impl_SizeEdge_sat{a0:List Sa}{a1:Sa→Option Bool}{a1_id:FuncId}{a1_cs:List PV}(a1_ok:∀ y0 r,a1 y0=some r→Sat ag a1_id (((al false) y0)::a1_cs) (B r))(a1_cz:CapsOk a1_cs=True){r:Bool}(h:slices_ContainsFunc_Simpl_SizeEdge_impl_SizeEdge a0 a1=some r):Sat ag 54 [(.sl false 3 (a0.map (al false))),.clo a1_id a1_cs] (B r):=by
 obtain⟨h,cs⟩:=aC h
 unfold slices_ContainsFunc_Simpl_SizeEdge_impl_SizeEdge at h
 have cs:=aa a1_cz cs
 refine aE (nt:=9) (rs:=[.tmp 4]) (n:=100000) Try.func54 rfl rfl rfl rfl (by simp) (S ?_)
 obtain⟨v7,hv7,h⟩:=run_bind h
 refine aw [false,false] (slices_IndexFunc_Simpl_SizeEdge_impl_SizeEdge_sat a1_ok a1_cz hv7) SC (S ?_)
 cases run_some h
 exact ah SC

theorem impl_IsValidCyclic_2_sat{a0:Sb}{b0:Int}{b1:Ct}  {r:Bool}(h:impl_IsValidCyclic_2 a0 b0 b1=some r):Sat ag 80 [((aj false) a0),.ptr (I b0),.ptr ((Ct.pv false) b1)] (B r):=by
 obtain⟨h,cs⟩:=aC h
 unfold impl_IsValidCyclic_2 at h
 refine aE (nt:=26) (rs:=[.tmp 4]) (n:=100000) Try.func80 rfl rfl rfl rfl (by simp) (S ?_)
 obtain⟨v6,hv6,h⟩:=run_bind h
 refine aw [false] (impl_IsValidGraph_sat hv6) SC (S ?_)
 refine ap cs h (fun cs h=>S ?_) (fun cs h=>S ?_)
 ·refine ap cs h (fun cs h=>S ?_) (fun cs h=>S ?_)
  ·cases run_some h
   exact ah SC
  ·refine ap cs h (fun cs h=>S ?_) (fun cs h=>S ?_)
   ·cases run_some h
    exact ah SC
   ·refine MfH.fr (S ?_)
    obtain⟨v24,hv24,h⟩:=run_bind h
    refine aw [false,false] (slices_ContainsFunc_Simpl_SizeEdge_impl_SizeEdge_sat (fun _ _ hh=>impl_IsValidCyclic_2_1_sat hh) (by simp only[CapsOk_nil,CapsOk_cons]) hv24) SC (S ?_)
    cases run_some h
    exact ah SC
 ·cases run_some h
  exact ah SC

theorem slices_IndexFunc_Simpl_SizeGraph_impl_SizeGraph_sat{a0:List Sb}{a1:Sb→Option Bool}{a1_id:FuncId}{a1_cs:List PV}(a1_ok:∀ y0 r,a1 y0=some r→Sat ag a1_id (((aj false) y0)::a1_cs) (B r))(a1_cz:CapsOk a1_cs=True){r:Int}(h:slices_IndexFunc_Simpl_SizeGraph_impl_SizeGraph a0 a1=some r):Sat ag 103 [(.sl false 3 (a0.map (aj false))),.clo a1_id a1_cs] (I r):=by
 obtain⟨h,cs⟩:=aC h
 unfold slices_IndexFunc_Simpl_SizeGraph_impl_SizeGraph at h
 have cs:=aa a1_cz cs
 refine aE (nt:=19) (rs:=[.tmp 4]) (n:=100000) Try.func103 rfl rfl rfl rfl (by simp) (S ?_)
 refine bc (b:=false) (sz:=3) (es:=a0.map (aj false)) 0 SC fun hl0=>?_; rw[aI] at hl0
 replace h:=run_loop h
 refine aY h (fun i2 s2=>[(0,.val (.pv (.sl false 3 (a0.map (aj false))))),(1,.val (.pv (.clo a1_id a1_cs))),(7,.val (.pv (I (a0.length:Int)))),(8,.val (.pv (I (i2:Int))))]) (fun i2 s2=>[]) (au SC) (fun i2 s2 hi h=>?_) (fun s2 h=>?_)
 ·have w:=wrap_succ (i:=i2) (by omega)
  refine S ?_
  refine aS cs (by omega) (fun cs=>S ?_)
  obtain⟨v14,hv14,h⟩:=run_bind h
  refine az (f:=(aj false)) hv14 SC (S ?_)
  obtain⟨v16,hv16,h⟩:=run_bind h
  refine aw [false] (a1_ok _ _ hv16) SC (S ?_)
  refine ap cs h (fun cs h=>S ?_) (fun cs h=>S ?_)
  ·cases run_some h
   exact ah SC
  ·have h:=run_some h
   refine aF ⟨_,h,?_⟩
   exact au SWx
 ·refine S ?_
  refine aW cs (by omega) (fun cs=>S ?_)
  cases run_some h
  exact ah SC

theorem slices_ContainsFunc_Simpl_SizeGraph_impl_SizeGraph_sat{a0:List Sb}{a1:Sb→Option Bool}{a1_id:FuncId}{a1_cs:List PV}(a1_ok:∀ y0 r,a1 y0=some r→Sat ag a1_id (((aj false) y0)::a1_cs) (B r))(a1_cz:CapsOk a1_cs=True){r:Bool}(h:slices_ContainsFunc_Simpl_SizeGraph_impl_SizeGraph a0 a1=some r):Sat ag 79 [(.sl false 3 (a0.map (aj false))),.clo a1_id a1_cs] (B r):=by
 obtain⟨h,cs⟩:=aC h
 unfold slices_ContainsFunc_Simpl_SizeGraph_impl_SizeGraph at h
 have cs:=aa a1_cz cs
 refine aE (nt:=9) (rs:=[.tmp 4]) (n:=100000) Try.func79 rfl rfl rfl rfl (by simp) (S ?_)
 obtain⟨v7,hv7,h⟩:=run_bind h
 refine aw [false,false] (slices_IndexFunc_Simpl_SizeGraph_impl_SizeGraph_sat a1_ok a1_cz hv7) SC (S ?_)
 cases run_some h
 exact ah SC

theorem impl_IsValidCyclic_sat{a0:Ct}  {r:Bool}(h:impl_IsValidCyclic a0=some r):Sat ag 43 [((Ct.pv false) a0)] (B r):=by
 obtain⟨h,cs⟩:=aC h
 unfold impl_IsValidCyclic at h
 refine aE (nt:=26) (rs:=[.tmp 2]) (n:=100000) Try.func43 rfl rfl rfl rfl (by simp) (S ?_)
 obtain⟨v8,hv8,h⟩:=run_bind h
 refine aw [false,false,false] (impl_within_sat hv8) SC (S ?_)
 refine ap cs h (fun cs h=>S ?_) (fun cs h=>S ?_)
 ·refine ap cs h (fun cs h=>S ?_) (fun cs h=>S ?_)
  ·cases run_some h
   exact ah SC
  ·obtain⟨v19,hv19,h⟩:=run_bind h
   refine aw [false,false] (slices_ContainsFunc_Sint_int_sat (fun _ _ hh=>impl_IsValidCyclic_1_sat hh) (by simp only[CapsOk_nil,CapsOk_cons]) hv19) SC (S ?_)
   refine ap cs h (fun cs h=>S ?_) (fun cs h=>S ?_)
   ·cases run_some h
    exact ah SC
   ·refine MfH.fr (S ?_)
    obtain⟨v24,hv24,h⟩:=run_bind h
    refine aw [false,false] (slices_ContainsFunc_Simpl_SizeGraph_impl_SizeGraph_sat (fun _ _ hh=>impl_IsValidCyclic_2_sat hh) (by simp only[CapsOk_nil,CapsOk_cons]) hv24) SC (S ?_)
    cases run_some h
    exact ah SC
 ·cases run_some h
  exact ah SC

theorem slices_Equal_Simpl_SizeEdge_impl_SizeEdge_sat{a0:List Sa}{a1:List Sa}  {r:Bool}(h:slices_Equal_Simpl_SizeEdge_impl_SizeEdge a0 a1=some r):Sat ag 105 [(.sl false 3 (a0.map (al false))),(.sl false 3 (a1.map (al false)))] (B r):=by
 obtain⟨h,cs⟩:=aC h
 unfold slices_Equal_Simpl_SizeEdge_impl_SizeEdge at h
 refine aE (nt:=26) (rs:=[.tmp 4]) (n:=100000) Try.func105 rfl rfl rfl rfl (by simp) (S ?_)
 refine ap cs h (fun cs h=>S ?_) (fun cs h=>S ?_)
 ·refine bc (b:=false) (sz:=3) (es:=a0.map (al false)) 0 SC fun hl0=>?_; rw[aI] at hl0
  replace h:=run_loop h
  refine aY h (fun i4 s4=>[(0,.val (.pv (.sl false 3 (a0.map (al false))))),(1,.val (.pv (.sl false 3 (a1.map (al false))))),(12,.val (.pv (I (a0.length:Int)))),(13,.val (.pv (I (i4:Int))))]) (fun i4 s4=>[]) (au SC) (fun i4 s4 hi h=>?_) (fun s4 h=>?_)
  ·have w:=wrap_succ (i:=i4) (by omega)
   refine S ?_
   refine aS cs (by omega) (fun cs=>S ?_)
   obtain⟨v18,hv18,h⟩:=run_bind h
   refine az (f:=(al false)) hv18 SC (S ?_)
   obtain⟨v22,hv22,h⟩:=run_bind h
   refine az (f:=(al false)) hv22 SC (S ?_)
   refine aa (aP [] []) (S ?_)
   refine ap cs h (fun cs h=>S ?_) (fun cs h=>S ?_)
   ·have h:=run_some h
    refine aF ⟨_,h,?_⟩
    exact au SWx
   ·cases run_some h
    exact ah SC
  ·refine S ?_
   refine aW cs (by omega) (fun cs=>S ?_)
   cases run_some h
   exact ah SC
 ·cases run_some h
  exact ah SC

theorem impl_sameGraph_sat{a0:Sb}{a1:Sb}  {r:Bool}(h:impl_sameGraph a0 a1=some r):Sat ag 85 [((aj false) a0),((aj false) a1)] (B r):=by
 obtain⟨h,cs⟩:=aC h
 unfold impl_sameGraph at h
 refine aE (nt:=24) (rs:=[.tmp 4]) (n:=100000) Try.func85 rfl rfl rfl rfl (by simp) (S ?_)
 refine ap cs h (fun cs h=>S ?_) (fun cs h=>S ?_)
 ·refine ap cs h (fun cs h=>S ?_) (fun cs h=>S ?_)
  ·obtain⟨v22,hv22,h⟩:=run_bind h
   refine aw [false,false] (slices_Equal_Simpl_SizeEdge_impl_SizeEdge_sat hv22) SC (S ?_)
   cases run_some h
   exact ah SC
  ·cases run_some h
   exact ah SC
 ·cases run_some h
  exact ah SC

theorem impl_closure_1_1_sat{a0:ft}{b0:Sb}  {r:Bool}(h:impl_closure_1_1 a0 b0=some r):Sat ag 84 [((ft.pv false) a0),.ptr ((aj false) b0)] (B r):=by
 obtain⟨h,cs⟩:=aC h
 unfold impl_closure_1_1 at h
 refine aE (nt:=8) (rs:=[.tmp 3]) (n:=100000) Try.func84 rfl rfl rfl rfl (by simp) (S ?_)
 obtain⟨v7,hv7,h⟩:=run_bind h
 refine aw [false,false] (impl_sameGraph_sat hv7) SC (S ?_)
 cases run_some h
 exact ah SC

theorem slices_IndexFunc_Simpl_found_impl_found_sat{a0:List ft}{a1:ft→Option Bool}{a1_id:FuncId}{a1_cs:List PV}(a1_ok:∀ y0 r,a1 y0=some r→Sat ag a1_id (((ft.pv false) y0)::a1_cs) (B r))(a1_cz:CapsOk a1_cs=True){r:Int}(h:slices_IndexFunc_Simpl_found_impl_found a0 a1=some r):Sat ag 104 [(.sl false 4 (a0.map (ft.pv false))),.clo a1_id a1_cs] (I r):=by
 obtain⟨h,cs⟩:=aC h
 unfold slices_IndexFunc_Simpl_found_impl_found at h
 have cs:=aa a1_cz cs
 refine aE (nt:=19) (rs:=[.tmp 4]) (n:=100000) Try.func104 rfl rfl rfl rfl (by simp) (S ?_)
 refine bc (b:=false) (sz:=4) (es:=a0.map (ft.pv false)) 0 SC fun hl0=>?_; rw[aI] at hl0
 replace h:=run_loop h
 refine aY h (fun i2 s2=>[(0,.val (.pv (.sl false 4 (a0.map (ft.pv false))))),(1,.val (.pv (.clo a1_id a1_cs))),(7,.val (.pv (I (a0.length:Int)))),(8,.val (.pv (I (i2:Int))))]) (fun i2 s2=>[]) (au SC) (fun i2 s2 hi h=>?_) (fun s2 h=>?_)
 ·have w:=wrap_succ (i:=i2) (by omega)
  refine S ?_
  refine aS cs (by omega) (fun cs=>S ?_)
  obtain⟨v14,hv14,h⟩:=run_bind h
  refine az (f:=(ft.pv false)) hv14 SC (S ?_)
  obtain⟨v16,hv16,h⟩:=run_bind h
  refine aw [false] (a1_ok _ _ hv16) SC (S ?_)
  refine ap cs h (fun cs h=>S ?_) (fun cs h=>S ?_)
  ·cases run_some h
   exact ah SC
  ·have h:=run_some h
   refine aF ⟨_,h,?_⟩
   exact au SWx
 ·refine S ?_
  refine aW cs (by omega) (fun cs=>S ?_)
  cases run_some h
  exact ah SC

theorem slices_ContainsFunc_Simpl_found_impl_found_sat{a0:List ft}{a1:ft→Option Bool}{a1_id:FuncId}{a1_cs:List PV}(a1_ok:∀ y0 r,a1 y0=some r→Sat ag a1_id (((ft.pv false) y0)::a1_cs) (B r))(a1_cz:CapsOk a1_cs=True){r:Bool}(h:slices_ContainsFunc_Simpl_found_impl_found a0 a1=some r):Sat ag 83 [(.sl false 4 (a0.map (ft.pv false))),.clo a1_id a1_cs] (B r):=by
 obtain⟨h,cs⟩:=aC h
 unfold slices_ContainsFunc_Simpl_found_impl_found at h
 have cs:=aa a1_cz cs
 refine aE (nt:=9) (rs:=[.tmp 4]) (n:=100000) Try.func83 rfl rfl rfl rfl (by simp) (S ?_)
 obtain⟨v7,hv7,h⟩:=run_bind h
 refine aw [false,false] (slices_IndexFunc_Simpl_found_impl_found_sat a1_ok a1_cz hv7) SC (S ?_)
 cases run_some h
 exact ah SC

theorem impl_closure_1_sat{a0:Sb}{a1:List Int}{b0:List ft}  {r:Unit×(List ft)}(h:impl_closure_1 a0 a1 b0=some r):SatH ag 82 [((aj true) a0),(.sl true 1 (a1.map I))] [] .ptr [] (.pv (.sl true 4 (b0.map (ft.pv true)))) (.pv (.sl true 4 (r.2.map (ft.pv true)))) (.tup []):=by
 obtain⟨h,cs⟩:=aC h
 unfold impl_closure_1 at h
 refine SatH.of_kf (nt:=15) (rs:=[]) (n:=100000) 2 Try.func82 rfl rfl rfl rfl rfl (Nat.le_of_ble_eq_true rfl) (by decide) (by first | exact Nat.le_of_ble_eq_true rfl | exact SC) (S ?_)
 refine aR (S ?_)
 refine MgF.frz [(2,.val (.pv (.ptr (.sl false 4 (b0.map (ft.pv false)))))),(3,.val (.pv (.ptr (.agg [(I a0.Source),(I a0.Target),(.sl false 3 (a0.Edges.map (al false)))]))))] [5,6,7,8] SC (S ?_)
 refine MfH.fr (S ?_)
 obtain⟨v7,hv7,h⟩:=run_bind h
 refine aw [false,false] (slices_ContainsFunc_Simpl_found_impl_found_sat (fun _ _ hh=>impl_closure_1_1_sat hh) (by simp only[CapsOk_nil,CapsOk_cons]) hv7) SC (S ?_)
 refine ThawH.mk [(1,.val (.own 9002)),(2,.box (.own 9000)),(3,.box (.node [(.pv (I a0.Source)),(.pv (I a0.Target)),(.own 9001)])),(20000,gh 2)] [(8,.val (.pv (B (!v7))))] [(9002,(1,a1.map I)),(9000,(4,b0.map (ft.pv true))),(9001,(3,a0.Edges.map (al false)))] [] [] SC SC (by repeat (first | exact all_nil | refine all_cons ?_ ?_ | exact noC_empty _ _ ⟨by decide,rfl⟩ | exact noC_nilS _ _ ⟨by decide,rfl⟩ | refine noC_mk _ _ _ _ _ rfl ?_ | refine noC_mkS _ _ _ _ _ rfl ?_)) (S ?_)
 refine ap cs h (fun cs h=>S ?_) (fun cs h=>S ?_)
 ·cases run_some h
  exact RetHB.l SC
 ·refine aR (S ?_)
  obtain⟨v14,hv14,h⟩:=run_bind h
  refine AppH.mk (f:=(ft.pv true)) (fun a=>ft.psize _ a) hv14 SC SC (S ?_)
  cases run_some h
  exact RetHB.l SC

theorem slices_Clone_Simpl_SizeEdge_impl_SizeEdge_sat{a0:List Sa}  {r:List Sa}(h:slices_Clone_Simpl_SizeEdge_impl_SizeEdge a0=some r):Sat ag 96 [(.sl false 3 (a0.map (al false)))] (.sl true 3 (r.map (al false))):=by
 obtain⟨h,cs⟩:=aC h
 unfold slices_Clone_Simpl_SizeEdge_impl_SizeEdge at h
 refine aE (nt:=8) (rs:=[.tmp 2]) (n:=100000) Try.func96 rfl rfl rfl rfl (by simp) (S ?_)
 refine NilH.mk (fun e=>?_) ?_
 ·obtain rfl:a0=[]:=List.map_eq_nil_iff.1 e
  simp only[app_nn,Option.bind_some] at h
  refine S ?_
  cases run_some h
  exact ah SC
 ·skip
  refine S ?_
  obtain⟨v7,hv7,h⟩:=run_bind h
  refine AppH.mk (f:=(al false)) (fun a=>Sa.psize _ a) hv7 SC SC (S ?_)
  cases run_some h
  exact ah SC

theorem impl_copyGraph_sat{a0:Sb}  {r:Sb}(h:impl_copyGraph a0=some r):Sat ag 62 [((aj false) a0)] ((aj true) r):=by
 obtain⟨h,cs⟩:=aC h
 unfold impl_copyGraph at h
 refine aE (nt:=8) (rs:=[.cell 2 26]) (n:=100000) Try.func62 rfl rfl rfl rfl (by simp) (S ?_)
 obtain⟨v5,hv5,h⟩:=run_bind h
 refine aw [false] (slices_Clone_Simpl_SizeEdge_impl_SizeEdge_sat hv5) SC (S ?_)
 cases run_some h
 exact ah SC

theorem slices_BinarySearchFunc_Simpl_SizeEdge_impl_SizeEdge_impl_SizeEdge_sat{a0:List Sa}{a1:Sa}{a2:Sa→Sa→Option Int}{a2_id:FuncId}{a2_cs:List PV}(a2_ok:∀ y0 y1 r,a2 y0 y1=some r→Sat ag a2_id (((al false) y0)::((al false) y1)::a2_cs) (I r))(a2_cz:CapsOk a2_cs=True){r:Int×Bool}(h:slices_BinarySearchFunc_Simpl_SizeEdge_impl_SizeEdge_impl_SizeEdge a0 a1 a2=some r):Sat ag 72 [(.sl false 3 (a0.map (al false))),((al false) a1),.clo a2_id a2_cs] (.tup [(I r.1),(B r.2)]):=by
 obtain⟨h,cs⟩:=aC h
 unfold slices_BinarySearchFunc_Simpl_SizeEdge_impl_SizeEdge_impl_SizeEdge at h
 have cs:=aa a2_cz cs
 refine aE (nt:=49) (rs:=[.tmp 6,.tmp 7]) (n:=100000) Try.func72 rfl rfl rfl rfl (by simp) (S ?_)
 replace h:=run_loop h
 refine Mg.whileN h (fun s3=>[(0,.val (.pv (.sl false 3 (a0.map (al false))))),(2,.val (.pv (.clo a2_id a2_cs))),(4,.box (.pv ((al false) a1))),(8,.val (.pv (I (a0.length:Int)))),(9,.val (.pv (I s3.1))),(10,.val (.pv (I s3.2)))]) (fun s3=>[]) (au SC) (fun n3 s3 h=>?_)
 refine S ?_
 refine ap cs h (fun cs h=>S ?_) (fun cs h=>S ?_)
 ·obtain⟨v22,hv22,h⟩:=run_bind h
  refine ShrH.mk hv22 (S ?_)
  obtain⟨v27,hv27,h⟩:=run_bind h
  refine az (f:=(al false)) hv27 SC (S ?_)
  obtain⟨v30,hv30,h⟩:=run_bind h
  refine aw [false,false] (a2_ok _ _ _ hv30) SC (S ?_)
  refine aa (aP [] []) (S ?_)
  refine ap cs h (fun cs h=>S ?_) (fun cs h=>S ?_)
  ·have h:=run_some h
   refine aF ⟨_,h,?_⟩
   exact au SC
  ·have h:=run_some h
   refine aF ⟨_,h,?_⟩
   exact au SC
 ·have h:=run_some h
  refine ap cs h (fun cs h=>S ?_) (fun cs h=>S ?_)
  ·obtain⟨v43,hv43,h⟩:=run_bind h
   refine az (f:=(al false)) hv43 SC (S ?_)
   obtain⟨v46,hv46,h⟩:=run_bind h
   refine aw [false,false] (a2_ok _ _ _ hv46) SC (S ?_)
   refine aa (aP [] []) (S ?_)
   cases run_some h
   exact ah SC
  ·refine aa (aP [] []) (S ?_)
   cases run_some h
   exact ah SC


theorem impl_compose_sat{a0:Sb}{a1:Sb}  {r:Sb}(h:impl_compose a0 a1=some r):Sat ag 39 [((aj false) a0),((aj false) a1)] ((aj true) r):=by
 obtain⟨h,cs⟩:=aC h
 unfold impl_compose at h
 refine aE (nt:=81) (rs:=[.cell 4 26]) (n:=100000) Try.func39 rfl rfl rfl rfl (by simp) (S ?_)
 refine bc (b:=false) (sz:=3) (es:=a0.Edges.map (al false)) 19 SC fun hl19=>?_; rw[aI] at hl19
 replace h:=run_loop h
 refine aY h (fun i3 s3=>[(3,.box (.pv ((aj false) a1))),(4,.box (.node [(.pv (I 0)),(.pv (I 0)),(.pv (.sl true 3 []))])),(5,.box (.node [(.pv (I a0.Source)),(.pv (I a1.Target)),(.own 9309)])),(19,.val (.pv (.sl false 3 (a0.Edges.map (al false))))),(20,.val (.pv (I (a0.Edges.length:Int)))),(21,.val (.pv (I (i3:Int))))]) (fun i3 s3=>[(9309,(3,s3.map (al false)))]) (St.le_trans (St.le_nilB (x:=(.node [(.pv (I a0.Source)),(.pv (I a1.Target)),(.pv (.sl true 3 []))])) 5 [2] 9309 3 NM SC SC SC) (au SC)) (fun i3 s3 hi h=>?_) (fun s3 h=>?_)
 ·have w:=wrap_succ (i:=i3) (by omega)
  refine S ?_
  refine aS cs (by omega) (fun cs=>S ?_)
  obtain⟨v23,hv23,h⟩:=run_bind h
  refine az (f:=(al false)) hv23 SC (S ?_)
  refine bc (b:=false) (sz:=3) (es:=a1.Edges.map (al false)) 26 SC fun hl26=>?_; rw[aI] at hl26
  replace h:=run_loop h
  refine aY h (fun i6 s6=>[(3,.box (.pv ((aj false) a1))),(4,.box (.node [(.pv (I 0)),(.pv (I 0)),(.pv (.sl true 3 []))])),(5,.box (.node [(.pv (I a0.Source)),(.pv (I a1.Target)),(.own 9309)])),(7,.box (.pv ((al false) v23))),(19,.val (.pv (.sl false 3 (a0.Edges.map (al false))))),(20,.val (.pv (I (a0.Edges.length:Int)))),(21,.val (.pv (I (i3:Int)))),(26,.val (.pv (.sl false 3 (a1.Edges.map (al false))))),(27,.val (.pv (I (a1.Edges.length:Int)))),(28,.val (.pv (I (i6:Int))))]) (fun i6 s6=>[(9309,(3,s6.map (al false)))]) (au SC) (fun i6 s6 hi h=>?_) (fun s6 h=>?_)
  ·have w:=aa (wrap_succ (i:=i6) (by omega)) w
   refine S ?_
   refine aS cs (by omega) (fun cs=>S ?_)
   obtain⟨v30,hv30,h⟩:=run_bind h
   refine az (f:=(al false)) hv30 SC (S ?_)
   refine ap cs h (fun cs h=>S ?_) (fun cs h=>S ?_)
   ·refine ap cs h (fun cs h=>S ?_) (fun cs h=>S ?_)
    ·obtain⟨v52,hv52,h⟩:=run_bind h
     refine aw [false,false,false] (slices_BinarySearchFunc_Simpl_SizeEdge_impl_SizeEdge_impl_SizeEdge_sat (fun _ _ _ hh=>impl_compareEdges_sat hh) (by simp only[CapsOk_nil,CapsOk_cons]) hv52) SC (S ?_)
     refine ap cs h (fun cs h=>S ?_) (fun cs h=>S ?_)
     ·obtain⟨v62,hv62,h⟩:=run_bind h
      refine az (f:=(al false)) hv62 SC (S ?_)
      obtain⟨v64,hv64,h⟩:=run_bind h
      refine a8 (f:=(al false)) hv64 rfl SC (S ?_)
      refine ap cs h (fun cs h=>S ?_) (fun cs h=>S ?_)
      ·obtain⟨v69,hv69,h⟩:=run_bind h
       refine az (f:=(al false)) hv69 SC (S ?_)
       obtain⟨w7,hw7,h⟩:=run_bind h
       refine a8 (f:=(al false)) hw7 rfl SC (S ?_)
       refine aa (aP [] []) (S ?_)
       have h:=run_some h
       refine aF ⟨_,h,?_⟩
       exact au SWx
      ·obtain⟨v69,hv69,h⟩:=run_bind h
       refine az (f:=(al false)) hv69 SC (S ?_)
       obtain⟨w8,hw8,h⟩:=run_bind h
       refine a8 (f:=(al false)) hw8 rfl SC (S ?_)
       refine aa (aP [] []) (S ?_)
       have h:=run_some h
       refine aF ⟨_,h,?_⟩
       exact au SWx
     ·obtain⟨v76,hv76,h⟩:=run_bind h
      refine aw [true,false,true] (slices_InsertE_sat hv76) SC (S ?_)
      have h:=run_some h
      refine aF ⟨_,h,?_⟩
      refine St.le_rt 1216 9309 ?_
      exact au SWx
    ·obtain⟨v52,hv52,h⟩:=run_bind h
     refine aw [false,false,false] (slices_BinarySearchFunc_Simpl_SizeEdge_impl_SizeEdge_impl_SizeEdge_sat (fun _ _ _ hh=>impl_compareEdges_sat hh) (by simp only[CapsOk_nil,CapsOk_cons]) hv52) SC (S ?_)
     refine ap cs h (fun cs h=>S ?_) (fun cs h=>S ?_)
     ·obtain⟨v62,hv62,h⟩:=run_bind h
      refine az (f:=(al false)) hv62 SC (S ?_)
      obtain⟨v64,hv64,h⟩:=run_bind h
      refine a8 (f:=(al false)) hv64 rfl SC (S ?_)
      refine ap cs h (fun cs h=>S ?_) (fun cs h=>S ?_)
      ·obtain⟨v69,hv69,h⟩:=run_bind h
       refine az (f:=(al false)) hv69 SC (S ?_)
       obtain⟨w11,hw11,h⟩:=run_bind h
       refine a8 (f:=(al false)) hw11 rfl SC (S ?_)
       refine aa (aP [] []) (S ?_)
       have h:=run_some h
       refine aF ⟨_,h,?_⟩
       exact au SWx
      ·obtain⟨v69,hv69,h⟩:=run_bind h
       refine az (f:=(al false)) hv69 SC (S ?_)
       obtain⟨w12,hw12,h⟩:=run_bind h
       refine a8 (f:=(al false)) hw12 rfl SC (S ?_)
       refine aa (aP [] []) (S ?_)
       have h:=run_some h
       refine aF ⟨_,h,?_⟩
       exact au SWx
     ·obtain⟨v76,hv76,h⟩:=run_bind h
      refine aw [true,false,true] (slices_InsertE_sat hv76) SC (S ?_)
      have h:=run_some h
      refine aF ⟨_,h,?_⟩
      refine St.le_rt 1216 9309 ?_
      exact au SWx
   ·have h:=run_some h
    refine aF ⟨_,h,?_⟩
    exact au SWx
  ·refine S ?_
   refine aW cs (by omega) (fun cs=>S ?_)
   have h:=run_some h
   refine aF ⟨_,h,?_⟩
   exact au SWx
 ·refine S ?_
  refine aW cs (by omega) (fun cs=>S ?_)
  cases run_some h
  exact ah SC

theorem slices_Clone_Sint_int_sat{a0:List Int}  {r:List Int}(h:slices_Clone_Sint_int a0=some r):Sat ag 86 [(.sl false 1 (a0.map I))] (.sl true 1 (r.map I)):=by
 obtain⟨h,cs⟩:=aC h
 unfold slices_Clone_Sint_int at h
 refine aE (nt:=8) (rs:=[.tmp 2]) (n:=100000) Try.func86 rfl rfl rfl rfl (by simp) (S ?_)
 refine NilH.mk (fun e=>?_) ?_
 ·obtain rfl:a0=[]:=List.map_eq_nil_iff.1 e
  simp only[app_nn,Option.bind_some] at h
  refine S ?_
  cases run_some h
  exact ah SC
 ·skip
  refine S ?_
  obtain⟨v7,hv7,h⟩:=run_bind h
  refine AppH.mk (f:=I) (fun _=>rfl) hv7 SC SC (S ?_)
  cases run_some h
  exact ah SC

theorem impl_closure_sat{a0:Ct}  {r:(List ft)×Bool}(h:impl_closure a0=some r):Sat ag 44 [((Ct.pv false) a0)] (.tup [(.sl true 4 (r.1.map (ft.pv true))),(B r.2)]):=by
 obtain⟨h,cs⟩:=aC h
 unfold impl_closure at h
 refine Sat.of_mf (nt:=74) (rs:=[.tmp 2,.tmp 3]) (n:=100000) Try.func44 rfl rfl rfl rfl (by simp) (S ?_)
 refine aR (S ?_)
 refine aR (S ?_)
 refine aR (S ?_)
 refine MfH.hcl (r:=4) (x:=(.own 176)) [] [] [] [true] [] rfl rfl rfl SC (S ?_)
 refine aR (S ?_)
 refine MgF.know_sl (b:=false) (sz:=3) (es:=a0.Calls.map (aj false)) 14 SC fun hl14=>?_; rw[aI] at hl14
 replace h:=run_loop h
 refine MgF.forN h (fun i4 s4=>[(1,.box (.pv ((Ct.pv false) a0))),(4,.box (.own 176)),(5,.hptr 4 (.clo 82 [true]) []),(14,.val (.pv (.sl false 3 (a0.Calls.map (aj false))))),(15,.val (.pv (I (a0.Calls.length:Int)))),(16,.val (.pv (I (i4:Int))))]) (fun i4 s4=>[(176,(4,s4.map (ft.pv true)))]) (au SC) (fun i4 s4 hi h=>?_) (fun s4 h=>?_)
 ·have w:=wrap_succ (i:=i4) (by omega)
  refine S ?_
  refine aR (S ?_)
  refine aS cs (by omega) (fun cs=>S ?_)
  refine aR (S ?_)
  obtain⟨v19,hv19,h⟩:=run_bind h
  refine az (f:=(aj false)) hv19 SC (S ?_)
  refine aR (S ?_)
  obtain⟨v23,hv23,h⟩:=run_bind h
  refine aw [false] (impl_copyGraph_sat hv23) SC (S ?_)
  obtain⟨v26,hv26,h⟩:=run_bind h
  refine HandH.callC (r:=4) (hc:=.cv (.own 176)) (pre:=[(.agg [(I v23.Source),(I v23.Target),(.sl true 3 (v23.Edges.map (al false)))]),(.sl true 1 (([(i4:Int)]).map I))]) [true] [] [] [] [(.node [(.pv (I v23.Source)),(.pv (I v23.Target)),(.own 368)]),(.own 400)] [true,true] (impl_closure_1_sat hv26) rfl (by simp only[CapsOk_nil,CapsOk_cons]) SC (S ?_)
  refine aR (S ?_)
  have h:=run_some h
  refine aF ⟨_,h,?_⟩
  refine St.le_rt 416 176 ?_
  exact au SWx
 ·refine S ?_
  refine aR (S ?_)
  refine aW cs (by omega) (fun cs=>S ?_)
  refine aR (S ?_)
  replace h:=run_loop h
  refine MgF.whileN h (fun s9=>[(1,.box (.pv ((Ct.pv false) a0))),(4,.box (.own 176)),(5,.hptr 4 (.clo 82 [true]) []),(8,.val (.pv (I s9.2)))]) (fun s9=>[(176,(4,s9.1.map (ft.pv true)))]) (au SC) (fun n9 s9 h=>?_)
  refine S ?_
  refine aR (S ?_)
  refine ap cs h (fun cs h=>S ?_) (fun cs h=>S ?_)
  ·refine aR (S ?_)
   refine MgF.know_sl (b:=false) (sz:=3) (es:=a0.Calls.map (aj false)) 35 SC fun hl35=>?_; rw[aI] at hl35
   replace h:=run_loop h
   refine MgF.forN h (fun i12 s12=>[(1,.box (.pv ((Ct.pv false) a0))),(4,.box (.own 176)),(5,.hptr 4 (.clo 82 [true]) []),(8,.val (.pv (I s9.2))),(35,.val (.pv (.sl false 3 (a0.Calls.map (aj false))))),(36,.val (.pv (I (a0.Calls.length:Int)))),(37,.val (.pv (I (i12:Int))))]) (fun i12 s12=>[(176,(4,s12.map (ft.pv true)))]) (au SC) (fun i12 s12 hi h=>?_) (fun s12 h=>?_)
   ·have w:=wrap_succ (i:=i12) (by omega)
    refine S ?_
    refine aR (S ?_)
    refine aS cs (by omega) (fun cs=>S ?_)
    refine aR (S ?_)
    obtain⟨v40,hv40,h⟩:=run_bind h
    refine az (f:=(aj false)) hv40 SC (S ?_)
    refine MgF.drw (S ?_)
    obtain⟨v46,hv46,h⟩:=run_bind h
    refine az (f:=(ft.pv true)) hv46 SC (S ?_)
    obtain⟨v49,hv49,h⟩:=run_bind h
    refine a8 (f:=(ft.pv true)) hv49 rfl SC (S ?_)
    refine aa (aP [] []) (S ?_)
    refine ap cs h (fun cs h=>S ?_) (fun cs h=>S ?_)
    ·refine MgF.frzD [(4,.val (.pv (.ptr (.sl false 4 (s12.map (ft.pv false)))))),(8,.val (.pv (I s9.2))),(9,.val (.pv (I (i12:Int)))),(10,.val (.pv (.ptr ((aj false) v40))))] [51,52,53,54,55,56,57,58,59,60,61,62,63,64,65,66,67] 17 5 mixed SC rfl rfl (fun u=>?_)
     refine S ?_
     obtain⟨v54,hv54,h⟩:=run_bind h
     refine az (f:=(ft.pv false)) hv54 SC (S ?_)
     obtain⟨v58,hv58,h⟩:=run_bind h
     refine aw [false,false] (impl_compose_sat hv58) SC (S ?_)
     obtain⟨v61,hv61,h⟩:=run_bind h
     refine az (f:=(ft.pv false)) hv61 SC (S ?_)
     obtain⟨v64,hv64,h⟩:=run_bind h
     refine aw [false] (slices_Clone_Sint_int_sat hv64) SC (S ?_)
     obtain⟨v67,hv67,h⟩:=run_bind h
     refine AppH.mk (f:=I) (fun _=>rfl) hv67 SC SC (S ?_)
     refine aa (aP [] [928,1024,1056,1072]) (S ?_)
     refine ThawH.mkC [(1,.box (.pv ((Ct.pv false) a0))),(4,.box (.own 176)),(5,.hptr 4 (.clo 82 [true]) []),(8,.val (.pv (I s9.2))),(35,.val (.pv (.sl false 3 (a0.Calls.map (aj false))))),(36,.val (.pv (I (a0.Calls.length:Int)))),(37,.val (.pv (I (i12:Int))))] [(58,.val (.node [(.pv (I v58.Source)),(.pv (I v58.Target)),(.own 928)])),(67,.val (.own 1072))] [(176,(4,s12.map (ft.pv true)))] [(928,(3,v58.Edges.map (al false))),(1072,(1,v67.map I))] [928,1072] 51 4 (.clo 82 [true]) [] SC SC SC SC (by repeat (first | exact all_nil | refine all_cons ?_ ?_ | exact noC_empty _ _ ⟨by decide,rfl⟩ | exact noC_nilS _ _ ⟨by decide,rfl⟩ | refine noC_mk _ _ _ _ _ rfl ?_ | refine noC_mkS _ _ _ _ _ rfl ?_)) (S ?_)
     obtain⟨v68,hv68,h⟩:=run_bind h
     refine HandH.callC (r:=4) (hc:=.cv (.own 176)) (pre:=[(.agg [(I v58.Source),(I v58.Target),(.sl true 3 (v58.Edges.map (al false)))]),(.sl true 1 (v67.map I))]) [true] [] [] [] [(.node [(.pv (I v58.Source)),(.pv (I v58.Target)),(.own 928)]),(.own 1072)] [true,true] (impl_closure_1_sat hv68) rfl (by simp only[CapsOk_nil,CapsOk_cons]) SC (S ?_)
     refine aR (S ?_)
     have h:=run_some h
     refine aF ⟨_,h,?_⟩
     refine St.le_rt 1088 176 ?_
     exact au SWx
    ·refine aR (S ?_)
     have h:=run_some h
     refine aF ⟨_,h,?_⟩
     exact au SWx
   ·refine S ?_
    refine aR (S ?_)
    refine aR (S ?_)
    refine ap cs h (fun cs h=>S ?_) (fun cs h=>S ?_)
    ·refine aR (S ?_)
     cases run_some h
     exact ah SC
    ·refine aR (S ?_)
     have h:=run_some h
     refine aF ⟨_,h,?_⟩
     exact au SC
  ·have h:=run_some h
   refine aR (S ?_)
   cases run_some h
   exact ah SC

theorem impl_isIdempotent_sat{a0:Sb}  {r:Bool}(h:impl_isIdempotent a0=some r):Sat ag 53 [((aj false) a0)] (B r):=by
 obtain⟨h,cs⟩:=aC h
 unfold impl_isIdempotent at h
 refine aE (nt:=15) (rs:=[.tmp 2]) (n:=100000) Try.func53 rfl rfl rfl rfl (by simp) (S ?_)
 refine ap cs h (fun cs h=>S ?_) (fun cs h=>S ?_)
 ·obtain⟨v11,hv11,h⟩:=run_bind h
  refine aw [false,false] (impl_compose_sat hv11) SC (S ?_)
  obtain⟨v13,hv13,h⟩:=run_bind h
  refine aw [false,false] (impl_sameGraph_sat hv13) SC (S ?_)
  refine aa (aP [] [176]) (S ?_)
  cases run_some h
  exact ah SC
 ·refine aa (aP [] []) (S ?_)
  cases run_some h
  exact ah SC

theorem impl_TraceDefect_1_sat{a0:Sa}  {r:Bool}(h:impl_TraceDefect_1 a0=some r):Sat ag 55 [((al false) a0)] (B r):=by
 obtain⟨h,cs⟩:=aC h
 unfold impl_TraceDefect_1 at h
 refine aE (nt:=12) (rs:=[.tmp 2]) (n:=100000) Try.func55 rfl rfl rfl rfl (by simp) (S ?_)
 refine ap cs h (fun cs h=>S ?_) (fun cs h=>S ?_)
 ·cases run_some h
  exact ah SC
 ·cases run_some h
  exact ah SC

theorem impl_TraceDefect_sat{a0:Ct}  {r:(List Int)×Bool}(h:impl_TraceDefect a0=some r):Sat ag 19 [((Ct.pv false) a0)] (.tup [(.sl true 1 (r.1.map I)),(B r.2)]):=by
 obtain⟨h,cs⟩:=aC h
 unfold impl_TraceDefect at h
 refine Sat.of_mf (nt:=37) (rs:=[.tmp 2,.tmp 3]) (n:=100000) Try.func19 rfl rfl rfl rfl (by simp) (S ?_)
 refine aR (S ?_)
 refine aR (S ?_)
 obtain⟨v9,hv9,h⟩:=run_bind h
 refine aw [false] (impl_IsValidCyclic_sat hv9) SC (S ?_)
 refine ap cs h (fun cs h=>S ?_) (fun cs h=>S ?_)
 ·refine aR (S ?_)
  obtain⟨v13,hv13,h⟩:=run_bind h
  refine aw [false] (impl_closure_sat hv13) SC (S ?_)
  refine aR (S ?_)
  refine ap cs h (fun cs h=>S ?_) (fun cs h=>S ?_)
  ·refine aR (S ?_)
   refine MgF.know_own (sz:=4) (es:=v13.1.map (ft.pv true)) 208 SC fun hl4=>?_; rw[aI] at hl4
   replace h:=run_loop h
   refine MgF.forG (fun i (g:List PV)=>g.length=i) [] rfl h (fun i7 s7 g7=>[(18,.val (.own 208)),(19,.val (.pv (I (v13.1.length:Int)))),(20,.val (.pv (I (i7:Int))))]) (fun i7 s7 g7=>[(208,(4,g7++(v13.1.map (ft.pv true)).drop i7))]) (au SC) (fun i7 s7 g7 hi hg h=>?_) (fun s7 g7 hg h=>?_)
   ·have w:=wrap_succ (i:=i7) (by omega)
    refine S ?_
    refine aR (S ?_)
    refine aS cs (by omega) (fun cs=>S ?_)
    obtain⟨v22,hv22,h⟩:=run_bind h
    refine MgF.vseq (S ?_)
    refine ai (S ?_)
    refine IdxH.raw (by simp only[aH,List.length_drop,aI]; omega) (S ?_)
    refine VSeq.takeG (c:=208) (sz:=4) (fx:=ft.pv true) (row:=.agg [.agg [I v22.graph.Source,I v22.graph.Target,.sl true 3 (v22.graph.Edges.map (al false))],.sl true 1 (v22.path.map I)]) hv22 hg rfl rfl rfl rfl rfl SC (fun _ e=>nomatch e) (S fun q7=>?_)
    refine ai (S ?_)
    refine ai (S ?_)
    refine aQ (Nat.le_of_eq rfl) (S ?_)
    refine aR (S ?_)
    obtain⟨v26,hv26,h⟩:=run_bind h
    refine aw [false] (impl_isIdempotent_sat hv26) SC (S ?_)
    refine ap cs h (fun cs h=>S ?_) (fun cs h=>S ?_)
    ·obtain⟨v31,hv31,h⟩:=run_bind h
     refine aw [false,false] (slices_ContainsFunc_Simpl_SizeEdge_impl_SizeEdge_sat (fun _ _ hh=>impl_TraceDefect_1_sat hh) (by simp only[CapsOk_nil,CapsOk_cons]) hv31) SC (S ?_)
     refine ap cs h (fun cs h=>S ?_) (fun cs h=>S ?_)
     ·refine aR (S ?_)
      have h:=run_some h
      refine RdH.g _ (g7++[q7]) (by simp only[aH,List.length_singleton,hg]) h ?_
      exact au SWx
     ·refine aR (S ?_)
      cases run_some h
      exact ah SC
    ·refine aR (S ?_)
     have h:=run_some h
     refine RdH.g _ (g7++[q7]) (by simp only[aH,List.length_singleton,hg]) h ?_
     exact au SWx
   ·refine S ?_
    refine aR (S ?_)
    refine aW cs (by omega) (fun cs=>S ?_)
    refine aR (S ?_)
    cases run_some h
    exact ah SC
  ·refine aR (S ?_)
   cases run_some h
   exact ah SC
 ·refine aR (S ?_)
  cases run_some h
  exact ah SC

theorem eqIntS_sat{a0:List Int}{a1:List Int}  {r:Bool}(h:eqIntS a0 a1=some r):Sat ag 20 [(.sl false 1 (a0.map I)),(.sl false 1 (a1.map I))] (B r):=by
 obtain⟨h,cs⟩:=aC h
 unfold eqIntS at h
 refine aE (nt:=26) (rs:=[.tmp 4]) (n:=100000) Try.func20 rfl rfl rfl rfl (by simp) (S ?_)
 refine ap cs h (fun cs h=>S ?_) (fun cs h=>S ?_)
 ·refine bc (b:=false) (sz:=1) (es:=a0.map I) 0 SC fun hl0=>?_; rw[aI] at hl0
  replace h:=run_loop h
  refine aY h (fun i4 s4=>[(0,.val (.pv (.sl false 1 (a0.map I)))),(1,.val (.pv (.sl false 1 (a1.map I)))),(5,.val (.pv (I (i4:Int))))]) (fun i4 s4=>[]) (au SC) (fun i4 s4 hi h=>?_) (fun s4 h=>?_)
  ·have w:=wrap_succ (i:=i4) (by omega)
   refine S ?_
   refine aS cs (by omega) (fun cs=>S ?_)
   obtain⟨v19,hv19,h⟩:=run_bind h
   refine az (f:=I) hv19 SC (S ?_)
   obtain⟨v23,hv23,h⟩:=run_bind h
   refine az (f:=I) hv23 SC (S ?_)
   refine aa (aP [] []) (S ?_)
   refine ap cs h (fun cs h=>S ?_) (fun cs h=>S ?_)
   ·have h:=run_some h
    refine aF ⟨_,h,?_⟩
    exact au SWx
   ·cases run_some h
    exact ah SC
  ·refine S ?_
   refine aW cs (by omega) (fun cs=>S ?_)
   cases run_some h
   exact ah SC
 ·cases run_some h
  exact ah SC

theorem eqSizeEdge_sat{a0:Sa}{a1:Sa}  {r:Bool}(h:eqSizeEdge a0 a1=some r):Sat ag 108 [((al false) a0),((al false) a1)] (B r):=by
 obtain⟨h,cs⟩:=aC h
 unfold eqSizeEdge at h
 refine aE (nt:=20) (rs:=[.tmp 4]) (n:=100000) Try.func108 rfl rfl rfl rfl (by simp) (S ?_)
 refine ap cs h (fun cs h=>S ?_) (fun cs h=>S ?_)
 ·refine ap cs h (fun cs h=>S ?_) (fun cs h=>S ?_)
  ·refine ap cs h (fun cs h=>S ?_) (fun cs h=>S ?_)
   ·cases run_some h
    exact ah SC
   ·cases run_some h
    exact ah SC
  ·cases run_some h
   exact ah SC
 ·cases run_some h
  exact ah SC

theorem eqSizeEdgeS_sat{a0:List Sa}{a1:List Sa}  {r:Bool}(h:eqSizeEdgeS a0 a1=some r):Sat ag 94 [(.sl false 3 (a0.map (al false))),(.sl false 3 (a1.map (al false)))] (B r):=by
 obtain⟨h,cs⟩:=aC h
 unfold eqSizeEdgeS at h
 refine aE (nt:=27) (rs:=[.tmp 4]) (n:=100000) Try.func94 rfl rfl rfl rfl (by simp) (S ?_)
 refine ap cs h (fun cs h=>S ?_) (fun cs h=>S ?_)
 ·refine bc (b:=false) (sz:=3) (es:=a0.map (al false)) 0 SC fun hl0=>?_; rw[aI] at hl0
  replace h:=run_loop h
  refine aY h (fun i4 s4=>[(0,.val (.pv (.sl false 3 (a0.map (al false))))),(1,.val (.pv (.sl false 3 (a1.map (al false))))),(5,.val (.pv (I (i4:Int))))]) (fun i4 s4=>[]) (au SC) (fun i4 s4 hi h=>?_) (fun s4 h=>?_)
  ·have w:=wrap_succ (i:=i4) (by omega)
   refine S ?_
   refine aS cs (by omega) (fun cs=>S ?_)
   obtain⟨v19,hv19,h⟩:=run_bind h
   refine az (f:=(al false)) hv19 SC (S ?_)
   obtain⟨v23,hv23,h⟩:=run_bind h
   refine az (f:=(al false)) hv23 SC (S ?_)
   obtain⟨v25,hv25,h⟩:=run_bind h
   refine aw [false,false] (eqSizeEdge_sat hv25) SC (S ?_)
   refine aa (aP [] []) (S ?_)
   refine ap cs h (fun cs h=>S ?_) (fun cs h=>S ?_)
   ·have h:=run_some h
    refine aF ⟨_,h,?_⟩
    exact au SWx
   ·cases run_some h
    exact ah SC
  ·refine S ?_
   refine aW cs (by omega) (fun cs=>S ?_)
   cases run_some h
   exact ah SC
 ·cases run_some h
  exact ah SC

theorem eqSizeGraph_sat{a0:Sb}{a1:Sb}  {r:Bool}(h:eqSizeGraph a0 a1=some r):Sat ag 56 [((aj false) a0),((aj false) a1)] (B r):=by
 obtain⟨h,cs⟩:=aC h
 unfold eqSizeGraph at h
 refine aE (nt:=21) (rs:=[.tmp 4]) (n:=100000) Try.func56 rfl rfl rfl rfl (by simp) (S ?_)
 refine ap cs h (fun cs h=>S ?_) (fun cs h=>S ?_)
 ·refine ap cs h (fun cs h=>S ?_) (fun cs h=>S ?_)
  ·obtain⟨v19,hv19,h⟩:=run_bind h
   refine aw [false,false] (eqSizeEdgeS_sat hv19) SC (S ?_)
   refine ap cs h (fun cs h=>S ?_) (fun cs h=>S ?_)
   ·cases run_some h
    exact ah SC
   ·cases run_some h
    exact ah SC
  ·cases run_some h
   exact ah SC
 ·cases run_some h
  exact ah SC

theorem eqSizeGraphS_sat{a0:List Sb}{a1:List Sb}  {r:Bool}(h:eqSizeGraphS a0 a1=some r):Sat ag 25 [(.sl false 3 (a0.map (aj false))),(.sl false 3 (a1.map (aj false)))] (B r):=by
 obtain⟨h,cs⟩:=aC h
 unfold eqSizeGraphS at h
 refine aE (nt:=27) (rs:=[.tmp 4]) (n:=100000) Try.func25 rfl rfl rfl rfl (by simp) (S ?_)
 refine ap cs h (fun cs h=>S ?_) (fun cs h=>S ?_)
 ·refine bc (b:=false) (sz:=3) (es:=a0.map (aj false)) 0 SC fun hl0=>?_; rw[aI] at hl0
  replace h:=run_loop h
  refine aY h (fun i4 s4=>[(0,.val (.pv (.sl false 3 (a0.map (aj false))))),(1,.val (.pv (.sl false 3 (a1.map (aj false))))),(5,.val (.pv (I (i4:Int))))]) (fun i4 s4=>[]) (au SC) (fun i4 s4 hi h=>?_) (fun s4 h=>?_)
  ·have w:=wrap_succ (i:=i4) (by omega)
   refine S ?_
   refine aS cs (by omega) (fun cs=>S ?_)
   obtain⟨v19,hv19,h⟩:=run_bind h
   refine az (f:=(aj false)) hv19 SC (S ?_)
   obtain⟨v23,hv23,h⟩:=run_bind h
   refine az (f:=(aj false)) hv23 SC (S ?_)
   obtain⟨v25,hv25,h⟩:=run_bind h
   refine aw [false,false] (eqSizeGraph_sat hv25) SC (S ?_)
   refine aa (aP [] []) (S ?_)
   refine ap cs h (fun cs h=>S ?_) (fun cs h=>S ?_)
   ·have h:=run_some h
    refine aF ⟨_,h,?_⟩
    exact au SWx
   ·cases run_some h
    exact ah SC
  ·refine S ?_
   refine aW cs (by omega) (fun cs=>S ?_)
   cases run_some h
   exact ah SC
 ·cases run_some h
  exact ah SC

theorem eqCyclicProof_sat{a0:Ct}{a1:Ct}  {r:Bool}(h:eqCyclicProof a0 a1=some r):Sat ag 21 [((Ct.pv false) a0),((Ct.pv false) a1)] (B r):=by
 obtain⟨h,cs⟩:=aC h
 unfold eqCyclicProof at h
 refine aE (nt:=17) (rs:=[.tmp 4]) (n:=100000) Try.func21 rfl rfl rfl rfl (by simp) (S ?_)
 obtain⟨v9,hv9,h⟩:=run_bind h
 refine aw [false,false] (eqIntS_sat hv9) SC (S ?_)
 refine ap cs h (fun cs h=>S ?_) (fun cs h=>S ?_)
 ·obtain⟨v15,hv15,h⟩:=run_bind h
  refine aw [false,false] (eqSizeGraphS_sat hv15) SC (S ?_)
  refine ap cs h (fun cs h=>S ?_) (fun cs h=>S ?_)
  ·cases run_some h
   exact ah SC
  ·cases run_some h
   exact ah SC
 ·cases run_some h
  exact ah SC

theorem markIntS_sat{a0:List Int}{a1:Int}  {r:Int×(List Int)}(h:markIntS a0 a1=some r):SatIO ag 23 [(.sl true 1 (a0.map I)),(I a1)] [(.sl true 1 (r.2.map I)),(I a1)] (I r.1):=by
 obtain⟨h,cs⟩:=aC h
 unfold markIntS at h
 refine SatIO.of_m (nt:=19) (rs:=[.tmp 4]) (n:=100000) Try.func23 rfl rfl rfl rfl (by simp) (S ?_)
 replace h:=run_loop h
 refine Mg.whileN h (fun s2=>[(0,.val (.own 10000)),(1,.val (.pv (I s2.2.1))),(5,.val (.pv (I s2.2.2)))]) (fun s2=>[(10000,(1,s2.1.map I))]) (au SC) (fun n2 s2 h=>?_)
 refine S ?_
 refine ap cs h (fun cs h=>S ?_) (fun cs h=>S ?_)
 ·obtain⟨v15,hv15,h⟩:=run_bind h
  refine az (f:=I) hv15 SC (S ?_)
  obtain⟨w2,hw2,h⟩:=run_bind h
  refine a8 (f:=I) hw2 rfl SC (S ?_)
  have h:=run_some h
  refine aF ⟨_,h,?_⟩
  exact au SC
 ·have h:=run_some h
  cases run_some h
  exact FinIO.mk SC

theorem markSizeEdgeS_sat{a0:List Sa}{a1:Int}  {r:Int×(List Sa)}(h:markSizeEdgeS a0 a1=some r):SatIO ag 57 [(.sl true 3 (a0.map (al false))),(I a1)] [(.sl true 3 (r.2.map (al false))),(I a1)] (I r.1):=by
 obtain⟨h,cs⟩:=aC h
 unfold markSizeEdgeS at h
 refine SatIO.of_m (nt:=36) (rs:=[.tmp 4]) (n:=100000) Try.func57 rfl rfl rfl rfl (by simp) (S ?_)
 replace h:=run_loop h
 refine Mg.whileN h (fun s2=>[(0,.val (.own 10000)),(1,.val (.pv (I s2.2.1))),(5,.val (.pv (I s2.2.2)))]) (fun s2=>[(10000,(3,s2.1.map (al false)))]) (au SC) (fun n2 s2 h=>?_)
 refine S ?_
 refine ap cs h (fun cs h=>S ?_) (fun cs h=>S ?_)
 ·obtain⟨v15,hv15,h⟩:=run_bind h
  refine az (f:=(al false)) hv15 SC (S ?_)
  obtain⟨w2,hw2,h⟩:=run_bind h
  refine a8 (f:=(al false)) hw2 rfl SC (S ?_)
  obtain⟨v22,hv22,h⟩:=run_bind h
  refine az (f:=(al false)) hv22 SC (S ?_)
  obtain⟨w3,hw3,h⟩:=run_bind h
  refine a8 (f:=(al false)) hw3 rfl SC (S ?_)
  obtain⟨v29,hv29,h⟩:=run_bind h
  refine remH.mk hv29 (S ?_)
  obtain⟨v31,hv31,h⟩:=run_bind h
  refine az (f:=(al false)) hv31 SC (S ?_)
  obtain⟨w4,hw4,h⟩:=run_bind h
  refine a8 (f:=(al false)) hw4 rfl SC (S ?_)
  have h:=run_some h
  refine aF ⟨_,h,?_⟩
  exact au SC
 ·have h:=run_some h
  cases run_some h
  exact FinIO.mk SC

theorem markSizeGraphS_sat{a0:List Sb}{a1:Int}  {r:Int×(List Sb)}(h:markSizeGraphS a0 a1=some r):SatIO ag 26 [(.sl true 3 (a0.map (aj true))),(I a1)] [(.sl true 3 (r.2.map (aj true))),(I a1)] (I r.1):=by
 obtain⟨h,cs⟩:=aC h
 unfold markSizeGraphS at h
 refine SatIO.of_mi (nt:=34) (rs:=[.tmp 4]) (n:=100000) Try.func26 rfl rfl rfl rfl (by simp) (S ?_)
 refine ai (S ?_)
 refine aQ (Nat.le_of_eq rfl) (S ?_)
 refine ai (S ?_)
 refine aQ (Nat.le_of_eq rfl) (S ?_)
 replace h:=run_loop h
 refine MgI.whileN h (fun s2=>[(0,.val (.own 10000)),(1,.val (.pv (I s2.2.1))),(5,.val (.pv (I s2.2.2)))]) (fun s2=>[(10000,(3,s2.1.map (aj true)))]) (au SC) (fun n2 s2 h=>?_)
 refine S ?_
 refine ai (S ?_)
 refine ai (S ?_)
 refine ai (S ?_)
 refine ai (S ?_)
 refine aQ (Nat.le_of_eq rfl) (S ?_)
 refine ap cs h (fun cs h=>S ?_) (fun cs h=>S ?_)
 ·refine ai (S ?_)
  refine ai (S ?_)
  refine ai (S ?_)
  refine ai (S ?_)
  obtain⟨v15,hv15,h⟩:=run_bind h
  refine az (f:=(aj true)) hv15 SC (S ?_)
  refine ai (S ?_)
  refine ai (S ?_)
  obtain⟨w2,hw2,h⟩:=run_bind h
  refine a8 (f:=(aj true)) hw2 rfl SC (S ?_)
  refine aQ (Nat.le_of_eq rfl) (S ?_)
  refine ai (S ?_)
  refine ai (S ?_)
  refine ai (S ?_)
  refine aQ (Nat.le_of_eq rfl) (S ?_)
  refine ai (S ?_)
  refine ai (S ?_)
  refine ai (S ?_)
  refine ai (S ?_)
  obtain⟨v22,hv22,h⟩:=run_bind h
  refine az (f:=(aj true)) hv22 SC (S ?_)
  refine ai (S ?_)
  refine ai (S ?_)
  obtain⟨w3,hw3,h⟩:=run_bind h
  refine a8 (f:=(aj true)) hw3 rfl SC (S ?_)
  refine aQ (Nat.le_of_eq rfl) (S ?_)
  refine ai (S ?_)
  refine ai (S ?_)
  refine ai (S ?_)
  refine aQ (Nat.le_of_eq rfl) (S ?_)
  refine ai (S ?_)
  refine ai (S ?_)
  refine ai (S ?_)
  obtain⟨v28,hv28,h⟩:=run_bind h
  refine az (f:=(aj true)) hv28 SC (S ?_)
  refine ai (S ?_)
  obtain⟨w4,hw4,h⟩:=run_bind h
  obtain⟨v32,hv32,h⟩:=run_bind h
  refine VSeq.innerM (fx:=(aj true)) (c:=10000) (sz:=3) (p:=[2]) (off:=2) (h1:=rfl) (h3:=rfl) (h2:=rfl) rfl rfl rfl rfl rfl rfl rfl rfl rfl hw4 (markSizeEdgeS_sat hv32) SC SC (S ?_)
  refine ai (S ?_)
  refine aQ (Nat.le_of_eq rfl) (S ?_)
  refine ai (S ?_)
  refine ai (S ?_)
  refine ai (S ?_)
  refine aQ (Nat.le_of_eq rfl) (S ?_)
  have h:=run_some h
  refine aF ⟨_,h,?_⟩
  exact au SC
 ·have h:=run_some h
  refine ai (S ?_)
  refine ai (S ?_)
  refine aQ (Nat.le_of_eq rfl) (S ?_)
  cases run_some h
  exact FinIO.mk SC

theorem markCyclicProof_sat{a0:Ct}{a1:Int}  {r:Int×(List Int)×(List Sb)}(h:markCyclicProof a0 a1=some r):SatIO ag 22 [((Ct.pv true) a0),(I a1)] [((Ct.pv true) (Ct.mk r.2.1 r.2.2)),(I a1)] (I r.1):=by
 obtain⟨h,cs⟩:=aC h
 unfold markCyclicProof at h
 refine SatIO.of_m (nt:=14) (rs:=[.tmp 4]) (n:=100000) Try.func22 rfl rfl rfl rfl (by simp) (S ?_)
 obtain⟨v8,hv8,h⟩:=run_bind h
 refine CallH.io [(.own 10000),(.pv (I a1))] [(10000,(1,v8.2.map I))] (markIntS_sat hv8) SC (S ?_)
 obtain⟨v12,hv12,h⟩:=run_bind h
 refine CallH.io [(.own 10001),(.pv (I v8.1))] [(10001,(3,v12.2.map (aj true)))] (markSizeGraphS_sat hv12) SC (S ?_)
 cases run_some h
 exact FinIO.mk SC

theorem heldIntS_sat{a0:List Int}{a1:Int}  {r:Int}(h:heldIntS a0 a1=some r):Sat ag 24 [(.sl false 1 (a0.map I)),(I a1)] (I r):=by
 obtain⟨h,cs⟩:=aC h
 unfold heldIntS at h
 refine aE (nt:=21) (rs:=[.tmp 4]) (n:=100000) Try.func24 rfl rfl rfl rfl (by simp) (S ?_)
 refine bc (b:=false) (sz:=1) (es:=a0.map I) 0 SC fun hl0=>?_; rw[aI] at hl0
 replace h:=run_loop h
 refine aY h (fun i2 s2=>[(0,.val (.pv (.sl false 1 (a0.map I)))),(1,.val (.pv (I s2))),(5,.val (.pv (I (i2:Int))))]) (fun i2 s2=>[]) (au SC) (fun i2 s2 hi h=>?_) (fun s2 h=>?_)
 ·have w:=wrap_succ (i:=i2) (by omega)
  refine S ?_
  refine aS cs (by omega) (fun cs=>S ?_)
  obtain⟨v14,hv14,h⟩:=run_bind h
  refine az (f:=I) hv14 SC (S ?_)
  refine ap cs h (fun cs h=>S ?_) (fun cs h=>S ?_)
  ·have h:=run_some h
   refine aF ⟨_,h,?_⟩
   exact au SWx
  ·cases run_some h
   exact ah SC
 ·refine S ?_
  refine aW cs (by omega) (fun cs=>S ?_)
  cases run_some h
  exact ah SC

theorem FnExactTraceDefect_sat{a0:Ct}  {r:Bool}(h:FnExactTraceDefect a0=some r):Sat ag 4 [((Ct.pv false) a0)] (B r):=by
 obtain⟨h,cs⟩:=aC h
 unfold FnExactTraceDefect at h
 refine aE (nt:=96) (rs:=[.tmp 2]) (n:=100000) Try.func4 rfl rfl rfl rfl (by simp) (S ?_)
 obtain⟨v16,hv16,h⟩:=run_bind h
 refine aw [false,false] (szCyclicProof_sat hv16) SC (S ?_)
 refine ap cs h (fun cs h=>S ?_) (fun cs h=>S ?_)
 ·cases run_some h
  exact ah SC
 ·obtain⟨v21,hv21,h⟩:=run_bind h
  refine aw [false] (toCyclicProof_sat hv21) SC (S ?_)
  obtain⟨v22,hv22,h⟩:=run_bind h
  refine aw [true] (Sat.give (args:=[(.agg [(.sl true 1 (v21.Arities.map I)),(.sl true 3 (v21.Calls.map (aj true)))])]) [true] (by have gg:=spec_TraceDefect_sat hv22; simp only[gv_t,gv_f,gv_n,view_sl,view_agg,view_lit,views_repB,views_repI,PV.views,RB,RS] at gg ⊢; exact gg)) SC (S ?_)
  obtain⟨v26,hv26,h⟩:=run_bind h
  refine aw [false] (toCyclicProof_sat hv26) SC (S ?_)
  obtain⟨v29,hv29,h⟩:=run_bind h
  refine aw [false] (impl_TraceDefect_sat hv29) SC (S ?_)
  obtain⟨v34,hv34,h⟩:=run_bind h
  refine aw [false,false] (eqIntS_sat hv34) SC (S ?_)
  refine ap cs h (fun cs h=>S ?_) (fun cs h=>S ?_)
  ·refine ap cs h (fun cs h=>S ?_) (fun cs h=>S ?_)
   ·obtain⟨v43,hv43,h⟩:=run_bind h
    refine aw [false] (toCyclicProof_sat hv43) SC (S ?_)
    obtain⟨v44,hv44,h⟩:=run_bind h
    refine aw [false,false] (eqCyclicProof_sat hv44) SC (S ?_)
    refine aa (aP [] [688,689]) (S ?_)
    refine ap cs h (fun cs h=>S ?_) (fun cs h=>S ?_)
    ·obtain⟨v48,hv48,h⟩:=run_bind h
     refine CallH.io [(.node [(.own 416),(.own 417)]),(.pv (I 1))] [(416,(1,v48.2.1.map I)),(417,(3,v48.2.2.map (aj true)))] (markCyclicProof_sat hv48) SC (S ?_)
     refine ap cs h (fun cs h=>S ?_) (fun cs h=>S ?_)
     ·cases run_some h
      exact ah SC
     ·obtain⟨v54,hv54,h⟩:=run_bind h
      refine aw [false,false] (eqIntS_sat hv54) SC (S ?_)
      refine ap cs h (fun cs h=>S ?_) (fun cs h=>S ?_)
      ·obtain⟨v64,hv64,h⟩:=run_bind h
       refine CallH.io [(.own 464),(.pv (I 1))] [(464,(1,v64.2.map I))] (markIntS_sat hv64) SC (S ?_)
       obtain⟨v67,hv67,h⟩:=run_bind h
       refine aw [false,false] (heldIntS_sat hv67) SC (S ?_)
       refine ap cs h (fun cs h=>S ?_) (fun cs h=>S ?_)
       ·cases run_some h
        exact ah SC
       ·refine ap cs h (fun cs h=>S ?_) (fun cs h=>S ?_)
        ·obtain⟨v75,hv75,h⟩:=run_bind h
         refine aw [false] (toCyclicProof_sat hv75) SC (S ?_)
         obtain⟨v76,hv76,h⟩:=run_bind h
         refine aw [false] (impl_TraceDefect_sat hv76) SC (S ?_)
         obtain⟨v81,hv81,h⟩:=run_bind h
         refine aw [false,false] (eqIntS_sat hv81) SC (S ?_)
         refine ap cs h (fun cs h=>S ?_) (fun cs h=>S ?_)
         ·refine ap cs h (fun cs h=>S ?_) (fun cs h=>S ?_)
          ·obtain⟨v90,hv90,h⟩:=run_bind h
           refine aw [false,false] (heldIntS_sat hv90) SC (S ?_)
           refine ap cs h (fun cs h=>S ?_) (fun cs h=>S ?_)
           ·cases run_some h
            exact ah SC
           ·refine ap cs h (fun cs h=>S ?_) (fun cs h=>S ?_)
            ·cases run_some h
             exact ah SC
            ·cases run_some h
             exact ah SC
          ·cases run_some h
           exact ah SC
         ·cases run_some h
          exact ah SC
        ·cases run_some h
         exact ah SC
      ·cases run_some h
       exact ah SC
    ·cases run_some h
     exact ah SC
   ·cases run_some h
    exact ah SC
  ·cases run_some h
   exact ah SC

end Go.Proofs.Ytjpljobgioglmaa
