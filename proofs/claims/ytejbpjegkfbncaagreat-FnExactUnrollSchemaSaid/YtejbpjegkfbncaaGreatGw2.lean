/- Lemmas of the proof; each says what it shows. -/
import Derived.Test.YtejbpjegkfbncaaGreatGw1
set_option linter.unusedSimpArgs false
set_option linter.unusedVariables false
set_option linter.defProp false
set_option maxRecDepth 4000
namespace Go.Proofs.YtejbpjegkfbncaaGreat
open Go.Av
open And renaming intro→ae
open AppH renaming c→aO
open CallH renaming c→ai
open CondH renaming t3→aE,run→ah,f3→aF
open Dt renaming pv→aq
open Ft renaming pv→aj
open IdxH renaming c→av
open List renaming length_map→aB
open Mg renaming know_sl→aL,forN→aG
open RdH renaming z→aJ,mk→aW
open Sa renaming pv→aM
open St renaming le_trans→bp
open Tryz renaming prog→ag
open Tt renaming pv→al
open VSeq renaming step→au,nil→aV
set_option maxHeartbeats 4000000
theorem sCS_5{a0:List (List Ft)}  {r:List Ft}(h:sCS_1 a0=some r):Sat ag 219 [(.sl false 1 (a0.map (Lv false 5 (aj false))))] (.sl true 5 (r.map (aj false))):=by
 obtain⟨h,cs⟩:=Ro_ h
 unfold sCS_1 at h
 refine Sg_ 36 [.tmp 2] Tryz.func219 (h:=S ?_)
 refine aL (b:=false) (sz:=1) (es:=a0.map (Lv false 5 (aj false))) 0 SC fun hl0=>?_; rw[aB] at hl0
 refine aG (rl_ h) (fun i3 s3=>[(0,.val (.pv (.sl false 1 (a0.map (Lv false 5 (aj false)))))),(3,.val (.pv (I s3))),(9,.val (.pv (.sl false 1 (a0.map (Lv false 5 (aj false)))))),(10,.val (.pv (I (a0.length:Int)))),(11,.val (.pv (I (i3:Int))))]) (fun i3 s3=>[]) (Slm_ SC) (fun i3 s3 hi h=>?_) (fun s3 h=>?_)
 ·have w:=ws_ i3
  refine S ?_
  refine aE cs fun cs=>S ?_
  refine rb_ h fun v13 q h=>IdxH.mk (f:=(Lv false 5 (aj false))) q SC (S ?_)
  refine ah cs h (fun cs h=>S ?_) fun cs h=>S ?_
  ·exact rn_ h
  ·exact aJ h
 ·refine S ?_
  refine aF cs fun cs=>S ?_
  refine rb_ h fun v24 q h=>CHn_ (h:=sGS_1 q) (by refine S ?_; exact NM) (S ?_)
  refine aL (b:=false) (sz:=1) (es:=a0.map (Lv false 5 (aj false))) 0 SC fun hl0=>?_; rw[aB] at hl0
  refine aG (rl_ h) (fun i11 s11=>[(6,.val (.own 384)),(25,.val (.pv (.sl false 1 (a0.map (Lv false 5 (aj false)))))),(26,.val (.pv (I (a0.length:Int)))),(27,.val (.pv (I (i11:Int))))]) (fun i11 s11=>[(384,(5,s11.map (aj false)))]) (Slm_ SC) (fun i11 s11 hi h=>?_) (fun s11 h=>?_)
  ·have w:=ws_ i11
   refine S ?_
   refine aE cs fun cs=>S ?_
   refine rb_ h fun v29 q h=>IdxH.mk (f:=(Lv false 5 (aj false))) q SC (S ?_)
   refine rb_ h fun v33 q h=>aO (aj false) (fun a=>Ft.psize _ a) q (S ?_)
   have h:=rs_ h
   refine aW ⟨_,h,?_⟩
   refine Slr_ 528 384 ?_
   exact Slm_ SWx
  ·refine S ?_
   exact FHz_ h

theorem icF_4{a0:List Ft}  {r:List Ft}(h:icF_3 a0=some r):Sat ag 77 [(.sl false 5 (a0.map (aj false)))] (.sl true 5 (r.map (aj true))):=by
 obtain⟨h,cs⟩:=Ro_ h
 unfold icF_3 at h
 refine Sg_ 20 [.tmp 2] Tryz.func77 (h:=S ?_)
 refine aL (b:=false) (sz:=5) (es:=a0.map (aj false)) 0 SC fun hl0=>?_; rw[aB] at hl0
 refine aG (rl_ h) (fun i3 s3=>[(3,.val (.own 96)),(7,.val (.pv (.sl false 5 (a0.map (aj false))))),(8,.val (.pv (I (a0.length:Int)))),(9,.val (.pv (I (i3:Int))))]) (fun i3 s3=>[(96,(5,s3.map (aj true)))]) (Slm_ SC) (fun i3 s3 hi h=>?_) (fun s3 h=>?_)
 ·have w:=ws_ i3
  refine S ?_
  refine aE cs fun cs=>S ?_
  refine rb_ h fun v11 q h=>av (aj false) q (S ?_)
  refine rb_ h fun v15 q h=>ai [false] (icF_2 q) (S ?_)
  refine rb_ h fun v17 q h=>aO (aj true) (fun a=>Ft.psize _ a) q (S ?_)
  have h:=rs_ h
  refine aW ⟨_,h,?_⟩
  refine Slr_ 272 96 ?_
  exact Slm_ SWx
 ·refine S ?_
  refine aF cs fun cs=>S ?_
  exact FHz_ h

theorem icS_1{a0:Sa}  {r:Sa}(h:icS_ a0=some r):Sat ag 70 [((aM false) a0)] ((aM true) r):=by
 obtain⟨h,cs⟩:=Ro_ h
 unfold icS_ at h
 refine Sg_ 10 [.cell 2 38] Tryz.func70 (h:=S ?_)
 refine rb_ h fun v5 q h=>ai [false] (icF_4 q) (S ?_)
 refine rb_ h fun v8 q h=>ai [false] (icF_4 q) (S ?_)
 refine ae (DHa_ [] [80,128]) (S ?_)
 exact FHz_ h

theorem ips_{a0:Sa}{a1:Dt}  {r:(List Sa)×Bool}(h:ip_ a0 a1=some r):Sat ag 208 [((aM false) a0),((aq false) a1)] (.tup [(.sl true 2 (r.1.map (aM true))),(B r.2)]):=by
 obtain⟨h,cs⟩:=Ro_ h
 unfold ip_ at h
 refine Sg_ 54 [.tmp 4,.tmp 5] Tryz.func208 (h:=S ?_)
 refine rb_ h fun v15 q h=>ai [false,false] (ias_ q) (S ?_)
 refine ah cs h (fun cs h=>S ?_) fun cs h=>S ?_
 ·refine aL (b:=false) (sz:=2) (es:=v15.1.map (aM false)) 6 SC fun hl6=>?_; rw[aB] at hl6
  refine aG (rl_ h) (fun i6 s6=>[(2,.box (.pv ((aM false) a0))),(3,.box (.pv ((aq false) a1))),(8,.val (.own 320)),(21,.val (.pv (.sl false 2 (v15.1.map (aM false))))),(22,.val (.pv (I (v15.1.length:Int)))),(23,.val (.pv (I (i6:Int))))]) (fun i6 s6=>[(320,(2,s6.map (aM true)))]) (Slm_ SC) (fun i6 s6 hi h=>?_) (fun s6 h=>?_)
  ·have w:=ws_ i6
   refine S ?_
   refine aE cs fun cs=>S ?_
   refine rb_ h fun v25 q h=>av (aM false) q (S ?_)
   refine rb_ h fun v30 q h=>ai [false,false,false] (SvO_ (res':=(.sl false 5 (v30.map (aj false)))) (iDr_3 q) (by simp only[vt_,vs_,va_,vl_,PV.views,RB,RS])) (S ?_)
   refine rb_ h fun v34 q h=>ai [true] (Sg_1 (args:=[(.sl true 1 (([v30,v25.Left]).map (Lv false 5 (aj false))))]) [true] (by have gg:=sCS_5 q; simp only[gv_t,gv_f,gv_n,vs_,va_,vl_,vrB_,vrI_,PV.views,RB,RS] at gg ⊢; exact gg)) (S ?_)
   refine rb_ h fun v38 q h=>ai [false,false,false] (SvO_ (res':=(.sl false 5 (v38.map (aj false)))) (iDr_3 q) (by simp only[vt_,vs_,va_,vl_,PV.views,RB,RS])) (S ?_)
   refine rb_ h fun v42 q h=>ai [true] (Sg_1 (args:=[(.sl true 1 (([v38,v25.Right]).map (Lv false 5 (aj false))))]) [true] (by have gg:=sCS_5 q; simp only[gv_t,gv_f,gv_n,vs_,va_,vl_,vrB_,vrI_,PV.views,RB,RS] at gg ⊢; exact gg)) (S ?_)
   refine rb_ h fun v44 q h=>ai [false] (icS_1 q) (S ?_)
   refine ae (DHa_ [11] [528,544,656,672,704,705]) (S ?_)
   refine rb_ h fun v46 q h=>ai [false] (iIV_12 q) (S ?_)
   refine ah cs h (fun cs h=>S ?_) fun cs h=>S ?_
   ·refine rb_ h fun v51 q h=>aO (aM true) (fun a=>Sa.psize _ a) q (S ?_)
    have h:=rs_ h
    refine aW ⟨_,h,?_⟩
    refine Slr_ 816 320 ?_
    exact Slm_ SWx
   ·exact FHz_ h
  ·refine S ?_
   refine aF cs fun cs=>S ?_
   exact FHz_ h
 ·exact FHz_ h

theorem iPO_1{a0:Sa}{a1:Dt}  {r:(List Sa)×Bool}(h:iPO_ a0 a1=some r):Sat ag 182 [((aM false) a0),((aq false) a1)] (.tup [(.sl true 2 (r.1.map (aM true))),(B r.2)]):=by
 obtain⟨h,cs⟩:=Ro_ h
 unfold iPO_ at h
 refine Sg_ 14 [.tmp 4,.tmp 5] Tryz.func182 (h:=S ?_)
 refine rb_ h fun v7 q h=>ai [false] (iIV_12 q) (S ?_)
 refine ah cs h (fun cs h=>S ?_) fun cs h=>S ?_
 ·refine rb_ h fun v11 q h=>ai [false,false] (ips_ q) (S ?_)
  exact FHz_ h
 ·exact FHz_ h

theorem isF_4{a0:List Ft}{a1:List Ft}  {r:Bool}(h:isF_1 a0 a1=some r):Sat ag 67 [(.sl false 5 (a0.map (aj false))),(.sl false 5 (a1.map (aj false)))] (B r):=by
 obtain⟨h,cs⟩:=Ro_ h
 unfold isF_1 at h
 refine Sg_ 8 [.tmp 4] Tryz.func67 (h:=S ?_)
 refine rb_ h fun v7 q h=>ai [false,false,false] (sEF_3 (fun _ _ _ hh=>isF_3 hh) (by simp only[COn_,COc_]) q) (S ?_)
 exact FHz_ h

theorem isS_1{a0:Sa}{a1:Sa}  {r:Bool}(h:isS_ a0 a1=some r):Sat ag 185 [((aM false) a0),((aM false) a1)] (B r):=by
 obtain⟨h,cs⟩:=Ro_ h
 unfold isS_ at h
 refine Sg_ 17 [.tmp 4] Tryz.func185 (h:=S ?_)
 refine rb_ h fun v9 q h=>ai [false,false] (isF_4 q) (S ?_)
 refine ah cs h (fun cs h=>S ?_) fun cs h=>S ?_
 ·refine rb_ h fun v15 q h=>ai [false,false] (isF_4 q) (S ?_)
  exact FHz_ h
 ·exact FHz_ h

theorem iiR_2{a0:Sa}{a1:Dt}  {r:Bool}(h:iiR_1 a0 a1=some r):Sat ag 184 [((aM false) a0),((aq false) a1)] (B r):=by
 obtain⟨h,cs⟩:=Ro_ h
 unfold iiR_1 at h
 refine Sg_ 9 [.tmp 4] Tryz.func184 (h:=S ?_)
 refine rb_ h fun v8 q h=>ai [false,false] (isS_1 q) (S ?_)
 exact FHz_ h

theorem sEF_4{a0:List Sa}{a1:List Dt}{a2:Sa→Dt→Option Bool}{a2_id:FuncId}{a2_cs:List PV}(a2_ok:∀ y0 y1 r,a2 y0 y1=some r→Sat ag a2_id (((aM false) y0)::((aq false) y1)::a2_cs) (B r))(a2_cz:CO_ a2_cs=True){r:Bool}(h:sEF_1 a0 a1 a2=some r):Sat ag 183 [(.sl false 2 (a0.map (aM false))),(.sl false 12 (a1.map (aq false))),.clo a2_id a2_cs] (B r):=by
 obtain⟨h,cs⟩:=Ro_ h
 unfold sEF_1 at h
 have cs:=ae a2_cz cs
 refine Sg_ 32 [.tmp 6] Tryz.func183 (h:=S ?_)
 refine ah cs h (fun cs h=>S ?_) fun cs h=>S ?_
 ·refine aL (b:=false) (sz:=2) (es:=a0.map (aM false)) 0 SC fun hl0=>?_; rw[aB] at hl0
  refine aG (rl_ h) (fun i4 s4=>[(1,.val (.pv (.sl false 12 (a1.map (aq false))))),(2,.val (.pv (.clo a2_id a2_cs))),(15,.val (.pv (.sl false 2 (a0.map (aM false))))),(16,.val (.pv (I (a0.length:Int)))),(17,.val (.pv (I (i4:Int))))]) (fun i4 s4=>[]) (Slm_ SC) (fun i4 s4 hi h=>?_) (fun s4 h=>?_)
  ·have w:=ws_ i4
   refine S ?_
   refine aE cs fun cs=>S ?_
   refine rb_ h fun v20 q h=>av (aM false) q (S ?_)
   refine rb_ h fun v24 q h=>av (aq false) q (S ?_)
   refine rb_ h fun v29 q h=>ai [false,false] (a2_ok _ _ _ q) (S ?_)
   refine ah cs h (fun cs h=>S ?_) fun cs h=>S ?_
   ·exact aJ h
   ·exact FHz_ h
  ·refine S ?_
   refine aF cs fun cs=>S ?_
   exact FHz_ h
 ·exact FHz_ h

theorem iiR_3{a0:Dt}  {r:Bool}(h:iiR_ a0=some r):Sat ag 163 [((aq false) a0)] (B r):=by
 obtain⟨h,cs⟩:=Ro_ h
 unfold iiR_ at h
 refine Sg_ 19 [.tmp 2] Tryz.func163 (h:=S ?_)
 refine rb_ h fun v9 q h=>ai [false,false] (iPO_1 q) (S ?_)
 refine ah cs h (fun cs h=>S ?_) fun cs h=>S ?_
 ·refine rb_ h fun v17 q h=>ai [false,false,false] (sEF_4 (fun _ _ _ hh=>iiR_2 hh) (by simp only[COn_,COc_]) q) (S ?_)
  exact FHz_ h
 ·exact FHz_ h

theorem ifW_2(n:Nat):(∀ (a0:Dt) (r:(List Int)×Bool),ifW_ n a0=some r→Sat ag 139 [((aq false) a0)] (.tup [(.sl true 1 (r.1.map I)),(B r.2)])):=by
 induction n with
 | zero=>exact fun _ _ h=>by simp[ifW_] at h
 | succ n ih=>
  refine fun a0 r h=>?_
  obtain⟨h,cs⟩:=Ro_ h
  rw[ifW_] at h
  refine Sg_ 31 [.tmp 2,.tmp 3] Tryz.func139 (h:=S ?_)
  refine rb_ h fun v9 q h=>ai [false] (iiR_3 q) (S ?_)
  refine ah cs h (fun cs h=>S ?_) fun cs h=>S ?_
  ·refine aL (b:=false) (sz:=12) (es:=a0.Parts.map (aq false)) 13 SC fun hl13=>?_; rw[aB] at hl13
   refine aG (rl_ h) (fun i4 s4=>[(13,.val (.pv (.sl false 12 (a0.Parts.map (aq false))))),(14,.val (.pv (I (a0.Parts.length:Int)))),(15,.val (.pv (I (i4:Int))))]) (fun i4 s4=>[]) (Slm_ SC) (fun i4 s4 hi h=>?_) (fun s4 h=>?_)
   ·have w:=ws_ i4
    refine S ?_
    refine aE cs fun cs=>S ?_
    refine rb_ h fun v18 q h=>av (aq false) q (S ?_)
    refine rb_ h fun v22 q h=>ai [false] (ih _ _ q) (S ?_)
    refine ah cs h (fun cs h=>S ?_) fun cs h=>S ?_
    ·refine rb_ h fun v29 q h=>aO I (fun _=>rfl) q (S ?_)
     exact FHz_ h
    ·exact aJ h
   ·refine S ?_
    refine aF cs fun cs=>S ?_
    exact FHz_ h
  ·exact FHz_ h
theorem ifW_3{a0:Dt}{r:(List Int)×Bool}(h:ifW_1 a0=some r):Sat ag 139 [((aq false) a0)] (.tup [(.sl true 1 (r.1.map I)),(B r.2)]):=by
 obtain⟨n,hn⟩:=ls_ h
 exact(ifW_2 n) _ _ hn

theorem iFW_1{a0:Dt}  {r:(List Int)×Bool×Bool}(h:iFW_ a0=some r):Sat ag 108 [((aq false) a0)] (.tup [(.sl true 1 (r.1.map I)),(B r.2.1),(B r.2.2)]):=by
 obtain⟨h,cs⟩:=Ro_ h
 unfold iFW_ at h
 refine Sg_ 17 [.tmp 2,.tmp 3,.tmp 4] Tryz.func108 (h:=S ?_)
 refine rb_ h fun v8 q h=>ai [false] (irN_3 q) (S ?_)
 refine ah cs h (fun cs h=>S ?_) fun cs h=>S ?_
 ·exact FHz_ h
 ·refine rb_ h fun v12 q h=>ai [false] (ifW_3 q) (S ?_)
  exact FHz_ h

theorem iIV_4{a0:Dt}  {r:Bool}(h:iIV_1 a0=some r):Sat ag 63 [((aq false) a0)] (B r):=by
 obtain⟨h,cs⟩:=Ro_ h
 unfold iIV_1 at h
 refine Sg_ 17 [.tmp 2] Tryz.func63 (h:=S ?_)
 refine rb_ h fun v8 q h=>ai [false] (iFW_1 q) (S ?_)
 refine ah cs h (fun cs h=>S ?_) fun cs h=>S ?_
 ·exact FHz_ h
 ·exact FHz_ h

theorem izs_   {r:Tt}(h:iz_  =some r):Sat ag 65 [] ((al true) r):=by
 obtain⟨h,cs⟩:=Ro_ h
 unfold iz_ at h
 refine Sg_ 2 [.cell 0 41] Tryz.func65 (h:=S ?_)
 exact FHz_ h

theorem iSi_1{a0:Sb}{a1:List Ft}{a2:Tt}  {r:Bool}(h:iSi_ a0 a1 a2=some r):Sat ag 64 [((Sb.pv false) a0),(.sl false 5 (a1.map (aj false))),((al false) a2)] (B r):=by
 obtain⟨h,cs⟩:=Ro_ h
 unfold iSi_ at h
 refine Sg_ 31 [.tmp 6] Tryz.func64 (h:=S ?_)
 refine rb_ h fun v15 q h=>ai [false,false,false] (iSF_1 q) (S ?_)
 refine ah cs h (fun cs h=>S ?_) fun cs h=>S ?_
 refine ah cs h (fun cs h=>S ?_) fun cs h=>S ?_
 ·refine rb_ h fun v26 q h=>av (aj false) q (S ?_)
  refine rb_ h fun v29 q h=>ai [false,false] (isF_3 q) (S ?_)
  refine ae (DHa_ [] []) (S ?_)
  exact FHz_ h
 all_goals
  refine ae (DHa_ [] []) (S ?_)
  exact FHz_ h

theorem iss_{a0:Tt}  {r:Tt}(h:is_ a0=some r):Sat ag 66 [((al true) a0)] ((al true) r):=by
 obtain⟨h,cs⟩:=Ro_ h
 unfold is_ at h
 refine Sg_ 6 [.cell 2 41] Tryz.func66 (h:=S ?_)
 exact FHz_ h

theorem sCS_6{a0:List Ft}  {r:List Ft}(h:sCS_3 a0=some r):Sat ag 68 [(.sl false 5 (a0.map (aj false)))] (.sl true 5 (r.map (aj false))):=by
 obtain⟨h,cs⟩:=Ro_ h
 unfold sCS_3 at h
 refine Sg_ 8 [.tmp 2] Tryz.func68 (h:=S ?_)
 refine NilH.mk (fun e=>?_) ?_
 ·obtain rfl:a0=[]:=List.map_eq_nil_iff.1 e
  simp only[an_1,Option.bind_some] at h
  refine S ?_
  exact FHz_ h
 ·skip
  refine S ?_
  refine rb_ h fun v7 q h=>aO (aj false) (fun a=>Ft.psize _ a) q (S ?_)
  exact FHz_ h

theorem iiN_2{a0:Ft}{b0:ByteArray}  {r:Bool}(h:iiN_ a0 b0=some r):Sat ag 112 [((aj false) a0),.ptr (Sx b0)] (B r):=by
 obtain⟨h,cs⟩:=Ro_ h
 unfold iiN_ at h
 refine Sg_ 8 [.tmp 3] Tryz.func112 (h:=S ?_)
 refine rb_ h fun v5 q h=>ai [false] (ifs_ q) (S ?_)
 refine rb_ h fun v7 q h=>ai [false,false] (sCS_2 q) (S ?_)
 refine ae (DHa_ [] [80]) (S ?_)
 exact FHz_ h

theorem iiN_3{a0:ByteArray}{a1:List Ft}  {r:Bool}(h:iiN_1 a0 a1=some r):Sat ag 69 [(Sx a0),(.sl false 5 (a1.map (aj false)))] (B r):=by
 obtain⟨h,cs⟩:=Ro_ h
 unfold iiN_1 at h
 refine Sg_ 9 [.tmp 4] Tryz.func69 (h:=S ?_)
 refine MfH.fr (S ?_)
 refine rb_ h fun v7 q h=>ai [false,false] (sCF_1 (fun _ _ hh=>iiN_2 hh) (by simp only[COn_,COc_]) q) (S ?_)
 exact FHz_ h

theorem iIV_13{a0:Sb}  {r:Bool}(h:iIV_9 a0=some r):Sat ag 21 [((Sb.pv false) a0)] (B r):=by
 obtain⟨h,cs⟩:=Ro_ h
 unfold iIV_9 at h
 refine Sg_ 68 [.tmp 2] Tryz.func21 (h:=S ?_)
 refine rb_ h fun v6 q h=>ai [false] (iiV_1 q) (S ?_)
 refine ah cs h (fun cs h=>S ?_) fun cs h=>S ?_
 refine rb_ h fun v11 q h=>ai [false] (iIV_5 q) (S ?_)
 refine ah cs h (fun cs h=>S ?_) fun cs h=>S ?_
 refine rb_ h fun v17 q h=>ai [false] (iIV_4 q) (S ?_)
 refine ah cs h (fun cs h=>S ?_) fun cs h=>S ?_
 refine rb_ h fun v23 q h=>ai [false] (iIV_4 q) (S ?_)
 refine ah cs h (fun cs h=>S ?_) fun cs h=>S ?_
 refine rb_ h fun v35 q h=>ai [] (izs_ q) (S ?_)
 refine rb_ h fun v36 q h=>ai [false,false,false] (iSi_1 q) (S ?_)
 refine ah cs h (fun cs h=>S ?_) fun cs h=>S ?_
 refine rb_ h fun v46 q h=>ai [true] (iss_ q) (S ?_)
 refine rb_ h fun v47 q h=>ai [false,false,false] (iSi_1 q) (S ?_)
 refine ah cs h (fun cs h=>S ?_) fun cs h=>S ?_
 refine rb_ h fun v55 q h=>ai [false] (sCS_6 q) (S ?_)
 refine rb_ h fun v59 q h=>aO (aj false) (fun a=>Ft.psize _ a) q (S ?_)
 refine rb_ h fun v60 q h=>ai [false,false] (isF_4 q) (S ?_)
 refine ah cs h (fun cs h=>S ?_) fun cs h=>S ?_
 ·refine rb_ h fun v66 q h=>ai [false,false] (iiN_3 q) (S ?_)
  refine ae (DHa_ [] [560,736,880,928,944]) (S ?_)
  exact FHz_ h
 ·refine ae (DHa_ [] [560,736,880,928,944]) (S ?_)
  exact FHz_ h
 ·refine ae (DHa_ [] [560,736]) (S ?_)
  exact FHz_ h
 ·refine ae (DHa_ [] [560]) (S ?_)
  exact FHz_ h
 all_goals
  exact FHz_ h

theorem icD_3(n:Nat):(∀ (a0:Dt) (r:Dt),icD_ n a0=some r→Sat ag 23 [((aq false) a0)] ((aq true) r)):=by
 induction n with
 | zero=>exact fun _ _ h=>by simp[icD_] at h
 | succ n ih=>
  refine fun a0 r h=>?_
  obtain⟨h,cs⟩:=Ro_ h
  rw[icD_] at h
  refine Sg_ 36 [.cell 2 46] Tryz.func23 (h:=S ?_)
  refine rb_ h fun v10 q h=>ai [false] (icS_1 q) (S ?_)
  refine rb_ h fun v15 q h=>ai [false] (icT_2 q) (S ?_)
  refine rb_ h fun v18 q h=>ai [false] (icF_2 q) (S ?_)
  refine ae (DHa_ [3] [160,161,240,288,289]) (S ?_)
  refine aL (b:=false) (sz:=12) (es:=a0.Parts.map (aq false)) 21 SC fun hl21=>?_; rw[aB] at hl21
  refine aG (rl_ h) (fun i3 s3=>[(2,.box zab0),(3,.box (.node [(.pv (I a0.Rule)),(.node [(.own 160),(.own 161)]),(.pv (I a0.Main)),(.node [(.pv (Sx v15.Name)),(.own 240)]),(.node [(.pv (I v18.Op)),(.node [(.pv (Sx v18.Atom.Name)),(.own 288)]),(.pv (Sx v18.Var)),(.own 289)]),(.own 9309)])),(21,.val (.pv (.sl false 12 (a0.Parts.map (aq false))))),(22,.val (.pv (I (a0.Parts.length:Int)))),(23,.val (.pv (I (i3:Int))))]) (fun i3 s3=>[(160,(5,v10.Left.map (aj true))),(161,(5,v10.Right.map (aj true))),(240,(2,v15.Args.map (al true))),(288,(2,v18.Atom.Args.map (al true))),(289,(5,v18.Parts.map (aj true))),(9309,(12,s3.map (aq true)))]) (bp (Sln_ (x:=(.node [(.pv (I a0.Rule)),(.node [(.own 160),(.own 161)]),(.pv (I a0.Main)),(.node [(.pv (Sx v15.Name)),(.own 240)]),(.node [(.pv (I v18.Op)),(.node [(.pv (Sx v18.Atom.Name)),(.own 288)]),(.pv (Sx v18.Var)),(.own 289)]),(.pv (.sl true 12 []))])) 3 [5] 9309 12 NM SC SC SC) (Slm_ SC)) (fun i3 s3 hi h=>?_) (fun s3 h=>?_)
  ·have w:=ws_ i3
   refine S ?_
   refine aE cs fun cs=>S ?_
   refine rb_ h fun v25 q h=>av (aq false) q (S ?_)
   refine rb_ h fun v30 q h=>ai [false] (ih _ _ q) (S ?_)
   refine rb_ h fun v32 q h=>aO (aq true) (fun a=>Dt.psize _ a) q (S ?_)
   refine ae (DHa_ [] [480,481,482,483,484,485,496,512]) (S ?_)
   have h:=rs_ h
   refine aW ⟨_,h,?_⟩
   refine Slr_ 512 9309 ?_
   exact Slm_ SWx
  ·refine S ?_
   refine aF cs fun cs=>S ?_
   exact FHz_ h
theorem icD_2{a0:Dt}{r:Dt}(h:icD_1 a0=some r):Sat ag 23 [((aq false) a0)] ((aq true) r):=by
 obtain⟨n,hn⟩:=ls_ h
 exact(icD_3 n) _ _ hn

theorem ins_{a0:Int}  {r:Tt}(h:in_1 a0=some r):Sat ag 74 [(I a0)] ((al true) r):=by
 obtain⟨h,cs⟩:=Ro_ h
 unfold in_1 at h
 refine Sg_ 12 [.cell 2 41] Tryz.func74 (h:=S ?_)
 refine rb_ h fun v4 q h=>ai [] (izs_ q) (S ?_)
 obtain⟨N3,hN3,h⟩:=rb_1 h
 obtain⟨hN3a,hN3b⟩:=bs_ hN3
 refine aG (rl_ h) (fun i3 s3=>[(2,.box zab2),(3,.box (.node [(.pv (Sx s3.1)),(.own 64)])),(5,.val (.pv (I a0))),(6,.val (.pv (I (i3:Int))))]) (fun i3 s3=>[(64,(2,s3.2.map (al true)))]) (Slm_ SC) (fun i3 s3 hi h=>?_) (fun s3 h=>?_)
 ·have w:=ws_ i3
  refine S ?_
  refine aE cs fun cs=>S ?_
  refine rb_ h fun v9 q h=>ai [true] (iss_ q) (S ?_)
  have h:=rs_ h
  refine aW ⟨_,h,?_⟩
  refine Slr_ 144 64 ?_
  exact Slm_ SWx
 ·refine S ?_
  refine aF cs fun cs=>S ?_
  exact FHz_ h


theorem iwN_1(n:Nat):(∀ (a0:Dt) (a1:Ft) (a2:Bool) (a3:Int) (r:Dt),iwN_ n a0 a1 a2 a3=some r→Sat ag 120 [((aq false) a0),((aj false) a1),(B a2),(I a3)] ((aq true) r)):=by
 induction n with
 | zero=>exact fun _ _ _ _ _ h=>by simp[iwN_] at h
 | succ n ih=>
  refine fun a0 a1 a2 a3 r h=>?_
  obtain⟨h,cs⟩:=Ro_ h
  rw[iwN_] at h
  refine Sg_ 89 [.cell 8 46] Tryz.func120 (h:=S ?_)
  refine rb_ h fun v18 q h=>ai [false] (icD_2 q) (S ?_)
  refine ah cs h (fun cs h=>S ?_) fun cs h=>S ?_
  ·refine rb_ h fun v30 q h=>ai [false] (icF_2 q) (S ?_)
   refine rb_ h fun v32 q h=>ai [true,false,true] (sIF_5 q) (S ?_)
   refine ae (DHa_ [] [480,481,496,512]) (S ?_)
   obtain⟨N8,hN8,h⟩:=rb_1 h
   obtain⟨hN8a,hN8b⟩:=bs_ hN8
   refine aG (rl_ h) (fun i8 s8=>[(2,.val (.pv (B a2))),(3,.val (.pv (I a3))),(4,.box (.pv ((aq false) a0))),(5,.box (.pv ((aj false) a1))),(8,.box zab0),(9,.box (.node [(.pv (I v18.Rule)),(.node [(.own 512),(.own 289)]),(.pv (I v18.Main)),(.node [(.pv (Sx v18.Term.Name)),(.own 290)]),(.node [(.pv (I v18.Cut.Op)),(.node [(.pv (Sx v18.Cut.Atom.Name)),(.own 291)]),(.pv (Sx v18.Cut.Var)),(.own 292)]),(.own 293)])),(11,.val (.pv (I s8))),(35,.val (.pv (I a3))),(36,.val (.pv (I (i8:Int))))]) (fun i8 s8=>[(512,(5,v32.map (aj true))),(289,(5,v18.Sequent.Right.map (aj true))),(290,(2,v18.Term.Args.map (al true))),(291,(2,v18.Cut.Atom.Args.map (al true))),(292,(5,v18.Cut.Parts.map (aj true))),(293,(12,v18.Parts.map (aq true)))]) (Slm_ SC) (fun i8 s8 hi h=>?_) (fun s8 h=>?_)
   ·have w:=ws_ i8
    refine S ?_
    refine aE cs fun cs=>S ?_
    refine rb_ h fun v42 q h=>ai [false,false,false] (iDr_2 q) (S ?_)
    refine ah cs h (fun cs h=>S ?_) fun cs h=>S ?_
    ·exact aJ h
    ·exact aJ h
   ·refine S ?_
    refine aF cs fun cs=>S ?_
    refine rb_ h fun v49 q h=>ai [false] (imO_1 q) (S ?_)
    refine ah cs h (fun cs h=>S ?_) fun cs h=>S ?_
    ·refine aL (b:=false) (sz:=12) (es:=a0.Parts.map (aq false)) 71 SC fun hl71=>?_; rw[aB] at hl71
     refine aG (rl_ h) (fun i17 s17=>[(2,.val (.pv (B a2))),(5,.box (.pv ((aj false) a1))),(8,.box zab0),(9,.box (.node [(.pv (I v18.Rule)),(.node [(.own 512),(.own 289)]),(.pv (I v18.Main)),(.node [(.pv (Sx v18.Term.Name)),(.own 290)]),(.node [(.pv (I v18.Cut.Op)),(.node [(.pv (Sx v18.Cut.Atom.Name)),(.own 291)]),(.pv (Sx v18.Cut.Var)),(.own 292)]),(.own 293)])),(11,.val (.pv (I s8))),(71,.val (.pv (.sl false 12 (a0.Parts.map (aq false))))),(72,.val (.pv (I (a0.Parts.length:Int)))),(73,.val (.pv (I (i17:Int))))]) (fun i17 s17=>[(512,(5,v32.map (aj true))),(289,(5,v18.Sequent.Right.map (aj true))),(290,(2,v18.Term.Args.map (al true))),(291,(2,v18.Cut.Atom.Args.map (al true))),(292,(5,v18.Cut.Parts.map (aj true))),(293,(12,s17.map (aq true)))]) (Slm_ SC) (fun i17 s17 hi h=>?_) (fun s17 h=>?_)
     ·have w:=ws_ i17
      refine S ?_
      refine aE cs fun cs=>S ?_
      refine rb_ h fun v76 q h=>av (aq false) q (S ?_)
      refine rb_ h fun v85 q h=>ai [false,false,false,false] (ih _ _ _ _ _ q) (S ?_)
      refine rb_ h fun v86 q h=>av (aq true) q (S ?_)
      refine rb_ h fun w7 q h=>EldH.c (aq true) q (S ?_)
      refine ae (DHa_ [] [1360,1361,1362,1363,1364,1365]) (S ?_)
      exact aJ h
     ·refine S ?_
      refine aF cs fun cs=>S ?_
      exact FHz_ h
    ·refine ah cs h (fun cs h=>S ?_) fun cs h=>S ?_
     ·refine ah cs h (fun cs h=>S ?_) fun cs h=>S ?_
      ·refine aL (b:=false) (sz:=12) (es:=a0.Parts.map (aq false)) 71 SC fun hl71=>?_; rw[aB] at hl71
       refine aG (rl_ h) (fun i17 s17=>[(2,.val (.pv (B a2))),(5,.box (.pv ((aj false) a1))),(8,.box zab0),(9,.box (.node [(.pv (I v18.Rule)),(.node [(.own 512),(.own 289)]),(.pv (I (IntKind.i64.wrap (v18.Main+1)))),(.node [(.pv (Sx v18.Term.Name)),(.own 290)]),(.node [(.pv (I v18.Cut.Op)),(.node [(.pv (Sx v18.Cut.Atom.Name)),(.own 291)]),(.pv (Sx v18.Cut.Var)),(.own 292)]),(.own 293)])),(11,.val (.pv (I s8))),(71,.val (.pv (.sl false 12 (a0.Parts.map (aq false))))),(72,.val (.pv (I (a0.Parts.length:Int)))),(73,.val (.pv (I (i17:Int))))]) (fun i17 s17=>[(512,(5,v32.map (aj true))),(289,(5,v18.Sequent.Right.map (aj true))),(290,(2,v18.Term.Args.map (al true))),(291,(2,v18.Cut.Atom.Args.map (al true))),(292,(5,v18.Cut.Parts.map (aj true))),(293,(12,s17.map (aq true)))]) (Slm_ SC) (fun i17 s17 hi h=>?_) (fun s17 h=>?_)
       ·have w:=ws_ i17
        refine S ?_
        refine aE cs fun cs=>S ?_
        refine rb_ h fun v76 q h=>av (aq false) q (S ?_)
        refine rb_ h fun v85 q h=>ai [false,false,false,false] (ih _ _ _ _ _ q) (S ?_)
        refine rb_ h fun v86 q h=>av (aq true) q (S ?_)
        refine rb_ h fun w12 q h=>EldH.c (aq true) q (S ?_)
        refine ae (DHa_ [] [1360,1361,1362,1363,1364,1365]) (S ?_)
        exact aJ h
       ·refine S ?_
        refine aF cs fun cs=>S ?_
        exact FHz_ h
      ·refine aL (b:=false) (sz:=12) (es:=a0.Parts.map (aq false)) 71 SC fun hl71=>?_; rw[aB] at hl71
       refine aG (rl_ h) (fun i17 s17=>[(2,.val (.pv (B a2))),(5,.box (.pv ((aj false) a1))),(8,.box zab0),(9,.box (.node [(.pv (I v18.Rule)),(.node [(.own 512),(.own 289)]),(.pv (I v18.Main)),(.node [(.pv (Sx v18.Term.Name)),(.own 290)]),(.node [(.pv (I v18.Cut.Op)),(.node [(.pv (Sx v18.Cut.Atom.Name)),(.own 291)]),(.pv (Sx v18.Cut.Var)),(.own 292)]),(.own 293)])),(11,.val (.pv (I s8))),(71,.val (.pv (.sl false 12 (a0.Parts.map (aq false))))),(72,.val (.pv (I (a0.Parts.length:Int)))),(73,.val (.pv (I (i17:Int))))]) (fun i17 s17=>[(512,(5,v32.map (aj true))),(289,(5,v18.Sequent.Right.map (aj true))),(290,(2,v18.Term.Args.map (al true))),(291,(2,v18.Cut.Atom.Args.map (al true))),(292,(5,v18.Cut.Parts.map (aj true))),(293,(12,s17.map (aq true)))]) (Slm_ SC) (fun i17 s17 hi h=>?_) (fun s17 h=>?_)
       ·have w:=ws_ i17
        refine S ?_
        refine aE cs fun cs=>S ?_
        refine rb_ h fun v76 q h=>av (aq false) q (S ?_)
        refine rb_ h fun v85 q h=>ai [false,false,false,false] (ih _ _ _ _ _ q) (S ?_)
        refine rb_ h fun v86 q h=>av (aq true) q (S ?_)
        refine rb_ h fun w15 q h=>EldH.c (aq true) q (S ?_)
        refine ae (DHa_ [] [1360,1361,1362,1363,1364,1365]) (S ?_)
        exact aJ h
       ·refine S ?_
        refine aF cs fun cs=>S ?_
        exact FHz_ h
     ·refine aL (b:=false) (sz:=12) (es:=a0.Parts.map (aq false)) 71 SC fun hl71=>?_; rw[aB] at hl71
      refine aG (rl_ h) (fun i17 s17=>[(2,.val (.pv (B a2))),(5,.box (.pv ((aj false) a1))),(8,.box zab0),(9,.box (.node [(.pv (I v18.Rule)),(.node [(.own 512),(.own 289)]),(.pv (I v18.Main)),(.node [(.pv (Sx v18.Term.Name)),(.own 290)]),(.node [(.pv (I v18.Cut.Op)),(.node [(.pv (Sx v18.Cut.Atom.Name)),(.own 291)]),(.pv (Sx v18.Cut.Var)),(.own 292)]),(.own 293)])),(11,.val (.pv (I s8))),(71,.val (.pv (.sl false 12 (a0.Parts.map (aq false))))),(72,.val (.pv (I (a0.Parts.length:Int)))),(73,.val (.pv (I (i17:Int))))]) (fun i17 s17=>[(512,(5,v32.map (aj true))),(289,(5,v18.Sequent.Right.map (aj true))),(290,(2,v18.Term.Args.map (al true))),(291,(2,v18.Cut.Atom.Args.map (al true))),(292,(5,v18.Cut.Parts.map (aj true))),(293,(12,s17.map (aq true)))]) (Slm_ SC) (fun i17 s17 hi h=>?_) (fun s17 h=>?_)
      ·have w:=ws_ i17
       refine S ?_
       refine aE cs fun cs=>S ?_
       refine rb_ h fun v76 q h=>av (aq false) q (S ?_)
       refine rb_ h fun v85 q h=>ai [false,false,false,false] (ih _ _ _ _ _ q) (S ?_)
       refine rb_ h fun v86 q h=>av (aq true) q (S ?_)
       refine rb_ h fun w18 q h=>EldH.c (aq true) q (S ?_)
       refine ae (DHa_ [] [1360,1361,1362,1363,1364,1365]) (S ?_)
       exact aJ h
      ·refine S ?_
       refine aF cs fun cs=>S ?_
       exact FHz_ h
  ·refine rb_ h fun v30 q h=>ai [false] (icF_2 q) (S ?_)
   refine rb_ h fun v32 q h=>ai [true,false,true] (sIF_5 q) (S ?_)
   refine ae (DHa_ [] [480,481,496,512]) (S ?_)
   obtain⟨N8,hN8,h⟩:=rb_1 h
   obtain⟨hN8a,hN8b⟩:=bs_ hN8
   refine aG (rl_ h) (fun i8 s8=>[(2,.val (.pv (B a2))),(3,.val (.pv (I a3))),(4,.box (.pv ((aq false) a0))),(5,.box (.pv ((aj false) a1))),(8,.box zab0),(9,.box (.node [(.pv (I v18.Rule)),(.node [(.own 288),(.own 512)]),(.pv (I v18.Main)),(.node [(.pv (Sx v18.Term.Name)),(.own 290)]),(.node [(.pv (I v18.Cut.Op)),(.node [(.pv (Sx v18.Cut.Atom.Name)),(.own 291)]),(.pv (Sx v18.Cut.Var)),(.own 292)]),(.own 293)])),(11,.val (.pv (I s8))),(35,.val (.pv (I a3))),(36,.val (.pv (I (i8:Int))))]) (fun i8 s8=>[(288,(5,v18.Sequent.Left.map (aj true))),(512,(5,v32.map (aj true))),(290,(2,v18.Term.Args.map (al true))),(291,(2,v18.Cut.Atom.Args.map (al true))),(292,(5,v18.Cut.Parts.map (aj true))),(293,(12,v18.Parts.map (aq true)))]) (Slm_ SC) (fun i8 s8 hi h=>?_) (fun s8 h=>?_)
   ·have w:=ws_ i8
    refine S ?_
    refine aE cs fun cs=>S ?_
    refine rb_ h fun v42 q h=>ai [false,false,false] (iDr_2 q) (S ?_)
    refine ah cs h (fun cs h=>S ?_) fun cs h=>S ?_
    ·exact aJ h
    ·exact aJ h
   ·refine S ?_
    refine aF cs fun cs=>S ?_
    refine rb_ h fun v49 q h=>ai [false] (imO_1 q) (S ?_)
    refine ah cs h (fun cs h=>S ?_) fun cs h=>S ?_
    ·refine aL (b:=false) (sz:=12) (es:=a0.Parts.map (aq false)) 71 SC fun hl71=>?_; rw[aB] at hl71
     refine aG (rl_ h) (fun i17 s17=>[(2,.val (.pv (B a2))),(5,.box (.pv ((aj false) a1))),(8,.box zab0),(9,.box (.node [(.pv (I v18.Rule)),(.node [(.own 288),(.own 512)]),(.pv (I v18.Main)),(.node [(.pv (Sx v18.Term.Name)),(.own 290)]),(.node [(.pv (I v18.Cut.Op)),(.node [(.pv (Sx v18.Cut.Atom.Name)),(.own 291)]),(.pv (Sx v18.Cut.Var)),(.own 292)]),(.own 293)])),(11,.val (.pv (I s8))),(71,.val (.pv (.sl false 12 (a0.Parts.map (aq false))))),(72,.val (.pv (I (a0.Parts.length:Int)))),(73,.val (.pv (I (i17:Int))))]) (fun i17 s17=>[(288,(5,v18.Sequent.Left.map (aj true))),(512,(5,v32.map (aj true))),(290,(2,v18.Term.Args.map (al true))),(291,(2,v18.Cut.Atom.Args.map (al true))),(292,(5,v18.Cut.Parts.map (aj true))),(293,(12,s17.map (aq true)))]) (Slm_ SC) (fun i17 s17 hi h=>?_) (fun s17 h=>?_)
     ·have w:=ws_ i17
      refine S ?_
      refine aE cs fun cs=>S ?_
      refine rb_ h fun v76 q h=>av (aq false) q (S ?_)
      refine rb_ h fun v85 q h=>ai [false,false,false,false] (ih _ _ _ _ _ q) (S ?_)
      refine rb_ h fun v86 q h=>av (aq true) q (S ?_)
      refine rb_ h fun w25 q h=>EldH.c (aq true) q (S ?_)
      refine ae (DHa_ [] [1360,1361,1362,1363,1364,1365]) (S ?_)
      exact aJ h
     ·refine S ?_
      refine aF cs fun cs=>S ?_
      exact FHz_ h
    ·refine ah cs h (fun cs h=>S ?_) fun cs h=>S ?_
     ·refine ah cs h (fun cs h=>S ?_) fun cs h=>S ?_
      ·refine aL (b:=false) (sz:=12) (es:=a0.Parts.map (aq false)) 71 SC fun hl71=>?_; rw[aB] at hl71
       refine aG (rl_ h) (fun i17 s17=>[(2,.val (.pv (B a2))),(5,.box (.pv ((aj false) a1))),(8,.box zab0),(9,.box (.node [(.pv (I v18.Rule)),(.node [(.own 288),(.own 512)]),(.pv (I (IntKind.i64.wrap (v18.Main+1)))),(.node [(.pv (Sx v18.Term.Name)),(.own 290)]),(.node [(.pv (I v18.Cut.Op)),(.node [(.pv (Sx v18.Cut.Atom.Name)),(.own 291)]),(.pv (Sx v18.Cut.Var)),(.own 292)]),(.own 293)])),(11,.val (.pv (I s8))),(71,.val (.pv (.sl false 12 (a0.Parts.map (aq false))))),(72,.val (.pv (I (a0.Parts.length:Int)))),(73,.val (.pv (I (i17:Int))))]) (fun i17 s17=>[(288,(5,v18.Sequent.Left.map (aj true))),(512,(5,v32.map (aj true))),(290,(2,v18.Term.Args.map (al true))),(291,(2,v18.Cut.Atom.Args.map (al true))),(292,(5,v18.Cut.Parts.map (aj true))),(293,(12,s17.map (aq true)))]) (Slm_ SC) (fun i17 s17 hi h=>?_) (fun s17 h=>?_)
       ·have w:=ws_ i17
        refine S ?_
        refine aE cs fun cs=>S ?_
        refine rb_ h fun v76 q h=>av (aq false) q (S ?_)
        refine rb_ h fun v85 q h=>ai [false,false,false,false] (ih _ _ _ _ _ q) (S ?_)
        refine rb_ h fun v86 q h=>av (aq true) q (S ?_)
        refine rb_ h fun w30 q h=>EldH.c (aq true) q (S ?_)
        refine ae (DHa_ [] [1360,1361,1362,1363,1364,1365]) (S ?_)
        exact aJ h
       ·refine S ?_
        refine aF cs fun cs=>S ?_
        exact FHz_ h
      ·refine aL (b:=false) (sz:=12) (es:=a0.Parts.map (aq false)) 71 SC fun hl71=>?_; rw[aB] at hl71
       refine aG (rl_ h) (fun i17 s17=>[(2,.val (.pv (B a2))),(5,.box (.pv ((aj false) a1))),(8,.box zab0),(9,.box (.node [(.pv (I v18.Rule)),(.node [(.own 288),(.own 512)]),(.pv (I v18.Main)),(.node [(.pv (Sx v18.Term.Name)),(.own 290)]),(.node [(.pv (I v18.Cut.Op)),(.node [(.pv (Sx v18.Cut.Atom.Name)),(.own 291)]),(.pv (Sx v18.Cut.Var)),(.own 292)]),(.own 293)])),(11,.val (.pv (I s8))),(71,.val (.pv (.sl false 12 (a0.Parts.map (aq false))))),(72,.val (.pv (I (a0.Parts.length:Int)))),(73,.val (.pv (I (i17:Int))))]) (fun i17 s17=>[(288,(5,v18.Sequent.Left.map (aj true))),(512,(5,v32.map (aj true))),(290,(2,v18.Term.Args.map (al true))),(291,(2,v18.Cut.Atom.Args.map (al true))),(292,(5,v18.Cut.Parts.map (aj true))),(293,(12,s17.map (aq true)))]) (Slm_ SC) (fun i17 s17 hi h=>?_) (fun s17 h=>?_)
       ·have w:=ws_ i17
        refine S ?_
        refine aE cs fun cs=>S ?_
        refine rb_ h fun v76 q h=>av (aq false) q (S ?_)
        refine rb_ h fun v85 q h=>ai [false,false,false,false] (ih _ _ _ _ _ q) (S ?_)
        refine rb_ h fun v86 q h=>av (aq true) q (S ?_)
        refine rb_ h fun w33 q h=>EldH.c (aq true) q (S ?_)
        refine ae (DHa_ [] [1360,1361,1362,1363,1364,1365]) (S ?_)
        exact aJ h
       ·refine S ?_
        refine aF cs fun cs=>S ?_
        exact FHz_ h
     ·refine aL (b:=false) (sz:=12) (es:=a0.Parts.map (aq false)) 71 SC fun hl71=>?_; rw[aB] at hl71
      refine aG (rl_ h) (fun i17 s17=>[(2,.val (.pv (B a2))),(5,.box (.pv ((aj false) a1))),(8,.box zab0),(9,.box (.node [(.pv (I v18.Rule)),(.node [(.own 288),(.own 512)]),(.pv (I v18.Main)),(.node [(.pv (Sx v18.Term.Name)),(.own 290)]),(.node [(.pv (I v18.Cut.Op)),(.node [(.pv (Sx v18.Cut.Atom.Name)),(.own 291)]),(.pv (Sx v18.Cut.Var)),(.own 292)]),(.own 293)])),(11,.val (.pv (I s8))),(71,.val (.pv (.sl false 12 (a0.Parts.map (aq false))))),(72,.val (.pv (I (a0.Parts.length:Int)))),(73,.val (.pv (I (i17:Int))))]) (fun i17 s17=>[(288,(5,v18.Sequent.Left.map (aj true))),(512,(5,v32.map (aj true))),(290,(2,v18.Term.Args.map (al true))),(291,(2,v18.Cut.Atom.Args.map (al true))),(292,(5,v18.Cut.Parts.map (aj true))),(293,(12,s17.map (aq true)))]) (Slm_ SC) (fun i17 s17 hi h=>?_) (fun s17 h=>?_)
      ·have w:=ws_ i17
       refine S ?_
       refine aE cs fun cs=>S ?_
       refine rb_ h fun v76 q h=>av (aq false) q (S ?_)
       refine rb_ h fun v85 q h=>ai [false,false,false,false] (ih _ _ _ _ _ q) (S ?_)
       refine rb_ h fun v86 q h=>av (aq true) q (S ?_)
       refine rb_ h fun w36 q h=>EldH.c (aq true) q (S ?_)
       refine ae (DHa_ [] [1360,1361,1362,1363,1364,1365]) (S ?_)
       exact aJ h
      ·refine S ?_
       refine aF cs fun cs=>S ?_
       exact FHz_ h
theorem iws_1{a0:Dt}{a1:Ft}{a2:Bool}{a3:Int}{r:Dt}(h:iw_1 a0 a1 a2 a3=some r):Sat ag 120 [((aq false) a0),((aj false) a1),(B a2),(I a3)] ((aq true) r):=by
 obtain⟨n,hn⟩:=ls_ h
 exact(iwN_1 n) _ _ _ _ _ hn

theorem iiD_4{a0:Dt}  {r:Dt×Bool}(h:iiD_ a0=some r):Sat ag 78 [((aq false) a0)] (.tup [((aq false) r.1),(B r.2)]):=by
 obtain⟨h,cs⟩:=Ro_ h
 unfold iiD_ at h
 refine Sg_ 9 [.cell 2 46,.tmp 3] Tryz.func78 (h:=S ?_)
 refine rb_ h fun v5 q h=>ai [false] (iIV_4 q) (S ?_)
 refine ah cs h (fun cs h=>S ?_) fun cs h=>S ?_
 ·exact FHz_1 h
 ·exact FHz_1 h

theorem iiD_1{a0:Dt}  {r:Dt×Bool}(h:iiD_ a0=some r):Sat ag 78 [((aq true) a0)] (.tup [((aq true) r.1),(B r.2)]):=by
 obtain⟨h,cs⟩:=Ro_ h
 unfold iiD_ at h
 refine Sg_ 9 [.cell 2 46,.tmp 3] Tryz.func78 (h:=S ?_)
 refine rb_ h fun v5 q h=>ai [false] (iIV_4 q) (S ?_)
 refine ah cs h (fun cs h=>S ?_) fun cs h=>S ?_
 ·exact FHz_ h
 ·exact FHz_ h

theorem iWA_1{a0:Dt}{a1:Ft}{a2:Bool}{a3:Int}  {r:Dt×Bool}(h:iWA_ a0 a1 a2 a3=some r):Sat ag 75 [((aq false) a0),((aj false) a1),(B a2),(I a3)] (.tup [((aq true) r.1),(B r.2)]):=by
 obtain⟨h,cs⟩:=Ro_ h
 unfold iWA_ at h
 refine Sg_ 42 [.cell 8 46,.tmp 9] Tryz.func75 (h:=S ?_)
 refine ah cs h (fun cs h=>S ?_) fun cs h=>S ?_
 refine rb_ h fun v19 q h=>ai [false] (iIV_4 q) (S ?_)
 refine ah cs h (fun cs h=>S ?_) fun cs h=>S ?_
 refine rb_ h fun v23 q h=>ai [false] (iIV_5 q) (S ?_)
 refine ah cs h (fun cs h=>S ?_) fun cs h=>S ?_
 refine rb_ h fun v30 q h=>ai [false,false,false] (iws_ q) (S ?_)
 refine ah cs h (fun cs h=>S ?_) fun cs h=>S ?_
 rotate_left 4
 refine rb_ h fun v19 q h=>ai [false] (iIV_4 q) (S ?_)
 refine ah cs h (fun cs h=>S ?_) fun cs h=>S ?_
 refine rb_ h fun v23 q h=>ai [false] (iIV_5 q) (S ?_)
 refine ah cs h (fun cs h=>S ?_) fun cs h=>S ?_
 refine rb_ h fun v30 q h=>ai [false,false,false] (iws_ q) (S ?_)
 refine ah cs h (fun cs h=>S ?_) fun cs h=>S ?_
 rotate_left
 ·exact FHz_ h
 ·exact FHz_ h
 ·exact FHz_ h
 rotate_left
 ·exact FHz_ h
 ·exact FHz_ h
 ·exact FHz_ h
 all_goals
  refine rb_ h fun v38 q h=>ai [false,false,false,false] (iws_1 q) (S ?_)
  refine rb_ h fun v39 q h=>ai [true] (iiD_1 q) (S ?_)
  exact FHz_ h

theorem isA_1{a0:List Ft}{a1:ByteArray}{a2:Tt}  {r:(List Ft)×Bool}(h:isA_ a0 a1 a2=some r):Sat ag 153 [(.sl false 5 (a0.map (aj false))),(Sx a1),((al false) a2)] (.tup [(.sl true 5 (r.1.map (aj true))),(B r.2)]):=by
 obtain⟨h,cs⟩:=Ro_ h
 unfold isA_ at h
 refine Sg_ 39 [.tmp 6,.tmp 7] Tryz.func153 (h:=S ?_)
 refine aL (b:=false) (sz:=5) (es:=a0.map (aj false)) 0 SC fun hl0=>?_; rw[aB] at hl0
 refine aG (rl_ h) (fun i4 s4=>[(1,.val (.pv (Sx a1))),(5,.box (.pv ((al false) a2))),(8,.val (.own 224)),(9,.val (.pv (B s4.2))),(15,.val (.pv (.sl false 5 (a0.map (aj false))))),(16,.val (.pv (I (a0.length:Int)))),(17,.val (.pv (I (i4:Int))))]) (fun i4 s4=>[(224,(5,s4.1.map (aj true)))]) (Slm_ SC) (fun i4 s4 hi h=>?_) (fun s4 h=>?_)
 ·have w:=ws_ i4
  refine S ?_
  refine aE cs fun cs=>S ?_
  refine rb_ h fun v19 q h=>av (aj false) q (S ?_)
  refine rb_ h fun v25 q h=>ai [false,false,false] (iSF_1 q) (S ?_)
  refine ah cs h (fun cs h=>S ?_) fun cs h=>S ?_
  all_goals
   refine rb_ h fun v35 q h=>aO (aj true) (fun a=>Ft.psize _ a) q (S ?_)
   have h:=rs_ h
   refine aW ⟨_,h,?_⟩
   refine Slr_ 560 224 ?_
   exact Slm_ SWx
 ·refine S ?_
  refine aF cs fun cs=>S ?_
  exact FHz_ h

theorem irV_2(n:Nat):(∀ (a0:Tt) (a1:GMap Tt) (r:Tt),irV_ n a0 a1=some r→SatH ag 154 [((al false) a0)] [] .mp [] (.mp (gmap (al false) a1.es) a1.clock) (.mp (gmap (al false) a1.es) a1.clock) ((al true) r)):=by
 induction n with
 | zero=>exact fun _ _ _ h=>by simp[irV_] at h
 | succ n ih=>
  refine fun a0 a1 r h=>?_
  obtain⟨h,cs⟩:=Ro_ h
  rw[irV_] at h
  refine SHo_ (nt:=46) (rs:=[.cell 4 41]) (n:=100000) 1 Tryz.func154 rfl rfl rfl rfl rfl (Nat.le_of_ble_eq_true rfl) (by decide) (by first | exact Nat.le_of_ble_eq_true rfl | exact SC) (S ?_)
  refine HHl_ (E:=41) (r:=1) (sh:=.mp) (ps:=[]) (m:=a1) (f:=(al false)) (k:=a0.Name) (z0:=(Tt.mk ⟨#[]⟩ ([]))) m1_ m4_ SC (S ?_)
  refine ah cs h (fun cs h=>S ?_) fun cs h=>S ?_
  ·refine ah cs h (fun cs h=>S ?_) fun cs h=>S ?_
   ·refine rb_ h fun v25 q h=>ai [false] (icT_2 q) (S ?_)
    cases rs_ h
    exact RetHB.l SC
   ·refine aL (b:=false) (sz:=2) (es:=a0.Args.map (al false)) 20 SC fun hl20=>?_; rw[aB] at hl20
    refine aG (rl_ h) (fun i6 s6=>[(1,.hold .mp [] (.mp (gmap (al false) (a1).es) (a1).clock)),(4,.box zab2),(7,.box (.node [(.pv (Sx a0.Name)),(.own 9318)])),(30,.val (.pv (.sl false 2 (a0.Args.map (al false))))),(31,.val (.pv (I (a0.Args.length:Int)))),(32,.val (.pv (I (i6:Int)))),(20000,gh 1)]) (fun i6 s6=>[(9318,(2,s6.map (al true)))]) (bp (Sln_ (x:=(.node [(.pv (Sx a0.Name)),(.pv (.sl true 2 []))])) 7 [1] 9318 2 NM SC SC SC) (Slm_ SC)) (fun i6 s6 hi h=>?_) (fun s6 h=>?_)
    ·have w:=ws_ i6
     refine S ?_
     refine aE cs fun cs=>S ?_
     refine rb_ h fun v34 q h=>av (al false) q (S ?_)
     obtain⟨v40,hv40,h⟩:=rb_1 h
     refine HandH.call (r:=1) (hc:=.mp (gmap (al false) (a1).es) (a1).clock) 1 [_] [] [(.pv ((al false) v34))] [] [false] (ih _ _ _ hv40) rfl rfl rfl SC (S ?_)
     refine rb_ h fun v42 q h=>aO (al true) (fun a=>Tt.psize _ a) q (S ?_)
     refine ae (DHa_ [] [640,656,672]) (S ?_)
     have h:=rs_ h
     refine aW ⟨_,h,?_⟩
     refine Slr_ 672 9318 ?_
     exact Slm_ SWx
    ·refine S ?_
     refine aF cs fun cs=>S ?_
     cases rs_ h
     exact RetHB.l SC
  ·refine aL (b:=false) (sz:=2) (es:=a0.Args.map (al false)) 30 SC fun hl30=>?_; rw[aB] at hl30
   refine aG (rl_ h) (fun i6 s6=>[(1,.hold .mp [] (.mp (gmap (al false) (a1).es) (a1).clock)),(4,.box zab2),(7,.box (.node [(.pv (Sx a0.Name)),(.own 9318)])),(30,.val (.pv (.sl false 2 (a0.Args.map (al false))))),(31,.val (.pv (I (a0.Args.length:Int)))),(32,.val (.pv (I (i6:Int)))),(20000,gh 1)]) (fun i6 s6=>[(9318,(2,s6.map (al true)))]) (bp (Sln_ (x:=(.node [(.pv (Sx a0.Name)),(.pv (.sl true 2 []))])) 7 [1] 9318 2 NM SC SC SC) (Slm_ SC)) (fun i6 s6 hi h=>?_) (fun s6 h=>?_)
   ·have w:=ws_ i6
    refine S ?_
    refine aE cs fun cs=>S ?_
    refine rb_ h fun v34 q h=>av (al false) q (S ?_)
    obtain⟨v40,hv40,h⟩:=rb_1 h
    refine HandH.call (r:=1) (hc:=.mp (gmap (al false) (a1).es) (a1).clock) 1 [_] [] [(.pv ((al false) v34))] [] [false] (ih _ _ _ hv40) rfl rfl rfl SC (S ?_)
    refine rb_ h fun v42 q h=>aO (al true) (fun a=>Tt.psize _ a) q (S ?_)
    refine ae (DHa_ [] [640,656,672]) (S ?_)
    have h:=rs_ h
    refine aW ⟨_,h,?_⟩
    refine Slr_ 672 9318 ?_
    exact Slm_ SWx
   ·refine S ?_
    refine aF cs fun cs=>S ?_
    cases rs_ h
    exact RetHB.l SC
theorem irV_3{a0:Tt}{a1:GMap Tt}{r:Tt}(h:irV_1 a0 a1=some r):SatH ag 154 [((al false) a0)] [] .mp [] (.mp (gmap (al false) a1.es) a1.clock) (.mp (gmap (al false) a1.es) a1.clock) ((al true) r):=by
 obtain⟨n,hn⟩:=ls_ h
 exact(irV_2 n) _ _ _ hn

theorem irI_2(n:Nat):(∀ (a0:Dt) (a1:ByteArray) (a2:Tt) (r:Dt×Bool),irI_ n a0 a1 a2=some r→Sat ag 121 [((aq false) a0),(Sx a1),((al false) a2)] (.tup [((aq true) r.1),(B r.2)])):=by
 induction n with
 | zero=>exact fun _ _ _ _ h=>by simp[irI_] at h
 | succ n ih=>
  refine fun a0 a1 a2 r h=>?_
  obtain⟨h,cs⟩:=Ro_ h
  rw[irI_] at h
  refine Sg_ 101 [.cell 6 46,.tmp 7] Tryz.func121 (h:=S ?_)
  refine rb_ h fun v26 q h=>ai [false,false,false] (isA_1 q) (S ?_)
  refine rb_ h fun v35 q h=>ai [false,false,false] (isA_1 q) (S ?_)
  refine HandH.makeMap (α:=Tt) (al false) (by decide) (S ?_)
  refine HHi_ (E:=41) (r:=47) (sh:=.mp) (ps:=[]) (m:=(GMap.empty:GMap Tt)) (f:=(al false)) (k:=a1) (v0:=a2) (c:=(.pv ((al false) a2))) m1_ SC (S ?_)
  obtain⟨v51,hv51,h⟩:=rb_1 h
  refine HandH.call (r:=47) (hc:=.mp (gmap (al false) (GMap.put (GMap.empty:GMap Tt) a1 a2).es) (GMap.put (GMap.empty:GMap Tt) a1 a2).clock) 1 [_] [] [(.pv ((al false) a0.Term))] [] [false] (irV_3 hv51) rfl rfl rfl SC (S ?_)
  refine ae (DHa_ [47,12] [816]) (S ?_)
  refine ah cs h (fun cs h=>S ?_) fun cs h=>S ?_
  ·refine ah cs h (fun cs h=>S ?_) fun cs h=>S ?_
   ·refine rb_ h fun v65 q h=>ai [false,false,false] (iSF_1 q) (S ?_)
    refine ah cs h (fun cs h=>S ?_) fun cs h=>S ?_
    ·refine aL (b:=false) (sz:=12) (es:=a0.Parts.map (aq false)) 75 SC fun hl75=>?_; rw[aB] at hl75
     refine aG (rl_ h) (fun i10 s10=>[(1,.val (.pv (Sx a1))),(5,.box (.pv ((al false) a2))),(6,.box zab0),(12,.box (.node [(.pv (I a0.Rule)),(.node [(.own 416),(.own 560)]),(.pv (I a0.Main)),(.node [(.pv (Sx v51.Name)),(.own 816)]),(.node [(.pv (I v65.1.Op)),(.node [(.pv (Sx v65.1.Atom.Name)),(.own 1040)]),(.pv (Sx v65.1.Var)),(.own 1041)]),(.own 9330)])),(13,.val (.pv (B s10.1))),(75,.val (.pv (.sl false 12 (a0.Parts.map (aq false))))),(76,.val (.pv (I (a0.Parts.length:Int)))),(77,.val (.pv (I (i10:Int))))]) (fun i10 s10=>[(416,(5,v26.1.map (aj true))),(560,(5,v35.1.map (aj true))),(816,(2,v51.Args.map (al true))),(1040,(2,v65.1.Atom.Args.map (al true))),(1041,(5,v65.1.Parts.map (aj true))),(9330,(12,s10.2.map (aq true)))]) (bp (Sln_ (x:=(.node [(.pv (I a0.Rule)),(.node [(.own 416),(.own 560)]),(.pv (I a0.Main)),(.node [(.pv (Sx v51.Name)),(.own 816)]),(.node [(.pv (I v65.1.Op)),(.node [(.pv (Sx v65.1.Atom.Name)),(.own 1040)]),(.pv (Sx v65.1.Var)),(.own 1041)]),(.pv (.sl true 12 []))])) 12 [5] 9330 12 NM SC SC SC) (Slm_ SC)) (fun i10 s10 hi h=>?_) (fun s10 h=>?_)
     ·have w:=ws_ i10
      refine S ?_
      refine aE cs fun cs=>S ?_
      refine rb_ h fun v79 q h=>av (aq false) q (S ?_)
      refine rb_ h fun v85 q h=>ai [false,false,false] (ih _ _ _ _ q) (S ?_)
      refine ah cs h (fun cs h=>S ?_) fun cs h=>S ?_
      all_goals
       refine rb_ h fun v96 q h=>aO (aq true) (fun a=>Dt.psize _ a) q (S ?_)
       have h:=rs_ h
       refine aW ⟨_,h,?_⟩
       refine Slr_ 1536 9330 ?_
       exact Slm_ SWx
     ·refine S ?_
      refine aF cs fun cs=>S ?_
      exact FHz_ h
    ·refine aL (b:=false) (sz:=12) (es:=a0.Parts.map (aq false)) 75 SC fun hl75=>?_; rw[aB] at hl75
     refine aG (rl_ h) (fun i10 s10=>[(1,.val (.pv (Sx a1))),(5,.box (.pv ((al false) a2))),(6,.box zab0),(12,.box (.node [(.pv (I a0.Rule)),(.node [(.own 416),(.own 560)]),(.pv (I a0.Main)),(.node [(.pv (Sx v51.Name)),(.own 816)]),(.node [(.pv (I v65.1.Op)),(.node [(.pv (Sx v65.1.Atom.Name)),(.own 1040)]),(.pv (Sx v65.1.Var)),(.own 1041)]),(.own 9330)])),(13,.val (.pv (B false))),(75,.val (.pv (.sl false 12 (a0.Parts.map (aq false))))),(76,.val (.pv (I (a0.Parts.length:Int)))),(77,.val (.pv (I (i10:Int))))]) (fun i10 s10=>[(416,(5,v26.1.map (aj true))),(560,(5,v35.1.map (aj true))),(816,(2,v51.Args.map (al true))),(1040,(2,v65.1.Atom.Args.map (al true))),(1041,(5,v65.1.Parts.map (aj true))),(9330,(12,s10.map (aq true)))]) (bp (Sln_ (x:=(.node [(.pv (I a0.Rule)),(.node [(.own 416),(.own 560)]),(.pv (I a0.Main)),(.node [(.pv (Sx v51.Name)),(.own 816)]),(.node [(.pv (I v65.1.Op)),(.node [(.pv (Sx v65.1.Atom.Name)),(.own 1040)]),(.pv (Sx v65.1.Var)),(.own 1041)]),(.pv (.sl true 12 []))])) 12 [5] 9330 12 NM SC SC SC) (Slm_ SC)) (fun i10 s10 hi h=>?_) (fun s10 h=>?_)
     ·have w:=ws_ i10
      refine S ?_
      refine aE cs fun cs=>S ?_
      refine rb_ h fun v79 q h=>av (aq false) q (S ?_)
      refine rb_ h fun v85 q h=>ai [false,false,false] (ih _ _ _ _ q) (S ?_)
      refine rb_ h fun v96 q h=>aO (aq true) (fun a=>Dt.psize _ a) q (S ?_)
      have h:=rs_ h
      refine aW ⟨_,h,?_⟩
      refine Slr_ 1536 9330 ?_
      exact Slm_ SWx
     ·refine S ?_
      refine aF cs fun cs=>S ?_
      exact FHz_ h
   ·refine aL (b:=false) (sz:=12) (es:=a0.Parts.map (aq false)) 75 SC fun hl75=>?_; rw[aB] at hl75
    refine aG (rl_ h) (fun i10 s10=>[(1,.val (.pv (Sx a1))),(5,.box (.pv ((al false) a2))),(6,.box zab0),(12,.box (.node [(.pv (I a0.Rule)),(.node [(.own 416),(.own 560)]),(.pv (I a0.Main)),(.node [(.pv (Sx v51.Name)),(.own 816)]),zab1,(.own 9330)])),(13,.val (.pv (B s10.1))),(75,.val (.pv (.sl false 12 (a0.Parts.map (aq false))))),(76,.val (.pv (I (a0.Parts.length:Int)))),(77,.val (.pv (I (i10:Int))))]) (fun i10 s10=>[(416,(5,v26.1.map (aj true))),(560,(5,v35.1.map (aj true))),(816,(2,v51.Args.map (al true))),(9330,(12,s10.2.map (aq true)))]) (bp (Sln_ (x:=(.node [(.pv (I a0.Rule)),(.node [(.own 416),(.own 560)]),(.pv (I a0.Main)),(.node [(.pv (Sx v51.Name)),(.own 816)]),zab1,(.pv (.sl true 12 []))])) 12 [5] 9330 12 NM SC SC SC) (Slm_ SC)) (fun i10 s10 hi h=>?_) (fun s10 h=>?_)
    ·have w:=ws_ i10
     refine S ?_
     refine aE cs fun cs=>S ?_
     refine rb_ h fun v79 q h=>av (aq false) q (S ?_)
     refine rb_ h fun v85 q h=>ai [false,false,false] (ih _ _ _ _ q) (S ?_)
     refine ah cs h (fun cs h=>S ?_) fun cs h=>S ?_
     all_goals
      refine rb_ h fun v96 q h=>aO (aq true) (fun a=>Dt.psize _ a) q (S ?_)
      have h:=rs_ h
      refine aW ⟨_,h,?_⟩
      refine Slr_ 1536 9330 ?_
      exact Slm_ SWx
    ·refine S ?_
     refine aF cs fun cs=>S ?_
     exact FHz_ h
  ·refine ah cs h (fun cs h=>S ?_) fun cs h=>S ?_
   ·refine rb_ h fun v65 q h=>ai [false,false,false] (iSF_1 q) (S ?_)
    refine aL (b:=false) (sz:=12) (es:=a0.Parts.map (aq false)) 75 SC fun hl75=>?_; rw[aB] at hl75
    refine aG (rl_ h) (fun i10 s10=>[(1,.val (.pv (Sx a1))),(5,.box (.pv ((al false) a2))),(6,.box zab0),(12,.box (.node [(.pv (I a0.Rule)),(.node [(.own 416),(.own 560)]),(.pv (I a0.Main)),(.node [(.pv (Sx v51.Name)),(.own 816)]),(.node [(.pv (I v65.1.Op)),(.node [(.pv (Sx v65.1.Atom.Name)),(.own 1040)]),(.pv (Sx v65.1.Var)),(.own 1041)]),(.own 9330)])),(13,.val (.pv (B false))),(75,.val (.pv (.sl false 12 (a0.Parts.map (aq false))))),(76,.val (.pv (I (a0.Parts.length:Int)))),(77,.val (.pv (I (i10:Int))))]) (fun i10 s10=>[(416,(5,v26.1.map (aj true))),(560,(5,v35.1.map (aj true))),(816,(2,v51.Args.map (al true))),(1040,(2,v65.1.Atom.Args.map (al true))),(1041,(5,v65.1.Parts.map (aj true))),(9330,(12,s10.map (aq true)))]) (bp (Sln_ (x:=(.node [(.pv (I a0.Rule)),(.node [(.own 416),(.own 560)]),(.pv (I a0.Main)),(.node [(.pv (Sx v51.Name)),(.own 816)]),(.node [(.pv (I v65.1.Op)),(.node [(.pv (Sx v65.1.Atom.Name)),(.own 1040)]),(.pv (Sx v65.1.Var)),(.own 1041)]),(.pv (.sl true 12 []))])) 12 [5] 9330 12 NM SC SC SC) (Slm_ SC)) (fun i10 s10 hi h=>?_) (fun s10 h=>?_)
    ·have w:=ws_ i10
     refine S ?_
     refine aE cs fun cs=>S ?_
     refine rb_ h fun v79 q h=>av (aq false) q (S ?_)
     refine rb_ h fun v85 q h=>ai [false,false,false] (ih _ _ _ _ q) (S ?_)
     refine rb_ h fun v96 q h=>aO (aq true) (fun a=>Dt.psize _ a) q (S ?_)
     have h:=rs_ h
     refine aW ⟨_,h,?_⟩
     refine Slr_ 1536 9330 ?_
     exact Slm_ SWx
    ·refine S ?_
     refine aF cs fun cs=>S ?_
     exact FHz_ h
   ·refine aL (b:=false) (sz:=12) (es:=a0.Parts.map (aq false)) 75 SC fun hl75=>?_; rw[aB] at hl75
    refine aG (rl_ h) (fun i10 s10=>[(1,.val (.pv (Sx a1))),(5,.box (.pv ((al false) a2))),(6,.box zab0),(12,.box (.node [(.pv (I a0.Rule)),(.node [(.own 416),(.own 560)]),(.pv (I a0.Main)),(.node [(.pv (Sx v51.Name)),(.own 816)]),zab1,(.own 9330)])),(13,.val (.pv (B false))),(75,.val (.pv (.sl false 12 (a0.Parts.map (aq false))))),(76,.val (.pv (I (a0.Parts.length:Int)))),(77,.val (.pv (I (i10:Int))))]) (fun i10 s10=>[(416,(5,v26.1.map (aj true))),(560,(5,v35.1.map (aj true))),(816,(2,v51.Args.map (al true))),(9330,(12,s10.map (aq true)))]) (bp (Sln_ (x:=(.node [(.pv (I a0.Rule)),(.node [(.own 416),(.own 560)]),(.pv (I a0.Main)),(.node [(.pv (Sx v51.Name)),(.own 816)]),zab1,(.pv (.sl true 12 []))])) 12 [5] 9330 12 NM SC SC SC) (Slm_ SC)) (fun i10 s10 hi h=>?_) (fun s10 h=>?_)
    ·have w:=ws_ i10
     refine S ?_
     refine aE cs fun cs=>S ?_
     refine rb_ h fun v79 q h=>av (aq false) q (S ?_)
     refine rb_ h fun v85 q h=>ai [false,false,false] (ih _ _ _ _ q) (S ?_)
     refine rb_ h fun v96 q h=>aO (aq true) (fun a=>Dt.psize _ a) q (S ?_)
     have h:=rs_ h
     refine aW ⟨_,h,?_⟩
     refine Slr_ 1536 9330 ?_
     exact Slm_ SWx
    ·refine S ?_
     refine aF cs fun cs=>S ?_
     exact FHz_ h
theorem irI_3{a0:Dt}{a1:ByteArray}{a2:Tt}{r:Dt×Bool}(h:irI_1 a0 a1 a2=some r):Sat ag 121 [((aq false) a0),(Sx a1),((al false) a2)] (.tup [((aq true) r.1),(B r.2)]):=by
 obtain⟨n,hn⟩:=ls_ h
 exact(irI_2 n) _ _ _ _ hn

theorem iRI_1{a0:Dt}{a1:ByteArray}{a2:Tt}  {r:Dt×Bool}(h:iRI_ a0 a1 a2=some r):Sat ag 76 [((aq false) a0),(Sx a1),((al false) a2)] (.tup [((aq true) r.1),(B r.2)]):=by
 obtain⟨h,cs⟩:=Ro_ h
 unfold iRI_ at h
 refine Sg_ 38 [.cell 6 46,.tmp 7] Tryz.func76 (h:=S ?_)
 refine rb_ h fun v11 q h=>ai [false] (iIV_4 q) (S ?_)
 refine ah cs h (fun cs h=>S ?_) fun cs h=>S ?_
 refine rb_ h fun v15 q h=>ai [false] (iiV_1 q) (S ?_)
 refine ah cs h (fun cs h=>S ?_) fun cs h=>S ?_
 refine rb_ h fun v20 q h=>ai [false] (iIV_10 q) (S ?_)
 refine ah cs h (fun cs h=>S ?_) fun cs h=>S ?_
 refine rb_ h fun v28 q h=>ai [false,false,false] (irI_3 q) (S ?_)
 refine ah cs h (fun cs h=>S ?_) fun cs h=>S ?_
 ·refine rb_ h fun v35 q h=>ai [true] (iiD_1 q) (S ?_)
  exact FHz_ h
 all_goals
  exact FHz_ h

theorem iSu_1{a0:Sb}{a1:Dt}{a2:Int}  {r:Dt×Bool}(h:iSu_ a0 a1 a2=some r):Sat ag 24 [((Sb.pv false) a0),((aq false) a1),(I a2)] (.tup [((aq true) r.1),(B r.2)]):=by
 obtain⟨h,cs⟩:=Ro_ h
 unfold iSu_ at h
 refine Sg_ 84 [.cell 6 46,.tmp 7] Tryz.func24 (h:=S ?_)
 refine rb_ h fun v22 q h=>ai [false] (ins_ q) (S ?_)
 refine rb_ h fun v23 q h=>ai [false,false,false] (iSF_1 q) (S ?_)
 refine ae (DHa_ [8] [352,368,369]) (S ?_)
 refine rb_ h fun v32 q h=>ai [false] (ins_ q) (S ?_)
 refine rb_ h fun v33 q h=>ai [false,false,false] (iSF_1 q) (S ?_)
 refine ae (DHa_ [10] [512,528,529]) (S ?_)
 refine ah cs h (fun cs h=>S ?_) fun cs h=>S ?_
 refine ah cs h (fun cs h=>S ?_) fun cs h=>S ?_
 refine rb_ h fun v46 q h=>ai [false,false,false,false] (iWA_1 q) (S ?_)
 refine rb_ h fun v56 q h=>ai [false] (ins_ q) (S ?_)
 refine rb_ h fun v57 q h=>ai [false,false,false] (iRI_1 q) (S ?_)
 refine ae (DHa_ [13] [896,912,913,914,915,916,917]) (S ?_)
 refine ah cs h (fun cs h=>S ?_) fun cs h=>S ?_
 refine ah cs h (fun cs h=>S ?_) fun cs h=>S ?_
 ·refine rb_ h fun v71 q h=>ai [false] (icF_4 q) (S ?_)
  refine ae (DHa_ [14] [1136,1168]) (S ?_)
  refine rb_ h fun v81 q h=>ai [true] (iiD_1 q) (S ?_)
  exact FHz_ h
 all_goals
  exact FHz_ h

theorem iUS_1{a0:Sb}{a1:Int}  {r:Dt×Bool}(h:iUS_ a0 a1=some r):Sat ag 7 [((Sb.pv false) a0),(I a1)] (.tup [((aq true) r.1),(B r.2)]):=by
 obtain⟨h,cs⟩:=Ro_ h
 unfold iUS_ at h
 refine Sg_ 39 [.cell 4 46,.tmp 5] Tryz.func7 (h:=S ?_)
 refine rb_ h fun v11 q h=>ai [false] (iIV_13 q) (S ?_)
 refine ah cs h (fun cs h=>S ?_) fun cs h=>S ?_
 refine rb_ h fun v15 q h=>ai [false,false,false] (iws_ q) (S ?_)
 refine ah cs h (fun cs h=>S ?_) fun cs h=>S ?_
 refine rb_ h fun v21 q h=>ai [false] (icD_2 q) (S ?_)
 replace h:=rl_ h
 refine Mg.whileN h (fun s5=>[(1,.val (.pv (I a1))),(2,.box (.pv ((Sb.pv false) a0))),(4,.box zab0),(6,.box (.node [(.pv (I s5.1)),(.node [(.own 336),(.own 337)]),(.pv (I s5.2.2.2.1)),(.node [(.pv (Sx s5.2.2.2.2.1)),(.own 338)]),(.node [(.pv (I s5.2.2.2.2.2.2.1)),(.node [(.pv (Sx s5.2.2.2.2.2.2.2.1)),(.own 339)]),(.pv (Sx s5.2.2.2.2.2.2.2.2.2.1)),(.own 340)]),(.own 341)])),(7,.val (.pv (I s5.2.2.2.2.2.2.2.2.2.2.2.2)))]) (fun s5=>[(336,(5,s5.2.1.map (aj true))),(337,(5,s5.2.2.1.map (aj true))),(338,(2,s5.2.2.2.2.2.1.map (al true))),(339,(2,s5.2.2.2.2.2.2.2.2.1.map (al true))),(340,(5,s5.2.2.2.2.2.2.2.2.2.2.1.map (aj true))),(341,(12,s5.2.2.2.2.2.2.2.2.2.2.2.1.map (aq true)))]) (Slm_ SC) (fun n5 s5 h=>?_)
 refine S ?_
 refine ah cs h (fun cs h=>S ?_) fun cs h=>S ?_
 refine rb_ h fun v31 q h=>ai [false,false,false] (iSu_1 q) (S ?_)
 refine ah cs h (fun cs h=>S ?_) fun cs h=>S ?_
 ·have h:=rs_ h
  refine aW ⟨_,h,?_⟩
  refine Slr_ 501 341 ?_
  refine Slr_ 500 340 ?_
  refine Slr_ 499 339 ?_
  refine Slr_ 498 338 ?_
  refine Slr_ 497 337 ?_
  refine Slr_ 496 336 ?_
  exact Slm_ SC
 rotate_left
 ·have h:=rs_ h
  exact FHz_ h
 all_goals
  exact FHz_ h

theorem eTN_1(n:Nat):(∀ (a0:Tt) (a1:Tt) (r:Bool),eTN_ n a0 a1=some r→Sat ag 26 [((al false) a0),((al false) a1)] (B r))∧(∀ (a0:List Tt) (a1:List Tt) (r:Bool),eTS_ n a0 a1=some r→Sat ag 80 [(.sl false 2 (a0.map (al false))),(.sl false 2 (a1.map (al false)))] (B r)):=by
 induction n with
 | zero=>exact⟨fun _ _ _ h=>by simp[eTN_] at h,fun _ _ _ h=>by simp[eTS_] at h⟩
 | succ n ih=>
  refine⟨fun a0 a1 r h=>?_,fun a0 a1 r h=>?_⟩
  ·obtain⟨h,cs⟩:=Ro_ h
   rw[eTN_] at h
   refine Sg_ 16 [.tmp 4] Tryz.func26 (h:=S ?_)
   refine ah cs h (fun cs h=>S ?_) fun cs h=>S ?_
   refine rb_ h fun v14 q h=>ai [false,false] (ih.2 _ _ _ q) (S ?_)
   refine ah cs h (fun cs h=>S ?_) fun cs h=>S ?_
   all_goals
    exact FHz_ h
  ·obtain⟨h,cs⟩:=Ro_ h
   rw[eTS_] at h
   refine Sg_ 27 [.tmp 4] Tryz.func80 (h:=S ?_)
   refine ah cs h (fun cs h=>S ?_) fun cs h=>S ?_
   ·refine aL (b:=false) (sz:=2) (es:=a0.map (al false)) 0 SC fun hl0=>?_; rw[aB] at hl0
    refine aG (rl_ h) (fun i4 s4=>[(0,.val (.pv (.sl false 2 (a0.map (al false))))),(1,.val (.pv (.sl false 2 (a1.map (al false))))),(5,.val (.pv (I (i4:Int))))]) (fun i4 s4=>[]) (Slm_ SC) (fun i4 s4 hi h=>?_) (fun s4 h=>?_)
    ·have w:=ws_ i4
     refine S ?_
     refine aE cs fun cs=>S ?_
     refine rb_ h fun v19 q h=>av (al false) q (S ?_)
     refine rb_ h fun v23 q h=>av (al false) q (S ?_)
     refine rb_ h fun v25 q h=>ai [false,false] (ih.1 _ _ _ q) (S ?_)
     refine ae (DHa_ [] []) (S ?_)
     refine ah cs h (fun cs h=>S ?_) fun cs h=>S ?_
     ·exact aJ h
     ·exact FHz_ h
    ·refine S ?_
     refine aF cs fun cs=>S ?_
     exact FHz_ h
   ·exact FHz_ h
theorem eTs_{a0:Tt}{a1:Tt}{r:Bool}(h:eT_ a0 a1=some r):Sat ag 26 [((al false) a0),((al false) a1)] (B r):=by
 obtain⟨n,hn⟩:=ls_ h
 exact(eTN_1 n).1 _ _ _ hn
theorem eTS_2{a0:List Tt}{a1:List Tt}{r:Bool}(h:eTS_1 a0 a1=some r):Sat ag 80 [(.sl false 2 (a0.map (al false))),(.sl false 2 (a1.map (al false)))] (B r):=by
 obtain⟨n,hn⟩:=ls_ h
 exact(eTN_1 n).2 _ _ _ hn

theorem eFN_2(n:Nat):(∀ (a0:Ft) (a1:Ft) (r:Bool),eFN_ n a0 a1=some r→Sat ag 27 [((aj false) a0),((aj false) a1)] (B r))∧(∀ (a0:List Ft) (a1:List Ft) (r:Bool),eFS_ n a0 a1=some r→Sat ag 79 [(.sl false 5 (a0.map (aj false))),(.sl false 5 (a1.map (aj false)))] (B r)):=by
 induction n with
 | zero=>exact⟨fun _ _ _ h=>by simp[eFN_] at h,fun _ _ _ h=>by simp[eFS_] at h⟩
 | succ n ih=>
  refine⟨fun a0 a1 r h=>?_,fun a0 a1 r h=>?_⟩
  ·obtain⟨h,cs⟩:=Ro_ h
   rw[eFN_] at h
   refine Sg_ 27 [.tmp 4] Tryz.func27 (h:=S ?_)
   refine ah cs h (fun cs h=>S ?_) fun cs h=>S ?_
   refine rb_ h fun v14 q h=>ai [false,false] (eTs_ q) (S ?_)
   refine ah cs h (fun cs h=>S ?_) fun cs h=>S ?_
   refine ah cs h (fun cs h=>S ?_) fun cs h=>S ?_
   refine rb_ h fun v25 q h=>ai [false,false] (ih.2 _ _ _ q) (S ?_)
   refine ah cs h (fun cs h=>S ?_) fun cs h=>S ?_
   all_goals
    exact FHz_ h
  ·obtain⟨h,cs⟩:=Ro_ h
   rw[eFS_] at h
   refine Sg_ 27 [.tmp 4] Tryz.func79 (h:=S ?_)
   refine ah cs h (fun cs h=>S ?_) fun cs h=>S ?_
   ·refine aL (b:=false) (sz:=5) (es:=a0.map (aj false)) 0 SC fun hl0=>?_; rw[aB] at hl0
    refine aG (rl_ h) (fun i4 s4=>[(0,.val (.pv (.sl false 5 (a0.map (aj false))))),(1,.val (.pv (.sl false 5 (a1.map (aj false))))),(5,.val (.pv (I (i4:Int))))]) (fun i4 s4=>[]) (Slm_ SC) (fun i4 s4 hi h=>?_) (fun s4 h=>?_)
    ·have w:=ws_ i4
     refine S ?_
     refine aE cs fun cs=>S ?_
     refine rb_ h fun v19 q h=>av (aj false) q (S ?_)
     refine rb_ h fun v23 q h=>av (aj false) q (S ?_)
     refine rb_ h fun v25 q h=>ai [false,false] (ih.1 _ _ _ q) (S ?_)
     refine ae (DHa_ [] []) (S ?_)
     refine ah cs h (fun cs h=>S ?_) fun cs h=>S ?_
     ·exact aJ h
     ·exact FHz_ h
    ·refine S ?_
     refine aF cs fun cs=>S ?_
     exact FHz_ h
   ·exact FHz_ h
theorem eFs_{a0:Ft}{a1:Ft}{r:Bool}(h:eF_ a0 a1=some r):Sat ag 27 [((aj false) a0),((aj false) a1)] (B r):=by
 obtain⟨n,hn⟩:=ls_ h
 exact(eFN_2 n).1 _ _ _ hn
theorem eFS_3{a0:List Ft}{a1:List Ft}{r:Bool}(h:eFS_1 a0 a1=some r):Sat ag 79 [(.sl false 5 (a0.map (aj false))),(.sl false 5 (a1.map (aj false)))] (B r):=by
 obtain⟨n,hn⟩:=ls_ h
 exact(eFN_2 n).2 _ _ _ hn

theorem eSs_{a0:Sa}{a1:Sa}  {r:Bool}(h:eS_1 a0 a1=some r):Sat ag 25 [((aM false) a0),((aM false) a1)] (B r):=by
 obtain⟨h,cs⟩:=Ro_ h
 unfold eS_1 at h
 refine Sg_ 17 [.tmp 4] Tryz.func25 (h:=S ?_)
 refine rb_ h fun v9 q h=>ai [false,false] (eFS_3 q) (S ?_)
 refine ah cs h (fun cs h=>S ?_) fun cs h=>S ?_
 refine rb_ h fun v15 q h=>ai [false,false] (eFS_3 q) (S ?_)
 refine ah cs h (fun cs h=>S ?_) fun cs h=>S ?_
 all_goals
  exact FHz_ h

theorem eDN_1(n:Nat):(∀ (a0:Dt) (a1:Dt) (r:Bool),eDN_ n a0 a1=some r→Sat ag 8 [((aq false) a0),((aq false) a1)] (B r))∧(∀ (a0:List Dt) (a1:List Dt) (r:Bool),eDS_ n a0 a1=some r→Sat ag 28 [(.sl false 12 (a0.map (aq false))),(.sl false 12 (a1.map (aq false)))] (B r)):=by
 induction n with
 | zero=>exact⟨fun _ _ _ h=>by simp[eDN_] at h,fun _ _ _ h=>by simp[eDS_] at h⟩
 | succ n ih=>
  refine⟨fun a0 a1 r h=>?_,fun a0 a1 r h=>?_⟩
  ·obtain⟨h,cs⟩:=Ro_ h
   rw[eDN_] at h
   refine Sg_ 39 [.tmp 4] Tryz.func8 (h:=S ?_)
   refine ah cs h (fun cs h=>S ?_) fun cs h=>S ?_
   refine rb_ h fun v14 q h=>ai [false,false] (eSs_ q) (S ?_)
   refine ah cs h (fun cs h=>S ?_) fun cs h=>S ?_
   refine ah cs h (fun cs h=>S ?_) fun cs h=>S ?_
   refine rb_ h fun v25 q h=>ai [false,false] (eTs_ q) (S ?_)
   refine ah cs h (fun cs h=>S ?_) fun cs h=>S ?_
   refine rb_ h fun v31 q h=>ai [false,false] (eFs_ q) (S ?_)
   refine ah cs h (fun cs h=>S ?_) fun cs h=>S ?_
   refine rb_ h fun v37 q h=>ai [false,false] (ih.2 _ _ _ q) (S ?_)
   refine ah cs h (fun cs h=>S ?_) fun cs h=>S ?_
   all_goals
    exact FHz_ h
  ·obtain⟨h,cs⟩:=Ro_ h
   rw[eDS_] at h
   refine Sg_ 27 [.tmp 4] Tryz.func28 (h:=S ?_)
   refine ah cs h (fun cs h=>S ?_) fun cs h=>S ?_
   ·refine aL (b:=false) (sz:=12) (es:=a0.map (aq false)) 0 SC fun hl0=>?_; rw[aB] at hl0
    refine aG (rl_ h) (fun i4 s4=>[(0,.val (.pv (.sl false 12 (a0.map (aq false))))),(1,.val (.pv (.sl false 12 (a1.map (aq false))))),(5,.val (.pv (I (i4:Int))))]) (fun i4 s4=>[]) (Slm_ SC) (fun i4 s4 hi h=>?_) (fun s4 h=>?_)
    ·have w:=ws_ i4
     refine S ?_
     refine aE cs fun cs=>S ?_
     refine rb_ h fun v19 q h=>av (aq false) q (S ?_)
     refine rb_ h fun v23 q h=>av (aq false) q (S ?_)
     refine rb_ h fun v25 q h=>ai [false,false] (ih.1 _ _ _ q) (S ?_)
     refine ae (DHa_ [] []) (S ?_)
     refine ah cs h (fun cs h=>S ?_) fun cs h=>S ?_
     ·exact aJ h
     ·exact FHz_ h
    ·refine S ?_
     refine aF cs fun cs=>S ?_
     exact FHz_ h
   ·exact FHz_ h
theorem eDs_{a0:Dt}{a1:Dt}{r:Bool}(h:eD_ a0 a1=some r):Sat ag 8 [((aq false) a0),((aq false) a1)] (B r):=by
 obtain⟨n,hn⟩:=ls_ h
 exact(eDN_1 n).1 _ _ _ hn
theorem eDS_2{a0:List Dt}{a1:List Dt}{r:Bool}(h:eDS_1 a0 a1=some r):Sat ag 28 [(.sl false 12 (a0.map (aq false))),(.sl false 12 (a1.map (aq false)))] (B r):=by
 obtain⟨n,hn⟩:=ls_ h
 exact(eDN_1 n).2 _ _ _ hn

theorem eSs_1{a0:Sb}{a1:Sb}  {r:Bool}(h:eS_2 a0 a1=some r):Sat ag 9 [((Sb.pv false) a0),((Sb.pv false) a1)] (B r):=by
 obtain⟨h,cs⟩:=Ro_ h
 unfold eS_2 at h
 refine Sg_ 28 [.tmp 4] Tryz.func9 (h:=S ?_)
 refine ah cs h (fun cs h=>S ?_) fun cs h=>S ?_
 refine rb_ h fun v14 q h=>ai [false,false] (eFs_ q) (S ?_)
 refine ah cs h (fun cs h=>S ?_) fun cs h=>S ?_
 refine rb_ h fun v20 q h=>ai [false,false] (eDs_ q) (S ?_)
 refine ah cs h (fun cs h=>S ?_) fun cs h=>S ?_
 refine rb_ h fun v26 q h=>ai [false,false] (eDs_ q) (S ?_)
 refine ah cs h (fun cs h=>S ?_) fun cs h=>S ?_
 all_goals
  exact FHz_ h

theorem mTs_{a0:Int}  {r:ByteArray}(h:mT_ a0=some r):Sat ag 83 [(I a0)] (Sx r):=by
 obtain⟨h,cs⟩:=Ro_ h
 unfold mT_ at h
 refine Sg_ 20 [.tmp 2] Tryz.func83 (h:=S ?_)
 refine ah cs h (fun cs h=>S ?_) fun cs h=>S ?_
 ·exact FHz_ h
 ·replace h:=rl_ h
  refine Mg.whileN h (fun s4=>[(0,.val (.pv (I s4.1))),(3,.val (.pv (Sx s4.2)))]) (fun s4=>[]) (Slm_ SC) (fun n4 s4 h=>?_)
  refine S ?_
  refine ah cs h (fun cs h=>S ?_) fun cs h=>S ?_
  ·refine rb_ h fun v9 q h=>remH.mk q (S ?_)
   refine rb_ h fun v13 q h=>BstrH.mk q SC (S ?_)
   refine rb_ h fun v15 q h=>SappH.mk q (S ?_)
   refine rb_ h fun v17 q h=>quoH.mk q (S ?_)
   have h:=rs_ h
   refine aW ⟨_,h,?_⟩
   exact Slm_ SC
  ·have h:=rs_ h
   refine rb_ h fun v19 q h=>SappH.mk q (S ?_)
   exact FHz_ h

theorem mTS_7(n:Nat):(∀ (a0:List Tt) (a1:Int) (r:Int×(List Tt)),mTS_ n a0 a1=some r→SatIO ag 82 [(.sl true 2 (a0.map (al true))),(I a1)] [(.sl true 2 (r.2.map (al true))),(I a1)] (I r.1)):=by
 induction n with
 | zero=>exact fun _ _ _ h=>by simp[mTS_] at h
 | succ n ih=>
  refine fun a0 a1 r h=>?_
  obtain⟨h,cs⟩:=Ro_ h
  rw[mTS_] at h
  refine SIo_ (nt:=28) (rs:=[.tmp 4]) (n:=100000) Tryz.func82 rfl rfl rfl rfl (by simp) (S ?_)
  refine au (S ?_)
  refine aV (Nat.le_of_eq rfl) (S ?_)
  refine au (S ?_)
  refine aV (Nat.le_of_eq rfl) (S ?_)
  replace h:=rl_ h
  refine MgI.whileN h (fun s2=>[(0,.val (.own 10000)),(1,.val (.pv (I s2.2.1))),(5,.val (.pv (I s2.2.2)))]) (fun s2=>[(10000,(2,s2.1.map (al true)))]) (Slm_ SC) (fun n2 s2 h=>?_)
  refine S ?_
  refine au (S ?_)
  refine au (S ?_)
  refine au (S ?_)
  refine au (S ?_)
  refine aV (Nat.le_of_eq rfl) (S ?_)
  refine ah cs h (fun cs h=>S ?_) fun cs h=>S ?_
  ·refine au (S ?_)
   refine au (S ?_)
   refine au (S ?_)
   refine au (S ?_)
   refine rb_ h fun v15 q h=>ai [false] (mTs_ q) (S ?_)
   refine au (S ?_)
   refine rb_ h fun v16 q h=>av (al true) q (S ?_)
   refine au (S ?_)
   refine au (S ?_)
   refine rb_ h fun w2 q h=>EldH.c (al true) q (S ?_)
   refine aV (Nat.le_of_eq rfl) (S ?_)
   refine au (S ?_)
   refine au (S ?_)
   refine au (S ?_)
   refine aV (Nat.le_of_eq rfl) (S ?_)
   refine au (S ?_)
   refine au (S ?_)
   refine au (S ?_)
   refine rb_ h fun v22 q h=>av (al true) q (S ?_)
   refine au (S ?_)
   obtain⟨w3,hw3,h⟩:=rb_1 h
   obtain⟨v26,hv26,h⟩:=rb_1 h
   refine Vei_ (fx:=(al true)) (c:=10000) (sz:=2) (p:=[1]) (off:=1) (h1:=rfl) (h3:=rfl) (h2:=rfl) rfl rfl rfl rfl rfl rfl rfl rfl rfl hw3 (ih _ _ _ hv26) SC SC (S ?_)
   refine au (S ?_)
   refine aV (Nat.le_of_eq rfl) (S ?_)
   refine au (S ?_)
   refine au (S ?_)
   refine au (S ?_)
   refine aV (Nat.le_of_eq rfl) (S ?_)
   have h:=rs_ h
   refine aW ⟨_,h,?_⟩
   exact Slm_ SC
  ·have h:=rs_ h
   refine au (S ?_)
   refine au (S ?_)
   refine aV (Nat.le_of_eq rfl) (S ?_)
   cases rs_ h
   exact FinIO.mk SC
theorem mTS_4{a0:List Tt}{a1:Int}{r:Int×(List Tt)}(h:mTS_3 a0 a1=some r):SatIO ag 82 [(.sl true 2 (a0.map (al true))),(I a1)] [(.sl true 2 (r.2.map (al true))),(I a1)] (I r.1):=by
 obtain⟨n,hn⟩:=ls_ h
 exact(mTS_7 n) _ _ _ hn

theorem mTs_1{a0:Tt}{a1:Int}  {r:Int×(List Tt)}(h:mT_1 a0 a1=some r):SatIO ag 31 [((al true) a0),(I a1)] [((al true) (Tt.mk a0.Name r.2)),(I a1)] (I r.1):=by
 obtain⟨h,cs⟩:=Ro_ h
 unfold mT_1 at h
 refine SatIO.of_m (nt:=10) (rs:=[.tmp 4]) (n:=100000) Tryz.func31 rfl rfl rfl rfl (by simp) (S ?_)
 obtain⟨v8,hv8,h⟩:=rb_1 h
 refine CHi_ [(.own 10000),(.pv (I a1))] [(10000,(2,v8.2.map (al true)))] (mTS_4 hv8) SC (S ?_)
 cases rs_ h
 exact FinIO.mk SC

theorem mFS_7(n:Nat):(∀ (a0:List Ft) (a1:Int) (r:Int×(List Ft)),mFS_1 n a0 a1=some r→SatIO ag 81 [(.sl true 5 (a0.map (aj true))),(I a1)] [(.sl true 5 (r.2.map (aj true))),(I a1)] (I r.1)):=by
 induction n with
 | zero=>exact fun _ _ _ h=>by simp[mFS_1] at h
 | succ n ih=>
  refine fun a0 a1 r h=>?_
  obtain⟨h,cs⟩:=Ro_ h
  rw[mFS_1] at h
  refine SIo_ (nt:=52) (rs:=[.tmp 4]) (n:=100000) Tryz.func81 rfl rfl rfl rfl (by simp) (S ?_)
  refine au (S ?_)
  refine aV (Nat.le_of_eq rfl) (S ?_)
  refine au (S ?_)
  refine aV (Nat.le_of_eq rfl) (S ?_)
  replace h:=rl_ h
  refine MgI.whileN h (fun s2=>[(0,.val (.own 10000)),(1,.val (.pv (I s2.2.1))),(5,.val (.pv (I s2.2.2)))]) (fun s2=>[(10000,(5,s2.1.map (aj true)))]) (Slm_ SC) (fun n2 s2 h=>?_)
  refine S ?_
  refine au (S ?_)
  refine au (S ?_)
  refine au (S ?_)
  refine au (S ?_)
  refine aV (Nat.le_of_eq rfl) (S ?_)
  refine ah cs h (fun cs h=>S ?_) fun cs h=>S ?_
  ·refine au (S ?_)
   refine au (S ?_)
   refine au (S ?_)
   refine au (S ?_)
   refine rb_ h fun v15 q h=>av (aj true) q (S ?_)
   refine au (S ?_)
   refine au (S ?_)
   refine rb_ h fun w2 q h=>EldH.c (aj true) q (S ?_)
   refine aV (Nat.le_of_eq rfl) (S ?_)
   refine au (S ?_)
   refine au (S ?_)
   refine au (S ?_)
   refine aV (Nat.le_of_eq rfl) (S ?_)
   refine au (S ?_)
   refine au (S ?_)
   refine au (S ?_)
   refine au (S ?_)
   refine rb_ h fun v22 q h=>ai [false] (mTs_ q) (S ?_)
   refine au (S ?_)
   refine rb_ h fun v23 q h=>av (aj true) q (S ?_)
   refine au (S ?_)
   refine au (S ?_)
   refine au (S ?_)
   refine rb_ h fun w3 q h=>EldH.c (aj true) q (S ?_)
   refine aV (Nat.le_of_eq rfl) (S ?_)
   refine au (S ?_)
   refine au (S ?_)
   refine au (S ?_)
   refine aV (Nat.le_of_eq rfl) (S ?_)
   refine au (S ?_)
   refine au (S ?_)
   refine au (S ?_)
   refine rb_ h fun v30 q h=>av (aj true) q (S ?_)
   refine au (S ?_)
   refine au (S ?_)
   obtain⟨w4,hw4,h⟩:=rb_1 h
   obtain⟨v35,hv35,h⟩:=rb_1 h
   refine Vei_ (fx:=(aj true)) (c:=10000) (sz:=5) (p:=[1,1]) (off:=2) (h1:=rfl) (h3:=rfl) (h2:=rfl) rfl rfl rfl rfl rfl rfl rfl rfl rfl hw4 (mTS_4 hv35) SC SC (S ?_)
   refine au (S ?_)
   refine aV (Nat.le_of_eq rfl) (S ?_)
   refine au (S ?_)
   refine au (S ?_)
   refine au (S ?_)
   refine au (S ?_)
   refine rb_ h fun v39 q h=>ai [false] (mTs_ q) (S ?_)
   refine au (S ?_)
   refine rb_ h fun v40 q h=>av (aj true) q (S ?_)
   refine au (S ?_)
   refine au (S ?_)
   refine rb_ h fun w5 q h=>EldH.c (aj true) q (S ?_)
   refine aV (Nat.le_of_eq rfl) (S ?_)
   refine au (S ?_)
   refine au (S ?_)
   refine au (S ?_)
   refine aV (Nat.le_of_eq rfl) (S ?_)
   refine au (S ?_)
   refine au (S ?_)
   refine au (S ?_)
   refine rb_ h fun v46 q h=>av (aj true) q (S ?_)
   refine au (S ?_)
   obtain⟨w6,hw6,h⟩:=rb_1 h
   obtain⟨v50,hv50,h⟩:=rb_1 h
   refine Vei_ (fx:=(aj true)) (c:=10000) (sz:=5) (p:=[3]) (off:=4) (h1:=rfl) (h3:=rfl) (h2:=rfl) rfl rfl rfl rfl rfl rfl rfl rfl rfl hw6 (ih _ _ _ hv50) SC SC (S ?_)
   refine au (S ?_)
   refine aV (Nat.le_of_eq rfl) (S ?_)
   refine au (S ?_)
   refine au (S ?_)
   refine au (S ?_)
   refine aV (Nat.le_of_eq rfl) (S ?_)
   have h:=rs_ h
   refine aW ⟨_,h,?_⟩
   exact Slm_ SC
  ·have h:=rs_ h
   refine au (S ?_)
   refine au (S ?_)
   refine aV (Nat.le_of_eq rfl) (S ?_)
   cases rs_ h
   exact FinIO.mk SC
theorem mFS_4{a0:List Ft}{a1:Int}{r:Int×(List Ft)}(h:mFS_3 a0 a1=some r):SatIO ag 81 [(.sl true 5 (a0.map (aj true))),(I a1)] [(.sl true 5 (r.2.map (aj true))),(I a1)] (I r.1):=by
 obtain⟨n,hn⟩:=ls_ h
 exact(mFS_7 n) _ _ _ hn

theorem mFs_{a0:Ft}{a1:Int}  {r:Int×(List Tt)×(List Ft)}(h:mF_ a0 a1=some r):SatIO ag 29 [((aj true) a0),(I a1)] [((aj true) (Ft.mk a0.Op (Tt.mk a0.Atom.Name r.2.1) a0.Var r.2.2)),(I a1)] (I r.1):=by
 obtain⟨h,cs⟩:=Ro_ h
 unfold mF_ at h
 refine SatIO.of_m (nt:=14) (rs:=[.tmp 4]) (n:=100000) Tryz.func29 rfl rfl rfl rfl (by simp) (S ?_)
 obtain⟨v8,hv8,h⟩:=rb_1 h
 refine CHi_ [(.node [(.pv (Sx a0.Atom.Name)),(.own 10000)]),(.pv (I a1))] [(10000,(2,v8.2.map (al true)))] (mTs_1 hv8) SC (S ?_)
 obtain⟨v12,hv12,h⟩:=rb_1 h
 refine CHi_ [(.own 10001),(.pv (I v8.1))] [(10001,(5,v12.2.map (aj true)))] (mFS_4 hv12) SC (S ?_)
 cases rs_ h
 exact FinIO.mk SC

theorem mSs_{a0:Sa}{a1:Int}  {r:Int×(List Ft)×(List Ft)}(h:mS_ a0 a1=some r):SatIO ag 30 [((aM true) a0),(I a1)] [((aM true) (Sa.mk r.2.1 r.2.2)),(I a1)] (I r.1):=by
 obtain⟨h,cs⟩:=Ro_ h
 unfold mS_ at h
 refine SatIO.of_m (nt:=14) (rs:=[.tmp 4]) (n:=100000) Tryz.func30 rfl rfl rfl rfl (by simp) (S ?_)
 obtain⟨v8,hv8,h⟩:=rb_1 h
 refine CHi_ [(.own 10000),(.pv (I a1))] [(10000,(5,v8.2.map (aj true)))] (mFS_4 hv8) SC (S ?_)
 obtain⟨v12,hv12,h⟩:=rb_1 h
 refine CHi_ [(.own 10001),(.pv (I v8.1))] [(10001,(5,v12.2.map (aj true)))] (mFS_4 hv12) SC (S ?_)
 cases rs_ h
 exact FinIO.mk SC

theorem mDS_6(n:Nat):(∀ (a0:List Dt) (a1:Int) (r:Int×(List Dt)),mDS_ n a0 a1=some r→SatIO ag 32 [(.sl true 12 (a0.map (aq true))),(I a1)] [(.sl true 12 (r.2.map (aq true))),(I a1)] (I r.1)):=by
 induction n with
 | zero=>exact fun _ _ _ h=>by simp[mDS_] at h
 | succ n ih=>
  refine fun a0 a1 r h=>?_
  obtain⟨h,cs⟩:=Ro_ h
  rw[mDS_] at h
  refine SIo_ (nt:=111) (rs:=[.tmp 4]) (n:=100000) Tryz.func32 rfl rfl rfl rfl (by simp) (S ?_)
  refine au (S ?_)
  refine aV (Nat.le_of_eq rfl) (S ?_)
  refine au (S ?_)
  refine aV (Nat.le_of_eq rfl) (S ?_)
  replace h:=rl_ h
  refine MgI.whileN h (fun s2=>[(0,.val (.own 10000)),(1,.val (.pv (I s2.2.1))),(5,.val (.pv (I s2.2.2)))]) (fun s2=>[(10000,(12,s2.1.map (aq true)))]) (Slm_ SC) (fun n2 s2 h=>?_)
  refine S ?_
  refine au (S ?_)
  refine au (S ?_)
  refine au (S ?_)
  refine au (S ?_)
  refine aV (Nat.le_of_eq rfl) (S ?_)
  refine ah cs h (fun cs h=>S ?_) fun cs h=>S ?_
  ·refine au (S ?_)
   refine au (S ?_)
   refine au (S ?_)
   refine au (S ?_)
   refine rb_ h fun v15 q h=>av (aq true) q (S ?_)
   refine au (S ?_)
   refine au (S ?_)
   refine rb_ h fun w2 q h=>EldH.c (aq true) q (S ?_)
   refine aV (Nat.le_of_eq rfl) (S ?_)
   refine au (S ?_)
   refine au (S ?_)
   refine au (S ?_)
   refine aV (Nat.le_of_eq rfl) (S ?_)
   refine au (S ?_)
   refine au (S ?_)
   refine au (S ?_)
   refine rb_ h fun v21 q h=>av (aq true) q (S ?_)
   refine au (S ?_)
   refine au (S ?_)
   obtain⟨w3,hw3,h⟩:=rb_1 h
   obtain⟨v26,hv26,h⟩:=rb_1 h
   refine Vei_ (fx:=(aq true)) (c:=10000) (sz:=12) (p:=[1,0]) (off:=1) (h1:=rfl) (h3:=rfl) (h2:=rfl) rfl rfl rfl rfl rfl rfl rfl rfl rfl hw3 (mFS_4 hv26) SC SC (S ?_)
   refine au (S ?_)
   refine aV (Nat.le_of_eq rfl) (S ?_)
   refine au (S ?_)
   refine au (S ?_)
   refine au (S ?_)
   refine rb_ h fun v29 q h=>av (aq true) q (S ?_)
   refine au (S ?_)
   refine au (S ?_)
   obtain⟨w4,hw4,h⟩:=rb_1 h
   obtain⟨v34,hv34,h⟩:=rb_1 h
   refine Vei_ (fx:=(aq true)) (c:=10000) (sz:=12) (p:=[1,1]) (off:=2) (h1:=rfl) (h3:=rfl) (h2:=rfl) rfl rfl rfl rfl rfl rfl rfl rfl rfl hw4 (mFS_4 hv34) SC SC (S ?_)
   refine au (S ?_)
   refine aV (Nat.le_of_eq rfl) (S ?_)
   refine au (S ?_)
   refine au (S ?_)
   refine au (S ?_)
   refine au (S ?_)
   refine rb_ h fun v38 q h=>av (aq true) q (S ?_)
   refine au (S ?_)
   refine au (S ?_)
   refine rb_ h fun w5 q h=>EldH.c (aq true) q (S ?_)
   refine aV (Nat.le_of_eq rfl) (S ?_)
   refine au (S ?_)
   refine au (S ?_)
   refine au (S ?_)
   refine aV (Nat.le_of_eq rfl) (S ?_)
   refine au (S ?_)
   refine au (S ?_)
   refine au (S ?_)
   refine au (S ?_)
   refine rb_ h fun v45 q h=>ai [false] (mTs_ q) (S ?_)
   refine au (S ?_)
   refine rb_ h fun v46 q h=>av (aq true) q (S ?_)
   refine au (S ?_)
   refine au (S ?_)
   refine au (S ?_)
   refine rb_ h fun w6 q h=>EldH.c (aq true) q (S ?_)
   refine aV (Nat.le_of_eq rfl) (S ?_)
   refine au (S ?_)
   refine au (S ?_)
   refine au (S ?_)
   refine aV (Nat.le_of_eq rfl) (S ?_)
   refine au (S ?_)
   refine au (S ?_)
   refine au (S ?_)
   refine rb_ h fun v53 q h=>av (aq true) q (S ?_)
   refine au (S ?_)
   refine au (S ?_)
   obtain⟨w7,hw7,h⟩:=rb_1 h
   obtain⟨v58,hv58,h⟩:=rb_1 h
   refine Vei_ (fx:=(aq true)) (c:=10000) (sz:=12) (p:=[3,1]) (off:=5) (h1:=rfl) (h3:=rfl) (h2:=rfl) rfl rfl rfl rfl rfl rfl rfl rfl rfl hw7 (mTS_4 hv58) SC SC (S ?_)
   refine au (S ?_)
   refine aV (Nat.le_of_eq rfl) (S ?_)
   refine au (S ?_)
   refine au (S ?_)
   refine au (S ?_)
   refine au (S ?_)
   refine rb_ h fun v62 q h=>av (aq true) q (S ?_)
   refine au (S ?_)
   refine au (S ?_)
   refine au (S ?_)
   refine rb_ h fun w8 q h=>EldH.c (aq true) q (S ?_)
   refine aV (Nat.le_of_eq rfl) (S ?_)
   refine au (S ?_)
   refine au (S ?_)
   refine au (S ?_)
   refine aV (Nat.le_of_eq rfl) (S ?_)
   refine au (S ?_)
   refine au (S ?_)
   refine au (S ?_)
   refine au (S ?_)
   refine rb_ h fun v70 q h=>ai [false] (mTs_ q) (S ?_)
   refine au (S ?_)
   refine rb_ h fun v71 q h=>av (aq true) q (S ?_)
   refine au (S ?_)
   refine au (S ?_)
   refine au (S ?_)
   refine au (S ?_)
   refine rb_ h fun w9 q h=>EldH.c (aq true) q (S ?_)
   refine aV (Nat.le_of_eq rfl) (S ?_)
   refine au (S ?_)
   refine au (S ?_)
   refine au (S ?_)
   refine aV (Nat.le_of_eq rfl) (S ?_)
   refine au (S ?_)
   refine au (S ?_)
   refine au (S ?_)
   refine rb_ h fun v79 q h=>av (aq true) q (S ?_)
   refine au (S ?_)
   refine au (S ?_)
   refine au (S ?_)
   obtain⟨w10,hw10,h⟩:=rb_1 h
   obtain⟨v85,hv85,h⟩:=rb_1 h
   refine Vei_ (fx:=(aq true)) (c:=10000) (sz:=12) (p:=[4,1,1]) (off:=8) (h1:=rfl) (h3:=rfl) (h2:=rfl) rfl rfl rfl rfl rfl rfl rfl rfl rfl hw10 (mTS_4 hv85) SC SC (S ?_)
   refine au (S ?_)
   refine aV (Nat.le_of_eq rfl) (S ?_)
   refine au (S ?_)
   refine au (S ?_)
   refine au (S ?_)
   refine au (S ?_)
   refine rb_ h fun v89 q h=>ai [false] (mTs_ q) (S ?_)
   refine au (S ?_)
   refine rb_ h fun v90 q h=>av (aq true) q (S ?_)
   refine au (S ?_)
   refine au (S ?_)
   refine au (S ?_)
   refine rb_ h fun w11 q h=>EldH.c (aq true) q (S ?_)
   refine aV (Nat.le_of_eq rfl) (S ?_)
   refine au (S ?_)
   refine au (S ?_)
   refine au (S ?_)
   refine aV (Nat.le_of_eq rfl) (S ?_)
   refine au (S ?_)
   refine au (S ?_)
   refine au (S ?_)
   refine rb_ h fun v97 q h=>av (aq true) q (S ?_)
   refine au (S ?_)
   refine au (S ?_)
   obtain⟨w12,hw12,h⟩:=rb_1 h
   obtain⟨v102,hv102,h⟩:=rb_1 h
   refine Vei_ (fx:=(aq true)) (c:=10000) (sz:=12) (p:=[4,3]) (off:=10) (h1:=rfl) (h3:=rfl) (h2:=rfl) rfl rfl rfl rfl rfl rfl rfl rfl rfl hw12 (mFS_4 hv102) SC SC (S ?_)
   refine au (S ?_)
   refine aV (Nat.le_of_eq rfl) (S ?_)
   refine au (S ?_)
   refine au (S ?_)
   refine au (S ?_)
   refine rb_ h fun v105 q h=>av (aq true) q (S ?_)
   refine au (S ?_)
   obtain⟨w13,hw13,h⟩:=rb_1 h
   obtain⟨v109,hv109,h⟩:=rb_1 h
   refine Vei_ (fx:=(aq true)) (c:=10000) (sz:=12) (p:=[5]) (off:=11) (h1:=rfl) (h3:=rfl) (h2:=rfl) rfl rfl rfl rfl rfl rfl rfl rfl rfl hw13 (ih _ _ _ hv109) SC SC (S ?_)
   refine au (S ?_)
   refine aV (Nat.le_of_eq rfl) (S ?_)
   refine au (S ?_)
   refine au (S ?_)
   refine au (S ?_)
   refine aV (Nat.le_of_eq rfl) (S ?_)
   have h:=rs_ h
   refine aW ⟨_,h,?_⟩
   exact Slm_ SC
  ·have h:=rs_ h
   refine au (S ?_)
   refine au (S ?_)
   refine aV (Nat.le_of_eq rfl) (S ?_)
   cases rs_ h
   exact FinIO.mk SC
theorem mDS_7{a0:List Dt}{a1:Int}{r:Int×(List Dt)}(h:mDS_1 a0 a1=some r):SatIO ag 32 [(.sl true 12 (a0.map (aq true))),(I a1)] [(.sl true 12 (r.2.map (aq true))),(I a1)] (I r.1):=by
 obtain⟨n,hn⟩:=ls_ h
 exact(mDS_6 n) _ _ _ hn

theorem mDs_{a0:Dt}{a1:Int}  {r:Int×(List Ft)×(List Ft)×(List Tt)×(List Tt)×(List Ft)×(List Dt)}(h:mD_ a0 a1=some r):SatIO ag 11 [((aq true) a0),(I a1)] [((aq true) (Dt.mk a0.Rule (Sa.mk r.2.1 r.2.2.1) a0.Main (Tt.mk a0.Term.Name r.2.2.2.1) (Ft.mk a0.Cut.Op (Tt.mk a0.Cut.Atom.Name r.2.2.2.2.1) a0.Cut.Var r.2.2.2.2.2.1) r.2.2.2.2.2.2)),(I a1)] (I r.1):=by
 obtain⟨h,cs⟩:=Ro_ h
 unfold mD_ at h
 refine SatIO.of_m (nt:=22) (rs:=[.tmp 4]) (n:=100000) Tryz.func11 rfl rfl rfl rfl (by simp) (S ?_)
 obtain⟨v8,hv8,h⟩:=rb_1 h
 refine CHi_ [(.node [(.own 10000),(.own 10001)]),(.pv (I a1))] [(10000,(5,v8.2.1.map (aj true))),(10001,(5,v8.2.2.map (aj true)))] (mSs_ hv8) SC (S ?_)
 obtain⟨v12,hv12,h⟩:=rb_1 h
 refine CHi_ [(.node [(.pv (Sx a0.Term.Name)),(.own 10002)]),(.pv (I v8.1))] [(10002,(2,v12.2.map (al true)))] (mTs_1 hv12) SC (S ?_)
 obtain⟨v16,hv16,h⟩:=rb_1 h
 refine CHi_ [(.node [(.pv (I a0.Cut.Op)),(.node [(.pv (Sx a0.Cut.Atom.Name)),(.own 10003)]),(.pv (Sx a0.Cut.Var)),(.own 10004)]),(.pv (I v12.1))] [(10003,(2,v16.2.1.map (al true))),(10004,(5,v16.2.2.map (aj true)))] (mFs_ hv16) SC (S ?_)
 obtain⟨v20,hv20,h⟩:=rb_1 h
 refine CHi_ [(.own 10005),(.pv (I v16.1))] [(10005,(12,v20.2.map (aq true)))] (mDS_7 hv20) SC (S ?_)
 cases rs_ h
 exact FinIO.mk SC

theorem mSs_1{a0:Sb}{a1:Int}  {r:Int×(List Tt)×(List Ft)×(List Ft)×(List Ft)×(List Tt)×(List Tt)×(List Ft)×(List Dt)×(List Ft)×(List Ft)×(List Tt)×(List Tt)×(List Ft)×(List Dt)}(h:mS_1 a0 a1=some r):SatIO ag 10 [((Sb.pv true) a0),(I a1)] [((Sb.pv true) (Sb.mk a0.Var (Ft.mk a0.Formula.Op (Tt.mk a0.Formula.Atom.Name r.2.1) a0.Formula.Var r.2.2.1) (Dt.mk a0.Base.Rule (Sa.mk r.2.2.2.1 r.2.2.2.2.1) a0.Base.Main (Tt.mk a0.Base.Term.Name r.2.2.2.2.2.1) (Ft.mk a0.Base.Cut.Op (Tt.mk a0.Base.Cut.Atom.Name r.2.2.2.2.2.2.1) a0.Base.Cut.Var r.2.2.2.2.2.2.2.1) r.2.2.2.2.2.2.2.2.1) (Dt.mk a0.Step.Rule (Sa.mk r.2.2.2.2.2.2.2.2.2.1 r.2.2.2.2.2.2.2.2.2.2.1) a0.Step.Main (Tt.mk a0.Step.Term.Name r.2.2.2.2.2.2.2.2.2.2.2.1) (Ft.mk a0.Step.Cut.Op (Tt.mk a0.Step.Cut.Atom.Name r.2.2.2.2.2.2.2.2.2.2.2.2.1) a0.Step.Cut.Var r.2.2.2.2.2.2.2.2.2.2.2.2.2.1) r.2.2.2.2.2.2.2.2.2.2.2.2.2.2))),(I a1)] (I r.1):=by
 obtain⟨h,cs⟩:=Ro_ h
 unfold mS_1 at h
 refine SatIO.of_m (nt:=18) (rs:=[.tmp 4]) (n:=100000) Tryz.func10 rfl rfl rfl rfl (by simp) (S ?_)
 obtain⟨v8,hv8,h⟩:=rb_1 h
 refine CHi_ [(.node [(.pv (I a0.Formula.Op)),(.node [(.pv (Sx a0.Formula.Atom.Name)),(.own 10000)]),(.pv (Sx a0.Formula.Var)),(.own 10001)]),(.pv (I a1))] [(10000,(2,v8.2.1.map (al true))),(10001,(5,v8.2.2.map (aj true)))] (mFs_ hv8) SC (S ?_)
 obtain⟨v12,hv12,h⟩:=rb_1 h
 refine CHi_ [(.node [(.pv (I a0.Base.Rule)),(.node [(.own 10002),(.own 10003)]),(.pv (I a0.Base.Main)),(.node [(.pv (Sx a0.Base.Term.Name)),(.own 10004)]),(.node [(.pv (I a0.Base.Cut.Op)),(.node [(.pv (Sx a0.Base.Cut.Atom.Name)),(.own 10005)]),(.pv (Sx a0.Base.Cut.Var)),(.own 10006)]),(.own 10007)]),(.pv (I v8.1))] [(10002,(5,v12.2.1.map (aj true))),(10003,(5,v12.2.2.1.map (aj true))),(10004,(2,v12.2.2.2.1.map (al true))),(10005,(2,v12.2.2.2.2.1.map (al true))),(10006,(5,v12.2.2.2.2.2.1.map (aj true))),(10007,(12,v12.2.2.2.2.2.2.map (aq true)))] (mDs_ hv12) SC (S ?_)
 obtain⟨v16,hv16,h⟩:=rb_1 h
 refine CHi_ [(.node [(.pv (I a0.Step.Rule)),(.node [(.own 10008),(.own 10009)]),(.pv (I a0.Step.Main)),(.node [(.pv (Sx a0.Step.Term.Name)),(.own 10010)]),(.node [(.pv (I a0.Step.Cut.Op)),(.node [(.pv (Sx a0.Step.Cut.Atom.Name)),(.own 10011)]),(.pv (Sx a0.Step.Cut.Var)),(.own 10012)]),(.own 10013)]),(.pv (I v12.1))] [(10008,(5,v16.2.1.map (aj true))),(10009,(5,v16.2.2.1.map (aj true))),(10010,(2,v16.2.2.2.1.map (al true))),(10011,(2,v16.2.2.2.2.1.map (al true))),(10012,(5,v16.2.2.2.2.2.1.map (aj true))),(10013,(12,v16.2.2.2.2.2.2.map (aq true)))] (mDs_ hv16) SC (S ?_)
 cases rs_ h
 exact FinIO.mk SC

theorem hTS_3(n:Nat):(∀ (a0:List Tt) (a1:Int) (r:Int),hTS_ n a0 a1=some r→Sat ag 85 [(.sl false 2 (a0.map (al false))),(I a1)] (I r)):=by
 induction n with
 | zero=>exact fun _ _ _ h=>by simp[hTS_] at h
 | succ n ih=>
  refine fun a0 a1 r h=>?_
  obtain⟨h,cs⟩:=Ro_ h
  rw[hTS_] at h
  refine Sg_ 32 [.tmp 4] Tryz.func85 (h:=S ?_)
  refine aL (b:=false) (sz:=2) (es:=a0.map (al false)) 0 SC fun hl0=>?_; rw[aB] at hl0
  refine aG (rl_ h) (fun i2 s2=>[(0,.val (.pv (.sl false 2 (a0.map (al false))))),(1,.val (.pv (I s2))),(5,.val (.pv (I (i2:Int))))]) (fun i2 s2=>[]) (Slm_ SC) (fun i2 s2 hi h=>?_) (fun s2 h=>?_)
  ·have w:=ws_ i2
   refine S ?_
   refine aE cs fun cs=>S ?_
   refine rb_ h fun v14 q h=>av (al false) q (S ?_)
   refine rb_ h fun v18 q h=>ai [false] (mTs_ q) (S ?_)
   refine ae (DHa_ [] []) (S ?_)
   refine ah cs h (fun cs h=>S ?_) fun cs h=>S ?_
   ·refine rb_ h fun v24 q h=>av (al false) q (S ?_)
    refine rb_ h fun v28 q h=>ai [false,false] (ih _ _ _ q) (S ?_)
    refine ah cs h (fun cs h=>S ?_) fun cs h=>S ?_
    ·exact FHz_ h
    ·exact aJ h
   ·exact FHz_ h
  ·refine S ?_
   refine aF cs fun cs=>S ?_
   exact FHz_ h
theorem hTS_1{a0:List Tt}{a1:Int}{r:Int}(h:hTS_2 a0 a1=some r):Sat ag 85 [(.sl false 2 (a0.map (al false))),(I a1)] (I r):=by
 obtain⟨n,hn⟩:=ls_ h
 exact(hTS_3 n) _ _ _ hn

theorem hFS_3(n:Nat):(∀ (a0:List Ft) (a1:Int) (r:Int),hFS_ n a0 a1=some r→Sat ag 84 [(.sl false 5 (a0.map (aj false))),(I a1)] (I r)):=by
 induction n with
 | zero=>exact fun _ _ _ h=>by simp[hFS_] at h
 | succ n ih=>
  refine fun a0 a1 r h=>?_
  obtain⟨h,cs⟩:=Ro_ h
  rw[hFS_] at h
  refine Sg_ 62 [.tmp 4] Tryz.func84 (h:=S ?_)
  refine aL (b:=false) (sz:=5) (es:=a0.map (aj false)) 0 SC fun hl0=>?_; rw[aB] at hl0
  refine aG (rl_ h) (fun i2 s2=>[(0,.val (.pv (.sl false 5 (a0.map (aj false))))),(1,.val (.pv (I s2))),(5,.val (.pv (I (i2:Int))))]) (fun i2 s2=>[]) (Slm_ SC) (fun i2 s2 hi h=>?_) (fun s2 h=>?_)
  ·have w:=ws_ i2
   refine S ?_
   refine aE cs fun cs=>S ?_
   refine rb_ h fun v14 q h=>av (aj false) q (S ?_)
   refine ah cs h (fun cs h=>S ?_) fun cs h=>S ?_
   refine rb_ h fun v23 q h=>av (aj false) q (S ?_)
   refine rb_ h fun v28 q h=>ai [false] (mTs_ q) (S ?_)
   refine ae (DHa_ [] []) (S ?_)
   refine ah cs h (fun cs h=>S ?_) fun cs h=>S ?_
   refine rb_ h fun v34 q h=>av (aj false) q (S ?_)
   refine rb_ h fun v39 q h=>ai [false,false] (hTS_1 q) (S ?_)
   refine ah cs h (fun cs h=>S ?_) fun cs h=>S ?_
   rotate_left
   refine rb_ h fun v44 q h=>av (aj false) q (S ?_)
   refine rb_ h fun v48 q h=>ai [false] (mTs_ q) (S ?_)
   refine ae (DHa_ [] []) (S ?_)
   refine ah cs h (fun cs h=>S ?_) fun cs h=>S ?_
   refine rb_ h fun v54 q h=>av (aj false) q (S ?_)
   refine rb_ h fun v58 q h=>ai [false,false] (ih _ _ _ q) (S ?_)
   refine ah cs h (fun cs h=>S ?_) fun cs h=>S ?_
   rotate_left
   ·exact aJ h
   all_goals
    exact FHz_ h
  ·refine S ?_
   refine aF cs fun cs=>S ?_
   exact FHz_ h
theorem hFS_1{a0:List Ft}{a1:Int}{r:Int}(h:hFS_2 a0 a1=some r):Sat ag 84 [(.sl false 5 (a0.map (aj false))),(I a1)] (I r):=by
 obtain⟨n,hn⟩:=ls_ h
 exact(hFS_3 n) _ _ _ hn

theorem hSs_{a0:Sa}{a1:Int}  {r:Int}(h:hS_ a0 a1=some r):Sat ag 33 [((aM false) a0),(I a1)] (I r):=by
 obtain⟨h,cs⟩:=Ro_ h
 unfold hS_ at h
 refine Sg_ 18 [.tmp 4] Tryz.func33 (h:=S ?_)
 refine rb_ h fun v8 q h=>ai [false,false] (hFS_1 q) (S ?_)
 refine ah cs h (fun cs h=>S ?_) fun cs h=>S ?_
 ·exact FHz_ h
 ·refine rb_ h fun v14 q h=>ai [false,false] (hFS_1 q) (S ?_)
  refine ah cs h (fun cs h=>S ?_) fun cs h=>S ?_
  ·exact FHz_ h
  ·exact FHz_ h

theorem hTs_{a0:Tt}{a1:Int}  {r:Int}(h:hT_ a0 a1=some r):Sat ag 34 [((al false) a0),(I a1)] (I r):=by
 obtain⟨h,cs⟩:=Ro_ h
 unfold hT_ at h
 refine Sg_ 12 [.tmp 4] Tryz.func34 (h:=S ?_)
 refine rb_ h fun v8 q h=>ai [false,false] (hTS_1 q) (S ?_)
 refine ah cs h (fun cs h=>S ?_) fun cs h=>S ?_
 ·exact FHz_ h
 ·exact FHz_ h

theorem hFs_{a0:Ft}{a1:Int}  {r:Int}(h:hF_ a0 a1=some r):Sat ag 35 [((aj false) a0),(I a1)] (I r):=by
 obtain⟨h,cs⟩:=Ro_ h
 unfold hF_ at h
 refine Sg_ 18 [.tmp 4] Tryz.func35 (h:=S ?_)
 refine rb_ h fun v8 q h=>ai [false,false] (hTs_ q) (S ?_)
 refine ah cs h (fun cs h=>S ?_) fun cs h=>S ?_
 ·exact FHz_ h
 ·refine rb_ h fun v14 q h=>ai [false,false] (hFS_1 q) (S ?_)
  refine ah cs h (fun cs h=>S ?_) fun cs h=>S ?_
  ·exact FHz_ h
  ·exact FHz_ h

theorem hDS_2(n:Nat):(∀ (a0:List Dt) (a1:Int) (r:Int),hDS_ n a0 a1=some r→Sat ag 36 [(.sl false 12 (a0.map (aq false))),(I a1)] (I r)):=by
 induction n with
 | zero=>exact fun _ _ _ h=>by simp[hDS_] at h
 | succ n ih=>
  refine fun a0 a1 r h=>?_
  obtain⟨h,cs⟩:=Ro_ h
  rw[hDS_] at h
  refine Sg_ 135 [.tmp 4] Tryz.func36 (h:=S ?_)
  refine aL (b:=false) (sz:=12) (es:=a0.map (aq false)) 0 SC fun hl0=>?_; rw[aB] at hl0
  refine aG (rl_ h) (fun i2 s2=>[(0,.val (.pv (.sl false 12 (a0.map (aq false))))),(1,.val (.pv (I s2))),(5,.val (.pv (I (i2:Int))))]) (fun i2 s2=>[]) (Slm_ SC) (fun i2 s2 hi h=>?_) (fun s2 h=>?_)
  ·have w:=ws_ i2
   refine S ?_
   refine aE cs fun cs=>S ?_
   refine rb_ h fun v14 q h=>av (aq false) q (S ?_)
   refine ah cs h (fun cs h=>S ?_) fun cs h=>S ?_
   refine rb_ h fun v23 q h=>av (aq false) q (S ?_)
   refine rb_ h fun v28 q h=>ai [false,false] (hFS_1 q) (S ?_)
   refine ah cs h (fun cs h=>S ?_) fun cs h=>S ?_
   rotate_left
   refine rb_ h fun v33 q h=>av (aq false) q (S ?_)
   refine rb_ h fun v38 q h=>ai [false,false] (hFS_1 q) (S ?_)
   refine ah cs h (fun cs h=>S ?_) fun cs h=>S ?_
   rotate_left
   refine rb_ h fun v43 q h=>av (aq false) q (S ?_)
   refine ah cs h (fun cs h=>S ?_) fun cs h=>S ?_
   refine rb_ h fun v52 q h=>av (aq false) q (S ?_)
   refine rb_ h fun v57 q h=>ai [false] (mTs_ q) (S ?_)
   refine ae (DHa_ [] []) (S ?_)
   refine ah cs h (fun cs h=>S ?_) fun cs h=>S ?_
   refine rb_ h fun v63 q h=>av (aq false) q (S ?_)
   refine rb_ h fun v68 q h=>ai [false,false] (hTS_1 q) (S ?_)
   refine ah cs h (fun cs h=>S ?_) fun cs h=>S ?_
   rotate_left
   refine rb_ h fun v73 q h=>av (aq false) q (S ?_)
   refine ah cs h (fun cs h=>S ?_) fun cs h=>S ?_
   refine rb_ h fun v83 q h=>av (aq false) q (S ?_)
   refine rb_ h fun v89 q h=>ai [false] (mTs_ q) (S ?_)
   refine ae (DHa_ [] []) (S ?_)
   refine ah cs h (fun cs h=>S ?_) fun cs h=>S ?_
   refine rb_ h fun v95 q h=>av (aq false) q (S ?_)
   refine rb_ h fun v101 q h=>ai [false,false] (hTS_1 q) (S ?_)
   refine ah cs h (fun cs h=>S ?_) fun cs h=>S ?_
   rotate_left
   refine rb_ h fun v106 q h=>av (aq false) q (S ?_)
   refine rb_ h fun v111 q h=>ai [false] (mTs_ q) (S ?_)
   refine ae (DHa_ [] []) (S ?_)
   refine ah cs h (fun cs h=>S ?_) fun cs h=>S ?_
   refine rb_ h fun v117 q h=>av (aq false) q (S ?_)
   refine rb_ h fun v122 q h=>ai [false,false] (hFS_1 q) (S ?_)
   refine ah cs h (fun cs h=>S ?_) fun cs h=>S ?_
   rotate_left
   refine rb_ h fun v127 q h=>av (aq false) q (S ?_)
   refine rb_ h fun v131 q h=>ai [false,false] (ih _ _ _ q) (S ?_)
   refine ah cs h (fun cs h=>S ?_) fun cs h=>S ?_
   rotate_left
   ·exact aJ h
   all_goals
    exact FHz_ h
  ·refine S ?_
   refine aF cs fun cs=>S ?_
   exact FHz_ h
theorem hDS_3{a0:List Dt}{a1:Int}{r:Int}(h:hDS_1 a0 a1=some r):Sat ag 36 [(.sl false 12 (a0.map (aq false))),(I a1)] (I r):=by
 obtain⟨n,hn⟩:=ls_ h
 exact(hDS_2 n) _ _ _ hn

theorem hDs_{a0:Dt}{a1:Int}  {r:Int}(h:hD_ a0 a1=some r):Sat ag 12 [((aq false) a0),(I a1)] (I r):=by
 obtain⟨h,cs⟩:=Ro_ h
 unfold hD_ at h
 refine Sg_ 30 [.tmp 4] Tryz.func12 (h:=S ?_)
 refine rb_ h fun v8 q h=>ai [false,false] (hSs_ q) (S ?_)
 refine ah cs h (fun cs h=>S ?_) fun cs h=>S ?_
 ·exact FHz_ h
 ·refine rb_ h fun v14 q h=>ai [false,false] (hTs_ q) (S ?_)
  refine ah cs h (fun cs h=>S ?_) fun cs h=>S ?_
  rotate_left
  refine rb_ h fun v20 q h=>ai [false,false] (hFs_ q) (S ?_)
  refine ah cs h (fun cs h=>S ?_) fun cs h=>S ?_
  rotate_left
  refine rb_ h fun v26 q h=>ai [false,false] (hDS_3 q) (S ?_)
  refine ah cs h (fun cs h=>S ?_) fun cs h=>S ?_
  all_goals
   exact FHz_ h

theorem FnExactUnrollSchema_sat{a0:Sb}{a1:Int}  {r:Bool}(h:FnExactUnrollSchema a0 a1=some r):Sat ag 3 [((Sb.pv false) a0),(I a1)] (B r):=by
 obtain⟨h,cs⟩:=Ro_ h
 unfold FnExactUnrollSchema at h
 refine Sg_ 101 [.tmp 4] Tryz.func3 (h:=S ?_)
 refine rb_ h fun v18 q h=>ai [false,false] (sSs_1 q) (S ?_)
 refine ah cs h (fun cs h=>S ?_) fun cs h=>S ?_
 rotate_left
 refine rb_ h fun v23 q h=>ai [false] (tSs_ q) (S ?_)
 refine rb_ h fun v25 q h=>ai [false,false] (sUS_1 q) (S ?_)
 refine rb_ h fun v29 q h=>ai [false] (tSs_ q) (S ?_)
 refine rb_ h fun v33 q h=>ai [false,false] (iUS_1 q) (S ?_)
 refine rb_ h fun v38 q h=>ai [false,false] (eDs_ q) (S ?_)
 refine ah cs h (fun cs h=>S ?_) fun cs h=>S ?_
 refine ah cs h (fun cs h=>S ?_) fun cs h=>S ?_
 refine rb_ h fun v47 q h=>ai [false] (tSs_ q) (S ?_)
 refine rb_ h fun v48 q h=>ai [false,false] (eSs_1 q) (S ?_)
 refine ae (DHa_ [] [752,753,754,755,756,757,758,759,760,761,762,763,764,765]) (S ?_)
 refine ah cs h (fun cs h=>S ?_) fun cs h=>S ?_
 obtain⟨v52,hv52,h⟩:=rb_1 h
 refine CHi_ [(.node [(.pv (Sx v29.Var)),(.node [(.pv (I v29.Formula.Op)),(.node [(.pv (Sx v29.Formula.Atom.Name)),(.own 464)]),(.pv (Sx v29.Formula.Var)),(.own 465)]),(.node [(.pv (I v29.Base.Rule)),(.node [(.own 466),(.own 467)]),(.pv (I v29.Base.Main)),(.node [(.pv (Sx v29.Base.Term.Name)),(.own 468)]),(.node [(.pv (I v29.Base.Cut.Op)),(.node [(.pv (Sx v29.Base.Cut.Atom.Name)),(.own 469)]),(.pv (Sx v29.Base.Cut.Var)),(.own 470)]),(.own 471)]),(.node [(.pv (I v29.Step.Rule)),(.node [(.own 472),(.own 473)]),(.pv (I v29.Step.Main)),(.node [(.pv (Sx v29.Step.Term.Name)),(.own 474)]),(.node [(.pv (I v29.Step.Cut.Op)),(.node [(.pv (Sx v29.Step.Cut.Atom.Name)),(.own 475)]),(.pv (Sx v29.Step.Cut.Var)),(.own 476)]),(.own 477)])]),(.pv (I 1))] [(464,(2,v52.2.1.map (al true))),(465,(5,v52.2.2.1.map (aj true))),(466,(5,v52.2.2.2.1.map (aj true))),(467,(5,v52.2.2.2.2.1.map (aj true))),(468,(2,v52.2.2.2.2.2.1.map (al true))),(469,(2,v52.2.2.2.2.2.2.1.map (al true))),(470,(5,v52.2.2.2.2.2.2.2.1.map (aj true))),(471,(12,v52.2.2.2.2.2.2.2.2.1.map (aq true))),(472,(5,v52.2.2.2.2.2.2.2.2.2.1.map (aj true))),(473,(5,v52.2.2.2.2.2.2.2.2.2.2.1.map (aj true))),(474,(2,v52.2.2.2.2.2.2.2.2.2.2.2.1.map (al true))),(475,(2,v52.2.2.2.2.2.2.2.2.2.2.2.2.1.map (al true))),(476,(5,v52.2.2.2.2.2.2.2.2.2.2.2.2.2.1.map (aj true))),(477,(12,v52.2.2.2.2.2.2.2.2.2.2.2.2.2.2.map (aq true)))] (mSs_1 hv52) SC (S ?_)
 refine ah cs h (fun cs h=>S ?_) fun cs h=>S ?_
 rotate_left
 refine rb_ h fun v58 q h=>ai [false,false] (eDs_ q) (S ?_)
 refine ah cs h (fun cs h=>S ?_) fun cs h=>S ?_
 obtain⟨v68,hv68,h⟩:=rb_1 h
 refine CHi_ [(.node [(.pv (I v33.1.Rule)),(.node [(.own 528),(.own 529)]),(.pv (I v33.1.Main)),(.node [(.pv (Sx v33.1.Term.Name)),(.own 530)]),(.node [(.pv (I v33.1.Cut.Op)),(.node [(.pv (Sx v33.1.Cut.Atom.Name)),(.own 531)]),(.pv (Sx v33.1.Cut.Var)),(.own 532)]),(.own 533)]),(.pv (I 1))] [(528,(5,v68.2.1.map (aj true))),(529,(5,v68.2.2.1.map (aj true))),(530,(2,v68.2.2.2.1.map (al true))),(531,(2,v68.2.2.2.2.1.map (al true))),(532,(5,v68.2.2.2.2.2.1.map (aj true))),(533,(12,v68.2.2.2.2.2.2.map (aq true)))] (mDs_ hv68) SC (S ?_)
 refine rb_ h fun v71 q h=>ai [false,false] (hDs_ q) (S ?_)
 refine ah cs h (fun cs h=>S ?_) fun cs h=>S ?_
 rotate_left
 refine ah cs h (fun cs h=>S ?_) fun cs h=>S ?_
 refine rb_ h fun v79 q h=>ai [false] (tSs_ q) (S ?_)
 refine rb_ h fun v81 q h=>ai [false,false] (iUS_1 q) (S ?_)
 refine rb_ h fun v86 q h=>ai [false,false] (eDs_ q) (S ?_)
 refine ah cs h (fun cs h=>S ?_) fun cs h=>S ?_
 refine ah cs h (fun cs h=>S ?_) fun cs h=>S ?_
 refine rb_ h fun v95 q h=>ai [false,false] (hDs_ q) (S ?_)
 refine ah cs h (fun cs h=>S ?_) fun cs h=>S ?_
 rotate_left
 refine ah cs h (fun cs h=>S ?_) fun cs h=>S ?_
 all_goals
  exact FHz_ h

end Go.Proofs.YtejbpjegkfbncaaGreat
