/- A part of the proof: lemmas only; nothing is claimed here beyond what each lemma says. -/
import Derived.Test.YtkoghcphkdecoaaGreatGw0
set_option linter.unusedSimpArgs false
set_option linter.unusedVariables false
set_option linter.defProp false
set_option maxRecDepth 4000
namespace Go.Proofs.YtkoghcphkdecoaaGreat
open Go.Av
set_option maxHeartbeats 4000000
theorem isF_5(n:Nat):(∀ (a0:Formula) (a1:Formula) (r:Bool),isF_ n a0 a1=some r→Sat Tryz.prog 125 [((Formula.pv false) a0),((Formula.pv false) a1)] (B r)):=by
 induction n with
 | zero=>exact fun _ _ _ h=>by simp[isF_] at h
 | succ n ih=>
  refine fun a0 a1 r h=>?_
  obtain⟨h,cs⟩:=Ro_ h
  rw[isF_] at h
  refine Sat.of_m (nt:=31) (rs:=[.tmp 4]) (n:=100000) Tryz.func125 rfl rfl rfl rfl (by simp) (S ?_)
  refine CondH.run cs h (fun cs h=>S ?_) (fun cs h=>S ?_)
  ·obtain⟨v15,hv15,h⟩:=rb_ h
   refine CallH.mk [false,false] (iET_3 hv15) SC (S ?_)
   refine CondH.run cs h (fun cs h=>S ?_) (fun cs h=>S ?_)
   ·refine CondH.run cs h (fun cs h=>S ?_) (fun cs h=>S ?_)
    ·obtain⟨v29,hv29,h⟩:=rb_ h
     refine CallH.mk [false,false,false] (sEF_3 (fun _ _ _ hh=>ih _ _ _ hh) (by simp only[COn_,COc_]) hv29) SC (S ?_)
     cases rs_ h
     exact FinH.l SC
    ·cases rs_ h
     exact FinH.l SC
   ·cases rs_ h
    exact FinH.l SC
  ·cases rs_ h
   exact FinH.l SC
theorem isF_3{a0:Formula}{a1:Formula}{r:Bool}(h:isF_2 a0 a1=some r):Sat Tryz.prog 125 [((Formula.pv false) a0),((Formula.pv false) a1)] (B r):=by
 obtain⟨n,hn⟩:=ls_ h
 exact(isF_5 n) _ _ _ hn

theorem iiQ_3{a0:Int}  {r:Bool}(h:iiQ_1 a0=some r):Sat Tryz.prog 202 [(I a0)] (B r):=by
 obtain⟨h,cs⟩:=Ro_ h
 unfold iiQ_1 at h
 refine Sat.of_m (nt:=5) (rs:=[.tmp 2]) (n:=100000) Tryz.func202 rfl rfl rfl rfl (by simp) (S ?_)
 obtain⟨v4,hv4,h⟩:=rb_ h
 refine CallH.mk [false,false,false] (iws_ hv4) SC (S ?_)
 cases rs_ h
 exact FinH.l SC

theorem imO_1{a0:Int}  {r:Bool×Int}(h:imO_ a0=some r):Sat Tryz.prog 115 [(I a0)] (.tup [(B r.1),(I r.2)]):=by
 obtain⟨h,cs⟩:=Ro_ h
 unfold imO_ at h
 refine Sat.of_m (nt:=36) (rs:=[.tmp 2,.tmp 3]) (n:=100000) Tryz.func115 rfl rfl rfl rfl (by simp) (S ?_)
 refine CondH.run cs h (fun cs h=>S ?_) (fun cs h=>S ?_)
 ·cases rs_ h
  exact FinH.l SC
 ·refine CondH.run cs h (fun cs h=>S ?_) (fun cs h=>S ?_)
  ·cases rs_ h
   exact FinH.l SC
  ·refine CondH.run cs h (fun cs h=>S ?_) (fun cs h=>S ?_)
   ·cases rs_ h
    exact FinH.l SC
   ·refine CondH.run cs h (fun cs h=>S ?_) (fun cs h=>S ?_)
    ·cases rs_ h
     exact FinH.l SC
    ·refine CondH.run cs h (fun cs h=>S ?_) (fun cs h=>S ?_)
     ·cases rs_ h
      exact FinH.l SC
     ·refine CondH.run cs h (fun cs h=>S ?_) (fun cs h=>S ?_)
      ·cases rs_ h
       exact FinH.l SC
      ·refine CondH.run cs h (fun cs h=>S ?_) (fun cs h=>S ?_)
       ·cases rs_ h
        exact FinH.l SC
       ·refine CondH.run cs h (fun cs h=>S ?_) (fun cs h=>S ?_)
        ·cases rs_ h
         exact FinH.l SC
        ·refine CondH.run cs h (fun cs h=>S ?_) (fun cs h=>S ?_)
         ·cases rs_ h
          exact FinH.l SC
         ·refine CondH.run cs h (fun cs h=>S ?_) (fun cs h=>S ?_)
          ·cases rs_ h
           exact FinH.l SC
          ·refine CondH.run cs h (fun cs h=>S ?_) (fun cs h=>S ?_)
           ·cases rs_ h
            exact FinH.l SC
           ·refine CondH.run cs h (fun cs h=>S ?_) (fun cs h=>S ?_)
            ·cases rs_ h
             exact FinH.l SC
            ·cases rs_ h
             exact FinH.l SC

theorem imF_1{a0:Sequent}{a1:Derivation}  {r:Formula×Bool}(h:imF_ a0 a1=some r):Sat Tryz.prog 203 [((Sequent.pv false) a0),((Derivation.pv false) a1)] (.tup [((Formula.pv false) r.1),(B r.2)]):=by
 obtain⟨h,cs⟩:=Ro_ h
 unfold imF_ at h
 refine Sat.of_m (nt:=47) (rs:=[.cell 4 44,.tmp 5]) (n:=100000) Tryz.func203 rfl rfl rfl rfl (by simp) (S ?_)
 obtain⟨v12,hv12,h⟩:=rb_ h
 refine CallH.mk [false] (imO_1 hv12) SC (S ?_)
 refine CondH.run cs h (fun cs h=>S ?_) (fun cs h=>S ?_)
 ·obtain⟨v25,hv25,h⟩:=rb_ h
  refine CallH.mk [false,false,false] (iws_ hv25) SC (S ?_)
  refine CondH.run cs h (fun cs h=>S ?_) (fun cs h=>S ?_)
  ·refine CondH.run cs h (fun cs h=>S ?_) (fun cs h=>S ?_)
   ·obtain⟨v45,hv45,h⟩:=rb_ h
    refine IdxH.mk (f:=(Formula.pv false)) hv45 SC (S ?_)
    cases rs_ h
    exact FinH.r SC
   ·obtain⟨v34,hv34,h⟩:=rb_ h
    refine IdxH.mk (f:=(Formula.pv false)) hv34 SC (S ?_)
    refine CondH.run cs h (fun cs h=>S ?_) (fun cs h=>S ?_)
    ·obtain⟨v45,hv45,h⟩:=rb_ h
     refine IdxH.mk (f:=(Formula.pv false)) hv45 SC (S ?_)
     cases rs_ h
     exact FinH.r SC
    ·cases rs_ h
     exact FinH.r SC
  ·cases rs_ h
   exact FinH.r SC
 ·obtain⟨v25,hv25,h⟩:=rb_ h
  refine CallH.mk [false,false,false] (iws_ hv25) SC (S ?_)
  refine CondH.run cs h (fun cs h=>S ?_) (fun cs h=>S ?_)
  ·refine CondH.run cs h (fun cs h=>S ?_) (fun cs h=>S ?_)
   ·obtain⟨v45,hv45,h⟩:=rb_ h
    refine IdxH.mk (f:=(Formula.pv false)) hv45 SC (S ?_)
    cases rs_ h
    exact FinH.r SC
   ·obtain⟨v34,hv34,h⟩:=rb_ h
    refine IdxH.mk (f:=(Formula.pv false)) hv34 SC (S ?_)
    refine CondH.run cs h (fun cs h=>S ?_) (fun cs h=>S ?_)
    ·obtain⟨v45,hv45,h⟩:=rb_ h
     refine IdxH.mk (f:=(Formula.pv false)) hv45 SC (S ?_)
     cases rs_ h
     exact FinH.r SC
    ·cases rs_ h
     exact FinH.r SC
  ·cases rs_ h
   exact FinH.r SC

theorem imR_1{a0:Int}  {r:Bool}(h:imR_ a0=some r):Sat Tryz.prog 144 [(I a0)] (B r):=by
 obtain⟨h,cs⟩:=Ro_ h
 unfold imR_ at h
 refine Sat.of_m (nt:=9) (rs:=[.tmp 2]) (n:=100000) Tryz.func144 rfl rfl rfl rfl (by simp) (S ?_)
 refine CondH.run cs h (fun cs h=>S ?_) (fun cs h=>S ?_)
 ·cases rs_ h
  exact FinH.l SC
 ·cases rs_ h
  exact FinH.l SC

theorem iiV_3{a0:Term}  {r:Bool}(h:iiV_2 a0=some r):Sat Tryz.prog 242 [((Term.pv false) a0)] (B r):=by
 obtain⟨h,cs⟩:=Ro_ h
 unfold iiV_2 at h
 refine Sat.of_m (nt:=7) (rs:=[.tmp 2]) (n:=100000) Tryz.func242 rfl rfl rfl rfl (by simp) (S ?_)
 obtain⟨v5,hv5,h⟩:=rb_ h
 refine SidxH.mk hv5 (S ?_)
 obtain⟨v6,hv6,h⟩:=rb_ h
 refine CallH.mk [false] (iiU_1 hv6) SC (S ?_)
 cases rs_ h
 exact FinH.l SC

theorem icN_5(n:Nat):(∀ (a0:List ByteArray) (a1:Term) (r:List ByteArray),icN_1 n a0 a1=some r→Sat Tryz.prog 227 [(.sl true 1 (a0.map Sx)),((Term.pv false) a1)] (.sl true 1 (r.map Sx))):=by
 induction n with
 | zero=>exact fun _ _ _ h=>by simp[icN_1] at h
 | succ n ih=>
  refine fun a0 a1 r h=>?_
  obtain⟨h,cs⟩:=Ro_ h
  rw[icN_1] at h
  refine Sat.of_m (nt:=38) (rs:=[.tmp 4]) (n:=100000) Tryz.func227 rfl rfl rfl rfl (by simp) (S ?_)
  refine CondH.run cs h (fun cs h=>S ?_) (fun cs h=>S ?_)
  ·obtain⟨v13,hv13,h⟩:=rb_ h
   refine CallH.mk [false] (iiV_3 hv13) SC (S ?_)
   refine CondH.run cs h (fun cs h=>S ?_) (fun cs h=>S ?_)
   ·obtain⟨v18,hv18,h⟩:=rb_ h
    refine CallH.mk [false,false] (sCS_2 hv18) SC (S ?_)
    refine CondH.run cs h (fun cs h=>S ?_) (fun cs h=>S ?_)
    ·cases rs_ h
     exact FinH.l SC
    ·obtain⟨v24,hv24,h⟩:=rb_ h
     refine AppH.mk (f:=Sx) (fun _=>rfl) hv24 SC SC (S ?_)
     cases rs_ h
     exact FinH.l SC
   ·refine Mg.know_sl (b:=false) (sz:=2) (es:=a1.Args.map (Term.pv false)) 8 SC fun hl8=>?_; rw[List.length_map] at hl8
    replace h:=rl_ h
    refine Mg.forN h (fun i6 s6=>[(0,.val (.own 9000)),(27,.val (.pv (.sl false 2 (a1.Args.map (Term.pv false))))),(28,.val (.pv (I (a1.Args.length:Int)))),(29,.val (.pv (I (i6:Int))))]) (fun i6 s6=>[(9000,(1,s6.map Sx))]) (Slm_ SC) (fun i6 s6 hi h=>?_) (fun s6 h=>?_)
    ·have w:=ws_ (i:=i6) (by omega)
     refine S ?_
     refine CondH.t2 cs (by omega) (fun cs=>S ?_)
     obtain⟨v31,hv31,h⟩:=rb_ h
     refine IdxH.mk (f:=(Term.pv false)) hv31 SC (S ?_)
     obtain⟨v35,hv35,h⟩:=rb_ h
     refine CallH.mk [true,false] (ih _ _ _ hv35) SC (S ?_)
     have h:=rs_ h
     refine RdH.mk ⟨_,h,?_⟩
     refine St.le_trans (Slm_1 (S:=[(0,.val (.own 560)),(27,.val (.pv (.sl false 2 (a1.Args.map (Term.pv false))))),(28,.val (.pv (I (a1.Args.length:Int)))),(29,.val (.pv (I (IntKind.i64.wrap ((i6:Int)+(1:Int))))))]) (O:=[(560,(1,v35.map Sx))]) SW SW) ?_
     refine Slr_ 560 9000 (by decide) NM ?_
     exact Slm_ SW
    ·refine S ?_
     refine CondH.f2 cs (by omega) (fun cs=>S ?_)
     cases rs_ h
     exact FinH.l SC
  ·refine Mg.know_sl (b:=false) (sz:=2) (es:=a1.Args.map (Term.pv false)) 8 SC fun hl8=>?_; rw[List.length_map] at hl8
   replace h:=rl_ h
   refine Mg.forN h (fun i6 s6=>[(0,.val (.own 9000)),(27,.val (.pv (.sl false 2 (a1.Args.map (Term.pv false))))),(28,.val (.pv (I (a1.Args.length:Int)))),(29,.val (.pv (I (i6:Int))))]) (fun i6 s6=>[(9000,(1,s6.map Sx))]) (Slm_ SC) (fun i6 s6 hi h=>?_) (fun s6 h=>?_)
   ·have w:=ws_ (i:=i6) (by omega)
    refine S ?_
    refine CondH.t2 cs (by omega) (fun cs=>S ?_)
    obtain⟨v31,hv31,h⟩:=rb_ h
    refine IdxH.mk (f:=(Term.pv false)) hv31 SC (S ?_)
    obtain⟨v35,hv35,h⟩:=rb_ h
    refine CallH.mk [true,false] (ih _ _ _ hv35) SC (S ?_)
    have h:=rs_ h
    refine RdH.mk ⟨_,h,?_⟩
    refine St.le_trans (Slm_1 (S:=[(0,.val (.own 560)),(27,.val (.pv (.sl false 2 (a1.Args.map (Term.pv false))))),(28,.val (.pv (I (a1.Args.length:Int)))),(29,.val (.pv (I (IntKind.i64.wrap ((i6:Int)+(1:Int))))))]) (O:=[(560,(1,v35.map Sx))]) SW SW) ?_
    refine Slr_ 560 9000 (by decide) NM ?_
    exact Slm_ SW
   ·refine S ?_
    refine CondH.f2 cs (by omega) (fun cs=>S ?_)
    cases rs_ h
    exact FinH.l SC
theorem ics_{a0:List ByteArray}{a1:Term}{r:List ByteArray}(h:ic_ a0 a1=some r):Sat Tryz.prog 227 [(.sl true 1 (a0.map Sx)),((Term.pv false) a1)] (.sl true 1 (r.map Sx)):=by
 obtain⟨n,hn⟩:=ls_ h
 exact(icN_5 n) _ _ _ hn


theorem ivs_{a0:Term}  {r:List ByteArray}(h:iv_ a0=some r):Sat Tryz.prog 221 [((Term.pv false) a0)] (.sl true 1 (r.map Sx)):=by
 obtain⟨h,cs⟩:=Ro_ h
 unfold iv_ at h
 refine Sat.of_m (nt:=10) (rs:=[.tmp 2]) (n:=100000) Tryz.func221 rfl rfl rfl rfl (by simp) (S ?_)
 obtain⟨v6,hv6,h⟩:=rb_ h
 refine CallH.mk [true,false] (ics_ hv6) SC (S ?_)
 obtain⟨v8,hv8,h⟩:=rb_ h
 refine CHi_1 [(.own 96)] [(96,(1,v8.2.map Sx))] (sSS_1 hv8) SC (S ?_)
 cases rs_ h
 exact FinH.l SC

theorem sCS_5{a0:List ByteArray}  {r:List ByteArray}(h:sCS_3 a0=some r):Sat Tryz.prog 222 [(.sl false 1 (a0.map Sx))] (.sl true 1 (r.map Sx)):=by
 obtain⟨h,cs⟩:=Ro_ h
 unfold sCS_3 at h
 refine Sat.of_m (nt:=8) (rs:=[.tmp 2]) (n:=100000) Tryz.func222 rfl rfl rfl rfl (by simp) (S ?_)
 refine NilH.mk (fun e=>?_) ?_
 ·obtain rfl:a0=[]:=List.map_eq_nil_iff.1 e
  simp only[app_nn,Option.bind_some] at h
  refine S ?_
  cases rs_ h
  exact FinH.l SC
 ·skip
  refine S ?_
  obtain⟨v7,hv7,h⟩:=rb_ h
  refine AppH.mk (f:=Sx) (fun _=>rfl) hv7 SC SC (S ?_)
  cases rs_ h
  exact FinH.l SC

theorem igN_1(n:Nat):(∀ (a0:List ByteArray) (a1:Formula) (a2:List ByteArray) (r:List ByteArray),igN_ n a0 a1 a2=some r→Sat Tryz.prog 216 [(.sl true 1 (a0.map Sx)),((Formula.pv false) a1),(.sl false 1 (a2.map Sx))] (.sl true 1 (r.map Sx))):=by
 induction n with
 | zero=>exact fun _ _ _ _ h=>by simp[igN_] at h
 | succ n ih=>
  refine fun a0 a1 a2 r h=>?_
  obtain⟨h,cs⟩:=Ro_ h
  rw[igN_] at h
  refine Sat.of_m (nt:=60) (rs:=[.tmp 6]) (n:=100000) Tryz.func216 rfl rfl rfl rfl (by simp) (S ?_)
  refine CondH.run cs h (fun cs h=>S ?_) (fun cs h=>S ?_)
  ·obtain⟨v16,hv16,h⟩:=rb_ h
   refine CallH.mk [false] (ivs_ hv16) SC (S ?_)
   refine Mg.know_own (sz:=1) (es:=v16.map Sx) 256 SC fun hl256=>?_; rw[List.length_map] at hl256
   replace h:=rl_ h
   refine Mg.forN h (fun i3 s3=>[(0,.val (.own 9000)),(2,.val (.pv (.sl false 1 (a2.map Sx)))),(16,.val (.own 256)),(17,.val (.pv (I (v16.length:Int)))),(18,.val (.pv (I (i3:Int))))]) (fun i3 s3=>[(9000,(1,s3.map Sx)),(256,(1,v16.map Sx))]) (Slm_ SC) (fun i3 s3 hi h=>?_) (fun s3 h=>?_)
   ·have w:=ws_ (i:=i3) (by omega)
    refine S ?_
    refine CondH.t2 cs (by omega) (fun cs=>S ?_)
    obtain⟨v20,hv20,h⟩:=rb_ h
    refine IdxH.mk (f:=Sx) hv20 SC (S ?_)
    obtain⟨v21,hv21,h⟩:=rb_ h
    refine EldH.mk (f:=Sx) hv21 rfl SC (S ?_)
    obtain⟨v24,hv24,h⟩:=rb_ h
    refine CallH.mk [false,false] (sCS_2 hv24) SC (S ?_)
    refine CondH.run cs h (fun cs h=>S ?_) (fun cs h=>S ?_)
    ·have h:=rs_ h
     refine RdH.mk ⟨_,h,?_⟩
     exact Slm_ SW
    ·obtain⟨v29,hv29,h⟩:=rb_ h
     refine CallH.mk [false,false] (sCS_2 hv29) SC (S ?_)
     refine CondH.run cs h (fun cs h=>S ?_) (fun cs h=>S ?_)
     ·have h:=rs_ h
      refine RdH.mk ⟨_,h,?_⟩
      exact Slm_ SW
     ·obtain⟨v35,hv35,h⟩:=rb_ h
      refine AppH.mk (f:=Sx) (fun _=>rfl) hv35 SC SC (S ?_)
      have h:=rs_ h
      refine RdH.mk ⟨_,h,?_⟩
      refine St.le_trans (Slm_1 (S:=[(0,.val (.own 560)),(2,.val (.pv (.sl false 1 (a2.map Sx)))),(16,.val (.own 256)),(17,.val (.pv (I (v16.length:Int)))),(18,.val (.pv (I (IntKind.i64.wrap ((i3:Int)+(1:Int))))))]) (O:=[(560,(1,v35.map Sx)),(256,(1,v16.map Sx))]) SW SW) ?_
      refine Slr_ 560 9000 (by decide) NM ?_
      exact Slm_ SW
   ·refine S ?_
    refine CondH.f2 cs (by omega) (fun cs=>S ?_)
    cases rs_ h
    exact FinH.l SC
  ·obtain⟨v40,hv40,h⟩:=rb_ h
   refine CallH.mk [false] (iiQ_ hv40) SC (S ?_)
   refine CondH.run cs h (fun cs h=>S ?_) (fun cs h=>S ?_)
   ·obtain⟨v42,hv42,h⟩:=rb_ h
    refine CallH.mk [false] (sCS_5 hv42) SC (S ?_)
    obtain⟨v46,hv46,h⟩:=rb_ h
    refine AppH.mk (f:=Sx) (fun _=>rfl) hv46 SC SC (S ?_)
    refine And.intro (DHa_ [] [672,720,736]) (S ?_)
    refine Mg.know_sl (b:=false) (sz:=5) (es:=a1.Parts.map (Formula.pv false)) 48 SC fun hl48=>?_; rw[List.length_map] at hl48
    replace h:=rl_ h
    refine Mg.forN h (fun i12 s12=>[(0,.val (.own 9000)),(2,.val (.own 736)),(48,.val (.pv (.sl false 5 (a1.Parts.map (Formula.pv false))))),(49,.val (.pv (I (a1.Parts.length:Int)))),(50,.val (.pv (I (i12:Int))))]) (fun i12 s12=>[(9000,(1,s12.map Sx)),(736,(1,v46.map Sx))]) (Slm_ SC) (fun i12 s12 hi h=>?_) (fun s12 h=>?_)
    ·have w:=ws_ (i:=i12) (by omega)
     refine S ?_
     refine CondH.t2 cs (by omega) (fun cs=>S ?_)
     obtain⟨v52,hv52,h⟩:=rb_ h
     refine IdxH.mk (f:=(Formula.pv false)) hv52 SC (S ?_)
     obtain⟨v57,hv57,h⟩:=rb_ h
     refine CallH.mk [true,false,false] (ih _ _ _ _ hv57) SC (S ?_)
     have h:=rs_ h
     refine RdH.mk ⟨_,h,?_⟩
     refine St.le_trans (Slm_1 (S:=[(0,.val (.own 912)),(2,.val (.own 736)),(48,.val (.pv (.sl false 5 (a1.Parts.map (Formula.pv false))))),(49,.val (.pv (I (a1.Parts.length:Int)))),(50,.val (.pv (I (IntKind.i64.wrap ((i12:Int)+(1:Int))))))]) (O:=[(912,(1,v57.map Sx)),(736,(1,v46.map Sx))]) SW SW) ?_
     refine Slr_ 912 9000 (by decide) NM ?_
     exact Slm_ SW
    ·refine S ?_
     refine CondH.f2 cs (by omega) (fun cs=>S ?_)
     cases rs_ h
     exact FinH.l SC
   ·refine Mg.know_sl (b:=false) (sz:=5) (es:=a1.Parts.map (Formula.pv false)) 48 SC fun hl48=>?_; rw[List.length_map] at hl48
    replace h:=rl_ h
    refine Mg.forN h (fun i12 s12=>[(0,.val (.own 9000)),(2,.val (.pv (.sl false 1 (a2.map Sx)))),(48,.val (.pv (.sl false 5 (a1.Parts.map (Formula.pv false))))),(49,.val (.pv (I (a1.Parts.length:Int)))),(50,.val (.pv (I (i12:Int))))]) (fun i12 s12=>[(9000,(1,s12.map Sx))]) (Slm_ SC) (fun i12 s12 hi h=>?_) (fun s12 h=>?_)
    ·have w:=ws_ (i:=i12) (by omega)
     refine S ?_
     refine CondH.t2 cs (by omega) (fun cs=>S ?_)
     obtain⟨v52,hv52,h⟩:=rb_ h
     refine IdxH.mk (f:=(Formula.pv false)) hv52 SC (S ?_)
     obtain⟨v57,hv57,h⟩:=rb_ h
     refine CallH.mk [true,false,false] (ih _ _ _ _ hv57) SC (S ?_)
     have h:=rs_ h
     refine RdH.mk ⟨_,h,?_⟩
     refine St.le_trans (Slm_1 (S:=[(0,.val (.own 912)),(2,.val (.pv (.sl false 1 (a2.map Sx)))),(48,.val (.pv (.sl false 5 (a1.Parts.map (Formula.pv false))))),(49,.val (.pv (I (a1.Parts.length:Int)))),(50,.val (.pv (I (IntKind.i64.wrap ((i12:Int)+(1:Int))))))]) (O:=[(912,(1,v57.map Sx))]) SW SW) ?_
     refine Slr_ 912 9000 (by decide) NM ?_
     exact Slm_ SW
    ·refine S ?_
     refine CondH.f2 cs (by omega) (fun cs=>S ?_)
     cases rs_ h
     exact FinH.l SC
theorem igs_{a0:List ByteArray}{a1:Formula}{a2:List ByteArray}{r:List ByteArray}(h:ig_ a0 a1 a2=some r):Sat Tryz.prog 216 [(.sl true 1 (a0.map Sx)),((Formula.pv false) a1),(.sl false 1 (a2.map Sx))] (.sl true 1 (r.map Sx)):=by
 obtain⟨n,hn⟩:=ls_ h
 exact(igN_1 n) _ _ _ _ hn

theorem ifs_{a0:Formula}  {r:List ByteArray}(h:if_ a0=some r):Sat Tryz.prog 213 [((Formula.pv false) a0)] (.sl true 1 (r.map Sx)):=by
 obtain⟨h,cs⟩:=Ro_ h
 unfold if_ at h
 refine Sat.of_m (nt:=10) (rs:=[.tmp 2]) (n:=100000) Tryz.func213 rfl rfl rfl rfl (by simp) (S ?_)
 obtain⟨v6,hv6,h⟩:=rb_ h
 refine CallH.mk [true,false,false] (igs_ hv6) SC (S ?_)
 obtain⟨v8,hv8,h⟩:=rb_ h
 refine CHi_1 [(.own 96)] [(96,(1,v8.2.map Sx))] (sSS_1 hv8) SC (S ?_)
 cases rs_ h
 exact FinH.l SC

theorem iiF_3{a0:Formula}{b0:ByteArray}  {r:Bool}(h:iiF_ a0 b0=some r):Sat Tryz.prog 212 [((Formula.pv false) a0),.ptr (Sx b0)] (B r):=by
 obtain⟨h,cs⟩:=Ro_ h
 unfold iiF_ at h
 refine Sat.of_m (nt:=8) (rs:=[.tmp 3]) (n:=100000) Tryz.func212 rfl rfl rfl rfl (by simp) (S ?_)
 obtain⟨v5,hv5,h⟩:=rb_ h
 refine CallH.mk [false] (ifs_ hv5) SC (S ?_)
 obtain⟨v7,hv7,h⟩:=rb_ h
 refine CallH.mk [false,false] (sCS_2 hv7) SC (S ?_)
 refine And.intro (DHa_ [] [80]) (S ?_)
 cases rs_ h
 exact FinH.l SC

theorem iiF_5{a0:Sequent}{a1:ByteArray}  {r:Bool}(h:iiF_2 a0 a1=some r):Sat Tryz.prog 210 [((Sequent.pv false) a0),(Sx a1)] (B r):=by
 obtain⟨h,cs⟩:=Ro_ h
 unfold iiF_2 at h
 refine Sat.of_m (nt:=17) (rs:=[.tmp 4]) (n:=100000) Tryz.func210 rfl rfl rfl rfl (by simp) (S ?_)
 refine MfH.fr (S ?_)
 obtain⟨v10,hv10,h⟩:=rb_ h
 refine CallH.mk [false,false] (sCF_1 (fun _ _ hh=>iiF_3 hh) (by simp only[COn_,COc_]) hv10) SC (S ?_)
 refine CondH.run cs h (fun cs h=>S ?_) (fun cs h=>S ?_)
 ·cases rs_ h
  exact FinH.l SC
 ·obtain⟨v15,hv15,h⟩:=rb_ h
  refine CallH.mk [false,false] (sCF_1 (fun _ _ hh=>iiF_3 hh) (by simp only[COn_,COc_]) hv15) SC (S ?_)
  cases rs_ h
  exact FinH.l SC

theorem icT_4(n:Nat):(∀ (a0:Term) (r:Term),icT_ n a0=some r→Sat Tryz.prog 140 [((Term.pv false) a0)] ((Term.pv true) r))∧(∀ (a0:List Term) (r:List Term),icT_1 n a0=some r→Sat Tryz.prog 163 [(.sl false 2 (a0.map (Term.pv false)))] (.sl true 2 (r.map (Term.pv true)))):=by
 induction n with
 | zero=>exact⟨fun _ _ h=>by simp[icT_] at h,fun _ _ h=>by simp[icT_1] at h⟩
 | succ n ih=>
  refine⟨fun a0 r h=>?_,fun a0 r h=>?_⟩
  ·obtain⟨h,cs⟩:=Ro_ h
   rw[icT_] at h
   refine Sat.of_m (nt:=9) (rs:=[.cell 2 42]) (n:=100000) Tryz.func140 rfl rfl rfl rfl (by simp) (S ?_)
   obtain⟨v7,hv7,h⟩:=rb_ h
   refine CallH.mk [false] (ih.2 _ _ hv7) SC (S ?_)
   refine And.intro (DHa_ [] [112]) (S ?_)
   cases rs_ h
   exact FinH.l SC
  ·obtain⟨h,cs⟩:=Ro_ h
   rw[icT_1] at h
   refine Sat.of_m (nt:=26) (rs:=[.tmp 2]) (n:=100000) Tryz.func163 rfl rfl rfl rfl (by simp) (S ?_)
   refine CondH.run cs h (fun cs h=>S ?_) (fun cs h=>S ?_)
   ·cases rs_ h
    exact FinH.l SC
   ·obtain⟨n11,hn11,h⟩:=rb_ h
    refine MknH.mk hn11 (S ?_)
    refine Mg.know_sl (b:=false) (sz:=2) (es:=a0.map (Term.pv false)) 0 SC fun hl0=>?_; rw[List.length_map] at hl0
    replace h:=rl_ h
    refine Mg.forN h (fun i5 s5=>[(3,.val (.own 176)),(12,.val (.pv (.sl false 2 (a0.map (Term.pv false))))),(13,.val (.pv (I (a0.length:Int)))),(14,.val (.pv (I (i5:Int))))]) (fun i5 s5=>[(176,(2,s5.map (Term.pv true)))]) (Slm_ SC) (fun i5 s5 hi h=>?_) (fun s5 h=>?_)
    ·have w:=ws_ (i:=i5) (by omega)
     refine S ?_
     refine CondH.t2 cs (by omega) (fun cs=>S ?_)
     obtain⟨v17,hv17,h⟩:=rb_ h
     refine IdxH.mk (f:=(Term.pv false)) hv17 SC (S ?_)
     obtain⟨v22,hv22,h⟩:=rb_ h
     refine CallH.mk [false] (ih.1 _ _ hv22) SC (S ?_)
     obtain⟨v23,hv23,h⟩:=rb_ h
     refine IdxH.mk (f:=(Term.pv true)) hv23 SC (S ?_)
     obtain⟨w3,hw3,h⟩:=rb_ h
     refine EldH.mk (f:=(Term.pv true)) hw3 rfl SC (S ?_)
     have h:=rs_ h
     refine RdH.mk ⟨_,h,?_⟩
     exact Slm_ SW
    ·refine S ?_
     refine CondH.f2 cs (by omega) (fun cs=>S ?_)
     cases rs_ h
     exact FinH.l SC
theorem icT_3{a0:Term}{r:Term}(h:icT_2 a0=some r):Sat Tryz.prog 140 [((Term.pv false) a0)] ((Term.pv true) r):=by
 obtain⟨n,hn⟩:=ls_ h
 exact(icT_4 n).1 _ _ hn
theorem icT_6{a0:List Term}{r:List Term}(h:icT_5 a0=some r):Sat Tryz.prog 163 [(.sl false 2 (a0.map (Term.pv false)))] (.sl true 2 (r.map (Term.pv true))):=by
 obtain⟨n,hn⟩:=ls_ h
 exact(icT_4 n).2 _ _ hn

theorem imP_3{a0:Formula}{a1:Formula→Option Formula}{a1_id:FuncId}{a1_cs:List PV}(a1_ok:∀ y0 r,a1 y0=some r→Sat Tryz.prog a1_id (((Formula.pv false) y0)::a1_cs) ((Formula.pv true) r))(a1_cz:CapsOk a1_cs=True){r:Formula}(h:imP_2 a0 a1=some r):Sat Tryz.prog 143 [((Formula.pv false) a0),.clo a1_id a1_cs] ((Formula.pv true) r):=by
 obtain⟨h,cs⟩:=Ro_ h
 unfold imP_2 at h
 have cs:=And.intro a1_cz cs
 refine Sat.of_m (nt:=33) (rs:=[.cell 4 44]) (n:=100000) Tryz.func143 rfl rfl rfl rfl (by simp) (S ?_)
 obtain⟨v12,hv12,h⟩:=rb_ h
 refine CallH.mk [false] (icT_3 hv12) SC (S ?_)
 refine And.intro (DHa_ [5] [192]) (S ?_)
 refine Mg.know_sl (b:=false) (sz:=5) (es:=a0.Parts.map (Formula.pv false)) 17 SC fun hl17=>?_; rw[List.length_map] at hl17
 replace h:=rl_ h
 refine Mg.forN h (fun i3 s3=>[(1,.val (.pv (.clo a1_id a1_cs))),(4,.box (.node [(.pv (I (0:Int))),(.node [(.pv (Sx (⟨#[]⟩:ByteArray))),(.pv (.sl true 2 []))]),(.pv (Sx (⟨#[]⟩:ByteArray))),(.pv (.sl true 5 []))])),(5,.box (.node [(.pv (I a0.Op)),(.node [(.pv (Sx v12.Name)),(.own 192)]),(.pv (Sx a0.Var)),(.own 9309)])),(17,.val (.pv (.sl false 5 (a0.Parts.map (Formula.pv false))))),(18,.val (.pv (I (a0.Parts.length:Int)))),(19,.val (.pv (I (i3:Int))))]) (fun i3 s3=>[(192,(2,v12.Args.map (Term.pv true))),(9309,(5,s3.map (Formula.pv true)))]) (St.le_trans (Sln_ (x:=(.node [(.pv (I a0.Op)),(.node [(.pv (Sx v12.Name)),(.own 192)]),(.pv (Sx a0.Var)),(.pv (.sl true 5 []))])) 5 [3] 9309 5 NM SC SC SC) (Slm_ SC)) (fun i3 s3 hi h=>?_) (fun s3 h=>?_)
 ·have w:=ws_ (i:=i3) (by omega)
  refine S ?_
  refine CondH.t2 cs (by omega) (fun cs=>S ?_)
  obtain⟨v21,hv21,h⟩:=rb_ h
  refine IdxH.mk (f:=(Formula.pv false)) hv21 SC (S ?_)
  obtain⟨v27,hv27,h⟩:=rb_ h
  refine CallH.mk [false] (a1_ok _ _ hv27) SC (S ?_)
  obtain⟨v29,hv29,h⟩:=rb_ h
  refine AppH.mk (f:=(Formula.pv true)) (fun a=>Formula.psize _ a) hv29 SC SC (S ?_)
  refine And.intro (DHa_ [] [432,433,448,464]) (S ?_)
  have h:=rs_ h
  refine RdH.mk ⟨_,h,?_⟩
  refine St.le_trans (Slm_1 (S:=[(1,.val (.pv (.clo a1_id a1_cs))),(4,.box (.node [(.pv (I (0:Int))),(.node [(.pv (Sx (⟨#[]⟩:ByteArray))),(.pv (.sl true 2 []))]),(.pv (Sx (⟨#[]⟩:ByteArray))),(.pv (.sl true 5 []))])),(5,.box (.node [(.pv (I a0.Op)),(.node [(.pv (Sx v12.Name)),(.own 192)]),(.pv (Sx a0.Var)),(.own 464)])),(17,.val (.pv (.sl false 5 (a0.Parts.map (Formula.pv false))))),(18,.val (.pv (I (a0.Parts.length:Int)))),(19,.val (.pv (I (IntKind.i64.wrap ((i3:Int)+(1:Int))))))]) (O:=[(192,(2,v12.Args.map (Term.pv true))),(464,(5,v29.map (Formula.pv true)))]) SW SW) ?_
  refine Slr_ 464 9309 (by decide) NM ?_
  exact Slm_ SW
 ·refine S ?_
  refine CondH.f2 cs (by omega) (fun cs=>S ?_)
  cases rs_ h
  exact FinH.l SC

theorem icF_5(n:Nat):(∀ (a0:Formula) (r:Formula),icF_ n a0=some r→Sat Tryz.prog 113 [((Formula.pv false) a0)] ((Formula.pv true) r)):=by
 induction n with
 | zero=>exact fun _ _ h=>by simp[icF_] at h
 | succ n ih=>
  refine fun a0 r h=>?_
  obtain⟨h,cs⟩:=Ro_ h
  rw[icF_] at h
  refine Sat.of_m (nt:=5) (rs:=[.cell 2 44]) (n:=100000) Tryz.func113 rfl rfl rfl rfl (by simp) (S ?_)
  obtain⟨v4,hv4,h⟩:=rb_ h
  refine CallH.mk [false,false] (imP_3 (fun _ _ hh=>ih _ _ hh) (by simp only[COn_,COc_]) hv4) SC (S ?_)
  cases rs_ h
  exact FinH.l SC
theorem icF_3{a0:Formula}{r:Formula}(h:icF_2 a0=some r):Sat Tryz.prog 113 [((Formula.pv false) a0)] ((Formula.pv true) r):=by
 obtain⟨n,hn⟩:=ls_ h
 exact(icF_5 n) _ _ hn

theorem icN_3(n:Nat):(∀ (a0:Term) (a1:ByteArray) (r:Int),icN_ n a0 a1=some r→Sat Tryz.prog 225 [((Term.pv false) a0),(Sx a1)] (I r)):=by
 induction n with
 | zero=>exact fun _ _ _ h=>by simp[icN_] at h
 | succ n ih=>
  refine fun a0 a1 r h=>?_
  obtain⟨h,cs⟩:=Ro_ h
  rw[icN_] at h
  refine Sat.of_m (nt:=26) (rs:=[.tmp 4]) (n:=100000) Tryz.func225 rfl rfl rfl rfl (by simp) (S ?_)
  refine CondH.run cs h (fun cs h=>S ?_) (fun cs h=>S ?_)
  ·refine Mg.know_sl (b:=false) (sz:=2) (es:=a0.Args.map (Term.pv false)) 13 SC fun hl13=>?_; rw[List.length_map] at hl13
   replace h:=rl_ h
   refine Mg.forN h (fun i5 s5=>[(1,.val (.pv (Sx a1))),(5,.val (.pv (I s5))),(13,.val (.pv (.sl false 2 (a0.Args.map (Term.pv false))))),(14,.val (.pv (I (a0.Args.length:Int)))),(15,.val (.pv (I (i5:Int))))]) (fun i5 s5=>[]) (Slm_ SC) (fun i5 s5 hi h=>?_) (fun s5 h=>?_)
   ·have w:=ws_ (i:=i5) (by omega)
    refine S ?_
    refine CondH.t2 cs (by omega) (fun cs=>S ?_)
    obtain⟨v17,hv17,h⟩:=rb_ h
    refine IdxH.mk (f:=(Term.pv false)) hv17 SC (S ?_)
    obtain⟨v22,hv22,h⟩:=rb_ h
    refine CallH.mk [false,false] (ih _ _ _ hv22) SC (S ?_)
    have h:=rs_ h
    refine RdH.mk ⟨_,h,?_⟩
    exact Slm_ SW
   ·refine S ?_
    refine CondH.f2 cs (by omega) (fun cs=>S ?_)
    cases rs_ h
    exact FinH.l SC
  ·refine Mg.know_sl (b:=false) (sz:=2) (es:=a0.Args.map (Term.pv false)) 13 SC fun hl13=>?_; rw[List.length_map] at hl13
   replace h:=rl_ h
   refine Mg.forN h (fun i5 s5=>[(1,.val (.pv (Sx a1))),(5,.val (.pv (I s5))),(13,.val (.pv (.sl false 2 (a0.Args.map (Term.pv false))))),(14,.val (.pv (I (a0.Args.length:Int)))),(15,.val (.pv (I (i5:Int))))]) (fun i5 s5=>[]) (Slm_ SC) (fun i5 s5 hi h=>?_) (fun s5 h=>?_)
   ·have w:=ws_ (i:=i5) (by omega)
    refine S ?_
    refine CondH.t2 cs (by omega) (fun cs=>S ?_)
    obtain⟨v17,hv17,h⟩:=rb_ h
    refine IdxH.mk (f:=(Term.pv false)) hv17 SC (S ?_)
    obtain⟨v22,hv22,h⟩:=rb_ h
    refine CallH.mk [false,false] (ih _ _ _ hv22) SC (S ?_)
    have h:=rs_ h
    refine RdH.mk ⟨_,h,?_⟩
    exact Slm_ SW
   ·refine S ?_
    refine CondH.f2 cs (by omega) (fun cs=>S ?_)
    cases rs_ h
    exact FinH.l SC
theorem icN_4{a0:Term}{a1:ByteArray}{r:Int}(h:icN_2 a0 a1=some r):Sat Tryz.prog 225 [((Term.pv false) a0),(Sx a1)] (I r):=by
 obtain⟨n,hn⟩:=ls_ h
 exact(icN_3 n) _ _ _ hn

theorem ios_{a0:ByteArray}{a1:Term}  {r:Bool}(h:io_ a0 a1=some r):Sat Tryz.prog 218 [(Sx a0),((Term.pv false) a1)] (B r):=by
 obtain⟨h,cs⟩:=Ro_ h
 unfold io_ at h
 refine Sat.of_m (nt:=9) (rs:=[.tmp 4]) (n:=100000) Tryz.func218 rfl rfl rfl rfl (by simp) (S ?_)
 obtain⟨v7,hv7,h⟩:=rb_ h
 refine CallH.mk [false,false] (icN_4 hv7) SC (S ?_)
 cases rs_ h
 exact FinH.l SC

theorem ciN_1{a0:ByteArray}  {r:Bool}(h:ciN_ a0=some r):Sat Tryz.prog 248 [(Sx a0)] (B r):=by
 obtain⟨h,cs⟩:=Ro_ h
 unfold ciN_ at h
 refine Sat.of_m (nt:=6) (rs:=[.tmp 2]) (n:=100000) Tryz.func248 rfl rfl rfl rfl (by simp) (S ?_)
 cases rs_ h
 exact FinH.l SC

theorem cCs_1{a0:ByteArray}{a1:ByteArray}  {r:Int}(h:cCs_ a0 a1=some r):Sat Tryz.prog 241 [(Sx a0),(Sx a1)] (I r):=by
 obtain⟨h,cs⟩:=Ro_ h
 unfold cCs_ at h
 refine Sat.of_m (nt:=20) (rs:=[.tmp 4]) (n:=100000) Tryz.func241 rfl rfl rfl rfl (by simp) (S ?_)
 obtain⟨v8,hv8,h⟩:=rb_ h
 refine CallH.mk [false] (ciN_1 hv8) SC (S ?_)
 obtain⟨v10,hv10,h⟩:=rb_ h
 refine CallH.mk [false] (ciN_1 hv10) SC (S ?_)
 refine CondH.run cs h (fun cs h=>S ?_) (fun cs h=>S ?_)
 ·refine CondH.run cs h (fun cs h=>S ?_) (fun cs h=>S ?_)
  ·cases rs_ h
   exact FinH.l SC
  ·cases rs_ h
   exact FinH.l SC
 ·refine CondH.run cs h (fun cs h=>S ?_) (fun cs h=>S ?_)
  ·cases rs_ h
   exact FinH.l SC
  ·refine CondH.run cs h (fun cs h=>S ?_) (fun cs h=>S ?_)
   ·cases rs_ h
    exact FinH.l SC
   ·refine CondH.run cs h (fun cs h=>S ?_) (fun cs h=>S ?_)
    ·cases rs_ h
     exact FinH.l SC
    ·cases rs_ h
     exact FinH.l SC

theorem iSt_2{a0:Binding}{a1:ByteArray}  {r:Int}(h:iSt_ a0 a1=some r):Sat Tryz.prog 240 [((Binding.pv false) a0),(Sx a1)] (I r):=by
 obtain⟨h,cs⟩:=Ro_ h
 unfold iSt_ at h
 refine Sat.of_m (nt:=9) (rs:=[.tmp 4]) (n:=100000) Tryz.func240 rfl rfl rfl rfl (by simp) (S ?_)
 obtain⟨v8,hv8,h⟩:=rb_ h
 refine CallH.mk [false,false] (cCs_1 hv8) SC (S ?_)
 cases rs_ h
 exact FinH.l SC

theorem sBS_1{a0:List Binding}{a1:ByteArray}{a2:Binding→ByteArray→Option Int}{a2_id:FuncId}{a2_cs:List PV}(a2_ok:∀ y0 y1 r,a2 y0 y1=some r→Sat Tryz.prog a2_id (((Binding.pv false) y0)::(Sx y1)::a2_cs) (I r))(a2_cz:CapsOk a2_cs=True){r:Int×Bool}(h:sBS_ a0 a1 a2=some r):Sat Tryz.prog 239 [(.sl false 3 (a0.map (Binding.pv false))),(Sx a1),.clo a2_id a2_cs] (.tup [(I r.1),(B r.2)]):=by
 obtain⟨h,cs⟩:=Ro_ h
 unfold sBS_ at h
 have cs:=And.intro a2_cz cs
 refine Sat.of_m (nt:=49) (rs:=[.tmp 6,.tmp 7]) (n:=100000) Tryz.func239 rfl rfl rfl rfl (by simp) (S ?_)
 replace h:=rl_ h
 refine Mg.whileN h (fun s3=>[(0,.val (.pv (.sl false 3 (a0.map (Binding.pv false))))),(1,.val (.pv (Sx a1))),(2,.val (.pv (.clo a2_id a2_cs))),(8,.val (.pv (I (a0.length:Int)))),(9,.val (.pv (I s3.1))),(10,.val (.pv (I s3.2)))]) (fun s3=>[]) (Slm_ SC) (fun n3 s3 h=>?_)
 refine S ?_
 refine CondH.run cs h (fun cs h=>S ?_) (fun cs h=>S ?_)
 ·obtain⟨v22,hv22,h⟩:=rb_ h
  refine ShrH.mk hv22 (S ?_)
  obtain⟨v27,hv27,h⟩:=rb_ h
  refine IdxH.mk (f:=(Binding.pv false)) hv27 SC (S ?_)
  obtain⟨v30,hv30,h⟩:=rb_ h
  refine CallH.mk [false,false] (a2_ok _ _ _ hv30) SC (S ?_)
  refine CondH.run cs h (fun cs h=>S ?_) (fun cs h=>S ?_)
  ·have h:=rs_ h
   refine RdH.mk ⟨_,h,?_⟩
   exact Slm_ SC
  ·have h:=rs_ h
   refine RdH.mk ⟨_,h,?_⟩
   exact Slm_ SC
 ·have h:=rs_ h
  refine CondH.run cs h (fun cs h=>S ?_) (fun cs h=>S ?_)
  ·obtain⟨v43,hv43,h⟩:=rb_ h
   refine IdxH.mk (f:=(Binding.pv false)) hv43 SC (S ?_)
   obtain⟨v46,hv46,h⟩:=rb_ h
   refine CallH.mk [false,false] (a2_ok _ _ _ hv46) SC (S ?_)
   cases rs_ h
   exact FinH.l SC
  ·cases rs_ h
   exact FinH.l SC

theorem iSt_3{a0:Substitution}{a1:ByteArray}  {r:Term×Bool}(h:iSt_1 a0 a1=some r):Sat Tryz.prog 226 [((Substitution.pv false) a0),(Sx a1)] (.tup [((Term.pv false) r.1),(B r.2)]):=by
 obtain⟨h,cs⟩:=Ro_ h
 unfold iSt_1 at h
 refine Sat.of_m (nt:=24) (rs:=[.cell 4 42,.tmp 5]) (n:=100000) Tryz.func226 rfl rfl rfl rfl (by simp) (S ?_)
 obtain⟨v12,hv12,h⟩:=rb_ h
 refine CallH.mk [false,false,false] (sBS_1 (fun _ _ _ hh=>iSt_2 hh) (by simp only[COn_,COc_]) hv12) SC (S ?_)
 refine CondH.run cs h (fun cs h=>S ?_) (fun cs h=>S ?_)
 ·obtain⟨v21,hv21,h⟩:=rb_ h
  refine IdxH.mk (f:=(Binding.pv false)) hv21 SC (S ?_)
  cases rs_ h
  exact FinH.r SC
 ·cases rs_ h
  exact FinH.r SC

theorem iSa_3(n:Nat):(∀ (a0:Substitution) (a1:Term) (r:Term),iSa_ n a0 a1=some r→Sat Tryz.prog 220 [((Substitution.pv false) a0),((Term.pv false) a1)] ((Term.pv true) r)):=by
 induction n with
 | zero=>exact fun _ _ _ h=>by simp[iSa_] at h
 | succ n ih=>
  refine fun a0 a1 r h=>?_
  obtain⟨h,cs⟩:=Ro_ h
  rw[iSa_] at h
  refine Sat.of_m (nt:=51) (rs:=[.cell 4 42]) (n:=100000) Tryz.func220 rfl rfl rfl rfl (by simp) (S ?_)
  refine CondH.run cs h (fun cs h=>S ?_) (fun cs h=>S ?_)
  ·obtain⟨v18,hv18,h⟩:=rb_ h
   refine CallH.mk [false,false] (iSt_3 hv18) SC (S ?_)
   refine CondH.run cs h (fun cs h=>S ?_) (fun cs h=>S ?_)
   ·obtain⟨v23,hv23,h⟩:=rb_ h
    refine CallH.mk [false] (icT_3 hv23) SC (S ?_)
    cases rs_ h
    exact FinH.l SC
   ·cases rs_ h
    exact FinH.l SC
  ·obtain⟨n32,hn32,h⟩:=rb_ h
   refine MknH.mk hn32 (S ?_)
   refine And.intro (DHa_ [7] [512]) (S ?_)
   refine Mg.know_sl (b:=false) (sz:=2) (es:=a1.Args.map (Term.pv false)) 11 SC fun hl11=>?_; rw[List.length_map] at hl11
   replace h:=rl_ h
   refine Mg.forN h (fun i8 s8=>[(2,.box (.pv ((Substitution.pv false) a0))),(4,.box (.node [(.pv (Sx (⟨#[]⟩:ByteArray))),(.pv (.sl true 2 []))])),(7,.box (.node [(.pv (Sx a1.Name)),(.own 512)])),(35,.val (.pv (.sl false 2 (a1.Args.map (Term.pv false))))),(36,.val (.pv (I (a1.Args.length:Int)))),(37,.val (.pv (I (i8:Int))))]) (fun i8 s8=>[(512,(2,s8.map (Term.pv true)))]) (Slm_ SC) (fun i8 s8 hi h=>?_) (fun s8 h=>?_)
   ·have w:=ws_ (i:=i8) (by omega)
    refine S ?_
    refine CondH.t2 cs (by omega) (fun cs=>S ?_)
    obtain⟨v40,hv40,h⟩:=rb_ h
    refine IdxH.mk (f:=(Term.pv false)) hv40 SC (S ?_)
    obtain⟨v47,hv47,h⟩:=rb_ h
    refine CallH.mk [false,false] (ih _ _ _ hv47) SC (S ?_)
    obtain⟨v48,hv48,h⟩:=rb_ h
    refine IdxH.mk (f:=(Term.pv true)) hv48 SC (S ?_)
    obtain⟨w4,hw4,h⟩:=rb_ h
    refine EldH.mk (f:=(Term.pv true)) hw4 rfl SC (S ?_)
    refine And.intro (DHa_ [] [752]) (S ?_)
    have h:=rs_ h
    refine RdH.mk ⟨_,h,?_⟩
    exact Slm_ SW
   ·refine S ?_
    refine CondH.f2 cs (by omega) (fun cs=>S ?_)
    cases rs_ h
    exact FinH.l SC
theorem iSa_2{a0:Substitution}{a1:Term}{r:Term}(h:iSa_1 a0 a1=some r):Sat Tryz.prog 220 [((Substitution.pv false) a0),((Term.pv false) a1)] ((Term.pv true) r):=by
 obtain⟨n,hn⟩:=ls_ h
 exact(iSa_3 n) _ _ _ hn

theorem imP_1{a0:Formula}{a1:Formula→Bool→Option (Formula×Bool)}{a1_s:Bool}{a1_id:FuncId}{a1_pat:List Bool}{a1_ps a1_p1 a1_p2:List PV}(a1_ok:∀ y0 s r,a1 y0 s=some r→SatH Tryz.prog a1_id (((Formula.pv false) y0)::a1_p1) a1_p2 .ptr [] (.pv (B s)) (.pv (B r.2)) ((Formula.pv true) r.1))(a1_sp:sP_ a1_pat a1_ps=some (a1_p1,a1_p2))(a1_cz:CapsOk a1_ps){r:Formula×Bool}(h:imP_ a0 a1 a1_s=some r):SatH Tryz.prog 143 [((Formula.pv false) a0)] [] (.clo a1_id a1_pat) a1_ps (.pv (B a1_s)) (.pv (B r.2)) ((Formula.pv true) r.1):=by
 obtain⟨h,cs⟩:=Ro_ h
 unfold imP_ at h
 refine SHo_ (nt:=33) (rs:=[.cell 4 44]) (n:=100000) 1 Tryz.func143 rfl rfl rfl rfl rfl (Nat.le_of_ble_eq_true rfl) (by decide) (by first | exact Nat.le_of_ble_eq_true rfl | exact SC) (S ?_)
 obtain⟨v12,hv12,h⟩:=rb_ h
 refine CallH.mk [false] (icT_3 hv12) SC (S ?_)
 refine And.intro (DHa_ [5] [192]) (S ?_)
 refine Mg.know_sl (b:=false) (sz:=5) (es:=a0.Parts.map (Formula.pv false)) 17 SC fun hl17=>?_; rw[List.length_map] at hl17
 replace h:=rl_ h
 refine Mg.forN h (fun i3 s3=>[(1,.hold (.clo a1_id a1_pat) a1_ps (.cv (.pv (B s3.1)))),(4,.box (.node [(.pv (I (0:Int))),(.node [(.pv (Sx (⟨#[]⟩:ByteArray))),(.pv (.sl true 2 []))]),(.pv (Sx (⟨#[]⟩:ByteArray))),(.pv (.sl true 5 []))])),(5,.box (.node [(.pv (I a0.Op)),(.node [(.pv (Sx v12.Name)),(.own 192)]),(.pv (Sx a0.Var)),(.own 9309)])),(17,.val (.pv (.sl false 5 (a0.Parts.map (Formula.pv false))))),(18,.val (.pv (I (a0.Parts.length:Int)))),(19,.val (.pv (I (i3:Int)))),(20000,gh 1)]) (fun i3 s3=>[(192,(2,v12.Args.map (Term.pv true))),(9309,(5,s3.2.map (Formula.pv true)))]) (St.le_trans (Sln_ (x:=(.node [(.pv (I a0.Op)),(.node [(.pv (Sx v12.Name)),(.own 192)]),(.pv (Sx a0.Var)),(.pv (.sl true 5 []))])) 5 [3] 9309 5 NM SC SC SC) (Slm_ SC)) (fun i3 s3 hi h=>?_) (fun s3 h=>?_)
 ·have w:=ws_ (i:=i3) (by omega)
  refine S ?_
  refine CondH.t2 cs (by omega) (fun cs=>S ?_)
  obtain⟨v21,hv21,h⟩:=rb_ h
  refine IdxH.mk (f:=(Formula.pv false)) hv21 SC (S ?_)
  obtain⟨v27,hv27,h⟩:=rb_ h
  refine HHc_ (r:=1) (hc:=.cv (.pv (B s3.1))) (pre:=[((Formula.pv false) v21)]) a1_pat a1_ps a1_p1 a1_p2 [(.pv ((Formula.pv false) v21))] [false] (a1_ok _ _ _ hv27) a1_sp a1_cz SC (S ?_)
  obtain⟨v29,hv29,h⟩:=rb_ h
  refine AppH.mk (f:=(Formula.pv true)) (fun a=>Formula.psize _ a) hv29 SC SC (S ?_)
  refine And.intro (DHa_ [] [432,433,448,464]) (S ?_)
  have h:=rs_ h
  refine RdH.mk ⟨_,h,?_⟩
  refine St.le_trans (Slm_1 (S:=[(1,.hold (.clo a1_id a1_pat) a1_ps (.cv (.pv (B v27.2)))),(4,.box (.node [(.pv (I (0:Int))),(.node [(.pv (Sx (⟨#[]⟩:ByteArray))),(.pv (.sl true 2 []))]),(.pv (Sx (⟨#[]⟩:ByteArray))),(.pv (.sl true 5 []))])),(5,.box (.node [(.pv (I a0.Op)),(.node [(.pv (Sx v12.Name)),(.own 192)]),(.pv (Sx a0.Var)),(.own 464)])),(17,.val (.pv (.sl false 5 (a0.Parts.map (Formula.pv false))))),(18,.val (.pv (I (a0.Parts.length:Int)))),(19,.val (.pv (I (IntKind.i64.wrap ((i3:Int)+(1:Int)))))),(20000,gh 1)]) (O:=[(192,(2,v12.Args.map (Term.pv true))),(464,(5,v29.map (Formula.pv true)))]) SW SW) ?_
  refine Slr_ 464 9309 (by decide) NM ?_
  exact Slm_ SW
 ·refine S ?_
  refine CondH.f2 cs (by omega) (fun cs=>S ?_)
  cases rs_ h
  exact RetHB.l SC

theorem isN_2(n:Nat):(∀ (a0:Formula) (a1:ByteArray) (a2:Term) (r:Formula×Bool),isN_ n a0 a1 a2=some r→Sat Tryz.prog 214 [((Formula.pv false) a0),(Sx a1),((Term.pv false) a2)] (.tup [((Formula.pv true) r.1),(B r.2)]))∧(∀ (a0:Formula) (b0:ByteArray) (b1:Term) (b2:Bool) (r:Formula×Bool),is1_ n a0 b0 b1 b2=some r→SatH Tryz.prog 219 [((Formula.pv false) a0),.ptr (Sx b0),.ptr ((Term.pv false) b1)] [] .ptr [] (.pv (B b2)) (.pv (B r.2)) ((Formula.pv true) r.1)):=by
 induction n with
 | zero=>exact⟨fun _ _ _ _ h=>by simp[isN_] at h,fun _ _ _ _ _ h=>by simp[is1_] at h⟩
 | succ n ih=>
  refine⟨fun a0 a1 a2 r h=>?_,fun a0 b0 b1 b2 r h=>?_⟩
  ·obtain⟨h,cs⟩:=Ro_ h
   rw[isN_] at h
   refine Sat.of_m (nt:=55) (rs:=[.cell 6 44,.tmp 7]) (n:=100000) Tryz.func214 rfl rfl rfl rfl (by simp) (S ?_)
   obtain⟨v12,hv12,h⟩:=rb_ h
   refine CallH.mk [false] (iiQ_ hv12) SC (S ?_)
   refine CondH.run cs h (fun cs h=>S ?_) (fun cs h=>S ?_)
   ·refine CondH.run cs h (fun cs h=>S ?_) (fun cs h=>S ?_)
    ·refine And.intro (DHa_ [] []) (S ?_)
     obtain⟨v27,hv27,h⟩:=rb_ h
     refine CallH.mk [false] (icF_3 hv27) SC (S ?_)
     cases rs_ h
     exact FinH.l SC
    ·obtain⟨v20,hv20,h⟩:=rb_ h
     refine CallH.mk [false] (ifs_ hv20) SC (S ?_)
     obtain⟨v22,hv22,h⟩:=rb_ h
     refine CallH.mk [false,false] (sCS_2 hv22) SC (S ?_)
     refine And.intro (DHa_ [] [320]) (S ?_)
     refine CondH.run cs h (fun cs h=>S ?_) (fun cs h=>S ?_)
     ·obtain⟨v30,hv30,h⟩:=rb_ h
      refine CallH.mk [false] (iiQ_ hv30) SC (S ?_)
      refine CondH.run cs h (fun cs h=>S ?_) (fun cs h=>S ?_)
      ·obtain⟨v35,hv35,h⟩:=rb_ h
       refine CallH.mk [false,false] (ios_ hv35) SC (S ?_)
       refine CondH.run cs h (fun cs h=>S ?_) (fun cs h=>S ?_)
       ·cases rs_ h
        exact FinH.l SC
       ·refine MfH.hcl (r:=8) (x:=(.pv (B true))) [.tmp 4,.tmp 5] [] [(4,(Sx a1)),(5,((Term.pv false) a2))] [false,false,true] [(.ptr (Sx a1)),(.ptr ((Term.pv false) a2))] rfl rfl rfl SC (S ?_)
        obtain⟨v40,hv40,h⟩:=rb_ h
        refine HandH.call (r:=8) (hc:=.cv (.pv (B true))) 1 [_] [] [(.pv ((Formula.pv false) a0))] [] [false] (imP_1 (a1_id:=219) (a1_pat:=[false,false,true]) (a1_ps:=[(.ptr (Sx a1)),(.ptr ((Term.pv false) a2))]) (a1_p1:=[(.ptr (Sx a1)),(.ptr ((Term.pv false) a2))]) (a1_p2:=[]) (a1_ok:=fun _ _ _ hh=>ih.2 _ _ _ _ _ hh) (a1_sp:=rfl) (a1_cz:=by simp only[COn_,COc_]) hv40) rfl rfl rfl SC (S ?_)
        refine CondH.run cs h (fun cs h=>S ?_) (fun cs h=>S ?_)
        ·obtain⟨v51,hv51,h⟩:=rb_ h
         refine CallH.mk [false,false] (iSa_2 hv51) SC (S ?_)
         refine And.intro (DHa_ [] []) (S ?_)
         cases rs_ h
         exact FinH.l SC
        ·refine And.intro (DHa_ [] []) (S ?_)
         cases rs_ h
         exact FinH.l SC
      ·refine MfH.hcl (r:=8) (x:=(.pv (B true))) [.tmp 4,.tmp 5] [] [(4,(Sx a1)),(5,((Term.pv false) a2))] [false,false,true] [(.ptr (Sx a1)),(.ptr ((Term.pv false) a2))] rfl rfl rfl SC (S ?_)
       obtain⟨v40,hv40,h⟩:=rb_ h
       refine HandH.call (r:=8) (hc:=.cv (.pv (B true))) 1 [_] [] [(.pv ((Formula.pv false) a0))] [] [false] (imP_1 (a1_id:=219) (a1_pat:=[false,false,true]) (a1_ps:=[(.ptr (Sx a1)),(.ptr ((Term.pv false) a2))]) (a1_p1:=[(.ptr (Sx a1)),(.ptr ((Term.pv false) a2))]) (a1_p2:=[]) (a1_ok:=fun _ _ _ hh=>ih.2 _ _ _ _ _ hh) (a1_sp:=rfl) (a1_cz:=by simp only[COn_,COc_]) hv40) rfl rfl rfl SC (S ?_)
       refine CondH.run cs h (fun cs h=>S ?_) (fun cs h=>S ?_)
       ·obtain⟨v51,hv51,h⟩:=rb_ h
        refine CallH.mk [false,false] (iSa_2 hv51) SC (S ?_)
        refine And.intro (DHa_ [] []) (S ?_)
        cases rs_ h
        exact FinH.l SC
       ·refine And.intro (DHa_ [] []) (S ?_)
        cases rs_ h
        exact FinH.l SC
     ·obtain⟨v27,hv27,h⟩:=rb_ h
      refine CallH.mk [false] (icF_3 hv27) SC (S ?_)
      cases rs_ h
      exact FinH.l SC
   ·refine And.intro (DHa_ [] []) (S ?_)
    obtain⟨v30,hv30,h⟩:=rb_ h
    refine CallH.mk [false] (iiQ_ hv30) SC (S ?_)
    refine CondH.run cs h (fun cs h=>S ?_) (fun cs h=>S ?_)
    ·obtain⟨v35,hv35,h⟩:=rb_ h
     refine CallH.mk [false,false] (ios_ hv35) SC (S ?_)
     refine CondH.run cs h (fun cs h=>S ?_) (fun cs h=>S ?_)
     ·cases rs_ h
      exact FinH.l SC
     ·refine MfH.hcl (r:=8) (x:=(.pv (B true))) [.tmp 4,.tmp 5] [] [(4,(Sx a1)),(5,((Term.pv false) a2))] [false,false,true] [(.ptr (Sx a1)),(.ptr ((Term.pv false) a2))] rfl rfl rfl SC (S ?_)
      obtain⟨v40,hv40,h⟩:=rb_ h
      refine HandH.call (r:=8) (hc:=.cv (.pv (B true))) 1 [_] [] [(.pv ((Formula.pv false) a0))] [] [false] (imP_1 (a1_id:=219) (a1_pat:=[false,false,true]) (a1_ps:=[(.ptr (Sx a1)),(.ptr ((Term.pv false) a2))]) (a1_p1:=[(.ptr (Sx a1)),(.ptr ((Term.pv false) a2))]) (a1_p2:=[]) (a1_ok:=fun _ _ _ hh=>ih.2 _ _ _ _ _ hh) (a1_sp:=rfl) (a1_cz:=by simp only[COn_,COc_]) hv40) rfl rfl rfl SC (S ?_)
      refine CondH.run cs h (fun cs h=>S ?_) (fun cs h=>S ?_)
      ·obtain⟨v51,hv51,h⟩:=rb_ h
       refine CallH.mk [false,false] (iSa_2 hv51) SC (S ?_)
       refine And.intro (DHa_ [] []) (S ?_)
       cases rs_ h
       exact FinH.l SC
      ·refine And.intro (DHa_ [] []) (S ?_)
       cases rs_ h
       exact FinH.l SC
    ·refine MfH.hcl (r:=8) (x:=(.pv (B true))) [.tmp 4,.tmp 5] [] [(4,(Sx a1)),(5,((Term.pv false) a2))] [false,false,true] [(.ptr (Sx a1)),(.ptr ((Term.pv false) a2))] rfl rfl rfl SC (S ?_)
     obtain⟨v40,hv40,h⟩:=rb_ h
     refine HandH.call (r:=8) (hc:=.cv (.pv (B true))) 1 [_] [] [(.pv ((Formula.pv false) a0))] [] [false] (imP_1 (a1_id:=219) (a1_pat:=[false,false,true]) (a1_ps:=[(.ptr (Sx a1)),(.ptr ((Term.pv false) a2))]) (a1_p1:=[(.ptr (Sx a1)),(.ptr ((Term.pv false) a2))]) (a1_p2:=[]) (a1_ok:=fun _ _ _ hh=>ih.2 _ _ _ _ _ hh) (a1_sp:=rfl) (a1_cz:=by simp only[COn_,COc_]) hv40) rfl rfl rfl SC (S ?_)
     refine CondH.run cs h (fun cs h=>S ?_) (fun cs h=>S ?_)
     ·obtain⟨v51,hv51,h⟩:=rb_ h
      refine CallH.mk [false,false] (iSa_2 hv51) SC (S ?_)
      refine And.intro (DHa_ [] []) (S ?_)
      cases rs_ h
      exact FinH.l SC
     ·refine And.intro (DHa_ [] []) (S ?_)
      cases rs_ h
      exact FinH.l SC
  ·obtain⟨h,cs⟩:=Ro_ h
   rw[is1_] at h
   refine SHo_ (nt:=20) (rs:=[.cell 5 44]) (n:=100000) 3 Tryz.func219 rfl rfl rfl rfl rfl (Nat.le_of_ble_eq_true rfl) (by decide) (by first | exact Nat.le_of_ble_eq_true rfl | exact SC) (S ?_)
   obtain⟨v12,hv12,h⟩:=rb_ h
   refine CallH.mk [false,false,false] (ih.1 _ _ _ _ hv12) SC (S ?_)
   refine CondH.run cs h (fun cs h=>S ?_) (fun cs h=>S ?_)
   ·cases rs_ h
    exact RetHB.l SC
   ·cases rs_ h
    exact RetHB.l SC
theorem iss_{a0:Formula}{a1:ByteArray}{a2:Term}{r:Formula×Bool}(h:is_ a0 a1 a2=some r):Sat Tryz.prog 214 [((Formula.pv false) a0),(Sx a1),((Term.pv false) a2)] (.tup [((Formula.pv true) r.1),(B r.2)]):=by
 obtain⟨n,hn⟩:=ls_ h
 exact(isN_2 n).1 _ _ _ _ hn
theorem is1_2{a0:Formula}{b0:ByteArray}{b1:Term}{b2:Bool}{r:Formula×Bool}(h:is1_1 a0 b0 b1 b2=some r):SatH Tryz.prog 219 [((Formula.pv false) a0),.ptr (Sx b0),.ptr ((Term.pv false) b1)] [] .ptr [] (.pv (B b2)) (.pv (B r.2)) ((Formula.pv true) r.1):=by
 obtain⟨n,hn⟩:=ls_ h
 exact(isN_2 n).2 _ _ _ _ _ hn

theorem iiF_6{a0:Formula}  {r:Formula×Bool}(h:iiF_1 a0=some r):Sat Tryz.prog 215 [((Formula.pv false) a0)] (.tup [((Formula.pv false) r.1),(B r.2)]):=by
 obtain⟨h,cs⟩:=Ro_ h
 unfold iiF_1 at h
 refine Sat.of_m (nt:=9) (rs:=[.cell 2 44,.tmp 3]) (n:=100000) Tryz.func215 rfl rfl rfl rfl (by simp) (S ?_)
 obtain⟨v5,hv5,h⟩:=rb_ h
 refine CallH.mk [false] (iIV_6 hv5) SC (S ?_)
 refine CondH.run cs h (fun cs h=>S ?_) (fun cs h=>S ?_)
 ·cases rs_ h
  exact FinH.r SC
 ·cases rs_ h
  exact FinH.r SC

theorem iiF_4{a0:Formula}  {r:Formula×Bool}(h:iiF_1 a0=some r):Sat Tryz.prog 215 [((Formula.pv true) a0)] (.tup [((Formula.pv true) r.1),(B r.2)]):=by
 obtain⟨h,cs⟩:=Ro_ h
 unfold iiF_1 at h
 refine Sat.of_m (nt:=9) (rs:=[.cell 2 44,.tmp 3]) (n:=100000) Tryz.func215 rfl rfl rfl rfl (by simp) (S ?_)
 obtain⟨v5,hv5,h⟩:=rb_ h
 refine CallH.mk [false] (iIV_6 hv5) SC (S ?_)
 refine CondH.run cs h (fun cs h=>S ?_) (fun cs h=>S ?_)
 ·cases rs_ h
  exact FinH.l SC
 ·cases rs_ h
  exact FinH.l SC

theorem iSF_1{a0:Formula}{a1:ByteArray}{a2:Term}  {r:Formula×Bool}(h:iSF_ a0 a1 a2=some r):Sat Tryz.prog 211 [((Formula.pv false) a0),(Sx a1),((Term.pv false) a2)] (.tup [((Formula.pv true) r.1),(B r.2)]):=by
 obtain⟨h,cs⟩:=Ro_ h
 unfold iSF_ at h
 refine Sat.of_m (nt:=38) (rs:=[.cell 6 44,.tmp 7]) (n:=100000) Tryz.func211 rfl rfl rfl rfl (by simp) (S ?_)
 obtain⟨v11,hv11,h⟩:=rb_ h
 refine CallH.mk [false] (iIV_6 hv11) SC (S ?_)
 refine CondH.run cs h (fun cs h=>S ?_) (fun cs h=>S ?_)
 ·obtain⟨v15,hv15,h⟩:=rb_ h
  refine CallH.mk [false] (iiV_1 hv15) SC (S ?_)
  refine CondH.run cs h (fun cs h=>S ?_) (fun cs h=>S ?_)
  ·obtain⟨v20,hv20,h⟩:=rb_ h
   refine CallH.mk [false] (iIV_10 hv20) SC (S ?_)
   refine CondH.run cs h (fun cs h=>S ?_) (fun cs h=>S ?_)
   ·obtain⟨v28,hv28,h⟩:=rb_ h
    refine CallH.mk [false,false,false] (iss_ hv28) SC (S ?_)
    refine CondH.run cs h (fun cs h=>S ?_) (fun cs h=>S ?_)
    ·obtain⟨v35,hv35,h⟩:=rb_ h
     refine CallH.mk [true] (iiF_4 hv35) SC (S ?_)
     cases rs_ h
     exact FinH.l SC
    ·cases rs_ h
     exact FinH.l SC
   ·cases rs_ h
    exact FinH.l SC
  ·cases rs_ h
   exact FinH.l SC
 ·cases rs_ h
  exact FinH.l SC

theorem iis_{a0:Sequent}{a1:Derivation}{a2:Formula}  {r:(List Sequent)×Bool}(h:ii_ a0 a1 a2=some r):Sat Tryz.prog 204 [((Sequent.pv false) a0),((Derivation.pv false) a1),((Formula.pv false) a2)] (.tup [(.sl true 2 (r.1.map (Sequent.pv true))),(B r.2)]):=by
 obtain⟨h,cs⟩:=Ro_ h
 unfold ii_ at h
 refine Sat.of_m (nt:=59) (rs:=[.tmp 6,.tmp 7]) (n:=100000) Tryz.func204 rfl rfl rfl rfl (by simp) (S ?_)
 obtain⟨v14,hv14,h⟩:=rb_ h
 refine CallH.mk [false] (imR_1 hv14) SC (S ?_)
 refine CondH.run cs h (fun cs h=>S ?_) (fun cs h=>S ?_)
 ·obtain⟨v33,hv33,h⟩:=rb_ h
  refine IdxH.mk (f:=(Formula.pv false)) hv33 SC (S ?_)
  obtain⟨v39,hv39,h⟩:=rb_ h
  refine CallH.mk [false,false,false] (iSF_1 hv39) SC (S ?_)
  refine And.intro (DHa_ [8] [624,625]) (S ?_)
  refine CondH.run cs h (fun cs h=>S ?_) (fun cs h=>S ?_)
  ·obtain⟨v47,hv47,h⟩:=rb_ h
   refine CallH.mk [false] (imO_1 hv47) SC (S ?_)
   refine CondH.run cs h (fun cs h=>S ?_) (fun cs h=>S ?_)
   ·cases rs_ h
    exact FinH.l SC
   ·cases rs_ h
    exact FinH.l SC
  ·cases rs_ h
   exact FinH.l SC
 ·obtain⟨v20,hv20,h⟩:=rb_ h
  refine CallH.mk [false] (iiV_1 hv20) SC (S ?_)
  refine CondH.run cs h (fun cs h=>S ?_) (fun cs h=>S ?_)
  ·obtain⟨v27,hv27,h⟩:=rb_ h
   refine CallH.mk [false,false] (iiF_5 hv27) SC (S ?_)
   refine CondH.run cs h (fun cs h=>S ?_) (fun cs h=>S ?_)
   ·cases rs_ h
    exact FinH.l SC
   ·obtain⟨v33,hv33,h⟩:=rb_ h
    refine IdxH.mk (f:=(Formula.pv false)) hv33 SC (S ?_)
    obtain⟨v39,hv39,h⟩:=rb_ h
    refine CallH.mk [false,false,false] (iSF_1 hv39) SC (S ?_)
    refine And.intro (DHa_ [8] [624,625]) (S ?_)
    refine CondH.run cs h (fun cs h=>S ?_) (fun cs h=>S ?_)
    ·obtain⟨v47,hv47,h⟩:=rb_ h
     refine CallH.mk [false] (imO_1 hv47) SC (S ?_)
     refine CondH.run cs h (fun cs h=>S ?_) (fun cs h=>S ?_)
     ·cases rs_ h
      exact FinH.l SC
     ·cases rs_ h
      exact FinH.l SC
    ·cases rs_ h
     exact FinH.l SC
  ·cases rs_ h
   exact FinH.l SC

theorem ia1_1{a0:Int}{b0:Formula}  {r:List Formula}(h:ia1_ a0 b0=some r):Sat Tryz.prog 205 [(I a0),.ptr ((Formula.pv false) b0)] (.sl true 5 (r.map (Formula.pv false))):=by
 obtain⟨h,cs⟩:=Ro_ h
 unfold ia1_ at h
 refine Sat.of_m (nt:=10) (rs:=[.tmp 3]) (n:=100000) Tryz.func205 rfl rfl rfl rfl (by simp) (S ?_)
 obtain⟨v7,hv7,h⟩:=rb_ h
 refine IdxH.mk (f:=(Formula.pv false)) hv7 SC (S ?_)
 cases rs_ h
 exact FinH.l SC

theorem ia2_1{a0:Formula}{b0:Formula}  {r:Bool}(h:ia2_ a0 b0=some r):Sat Tryz.prog 206 [((Formula.pv false) a0),.ptr ((Formula.pv false) b0)] (B r):=by
 obtain⟨h,cs⟩:=Ro_ h
 unfold ia2_ at h
 refine Sat.of_m (nt:=7) (rs:=[.tmp 3]) (n:=100000) Tryz.func206 rfl rfl rfl rfl (by simp) (S ?_)
 obtain⟨v6,hv6,h⟩:=rb_ h
 refine CallH.mk [false,false] (isF_3 hv6) SC (S ?_)
 cases rs_ h
 exact FinH.l SC

theorem ias_{a0:Sequent}{a1:Derivation}  {r:(List Sequent)×Bool}(h:ia_ a0 a1=some r):Sat Tryz.prog 194 [((Sequent.pv false) a0),((Derivation.pv false) a1)] (.tup [(.sl false 2 (r.1.map (Sequent.pv false))),(B r.2)]):=by
 obtain⟨h,cs⟩:=Ro_ h
 unfold ia_ at h
 refine Sat.of_m (nt:=147) (rs:=[.tmp 4,.tmp 5]) (n:=100000) Tryz.func194 rfl rfl rfl rfl (by simp) (SB ?_)
 refine CondH.run cs h (fun cs h=>SB ?_) (fun cs h=>SB ?_)
 ·refine CondH.run cs h (fun cs h=>SB ?_) (fun cs h=>SB ?_)
  ·obtain⟨v18,hv18,h⟩:=rb_ h
   refine CallH.mk [false] (iiZ_ hv18) SC (SB ?_)
   refine CondH.run cs h (fun cs h=>SB ?_) (fun cs h=>SB ?_)
   ·obtain⟨v24,hv24,h⟩:=rb_ h
    refine CallH.mk [false] (iIV_6 hv24) SC (SB ?_)
    refine CondH.run cs h (fun cs h=>SB ?_) (fun cs h=>SB ?_)
    ·refine OrR.v [((Formula.pv false) a1.Cut)] (SB ?_)
     refine OrR.v [((Formula.pv false) a1.Cut)] (SB ?_)
     refine OrR.l (SB ?_)
     cases rs_ h
     exact FinH.r SC
    ·cases rs_ h
     exact FinH.r SC
   ·cases rs_ h
    exact FinH.r SC
  ·cases rs_ h
   exact FinH.r SC
 ·obtain⟨v38,hv38,h⟩:=rb_ h
  refine CallH.mk [false,false,false] (iws_ hv38) SC (SB ?_)
  refine CondH.run cs h (fun cs h=>SB ?_) (fun cs h=>SB ?_)
  ·obtain⟨v44,hv44,h⟩:=rb_ h
   refine CallH.mk [false,false] (isF_3 hv44) SC (SB ?_)
   refine CondH.run cs h (fun cs h=>SB ?_) (fun cs h=>SB ?_)
   ·obtain⟨v50,hv50,h⟩:=rb_ h
    refine CallH.mk [false] (iiQ_3 hv50) SC (SB ?_)
    obtain⟨v53,hv53,h⟩:=rb_ h
    refine CallH.mk [false] (iiZ_ hv53) SC (SB ?_)
    refine And.intro (DHa_ [] []) (SB ?_)
    refine CondH.run cs h (fun cs h=>SB ?_) (fun cs h=>SB ?_)
    ·obtain⟨v60,hv60,h⟩:=rb_ h
     refine CallH.mk [false,false] (imF_1 hv60) SC (SB ?_)
     refine CondH.run cs h (fun cs h=>SB ?_) (fun cs h=>SB ?_)
     ·obtain⟨v67,hv67,h⟩:=rb_ h
      refine CallH.mk [false] (iiQ_3 hv67) SC (SB ?_)
      refine CondH.run cs h (fun cs h=>SB ?_) (fun cs h=>SB ?_)
      ·obtain⟨v71,hv71,h⟩:=rb_ h
       refine CallH.mk [false,false,false] (iis_ hv71) SC (SB ?_)
       cases rs_ h
       exact FinH.r SC
      ·refine MfH.fr (SB ?_)
       refine CondH.run cs h (fun cs h=>SB ?_) (fun cs h=>SB ?_)
       ·refine CondH.run cs h (fun cs h=>SB ?_) (fun cs h=>SB ?_)
        ·cases rs_ h
         exact FinH.r SC
        ·refine MfH.fr (SB ?_)
         obtain⟨v86,hv86,h⟩:=rb_ h
         refine CallH.mk [false,false] (sCF_1 (fun _ _ hh=>ia2_1 hh) (by simp only[COn_,COc_]) hv86) SC (SB ?_)
         cases rs_ h
         exact FinH.r SC
       ·refine CondH.run cs h (fun cs h=>SB ?_) (fun cs h=>SB ?_)
        ·cases rs_ h
         exact FinH.r SC
        ·refine CondH.run cs h (fun cs h=>SB ?_) (fun cs h=>SB ?_)
         ·obtain⟨v93,hv93,h⟩:=rb_ h
          refine CallH.mk [false] (SvO_ (res':=(.sl false 5 (v93.map (Formula.pv false)))) (ia1_1 hv93) (by simp only[vt_,vs_,va_,vl_,PV.views,RB,RS])) SC (SB ?_)
          refine OrR.l (SB ?_)
          cases rs_ h
          exact FinH.r SC
         ·refine CondH.run cs h (fun cs h=>SB ?_) (fun cs h=>SB ?_)
          ·obtain⟨v99,hv99,h⟩:=rb_ h
           refine CallH.mk [false] (SvO_ (res':=(.sl false 5 (v99.map (Formula.pv false)))) (ia1_1 hv99) (by simp only[vt_,vs_,va_,vl_,PV.views,RB,RS])) SC (SB ?_)
           refine OrR.l (SB ?_)
           cases rs_ h
           exact FinH.r SC
          ·refine CondH.run cs h (fun cs h=>SB ?_) (fun cs h=>SB ?_)
           ·refine OrR.l (SB ?_)
            cases rs_ h
            exact FinH.r SC
           ·refine CondH.run cs h (fun cs h=>SB ?_) (fun cs h=>SB ?_)
            ·obtain⟨v111,hv111,h⟩:=rb_ h
             refine CallH.mk [false] (SvO_ (res':=(.sl false 5 (v111.map (Formula.pv false)))) (ia1_1 hv111) (by simp only[vt_,vs_,va_,vl_,PV.views,RB,RS])) SC (SB ?_)
             obtain⟨v114,hv114,h⟩:=rb_ h
             refine CallH.mk [false] (SvO_ (res':=(.sl false 5 (v114.map (Formula.pv false)))) (ia1_1 hv114) (by simp only[vt_,vs_,va_,vl_,PV.views,RB,RS])) SC (SB ?_)
             refine OrR.l (SB ?_)
             cases rs_ h
             exact FinH.r SC
            ·refine CondH.run cs h (fun cs h=>SB ?_) (fun cs h=>SB ?_)
             ·obtain⟨v120,hv120,h⟩:=rb_ h
              refine CallH.mk [false] (SvO_ (res':=(.sl false 5 (v120.map (Formula.pv false)))) (ia1_1 hv120) (by simp only[vt_,vs_,va_,vl_,PV.views,RB,RS])) SC (SB ?_)
              obtain⟨v123,hv123,h⟩:=rb_ h
              refine CallH.mk [false] (SvO_ (res':=(.sl false 5 (v123.map (Formula.pv false)))) (ia1_1 hv123) (by simp only[vt_,vs_,va_,vl_,PV.views,RB,RS])) SC (SB ?_)
              refine OrR.l (SB ?_)
              cases rs_ h
              exact FinH.r SC
             ·refine CondH.run cs h (fun cs h=>SB ?_) (fun cs h=>SB ?_)
              ·refine OrR.l (SB ?_)
               cases rs_ h
               exact FinH.r SC
              ·refine CondH.run cs h (fun cs h=>SB ?_) (fun cs h=>SB ?_)
               ·obtain⟨v135,hv135,h⟩:=rb_ h
                refine CallH.mk [false] (SvO_ (res':=(.sl false 5 (v135.map (Formula.pv false)))) (ia1_1 hv135) (by simp only[vt_,vs_,va_,vl_,PV.views,RB,RS])) SC (SB ?_)
                obtain⟨v138,hv138,h⟩:=rb_ h
                refine CallH.mk [false] (SvO_ (res':=(.sl false 5 (v138.map (Formula.pv false)))) (ia1_1 hv138) (by simp only[vt_,vs_,va_,vl_,PV.views,RB,RS])) SC (SB ?_)
                refine OrR.l (SB ?_)
                cases rs_ h
                exact FinH.r SC
               ·obtain⟨v142,hv142,h⟩:=rb_ h
                refine CallH.mk [false] (SvO_ (res':=(.sl false 5 (v142.map (Formula.pv false)))) (ia1_1 hv142) (by simp only[vt_,vs_,va_,vl_,PV.views,RB,RS])) SC (SB ?_)
                obtain⟨v144,hv144,h⟩:=rb_ h
                refine CallH.mk [false] (SvO_ (res':=(.sl false 5 (v144.map (Formula.pv false)))) (ia1_1 hv144) (by simp only[vt_,vs_,va_,vl_,PV.views,RB,RS])) SC (SB ?_)
                refine OrR.l (SB ?_)
                cases rs_ h
                exact FinH.r SC
     ·cases rs_ h
      exact FinH.r SC
    ·cases rs_ h
     exact FinH.r SC
   ·refine And.intro (DHa_ [] []) (SB ?_)
    cases rs_ h
    exact FinH.r SC
  ·refine And.intro (DHa_ [] []) (SB ?_)
   cases rs_ h
   exact FinH.r SC

theorem iDr_4{a0:Derivation}{a1:Bool}{a2:Int}  {r:Bool}(h:iDr_1 a0 a1 a2=some r):Sat Tryz.prog 114 [((Derivation.pv false) a0),(B a1),(I a2)] (B r):=by
 obtain⟨h,cs⟩:=Ro_ h
 unfold iDr_1 at h
 refine Sat.of_m (nt:=32) (rs:=[.tmp 6]) (n:=100000) Tryz.func114 rfl rfl rfl rfl (by simp) (S ?_)
 refine CondH.run cs h (fun cs h=>S ?_) (fun cs h=>S ?_)
 ·cases rs_ h
  exact FinH.l SC
 ·obtain⟨v15,hv15,h⟩:=rb_ h
  refine CallH.mk [false] (imR_1 hv15) SC (S ?_)
  refine CondH.run cs h (fun cs h=>S ?_) (fun cs h=>S ?_)
  ·cases rs_ h
   exact FinH.l SC
  ·obtain⟨v20,hv20,h⟩:=rb_ h
   refine CallH.mk [false] (imO_1 hv20) SC (S ?_)
   refine CondH.run cs h (fun cs h=>S ?_) (fun cs h=>S ?_)
   ·cases rs_ h
    exact FinH.l SC
   ·cases rs_ h
    exact FinH.l SC

theorem iDr_5{a0:Derivation}{a1:List Formula}{a2:Bool}  {r:List Formula}(h:iDr_2 a0 a1 a2=some r):Sat Tryz.prog 195 [((Derivation.pv false) a0),(.sl false 5 (a1.map (Formula.pv false))),(B a2)] (.sl true 5 (r.map (Formula.pv false))):=by
 obtain⟨h,cs⟩:=Ro_ h
 unfold iDr_2 at h
 refine Sat.of_m (nt:=29) (rs:=[.tmp 6]) (n:=100000) Tryz.func195 rfl rfl rfl rfl (by simp) (S ?_)
 refine Mg.know_sl (b:=false) (sz:=5) (es:=a1.map (Formula.pv false)) 1 SC fun hl1=>?_; rw[List.length_map] at hl1
 replace h:=rl_ h
 refine Mg.forN h (fun i3 s3=>[(2,.val (.pv (B a2))),(3,.box (.pv ((Derivation.pv false) a0))),(7,.val (.own 160)),(11,.val (.pv (.sl false 5 (a1.map (Formula.pv false))))),(12,.val (.pv (I (a1.length:Int)))),(13,.val (.pv (I (i3:Int))))]) (fun i3 s3=>[(160,(5,s3.map (Formula.pv false)))]) (Slm_ SC) (fun i3 s3 hi h=>?_) (fun s3 h=>?_)
 ·have w:=ws_ (i:=i3) (by omega)
  refine S ?_
  refine CondH.t2 cs (by omega) (fun cs=>S ?_)
  obtain⟨v16,hv16,h⟩:=rb_ h
  refine IdxH.mk (f:=(Formula.pv false)) hv16 SC (S ?_)
  obtain⟨v21,hv21,h⟩:=rb_ h
  refine CallH.mk [false,false,false] (iDr_4 hv21) SC (S ?_)
  refine CondH.run cs h (fun cs h=>S ?_) (fun cs h=>S ?_)
  ·have h:=rs_ h
   refine RdH.mk ⟨_,h,?_⟩
   exact Slm_ SW
  ·obtain⟨v26,hv26,h⟩:=rb_ h
   refine AppH.mk (f:=(Formula.pv false)) (fun a=>Formula.psize _ a) hv26 SC SC (S ?_)
   have h:=rs_ h
   refine RdH.mk ⟨_,h,?_⟩
   refine St.le_trans (Slm_1 (S:=[(2,.val (.pv (B a2))),(3,.box (.pv ((Derivation.pv false) a0))),(7,.val (.own 416)),(11,.val (.pv (.sl false 5 (a1.map (Formula.pv false))))),(12,.val (.pv (I (a1.length:Int)))),(13,.val (.pv (I (IntKind.i64.wrap ((i3:Int)+(1:Int))))))]) (O:=[(416,(5,v26.map (Formula.pv false)))]) SW SW) ?_
   refine Slr_ 416 160 (by decide) NM ?_
   exact Slm_ SW
 ·refine S ?_
  refine CondH.f2 cs (by omega) (fun cs=>S ?_)
  cases rs_ h
  exact FinH.l SC

theorem sGS_1{a1:Int}  {r:List Formula}(h:sGS_ a1=some r):Sat Tryz.prog 129 [(.lit (.slice none 0 0)),(I a1)] (.sl true 5 (r.map (Formula.pv false))):=by
 obtain⟨h,cs⟩:=Ro_ h
 unfold sGS_ at h
 refine Son_ (sz:=5) (nt:=27) (rs:=[.tmp 4]) (n:=100000) Tryz.func129 rfl rfl rfl rfl (by simp) (S ?_)
 refine CondH.run cs h (fun cs h=>S ?_) (fun cs h=>S ?_)
 ·exact rn_ h
 ·refine CondH.run cs h (fun cs h=>S ?_) (fun cs h=>S ?_)
  ·obtain⟨n22,hn22,h⟩:=rb_ h
   refine AppzH.mk hn22 (S ?_)
   obtain⟨v25,hv25,h⟩:=rb_ h
   refine SlcOH.mk (f:=(Formula.pv true)) hv25 SC ?_
   obtain rfl:=sn_4 hv25
   refine S ?_
   refine S ?_
   cases rs_ h
   exact FinH.l SC
  ·cases rs_ h
   exact FinH.l SC

theorem sCS_4{a0:List (List Formula)}  {r:List Formula}(h:sCS_1 a0=some r):Sat Tryz.prog 98 [(.sl false 1 (a0.map (Lv false 5 (Formula.pv false))))] (.sl true 5 (r.map (Formula.pv false))):=by
 obtain⟨h,cs⟩:=Ro_ h
 unfold sCS_1 at h
 refine Sat.of_m (nt:=36) (rs:=[.tmp 2]) (n:=100000) Tryz.func98 rfl rfl rfl rfl (by simp) (S ?_)
 refine Mg.know_sl (b:=false) (sz:=1) (es:=a0.map (Lv false 5 (Formula.pv false))) 0 SC fun hl0=>?_; rw[List.length_map] at hl0
 replace h:=rl_ h
 refine Mg.forN h (fun i3 s3=>[(0,.val (.pv (.sl false 1 (a0.map (Lv false 5 (Formula.pv false)))))),(3,.val (.pv (I s3))),(9,.val (.pv (.sl false 1 (a0.map (Lv false 5 (Formula.pv false)))))),(10,.val (.pv (I (a0.length:Int)))),(11,.val (.pv (I (i3:Int))))]) (fun i3 s3=>[]) (Slm_ SC) (fun i3 s3 hi h=>?_) (fun s3 h=>?_)
 ·have w:=ws_ (i:=i3) (by omega)
  refine S ?_
  refine CondH.t2 cs (by omega) (fun cs=>S ?_)
  obtain⟨v13,hv13,h⟩:=rb_ h
  refine IdxH.mk (f:=(Lv false 5 (Formula.pv false))) hv13 SC (S ?_)
  refine CondH.run cs h (fun cs h=>S ?_) (fun cs h=>S ?_)
  ·exact rn_ h
  ·have h:=rs_ h
   refine RdH.mk ⟨_,h,?_⟩
   exact Slm_ SW
 ·refine S ?_
  refine CondH.f2 cs (by omega) (fun cs=>S ?_)
  obtain⟨v24,hv24,h⟩:=rb_ h
  refine CHn_ (h:=sGS_1 hv24) (by refine S ?_; exact NM) (S ?_)
  refine Mg.know_sl (b:=false) (sz:=1) (es:=a0.map (Lv false 5 (Formula.pv false))) 0 SC fun hl0=>?_; rw[List.length_map] at hl0
  replace h:=rl_ h
  refine Mg.forN h (fun i11 s11=>[(6,.val (.own 384)),(25,.val (.pv (.sl false 1 (a0.map (Lv false 5 (Formula.pv false)))))),(26,.val (.pv (I (a0.length:Int)))),(27,.val (.pv (I (i11:Int))))]) (fun i11 s11=>[(384,(5,s11.map (Formula.pv false)))]) (Slm_ SC) (fun i11 s11 hi h=>?_) (fun s11 h=>?_)
  ·have w:=ws_ (i:=i11) (by omega)
   refine S ?_
   refine CondH.t2 cs (by omega) (fun cs=>S ?_)
   obtain⟨v29,hv29,h⟩:=rb_ h
   refine IdxH.mk (f:=(Lv false 5 (Formula.pv false))) hv29 SC (S ?_)
   obtain⟨v33,hv33,h⟩:=rb_ h
   refine AppH.mk (f:=(Formula.pv false)) (fun a=>Formula.psize _ a) hv33 SC SC (S ?_)
   have h:=rs_ h
   refine RdH.mk ⟨_,h,?_⟩
   refine St.le_trans (Slm_1 (S:=[(6,.val (.own 528)),(25,.val (.pv (.sl false 1 (a0.map (Lv false 5 (Formula.pv false)))))),(26,.val (.pv (I (a0.length:Int)))),(27,.val (.pv (I (IntKind.i64.wrap ((i11:Int)+(1:Int))))))]) (O:=[(528,(5,v33.map (Formula.pv false)))]) SW SW) ?_
   refine Slr_ 528 384 (by decide) NM ?_
   exact Slm_ SW
  ·refine S ?_
   cases rs_ h
   exact FinH.l SC

theorem icF_4{a0:List Formula}  {r:List Formula}(h:icF_1 a0=some r):Sat Tryz.prog 102 [(.sl false 5 (a0.map (Formula.pv false)))] (.sl true 5 (r.map (Formula.pv true))):=by
 obtain⟨h,cs⟩:=Ro_ h
 unfold icF_1 at h
 refine Sat.of_m (nt:=20) (rs:=[.tmp 2]) (n:=100000) Tryz.func102 rfl rfl rfl rfl (by simp) (S ?_)
 refine Mg.know_sl (b:=false) (sz:=5) (es:=a0.map (Formula.pv false)) 0 SC fun hl0=>?_; rw[List.length_map] at hl0
 replace h:=rl_ h
 refine Mg.forN h (fun i3 s3=>[(3,.val (.own 96)),(7,.val (.pv (.sl false 5 (a0.map (Formula.pv false))))),(8,.val (.pv (I (a0.length:Int)))),(9,.val (.pv (I (i3:Int))))]) (fun i3 s3=>[(96,(5,s3.map (Formula.pv true)))]) (Slm_ SC) (fun i3 s3 hi h=>?_) (fun s3 h=>?_)
 ·have w:=ws_ (i:=i3) (by omega)
  refine S ?_
  refine CondH.t2 cs (by omega) (fun cs=>S ?_)
  obtain⟨v11,hv11,h⟩:=rb_ h
  refine IdxH.mk (f:=(Formula.pv false)) hv11 SC (S ?_)
  obtain⟨v15,hv15,h⟩:=rb_ h
  refine CallH.mk [false] (icF_3 hv15) SC (S ?_)
  obtain⟨v17,hv17,h⟩:=rb_ h
  refine AppH.mk (f:=(Formula.pv true)) (fun a=>Formula.psize _ a) hv17 SC SC (S ?_)
  have h:=rs_ h
  refine RdH.mk ⟨_,h,?_⟩
  refine St.le_trans (Slm_1 (S:=[(3,.val (.own 272)),(7,.val (.pv (.sl false 5 (a0.map (Formula.pv false))))),(8,.val (.pv (I (a0.length:Int)))),(9,.val (.pv (I (IntKind.i64.wrap ((i3:Int)+(1:Int))))))]) (O:=[(272,(5,v17.map (Formula.pv true)))]) SW SW) ?_
  refine Slr_ 272 96 (by decide) NM ?_
  exact Slm_ SW
 ·refine S ?_
  refine CondH.f2 cs (by omega) (fun cs=>S ?_)
  cases rs_ h
  exact FinH.l SC

theorem icS_1{a0:Sequent}  {r:Sequent}(h:icS_ a0=some r):Sat Tryz.prog 60 [((Sequent.pv false) a0)] ((Sequent.pv true) r):=by
 obtain⟨h,cs⟩:=Ro_ h
 unfold icS_ at h
 refine Sat.of_m (nt:=10) (rs:=[.cell 2 39]) (n:=100000) Tryz.func60 rfl rfl rfl rfl (by simp) (S ?_)
 obtain⟨v5,hv5,h⟩:=rb_ h
 refine CallH.mk [false] (icF_4 hv5) SC (S ?_)
 obtain⟨v8,hv8,h⟩:=rb_ h
 refine CallH.mk [false] (icF_4 hv8) SC (S ?_)
 refine And.intro (DHa_ [] [80,128]) (S ?_)
 cases rs_ h
 exact FinH.l SC

theorem ips_{a0:Sequent}{a1:Derivation}  {r:(List Sequent)×Bool}(h:ip_ a0 a1=some r):Sat Tryz.prog 186 [((Sequent.pv false) a0),((Derivation.pv false) a1)] (.tup [(.sl true 2 (r.1.map (Sequent.pv true))),(B r.2)]):=by
 obtain⟨h,cs⟩:=Ro_ h
 unfold ip_ at h
 refine Sat.of_m (nt:=54) (rs:=[.tmp 4,.tmp 5]) (n:=100000) Tryz.func186 rfl rfl rfl rfl (by simp) (S ?_)
 obtain⟨v15,hv15,h⟩:=rb_ h
 refine CallH.mk [false,false] (ias_ hv15) SC (S ?_)
 refine CondH.run cs h (fun cs h=>S ?_) (fun cs h=>S ?_)
 ·refine Mg.know_sl (b:=false) (sz:=2) (es:=v15.1.map (Sequent.pv false)) 6 SC fun hl6=>?_; rw[List.length_map] at hl6
  replace h:=rl_ h
  refine Mg.forN h (fun i6 s6=>[(2,.box (.pv ((Sequent.pv false) a0))),(3,.box (.pv ((Derivation.pv false) a1))),(8,.val (.own 320)),(21,.val (.pv (.sl false 2 (v15.1.map (Sequent.pv false))))),(22,.val (.pv (I (v15.1.length:Int)))),(23,.val (.pv (I (i6:Int))))]) (fun i6 s6=>[(320,(2,s6.map (Sequent.pv true)))]) (Slm_ SC) (fun i6 s6 hi h=>?_) (fun s6 h=>?_)
  ·have w:=ws_ (i:=i6) (by omega)
   refine S ?_
   refine CondH.t2 cs (by omega) (fun cs=>S ?_)
   obtain⟨v25,hv25,h⟩:=rb_ h
   refine IdxH.mk (f:=(Sequent.pv false)) hv25 SC (S ?_)
   obtain⟨v30,hv30,h⟩:=rb_ h
   refine CallH.mk [false,false,false] (SvO_ (res':=(.sl false 5 (v30.map (Formula.pv false)))) (iDr_5 hv30) (by simp only[vt_,vs_,va_,vl_,PV.views,RB,RS])) SC (S ?_)
   obtain⟨v34,hv34,h⟩:=rb_ h
   refine CallH.mk [true] (Sat.give (args:=[(.sl true 1 (([v30,v25.Left]).map (Lv false 5 (Formula.pv false))))]) [true] (by have gg:=sCS_4 hv34; simp only[gv_t,gv_f,gv_n,vs_,va_,vl_,PV.views,RB,RS] at gg ⊢; exact gg)) SC (S ?_)
   obtain⟨v38,hv38,h⟩:=rb_ h
   refine CallH.mk [false,false,false] (SvO_ (res':=(.sl false 5 (v38.map (Formula.pv false)))) (iDr_5 hv38) (by simp only[vt_,vs_,va_,vl_,PV.views,RB,RS])) SC (S ?_)
   obtain⟨v42,hv42,h⟩:=rb_ h
   refine CallH.mk [true] (Sat.give (args:=[(.sl true 1 (([v38,v25.Right]).map (Lv false 5 (Formula.pv false))))]) [true] (by have gg:=sCS_4 hv42; simp only[gv_t,gv_f,gv_n,vs_,va_,vl_,PV.views,RB,RS] at gg ⊢; exact gg)) SC (S ?_)
   obtain⟨v44,hv44,h⟩:=rb_ h
   refine CallH.mk [false] (icS_1 hv44) SC (S ?_)
   refine And.intro (DHa_ [11] [528,544,656,672,704,705]) (S ?_)
   obtain⟨v46,hv46,h⟩:=rb_ h
   refine CallH.mk [false] (iIV_9 hv46) SC (S ?_)
   refine CondH.run cs h (fun cs h=>S ?_) (fun cs h=>S ?_)
   ·obtain⟨v51,hv51,h⟩:=rb_ h
    refine AppH.mk (f:=(Sequent.pv true)) (fun a=>Sequent.psize _ a) hv51 SC SC (S ?_)
    have h:=rs_ h
    refine RdH.mk ⟨_,h,?_⟩
    refine St.le_trans (Slm_1 (S:=[(2,.box (.pv ((Sequent.pv false) a0))),(3,.box (.pv ((Derivation.pv false) a1))),(8,.val (.own 816)),(21,.val (.pv (.sl false 2 (v15.1.map (Sequent.pv false))))),(22,.val (.pv (I (v15.1.length:Int)))),(23,.val (.pv (I (IntKind.i64.wrap ((i6:Int)+(1:Int))))))]) (O:=[(816,(2,v51.map (Sequent.pv true)))]) SW SW) ?_
    refine Slr_ 816 320 (by decide) NM ?_
    exact Slm_ SW
   ·cases rs_ h
    exact FinH.l SC
  ·refine S ?_
   refine CondH.f2 cs (by omega) (fun cs=>S ?_)
   cases rs_ h
   exact FinH.l SC
 ·cases rs_ h
  exact FinH.l SC

theorem iPO_1{a0:Sequent}{a1:Derivation}  {r:(List Sequent)×Bool}(h:iPO_ a0 a1=some r):Sat Tryz.prog 166 [((Sequent.pv false) a0),((Derivation.pv false) a1)] (.tup [(.sl true 2 (r.1.map (Sequent.pv true))),(B r.2)]):=by
 obtain⟨h,cs⟩:=Ro_ h
 unfold iPO_ at h
 refine Sat.of_m (nt:=14) (rs:=[.tmp 4,.tmp 5]) (n:=100000) Tryz.func166 rfl rfl rfl rfl (by simp) (S ?_)
 obtain⟨v7,hv7,h⟩:=rb_ h
 refine CallH.mk [false] (iIV_9 hv7) SC (S ?_)
 refine CondH.run cs h (fun cs h=>S ?_) (fun cs h=>S ?_)
 ·obtain⟨v11,hv11,h⟩:=rb_ h
  refine CallH.mk [false,false] (ips_ hv11) SC (S ?_)
  cases rs_ h
  exact FinH.l SC
 ·cases rs_ h
  exact FinH.l SC

theorem isF_4{a0:List Formula}{a1:List Formula}  {r:Bool}(h:isF_1 a0 a1=some r):Sat Tryz.prog 151 [(.sl false 5 (a0.map (Formula.pv false))),(.sl false 5 (a1.map (Formula.pv false)))] (B r):=by
 obtain⟨h,cs⟩:=Ro_ h
 unfold isF_1 at h
 refine Sat.of_m (nt:=8) (rs:=[.tmp 4]) (n:=100000) Tryz.func151 rfl rfl rfl rfl (by simp) (S ?_)
 obtain⟨v7,hv7,h⟩:=rb_ h
 refine CallH.mk [false,false,false] (sEF_3 (fun _ _ _ hh=>isF_3 hh) (by simp only[COn_,COc_]) hv7) SC (S ?_)
 cases rs_ h
 exact FinH.l SC

theorem isS_1{a0:Sequent}{a1:Sequent}  {r:Bool}(h:isS_ a0 a1=some r):Sat Tryz.prog 128 [((Sequent.pv false) a0),((Sequent.pv false) a1)] (B r):=by
 obtain⟨h,cs⟩:=Ro_ h
 unfold isS_ at h
 refine Sat.of_m (nt:=17) (rs:=[.tmp 4]) (n:=100000) Tryz.func128 rfl rfl rfl rfl (by simp) (S ?_)
 obtain⟨v9,hv9,h⟩:=rb_ h
 refine CallH.mk [false,false] (isF_4 hv9) SC (S ?_)
 refine CondH.run cs h (fun cs h=>S ?_) (fun cs h=>S ?_)
 ·obtain⟨v15,hv15,h⟩:=rb_ h
  refine CallH.mk [false,false] (isF_4 hv15) SC (S ?_)
  cases rs_ h
  exact FinH.l SC
 ·cases rs_ h
  exact FinH.l SC

theorem iiR_2{a0:Sequent}{a1:Derivation}  {r:Bool}(h:iiR_1 a0 a1=some r):Sat Tryz.prog 168 [((Sequent.pv false) a0),((Derivation.pv false) a1)] (B r):=by
 obtain⟨h,cs⟩:=Ro_ h
 unfold iiR_1 at h
 refine Sat.of_m (nt:=9) (rs:=[.tmp 4]) (n:=100000) Tryz.func168 rfl rfl rfl rfl (by simp) (S ?_)
 obtain⟨v8,hv8,h⟩:=rb_ h
 refine CallH.mk [false,false] (isS_1 hv8) SC (S ?_)
 cases rs_ h
 exact FinH.l SC

theorem sEF_4{a0:List Sequent}{a1:List Derivation}{a2:Sequent→Derivation→Option Bool}{a2_id:FuncId}{a2_cs:List PV}(a2_ok:∀ y0 y1 r,a2 y0 y1=some r→Sat Tryz.prog a2_id (((Sequent.pv false) y0)::((Derivation.pv false) y1)::a2_cs) (B r))(a2_cz:CapsOk a2_cs=True){r:Bool}(h:sEF_1 a0 a1 a2=some r):Sat Tryz.prog 167 [(.sl false 2 (a0.map (Sequent.pv false))),(.sl false 12 (a1.map (Derivation.pv false))),.clo a2_id a2_cs] (B r):=by
 obtain⟨h,cs⟩:=Ro_ h
 unfold sEF_1 at h
 have cs:=And.intro a2_cz cs
 refine Sat.of_m (nt:=32) (rs:=[.tmp 6]) (n:=100000) Tryz.func167 rfl rfl rfl rfl (by simp) (S ?_)
 refine CondH.run cs h (fun cs h=>S ?_) (fun cs h=>S ?_)
 ·refine Mg.know_sl (b:=false) (sz:=2) (es:=a0.map (Sequent.pv false)) 0 SC fun hl0=>?_; rw[List.length_map] at hl0
  replace h:=rl_ h
  refine Mg.forN h (fun i4 s4=>[(1,.val (.pv (.sl false 12 (a1.map (Derivation.pv false))))),(2,.val (.pv (.clo a2_id a2_cs))),(15,.val (.pv (.sl false 2 (a0.map (Sequent.pv false))))),(16,.val (.pv (I (a0.length:Int)))),(17,.val (.pv (I (i4:Int))))]) (fun i4 s4=>[]) (Slm_ SC) (fun i4 s4 hi h=>?_) (fun s4 h=>?_)
  ·have w:=ws_ (i:=i4) (by omega)
   refine S ?_
   refine CondH.t2 cs (by omega) (fun cs=>S ?_)
   obtain⟨v20,hv20,h⟩:=rb_ h
   refine IdxH.mk (f:=(Sequent.pv false)) hv20 SC (S ?_)
   obtain⟨v24,hv24,h⟩:=rb_ h
   refine IdxH.mk (f:=(Derivation.pv false)) hv24 SC (S ?_)
   obtain⟨v29,hv29,h⟩:=rb_ h
   refine CallH.mk [false,false] (a2_ok _ _ _ hv29) SC (S ?_)
   refine CondH.run cs h (fun cs h=>S ?_) (fun cs h=>S ?_)
   ·have h:=rs_ h
    refine RdH.mk ⟨_,h,?_⟩
    exact Slm_ SW
   ·cases rs_ h
    exact FinH.l SC
  ·refine S ?_
   refine CondH.f2 cs (by omega) (fun cs=>S ?_)
   cases rs_ h
   exact FinH.l SC
 ·cases rs_ h
  exact FinH.l SC

theorem iiR_3{a0:Derivation}  {r:Bool}(h:iiR_ a0=some r):Sat Tryz.prog 146 [((Derivation.pv false) a0)] (B r):=by
 obtain⟨h,cs⟩:=Ro_ h
 unfold iiR_ at h
 refine Sat.of_m (nt:=19) (rs:=[.tmp 2]) (n:=100000) Tryz.func146 rfl rfl rfl rfl (by simp) (S ?_)
 obtain⟨v9,hv9,h⟩:=rb_ h
 refine CallH.mk [false,false] (iPO_1 hv9) SC (S ?_)
 refine CondH.run cs h (fun cs h=>S ?_) (fun cs h=>S ?_)
 ·obtain⟨v17,hv17,h⟩:=rb_ h
  refine CallH.mk [false,false,false] (sEF_4 (fun _ _ _ hh=>iiR_2 hh) (by simp only[COn_,COc_]) hv17) SC (S ?_)
  cases rs_ h
  exact FinH.l SC
 ·cases rs_ h
  exact FinH.l SC

theorem ifW_2(n:Nat):(∀ (a0:Derivation) (r:(List Int)×Bool),ifW_ n a0=some r→Sat Tryz.prog 119 [((Derivation.pv false) a0)] (.tup [(.sl true 1 (r.1.map I)),(B r.2)])):=by
 induction n with
 | zero=>exact fun _ _ h=>by simp[ifW_] at h
 | succ n ih=>
  refine fun a0 r h=>?_
  obtain⟨h,cs⟩:=Ro_ h
  rw[ifW_] at h
  refine Sat.of_m (nt:=31) (rs:=[.tmp 2,.tmp 3]) (n:=100000) Tryz.func119 rfl rfl rfl rfl (by simp) (S ?_)
  obtain⟨v9,hv9,h⟩:=rb_ h
  refine CallH.mk [false] (iiR_3 hv9) SC (S ?_)
  refine CondH.run cs h (fun cs h=>S ?_) (fun cs h=>S ?_)
  ·refine Mg.know_sl (b:=false) (sz:=12) (es:=a0.Parts.map (Derivation.pv false)) 13 SC fun hl13=>?_; rw[List.length_map] at hl13
   replace h:=rl_ h
   refine Mg.forN h (fun i4 s4=>[(13,.val (.pv (.sl false 12 (a0.Parts.map (Derivation.pv false))))),(14,.val (.pv (I (a0.Parts.length:Int)))),(15,.val (.pv (I (i4:Int))))]) (fun i4 s4=>[]) (Slm_ SC) (fun i4 s4 hi h=>?_) (fun s4 h=>?_)
   ·have w:=ws_ (i:=i4) (by omega)
    refine S ?_
    refine CondH.t2 cs (by omega) (fun cs=>S ?_)
    obtain⟨v18,hv18,h⟩:=rb_ h
    refine IdxH.mk (f:=(Derivation.pv false)) hv18 SC (S ?_)
    obtain⟨v22,hv22,h⟩:=rb_ h
    refine CallH.mk [false] (ih _ _ hv22) SC (S ?_)
    refine CondH.run cs h (fun cs h=>S ?_) (fun cs h=>S ?_)
    ·obtain⟨v29,hv29,h⟩:=rb_ h
     refine AppH.mk (f:=I) (fun _=>rfl) hv29 SC SC (S ?_)
     cases rs_ h
     exact FinH.l SC
    ·have h:=rs_ h
     refine RdH.mk ⟨_,h,?_⟩
     exact Slm_ SW
   ·refine S ?_
    refine CondH.f2 cs (by omega) (fun cs=>S ?_)
    cases rs_ h
    exact FinH.l SC
  ·cases rs_ h
   exact FinH.l SC
theorem ifW_3{a0:Derivation}{r:(List Int)×Bool}(h:ifW_1 a0=some r):Sat Tryz.prog 119 [((Derivation.pv false) a0)] (.tup [(.sl true 1 (r.1.map I)),(B r.2)]):=by
 obtain⟨n,hn⟩:=ls_ h
 exact(ifW_2 n) _ _ hn

theorem iFW_1{a0:Derivation}  {r:(List Int)×Bool×Bool}(h:iFW_ a0=some r):Sat Tryz.prog 81 [((Derivation.pv false) a0)] (.tup [(.sl true 1 (r.1.map I)),(B r.2.1),(B r.2.2)]):=by
 obtain⟨h,cs⟩:=Ro_ h
 unfold iFW_ at h
 refine Sat.of_m (nt:=17) (rs:=[.tmp 2,.tmp 3,.tmp 4]) (n:=100000) Tryz.func81 rfl rfl rfl rfl (by simp) (S ?_)
 obtain⟨v8,hv8,h⟩:=rb_ h
 refine CallH.mk [false] (irN_3 hv8) SC (S ?_)
 refine CondH.run cs h (fun cs h=>S ?_) (fun cs h=>S ?_)
 ·cases rs_ h
  exact FinH.l SC
 ·obtain⟨v12,hv12,h⟩:=rb_ h
  refine CallH.mk [false] (ifW_3 hv12) SC (S ?_)
  cases rs_ h
  exact FinH.l SC

theorem iIV_11{a0:Derivation}  {r:Bool}(h:iIV_3 a0=some r):Sat Tryz.prog 45 [((Derivation.pv false) a0)] (B r):=by
 obtain⟨h,cs⟩:=Ro_ h
 unfold iIV_3 at h
 refine Sat.of_m (nt:=17) (rs:=[.tmp 2]) (n:=100000) Tryz.func45 rfl rfl rfl rfl (by simp) (S ?_)
 obtain⟨v8,hv8,h⟩:=rb_ h
 refine CallH.mk [false] (iFW_1 hv8) SC (S ?_)
 refine CondH.run cs h (fun cs h=>S ?_) (fun cs h=>S ?_)
 ·cases rs_ h
  exact FinH.l SC
 ·cases rs_ h
  exact FinH.l SC

theorem inM_1{a0:Sequent}  {r:marks}(h:inM_ a0=some r):Sat Tryz.prog 55 [((Sequent.pv false) a0)] ((marks.pv true) r):=by
 obtain⟨h,cs⟩:=Ro_ h
 unfold inM_ at h
 refine Sat.of_m (nt:=12) (rs:=[.cell 2 93]) (n:=100000) Tryz.func55 rfl rfl rfl rfl (by simp) (S ?_)
 obtain⟨n6,hn6,h⟩:=rb_ h
 refine MknH.mk hn6 (S ?_)
 obtain⟨n10,hn10,h⟩:=rb_ h
 refine MknH.mk hn10 (S ?_)
 refine And.intro (DHa_ [] [96,160]) (S ?_)
 cases rs_ h
 exact FinH.l SC

theorem iDr_3{a0:Derivation}{a1:List Bool}{a2:Bool}  {r:List Bool}(h:iDr_ a0 a1 a2=some r):Sat Tryz.prog 89 [((Derivation.pv false) a0),(.sl false 1 (a1.map B)),(B a2)] (.sl true 1 (r.map B)):=by
 obtain⟨h,cs⟩:=Ro_ h
 unfold iDr_ at h
 refine Sat.of_m (nt:=29) (rs:=[.tmp 6]) (n:=100000) Tryz.func89 rfl rfl rfl rfl (by simp) (S ?_)
 refine Mg.know_sl (b:=false) (sz:=1) (es:=a1.map B) 1 SC fun hl1=>?_; rw[List.length_map] at hl1
 replace h:=rl_ h
 refine Mg.forN h (fun i3 s3=>[(2,.val (.pv (B a2))),(3,.box (.pv ((Derivation.pv false) a0))),(7,.val (.own 160)),(11,.val (.pv (.sl false 1 (a1.map B)))),(12,.val (.pv (I (a1.length:Int)))),(13,.val (.pv (I (i3:Int))))]) (fun i3 s3=>[(160,(1,s3.map B))]) (Slm_ SC) (fun i3 s3 hi h=>?_) (fun s3 h=>?_)
 ·have w:=ws_ (i:=i3) (by omega)
  refine S ?_
  refine CondH.t2 cs (by omega) (fun cs=>S ?_)
  obtain⟨v16,hv16,h⟩:=rb_ h
  refine IdxH.mk (f:=B) hv16 SC (S ?_)
  obtain⟨v21,hv21,h⟩:=rb_ h
  refine CallH.mk [false,false,false] (iDr_4 hv21) SC (S ?_)
  refine CondH.run cs h (fun cs h=>S ?_) (fun cs h=>S ?_)
  ·have h:=rs_ h
   refine RdH.mk ⟨_,h,?_⟩
   exact Slm_ SW
  ·obtain⟨v26,hv26,h⟩:=rb_ h
   refine AppH.mk (f:=B) (fun _=>rfl) hv26 SC SC (S ?_)
   have h:=rs_ h
   refine RdH.mk ⟨_,h,?_⟩
   refine St.le_trans (Slm_1 (S:=[(2,.val (.pv (B a2))),(3,.box (.pv ((Derivation.pv false) a0))),(7,.val (.own 416)),(11,.val (.pv (.sl false 1 (a1.map B)))),(12,.val (.pv (I (a1.length:Int)))),(13,.val (.pv (I (IntKind.i64.wrap ((i3:Int)+(1:Int))))))]) (O:=[(416,(1,v26.map B))]) SW SW) ?_
   refine Slr_ 416 160 (by decide) NM ?_
   exact Slm_ SW
 ·refine S ?_
  refine CondH.f2 cs (by omega) (fun cs=>S ?_)
  cases rs_ h
  exact FinH.l SC

theorem iDm_1{a0:Derivation}{a1:marks}  {r:Bool}(h:iDm_ a0 a1=some r):Sat Tryz.prog 90 [((Derivation.pv false) a0),((marks.pv false) a1)] (B r):=by
 obtain⟨h,cs⟩:=Ro_ h
 unfold iDm_ at h
 refine Sat.of_m (nt:=29) (rs:=[.tmp 4]) (n:=100000) Tryz.func90 rfl rfl rfl rfl (by simp) (S ?_)
 refine CondH.run cs h (fun cs h=>S ?_) (fun cs h=>S ?_)
 ·cases rs_ h
  exact FinH.l SC
 ·obtain⟨v13,hv13,h⟩:=rb_ h
  refine CallH.mk [false] (imO_1 hv13) SC (S ?_)
  refine CondH.run cs h (fun cs h=>S ?_) (fun cs h=>S ?_)
  ·obtain⟨v21,hv21,h⟩:=rb_ h
   refine IdxH.mk (f:=B) hv21 SC (S ?_)
   cases rs_ h
   exact FinH.l SC
  ·obtain⟨v27,hv27,h⟩:=rb_ h
   refine IdxH.mk (f:=B) hv27 SC (S ?_)
   cases rs_ h
   exact FinH.l SC

theorem iDp_1{a0:Derivation}{a1:marks}{a2:Int}  {r:marks}(h:iDp_ a0 a1 a2=some r):Sat Tryz.prog 57 [((Derivation.pv false) a0),((marks.pv false) a1),(I a2)] ((marks.pv true) r):=by
 obtain⟨h,cs⟩:=Ro_ h
 unfold iDp_ at h
 refine Sat.of_m (nt:=58) (rs:=[.cell 6 93]) (n:=100000) Tryz.func57 rfl rfl rfl rfl (by simp) (S ?_)
 obtain⟨v12,hv12,h⟩:=rb_ h
 refine CallH.mk [false,false,false] (iDr_3 hv12) SC (S ?_)
 obtain⟨v16,hv16,h⟩:=rb_ h
 refine CallH.mk [false,false,false] (iDr_3 hv16) SC (S ?_)
 refine And.intro (DHa_ [7] [192,256]) (S ?_)
 obtain⟨v20,hv20,h⟩:=rb_ h
 refine CallH.mk [false,false] (iDm_1 hv20) SC (S ?_)
 replace h:=rl_ h
 refine Mg.whileN h (fun s3=>[(2,.val (.pv (I a2))),(3,.box (.pv ((Derivation.pv false) a0))),(6,.box (.node [(.pv (.sl true 1 [])),(.pv (.sl true 1 []))])),(7,.box (.node [(.own 192),(.own 256)])),(8,.val (.pv (B v20)))]) (fun s3=>[(192,(1,s3.map B)),(256,(1,v16.map B))]) (Slm_ SC) (fun n3 s3 h=>?_)
 refine S ?_
 obtain⟨v27,hv27,h⟩:=rb_ h
 refine IdxH.mk (f:=(Derivation.pv false)) hv27 SC (S ?_)
 refine And.intro (DHa_ [] []) (S ?_)
 refine CondH.run cs h (fun cs h=>S ?_) (fun cs h=>S ?_)
 ·obtain⟨v37,hv37,h⟩:=rb_ h
  refine AppH.mk (f:=B) (fun _=>rfl) hv37 SC SC (S ?_)
  have h:=rs_ h
  refine RdH.mk ⟨_,h,?_⟩
  refine St.le_trans (Slm_1 (S:=[(2,.val (.pv (I a2))),(3,.box (.pv ((Derivation.pv false) a0))),(6,.box (.node [(.pv (.sl true 1 [])),(.pv (.sl true 1 []))])),(7,.box (.node [(.own 592),(.own 256)])),(8,.val (.pv (B v20)))]) (O:=[(592,(1,v37.map B)),(256,(1,v16.map B))]) SC SC) ?_
  refine Slr_ 592 192 (by decide) NM ?_
  exact Slm_ SC
 ·have h:=rs_ h
  replace h:=rl_ h
  refine Mg.whileN h (fun s5=>[(2,.val (.pv (I a2))),(3,.box (.pv ((Derivation.pv false) a0))),(6,.box (.node [(.pv (.sl true 1 [])),(.pv (.sl true 1 []))])),(7,.box (.node [(.own 192),(.own 256)])),(8,.val (.pv (B v20)))]) (fun s5=>[(192,(1,s3.map B)),(256,(1,s5.map B))]) (Slm_ SC) (fun n5 s5 h=>?_)
  refine S ?_
  obtain⟨v45,hv45,h⟩:=rb_ h
  refine IdxH.mk (f:=(Derivation.pv false)) hv45 SC (S ?_)
  refine And.intro (DHa_ [] []) (S ?_)
  refine CondH.run cs h (fun cs h=>S ?_) (fun cs h=>S ?_)
  ·obtain⟨v55,hv55,h⟩:=rb_ h
   refine AppH.mk (f:=B) (fun _=>rfl) hv55 SC SC (S ?_)
   have h:=rs_ h
   refine RdH.mk ⟨_,h,?_⟩
   refine St.le_trans (Slm_1 (S:=[(2,.val (.pv (I a2))),(3,.box (.pv ((Derivation.pv false) a0))),(6,.box (.node [(.pv (.sl true 1 [])),(.pv (.sl true 1 []))])),(7,.box (.node [(.own 192),(.own 880)])),(8,.val (.pv (B v20)))]) (O:=[(192,(1,s3.map B)),(880,(1,v55.map B))]) SC SC) ?_
   refine Slr_ 880 256 (by decide) NM ?_
   exact Slm_ SC
  ·have h:=rs_ h
   cases rs_ h
   exact FinH.l SC

theorem iCA_1{a0:Derivation}{a1:List Int}  {r:(List Bool)×(List Bool)×Bool}(h:iCA_ a0 a1=some r):Sat Tryz.prog 19 [((Derivation.pv false) a0),(.sl false 1 (a1.map I))] (.tup [(.sl true 1 (r.1.map B)),(.sl true 1 (r.2.1.map B)),(B r.2.2)]):=by
 obtain⟨h,cs⟩:=Ro_ h
 unfold iCA_ at h
 refine Sat.of_m (nt:=43) (rs:=[.tmp 4,.tmp 5,.tmp 6]) (n:=100000) Tryz.func19 rfl rfl rfl rfl (by simp) (S ?_)
 obtain⟨v11,hv11,h⟩:=rb_ h
 refine CallH.mk [false] (iIV_11 hv11) SC (S ?_)
 refine CondH.run cs h (fun cs h=>S ?_) (fun cs h=>S ?_)
 ·obtain⟨v15,hv15,h⟩:=rb_ h
  refine CallH.mk [false] (inM_1 hv15) SC (S ?_)
  refine Mg.know_sl (b:=false) (sz:=1) (es:=a1.map I) 1 SC fun hl1=>?_; rw[List.length_map] at hl1
  replace h:=rl_ h
  refine Mg.forN h (fun i5 s5=>[(2,.box (.pv ((Derivation.pv false) s5.1))),(7,.box (.node [(.own 240),(.own 241)])),(16,.val (.pv (.sl false 1 (a1.map I)))),(17,.val (.pv (I (a1.length:Int)))),(18,.val (.pv (I (i5:Int))))]) (fun i5 s5=>[(240,(1,s5.2.1.map B)),(241,(1,s5.2.2.map B))]) (Slm_ SC) (fun i5 s5 hi h=>?_) (fun s5 h=>?_)
  ·have w:=ws_ (i:=i5) (by omega)
   refine S ?_
   refine CondH.t2 cs (by omega) (fun cs=>S ?_)
   obtain⟨v20,hv20,h⟩:=rb_ h
   refine IdxH.mk (f:=I) hv20 SC (S ?_)
   obtain⟨v27,hv27,h⟩:=rb_ h
   refine CallH.mk [false,false,false] (iws_ hv27) SC (S ?_)
   refine CondH.run cs h (fun cs h=>S ?_) (fun cs h=>S ?_)
   ·obtain⟨v32,hv32,h⟩:=rb_ h
    refine CallH.mk [false,false,false] (iDp_1 hv32) SC (S ?_)
    obtain⟨v36,hv36,h⟩:=rb_ h
    refine IdxH.mk (f:=(Derivation.pv false)) hv36 SC (S ?_)
    have h:=rs_ h
    refine RdH.mk ⟨_,h,?_⟩
    refine St.le_trans (Slm_1 (S:=[(2,.box (.pv ((Derivation.pv false) v36))),(7,.box (.node [(.own 512),(.own 513)])),(16,.val (.pv (.sl false 1 (a1.map I)))),(17,.val (.pv (I (a1.length:Int)))),(18,.val (.pv (I (IntKind.i64.wrap ((i5:Int)+(1:Int))))))]) (O:=[(512,(1,v32.left.map B)),(513,(1,v32.right.map B))]) SW SW) ?_
    refine Slr_ 512 240 (by decide) NM ?_
    refine St.le_trans (Slm_1 (S:=[(2,.box (.pv ((Derivation.pv false) v36))),(7,.box (.node [(.own 240),(.own 513)])),(16,.val (.pv (.sl false 1 (a1.map I)))),(17,.val (.pv (I (a1.length:Int)))),(18,.val (.pv (I (IntKind.i64.wrap ((i5:Int)+(1:Int))))))]) (O:=[(240,(1,v32.left.map B)),(513,(1,v32.right.map B))]) SW SW) ?_
    refine Slr_ 513 241 (by decide) NM ?_
    exact Slm_ SW
   ·cases rs_ h
    exact FinH.l SC
  ·refine S ?_
   refine CondH.f2 cs (by omega) (fun cs=>S ?_)
   refine And.intro (DHa_ [] []) (S ?_)
   cases rs_ h
   exact FinH.l SC
 ·cases rs_ h
  exact FinH.l SC

theorem eBS_{a0:List Bool}{a1:List Bool}  {r:Bool}(h:eBS_1 a0 a1=some r):Sat Tryz.prog 20 [(.sl false 1 (a0.map B)),(.sl false 1 (a1.map B))] (B r):=by
 obtain⟨h,cs⟩:=Ro_ h
 unfold eBS_1 at h
 refine Sat.of_m (nt:=26) (rs:=[.tmp 4]) (n:=100000) Tryz.func20 rfl rfl rfl rfl (by simp) (S ?_)
 refine CondH.run cs h (fun cs h=>S ?_) (fun cs h=>S ?_)
 ·refine Mg.know_sl (b:=false) (sz:=1) (es:=a0.map B) 0 SC fun hl0=>?_; rw[List.length_map] at hl0
  replace h:=rl_ h
  refine Mg.forN h (fun i4 s4=>[(0,.val (.pv (.sl false 1 (a0.map B)))),(1,.val (.pv (.sl false 1 (a1.map B)))),(5,.val (.pv (I (i4:Int))))]) (fun i4 s4=>[]) (Slm_ SC) (fun i4 s4 hi h=>?_) (fun s4 h=>?_)
  ·have w:=ws_ (i:=i4) (by omega)
   refine S ?_
   refine CondH.t2 cs (by omega) (fun cs=>S ?_)
   obtain⟨v19,hv19,h⟩:=rb_ h
   refine IdxH.mk (f:=B) hv19 SC (S ?_)
   obtain⟨v23,hv23,h⟩:=rb_ h
   refine IdxH.mk (f:=B) hv23 SC (S ?_)
   refine And.intro (DHa_ [] []) (S ?_)
   refine CondH.run cs h (fun cs h=>S ?_) (fun cs h=>S ?_)
   ·have h:=rs_ h
    refine RdH.mk ⟨_,h,?_⟩
    exact Slm_ SW
   ·cases rs_ h
    exact FinH.l SC
  ·refine S ?_
   refine CondH.f2 cs (by omega) (fun cs=>S ?_)
   cases rs_ h
   exact FinH.l SC
 ·cases rs_ h
  exact FinH.l SC

theorem eTN_1(n:Nat):(∀ (a0:Term) (a1:Term) (r:Bool),eTN_ n a0 a1=some r→Sat Tryz.prog 48 [((Term.pv false) a0),((Term.pv false) a1)] (B r))∧(∀ (a0:List Term) (a1:List Term) (r:Bool),eTS_ n a0 a1=some r→Sat Tryz.prog 83 [(.sl false 2 (a0.map (Term.pv false))),(.sl false 2 (a1.map (Term.pv false)))] (B r)):=by
 induction n with
 | zero=>exact⟨fun _ _ _ h=>by simp[eTN_] at h,fun _ _ _ h=>by simp[eTS_] at h⟩
 | succ n ih=>
  refine⟨fun a0 a1 r h=>?_,fun a0 a1 r h=>?_⟩
  ·obtain⟨h,cs⟩:=Ro_ h
   rw[eTN_] at h
   refine Sat.of_m (nt:=16) (rs:=[.tmp 4]) (n:=100000) Tryz.func48 rfl rfl rfl rfl (by simp) (S ?_)
   refine CondH.run cs h (fun cs h=>S ?_) (fun cs h=>S ?_)
   ·obtain⟨v14,hv14,h⟩:=rb_ h
    refine CallH.mk [false,false] (ih.2 _ _ _ hv14) SC (S ?_)
    refine CondH.run cs h (fun cs h=>S ?_) (fun cs h=>S ?_)
    ·cases rs_ h
     exact FinH.l SC
    ·cases rs_ h
     exact FinH.l SC
   ·cases rs_ h
    exact FinH.l SC
  ·obtain⟨h,cs⟩:=Ro_ h
   rw[eTS_] at h
   refine Sat.of_m (nt:=27) (rs:=[.tmp 4]) (n:=100000) Tryz.func83 rfl rfl rfl rfl (by simp) (S ?_)
   refine CondH.run cs h (fun cs h=>S ?_) (fun cs h=>S ?_)
   ·refine Mg.know_sl (b:=false) (sz:=2) (es:=a0.map (Term.pv false)) 0 SC fun hl0=>?_; rw[List.length_map] at hl0
    replace h:=rl_ h
    refine Mg.forN h (fun i4 s4=>[(0,.val (.pv (.sl false 2 (a0.map (Term.pv false))))),(1,.val (.pv (.sl false 2 (a1.map (Term.pv false))))),(5,.val (.pv (I (i4:Int))))]) (fun i4 s4=>[]) (Slm_ SC) (fun i4 s4 hi h=>?_) (fun s4 h=>?_)
    ·have w:=ws_ (i:=i4) (by omega)
     refine S ?_
     refine CondH.t2 cs (by omega) (fun cs=>S ?_)
     obtain⟨v19,hv19,h⟩:=rb_ h
     refine IdxH.mk (f:=(Term.pv false)) hv19 SC (S ?_)
     obtain⟨v23,hv23,h⟩:=rb_ h
     refine IdxH.mk (f:=(Term.pv false)) hv23 SC (S ?_)
     obtain⟨v25,hv25,h⟩:=rb_ h
     refine CallH.mk [false,false] (ih.1 _ _ _ hv25) SC (S ?_)
     refine And.intro (DHa_ [] []) (S ?_)
     refine CondH.run cs h (fun cs h=>S ?_) (fun cs h=>S ?_)
     ·have h:=rs_ h
      refine RdH.mk ⟨_,h,?_⟩
      exact Slm_ SW
     ·cases rs_ h
      exact FinH.l SC
    ·refine S ?_
     refine CondH.f2 cs (by omega) (fun cs=>S ?_)
     cases rs_ h
     exact FinH.l SC
   ·cases rs_ h
    exact FinH.l SC
theorem eTs_{a0:Term}{a1:Term}{r:Bool}(h:eqTerm a0 a1=some r):Sat Tryz.prog 48 [((Term.pv false) a0),((Term.pv false) a1)] (B r):=by
 obtain⟨n,hn⟩:=ls_ h
 exact(eTN_1 n).1 _ _ _ hn
theorem eTS_1{a0:List Term}{a1:List Term}{r:Bool}(h:eTS_2 a0 a1=some r):Sat Tryz.prog 83 [(.sl false 2 (a0.map (Term.pv false))),(.sl false 2 (a1.map (Term.pv false)))] (B r):=by
 obtain⟨n,hn⟩:=ls_ h
 exact(eTN_1 n).2 _ _ _ hn

theorem eFN_2(n:Nat):(∀ (a0:Formula) (a1:Formula) (r:Bool),eFN_ n a0 a1=some r→Sat Tryz.prog 32 [((Formula.pv false) a0),((Formula.pv false) a1)] (B r))∧(∀ (a0:List Formula) (a1:List Formula) (r:Bool),eFS_ n a0 a1=some r→Sat Tryz.prog 67 [(.sl false 5 (a0.map (Formula.pv false))),(.sl false 5 (a1.map (Formula.pv false)))] (B r)):=by
 induction n with
 | zero=>exact⟨fun _ _ _ h=>by simp[eFN_] at h,fun _ _ _ h=>by simp[eFS_] at h⟩
 | succ n ih=>
  refine⟨fun a0 a1 r h=>?_,fun a0 a1 r h=>?_⟩
  ·obtain⟨h,cs⟩:=Ro_ h
   rw[eFN_] at h
   refine Sat.of_m (nt:=27) (rs:=[.tmp 4]) (n:=100000) Tryz.func32 rfl rfl rfl rfl (by simp) (S ?_)
   refine CondH.run cs h (fun cs h=>S ?_) (fun cs h=>S ?_)
   ·obtain⟨v14,hv14,h⟩:=rb_ h
    refine CallH.mk [false,false] (eTs_ hv14) SC (S ?_)
    refine CondH.run cs h (fun cs h=>S ?_) (fun cs h=>S ?_)
    ·refine CondH.run cs h (fun cs h=>S ?_) (fun cs h=>S ?_)
     ·obtain⟨v25,hv25,h⟩:=rb_ h
      refine CallH.mk [false,false] (ih.2 _ _ _ hv25) SC (S ?_)
      refine CondH.run cs h (fun cs h=>S ?_) (fun cs h=>S ?_)
      ·cases rs_ h
       exact FinH.l SC
      ·cases rs_ h
       exact FinH.l SC
     ·cases rs_ h
      exact FinH.l SC
    ·cases rs_ h
     exact FinH.l SC
   ·cases rs_ h
    exact FinH.l SC
  ·obtain⟨h,cs⟩:=Ro_ h
   rw[eFS_] at h
   refine Sat.of_m (nt:=27) (rs:=[.tmp 4]) (n:=100000) Tryz.func67 rfl rfl rfl rfl (by simp) (S ?_)
   refine CondH.run cs h (fun cs h=>S ?_) (fun cs h=>S ?_)
   ·refine Mg.know_sl (b:=false) (sz:=5) (es:=a0.map (Formula.pv false)) 0 SC fun hl0=>?_; rw[List.length_map] at hl0
    replace h:=rl_ h
    refine Mg.forN h (fun i4 s4=>[(0,.val (.pv (.sl false 5 (a0.map (Formula.pv false))))),(1,.val (.pv (.sl false 5 (a1.map (Formula.pv false))))),(5,.val (.pv (I (i4:Int))))]) (fun i4 s4=>[]) (Slm_ SC) (fun i4 s4 hi h=>?_) (fun s4 h=>?_)
    ·have w:=ws_ (i:=i4) (by omega)
     refine S ?_
     refine CondH.t2 cs (by omega) (fun cs=>S ?_)
     obtain⟨v19,hv19,h⟩:=rb_ h
     refine IdxH.mk (f:=(Formula.pv false)) hv19 SC (S ?_)
     obtain⟨v23,hv23,h⟩:=rb_ h
     refine IdxH.mk (f:=(Formula.pv false)) hv23 SC (S ?_)
     obtain⟨v25,hv25,h⟩:=rb_ h
     refine CallH.mk [false,false] (ih.1 _ _ _ hv25) SC (S ?_)
     refine And.intro (DHa_ [] []) (S ?_)
     refine CondH.run cs h (fun cs h=>S ?_) (fun cs h=>S ?_)
     ·have h:=rs_ h
      refine RdH.mk ⟨_,h,?_⟩
      exact Slm_ SW
     ·cases rs_ h
      exact FinH.l SC
    ·refine S ?_
     refine CondH.f2 cs (by omega) (fun cs=>S ?_)
     cases rs_ h
     exact FinH.l SC
   ·cases rs_ h
    exact FinH.l SC
theorem eFs_{a0:Formula}{a1:Formula}{r:Bool}(h:eF_ a0 a1=some r):Sat Tryz.prog 32 [((Formula.pv false) a0),((Formula.pv false) a1)] (B r):=by
 obtain⟨n,hn⟩:=ls_ h
 exact(eFN_2 n).1 _ _ _ hn
theorem eFS_3{a0:List Formula}{a1:List Formula}{r:Bool}(h:eFS_2 a0 a1=some r):Sat Tryz.prog 67 [(.sl false 5 (a0.map (Formula.pv false))),(.sl false 5 (a1.map (Formula.pv false)))] (B r):=by
 obtain⟨n,hn⟩:=ls_ h
 exact(eFN_2 n).2 _ _ _ hn

theorem eSs_{a0:Sequent}{a1:Sequent}  {r:Bool}(h:eS_ a0 a1=some r):Sat Tryz.prog 47 [((Sequent.pv false) a0),((Sequent.pv false) a1)] (B r):=by
 obtain⟨h,cs⟩:=Ro_ h
 unfold eS_ at h
 refine Sat.of_m (nt:=17) (rs:=[.tmp 4]) (n:=100000) Tryz.func47 rfl rfl rfl rfl (by simp) (S ?_)
 obtain⟨v9,hv9,h⟩:=rb_ h
 refine CallH.mk [false,false] (eFS_3 hv9) SC (S ?_)
 refine CondH.run cs h (fun cs h=>S ?_) (fun cs h=>S ?_)
 ·obtain⟨v15,hv15,h⟩:=rb_ h
  refine CallH.mk [false,false] (eFS_3 hv15) SC (S ?_)
  refine CondH.run cs h (fun cs h=>S ?_) (fun cs h=>S ?_)
  ·cases rs_ h
   exact FinH.l SC
  ·cases rs_ h
   exact FinH.l SC
 ·cases rs_ h
  exact FinH.l SC

theorem eDN_1(n:Nat):(∀ (a0:Derivation) (a1:Derivation) (r:Bool),eDN_ n a0 a1=some r→Sat Tryz.prog 13 [((Derivation.pv false) a0),((Derivation.pv false) a1)] (B r))∧(∀ (a0:List Derivation) (a1:List Derivation) (r:Bool),eDS_ n a0 a1=some r→Sat Tryz.prog 49 [(.sl false 12 (a0.map (Derivation.pv false))),(.sl false 12 (a1.map (Derivation.pv false)))] (B r)):=by
 induction n with
 | zero=>exact⟨fun _ _ _ h=>by simp[eDN_] at h,fun _ _ _ h=>by simp[eDS_] at h⟩
 | succ n ih=>
  refine⟨fun a0 a1 r h=>?_,fun a0 a1 r h=>?_⟩
  ·obtain⟨h,cs⟩:=Ro_ h
   rw[eDN_] at h
   refine Sat.of_m (nt:=39) (rs:=[.tmp 4]) (n:=100000) Tryz.func13 rfl rfl rfl rfl (by simp) (S ?_)
   refine CondH.run cs h (fun cs h=>S ?_) (fun cs h=>S ?_)
   ·obtain⟨v14,hv14,h⟩:=rb_ h
    refine CallH.mk [false,false] (eSs_ hv14) SC (S ?_)
    refine CondH.run cs h (fun cs h=>S ?_) (fun cs h=>S ?_)
    ·refine CondH.run cs h (fun cs h=>S ?_) (fun cs h=>S ?_)
     ·obtain⟨v25,hv25,h⟩:=rb_ h
      refine CallH.mk [false,false] (eTs_ hv25) SC (S ?_)
      refine CondH.run cs h (fun cs h=>S ?_) (fun cs h=>S ?_)
      ·obtain⟨v31,hv31,h⟩:=rb_ h
       refine CallH.mk [false,false] (eFs_ hv31) SC (S ?_)
       refine CondH.run cs h (fun cs h=>S ?_) (fun cs h=>S ?_)
       ·obtain⟨v37,hv37,h⟩:=rb_ h
        refine CallH.mk [false,false] (ih.2 _ _ _ hv37) SC (S ?_)
        refine CondH.run cs h (fun cs h=>S ?_) (fun cs h=>S ?_)
        ·cases rs_ h
         exact FinH.l SC
        ·cases rs_ h
         exact FinH.l SC
       ·cases rs_ h
        exact FinH.l SC
      ·cases rs_ h
       exact FinH.l SC
     ·cases rs_ h
      exact FinH.l SC
    ·cases rs_ h
     exact FinH.l SC
   ·cases rs_ h
    exact FinH.l SC
  ·obtain⟨h,cs⟩:=Ro_ h
   rw[eDS_] at h
   refine Sat.of_m (nt:=27) (rs:=[.tmp 4]) (n:=100000) Tryz.func49 rfl rfl rfl rfl (by simp) (S ?_)
   refine CondH.run cs h (fun cs h=>S ?_) (fun cs h=>S ?_)
   ·refine Mg.know_sl (b:=false) (sz:=12) (es:=a0.map (Derivation.pv false)) 0 SC fun hl0=>?_; rw[List.length_map] at hl0
    replace h:=rl_ h
    refine Mg.forN h (fun i4 s4=>[(0,.val (.pv (.sl false 12 (a0.map (Derivation.pv false))))),(1,.val (.pv (.sl false 12 (a1.map (Derivation.pv false))))),(5,.val (.pv (I (i4:Int))))]) (fun i4 s4=>[]) (Slm_ SC) (fun i4 s4 hi h=>?_) (fun s4 h=>?_)
    ·have w:=ws_ (i:=i4) (by omega)
     refine S ?_
     refine CondH.t2 cs (by omega) (fun cs=>S ?_)
     obtain⟨v19,hv19,h⟩:=rb_ h
     refine IdxH.mk (f:=(Derivation.pv false)) hv19 SC (S ?_)
     obtain⟨v23,hv23,h⟩:=rb_ h
     refine IdxH.mk (f:=(Derivation.pv false)) hv23 SC (S ?_)
     obtain⟨v25,hv25,h⟩:=rb_ h
     refine CallH.mk [false,false] (ih.1 _ _ _ hv25) SC (S ?_)
     refine And.intro (DHa_ [] []) (S ?_)
     refine CondH.run cs h (fun cs h=>S ?_) (fun cs h=>S ?_)
     ·have h:=rs_ h
      refine RdH.mk ⟨_,h,?_⟩
      exact Slm_ SW
     ·cases rs_ h
      exact FinH.l SC
    ·refine S ?_
     refine CondH.f2 cs (by omega) (fun cs=>S ?_)
     cases rs_ h
     exact FinH.l SC
   ·cases rs_ h
    exact FinH.l SC
theorem eDs_{a0:Derivation}{a1:Derivation}{r:Bool}(h:eD_ a0 a1=some r):Sat Tryz.prog 13 [((Derivation.pv false) a0),((Derivation.pv false) a1)] (B r):=by
 obtain⟨n,hn⟩:=ls_ h
 exact(eDN_1 n).1 _ _ _ hn
theorem eDS_2{a0:List Derivation}{a1:List Derivation}{r:Bool}(h:eDS_1 a0 a1=some r):Sat Tryz.prog 49 [(.sl false 12 (a0.map (Derivation.pv false))),(.sl false 12 (a1.map (Derivation.pv false)))] (B r):=by
 obtain⟨n,hn⟩:=ls_ h
 exact(eDN_1 n).2 _ _ _ hn

theorem eIS_1{a0:List Int}{a1:List Int}  {r:Bool}(h:eqIntS a0 a1=some r):Sat Tryz.prog 12 [(.sl false 1 (a0.map I)),(.sl false 1 (a1.map I))] (B r):=by
 obtain⟨h,cs⟩:=Ro_ h
 unfold eqIntS at h
 refine Sat.of_m (nt:=26) (rs:=[.tmp 4]) (n:=100000) Tryz.func12 rfl rfl rfl rfl (by simp) (S ?_)
 refine CondH.run cs h (fun cs h=>S ?_) (fun cs h=>S ?_)
 ·refine Mg.know_sl (b:=false) (sz:=1) (es:=a0.map I) 0 SC fun hl0=>?_; rw[List.length_map] at hl0
  replace h:=rl_ h
  refine Mg.forN h (fun i4 s4=>[(0,.val (.pv (.sl false 1 (a0.map I)))),(1,.val (.pv (.sl false 1 (a1.map I)))),(5,.val (.pv (I (i4:Int))))]) (fun i4 s4=>[]) (Slm_ SC) (fun i4 s4 hi h=>?_) (fun s4 h=>?_)
  ·have w:=ws_ (i:=i4) (by omega)
   refine S ?_
   refine CondH.t2 cs (by omega) (fun cs=>S ?_)
   obtain⟨v19,hv19,h⟩:=rb_ h
   refine IdxH.mk (f:=I) hv19 SC (S ?_)
   obtain⟨v23,hv23,h⟩:=rb_ h
   refine IdxH.mk (f:=I) hv23 SC (S ?_)
   refine And.intro (DHa_ [] []) (S ?_)
   refine CondH.run cs h (fun cs h=>S ?_) (fun cs h=>S ?_)
   ·have h:=rs_ h
    refine RdH.mk ⟨_,h,?_⟩
    exact Slm_ SW
   ·cases rs_ h
    exact FinH.l SC
  ·refine S ?_
   refine CondH.f2 cs (by omega) (fun cs=>S ?_)
   cases rs_ h
   exact FinH.l SC
 ·cases rs_ h
  exact FinH.l SC

theorem mTs_{a0:Int}  {r:ByteArray}(h:mT_ a0=some r):Sat Tryz.prog 85 [(I a0)] (Sx r):=by
 obtain⟨h,cs⟩:=Ro_ h
 unfold mT_ at h
 refine Sat.of_m (nt:=20) (rs:=[.tmp 2]) (n:=100000) Tryz.func85 rfl rfl rfl rfl (by simp) (S ?_)
 refine CondH.run cs h (fun cs h=>S ?_) (fun cs h=>S ?_)
 ·cases rs_ h
  exact FinH.l SC
 ·replace h:=rl_ h
  refine Mg.whileN h (fun s4=>[(0,.val (.pv (I s4.1))),(3,.val (.pv (Sx s4.2)))]) (fun s4=>[]) (Slm_ SC) (fun n4 s4 h=>?_)
  refine S ?_
  refine CondH.run cs h (fun cs h=>S ?_) (fun cs h=>S ?_)
  ·obtain⟨v9,hv9,h⟩:=rb_ h
   refine remH.mk hv9 (S ?_)
   obtain⟨v13,hv13,h⟩:=rb_ h
   refine BstrH.mk hv13 SC (S ?_)
   obtain⟨v15,hv15,h⟩:=rb_ h
   refine SappH.mk hv15 (S ?_)
   obtain⟨v17,hv17,h⟩:=rb_ h
   refine quoH.mk hv17 (S ?_)
   have h:=rs_ h
   refine RdH.mk ⟨_,h,?_⟩
   exact Slm_ SC
  ·have h:=rs_ h
   obtain⟨v19,hv19,h⟩:=rb_ h
   refine SappH.mk hv19 (S ?_)
   cases rs_ h
   exact FinH.l SC

theorem mTS_5(n:Nat):(∀ (a0:List Term) (a1:Int) (r:Int×(List Term)),mTS_ n a0 a1=some r→SatIO Tryz.prog 84 [(.sl true 2 (a0.map (Term.pv true))),(I a1)] [(.sl true 2 (r.2.map (Term.pv true))),(I a1)] (I r.1)):=by
 induction n with
 | zero=>exact fun _ _ _ h=>by simp[mTS_] at h
 | succ n ih=>
  refine fun a0 a1 r h=>?_
  obtain⟨h,cs⟩:=Ro_ h
  rw[mTS_] at h
  refine SIo_ (nt:=28) (rs:=[.tmp 4]) (n:=100000) Tryz.func84 rfl rfl rfl rfl (by simp) (S ?_)
  refine VSeq.step (S ?_)
  refine VSeq.nil (Nat.le_of_eq rfl) (S ?_)
  refine VSeq.step (S ?_)
  refine VSeq.nil (Nat.le_of_eq rfl) (S ?_)
  replace h:=rl_ h
  refine MgI.whileN h (fun s2=>[(0,.val (.own 10000)),(1,.val (.pv (I s2.2.1))),(5,.val (.pv (I s2.2.2)))]) (fun s2=>[(10000,(2,s2.1.map (Term.pv true)))]) (Slm_ SC) (fun n2 s2 h=>?_)
  refine S ?_
  refine VSeq.step (S ?_)
  refine VSeq.step (S ?_)
  refine VSeq.step (S ?_)
  refine VSeq.step (S ?_)
  refine VSeq.nil (Nat.le_of_eq rfl) (S ?_)
  refine CondH.run cs h (fun cs h=>S ?_) (fun cs h=>S ?_)
  ·refine VSeq.step (S ?_)
   refine VSeq.step (S ?_)
   refine VSeq.step (S ?_)
   refine VSeq.step (S ?_)
   obtain⟨v15,hv15,h⟩:=rb_ h
   refine CallH.mk [false] (mTs_ hv15) SC (S ?_)
   refine VSeq.step (S ?_)
   obtain⟨v16,hv16,h⟩:=rb_ h
   refine IdxH.mk (f:=(Term.pv true)) hv16 SC (S ?_)
   refine VSeq.step (S ?_)
   refine VSeq.step (S ?_)
   obtain⟨w2,hw2,h⟩:=rb_ h
   refine EldH.mk (f:=(Term.pv true)) hw2 rfl SC (S ?_)
   refine VSeq.nil (Nat.le_of_eq rfl) (S ?_)
   refine VSeq.step (S ?_)
   refine VSeq.step (S ?_)
   refine VSeq.step (S ?_)
   refine VSeq.nil (Nat.le_of_eq rfl) (S ?_)
   refine VSeq.step (S ?_)
   refine VSeq.step (S ?_)
   refine VSeq.step (S ?_)
   obtain⟨v22,hv22,h⟩:=rb_ h
   refine IdxH.mk (f:=(Term.pv true)) hv22 SC (S ?_)
   refine VSeq.step (S ?_)
   obtain⟨w3,hw3,h⟩:=rb_ h
   obtain⟨v26,hv26,h⟩:=rb_ h
   refine Vei_ (fx:=(Term.pv true)) (c:=10000) (sz:=2) (p:=[1]) (off:=1) (h1:=rfl) (h3:=rfl) (h2:=rfl) rfl rfl rfl rfl rfl rfl rfl rfl rfl hw3 (ih _ _ _ hv26) SC SC (S ?_)
   refine VSeq.step (S ?_)
   refine VSeq.nil (Nat.le_of_eq rfl) (S ?_)
   refine VSeq.step (S ?_)
   refine VSeq.step (S ?_)
   refine VSeq.step (S ?_)
   refine VSeq.nil (Nat.le_of_eq rfl) (S ?_)
   have h:=rs_ h
   refine RdH.mk ⟨_,h,?_⟩
   exact Slm_ SC
  ·have h:=rs_ h
   refine VSeq.step (S ?_)
   refine VSeq.step (S ?_)
   refine VSeq.nil (Nat.le_of_eq rfl) (S ?_)
   cases rs_ h
   exact FinIO.mk SC
theorem mTS_2{a0:List Term}{a1:Int}{r:Int×(List Term)}(h:mTS_3 a0 a1=some r):SatIO Tryz.prog 84 [(.sl true 2 (a0.map (Term.pv true))),(I a1)] [(.sl true 2 (r.2.map (Term.pv true))),(I a1)] (I r.1):=by
 obtain⟨n,hn⟩:=ls_ h
 exact(mTS_5 n) _ _ _ hn

theorem mFS_5(n:Nat):(∀ (a0:List Formula) (a1:Int) (r:Int×(List Formula)),mFS_1 n a0 a1=some r→SatIO Tryz.prog 61 [(.sl true 5 (a0.map (Formula.pv true))),(I a1)] [(.sl true 5 (r.2.map (Formula.pv true))),(I a1)] (I r.1)):=by
 induction n with
 | zero=>exact fun _ _ _ h=>by simp[mFS_1] at h
 | succ n ih=>
  refine fun a0 a1 r h=>?_
  obtain⟨h,cs⟩:=Ro_ h
  rw[mFS_1] at h
  refine SIo_ (nt:=52) (rs:=[.tmp 4]) (n:=100000) Tryz.func61 rfl rfl rfl rfl (by simp) (S ?_)
  refine VSeq.step (S ?_)
  refine VSeq.nil (Nat.le_of_eq rfl) (S ?_)
  refine VSeq.step (S ?_)
  refine VSeq.nil (Nat.le_of_eq rfl) (S ?_)
  replace h:=rl_ h
  refine MgI.whileN h (fun s2=>[(0,.val (.own 10000)),(1,.val (.pv (I s2.2.1))),(5,.val (.pv (I s2.2.2)))]) (fun s2=>[(10000,(5,s2.1.map (Formula.pv true)))]) (Slm_ SC) (fun n2 s2 h=>?_)
  refine S ?_
  refine VSeq.step (S ?_)
  refine VSeq.step (S ?_)
  refine VSeq.step (S ?_)
  refine VSeq.step (S ?_)
  refine VSeq.nil (Nat.le_of_eq rfl) (S ?_)
  refine CondH.run cs h (fun cs h=>S ?_) (fun cs h=>S ?_)
  ·refine VSeq.step (S ?_)
   refine VSeq.step (S ?_)
   refine VSeq.step (S ?_)
   refine VSeq.step (S ?_)
   obtain⟨v15,hv15,h⟩:=rb_ h
   refine IdxH.mk (f:=(Formula.pv true)) hv15 SC (S ?_)
   refine VSeq.step (S ?_)
   refine VSeq.step (S ?_)
   obtain⟨w2,hw2,h⟩:=rb_ h
   refine EldH.mk (f:=(Formula.pv true)) hw2 rfl SC (S ?_)
   refine VSeq.nil (Nat.le_of_eq rfl) (S ?_)
   refine VSeq.step (S ?_)
   refine VSeq.step (S ?_)
   refine VSeq.step (S ?_)
   refine VSeq.nil (Nat.le_of_eq rfl) (S ?_)
   refine VSeq.step (S ?_)
   refine VSeq.step (S ?_)
   refine VSeq.step (S ?_)
   refine VSeq.step (S ?_)
   obtain⟨v22,hv22,h⟩:=rb_ h
   refine CallH.mk [false] (mTs_ hv22) SC (S ?_)
   refine VSeq.step (S ?_)
   obtain⟨v23,hv23,h⟩:=rb_ h
   refine IdxH.mk (f:=(Formula.pv true)) hv23 SC (S ?_)
   refine VSeq.step (S ?_)
   refine VSeq.step (S ?_)
   refine VSeq.step (S ?_)
   obtain⟨w3,hw3,h⟩:=rb_ h
   refine EldH.mk (f:=(Formula.pv true)) hw3 rfl SC (S ?_)
   refine VSeq.nil (Nat.le_of_eq rfl) (S ?_)
   refine VSeq.step (S ?_)
   refine VSeq.step (S ?_)
   refine VSeq.step (S ?_)
   refine VSeq.nil (Nat.le_of_eq rfl) (S ?_)
   refine VSeq.step (S ?_)
   refine VSeq.step (S ?_)
   refine VSeq.step (S ?_)
   obtain⟨v30,hv30,h⟩:=rb_ h
   refine IdxH.mk (f:=(Formula.pv true)) hv30 SC (S ?_)
   refine VSeq.step (S ?_)
   refine VSeq.step (S ?_)
   obtain⟨w4,hw4,h⟩:=rb_ h
   obtain⟨v35,hv35,h⟩:=rb_ h
   refine Vei_ (fx:=(Formula.pv true)) (c:=10000) (sz:=5) (p:=[1,1]) (off:=2) (h1:=rfl) (h3:=rfl) (h2:=rfl) rfl rfl rfl rfl rfl rfl rfl rfl rfl hw4 (mTS_2 hv35) SC SC (S ?_)
   refine VSeq.step (S ?_)
   refine VSeq.nil (Nat.le_of_eq rfl) (S ?_)
   refine VSeq.step (S ?_)
   refine VSeq.step (S ?_)
   refine VSeq.step (S ?_)
   refine VSeq.step (S ?_)
   obtain⟨v39,hv39,h⟩:=rb_ h
   refine CallH.mk [false] (mTs_ hv39) SC (S ?_)
   refine VSeq.step (S ?_)
   obtain⟨v40,hv40,h⟩:=rb_ h
   refine IdxH.mk (f:=(Formula.pv true)) hv40 SC (S ?_)
   refine VSeq.step (S ?_)
   refine VSeq.step (S ?_)
   obtain⟨w5,hw5,h⟩:=rb_ h
   refine EldH.mk (f:=(Formula.pv true)) hw5 rfl SC (S ?_)
   refine VSeq.nil (Nat.le_of_eq rfl) (S ?_)
   refine VSeq.step (S ?_)
   refine VSeq.step (S ?_)
   refine VSeq.step (S ?_)
   refine VSeq.nil (Nat.le_of_eq rfl) (S ?_)
   refine VSeq.step (S ?_)
   refine VSeq.step (S ?_)
   refine VSeq.step (S ?_)
   obtain⟨v46,hv46,h⟩:=rb_ h
   refine IdxH.mk (f:=(Formula.pv true)) hv46 SC (S ?_)
   refine VSeq.step (S ?_)
   obtain⟨w6,hw6,h⟩:=rb_ h
   obtain⟨v50,hv50,h⟩:=rb_ h
   refine Vei_ (fx:=(Formula.pv true)) (c:=10000) (sz:=5) (p:=[3]) (off:=4) (h1:=rfl) (h3:=rfl) (h2:=rfl) rfl rfl rfl rfl rfl rfl rfl rfl rfl hw6 (ih _ _ _ hv50) SC SC (S ?_)
   refine VSeq.step (S ?_)
   refine VSeq.nil (Nat.le_of_eq rfl) (S ?_)
   refine VSeq.step (S ?_)
   refine VSeq.step (S ?_)
   refine VSeq.step (S ?_)
   refine VSeq.nil (Nat.le_of_eq rfl) (S ?_)
   have h:=rs_ h
   refine RdH.mk ⟨_,h,?_⟩
   exact Slm_ SC
  ·have h:=rs_ h
   refine VSeq.step (S ?_)
   refine VSeq.step (S ?_)
   refine VSeq.nil (Nat.le_of_eq rfl) (S ?_)
   cases rs_ h
   exact FinIO.mk SC
theorem mFS_2{a0:List Formula}{a1:Int}{r:Int×(List Formula)}(h:mFS_3 a0 a1=some r):SatIO Tryz.prog 61 [(.sl true 5 (a0.map (Formula.pv true))),(I a1)] [(.sl true 5 (r.2.map (Formula.pv true))),(I a1)] (I r.1):=by
 obtain⟨n,hn⟩:=ls_ h
 exact(mFS_5 n) _ _ _ hn

theorem mSs_{a0:Sequent}{a1:Int}  {r:Int×(List Formula)×(List Formula)}(h:mS_ a0 a1=some r):SatIO Tryz.prog 50 [((Sequent.pv true) a0),(I a1)] [((Sequent.pv true) (Sequent.mk r.2.1 r.2.2)),(I a1)] (I r.1):=by
 obtain⟨h,cs⟩:=Ro_ h
 unfold mS_ at h
 refine SatIO.of_m (nt:=14) (rs:=[.tmp 4]) (n:=100000) Tryz.func50 rfl rfl rfl rfl (by simp) (S ?_)
 obtain⟨v8,hv8,h⟩:=rb_ h
 refine CHi_ [(.own 10000),(.pv (I a1))] [(10000,(5,v8.2.map (Formula.pv true)))] (mFS_2 hv8) SC (S ?_)
 obtain⟨v12,hv12,h⟩:=rb_ h
 refine CHi_ [(.own 10001),(.pv (I v8.1))] [(10001,(5,v12.2.map (Formula.pv true)))] (mFS_2 hv12) SC (S ?_)
 cases rs_ h
 exact FinIO.mk SC

theorem mTs_1{a0:Term}{a1:Int}  {r:Int×(List Term)}(h:mT_1 a0 a1=some r):SatIO Tryz.prog 51 [((Term.pv true) a0),(I a1)] [((Term.pv true) (Term.mk a0.Name r.2)),(I a1)] (I r.1):=by
 obtain⟨h,cs⟩:=Ro_ h
 unfold mT_1 at h
 refine SatIO.of_m (nt:=10) (rs:=[.tmp 4]) (n:=100000) Tryz.func51 rfl rfl rfl rfl (by simp) (S ?_)
 obtain⟨v8,hv8,h⟩:=rb_ h
 refine CHi_ [(.own 10000),(.pv (I a1))] [(10000,(2,v8.2.map (Term.pv true)))] (mTS_2 hv8) SC (S ?_)
 cases rs_ h
 exact FinIO.mk SC

theorem mFs_{a0:Formula}{a1:Int}  {r:Int×(List Term)×(List Formula)}(h:mF_ a0 a1=some r):SatIO Tryz.prog 33 [((Formula.pv true) a0),(I a1)] [((Formula.pv true) (Formula.mk a0.Op (Term.mk a0.Atom.Name r.2.1) a0.Var r.2.2)),(I a1)] (I r.1):=by
 obtain⟨h,cs⟩:=Ro_ h
 unfold mF_ at h
 refine SatIO.of_m (nt:=14) (rs:=[.tmp 4]) (n:=100000) Tryz.func33 rfl rfl rfl rfl (by simp) (S ?_)
 obtain⟨v8,hv8,h⟩:=rb_ h
 refine CHi_ [(.node [(.pv (Sx a0.Atom.Name)),(.own 10000)]),(.pv (I a1))] [(10000,(2,v8.2.map (Term.pv true)))] (mTs_1 hv8) SC (S ?_)
 obtain⟨v12,hv12,h⟩:=rb_ h
 refine CHi_ [(.own 10001),(.pv (I v8.1))] [(10001,(5,v12.2.map (Formula.pv true)))] (mFS_2 hv12) SC (S ?_)
 cases rs_ h
 exact FinIO.mk SC

theorem mDS_3(n:Nat):(∀ (a0:List Derivation) (a1:Int) (r:Int×(List Derivation)),mDS_ n a0 a1=some r→SatIO Tryz.prog 52 [(.sl true 12 (a0.map (Derivation.pv true))),(I a1)] [(.sl true 12 (r.2.map (Derivation.pv true))),(I a1)] (I r.1)):=by
 induction n with
 | zero=>exact fun _ _ _ h=>by simp[mDS_] at h
 | succ n ih=>
  refine fun a0 a1 r h=>?_
  obtain⟨h,cs⟩:=Ro_ h
  rw[mDS_] at h
  refine SIo_ (nt:=111) (rs:=[.tmp 4]) (n:=100000) Tryz.func52 rfl rfl rfl rfl (by simp) (S ?_)
  refine VSeq.step (S ?_)
  refine VSeq.nil (Nat.le_of_eq rfl) (S ?_)
  refine VSeq.step (S ?_)
  refine VSeq.nil (Nat.le_of_eq rfl) (S ?_)
  replace h:=rl_ h
  refine MgI.whileN h (fun s2=>[(0,.val (.own 10000)),(1,.val (.pv (I s2.2.1))),(5,.val (.pv (I s2.2.2)))]) (fun s2=>[(10000,(12,s2.1.map (Derivation.pv true)))]) (Slm_ SC) (fun n2 s2 h=>?_)
  refine S ?_
  refine VSeq.step (S ?_)
  refine VSeq.step (S ?_)
  refine VSeq.step (S ?_)
  refine VSeq.step (S ?_)
  refine VSeq.nil (Nat.le_of_eq rfl) (S ?_)
  refine CondH.run cs h (fun cs h=>S ?_) (fun cs h=>S ?_)
  ·refine VSeq.step (S ?_)
   refine VSeq.step (S ?_)
   refine VSeq.step (S ?_)
   refine VSeq.step (S ?_)
   obtain⟨v15,hv15,h⟩:=rb_ h
   refine IdxH.mk (f:=(Derivation.pv true)) hv15 SC (S ?_)
   refine VSeq.step (S ?_)
   refine VSeq.step (S ?_)
   obtain⟨w2,hw2,h⟩:=rb_ h
   refine EldH.mk (f:=(Derivation.pv true)) hw2 rfl SC (S ?_)
   refine VSeq.nil (Nat.le_of_eq rfl) (S ?_)
   refine VSeq.step (S ?_)
   refine VSeq.step (S ?_)
   refine VSeq.step (S ?_)
   refine VSeq.nil (Nat.le_of_eq rfl) (S ?_)
   refine VSeq.step (S ?_)
   refine VSeq.step (S ?_)
   refine VSeq.step (S ?_)
   obtain⟨v21,hv21,h⟩:=rb_ h
   refine IdxH.mk (f:=(Derivation.pv true)) hv21 SC (S ?_)
   refine VSeq.step (S ?_)
   refine VSeq.step (S ?_)
   obtain⟨w3,hw3,h⟩:=rb_ h
   obtain⟨v26,hv26,h⟩:=rb_ h
   refine Vei_ (fx:=(Derivation.pv true)) (c:=10000) (sz:=12) (p:=[1,0]) (off:=1) (h1:=rfl) (h3:=rfl) (h2:=rfl) rfl rfl rfl rfl rfl rfl rfl rfl rfl hw3 (mFS_2 hv26) SC SC (S ?_)
   refine VSeq.step (S ?_)
   refine VSeq.nil (Nat.le_of_eq rfl) (S ?_)
   refine VSeq.step (S ?_)
   refine VSeq.step (S ?_)
   refine VSeq.step (S ?_)
   obtain⟨v29,hv29,h⟩:=rb_ h
   refine IdxH.mk (f:=(Derivation.pv true)) hv29 SC (S ?_)
   refine VSeq.step (S ?_)
   refine VSeq.step (S ?_)
   obtain⟨w4,hw4,h⟩:=rb_ h
   obtain⟨v34,hv34,h⟩:=rb_ h
   refine Vei_ (fx:=(Derivation.pv true)) (c:=10000) (sz:=12) (p:=[1,1]) (off:=2) (h1:=rfl) (h3:=rfl) (h2:=rfl) rfl rfl rfl rfl rfl rfl rfl rfl rfl hw4 (mFS_2 hv34) SC SC (S ?_)
   refine VSeq.step (S ?_)
   refine VSeq.nil (Nat.le_of_eq rfl) (S ?_)
   refine VSeq.step (S ?_)
   refine VSeq.step (S ?_)
   refine VSeq.step (S ?_)
   refine VSeq.step (S ?_)
   obtain⟨v38,hv38,h⟩:=rb_ h
   refine IdxH.mk (f:=(Derivation.pv true)) hv38 SC (S ?_)
   refine VSeq.step (S ?_)
   refine VSeq.step (S ?_)
   obtain⟨w5,hw5,h⟩:=rb_ h
   refine EldH.mk (f:=(Derivation.pv true)) hw5 rfl SC (S ?_)
   refine VSeq.nil (Nat.le_of_eq rfl) (S ?_)
   refine VSeq.step (S ?_)
   refine VSeq.step (S ?_)
   refine VSeq.step (S ?_)
   refine VSeq.nil (Nat.le_of_eq rfl) (S ?_)
   refine VSeq.step (S ?_)
   refine VSeq.step (S ?_)
   refine VSeq.step (S ?_)
   refine VSeq.step (S ?_)
   obtain⟨v45,hv45,h⟩:=rb_ h
   refine CallH.mk [false] (mTs_ hv45) SC (S ?_)
   refine VSeq.step (S ?_)
   obtain⟨v46,hv46,h⟩:=rb_ h
   refine IdxH.mk (f:=(Derivation.pv true)) hv46 SC (S ?_)
   refine VSeq.step (S ?_)
   refine VSeq.step (S ?_)
   refine VSeq.step (S ?_)
   obtain⟨w6,hw6,h⟩:=rb_ h
   refine EldH.mk (f:=(Derivation.pv true)) hw6 rfl SC (S ?_)
   refine VSeq.nil (Nat.le_of_eq rfl) (S ?_)
   refine VSeq.step (S ?_)
   refine VSeq.step (S ?_)
   refine VSeq.step (S ?_)
   refine VSeq.nil (Nat.le_of_eq rfl) (S ?_)
   refine VSeq.step (S ?_)
   refine VSeq.step (S ?_)
   refine VSeq.step (S ?_)
   obtain⟨v53,hv53,h⟩:=rb_ h
   refine IdxH.mk (f:=(Derivation.pv true)) hv53 SC (S ?_)
   refine VSeq.step (S ?_)
   refine VSeq.step (S ?_)
   obtain⟨w7,hw7,h⟩:=rb_ h
   obtain⟨v58,hv58,h⟩:=rb_ h
   refine Vei_ (fx:=(Derivation.pv true)) (c:=10000) (sz:=12) (p:=[3,1]) (off:=5) (h1:=rfl) (h3:=rfl) (h2:=rfl) rfl rfl rfl rfl rfl rfl rfl rfl rfl hw7 (mTS_2 hv58) SC SC (S ?_)
   refine VSeq.step (S ?_)
   refine VSeq.nil (Nat.le_of_eq rfl) (S ?_)
   refine VSeq.step (S ?_)
   refine VSeq.step (S ?_)
   refine VSeq.step (S ?_)
   refine VSeq.step (S ?_)
   obtain⟨v62,hv62,h⟩:=rb_ h
   refine IdxH.mk (f:=(Derivation.pv true)) hv62 SC (S ?_)
   refine VSeq.step (S ?_)
   refine VSeq.step (S ?_)
   refine VSeq.step (S ?_)
   obtain⟨w8,hw8,h⟩:=rb_ h
   refine EldH.mk (f:=(Derivation.pv true)) hw8 rfl SC (S ?_)
   refine VSeq.nil (Nat.le_of_eq rfl) (S ?_)
   refine VSeq.step (S ?_)
   refine VSeq.step (S ?_)
   refine VSeq.step (S ?_)
   refine VSeq.nil (Nat.le_of_eq rfl) (S ?_)
   refine VSeq.step (S ?_)
   refine VSeq.step (S ?_)
   refine VSeq.step (S ?_)
   refine VSeq.step (S ?_)
   obtain⟨v70,hv70,h⟩:=rb_ h
   refine CallH.mk [false] (mTs_ hv70) SC (S ?_)
   refine VSeq.step (S ?_)
   obtain⟨v71,hv71,h⟩:=rb_ h
   refine IdxH.mk (f:=(Derivation.pv true)) hv71 SC (S ?_)
   refine VSeq.step (S ?_)
   refine VSeq.step (S ?_)
   refine VSeq.step (S ?_)
   refine VSeq.step (S ?_)
   obtain⟨w9,hw9,h⟩:=rb_ h
   refine EldH.mk (f:=(Derivation.pv true)) hw9 rfl SC (S ?_)
   refine VSeq.nil (Nat.le_of_eq rfl) (S ?_)
   refine VSeq.step (S ?_)
   refine VSeq.step (S ?_)
   refine VSeq.step (S ?_)
   refine VSeq.nil (Nat.le_of_eq rfl) (S ?_)
   refine VSeq.step (S ?_)
   refine VSeq.step (S ?_)
   refine VSeq.step (S ?_)
   obtain⟨v79,hv79,h⟩:=rb_ h
   refine IdxH.mk (f:=(Derivation.pv true)) hv79 SC (S ?_)
   refine VSeq.step (S ?_)
   refine VSeq.step (S ?_)
   refine VSeq.step (S ?_)
   obtain⟨w10,hw10,h⟩:=rb_ h
   obtain⟨v85,hv85,h⟩:=rb_ h
   refine Vei_ (fx:=(Derivation.pv true)) (c:=10000) (sz:=12) (p:=[4,1,1]) (off:=8) (h1:=rfl) (h3:=rfl) (h2:=rfl) rfl rfl rfl rfl rfl rfl rfl rfl rfl hw10 (mTS_2 hv85) SC SC (S ?_)
   refine VSeq.step (S ?_)
   refine VSeq.nil (Nat.le_of_eq rfl) (S ?_)
   refine VSeq.step (S ?_)
   refine VSeq.step (S ?_)
   refine VSeq.step (S ?_)
   refine VSeq.step (S ?_)
   obtain⟨v89,hv89,h⟩:=rb_ h
   refine CallH.mk [false] (mTs_ hv89) SC (S ?_)
   refine VSeq.step (S ?_)
   obtain⟨v90,hv90,h⟩:=rb_ h
   refine IdxH.mk (f:=(Derivation.pv true)) hv90 SC (S ?_)
   refine VSeq.step (S ?_)
   refine VSeq.step (S ?_)
   refine VSeq.step (S ?_)
   obtain⟨w11,hw11,h⟩:=rb_ h
   refine EldH.mk (f:=(Derivation.pv true)) hw11 rfl SC (S ?_)
   refine VSeq.nil (Nat.le_of_eq rfl) (S ?_)
   refine VSeq.step (S ?_)
   refine VSeq.step (S ?_)
   refine VSeq.step (S ?_)
   refine VSeq.nil (Nat.le_of_eq rfl) (S ?_)
   refine VSeq.step (S ?_)
   refine VSeq.step (S ?_)
   refine VSeq.step (S ?_)
   obtain⟨v97,hv97,h⟩:=rb_ h
   refine IdxH.mk (f:=(Derivation.pv true)) hv97 SC (S ?_)
   refine VSeq.step (S ?_)
   refine VSeq.step (S ?_)
   obtain⟨w12,hw12,h⟩:=rb_ h
   obtain⟨v102,hv102,h⟩:=rb_ h
   refine Vei_ (fx:=(Derivation.pv true)) (c:=10000) (sz:=12) (p:=[4,3]) (off:=10) (h1:=rfl) (h3:=rfl) (h2:=rfl) rfl rfl rfl rfl rfl rfl rfl rfl rfl hw12 (mFS_2 hv102) SC SC (S ?_)
   refine VSeq.step (S ?_)
   refine VSeq.nil (Nat.le_of_eq rfl) (S ?_)
   refine VSeq.step (S ?_)
   refine VSeq.step (S ?_)
   refine VSeq.step (S ?_)
   obtain⟨v105,hv105,h⟩:=rb_ h
   refine IdxH.mk (f:=(Derivation.pv true)) hv105 SC (S ?_)
   refine VSeq.step (S ?_)
   obtain⟨w13,hw13,h⟩:=rb_ h
   obtain⟨v109,hv109,h⟩:=rb_ h
   refine Vei_ (fx:=(Derivation.pv true)) (c:=10000) (sz:=12) (p:=[5]) (off:=11) (h1:=rfl) (h3:=rfl) (h2:=rfl) rfl rfl rfl rfl rfl rfl rfl rfl rfl hw13 (ih _ _ _ hv109) SC SC (S ?_)
   refine VSeq.step (S ?_)
   refine VSeq.nil (Nat.le_of_eq rfl) (S ?_)
   refine VSeq.step (S ?_)
   refine VSeq.step (S ?_)
   refine VSeq.step (S ?_)
   refine VSeq.nil (Nat.le_of_eq rfl) (S ?_)
   have h:=rs_ h
   refine RdH.mk ⟨_,h,?_⟩
   exact Slm_ SC
  ·have h:=rs_ h
   refine VSeq.step (S ?_)
   refine VSeq.step (S ?_)
   refine VSeq.nil (Nat.le_of_eq rfl) (S ?_)
   cases rs_ h
   exact FinIO.mk SC
theorem mDS_4{a0:List Derivation}{a1:Int}{r:Int×(List Derivation)}(h:mDS_2 a0 a1=some r):SatIO Tryz.prog 52 [(.sl true 12 (a0.map (Derivation.pv true))),(I a1)] [(.sl true 12 (r.2.map (Derivation.pv true))),(I a1)] (I r.1):=by
 obtain⟨n,hn⟩:=ls_ h
 exact(mDS_3 n) _ _ _ hn

theorem mDs_{a0:Derivation}{a1:Int}  {r:Int×(List Formula)×(List Formula)×(List Term)×(List Term)×(List Formula)×(List Derivation)}(h:mD_ a0 a1=some r):SatIO Tryz.prog 14 [((Derivation.pv true) a0),(I a1)] [((Derivation.pv true) (Derivation.mk a0.Rule (Sequent.mk r.2.1 r.2.2.1) a0.Main (Term.mk a0.Term.Name r.2.2.2.1) (Formula.mk a0.Cut.Op (Term.mk a0.Cut.Atom.Name r.2.2.2.2.1) a0.Cut.Var r.2.2.2.2.2.1) r.2.2.2.2.2.2)),(I a1)] (I r.1):=by
 obtain⟨h,cs⟩:=Ro_ h
 unfold mD_ at h
 refine SatIO.of_m (nt:=22) (rs:=[.tmp 4]) (n:=100000) Tryz.func14 rfl rfl rfl rfl (by simp) (S ?_)
 obtain⟨v8,hv8,h⟩:=rb_ h
 refine CHi_ [(.node [(.own 10000),(.own 10001)]),(.pv (I a1))] [(10000,(5,v8.2.1.map (Formula.pv true))),(10001,(5,v8.2.2.map (Formula.pv true)))] (mSs_ hv8) SC (S ?_)
 obtain⟨v12,hv12,h⟩:=rb_ h
 refine CHi_ [(.node [(.pv (Sx a0.Term.Name)),(.own 10002)]),(.pv (I v8.1))] [(10002,(2,v12.2.map (Term.pv true)))] (mTs_1 hv12) SC (S ?_)
 obtain⟨v16,hv16,h⟩:=rb_ h
 refine CHi_ [(.node [(.pv (I a0.Cut.Op)),(.node [(.pv (Sx a0.Cut.Atom.Name)),(.own 10003)]),(.pv (Sx a0.Cut.Var)),(.own 10004)]),(.pv (I v12.1))] [(10003,(2,v16.2.1.map (Term.pv true))),(10004,(5,v16.2.2.map (Formula.pv true)))] (mFs_ hv16) SC (S ?_)
 obtain⟨v20,hv20,h⟩:=rb_ h
 refine CHi_ [(.own 10005),(.pv (I v16.1))] [(10005,(12,v20.2.map (Derivation.pv true)))] (mDS_4 hv20) SC (S ?_)
 cases rs_ h
 exact FinIO.mk SC

theorem mIS_1{a0:List Int}{a1:Int}  {r:Int×(List Int)}(h:mIS_ a0 a1=some r):SatIO Tryz.prog 15 [(.sl true 1 (a0.map I)),(I a1)] [(.sl true 1 (r.2.map I)),(I a1)] (I r.1):=by
 obtain⟨h,cs⟩:=Ro_ h
 unfold mIS_ at h
 refine SatIO.of_m (nt:=19) (rs:=[.tmp 4]) (n:=100000) Tryz.func15 rfl rfl rfl rfl (by simp) (S ?_)
 replace h:=rl_ h
 refine Mg.whileN h (fun s2=>[(0,.val (.own 10000)),(1,.val (.pv (I s2.2.1))),(5,.val (.pv (I s2.2.2)))]) (fun s2=>[(10000,(1,s2.1.map I))]) (Slm_ SC) (fun n2 s2 h=>?_)
 refine S ?_
 refine CondH.run cs h (fun cs h=>S ?_) (fun cs h=>S ?_)
 ·obtain⟨v15,hv15,h⟩:=rb_ h
  refine IdxH.mk (f:=I) hv15 SC (S ?_)
  obtain⟨w2,hw2,h⟩:=rb_ h
  refine EldH.mk (f:=I) hw2 rfl SC (S ?_)
  have h:=rs_ h
  refine RdH.mk ⟨_,h,?_⟩
  exact Slm_ SC
 ·have h:=rs_ h
  cases rs_ h
  exact FinIO.mk SC

theorem mBS_2{a0:List Bool}{a1:Int}  {r:Int×(List Bool)}(h:mBS_ a0 a1=some r):SatIO Tryz.prog 21 [(.sl true 1 (a0.map B)),(I a1)] [(.sl true 1 (r.2.map B)),(I a1)] (I r.1):=by
 obtain⟨h,cs⟩:=Ro_ h
 unfold mBS_ at h
 refine SatIO.of_m (nt:=21) (rs:=[.tmp 4]) (n:=100000) Tryz.func21 rfl rfl rfl rfl (by simp) (S ?_)
 replace h:=rl_ h
 refine Mg.whileN h (fun s2=>[(0,.val (.own 10000)),(1,.val (.pv (I s2.2.1))),(5,.val (.pv (I s2.2.2)))]) (fun s2=>[(10000,(1,s2.1.map B))]) (Slm_ SC) (fun n2 s2 h=>?_)
 refine S ?_
 refine CondH.run cs h (fun cs h=>S ?_) (fun cs h=>S ?_)
 ·obtain⟨v15,hv15,h⟩:=rb_ h
  refine remH.mk hv15 (S ?_)
  obtain⟨v17,hv17,h⟩:=rb_ h
  refine IdxH.mk (f:=B) hv17 SC (S ?_)
  obtain⟨w2,hw2,h⟩:=rb_ h
  refine EldH.mk (f:=B) hw2 rfl SC (S ?_)
  have h:=rs_ h
  refine RdH.mk ⟨_,h,?_⟩
  exact Slm_ SC
 ·have h:=rs_ h
  cases rs_ h
  exact FinIO.mk SC

theorem hBS_{a0:List Bool}{a1:Int}  {r:Int}(h:hBS_1 a0 a1=some r):Sat Tryz.prog 22 [(.sl false 1 (a0.map B)),(I a1)] (I r):=by
 obtain⟨h,cs⟩:=Ro_ h
 unfold hBS_1 at h
 refine Sat.of_m (nt:=23) (rs:=[.tmp 4]) (n:=100000) Tryz.func22 rfl rfl rfl rfl (by simp) (S ?_)
 refine Mg.know_sl (b:=false) (sz:=1) (es:=a0.map B) 0 SC fun hl0=>?_; rw[List.length_map] at hl0
 replace h:=rl_ h
 refine Mg.forN h (fun i2 s2=>[(0,.val (.pv (.sl false 1 (a0.map B)))),(1,.val (.pv (I s2))),(5,.val (.pv (I (i2:Int))))]) (fun i2 s2=>[]) (Slm_ SC) (fun i2 s2 hi h=>?_) (fun s2 h=>?_)
 ·have w:=ws_ (i:=i2) (by omega)
  refine S ?_
  refine CondH.t2 cs (by omega) (fun cs=>S ?_)
  obtain⟨v14,hv14,h⟩:=rb_ h
  refine IdxH.mk (f:=B) hv14 SC (S ?_)
  obtain⟨v17,hv17,h⟩:=rb_ h
  refine remH.mk hv17 (S ?_)
  refine CondH.run cs h (fun cs h=>S ?_) (fun cs h=>S ?_)
  ·have h:=rs_ h
   refine RdH.mk ⟨_,h,?_⟩
   exact Slm_ SW
  ·cases rs_ h
   exact FinH.l SC
 ·refine S ?_
  refine CondH.f2 cs (by omega) (fun cs=>S ?_)
  cases rs_ h
  exact FinH.l SC

theorem FnExactCutAncestors_sat{a0:Derivation}{a1:List Int}  {r:Bool}(h:FnExactCutAncestors a0 a1=some r):Sat Tryz.prog 4 [((Derivation.pv false) a0),(.sl false 1 (a1.map I))] (B r):=by
 obtain⟨h,cs⟩:=Ro_ h
 unfold FnExactCutAncestors at h
 refine Sat.of_m (nt:=154) (rs:=[.tmp 4]) (n:=100000) Tryz.func4 rfl rfl rfl rfl (by simp) (S ?_)
 refine CondH.run cs h (fun cs h=>S ?_) (fun cs h=>S ?_)
 ·cases rs_ h
  exact FinH.l SC
 ·obtain⟨v25,hv25,h⟩:=rb_ h
  refine CallH.mk [false,false] (sDs_ hv25) SC (S ?_)
  refine CondH.run cs h (fun cs h=>S ?_) (fun cs h=>S ?_)
  ·cases rs_ h
   exact FinH.l SC
  ·obtain⟨v30,hv30,h⟩:=rb_ h
   refine CallH.mk [false] (tDs_ hv30) SC (S ?_)
   obtain⟨v32,hv32,h⟩:=rb_ h
   refine CallH.mk [false] (tIS_ hv32) SC (S ?_)
   obtain⟨v33,hv33,h⟩:=rb_ h
   refine CallH.mk [false,false] (sCA_1 hv33) SC (S ?_)
   obtain⟨v38,hv38,h⟩:=rb_ h
   refine CallH.mk [false] (tDs_ hv38) SC (S ?_)
   obtain⟨v40,hv40,h⟩:=rb_ h
   refine CallH.mk [false] (tIS_ hv40) SC (S ?_)
   obtain⟨v44,hv44,h⟩:=rb_ h
   refine CallH.mk [false,false] (iCA_1 hv44) SC (S ?_)
   obtain⟨v50,hv50,h⟩:=rb_ h
   refine CallH.mk [false,false] (eBS_ hv50) SC (S ?_)
   refine CondH.run cs h (fun cs h=>S ?_) (fun cs h=>S ?_)
   ·obtain⟨v55,hv55,h⟩:=rb_ h
    refine CallH.mk [false,false] (eBS_ hv55) SC (S ?_)
    refine CondH.run cs h (fun cs h=>S ?_) (fun cs h=>S ?_)
    ·refine CondH.run cs h (fun cs h=>S ?_) (fun cs h=>S ?_)
     ·obtain⟨v65,hv65,h⟩:=rb_ h
      refine CallH.mk [false] (tDs_ hv65) SC (S ?_)
      obtain⟨v66,hv66,h⟩:=rb_ h
      refine CallH.mk [false,false] (eDs_ hv66) SC (S ?_)
      refine And.intro (DHa_ [] [1040,1041,1042,1043,1044,1045]) (S ?_)
      refine CondH.run cs h (fun cs h=>S ?_) (fun cs h=>S ?_)
      ·obtain⟨v70,hv70,h⟩:=rb_ h
       refine CallH.mk [false] (tIS_ hv70) SC (S ?_)
       obtain⟨v71,hv71,h⟩:=rb_ h
       refine CallH.mk [false,false] (eIS_1 hv71) SC (S ?_)
       refine CondH.run cs h (fun cs h=>S ?_) (fun cs h=>S ?_)
       ·obtain⟨v75,hv75,h⟩:=rb_ h
        refine CHi_ [(.node [(.pv (I v38.Rule)),(.node [(.own 608),(.own 609)]),(.pv (I v38.Main)),(.node [(.pv (Sx v38.Term.Name)),(.own 610)]),(.node [(.pv (I v38.Cut.Op)),(.node [(.pv (Sx v38.Cut.Atom.Name)),(.own 611)]),(.pv (Sx v38.Cut.Var)),(.own 612)]),(.own 613)]),(.pv (I (1:Int)))] [(608,(5,v75.2.1.map (Formula.pv true))),(609,(5,v75.2.2.1.map (Formula.pv true))),(610,(2,v75.2.2.2.1.map (Term.pv true))),(611,(2,v75.2.2.2.2.1.map (Term.pv true))),(612,(5,v75.2.2.2.2.2.1.map (Formula.pv true))),(613,(12,v75.2.2.2.2.2.2.map (Derivation.pv true)))] (mDs_ hv75) SC (S ?_)
        obtain⟨v78,hv78,h⟩:=rb_ h
        refine CHi_ [(.own 640),(.pv (I v75.1))] [(640,(1,v78.2.map I))] (mIS_1 hv78) SC (S ?_)
        refine CondH.run cs h (fun cs h=>S ?_) (fun cs h=>S ?_)
        ·cases rs_ h
         exact FinH.l SC
        ·obtain⟨v84,hv84,h⟩:=rb_ h
         refine CallH.mk [false,false] (eBS_ hv84) SC (S ?_)
         refine CondH.run cs h (fun cs h=>S ?_) (fun cs h=>S ?_)
         ·obtain⟨v90,hv90,h⟩:=rb_ h
          refine CallH.mk [false,false] (eBS_ hv90) SC (S ?_)
          refine CondH.run cs h (fun cs h=>S ?_) (fun cs h=>S ?_)
          ·obtain⟨v100,hv100,h⟩:=rb_ h
           refine CHi_ [(.own 704),(.pv (I (1:Int)))] [(704,(1,v100.2.map B))] (mBS_2 hv100) SC (S ?_)
           obtain⟨v103,hv103,h⟩:=rb_ h
           refine CHi_ [(.own 705),(.pv (I v100.1))] [(705,(1,v103.2.map B))] (mBS_2 hv103) SC (S ?_)
           obtain⟨v106,hv106,h⟩:=rb_ h
           refine CallH.mk [false,false] (hBS_ hv106) SC (S ?_)
           refine CondH.run cs h (fun cs h=>S ?_) (fun cs h=>S ?_)
           ·cases rs_ h
            exact FinH.l SC
           ·obtain⟨v111,hv111,h⟩:=rb_ h
            refine CallH.mk [false,false] (hBS_ hv111) SC (S ?_)
            refine CondH.run cs h (fun cs h=>S ?_) (fun cs h=>S ?_)
            ·cases rs_ h
             exact FinH.l SC
            ·refine CondH.run cs h (fun cs h=>S ?_) (fun cs h=>S ?_)
             ·obtain⟨v119,hv119,h⟩:=rb_ h
              refine CallH.mk [false] (tDs_ hv119) SC (S ?_)
              obtain⟨v121,hv121,h⟩:=rb_ h
              refine CallH.mk [false] (tIS_ hv121) SC (S ?_)
              obtain⟨v122,hv122,h⟩:=rb_ h
              refine CallH.mk [false,false] (iCA_1 hv122) SC (S ?_)
              obtain⟨v128,hv128,h⟩:=rb_ h
              refine CallH.mk [false,false] (eBS_ hv128) SC (S ?_)
              refine CondH.run cs h (fun cs h=>S ?_) (fun cs h=>S ?_)
              ·obtain⟨v133,hv133,h⟩:=rb_ h
               refine CallH.mk [false,false] (eBS_ hv133) SC (S ?_)
               refine CondH.run cs h (fun cs h=>S ?_) (fun cs h=>S ?_)
               ·refine CondH.run cs h (fun cs h=>S ?_) (fun cs h=>S ?_)
                ·obtain⟨v143,hv143,h⟩:=rb_ h
                 refine CallH.mk [false,false] (hBS_ hv143) SC (S ?_)
                 refine CondH.run cs h (fun cs h=>S ?_) (fun cs h=>S ?_)
                 ·cases rs_ h
                  exact FinH.l SC
                 ·obtain⟨v148,hv148,h⟩:=rb_ h
                  refine CallH.mk [false,false] (hBS_ hv148) SC (S ?_)
                  refine CondH.run cs h (fun cs h=>S ?_) (fun cs h=>S ?_)
                  ·cases rs_ h
                   exact FinH.l SC
                  ·refine CondH.run cs h (fun cs h=>S ?_) (fun cs h=>S ?_)
                   ·cases rs_ h
                    exact FinH.l SC
                   ·cases rs_ h
                    exact FinH.l SC
                ·cases rs_ h
                 exact FinH.l SC
               ·cases rs_ h
                exact FinH.l SC
              ·cases rs_ h
               exact FinH.l SC
             ·cases rs_ h
              exact FinH.l SC
          ·cases rs_ h
           exact FinH.l SC
         ·cases rs_ h
          exact FinH.l SC
       ·cases rs_ h
        exact FinH.l SC
      ·cases rs_ h
       exact FinH.l SC
     ·cases rs_ h
      exact FinH.l SC
    ·cases rs_ h
     exact FinH.l SC
   ·cases rs_ h
    exact FinH.l SC

end Go.Proofs.YtkoghcphkdecoaaGreat
