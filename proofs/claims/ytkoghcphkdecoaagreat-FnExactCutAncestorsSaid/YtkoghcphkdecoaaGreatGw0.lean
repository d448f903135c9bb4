/- A part of the proof: lemmas only; nothing is claimed here beyond what each lemma says. -/
import Derived.Test.YtkoghcphkdecoaaGreatGm
import Derived.Test.YtkoghcphkdecoaaGreatGf
import Derived.Test.YtkoghcphkdecoaaGreatGsrt
set_option linter.unusedSimpArgs false
set_option linter.unusedVariables false
set_option linter.defProp false
set_option maxRecDepth 4000
namespace Go.Proofs.YtkoghcphkdecoaaGreat
open Go.Av
set_option maxHeartbeats 4000000
theorem sTN_1(n:Nat):(∀ (a0:Term) (a1:Int) (r:Int),sTN_ n a0 a1=some r→Sat Tryz.prog 38 [((Term.pv false) a0),(I a1)] (I r))∧(∀ (a0:List Term) (a1:Int) (r:Int),sTS_ n a0 a1=some r→Sat Tryz.prog 76 [(.sl false 2 (a0.map (Term.pv false))),(I a1)] (I r)):=by
 induction n with
 | zero=>exact⟨fun _ _ _ h=>by simp[sTN_] at h,fun _ _ _ h=>by simp[sTS_] at h⟩
 | succ n ih=>
  refine⟨fun a0 a1 r h=>?_,fun a0 a1 r h=>?_⟩
  ·obtain⟨h,cs⟩:=Ro_ h
   rw[sTN_] at h
   refine Sat.of_m (nt:=19) (rs:=[.tmp 4]) (n:=100000) Tryz.func38 rfl rfl rfl rfl (by simp) (S ?_)
   refine CondH.run cs h (fun cs h=>S ?_) (fun cs h=>S ?_)
   ·cases rs_ h
    exact FinH.l SC
   ·obtain⟨v15,hv15,h⟩:=rb_ h
    refine CallH.mk [false,false] (ih.2 _ _ _ hv15) SC (S ?_)
    refine CondH.run cs h (fun cs h=>S ?_) (fun cs h=>S ?_)
    ·cases rs_ h
     exact FinH.l SC
    ·cases rs_ h
     exact FinH.l SC
  ·obtain⟨h,cs⟩:=Ro_ h
   rw[sTS_] at h
   refine Sat.of_m (nt:=27) (rs:=[.tmp 4]) (n:=100000) Tryz.func76 rfl rfl rfl rfl (by simp) (S ?_)
   refine CondH.run cs h (fun cs h=>S ?_) (fun cs h=>S ?_)
   ·cases rs_ h
    exact FinH.l SC
   ·refine Mg.know_sl (b:=false) (sz:=2) (es:=a0.map (Term.pv false)) 0 SC fun hl0=>?_; rw[List.length_map] at hl0
    replace h:=rl_ h
    refine Mg.forN h (fun i5 s5=>[(0,.val (.pv (.sl false 2 (a0.map (Term.pv false))))),(1,.val (.pv (I s5))),(5,.val (.pv (I (i5:Int))))]) (fun i5 s5=>[]) (Slm_ SC) (fun i5 s5 hi h=>?_) (fun s5 h=>?_)
    ·have w:=ws_ (i:=i5) (by omega)
     refine S ?_
     refine CondH.t2 cs (by omega) (fun cs=>S ?_)
     obtain⟨v20,hv20,h⟩:=rb_ h
     refine IdxH.mk (f:=(Term.pv false)) hv20 SC (S ?_)
     obtain⟨v23,hv23,h⟩:=rb_ h
     refine CallH.mk [false,false] (ih.1 _ _ _ hv23) SC (S ?_)
     refine CondH.run cs h (fun cs h=>S ?_) (fun cs h=>S ?_)
     ·cases rs_ h
      exact FinH.l SC
     ·have h:=rs_ h
      refine RdH.mk ⟨_,h,?_⟩
      exact Slm_ SW
    ·refine S ?_
     refine CondH.f2 cs (by omega) (fun cs=>S ?_)
     cases rs_ h
     exact FinH.l SC
theorem sTs_{a0:Term}{a1:Int}{r:Int}(h:szTerm a0 a1=some r):Sat Tryz.prog 38 [((Term.pv false) a0),(I a1)] (I r):=by
 obtain⟨n,hn⟩:=ls_ h
 exact(sTN_1 n).1 _ _ _ hn
theorem sTS_1{a0:List Term}{a1:Int}{r:Int}(h:sTS_2 a0 a1=some r):Sat Tryz.prog 76 [(.sl false 2 (a0.map (Term.pv false))),(I a1)] (I r):=by
 obtain⟨n,hn⟩:=ls_ h
 exact(sTN_1 n).2 _ _ _ hn

theorem sFN_1(n:Nat):(∀ (a0:Formula) (a1:Int) (r:Int),sFN_ n a0 a1=some r→Sat Tryz.prog 28 [((Formula.pv false) a0),(I a1)] (I r))∧(∀ (a0:List Formula) (a1:Int) (r:Int),sFS_ n a0 a1=some r→Sat Tryz.prog 63 [(.sl false 5 (a0.map (Formula.pv false))),(I a1)] (I r)):=by
 induction n with
 | zero=>exact⟨fun _ _ _ h=>by simp[sFN_] at h,fun _ _ _ h=>by simp[sFS_] at h⟩
 | succ n ih=>
  refine⟨fun a0 a1 r h=>?_,fun a0 a1 r h=>?_⟩
  ·obtain⟨h,cs⟩:=Ro_ h
   rw[sFN_] at h
   refine Sat.of_m (nt:=25) (rs:=[.tmp 4]) (n:=100000) Tryz.func28 rfl rfl rfl rfl (by simp) (S ?_)
   obtain⟨v8,hv8,h⟩:=rb_ h
   refine CallH.mk [false,false] (sTs_ hv8) SC (S ?_)
   refine CondH.run cs h (fun cs h=>S ?_) (fun cs h=>S ?_)
   ·cases rs_ h
    exact FinH.l SC
   ·refine CondH.run cs h (fun cs h=>S ?_) (fun cs h=>S ?_)
    ·cases rs_ h
     exact FinH.l SC
    ·obtain⟨v21,hv21,h⟩:=rb_ h
     refine CallH.mk [false,false] (ih.2 _ _ _ hv21) SC (S ?_)
     refine CondH.run cs h (fun cs h=>S ?_) (fun cs h=>S ?_)
     ·cases rs_ h
      exact FinH.l SC
     ·cases rs_ h
      exact FinH.l SC
  ·obtain⟨h,cs⟩:=Ro_ h
   rw[sFS_] at h
   refine Sat.of_m (nt:=27) (rs:=[.tmp 4]) (n:=100000) Tryz.func63 rfl rfl rfl rfl (by simp) (S ?_)
   refine CondH.run cs h (fun cs h=>S ?_) (fun cs h=>S ?_)
   ·cases rs_ h
    exact FinH.l SC
   ·refine Mg.know_sl (b:=false) (sz:=5) (es:=a0.map (Formula.pv false)) 0 SC fun hl0=>?_; rw[List.length_map] at hl0
    replace h:=rl_ h
    refine Mg.forN h (fun i5 s5=>[(0,.val (.pv (.sl false 5 (a0.map (Formula.pv false))))),(1,.val (.pv (I s5))),(5,.val (.pv (I (i5:Int))))]) (fun i5 s5=>[]) (Slm_ SC) (fun i5 s5 hi h=>?_) (fun s5 h=>?_)
    ·have w:=ws_ (i:=i5) (by omega)
     refine S ?_
     refine CondH.t2 cs (by omega) (fun cs=>S ?_)
     obtain⟨v20,hv20,h⟩:=rb_ h
     refine IdxH.mk (f:=(Formula.pv false)) hv20 SC (S ?_)
     obtain⟨v23,hv23,h⟩:=rb_ h
     refine CallH.mk [false,false] (ih.1 _ _ _ hv23) SC (S ?_)
     refine CondH.run cs h (fun cs h=>S ?_) (fun cs h=>S ?_)
     ·cases rs_ h
      exact FinH.l SC
     ·have h:=rs_ h
      refine RdH.mk ⟨_,h,?_⟩
      exact Slm_ SW
    ·refine S ?_
     refine CondH.f2 cs (by omega) (fun cs=>S ?_)
     cases rs_ h
     exact FinH.l SC
theorem sFs_{a0:Formula}{a1:Int}{r:Int}(h:sF_ a0 a1=some r):Sat Tryz.prog 28 [((Formula.pv false) a0),(I a1)] (I r):=by
 obtain⟨n,hn⟩:=ls_ h
 exact(sFN_1 n).1 _ _ _ hn
theorem sFS_2{a0:List Formula}{a1:Int}{r:Int}(h:sFS_1 a0 a1=some r):Sat Tryz.prog 63 [(.sl false 5 (a0.map (Formula.pv false))),(I a1)] (I r):=by
 obtain⟨n,hn⟩:=ls_ h
 exact(sFN_1 n).2 _ _ _ hn

theorem sSs_{a0:Sequent}{a1:Int}  {r:Int}(h:sS_ a0 a1=some r):Sat Tryz.prog 37 [((Sequent.pv false) a0),(I a1)] (I r):=by
 obtain⟨h,cs⟩:=Ro_ h
 unfold sS_ at h
 refine Sat.of_m (nt:=18) (rs:=[.tmp 4]) (n:=100000) Tryz.func37 rfl rfl rfl rfl (by simp) (S ?_)
 obtain⟨v8,hv8,h⟩:=rb_ h
 refine CallH.mk [false,false] (sFS_2 hv8) SC (S ?_)
 refine CondH.run cs h (fun cs h=>S ?_) (fun cs h=>S ?_)
 ·cases rs_ h
  exact FinH.l SC
 ·obtain⟨v14,hv14,h⟩:=rb_ h
  refine CallH.mk [false,false] (sFS_2 hv14) SC (S ?_)
  refine CondH.run cs h (fun cs h=>S ?_) (fun cs h=>S ?_)
  ·cases rs_ h
   exact FinH.l SC
  ·cases rs_ h
   exact FinH.l SC

theorem sDN_1(n:Nat):(∀ (a0:Derivation) (a1:Int) (r:Int),sDN_ n a0 a1=some r→Sat Tryz.prog 8 [((Derivation.pv false) a0),(I a1)] (I r))∧(∀ (a0:List Derivation) (a1:Int) (r:Int),sDS_ n a0 a1=some r→Sat Tryz.prog 39 [(.sl false 12 (a0.map (Derivation.pv false))),(I a1)] (I r)):=by
 induction n with
 | zero=>exact⟨fun _ _ _ h=>by simp[sDN_] at h,fun _ _ _ h=>by simp[sDS_] at h⟩
 | succ n ih=>
  refine⟨fun a0 a1 r h=>?_,fun a0 a1 r h=>?_⟩
  ·obtain⟨h,cs⟩:=Ro_ h
   rw[sDN_] at h
   refine Sat.of_m (nt:=30) (rs:=[.tmp 4]) (n:=100000) Tryz.func8 rfl rfl rfl rfl (by simp) (S ?_)
   obtain⟨v8,hv8,h⟩:=rb_ h
   refine CallH.mk [false,false] (sSs_ hv8) SC (S ?_)
   refine CondH.run cs h (fun cs h=>S ?_) (fun cs h=>S ?_)
   ·cases rs_ h
    exact FinH.l SC
   ·obtain⟨v14,hv14,h⟩:=rb_ h
    refine CallH.mk [false,false] (sTs_ hv14) SC (S ?_)
    refine CondH.run cs h (fun cs h=>S ?_) (fun cs h=>S ?_)
    ·cases rs_ h
     exact FinH.l SC
    ·obtain⟨v20,hv20,h⟩:=rb_ h
     refine CallH.mk [false,false] (sFs_ hv20) SC (S ?_)
     refine CondH.run cs h (fun cs h=>S ?_) (fun cs h=>S ?_)
     ·cases rs_ h
      exact FinH.l SC
     ·obtain⟨v26,hv26,h⟩:=rb_ h
      refine CallH.mk [false,false] (ih.2 _ _ _ hv26) SC (S ?_)
      refine CondH.run cs h (fun cs h=>S ?_) (fun cs h=>S ?_)
      ·cases rs_ h
       exact FinH.l SC
      ·cases rs_ h
       exact FinH.l SC
  ·obtain⟨h,cs⟩:=Ro_ h
   rw[sDS_] at h
   refine Sat.of_m (nt:=27) (rs:=[.tmp 4]) (n:=100000) Tryz.func39 rfl rfl rfl rfl (by simp) (S ?_)
   refine CondH.run cs h (fun cs h=>S ?_) (fun cs h=>S ?_)
   ·cases rs_ h
    exact FinH.l SC
   ·refine Mg.know_sl (b:=false) (sz:=12) (es:=a0.map (Derivation.pv false)) 0 SC fun hl0=>?_; rw[List.length_map] at hl0
    replace h:=rl_ h
    refine Mg.forN h (fun i5 s5=>[(0,.val (.pv (.sl false 12 (a0.map (Derivation.pv false))))),(1,.val (.pv (I s5))),(5,.val (.pv (I (i5:Int))))]) (fun i5 s5=>[]) (Slm_ SC) (fun i5 s5 hi h=>?_) (fun s5 h=>?_)
    ·have w:=ws_ (i:=i5) (by omega)
     refine S ?_
     refine CondH.t2 cs (by omega) (fun cs=>S ?_)
     obtain⟨v20,hv20,h⟩:=rb_ h
     refine IdxH.mk (f:=(Derivation.pv false)) hv20 SC (S ?_)
     obtain⟨v23,hv23,h⟩:=rb_ h
     refine CallH.mk [false,false] (ih.1 _ _ _ hv23) SC (S ?_)
     refine CondH.run cs h (fun cs h=>S ?_) (fun cs h=>S ?_)
     ·cases rs_ h
      exact FinH.l SC
     ·have h:=rs_ h
      refine RdH.mk ⟨_,h,?_⟩
      exact Slm_ SW
    ·refine S ?_
     refine CondH.f2 cs (by omega) (fun cs=>S ?_)
     cases rs_ h
     exact FinH.l SC
theorem sDs_{a0:Derivation}{a1:Int}{r:Int}(h:sD_ a0 a1=some r):Sat Tryz.prog 8 [((Derivation.pv false) a0),(I a1)] (I r):=by
 obtain⟨n,hn⟩:=ls_ h
 exact(sDN_1 n).1 _ _ _ hn
theorem sDS_2{a0:List Derivation}{a1:Int}{r:Int}(h:sDS_1 a0 a1=some r):Sat Tryz.prog 39 [(.sl false 12 (a0.map (Derivation.pv false))),(I a1)] (I r):=by
 obtain⟨n,hn⟩:=ls_ h
 exact(sDN_1 n).2 _ _ _ hn

theorem tTN_1(n:Nat):(∀ (a0:Term) (r:Term),tTN_ n a0=some r→Sat Tryz.prog 43 [((Term.pv false) a0)] ((Term.pv true) r))∧(∀ (a0:List Term) (r:List Term),tTS_ n a0=some r→Sat Tryz.prog 80 [(.sl false 2 (a0.map (Term.pv false)))] (.sl true 2 (r.map (Term.pv true)))):=by
 induction n with
 | zero=>exact⟨fun _ _ h=>by simp[tTN_] at h,fun _ _ h=>by simp[tTS_] at h⟩
 | succ n ih=>
  refine⟨fun a0 r h=>?_,fun a0 r h=>?_⟩
  ·obtain⟨h,cs⟩:=Ro_ h
   rw[tTN_] at h
   refine Sat.of_m (nt:=12) (rs:=[.cell 2 42]) (n:=100000) Tryz.func43 rfl rfl rfl rfl (by simp) (S ?_)
   obtain⟨v9,hv9,h⟩:=rb_ h
   refine CallH.mk [false] (ih.2 _ _ hv9) SC (S ?_)
   cases rs_ h
   exact FinH.l SC
  ·obtain⟨h,cs⟩:=Ro_ h
   rw[tTS_] at h
   refine Sat.of_m (nt:=23) (rs:=[.tmp 2]) (n:=100000) Tryz.func80 rfl rfl rfl rfl (by simp) (S ?_)
   obtain⟨n7,hn7,h⟩:=rb_ h
   refine MknH.mk hn7 (S ?_)
   refine Mg.know_sl (b:=false) (sz:=2) (es:=a0.map (Term.pv false)) 0 SC fun hl0=>?_; rw[List.length_map] at hl0
   replace h:=rl_ h
   refine Mg.forN h (fun i3 s3=>[(0,.val (.pv (.sl false 2 (a0.map (Term.pv false))))),(3,.val (.own 112)),(4,.val (.pv (I (i3:Int))))]) (fun i3 s3=>[(112,(2,s3.map (Term.pv true)))]) (Slm_ SC) (fun i3 s3 hi h=>?_) (fun s3 h=>?_)
   ·have w:=ws_ (i:=i3) (by omega)
    refine S ?_
    refine CondH.t2 cs (by omega) (fun cs=>S ?_)
    obtain⟨v18,hv18,h⟩:=rb_ h
    refine IdxH.mk (f:=(Term.pv false)) hv18 SC (S ?_)
    obtain⟨v20,hv20,h⟩:=rb_ h
    refine CallH.mk [false] (ih.1 _ _ hv20) SC (S ?_)
    obtain⟨v21,hv21,h⟩:=rb_ h
    refine IdxH.mk (f:=(Term.pv true)) hv21 SC (S ?_)
    obtain⟨w2,hw2,h⟩:=rb_ h
    refine EldH.mk (f:=(Term.pv true)) hw2 rfl SC (S ?_)
    have h:=rs_ h
    refine RdH.mk ⟨_,h,?_⟩
    exact Slm_ SW
   ·refine S ?_
    refine CondH.f2 cs (by omega) (fun cs=>S ?_)
    cases rs_ h
    exact FinH.l SC
theorem tTs_{a0:Term}{r:Term}(h:toTerm a0=some r):Sat Tryz.prog 43 [((Term.pv false) a0)] ((Term.pv true) r):=by
 obtain⟨n,hn⟩:=ls_ h
 exact(tTN_1 n).1 _ _ hn
theorem tTS_1{a0:List Term}{r:List Term}(h:tTS_2 a0=some r):Sat Tryz.prog 80 [(.sl false 2 (a0.map (Term.pv false)))] (.sl true 2 (r.map (Term.pv true))):=by
 obtain⟨n,hn⟩:=ls_ h
 exact(tTN_1 n).2 _ _ hn

theorem tFN_1(n:Nat):(∀ (a0:Formula) (r:Formula),tFN_ n a0=some r→Sat Tryz.prog 30 [((Formula.pv false) a0)] ((Formula.pv true) r))∧(∀ (a0:List Formula) (r:List Formula),tFS_ n a0=some r→Sat Tryz.prog 66 [(.sl false 5 (a0.map (Formula.pv false)))] (.sl true 5 (r.map (Formula.pv true)))):=by
 induction n with
 | zero=>exact⟨fun _ _ h=>by simp[tFN_] at h,fun _ _ h=>by simp[tFS_] at h⟩
 | succ n ih=>
  refine⟨fun a0 r h=>?_,fun a0 r h=>?_⟩
  ·obtain⟨h,cs⟩:=Ro_ h
   rw[tFN_] at h
   refine Sat.of_m (nt:=19) (rs:=[.cell 2 44]) (n:=100000) Tryz.func30 rfl rfl rfl rfl (by simp) (S ?_)
   obtain⟨v9,hv9,h⟩:=rb_ h
   refine CallH.mk [false] (tTs_ hv9) SC (S ?_)
   obtain⟨v16,hv16,h⟩:=rb_ h
   refine CallH.mk [false] (ih.2 _ _ hv16) SC (S ?_)
   cases rs_ h
   exact FinH.l SC
  ·obtain⟨h,cs⟩:=Ro_ h
   rw[tFS_] at h
   refine Sat.of_m (nt:=23) (rs:=[.tmp 2]) (n:=100000) Tryz.func66 rfl rfl rfl rfl (by simp) (S ?_)
   obtain⟨n7,hn7,h⟩:=rb_ h
   refine MknH.mk hn7 (S ?_)
   refine Mg.know_sl (b:=false) (sz:=5) (es:=a0.map (Formula.pv false)) 0 SC fun hl0=>?_; rw[List.length_map] at hl0
   replace h:=rl_ h
   refine Mg.forN h (fun i3 s3=>[(0,.val (.pv (.sl false 5 (a0.map (Formula.pv false))))),(3,.val (.own 112)),(4,.val (.pv (I (i3:Int))))]) (fun i3 s3=>[(112,(5,s3.map (Formula.pv true)))]) (Slm_ SC) (fun i3 s3 hi h=>?_) (fun s3 h=>?_)
   ·have w:=ws_ (i:=i3) (by omega)
    refine S ?_
    refine CondH.t2 cs (by omega) (fun cs=>S ?_)
    obtain⟨v18,hv18,h⟩:=rb_ h
    refine IdxH.mk (f:=(Formula.pv false)) hv18 SC (S ?_)
    obtain⟨v20,hv20,h⟩:=rb_ h
    refine CallH.mk [false] (ih.1 _ _ hv20) SC (S ?_)
    obtain⟨v21,hv21,h⟩:=rb_ h
    refine IdxH.mk (f:=(Formula.pv true)) hv21 SC (S ?_)
    obtain⟨w2,hw2,h⟩:=rb_ h
    refine EldH.mk (f:=(Formula.pv true)) hw2 rfl SC (S ?_)
    have h:=rs_ h
    refine RdH.mk ⟨_,h,?_⟩
    exact Slm_ SW
   ·refine S ?_
    refine CondH.f2 cs (by omega) (fun cs=>S ?_)
    cases rs_ h
    exact FinH.l SC
theorem tFs_{a0:Formula}{r:Formula}(h:tF_ a0=some r):Sat Tryz.prog 30 [((Formula.pv false) a0)] ((Formula.pv true) r):=by
 obtain⟨n,hn⟩:=ls_ h
 exact(tFN_1 n).1 _ _ hn
theorem tFS_2{a0:List Formula}{r:List Formula}(h:tFS_1 a0=some r):Sat Tryz.prog 66 [(.sl false 5 (a0.map (Formula.pv false)))] (.sl true 5 (r.map (Formula.pv true))):=by
 obtain⟨n,hn⟩:=ls_ h
 exact(tFN_1 n).2 _ _ hn

theorem tSs_{a0:Sequent}  {r:Sequent}(h:tS_ a0=some r):Sat Tryz.prog 42 [((Sequent.pv false) a0)] ((Sequent.pv true) r):=by
 obtain⟨h,cs⟩:=Ro_ h
 unfold tS_ at h
 refine Sat.of_m (nt:=13) (rs:=[.cell 2 39]) (n:=100000) Tryz.func42 rfl rfl rfl rfl (by simp) (S ?_)
 obtain⟨v6,hv6,h⟩:=rb_ h
 refine CallH.mk [false] (tFS_2 hv6) SC (S ?_)
 obtain⟨v10,hv10,h⟩:=rb_ h
 refine CallH.mk [false] (tFS_2 hv10) SC (S ?_)
 cases rs_ h
 exact FinH.l SC

theorem tDN_1(n:Nat):(∀ (a0:Derivation) (r:Derivation),tDN_ n a0=some r→Sat Tryz.prog 10 [((Derivation.pv false) a0)] ((Derivation.pv true) r))∧(∀ (a0:List Derivation) (r:List Derivation),tDS_ n a0=some r→Sat Tryz.prog 44 [(.sl false 12 (a0.map (Derivation.pv false)))] (.sl true 12 (r.map (Derivation.pv true)))):=by
 induction n with
 | zero=>exact⟨fun _ _ h=>by simp[tDN_] at h,fun _ _ h=>by simp[tDS_] at h⟩
 | succ n ih=>
  refine⟨fun a0 r h=>?_,fun a0 r h=>?_⟩
  ·obtain⟨h,cs⟩:=Ro_ h
   rw[tDN_] at h
   refine Sat.of_m (nt:=27) (rs:=[.cell 2 47]) (n:=100000) Tryz.func10 rfl rfl rfl rfl (by simp) (S ?_)
   obtain⟨v9,hv9,h⟩:=rb_ h
   refine CallH.mk [false] (tSs_ hv9) SC (S ?_)
   obtain⟨v16,hv16,h⟩:=rb_ h
   refine CallH.mk [false] (tTs_ hv16) SC (S ?_)
   obtain⟨v20,hv20,h⟩:=rb_ h
   refine CallH.mk [false] (tFs_ hv20) SC (S ?_)
   obtain⟨v24,hv24,h⟩:=rb_ h
   refine CallH.mk [false] (ih.2 _ _ hv24) SC (S ?_)
   cases rs_ h
   exact FinH.l SC
  ·obtain⟨h,cs⟩:=Ro_ h
   rw[tDS_] at h
   refine Sat.of_m (nt:=23) (rs:=[.tmp 2]) (n:=100000) Tryz.func44 rfl rfl rfl rfl (by simp) (S ?_)
   obtain⟨n7,hn7,h⟩:=rb_ h
   refine MknH.mk hn7 (S ?_)
   refine Mg.know_sl (b:=false) (sz:=12) (es:=a0.map (Derivation.pv false)) 0 SC fun hl0=>?_; rw[List.length_map] at hl0
   replace h:=rl_ h
   refine Mg.forN h (fun i3 s3=>[(0,.val (.pv (.sl false 12 (a0.map (Derivation.pv false))))),(3,.val (.own 112)),(4,.val (.pv (I (i3:Int))))]) (fun i3 s3=>[(112,(12,s3.map (Derivation.pv true)))]) (Slm_ SC) (fun i3 s3 hi h=>?_) (fun s3 h=>?_)
   ·have w:=ws_ (i:=i3) (by omega)
    refine S ?_
    refine CondH.t2 cs (by omega) (fun cs=>S ?_)
    obtain⟨v18,hv18,h⟩:=rb_ h
    refine IdxH.mk (f:=(Derivation.pv false)) hv18 SC (S ?_)
    obtain⟨v20,hv20,h⟩:=rb_ h
    refine CallH.mk [false] (ih.1 _ _ hv20) SC (S ?_)
    obtain⟨v21,hv21,h⟩:=rb_ h
    refine IdxH.mk (f:=(Derivation.pv true)) hv21 SC (S ?_)
    obtain⟨w2,hw2,h⟩:=rb_ h
    refine EldH.mk (f:=(Derivation.pv true)) hw2 rfl SC (S ?_)
    have h:=rs_ h
    refine RdH.mk ⟨_,h,?_⟩
    exact Slm_ SW
   ·refine S ?_
    refine CondH.f2 cs (by omega) (fun cs=>S ?_)
    cases rs_ h
    exact FinH.l SC
theorem tDs_{a0:Derivation}{r:Derivation}(h:tD_ a0=some r):Sat Tryz.prog 10 [((Derivation.pv false) a0)] ((Derivation.pv true) r):=by
 obtain⟨n,hn⟩:=ls_ h
 exact(tDN_1 n).1 _ _ hn
theorem tDS_2{a0:List Derivation}{r:List Derivation}(h:tDS_1 a0=some r):Sat Tryz.prog 44 [(.sl false 12 (a0.map (Derivation.pv false)))] (.sl true 12 (r.map (Derivation.pv true))):=by
 obtain⟨n,hn⟩:=ls_ h
 exact(tDN_1 n).2 _ _ hn

theorem tIS_{a0:List Int}  {r:List Int}(h:toIntS a0=some r):Sat Tryz.prog 18 [(.sl false 1 (a0.map I))] (.sl true 1 (r.map I)):=by
 obtain⟨h,cs⟩:=Ro_ h
 unfold toIntS at h
 refine Sat.of_m (nt:=22) (rs:=[.tmp 2]) (n:=100000) Tryz.func18 rfl rfl rfl rfl (by simp) (S ?_)
 obtain⟨n7,hn7,h⟩:=rb_ h
 refine MknH.mk hn7 (S ?_)
 refine Mg.know_sl (b:=false) (sz:=1) (es:=a0.map I) 0 SC fun hl0=>?_; rw[List.length_map] at hl0
 replace h:=rl_ h
 refine Mg.forN h (fun i3 s3=>[(0,.val (.pv (.sl false 1 (a0.map I)))),(3,.val (.own 112)),(4,.val (.pv (I (i3:Int))))]) (fun i3 s3=>[(112,(1,s3.map I))]) (Slm_ SC) (fun i3 s3 hi h=>?_) (fun s3 h=>?_)
 ·have w:=ws_ (i:=i3) (by omega)
  refine S ?_
  refine CondH.t2 cs (by omega) (fun cs=>S ?_)
  obtain⟨v18,hv18,h⟩:=rb_ h
  refine IdxH.mk (f:=I) hv18 SC (S ?_)
  obtain⟨v20,hv20,h⟩:=rb_ h
  refine IdxH.mk (f:=I) hv20 SC (S ?_)
  obtain⟨w2,hw2,h⟩:=rb_ h
  refine EldH.mk (f:=I) hw2 rfl SC (S ?_)
  have h:=rs_ h
  refine RdH.mk ⟨_,h,?_⟩
  exact Slm_ SW
 ·refine S ?_
  refine CondH.f2 cs (by omega) (fun cs=>S ?_)
  cases rs_ h
  exact FinH.l SC

theorem slS_19(n:Nat):(∀ (a0:Derivation) (a1:Int) (r:Int),slS_ n a0 a1=some r→Sat Tryz.prog 77 [((Derivation.pv false) a0),(I a1)] (I r)):=by
 induction n with
 | zero=>exact fun _ _ _ h=>by simp[slS_] at h
 | succ n ih=>
  refine fun a0 a1 r h=>?_
  obtain⟨h,cs⟩:=Ro_ h
  rw[slS_] at h
  refine Sat.of_m (nt:=31) (rs:=[.tmp 4]) (n:=100000) Tryz.func77 rfl rfl rfl rfl (by simp) (S ?_)
  refine Mkv_ (b:=false) (sz:=12) (es:=a0.Parts.map (Derivation.pv false)) (x:=(.pv ((Derivation.pv false) a0))) 0 [5] SC fun hl0=>?_; rw[List.length_map] at hl0
  replace h:=rl_ h
  refine Mg.forN h (fun i3 s3=>[(1,.val (.pv (I a1))),(2,.box (.pv ((Derivation.pv false) a0))),(5,.val (.pv (I s3))),(6,.val (.pv (I (i3:Int))))]) (fun i3 s3=>[]) (Slm_ SC) (fun i3 s3 hi h=>?_) (fun s3 h=>?_)
  ·have w:=ws_ (i:=i3) (by omega)
   refine S ?_
   refine CondH.t2 cs (by omega) (fun cs=>S ?_)
   refine CondH.run cs h (fun cs h=>S ?_) (fun cs h=>S ?_)
   ·obtain⟨v23,hv23,h⟩:=rb_ h
    refine IdxH.mk (f:=(Derivation.pv false)) hv23 SC (S ?_)
    obtain⟨v28,hv28,h⟩:=rb_ h
    refine CallH.mk [false,false] (ih _ _ _ hv28) SC (S ?_)
    have h:=rs_ h
    refine RdH.mk ⟨_,h,?_⟩
    exact Slm_ SW
   ·cases rs_ h
    exact FinH.l SC
  ·refine S ?_
   refine CondH.f2 cs (by omega) (fun cs=>S ?_)
   cases rs_ h
   exact FinH.l SC
theorem slS_22{a0:Derivation}{a1:Int}{r:Int}(h:slS_18 a0 a1=some r):Sat Tryz.prog 77 [((Derivation.pv false) a0),(I a1)] (I r):=by
 obtain⟨n,hn⟩:=ls_ h
 exact(slS_19 n) _ _ _ hn

theorem slM_8(n:Nat):(∀ (a0:Formula) (a1:Int) (r:Int),slM_ n a0 a1=some r→Sat Tryz.prog 104 [((Formula.pv false) a0),(I a1)] (I r)):=by
 induction n with
 | zero=>exact fun _ _ _ h=>by simp[slM_] at h
 | succ n ih=>
  refine fun a0 a1 r h=>?_
  obtain⟨h,cs⟩:=Ro_ h
  rw[slM_] at h
  refine Sat.of_m (nt:=31) (rs:=[.tmp 4]) (n:=100000) Tryz.func104 rfl rfl rfl rfl (by simp) (S ?_)
  refine Mkv_ (b:=false) (sz:=5) (es:=a0.Parts.map (Formula.pv false)) (x:=(.pv ((Formula.pv false) a0))) 0 [3] SC fun hl0=>?_; rw[List.length_map] at hl0
  replace h:=rl_ h
  refine Mg.forN h (fun i3 s3=>[(1,.val (.pv (I a1))),(2,.box (.pv ((Formula.pv false) a0))),(5,.val (.pv (I s3))),(6,.val (.pv (I (i3:Int))))]) (fun i3 s3=>[]) (Slm_ SC) (fun i3 s3 hi h=>?_) (fun s3 h=>?_)
  ·have w:=ws_ (i:=i3) (by omega)
   refine S ?_
   refine CondH.t2 cs (by omega) (fun cs=>S ?_)
   refine CondH.run cs h (fun cs h=>S ?_) (fun cs h=>S ?_)
   ·obtain⟨v23,hv23,h⟩:=rb_ h
    refine IdxH.mk (f:=(Formula.pv false)) hv23 SC (S ?_)
    obtain⟨v28,hv28,h⟩:=rb_ h
    refine CallH.mk [false,false] (ih _ _ _ hv28) SC (S ?_)
    have h:=rs_ h
    refine RdH.mk ⟨_,h,?_⟩
    exact Slm_ SW
   ·cases rs_ h
    exact FinH.l SC
  ·refine S ?_
   refine CondH.f2 cs (by omega) (fun cs=>S ?_)
   cases rs_ h
   exact FinH.l SC
theorem slM_11{a0:Formula}{a1:Int}{r:Int}(h:slM_5 a0 a1=some r):Sat Tryz.prog 104 [((Formula.pv false) a0),(I a1)] (I r):=by
 obtain⟨n,hn⟩:=ls_ h
 exact(slM_8 n) _ _ _ hn

theorem slN_2{a0:Term}  {r:Bool}(h:slN_3 a0=some r):Sat Tryz.prog 152 [((Term.pv false) a0)] (B r):=by
 obtain⟨h,cs⟩:=Ro_ h
 unfold slN_3 at h
 refine Sat.of_m (nt:=12) (rs:=[.tmp 2]) (n:=100000) Tryz.func152 rfl rfl rfl rfl (by simp) (S ?_)
 refine CondH.run cs h (fun cs h=>S ?_) (fun cs h=>S ?_)
 ·cases rs_ h
  exact FinH.l SC
 ·cases rs_ h
  exact FinH.l SC

theorem slM_9(n:Nat):(∀ (a0:Term) (a1:Int) (r:Int),slM_1 n a0 a1=some r→Sat Tryz.prog 187 [((Term.pv false) a0),(I a1)] (I r)):=by
 induction n with
 | zero=>exact fun _ _ _ h=>by simp[slM_1] at h
 | succ n ih=>
  refine fun a0 a1 r h=>?_
  obtain⟨h,cs⟩:=Ro_ h
  rw[slM_1] at h
  refine Sat.of_m (nt:=31) (rs:=[.tmp 4]) (n:=100000) Tryz.func187 rfl rfl rfl rfl (by simp) (S ?_)
  refine Mkv_ (b:=false) (sz:=2) (es:=a0.Args.map (Term.pv false)) (x:=(.pv ((Term.pv false) a0))) 0 [1] SC fun hl0=>?_; rw[List.length_map] at hl0
  replace h:=rl_ h
  refine Mg.forN h (fun i3 s3=>[(1,.val (.pv (I a1))),(2,.box (.pv ((Term.pv false) a0))),(5,.val (.pv (I s3))),(6,.val (.pv (I (i3:Int))))]) (fun i3 s3=>[]) (Slm_ SC) (fun i3 s3 hi h=>?_) (fun s3 h=>?_)
  ·have w:=ws_ (i:=i3) (by omega)
   refine S ?_
   refine CondH.t2 cs (by omega) (fun cs=>S ?_)
   refine CondH.run cs h (fun cs h=>S ?_) (fun cs h=>S ?_)
   ·obtain⟨v23,hv23,h⟩:=rb_ h
    refine IdxH.mk (f:=(Term.pv false)) hv23 SC (S ?_)
    obtain⟨v28,hv28,h⟩:=rb_ h
    refine CallH.mk [false,false] (ih _ _ _ hv28) SC (S ?_)
    have h:=rs_ h
    refine RdH.mk ⟨_,h,?_⟩
    exact Slm_ SW
   ·cases rs_ h
    exact FinH.l SC
  ·refine S ?_
   refine CondH.f2 cs (by omega) (fun cs=>S ?_)
   cases rs_ h
   exact FinH.l SC
theorem slM_12{a0:Term}{a1:Int}{r:Int}(h:slM_6 a0 a1=some r):Sat Tryz.prog 187 [((Term.pv false) a0),(I a1)] (I r):=by
 obtain⟨n,hn⟩:=ls_ h
 exact(slM_9 n) _ _ _ hn

theorem slM_13{a0:Int}{a1:Int}  {r:Int}(h:slM_3 a0 a1=some r):Sat Tryz.prog 196 [(I a0),(I a1)] (I r):=by
 obtain⟨h,cs⟩:=Ro_ h
 unfold slM_3 at h
 refine Sat.of_m (nt:=10) (rs:=[.tmp 4]) (n:=100000) Tryz.func196 rfl rfl rfl rfl (by simp) (S ?_)
 refine CondH.run cs h (fun cs h=>S ?_) (fun cs h=>S ?_)
 ·cases rs_ h
  exact FinH.l SC
 ·cases rs_ h
  exact FinH.l SC

theorem slD_2(n:Nat):(∀ (a0:Term) (r:Int),slD_ n a0=some r→Sat Tryz.prog 188 [((Term.pv false) a0)] (I r)):=by
 induction n with
 | zero=>exact fun _ _ h=>by simp[slD_] at h
 | succ n ih=>
  refine fun a0 r h=>?_
  obtain⟨h,cs⟩:=Ro_ h
  rw[slD_] at h
  refine Sat.of_m (nt:=22) (rs:=[.tmp 2]) (n:=100000) Tryz.func188 rfl rfl rfl rfl (by simp) (S ?_)
  refine Mkv_ (b:=false) (sz:=2) (es:=a0.Args.map (Term.pv false)) (x:=(.pv ((Term.pv false) a0))) 0 [1] SC fun hl0=>?_; rw[List.length_map] at hl0
  replace h:=rl_ h
  refine Mg.forN h (fun i3 s3=>[(1,.box (.pv ((Term.pv false) a0))),(3,.val (.pv (I s3))),(4,.val (.pv (I (i3:Int))))]) (fun i3 s3=>[]) (Slm_ SC) (fun i3 s3 hi h=>?_) (fun s3 h=>?_)
  ·have w:=ws_ (i:=i3) (by omega)
   refine S ?_
   refine CondH.t2 cs (by omega) (fun cs=>S ?_)
   obtain⟨v16,hv16,h⟩:=rb_ h
   refine IdxH.mk (f:=(Term.pv false)) hv16 SC (S ?_)
   obtain⟨v18,hv18,h⟩:=rb_ h
   refine CallH.mk [false] (ih _ _ hv18) SC (S ?_)
   obtain⟨v19,hv19,h⟩:=rb_ h
   refine CallH.mk [false,false] (slM_13 hv19) SC (S ?_)
   have h:=rs_ h
   refine RdH.mk ⟨_,h,?_⟩
   exact Slm_ SW
  ·refine S ?_
   refine CondH.f2 cs (by omega) (fun cs=>S ?_)
   cases rs_ h
   exact FinH.l SC
theorem slD_3{a0:Term}{r:Int}(h:slD_1 a0=some r):Sat Tryz.prog 188 [((Term.pv false) a0)] (I r):=by
 obtain⟨n,hn⟩:=ls_ h
 exact(slD_2 n) _ _ hn

theorem slF_7{a0:Term}  {r:Bool}(h:slF_2 a0=some r):Sat Tryz.prog 170 [((Term.pv false) a0)] (B r):=by
 obtain⟨h,cs⟩:=Ro_ h
 unfold slF_2 at h
 refine Sat.of_m (nt:=11) (rs:=[.tmp 2]) (n:=100000) Tryz.func170 rfl rfl rfl rfl (by simp) (S ?_)
 obtain⟨v4,hv4,h⟩:=rb_ h
 refine CallH.mk [false,false] (slM_12 hv4) SC (S ?_)
 refine CondH.run cs h (fun cs h=>S ?_) (fun cs h=>S ?_)
 ·obtain⟨v8,hv8,h⟩:=rb_ h
  refine CallH.mk [false] (slD_3 hv8) SC (S ?_)
  cases rs_ h
  exact FinH.l SC
 ·cases rs_ h
  exact FinH.l SC

theorem slI_1{a0:Int}{a1:Int}{a2:Int}  {r:Bool}(h:slI_3 a0 a1 a2=some r):Sat Tryz.prog 53 [(I a0),(I a1),(I a2)] (B r):=by
 obtain⟨h,cs⟩:=Ro_ h
 unfold slI_3 at h
 refine Sat.of_m (nt:=15) (rs:=[.tmp 6]) (n:=100000) Tryz.func53 rfl rfl rfl rfl (by simp) (S ?_)
 refine CondH.run cs h (fun cs h=>S ?_) (fun cs h=>S ?_)
 ·cases rs_ h
  exact FinH.l SC
 ·cases rs_ h
  exact FinH.l SC

theorem slS_14{a0:Int}  {r:Bool}(h:slS_6 a0=some r):Sat Tryz.prog 174 [((Ik .u8) a0)] (B r):=by
 obtain⟨h,cs⟩:=Ro_ h
 unfold slS_6 at h
 refine Sat.of_m (nt:=17) (rs:=[.tmp 2]) (n:=100000) Tryz.func174 rfl rfl rfl rfl (by simp) (S ?_)
 refine CondH.run cs h (fun cs h=>S ?_) (fun cs h=>S ?_)
 ·refine CondH.run cs h (fun cs h=>S ?_) (fun cs h=>S ?_)
  ·cases rs_ h
   exact FinH.l SC
  ·refine CondH.run cs h (fun cs h=>S ?_) (fun cs h=>S ?_)
   ·cases rs_ h
    exact FinH.l SC
   ·cases rs_ h
    exact FinH.l SC
 ·refine CondH.run cs h (fun cs h=>S ?_) (fun cs h=>S ?_)
  ·cases rs_ h
   exact FinH.l SC
  ·cases rs_ h
   exact FinH.l SC

theorem slV_2{a0:ByteArray}  {r:Bool}(h:slV_ a0=some r):Sat Tryz.prog 154 [(Sx a0)] (B r):=by
 obtain⟨h,cs⟩:=Ro_ h
 unfold slV_ at h
 refine Sat.of_m (nt:=29) (rs:=[.tmp 2]) (n:=100000) Tryz.func154 rfl rfl rfl rfl (by simp) (S ?_)
 obtain⟨v6,hv6,h⟩:=rb_ h
 refine CallH.mk [false,false,false] (slI_1 hv6) SC (S ?_)
 refine CondH.run cs h (fun cs h=>S ?_) (fun cs h=>S ?_)
 ·obtain⟨v10,hv10,h⟩:=rb_ h
  refine SidxH.mk hv10 (S ?_)
  refine CondH.run cs h (fun cs h=>S ?_) (fun cs h=>S ?_)
  ·cases rs_ h
   exact FinH.l SC
  ·obtain⟨v15,hv15,h⟩:=rb_ h
   refine SidxH.mk hv15 (S ?_)
   refine CondH.run cs h (fun cs h=>S ?_) (fun cs h=>S ?_)
   ·cases rs_ h
    exact FinH.l SC
   ·obtain⟨N4,hN4,h⟩:=rb_ h
    obtain⟨hN4a,hN4b⟩:=bs_ hN4
    replace h:=rl_ h
    refine MfA_ (N:=N4) (a:=1) h (fun i4 s4=>[(0,.val (.pv (Sx a0))),(3,.val (.pv (I (i4:Int))))]) (fun i4 s4=>[]) (Slm_ SC) (fun i4 s4 hi hj h=>?_) (fun j4 s4 hj h=>?_)
    ·have w:=ws_ (i:=i4) (by omega)
     refine S ?_
     refine CondH.t2 cs (by omega) (fun cs=>S ?_)
     obtain⟨v26,hv26,h⟩:=rb_ h
     refine SidxH.mk hv26 (S ?_)
     obtain⟨v27,hv27,h⟩:=rb_ h
     refine CallH.mk [false] (slS_14 hv27) SC (S ?_)
     refine CondH.run cs h (fun cs h=>S ?_) (fun cs h=>S ?_)
     ·have h:=rs_ h
      refine RdH.mk ⟨_,h,?_⟩
      exact Slm_ SW
     ·cases rs_ h
      exact FinH.l SC
    ·refine S ?_
     refine CondH.f2 cs (by omega) (fun cs=>S ?_)
     cases rs_ h
     exact FinH.l SC
 ·cases rs_ h
  exact FinH.l SC

theorem slS_12{a0:ByteArray}  {r:Bool}(h:slS_4 a0=some r):Sat Tryz.prog 172 [(Sx a0)] (B r):=by
 obtain⟨h,cs⟩:=Ro_ h
 unfold slS_4 at h
 refine Sat.of_m (nt:=45) (rs:=[.tmp 2]) (n:=100000) Tryz.func172 rfl rfl rfl rfl (by simp) (S ?_)
 obtain⟨v6,hv6,h⟩:=rb_ h
 refine CallH.mk [false,false,false] (slI_1 hv6) SC (S ?_)
 refine CondH.run cs h (fun cs h=>S ?_) (fun cs h=>S ?_)
 ·obtain⟨v10,hv10,h⟩:=rb_ h
  refine SidxH.mk hv10 (S ?_)
  refine CondH.run cs h (fun cs h=>S ?_) (fun cs h=>S ?_)
  ·cases rs_ h
   exact FinH.l SC
  ·obtain⟨v15,hv15,h⟩:=rb_ h
   refine SidxH.mk hv15 (S ?_)
   refine CondH.run cs h (fun cs h=>S ?_) (fun cs h=>S ?_)
   ·cases rs_ h
    exact FinH.l SC
   ·refine CondH.run cs h (fun cs h=>S ?_) (fun cs h=>S ?_)
    ·cases rs_ h
     exact FinH.l SC
    ·refine CondH.run cs h (fun cs h=>S ?_) (fun cs h=>S ?_)
     ·cases rs_ h
      exact FinH.l SC
     ·refine CondH.run cs h (fun cs h=>S ?_) (fun cs h=>S ?_)
      ·cases rs_ h
       exact FinH.l SC
      ·refine CondH.run cs h (fun cs h=>S ?_) (fun cs h=>S ?_)
       ·cases rs_ h
        exact FinH.l SC
       ·refine CondH.run cs h (fun cs h=>S ?_) (fun cs h=>S ?_)
        ·cases rs_ h
         exact FinH.l SC
        ·refine CondH.run cs h (fun cs h=>S ?_) (fun cs h=>S ?_)
         ·cases rs_ h
          exact FinH.l SC
         ·refine CondH.run cs h (fun cs h=>S ?_) (fun cs h=>S ?_)
          ·cases rs_ h
           exact FinH.l SC
          ·refine CondH.run cs h (fun cs h=>S ?_) (fun cs h=>S ?_)
           ·cases rs_ h
            exact FinH.l SC
           ·obtain⟨N14,hN14,h⟩:=rb_ h
            obtain⟨hN14a,hN14b⟩:=bs_ hN14
            replace h:=rl_ h
            refine MfA_ (N:=N14) (a:=1) h (fun i14 s14=>[(0,.val (.pv (Sx a0))),(3,.val (.pv (I (i14:Int))))]) (fun i14 s14=>[]) (Slm_ SC) (fun i14 s14 hi hj h=>?_) (fun j14 s14 hj h=>?_)
            ·have w:=ws_ (i:=i14) (by omega)
             refine S ?_
             refine CondH.t2 cs (by omega) (fun cs=>S ?_)
             obtain⟨v36,hv36,h⟩:=rb_ h
             refine SidxH.mk hv36 (S ?_)
             obtain⟨v37,hv37,h⟩:=rb_ h
             refine CallH.mk [false] (slS_14 hv37) SC (S ?_)
             refine CondH.run cs h (fun cs h=>S ?_) (fun cs h=>S ?_)
             ·have h:=rs_ h
              refine RdH.mk ⟨_,h,?_⟩
              exact Slm_ SW
             ·obtain⟨v42,hv42,h⟩:=rb_ h
              refine SidxH.mk hv42 (S ?_)
              refine CondH.run cs h (fun cs h=>S ?_) (fun cs h=>S ?_)
              ·have h:=rs_ h
               refine RdH.mk ⟨_,h,?_⟩
               exact Slm_ SW
              ·cases rs_ h
               exact FinH.l SC
            ·refine S ?_
             refine CondH.f2 cs (by omega) (fun cs=>S ?_)
             cases rs_ h
             exact FinH.l SC
 ·cases rs_ h
  exact FinH.l SC

theorem slN_10(n:Nat):(∀ (a0:Term) (r:Bool),slN_4 n a0=some r→Sat Tryz.prog 171 [((Term.pv false) a0)] (B r)):=by
 induction n with
 | zero=>exact fun _ _ h=>by simp[slN_4] at h
 | succ n ih=>
  refine fun a0 r h=>?_
  obtain⟨h,cs⟩:=Ro_ h
  rw[slN_4] at h
  refine Sat.of_m (nt:=35) (rs:=[.tmp 2]) (n:=100000) Tryz.func171 rfl rfl rfl rfl (by simp) (S ?_)
  obtain⟨v6,hv6,h⟩:=rb_ h
  refine CallH.mk [false] (slV_2 hv6) SC (S ?_)
  refine CondH.run cs h (fun cs h=>S ?_) (fun cs h=>S ?_)
  ·cases rs_ h
   exact FinH.l SC
  ·obtain⟨v13,hv13,h⟩:=rb_ h
   refine CallH.mk [false] (slS_12 hv13) SC (S ?_)
   refine CondH.run cs h (fun cs h=>S ?_) (fun cs h=>S ?_)
   ·refine CondH.run cs h (fun cs h=>S ?_) (fun cs h=>S ?_)
    ·cases rs_ h
     exact FinH.l SC
    ·refine Mg.know_sl (b:=false) (sz:=2) (es:=a0.Args.map (Term.pv false)) 17 SC fun hl17=>?_; rw[List.length_map] at hl17
     replace h:=rl_ h
     refine Mg.forN h (fun i6 s6=>[(1,.box (.pv ((Term.pv false) a0))),(3,.val (.pv (I (i6:Int))))]) (fun i6 s6=>[]) (Slm_ SC) (fun i6 s6 hi h=>?_) (fun s6 h=>?_)
     ·have w:=ws_ (i:=i6) (by omega)
      refine S ?_
      refine CondH.t2 cs (by omega) (fun cs=>S ?_)
      obtain⟨v31,hv31,h⟩:=rb_ h
      refine IdxH.mk (f:=(Term.pv false)) hv31 SC (S ?_)
      obtain⟨v33,hv33,h⟩:=rb_ h
      refine CallH.mk [false] (ih _ _ hv33) SC (S ?_)
      refine CondH.run cs h (fun cs h=>S ?_) (fun cs h=>S ?_)
      ·have h:=rs_ h
       refine RdH.mk ⟨_,h,?_⟩
       exact Slm_ SW
      ·cases rs_ h
       exact FinH.l SC
     ·refine S ?_
      refine CondH.f2 cs (by omega) (fun cs=>S ?_)
      cases rs_ h
      exact FinH.l SC
   ·cases rs_ h
    exact FinH.l SC
theorem slN_8{a0:Term}{r:Bool}(h:slN_6 a0=some r):Sat Tryz.prog 171 [((Term.pv false) a0)] (B r):=by
 obtain⟨n,hn⟩:=ls_ h
 exact(slN_10 n) _ _ hn

theorem slG_5{a0:Term}  {r:Bool}(h:slG_2 a0=some r):Sat Tryz.prog 173 [((Term.pv false) a0)] (B r):=by
 obtain⟨h,cs⟩:=Ro_ h
 unfold slG_2 at h
 refine Sat.of_m (nt:=9) (rs:=[.tmp 2]) (n:=100000) Tryz.func173 rfl rfl rfl rfl (by simp) (S ?_)
 obtain⟨v4,hv4,h⟩:=rb_ h
 refine CallH.mk [false] (slF_7 hv4) SC (S ?_)
 refine CondH.run cs h (fun cs h=>S ?_) (fun cs h=>S ?_)
 ·obtain⟨v7,hv7,h⟩:=rb_ h
  refine CallH.mk [false] (slN_8 hv7) SC (S ?_)
  cases rs_ h
  exact FinH.l SC
 ·cases rs_ h
  exact FinH.l SC

theorem slA_3{a0:Term}  {r:Bool}(h:slA_1 a0=some r):Sat Tryz.prog 153 [((Term.pv false) a0)] (B r):=by
 obtain⟨h,cs⟩:=Ro_ h
 unfold slA_1 at h
 refine Sat.of_m (nt:=35) (rs:=[.tmp 2]) (n:=100000) Tryz.func153 rfl rfl rfl rfl (by simp) (S ?_)
 refine CondH.run cs h (fun cs h=>S ?_) (fun cs h=>S ?_)
 ·refine CondH.run cs h (fun cs h=>S ?_) (fun cs h=>S ?_)
  ·obtain⟨v12,hv12,h⟩:=rb_ h
   refine CallH.mk [false] (slF_7 hv12) SC (S ?_)
   refine CondH.run cs h (fun cs h=>S ?_) (fun cs h=>S ?_)
   ·obtain⟨v17,hv17,h⟩:=rb_ h
    refine IdxH.mk (f:=(Term.pv false)) hv17 SC (S ?_)
    obtain⟨v19,hv19,h⟩:=rb_ h
    refine CallH.mk [false] (slN_8 hv19) SC (S ?_)
    refine CondH.run cs h (fun cs h=>S ?_) (fun cs h=>S ?_)
    ·obtain⟨v24,hv24,h⟩:=rb_ h
     refine IdxH.mk (f:=(Term.pv false)) hv24 SC (S ?_)
     obtain⟨v26,hv26,h⟩:=rb_ h
     refine CallH.mk [false] (slN_8 hv26) SC (S ?_)
     cases rs_ h
     exact FinH.l SC
    ·cases rs_ h
     exact FinH.l SC
   ·cases rs_ h
    exact FinH.l SC
  ·cases rs_ h
   exact FinH.l SC
 ·obtain⟨v30,hv30,h⟩:=rb_ h
  refine CallH.mk [false] (slS_12 hv30) SC (S ?_)
  refine CondH.run cs h (fun cs h=>S ?_) (fun cs h=>S ?_)
  ·obtain⟨v33,hv33,h⟩:=rb_ h
   refine CallH.mk [false] (slG_5 hv33) SC (S ?_)
   cases rs_ h
   exact FinH.l SC
  ·cases rs_ h
   exact FinH.l SC

theorem slF_10{a0:Formula}  {r:Bool}(h:slF_3 a0=some r):Sat Tryz.prog 133 [((Formula.pv false) a0)] (B r):=by
 obtain⟨h,cs⟩:=Ro_ h
 unfold slF_3 at h
 refine Sat.of_m (nt:=83) (rs:=[.tmp 2]) (n:=100000) Tryz.func133 rfl rfl rfl rfl (by simp) (S ?_)
 refine CondH.run cs h (fun cs h=>S ?_) (fun cs h=>S ?_)
 ·refine CondH.run cs h (fun cs h=>S ?_) (fun cs h=>S ?_)
  ·obtain⟨v17,hv17,h⟩:=rb_ h
   refine CallH.mk [false] (slN_2 hv17) SC (S ?_)
   refine CondH.run cs h (fun cs h=>S ?_) (fun cs h=>S ?_)
   ·cases rs_ h
    exact FinH.l SC
   ·cases rs_ h
    exact FinH.l SC
  ·cases rs_ h
   exact FinH.l SC
 ·refine CondH.run cs h (fun cs h=>S ?_) (fun cs h=>S ?_)
  ·refine CondH.run cs h (fun cs h=>S ?_) (fun cs h=>S ?_)
   ·obtain⟨v17,hv17,h⟩:=rb_ h
    refine CallH.mk [false] (slN_2 hv17) SC (S ?_)
    refine CondH.run cs h (fun cs h=>S ?_) (fun cs h=>S ?_)
    ·cases rs_ h
     exact FinH.l SC
    ·cases rs_ h
     exact FinH.l SC
   ·cases rs_ h
    exact FinH.l SC
  ·refine CondH.run cs h (fun cs h=>S ?_) (fun cs h=>S ?_)
   ·refine CondH.run cs h (fun cs h=>S ?_) (fun cs h=>S ?_)
    ·obtain⟨v31,hv31,h⟩:=rb_ h
     refine CallH.mk [false] (slA_3 hv31) SC (S ?_)
     refine CondH.run cs h (fun cs h=>S ?_) (fun cs h=>S ?_)
     ·cases rs_ h
      exact FinH.l SC
     ·cases rs_ h
      exact FinH.l SC
    ·cases rs_ h
     exact FinH.l SC
   ·refine CondH.run cs h (fun cs h=>S ?_) (fun cs h=>S ?_)
    ·refine CondH.run cs h (fun cs h=>S ?_) (fun cs h=>S ?_)
     ·obtain⟨v45,hv45,h⟩:=rb_ h
      refine CallH.mk [false] (slN_2 hv45) SC (S ?_)
      refine CondH.run cs h (fun cs h=>S ?_) (fun cs h=>S ?_)
      ·cases rs_ h
       exact FinH.l SC
      ·cases rs_ h
       exact FinH.l SC
     ·cases rs_ h
      exact FinH.l SC
    ·refine CondH.run cs h (fun cs h=>S ?_) (fun cs h=>S ?_)
     ·refine CondH.run cs h (fun cs h=>S ?_) (fun cs h=>S ?_)
      ·obtain⟨v61,hv61,h⟩:=rb_ h
       refine CallH.mk [false] (slN_2 hv61) SC (S ?_)
       refine CondH.run cs h (fun cs h=>S ?_) (fun cs h=>S ?_)
       ·cases rs_ h
        exact FinH.l SC
       ·cases rs_ h
        exact FinH.l SC
      ·cases rs_ h
       exact FinH.l SC
     ·refine CondH.run cs h (fun cs h=>S ?_) (fun cs h=>S ?_)
      ·refine CondH.run cs h (fun cs h=>S ?_) (fun cs h=>S ?_)
       ·obtain⟨v61,hv61,h⟩:=rb_ h
        refine CallH.mk [false] (slN_2 hv61) SC (S ?_)
        refine CondH.run cs h (fun cs h=>S ?_) (fun cs h=>S ?_)
        ·cases rs_ h
         exact FinH.l SC
        ·cases rs_ h
         exact FinH.l SC
       ·cases rs_ h
        exact FinH.l SC
      ·refine CondH.run cs h (fun cs h=>S ?_) (fun cs h=>S ?_)
       ·refine CondH.run cs h (fun cs h=>S ?_) (fun cs h=>S ?_)
        ·obtain⟨v61,hv61,h⟩:=rb_ h
         refine CallH.mk [false] (slN_2 hv61) SC (S ?_)
         refine CondH.run cs h (fun cs h=>S ?_) (fun cs h=>S ?_)
         ·cases rs_ h
          exact FinH.l SC
         ·cases rs_ h
          exact FinH.l SC
        ·cases rs_ h
         exact FinH.l SC
       ·refine CondH.run cs h (fun cs h=>S ?_) (fun cs h=>S ?_)
        ·refine CondH.run cs h (fun cs h=>S ?_) (fun cs h=>S ?_)
         ·obtain⟨v76,hv76,h⟩:=rb_ h
          refine CallH.mk [false] (slN_2 hv76) SC (S ?_)
          refine CondH.run cs h (fun cs h=>S ?_) (fun cs h=>S ?_)
          ·obtain⟨v81,hv81,h⟩:=rb_ h
           refine CallH.mk [false] (slV_2 hv81) SC (S ?_)
           cases rs_ h
           exact FinH.l SC
          ·cases rs_ h
           exact FinH.l SC
         ·cases rs_ h
          exact FinH.l SC
        ·refine CondH.run cs h (fun cs h=>S ?_) (fun cs h=>S ?_)
         ·refine CondH.run cs h (fun cs h=>S ?_) (fun cs h=>S ?_)
          ·obtain⟨v76,hv76,h⟩:=rb_ h
           refine CallH.mk [false] (slN_2 hv76) SC (S ?_)
           refine CondH.run cs h (fun cs h=>S ?_) (fun cs h=>S ?_)
           ·obtain⟨v81,hv81,h⟩:=rb_ h
            refine CallH.mk [false] (slV_2 hv81) SC (S ?_)
            cases rs_ h
            exact FinH.l SC
           ·cases rs_ h
            exact FinH.l SC
          ·cases rs_ h
           exact FinH.l SC
         ·cases rs_ h
          exact FinH.l SC

theorem slF_8(n:Nat):(∀ (a0:Formula) (r:Bool),slF_ n a0=some r→Sat Tryz.prog 105 [((Formula.pv false) a0)] (B r)):=by
 induction n with
 | zero=>exact fun _ _ h=>by simp[slF_] at h
 | succ n ih=>
  refine fun a0 r h=>?_
  obtain⟨h,cs⟩:=Ro_ h
  rw[slF_] at h
  refine Sat.of_m (nt:=21) (rs:=[.tmp 2]) (n:=100000) Tryz.func105 rfl rfl rfl rfl (by simp) (S ?_)
  obtain⟨v5,hv5,h⟩:=rb_ h
  refine CallH.mk [false] (slF_10 hv5) SC (S ?_)
  refine CondH.run cs h (fun cs h=>S ?_) (fun cs h=>S ?_)
  ·refine Mkv_ (b:=false) (sz:=5) (es:=a0.Parts.map (Formula.pv false)) (x:=(.pv ((Formula.pv false) a0))) 0 [3] SC fun hl0=>?_; rw[List.length_map] at hl0
   replace h:=rl_ h
   refine Mg.forN h (fun i4 s4=>[(1,.box (.pv ((Formula.pv false) a0))),(3,.val (.pv (I (i4:Int))))]) (fun i4 s4=>[]) (Slm_ SC) (fun i4 s4 hi h=>?_) (fun s4 h=>?_)
   ·have w:=ws_ (i:=i4) (by omega)
    refine S ?_
    refine CondH.t2 cs (by omega) (fun cs=>S ?_)
    obtain⟨v17,hv17,h⟩:=rb_ h
    refine IdxH.mk (f:=(Formula.pv false)) hv17 SC (S ?_)
    obtain⟨v19,hv19,h⟩:=rb_ h
    refine CallH.mk [false] (ih _ _ hv19) SC (S ?_)
    refine CondH.run cs h (fun cs h=>S ?_) (fun cs h=>S ?_)
    ·have h:=rs_ h
     refine RdH.mk ⟨_,h,?_⟩
     exact Slm_ SW
    ·cases rs_ h
     exact FinH.l SC
   ·refine S ?_
    refine CondH.f2 cs (by omega) (fun cs=>S ?_)
    cases rs_ h
    exact FinH.l SC
  ·cases rs_ h
   exact FinH.l SC
theorem slF_9{a0:Formula}{r:Bool}(h:slF_6 a0=some r):Sat Tryz.prog 105 [((Formula.pv false) a0)] (B r):=by
 obtain⟨n,hn⟩:=ls_ h
 exact(slF_8 n) _ _ hn

theorem slG_3{a0:Formula}  {r:Bool}(h:slG_1 a0=some r):Sat Tryz.prog 64 [((Formula.pv false) a0)] (B r):=by
 obtain⟨h,cs⟩:=Ro_ h
 unfold slG_1 at h
 refine Sat.of_m (nt:=10) (rs:=[.tmp 2]) (n:=100000) Tryz.func64 rfl rfl rfl rfl (by simp) (S ?_)
 obtain⟨v4,hv4,h⟩:=rb_ h
 refine CallH.mk [false,false] (slM_11 hv4) SC (S ?_)
 refine CondH.run cs h (fun cs h=>S ?_) (fun cs h=>S ?_)
 ·obtain⟨v8,hv8,h⟩:=rb_ h
  refine CallH.mk [false] (slF_9 hv8) SC (S ?_)
  cases rs_ h
  exact FinH.l SC
 ·cases rs_ h
  exact FinH.l SC

theorem slS_16{a0:List Formula}  {r:Bool}(h:slS_8 a0=some r):Sat Tryz.prog 122 [(.sl false 5 (a0.map (Formula.pv false)))] (B r):=by
 obtain⟨h,cs⟩:=Ro_ h
 unfold slS_8 at h
 refine Sat.of_m (nt:=23) (rs:=[.tmp 2]) (n:=100000) Tryz.func122 rfl rfl rfl rfl (by simp) (S ?_)
 refine Mg.know_sl (b:=false) (sz:=5) (es:=a0.map (Formula.pv false)) 0 SC fun hl0=>?_; rw[List.length_map] at hl0
 replace h:=rl_ h
 refine Mg.forN h (fun i2 s2=>[(0,.val (.pv (.sl false 5 (a0.map (Formula.pv false))))),(3,.val (.pv (I (i2:Int))))]) (fun i2 s2=>[]) (Slm_ SC) (fun i2 s2 hi h=>?_) (fun s2 h=>?_)
 ·have w:=ws_ (i:=i2) (by omega)
  refine S ?_
  refine CondH.t2 cs (by omega) (fun cs=>S ?_)
  refine CondH.run cs h (fun cs h=>S ?_) (fun cs h=>S ?_)
  ·obtain⟨v16,hv16,h⟩:=rb_ h
   refine IdxH.mk (f:=(Formula.pv false)) hv16 SC (S ?_)
   obtain⟨v18,hv18,h⟩:=rb_ h
   refine CallH.mk [false] (slG_3 hv18) SC (S ?_)
   refine CondH.run cs h (fun cs h=>S ?_) (fun cs h=>S ?_)
   ·have h:=rs_ h
    refine RdH.mk ⟨_,h,?_⟩
    exact Slm_ SW
   ·cases rs_ h
    exact FinH.l SC
  ·cases rs_ h
   exact FinH.l SC
 ·refine S ?_
  refine CondH.f2 cs (by omega) (fun cs=>S ?_)
  cases rs_ h
  exact FinH.l SC

theorem slG_4{a0:Sequent}  {r:Bool}(h:slG_ a0=some r):Sat Tryz.prog 94 [((Sequent.pv false) a0)] (B r):=by
 obtain⟨h,cs⟩:=Ro_ h
 unfold slG_ at h
 refine Sat.of_m (nt:=11) (rs:=[.tmp 2]) (n:=100000) Tryz.func94 rfl rfl rfl rfl (by simp) (S ?_)
 obtain⟨v5,hv5,h⟩:=rb_ h
 refine CallH.mk [false] (slS_16 hv5) SC (S ?_)
 refine CondH.run cs h (fun cs h=>S ?_) (fun cs h=>S ?_)
 ·obtain⟨v9,hv9,h⟩:=rb_ h
  refine CallH.mk [false] (slS_16 hv9) SC (S ?_)
  cases rs_ h
  exact FinH.l SC
 ·cases rs_ h
  exact FinH.l SC

theorem slS_21(n:Nat):(∀ (a0:Term) (a1:Term) (r:Bool),slS_3 n a0 a1=some r→Sat Tryz.prog 147 [((Term.pv false) a0),((Term.pv false) a1)] (B r)):=by
 induction n with
 | zero=>exact fun _ _ _ h=>by simp[slS_3] at h
 | succ n ih=>
  refine fun a0 a1 r h=>?_
  obtain⟨h,cs⟩:=Ro_ h
  rw[slS_3] at h
  refine Sat.of_m (nt:=39) (rs:=[.tmp 4]) (n:=100000) Tryz.func147 rfl rfl rfl rfl (by simp) (S ?_)
  refine CondH.run cs h (fun cs h=>S ?_) (fun cs h=>S ?_)
  ·refine CondH.run cs h (fun cs h=>S ?_) (fun cs h=>S ?_)
   ·refine Mg.know_sl (b:=false) (sz:=2) (es:=a0.Args.map (Term.pv false)) 13 SC fun hl13=>?_; rw[List.length_map] at hl13
    replace h:=rl_ h
    refine Mg.forN h (fun i4 s4=>[(2,.box (.pv ((Term.pv false) a0))),(3,.box (.pv ((Term.pv false) a1))),(5,.val (.pv (I (i4:Int))))]) (fun i4 s4=>[]) (Slm_ SC) (fun i4 s4 hi h=>?_) (fun s4 h=>?_)
    ·have w:=ws_ (i:=i4) (by omega)
     refine S ?_
     refine CondH.t2 cs (by omega) (fun cs=>S ?_)
     obtain⟨v30,hv30,h⟩:=rb_ h
     refine IdxH.mk (f:=(Term.pv false)) hv30 SC (S ?_)
     obtain⟨v35,hv35,h⟩:=rb_ h
     refine IdxH.mk (f:=(Term.pv false)) hv35 SC (S ?_)
     obtain⟨v37,hv37,h⟩:=rb_ h
     refine CallH.mk [false,false] (ih _ _ _ hv37) SC (S ?_)
     refine And.intro (DHa_ [] []) (S ?_)
     refine CondH.run cs h (fun cs h=>S ?_) (fun cs h=>S ?_)
     ·have h:=rs_ h
      refine RdH.mk ⟨_,h,?_⟩
      exact Slm_ SW
     ·cases rs_ h
      exact FinH.l SC
    ·refine S ?_
     refine CondH.f2 cs (by omega) (fun cs=>S ?_)
     cases rs_ h
     exact FinH.l SC
   ·cases rs_ h
    exact FinH.l SC
  ·cases rs_ h
   exact FinH.l SC
theorem slS_17{a0:Term}{a1:Term}{r:Bool}(h:slS_13 a0 a1=some r):Sat Tryz.prog 147 [((Term.pv false) a0),((Term.pv false) a1)] (B r):=by
 obtain⟨n,hn⟩:=ls_ h
 exact(slS_21 n) _ _ _ hn

theorem slS_20(n:Nat):(∀ (a0:Formula) (a1:Formula) (r:Bool),slS_2 n a0 a1=some r→Sat Tryz.prog 120 [((Formula.pv false) a0),((Formula.pv false) a1)] (B r)):=by
 induction n with
 | zero=>exact fun _ _ _ h=>by simp[slS_2] at h
 | succ n ih=>
  refine fun a0 a1 r h=>?_
  obtain⟨h,cs⟩:=Ro_ h
  rw[slS_2] at h
  refine Sat.of_m (nt:=54) (rs:=[.tmp 4]) (n:=100000) Tryz.func120 rfl rfl rfl rfl (by simp) (S ?_)
  refine CondH.run cs h (fun cs h=>S ?_) (fun cs h=>S ?_)
  ·refine CondH.run cs h (fun cs h=>S ?_) (fun cs h=>S ?_)
   ·obtain⟨v23,hv23,h⟩:=rb_ h
    refine CallH.mk [false,false] (slS_17 hv23) SC (S ?_)
    refine CondH.run cs h (fun cs h=>S ?_) (fun cs h=>S ?_)
    ·refine CondH.run cs h (fun cs h=>S ?_) (fun cs h=>S ?_)
     ·refine Mg.know_sl (b:=false) (sz:=5) (es:=a0.Parts.map (Formula.pv false)) 28 SC fun hl28=>?_; rw[List.length_map] at hl28
      replace h:=rl_ h
      refine Mg.forN h (fun i4 s4=>[(2,.box (.pv ((Formula.pv false) a0))),(3,.box (.pv ((Formula.pv false) a1))),(5,.val (.pv (I (i4:Int))))]) (fun i4 s4=>[]) (Slm_ SC) (fun i4 s4 hi h=>?_) (fun s4 h=>?_)
      ·have w:=ws_ (i:=i4) (by omega)
       refine S ?_
       refine CondH.t2 cs (by omega) (fun cs=>S ?_)
       obtain⟨v45,hv45,h⟩:=rb_ h
       refine IdxH.mk (f:=(Formula.pv false)) hv45 SC (S ?_)
       obtain⟨v50,hv50,h⟩:=rb_ h
       refine IdxH.mk (f:=(Formula.pv false)) hv50 SC (S ?_)
       obtain⟨v52,hv52,h⟩:=rb_ h
       refine CallH.mk [false,false] (ih _ _ _ hv52) SC (S ?_)
       refine And.intro (DHa_ [] []) (S ?_)
       refine CondH.run cs h (fun cs h=>S ?_) (fun cs h=>S ?_)
       ·have h:=rs_ h
        refine RdH.mk ⟨_,h,?_⟩
        exact Slm_ SW
       ·cases rs_ h
        exact FinH.l SC
      ·refine S ?_
       refine CondH.f2 cs (by omega) (fun cs=>S ?_)
       cases rs_ h
       exact FinH.l SC
     ·cases rs_ h
      exact FinH.l SC
    ·cases rs_ h
     exact FinH.l SC
   ·cases rs_ h
    exact FinH.l SC
  ·cases rs_ h
   exact FinH.l SC
theorem slS_10{a0:Formula}{a1:Formula}{r:Bool}(h:slS_5 a0 a1=some r):Sat Tryz.prog 120 [((Formula.pv false) a0),((Formula.pv false) a1)] (B r):=by
 obtain⟨n,hn⟩:=ls_ h
 exact(slS_20 n) _ _ _ hn

theorem slO_12(n:Nat):(∀ (a0:Term) (r:Term),slO_3 n a0=some r→Sat Tryz.prog 106 [((Term.pv false) a0)] ((Term.pv true) r)):=by
 induction n with
 | zero=>exact fun _ _ h=>by simp[slO_3] at h
 | succ n ih=>
  refine fun a0 r h=>?_
  obtain⟨h,cs⟩:=Ro_ h
  rw[slO_3] at h
  refine Sat.of_m (nt:=27) (rs:=[.cell 2 42]) (n:=100000) Tryz.func106 rfl rfl rfl rfl (by simp) (S ?_)
  refine Mkv_ (b:=false) (sz:=2) (es:=a0.Args.map (Term.pv false)) (x:=(.pv ((Term.pv false) a0))) 0 [1] SC fun hl0=>?_; rw[List.length_map] at hl0
  replace h:=rl_ h
  refine Mg.forN h (fun i3 s3=>[(1,.box (.pv ((Term.pv false) a0))),(2,.box (.node [(.pv (Sx (⟨#[]⟩:ByteArray))),(.pv (.sl true 2 []))])),(3,.box (.node [(.pv (Sx a0.Name)),(.own 9309)])),(4,.val (.pv (I (i3:Int))))]) (fun i3 s3=>[(9309,(2,s3.map (Term.pv true)))]) (St.le_trans (Sln_ (x:=(.node [(.pv (Sx a0.Name)),(.pv (.sl true 2 []))])) 3 [1] 9309 2 NM SC SC SC) (Slm_ SC)) (fun i3 s3 hi h=>?_) (fun s3 h=>?_)
  ·have w:=ws_ (i:=i3) (by omega)
   refine S ?_
   refine CondH.t2 cs (by omega) (fun cs=>S ?_)
   obtain⟨v20,hv20,h⟩:=rb_ h
   refine IdxH.mk (f:=(Term.pv false)) hv20 SC (S ?_)
   obtain⟨v22,hv22,h⟩:=rb_ h
   refine CallH.mk [false] (ih _ _ hv22) SC (S ?_)
   obtain⟨v24,hv24,h⟩:=rb_ h
   refine AppH.mk (f:=(Term.pv true)) (fun a=>Term.psize _ a) hv24 SC SC (S ?_)
   refine And.intro (DHa_ [] [352,368,384]) (S ?_)
   have h:=rs_ h
   refine RdH.mk ⟨_,h,?_⟩
   refine St.le_trans (Slm_1 (S:=[(1,.box (.pv ((Term.pv false) a0))),(2,.box (.node [(.pv (Sx (⟨#[]⟩:ByteArray))),(.pv (.sl true 2 []))])),(3,.box (.node [(.pv (Sx a0.Name)),(.own 384)])),(4,.val (.pv (I (IntKind.i64.wrap ((i3:Int)+(1:Int))))))]) (O:=[(384,(2,v24.map (Term.pv true)))]) SW SW) ?_
   refine Slr_ 384 9309 (by decide) NM ?_
   exact Slm_ SW
  ·refine S ?_
   refine CondH.f2 cs (by omega) (fun cs=>S ?_)
   cases rs_ h
   exact FinH.l SC
theorem slO_7{a0:Term}{r:Term}(h:slO_9 a0=some r):Sat Tryz.prog 106 [((Term.pv false) a0)] ((Term.pv true) r):=by
 obtain⟨n,hn⟩:=ls_ h
 exact(slO_12 n) _ _ hn

theorem slO_11(n:Nat):(∀ (a0:Formula) (r:Formula),slO_2 n a0=some r→Sat Tryz.prog 107 [((Formula.pv false) a0)] ((Formula.pv true) r)):=by
 induction n with
 | zero=>exact fun _ _ h=>by simp[slO_2] at h
 | succ n ih=>
  refine fun a0 r h=>?_
  obtain⟨h,cs⟩:=Ro_ h
  rw[slO_2] at h
  refine Sat.of_m (nt:=32) (rs:=[.cell 2 44]) (n:=100000) Tryz.func107 rfl rfl rfl rfl (by simp) (S ?_)
  obtain⟨v9,hv9,h⟩:=rb_ h
  refine CallH.mk [false] (slO_7 hv9) SC (S ?_)
  refine And.intro (DHa_ [3] [144]) (S ?_)
  refine Mkv_ (b:=false) (sz:=5) (es:=a0.Parts.map (Formula.pv false)) (x:=(.pv ((Formula.pv false) a0))) 0 [3] SC fun hl0=>?_; rw[List.length_map] at hl0
  replace h:=rl_ h
  refine Mg.forN h (fun i3 s3=>[(1,.box (.pv ((Formula.pv false) a0))),(2,.box (.node [(.pv (I (0:Int))),(.node [(.pv (Sx (⟨#[]⟩:ByteArray))),(.pv (.sl true 2 []))]),(.pv (Sx (⟨#[]⟩:ByteArray))),(.pv (.sl true 5 []))])),(3,.box (.node [(.pv (I a0.Op)),(.node [(.pv (Sx v9.Name)),(.own 144)]),(.pv (Sx a0.Var)),(.own 9309)])),(4,.val (.pv (I (i3:Int))))]) (fun i3 s3=>[(144,(2,v9.Args.map (Term.pv true))),(9309,(5,s3.map (Formula.pv true)))]) (St.le_trans (Sln_ (x:=(.node [(.pv (I a0.Op)),(.node [(.pv (Sx v9.Name)),(.own 144)]),(.pv (Sx a0.Var)),(.pv (.sl true 5 []))])) 3 [3] 9309 5 NM SC SC SC) (Slm_ SC)) (fun i3 s3 hi h=>?_) (fun s3 h=>?_)
  ·have w:=ws_ (i:=i3) (by omega)
   refine S ?_
   refine CondH.t2 cs (by omega) (fun cs=>S ?_)
   obtain⟨v25,hv25,h⟩:=rb_ h
   refine IdxH.mk (f:=(Formula.pv false)) hv25 SC (S ?_)
   obtain⟨v27,hv27,h⟩:=rb_ h
   refine CallH.mk [false] (ih _ _ hv27) SC (S ?_)
   obtain⟨v29,hv29,h⟩:=rb_ h
   refine AppH.mk (f:=(Formula.pv true)) (fun a=>Formula.psize _ a) hv29 SC SC (S ?_)
   refine And.intro (DHa_ [] [432,433,448,464]) (S ?_)
   have h:=rs_ h
   refine RdH.mk ⟨_,h,?_⟩
   refine St.le_trans (Slm_1 (S:=[(1,.box (.pv ((Formula.pv false) a0))),(2,.box (.node [(.pv (I (0:Int))),(.node [(.pv (Sx (⟨#[]⟩:ByteArray))),(.pv (.sl true 2 []))]),(.pv (Sx (⟨#[]⟩:ByteArray))),(.pv (.sl true 5 []))])),(3,.box (.node [(.pv (I a0.Op)),(.node [(.pv (Sx v9.Name)),(.own 144)]),(.pv (Sx a0.Var)),(.own 464)])),(4,.val (.pv (I (IntKind.i64.wrap ((i3:Int)+(1:Int))))))]) (O:=[(144,(2,v9.Args.map (Term.pv true))),(464,(5,v29.map (Formula.pv true)))]) SW SW) ?_
   refine Slr_ 464 9309 (by decide) NM ?_
   exact Slm_ SW
  ·refine S ?_
   refine CondH.f2 cs (by omega) (fun cs=>S ?_)
   cases rs_ h
   exact FinH.l SC
theorem slO_4{a0:Formula}{r:Formula}(h:slO_6 a0=some r):Sat Tryz.prog 107 [((Formula.pv false) a0)] ((Formula.pv true) r):=by
 obtain⟨n,hn⟩:=ls_ h
 exact(slO_11 n) _ _ hn

theorem slC_1{a0:List Formula}{a1:Int}{a2:List Formula}  {r:List Formula}(h:slC_ a0 a1 a2=some r):Sat Tryz.prog 93 [(.sl false 5 (a0.map (Formula.pv false))),(I a1),(.sl false 5 (a2.map (Formula.pv false)))] (.sl true 5 (r.map (Formula.pv true))):=by
 obtain⟨h,cs⟩:=Ro_ h
 unfold slC_ at h
 refine Sat.of_m (nt:=43) (rs:=[.tmp 6]) (n:=100000) Tryz.func93 rfl rfl rfl rfl (by simp) (S ?_)
 refine Mg.know_sl (b:=false) (sz:=5) (es:=a0.map (Formula.pv false)) 0 SC fun hl0=>?_; rw[List.length_map] at hl0
 replace h:=rl_ h
 refine Mg.forN h (fun i3 s3=>[(0,.val (.pv (.sl false 5 (a0.map (Formula.pv false))))),(1,.val (.pv (I a1))),(2,.val (.pv (.sl false 5 (a2.map (Formula.pv false))))),(7,.val (.own 160)),(8,.val (.pv (I (i3:Int))))]) (fun i3 s3=>[(160,(5,s3.map (Formula.pv true)))]) (Slm_ SC) (fun i3 s3 hi h=>?_) (fun s3 h=>?_)
 ·have w:=ws_ (i:=i3) (by omega)
  refine S ?_
  refine CondH.t2 cs (by omega) (fun cs=>S ?_)
  refine CondH.run cs h (fun cs h=>S ?_) (fun cs h=>S ?_)
  ·have h:=rs_ h
   refine RdH.mk ⟨_,h,?_⟩
   exact Slm_ SW
  ·obtain⟨v23,hv23,h⟩:=rb_ h
   refine IdxH.mk (f:=(Formula.pv false)) hv23 SC (S ?_)
   obtain⟨v25,hv25,h⟩:=rb_ h
   refine CallH.mk [false] (slO_4 hv25) SC (S ?_)
   obtain⟨v27,hv27,h⟩:=rb_ h
   refine AppH.mk (f:=(Formula.pv true)) (fun a=>Formula.psize _ a) hv27 SC SC (S ?_)
   have h:=rs_ h
   refine RdH.mk ⟨_,h,?_⟩
   refine St.le_trans (Slm_1 (S:=[(0,.val (.pv (.sl false 5 (a0.map (Formula.pv false))))),(1,.val (.pv (I a1))),(2,.val (.pv (.sl false 5 (a2.map (Formula.pv false))))),(7,.val (.own 432)),(8,.val (.pv (I (IntKind.i64.wrap ((i3:Int)+(1:Int))))))]) (O:=[(432,(5,v27.map (Formula.pv true)))]) SW SW) ?_
   refine Slr_ 432 160 (by decide) NM ?_
   exact Slm_ SW
 ·refine S ?_
  refine CondH.f2 cs (by omega) (fun cs=>S ?_)
  refine Mg.know_sl (b:=false) (sz:=5) (es:=a2.map (Formula.pv false)) 2 SC fun hl2=>?_; rw[List.length_map] at hl2
  replace h:=rl_ h
  refine Mg.forN h (fun i8 s8=>[(2,.val (.pv (.sl false 5 (a2.map (Formula.pv false))))),(7,.val (.own 160)),(9,.val (.pv (I (i8:Int))))]) (fun i8 s8=>[(160,(5,s8.map (Formula.pv true)))]) (Slm_ SC) (fun i8 s8 hi h=>?_) (fun s8 h=>?_)
  ·have w:=ws_ (i:=i8) (by omega)
   refine S ?_
   refine CondH.t2 cs (by omega) (fun cs=>S ?_)
   obtain⟨v37,hv37,h⟩:=rb_ h
   refine IdxH.mk (f:=(Formula.pv false)) hv37 SC (S ?_)
   obtain⟨v39,hv39,h⟩:=rb_ h
   refine CallH.mk [false] (slO_4 hv39) SC (S ?_)
   obtain⟨v41,hv41,h⟩:=rb_ h
   refine AppH.mk (f:=(Formula.pv true)) (fun a=>Formula.psize _ a) hv41 SC SC (S ?_)
   have h:=rs_ h
   refine RdH.mk ⟨_,h,?_⟩
   refine St.le_trans (Slm_1 (S:=[(2,.val (.pv (.sl false 5 (a2.map (Formula.pv false))))),(7,.val (.own 656)),(9,.val (.pv (I (IntKind.i64.wrap ((i8:Int)+(1:Int))))))]) (O:=[(656,(5,v41.map (Formula.pv true)))]) SW SW) ?_
   refine Slr_ 656 160 (by decide) NM ?_
   exact Slm_ SW
  ·refine S ?_
   refine CondH.f2 cs (by omega) (fun cs=>S ?_)
   cases rs_ h
   exact FinH.l SC

theorem slN_{a0:Sequent}{a1:Int}{a2:List Formula}{a3:Int}{a4:List Formula}  {r:Sequent}(h:slN_1 a0 a1 a2 a3 a4=some r):Sat Tryz.prog 108 [((Sequent.pv false) a0),(I a1),(.sl false 5 (a2.map (Formula.pv false))),(I a3),(.sl false 5 (a4.map (Formula.pv false)))] ((Sequent.pv true) r):=by
 obtain⟨h,cs⟩:=Ro_ h
 unfold slN_1 at h
 refine Sat.of_m (nt:=22) (rs:=[.cell 10 39]) (n:=100000) Tryz.func108 rfl rfl rfl rfl (by simp) (S ?_)
 obtain⟨v15,hv15,h⟩:=rb_ h
 refine CallH.mk [false,false,false] (slC_1 hv15) SC (S ?_)
 obtain⟨v20,hv20,h⟩:=rb_ h
 refine CallH.mk [false,false,false] (slC_1 hv20) SC (S ?_)
 refine And.intro (DHa_ [] [240,320]) (S ?_)
 cases rs_ h
 exact FinH.l SC

theorem slO_5{a0:Int}  {r:Bool}(h:slO_ a0=some r):Sat Tryz.prog 109 [(I a0)] (B r):=by
 obtain⟨h,cs⟩:=Ro_ h
 unfold slO_ at h
 refine Sat.of_m (nt:=12) (rs:=[.tmp 2]) (n:=100000) Tryz.func109 rfl rfl rfl rfl (by simp) (S ?_)
 refine CondH.run cs h (fun cs h=>S ?_) (fun cs h=>S ?_)
 ·cases rs_ h
  exact FinH.l SC
 ·refine CondH.run cs h (fun cs h=>S ?_) (fun cs h=>S ?_)
  ·cases rs_ h
   exact FinH.l SC
  ·refine CondH.run cs h (fun cs h=>S ?_) (fun cs h=>S ?_)
   ·cases rs_ h
    exact FinH.l SC
   ·refine CondH.run cs h (fun cs h=>S ?_) (fun cs h=>S ?_)
    ·cases rs_ h
     exact FinH.l SC
    ·refine CondH.run cs h (fun cs h=>S ?_) (fun cs h=>S ?_)
     ·cases rs_ h
      exact FinH.l SC
     ·refine CondH.run cs h (fun cs h=>S ?_) (fun cs h=>S ?_)
      ·cases rs_ h
       exact FinH.l SC
      ·refine CondH.run cs h (fun cs h=>S ?_) (fun cs h=>S ?_)
       ·cases rs_ h
        exact FinH.l SC
       ·cases rs_ h
        exact FinH.l SC

theorem slH_1{a0:List Formula}{a1:Formula}  {r:Bool}(h:slH_ a0 a1=some r):Sat Tryz.prog 182 [(.sl false 5 (a0.map (Formula.pv false))),((Formula.pv false) a1)] (B r):=by
 obtain⟨h,cs⟩:=Ro_ h
 unfold slH_ at h
 refine Sat.of_m (nt:=18) (rs:=[.tmp 4]) (n:=100000) Tryz.func182 rfl rfl rfl rfl (by simp) (S ?_)
 refine Mg.know_sl (b:=false) (sz:=5) (es:=a0.map (Formula.pv false)) 0 SC fun hl0=>?_; rw[List.length_map] at hl0
 replace h:=rl_ h
 refine Mg.forN h (fun i2 s2=>[(0,.val (.pv (.sl false 5 (a0.map (Formula.pv false))))),(3,.box (.pv ((Formula.pv false) a1))),(5,.val (.pv (I (i2:Int))))]) (fun i2 s2=>[]) (Slm_ SC) (fun i2 s2 hi h=>?_) (fun s2 h=>?_)
 ·have w:=ws_ (i:=i2) (by omega)
  refine S ?_
  refine CondH.t2 cs (by omega) (fun cs=>S ?_)
  obtain⟨v14,hv14,h⟩:=rb_ h
  refine IdxH.mk (f:=(Formula.pv false)) hv14 SC (S ?_)
  obtain⟨v17,hv17,h⟩:=rb_ h
  refine CallH.mk [false,false] (slS_10 hv17) SC (S ?_)
  refine And.intro (DHa_ [] []) (S ?_)
  refine CondH.run cs h (fun cs h=>S ?_) (fun cs h=>S ?_)
  ·cases rs_ h
   exact FinH.l SC
  ·have h:=rs_ h
   refine RdH.mk ⟨_,h,?_⟩
   exact Slm_ SW
 ·refine S ?_
  refine CondH.f2 cs (by omega) (fun cs=>S ?_)
  cases rs_ h
  exact FinH.l SC

theorem slO_8{a0:Int}  {r:Int}(h:slO_1 a0=some r):Sat Tryz.prog 183 [(I a0)] (I r):=by
 obtain⟨h,cs⟩:=Ro_ h
 unfold slO_1 at h
 refine Sat.of_m (nt:=24) (rs:=[.tmp 2]) (n:=100000) Tryz.func183 rfl rfl rfl rfl (by simp) (S ?_)
 refine CondH.run cs h (fun cs h=>S ?_) (fun cs h=>S ?_)
 ·cases rs_ h
  exact FinH.l SC
 ·refine CondH.run cs h (fun cs h=>S ?_) (fun cs h=>S ?_)
  ·cases rs_ h
   exact FinH.l SC
  ·refine CondH.run cs h (fun cs h=>S ?_) (fun cs h=>S ?_)
   ·cases rs_ h
    exact FinH.l SC
   ·refine CondH.run cs h (fun cs h=>S ?_) (fun cs h=>S ?_)
    ·cases rs_ h
     exact FinH.l SC
    ·refine CondH.run cs h (fun cs h=>S ?_) (fun cs h=>S ?_)
     ·cases rs_ h
      exact FinH.l SC
     ·refine CondH.run cs h (fun cs h=>S ?_) (fun cs h=>S ?_)
      ·cases rs_ h
       exact FinH.l SC
      ·refine CondH.run cs h (fun cs h=>S ?_) (fun cs h=>S ?_)
       ·cases rs_ h
        exact FinH.l SC
       ·refine CondH.run cs h (fun cs h=>S ?_) (fun cs h=>S ?_)
        ·cases rs_ h
         exact FinH.l SC
        ·refine CondH.run cs h (fun cs h=>S ?_) (fun cs h=>S ?_)
         ·cases rs_ h
          exact FinH.l SC
         ·refine CondH.run cs h (fun cs h=>S ?_) (fun cs h=>S ?_)
          ·cases rs_ h
           exact FinH.l SC
          ·refine CondH.run cs h (fun cs h=>S ?_) (fun cs h=>S ?_)
           ·cases rs_ h
            exact FinH.l SC
           ·refine CondH.run cs h (fun cs h=>S ?_) (fun cs h=>S ?_)
            ·cases rs_ h
             exact FinH.l SC
            ·refine CondH.run cs h (fun cs h=>S ?_) (fun cs h=>S ?_)
             ·cases rs_ h
              exact FinH.l SC
             ·cases rs_ h
              exact FinH.l SC

theorem slP_11{a0:Substitution}{a1:ByteArray}{a2:Term}  {r:Substitution}(h:slP_5 a0 a1 a2=some r):Sat Tryz.prog 198 [((Substitution.pv false) a0),(Sx a1),((Term.pv false) a2)] ((Substitution.pv false) r):=by
 obtain⟨h,cs⟩:=Ro_ h
 unfold slP_5 at h
 refine Sat.of_m (nt:=51) (rs:=[.cell 6 181]) (n:=100000) Tryz.func198 rfl rfl rfl rfl (by simp) (S ?_)
 refine CondH.run cs h (fun cs h=>S ?_) (fun cs h=>S ?_)
 ·cases rs_ h
  exact FinH.r SC
 ·refine Mkv_ (b:=false) (sz:=3) (es:=a0.Bindings.map (Binding.pv false)) (x:=(.pv ((Substitution.pv false) a0))) 0 [0] SC fun hl0=>?_; rw[List.length_map] at hl0
  replace h:=rl_ h
  refine Mg.forN h (fun i4 s4=>[(1,.val (.pv (Sx a1))),(3,.box (.pv ((Substitution.pv false) a0))),(5,.box (.pv ((Term.pv false) a2))),(6,.box (.node [(.pv (.sl true 3 []))])),(7,.val (.pv (I (i4:Int))))]) (fun i4 s4=>[]) (Slm_ SC) (fun i4 s4 hi h=>?_) (fun s4 h=>?_)
  ·have w:=ws_ (i:=i4) (by omega)
   refine S ?_
   refine CondH.t2 cs (by omega) (fun cs=>S ?_)
   obtain⟨v23,hv23,h⟩:=rb_ h
   refine IdxH.mk (f:=(Binding.pv false)) hv23 SC (S ?_)
   refine CondH.run cs h (fun cs h=>S ?_) (fun cs h=>S ?_)
   ·have h:=rs_ h
    refine RdH.mk ⟨_,h,?_⟩
    exact Slm_ SW
   ·obtain⟨v35,hv35,h⟩:=rb_ h
    refine SlcH.mk (f:=(Binding.pv false)) hv35 SC (S ?_)
    obtain⟨v36,hv36,h⟩:=rb_ h
    refine AppH.mk (f:=(Binding.pv false)) (fun a=>Binding.psize _ a) hv36 SC SC (S ?_)
    obtain⟨v40,hv40,h⟩:=rb_ h
    refine CallH.mk [false] (SvO_ (res':=((Term.pv false) v40)) (slO_7 hv40) (by simp only[vt_,vs_,va_,vl_,PV.views,RB,RS])) SC (S ?_)
    obtain⟨v43,hv43,h⟩:=rb_ h
    refine AppH.mk (f:=(Binding.pv false)) (fun a=>Binding.psize _ a) hv43 SC SC (S ?_)
    obtain⟨v48,hv48,h⟩:=rb_ h
    refine SlcH.mk (f:=(Binding.pv false)) hv48 SC (S ?_)
    obtain⟨v49,hv49,h⟩:=rb_ h
    refine AppH.mk (f:=(Binding.pv false)) (fun a=>Binding.psize _ a) hv49 SC SC (S ?_)
    cases rs_ h
    exact FinH.r SC
  ·refine S ?_
   refine CondH.f2 cs (by omega) (fun cs=>S ?_)
   obtain⟨v35,hv35,h⟩:=rb_ h
   refine SlcH.mk (f:=(Binding.pv false)) hv35 SC (S ?_)
   obtain⟨v36,hv36,h⟩:=rb_ h
   refine AppH.mk (f:=(Binding.pv false)) (fun a=>Binding.psize _ a) hv36 SC SC (S ?_)
   obtain⟨v40,hv40,h⟩:=rb_ h
   refine CallH.mk [false] (SvO_ (res':=((Term.pv false) v40)) (slO_7 hv40) (by simp only[vt_,vs_,va_,vl_,PV.views,RB,RS])) SC (S ?_)
   obtain⟨v43,hv43,h⟩:=rb_ h
   refine AppH.mk (f:=(Binding.pv false)) (fun a=>Binding.psize _ a) hv43 SC SC (S ?_)
   obtain⟨v48,hv48,h⟩:=rb_ h
   refine SlcH.mk (f:=(Binding.pv false)) hv48 SC (S ?_)
   obtain⟨v49,hv49,h⟩:=rb_ h
   refine AppH.mk (f:=(Binding.pv false)) (fun a=>Binding.psize _ a) hv49 SC SC (S ?_)
   cases rs_ h
   exact FinH.r SC

theorem slF_11{a0:Substitution}{a1:ByteArray}  {r:Int}(h:slF_4 a0 a1=some r):Sat Tryz.prog 207 [((Substitution.pv false) a0),(Sx a1)] (I r):=by
 obtain⟨h,cs⟩:=Ro_ h
 unfold slF_4 at h
 refine Sat.of_m (nt:=22) (rs:=[.tmp 4]) (n:=100000) Tryz.func207 rfl rfl rfl rfl (by simp) (S ?_)
 refine Mkv_ (b:=false) (sz:=3) (es:=a0.Bindings.map (Binding.pv false)) (x:=(.pv ((Substitution.pv false) a0))) 0 [0] SC fun hl0=>?_; rw[List.length_map] at hl0
 replace h:=rl_ h
 refine Mg.forN h (fun i2 s2=>[(1,.val (.pv (Sx a1))),(2,.box (.pv ((Substitution.pv false) a0))),(5,.val (.pv (I (i2:Int))))]) (fun i2 s2=>[]) (Slm_ SC) (fun i2 s2 hi h=>?_) (fun s2 h=>?_)
 ·have w:=ws_ (i:=i2) (by omega)
  refine S ?_
  refine CondH.t2 cs (by omega) (fun cs=>S ?_)
  obtain⟨v16,hv16,h⟩:=rb_ h
  refine IdxH.mk (f:=(Binding.pv false)) hv16 SC (S ?_)
  refine CondH.run cs h (fun cs h=>S ?_) (fun cs h=>S ?_)
  ·cases rs_ h
   exact FinH.l SC
  ·have h:=rs_ h
   refine RdH.mk ⟨_,h,?_⟩
   exact Slm_ SW
 ·refine S ?_
  refine CondH.f2 cs (by omega) (fun cs=>S ?_)
  cases rs_ h
  exact FinH.l SC

theorem slA_4(n:Nat):(∀ (a0:Substitution) (a1:Term) (r:Term),slA_ n a0 a1=some r→Sat Tryz.prog 197 [((Substitution.pv false) a0),((Term.pv false) a1)] ((Term.pv true) r)):=by
 induction n with
 | zero=>exact fun _ _ _ h=>by simp[slA_] at h
 | succ n ih=>
  refine fun a0 a1 r h=>?_
  obtain⟨h,cs⟩:=Ro_ h
  rw[slA_] at h
  refine Sat.of_m (nt:=50) (rs:=[.cell 4 42]) (n:=100000) Tryz.func197 rfl rfl rfl rfl (by simp) (S ?_)
  obtain⟨v10,hv10,h⟩:=rb_ h
  refine CallH.mk [false] (slV_2 hv10) SC (S ?_)
  refine CondH.run cs h (fun cs h=>S ?_) (fun cs h=>S ?_)
  ·obtain⟨v14,hv14,h⟩:=rb_ h
   refine CallH.mk [false,false] (slF_11 hv14) SC (S ?_)
   refine CondH.run cs h (fun cs h=>S ?_) (fun cs h=>S ?_)
   ·obtain⟨v20,hv20,h⟩:=rb_ h
    refine IdxH.mk (f:=(Binding.pv false)) hv20 SC (S ?_)
    obtain⟨v23,hv23,h⟩:=rb_ h
    refine CallH.mk [false] (slO_7 hv23) SC (S ?_)
    cases rs_ h
    exact FinH.l SC
   ·cases rs_ h
    exact FinH.l SC
  ·refine Mkv_ (b:=false) (sz:=2) (es:=a1.Args.map (Term.pv false)) (x:=(.pv ((Term.pv false) a1))) 1 [1] SC fun hl1=>?_; rw[List.length_map] at hl1
   replace h:=rl_ h
   refine Mg.forN h (fun i8 s8=>[(2,.box (.pv ((Substitution.pv false) a0))),(3,.box (.pv ((Term.pv false) a1))),(4,.box (.node [(.pv (Sx (⟨#[]⟩:ByteArray))),(.pv (.sl true 2 []))])),(6,.box (.node [(.pv (Sx a1.Name)),(.own 9324)])),(7,.val (.pv (I (i8:Int))))]) (fun i8 s8=>[(9324,(2,s8.map (Term.pv true)))]) (St.le_trans (Sln_ (x:=(.node [(.pv (Sx a1.Name)),(.pv (.sl true 2 []))])) 6 [1] 9324 2 NM SC SC SC) (Slm_ SC)) (fun i8 s8 hi h=>?_) (fun s8 h=>?_)
   ·have w:=ws_ (i:=i8) (by omega)
    refine S ?_
    refine CondH.t2 cs (by omega) (fun cs=>S ?_)
    obtain⟨v43,hv43,h⟩:=rb_ h
    refine IdxH.mk (f:=(Term.pv false)) hv43 SC (S ?_)
    obtain⟨v45,hv45,h⟩:=rb_ h
    refine CallH.mk [false,false] (ih _ _ _ hv45) SC (S ?_)
    obtain⟨v47,hv47,h⟩:=rb_ h
    refine AppH.mk (f:=(Term.pv true)) (fun a=>Term.psize _ a) hv47 SC SC (S ?_)
    refine And.intro (DHa_ [] [720,736,752]) (S ?_)
    have h:=rs_ h
    refine RdH.mk ⟨_,h,?_⟩
    refine St.le_trans (Slm_1 (S:=[(2,.box (.pv ((Substitution.pv false) a0))),(3,.box (.pv ((Term.pv false) a1))),(4,.box (.node [(.pv (Sx (⟨#[]⟩:ByteArray))),(.pv (.sl true 2 []))])),(6,.box (.node [(.pv (Sx a1.Name)),(.own 752)])),(7,.val (.pv (I (IntKind.i64.wrap ((i8:Int)+(1:Int))))))]) (O:=[(752,(2,v47.map (Term.pv true)))]) SW SW) ?_
    refine Slr_ 752 9324 (by decide) NM ?_
    exact Slm_ SW
   ·refine S ?_
    refine CondH.f2 cs (by omega) (fun cs=>S ?_)
    cases rs_ h
    exact FinH.l SC
theorem slA_5{a0:Substitution}{a1:Term}{r:Term}(h:slA_2 a0 a1=some r):Sat Tryz.prog 197 [((Substitution.pv false) a0),((Term.pv false) a1)] ((Term.pv true) r):=by
 obtain⟨n,hn⟩:=ls_ h
 exact(slA_4 n) _ _ _ hn

theorem slP_7{a0:List ByteArray}{a1:ByteArray}  {r:List ByteArray}(h:slP_3 a0 a1=some r):Sat Tryz.prog 209 [(.sl false 1 (a0.map Sx)),(Sx a1)] (.sl false 1 (r.map Sx)):=by
 obtain⟨h,cs⟩:=Ro_ h
 unfold slP_3 at h
 refine Sat.of_m (nt:=45) (rs:=[.tmp 4]) (n:=100000) Tryz.func209 rfl rfl rfl rfl (by simp) (S ?_)
 refine Mg.know_sl (b:=false) (sz:=1) (es:=a0.map Sx) 0 SC fun hl0=>?_; rw[List.length_map] at hl0
 replace h:=rl_ h
 refine Mg.forN h (fun i2 s2=>[(0,.val (.pv (.sl false 1 (a0.map Sx)))),(1,.val (.pv (Sx a1))),(5,.val (.pv (I (i2:Int))))]) (fun i2 s2=>[]) (Slm_ SC) (fun i2 s2 hi h=>?_) (fun s2 h=>?_)
 ·have w:=ws_ (i:=i2) (by omega)
  refine S ?_
  refine CondH.t2 cs (by omega) (fun cs=>S ?_)
  obtain⟨v13,hv13,h⟩:=rb_ h
  refine IdxH.mk (f:=Sx) hv13 SC (S ?_)
  refine CondH.run cs h (fun cs h=>S ?_) (fun cs h=>S ?_)
  ·have h:=rs_ h
   refine RdH.mk ⟨_,h,?_⟩
   exact Slm_ SW
  ·obtain⟨v27,hv27,h⟩:=rb_ h
   refine IdxH.mk (f:=Sx) hv27 SC (S ?_)
   refine CondH.run cs h (fun cs h=>S ?_) (fun cs h=>S ?_)
   ·cases rs_ h
    exact FinH.r SC
   ·obtain⟨v36,hv36,h⟩:=rb_ h
    refine SlcH.mk (f:=Sx) hv36 SC (S ?_)
    obtain⟨v37,hv37,h⟩:=rb_ h
    refine AppH.mk (f:=Sx) (fun _=>rfl) hv37 SC SC (S ?_)
    obtain⟨v40,hv40,h⟩:=rb_ h
    refine AppH.mk (f:=Sx) (fun _=>rfl) hv40 SC SC (S ?_)
    obtain⟨v43,hv43,h⟩:=rb_ h
    refine SlcH.mk (f:=Sx) hv43 SC (S ?_)
    obtain⟨v44,hv44,h⟩:=rb_ h
    refine AppH.mk (f:=Sx) (fun _=>rfl) hv44 SC SC (S ?_)
    refine And.intro (DHa_ [] [528,592,624,640,704]) (S ?_)
    cases rs_ h
    exact FinH.r SC
 ·refine S ?_
  refine CondH.f2 cs (by omega) (fun cs=>S ?_)
  obtain⟨v36,hv36,h⟩:=rb_ h
  refine SlcH.mk (f:=Sx) hv36 SC (S ?_)
  obtain⟨v37,hv37,h⟩:=rb_ h
  refine AppH.mk (f:=Sx) (fun _=>rfl) hv37 SC SC (S ?_)
  obtain⟨v40,hv40,h⟩:=rb_ h
  refine AppH.mk (f:=Sx) (fun _=>rfl) hv40 SC SC (S ?_)
  obtain⟨v43,hv43,h⟩:=rb_ h
  refine SlcH.mk (f:=Sx) hv43 SC (S ?_)
  obtain⟨v44,hv44,h⟩:=rb_ h
  refine AppH.mk (f:=Sx) (fun _=>rfl) hv44 SC SC (S ?_)
  refine And.intro (DHa_ [] [528,592,624,640,704]) (S ?_)
  cases rs_ h
  exact FinH.r SC

theorem slI_10(n:Nat):(∀ (a0:List ByteArray) (a1:Term) (r:List ByteArray),slI_2 n a0 a1=some r→Sat Tryz.prog 208 [(.sl false 1 (a0.map Sx)),((Term.pv false) a1)] (.sl false 1 (r.map Sx))):=by
 induction n with
 | zero=>exact fun _ _ _ h=>by simp[slI_2] at h
 | succ n ih=>
  refine fun a0 a1 r h=>?_
  obtain⟨h,cs⟩:=Ro_ h
  rw[slI_2] at h
  refine Sat.of_m (nt:=28) (rs:=[.tmp 4]) (n:=100000) Tryz.func208 rfl rfl rfl rfl (by simp) (S ?_)
  obtain⟨v8,hv8,h⟩:=rb_ h
  refine CallH.mk [false] (slV_2 hv8) SC (S ?_)
  refine CondH.run cs h (fun cs h=>S ?_) (fun cs h=>S ?_)
  ·obtain⟨v12,hv12,h⟩:=rb_ h
   refine CallH.mk [false,false] (slP_7 hv12) SC (S ?_)
   cases rs_ h
   exact FinH.r SC
  ·refine Mkv_ (b:=false) (sz:=2) (es:=a1.Args.map (Term.pv false)) (x:=(.pv ((Term.pv false) a1))) 1 [1] SC fun hl1=>?_; rw[List.length_map] at hl1
   replace h:=rl_ h
   refine Mg.forN h (fun i4 s4=>[(0,.val (.pv (.sl false 1 (s4.map Sx)))),(3,.box (.pv ((Term.pv false) a1))),(5,.val (.pv (I (i4:Int))))]) (fun i4 s4=>[]) (Slm_ SC) (fun i4 s4 hi h=>?_) (fun s4 h=>?_)
   ·have w:=ws_ (i:=i4) (by omega)
    refine S ?_
    refine CondH.t2 cs (by omega) (fun cs=>S ?_)
    obtain⟨v24,hv24,h⟩:=rb_ h
    refine IdxH.mk (f:=(Term.pv false)) hv24 SC (S ?_)
    obtain⟨v26,hv26,h⟩:=rb_ h
    refine CallH.mk [false,false] (ih _ _ _ hv26) SC (S ?_)
    have h:=rs_ h
    refine RdH.mk ⟨_,h,?_⟩
    exact Slm_ SW
   ·refine S ?_
    refine CondH.f2 cs (by omega) (fun cs=>S ?_)
    cases rs_ h
    exact FinH.r SC
theorem slI_11{a0:List ByteArray}{a1:Term}{r:List ByteArray}(h:slI_8 a0 a1=some r):Sat Tryz.prog 208 [(.sl false 1 (a0.map Sx)),((Term.pv false) a1)] (.sl false 1 (r.map Sx)):=by
 obtain⟨n,hn⟩:=ls_ h
 exact(slI_10 n) _ _ _ hn

theorem slV_4{a0:Term}  {r:List ByteArray}(h:slV_1 a0=some r):Sat Tryz.prog 200 [((Term.pv false) a0)] (.sl false 1 (r.map Sx)):=by
 obtain⟨h,cs⟩:=Ro_ h
 unfold slV_1 at h
 refine Sat.of_m (nt:=6) (rs:=[.tmp 2]) (n:=100000) Tryz.func200 rfl rfl rfl rfl (by simp) (S ?_)
 obtain⟨v5,hv5,h⟩:=rb_ h
 refine CallH.mk [true,false] (Sat.give (args:=[(.sl true 1 (([]).map Sx)),((Term.pv false) a0)]) [true,false] (by have gg:=slI_11 hv5; simp only[gv_t,gv_f,gv_n,vs_,va_,vl_,PV.views,RB,RS] at gg ⊢; exact gg)) SC (S ?_)
 cases rs_ h
 exact FinH.r SC

theorem slI_4{a0:List ByteArray}{a1:ByteArray}  {r:Bool}(h:slI_5 a0 a1=some r):Sat Tryz.prog 192 [(.sl false 1 (a0.map Sx)),(Sx a1)] (B r):=by
 obtain⟨h,cs⟩:=Ro_ h
 unfold slI_5 at h
 refine Sat.of_m (nt:=18) (rs:=[.tmp 4]) (n:=100000) Tryz.func192 rfl rfl rfl rfl (by simp) (S ?_)
 refine Mg.know_sl (b:=false) (sz:=1) (es:=a0.map Sx) 0 SC fun hl0=>?_; rw[List.length_map] at hl0
 replace h:=rl_ h
 refine Mg.forN h (fun i2 s2=>[(0,.val (.pv (.sl false 1 (a0.map Sx)))),(1,.val (.pv (Sx a1))),(5,.val (.pv (I (i2:Int))))]) (fun i2 s2=>[]) (Slm_ SC) (fun i2 s2 hi h=>?_) (fun s2 h=>?_)
 ·have w:=ws_ (i:=i2) (by omega)
  refine S ?_
  refine CondH.t2 cs (by omega) (fun cs=>S ?_)
  obtain⟨v14,hv14,h⟩:=rb_ h
  refine IdxH.mk (f:=Sx) hv14 SC (S ?_)
  refine CondH.run cs h (fun cs h=>S ?_) (fun cs h=>S ?_)
  ·cases rs_ h
   exact FinH.l SC
  ·have h:=rs_ h
   refine RdH.mk ⟨_,h,?_⟩
   exact Slm_ SW
 ·refine S ?_
  refine CondH.f2 cs (by omega) (fun cs=>S ?_)
  cases rs_ h
  exact FinH.l SC

theorem slI_9(n:Nat):(∀ (a0:List ByteArray) (a1:Formula) (a2:List ByteArray) (r:List ByteArray),slI_ n a0 a1 a2=some r→Sat Tryz.prog 201 [(.sl false 1 (a0.map Sx)),((Formula.pv false) a1),(.sl false 1 (a2.map Sx))] (.sl false 1 (r.map Sx))):=by
 induction n with
 | zero=>exact fun _ _ _ _ h=>by simp[slI_] at h
 | succ n ih=>
  refine fun a0 a1 a2 r h=>?_
  obtain⟨h,cs⟩:=Ro_ h
  rw[slI_] at h
  refine Sat.of_m (nt:=66) (rs:=[.tmp 6]) (n:=100000) Tryz.func201 rfl rfl rfl rfl (by simp) (S ?_)
  refine CondH.run cs h (fun cs h=>S ?_) (fun cs h=>S ?_)
  ·obtain⟨v15,hv15,h⟩:=rb_ h
   refine CallH.mk [false] (slV_4 hv15) SC (S ?_)
   refine Mg.know_sl (b:=false) (sz:=1) (es:=v15.map Sx) 7 SC fun hl7=>?_; rw[List.length_map] at hl7
   replace h:=rl_ h
   refine Mg.forN h (fun i4 s4=>[(0,.val (.pv (.sl false 1 (s4.map Sx)))),(2,.val (.pv (.sl false 1 (a2.map Sx)))),(4,.box (.pv ((Formula.pv false) a1))),(7,.val (.pv (.sl false 1 (v15.map Sx)))),(8,.val (.pv (I (i4:Int))))]) (fun i4 s4=>[]) (Slm_ SC) (fun i4 s4 hi h=>?_) (fun s4 h=>?_)
   ·have w:=ws_ (i:=i4) (by omega)
    refine S ?_
    refine CondH.t2 cs (by omega) (fun cs=>S ?_)
    obtain⟨v25,hv25,h⟩:=rb_ h
    refine IdxH.mk (f:=Sx) hv25 SC (S ?_)
    obtain⟨v27,hv27,h⟩:=rb_ h
    refine CallH.mk [false,false] (slI_4 hv27) SC (S ?_)
    refine CondH.run cs h (fun cs h=>S ?_) (fun cs h=>S ?_)
    ·have h:=rs_ h
     refine RdH.mk ⟨_,h,?_⟩
     exact Slm_ SW
    ·obtain⟨v32,hv32,h⟩:=rb_ h
     refine IdxH.mk (f:=Sx) hv32 SC (S ?_)
     obtain⟨v34,hv34,h⟩:=rb_ h
     refine CallH.mk [false,false] (slP_7 hv34) SC (S ?_)
     have h:=rs_ h
     refine RdH.mk ⟨_,h,?_⟩
     exact Slm_ SW
   ·refine S ?_
    refine CondH.f2 cs (by omega) (fun cs=>S ?_)
    refine CondH.run cs h (fun cs h=>S ?_) (fun cs h=>S ?_)
    ·obtain⟨v45,hv45,h⟩:=rb_ h
     refine AppH.mk (f:=Sx) (fun _=>rfl) hv45 SC SC (S ?_)
     obtain⟨v49,hv49,h⟩:=rb_ h
     refine AppH.mk (f:=Sx) (fun _=>rfl) hv49 SC SC (S ?_)
     refine And.intro (DHa_ [] [688,720,768,784]) (S ?_)
     refine Mkb_ (b:=false) (sz:=5) (es:=a1.Parts.map (Formula.pv false)) (x:=(.pv ((Formula.pv false) a1))) 4 [3] SC fun hl4=>?_; rw[List.length_map] at hl4
     replace h:=rl_ h
     refine Mg.forN h (fun i11 s11=>[(0,.val (.pv (.sl false 1 (s11.map Sx)))),(2,.val (.pv (.sl false 1 (v49.map Sx)))),(4,.box (.pv ((Formula.pv false) a1))),(9,.val (.pv (I (i11:Int))))]) (fun i11 s11=>[]) (St.le_trans (Sld_ (x:=(.own 784)) (sz:=(1)) (es:=v49.map Sx) 2 [] 784 SC) (Slm_ SC)) (fun i11 s11 hi h=>?_) (fun s11 h=>?_)
     ·have w:=ws_ (i:=i11) (by omega)
      refine S ?_
      refine CondH.t2 cs (by omega) (fun cs=>S ?_)
      obtain⟨v61,hv61,h⟩:=rb_ h
      refine IdxH.mk (f:=(Formula.pv false)) hv61 SC (S ?_)
      obtain⟨v64,hv64,h⟩:=rb_ h
      refine CallH.mk [false,false,false] (ih _ _ _ _ hv64) SC (S ?_)
      have h:=rs_ h
      refine RdH.mk ⟨_,h,?_⟩
      exact Slm_ SW
     ·refine S ?_
      refine CondH.f2 cs (by omega) (fun cs=>S ?_)
      cases rs_ h
      exact FinH.r SC
    ·refine CondH.run cs h (fun cs h=>S ?_) (fun cs h=>S ?_)
     ·obtain⟨v45,hv45,h⟩:=rb_ h
      refine AppH.mk (f:=Sx) (fun _=>rfl) hv45 SC SC (S ?_)
      obtain⟨v49,hv49,h⟩:=rb_ h
      refine AppH.mk (f:=Sx) (fun _=>rfl) hv49 SC SC (S ?_)
      refine And.intro (DHa_ [] [688,720,768,784]) (S ?_)
      refine Mkb_ (b:=false) (sz:=5) (es:=a1.Parts.map (Formula.pv false)) (x:=(.pv ((Formula.pv false) a1))) 4 [3] SC fun hl4=>?_; rw[List.length_map] at hl4
      replace h:=rl_ h
      refine Mg.forN h (fun i11 s11=>[(0,.val (.pv (.sl false 1 (s11.map Sx)))),(2,.val (.pv (.sl false 1 (v49.map Sx)))),(4,.box (.pv ((Formula.pv false) a1))),(9,.val (.pv (I (i11:Int))))]) (fun i11 s11=>[]) (St.le_trans (Sld_ (x:=(.own 784)) (sz:=(1)) (es:=v49.map Sx) 2 [] 784 SC) (Slm_ SC)) (fun i11 s11 hi h=>?_) (fun s11 h=>?_)
      ·have w:=ws_ (i:=i11) (by omega)
       refine S ?_
       refine CondH.t2 cs (by omega) (fun cs=>S ?_)
       obtain⟨v61,hv61,h⟩:=rb_ h
       refine IdxH.mk (f:=(Formula.pv false)) hv61 SC (S ?_)
       obtain⟨v64,hv64,h⟩:=rb_ h
       refine CallH.mk [false,false,false] (ih _ _ _ _ hv64) SC (S ?_)
       have h:=rs_ h
       refine RdH.mk ⟨_,h,?_⟩
       exact Slm_ SW
      ·refine S ?_
       refine CondH.f2 cs (by omega) (fun cs=>S ?_)
       cases rs_ h
       exact FinH.r SC
     ·refine Mkb_ (b:=false) (sz:=5) (es:=a1.Parts.map (Formula.pv false)) (x:=(.pv ((Formula.pv false) a1))) 4 [3] SC fun hl4=>?_; rw[List.length_map] at hl4
      replace h:=rl_ h
      refine Mg.forN h (fun i11 s11=>[(0,.val (.pv (.sl false 1 (s11.map Sx)))),(2,.val (.pv (.sl false 1 (a2.map Sx)))),(4,.box (.pv ((Formula.pv false) a1))),(9,.val (.pv (I (i11:Int))))]) (fun i11 s11=>[]) (Slm_ SC) (fun i11 s11 hi h=>?_) (fun s11 h=>?_)
      ·have w:=ws_ (i:=i11) (by omega)
       refine S ?_
       refine CondH.t2 cs (by omega) (fun cs=>S ?_)
       obtain⟨v61,hv61,h⟩:=rb_ h
       refine IdxH.mk (f:=(Formula.pv false)) hv61 SC (S ?_)
       obtain⟨v64,hv64,h⟩:=rb_ h
       refine CallH.mk [false,false,false] (ih _ _ _ _ hv64) SC (S ?_)
       have h:=rs_ h
       refine RdH.mk ⟨_,h,?_⟩
       exact Slm_ SW
      ·refine S ?_
       refine CondH.f2 cs (by omega) (fun cs=>S ?_)
       cases rs_ h
       exact FinH.r SC
  ·refine CondH.run cs h (fun cs h=>S ?_) (fun cs h=>S ?_)
   ·obtain⟨v45,hv45,h⟩:=rb_ h
    refine AppH.mk (f:=Sx) (fun _=>rfl) hv45 SC SC (S ?_)
    obtain⟨v49,hv49,h⟩:=rb_ h
    refine AppH.mk (f:=Sx) (fun _=>rfl) hv49 SC SC (S ?_)
    refine And.intro (DHa_ [] [688,720,768,784]) (S ?_)
    refine Mkv_ (b:=false) (sz:=5) (es:=a1.Parts.map (Formula.pv false)) (x:=(.pv ((Formula.pv false) a1))) 1 [3] SC fun hl1=>?_; rw[List.length_map] at hl1
    replace h:=rl_ h
    refine Mg.forN h (fun i11 s11=>[(0,.val (.pv (.sl false 1 (s11.map Sx)))),(2,.val (.pv (.sl false 1 (v49.map Sx)))),(4,.box (.pv ((Formula.pv false) a1))),(9,.val (.pv (I (i11:Int))))]) (fun i11 s11=>[]) (St.le_trans (Sld_ (x:=(.own 784)) (sz:=(1)) (es:=v49.map Sx) 2 [] 784 SC) (Slm_ SC)) (fun i11 s11 hi h=>?_) (fun s11 h=>?_)
    ·have w:=ws_ (i:=i11) (by omega)
     refine S ?_
     refine CondH.t2 cs (by omega) (fun cs=>S ?_)
     obtain⟨v61,hv61,h⟩:=rb_ h
     refine IdxH.mk (f:=(Formula.pv false)) hv61 SC (S ?_)
     obtain⟨v64,hv64,h⟩:=rb_ h
     refine CallH.mk [false,false,false] (ih _ _ _ _ hv64) SC (S ?_)
     have h:=rs_ h
     refine RdH.mk ⟨_,h,?_⟩
     exact Slm_ SW
    ·refine S ?_
     refine CondH.f2 cs (by omega) (fun cs=>S ?_)
     cases rs_ h
     exact FinH.r SC
   ·refine CondH.run cs h (fun cs h=>S ?_) (fun cs h=>S ?_)
    ·obtain⟨v45,hv45,h⟩:=rb_ h
     refine AppH.mk (f:=Sx) (fun _=>rfl) hv45 SC SC (S ?_)
     obtain⟨v49,hv49,h⟩:=rb_ h
     refine AppH.mk (f:=Sx) (fun _=>rfl) hv49 SC SC (S ?_)
     refine And.intro (DHa_ [] [688,720,768,784]) (S ?_)
     refine Mkv_ (b:=false) (sz:=5) (es:=a1.Parts.map (Formula.pv false)) (x:=(.pv ((Formula.pv false) a1))) 1 [3] SC fun hl1=>?_; rw[List.length_map] at hl1
     replace h:=rl_ h
     refine Mg.forN h (fun i11 s11=>[(0,.val (.pv (.sl false 1 (s11.map Sx)))),(2,.val (.pv (.sl false 1 (v49.map Sx)))),(4,.box (.pv ((Formula.pv false) a1))),(9,.val (.pv (I (i11:Int))))]) (fun i11 s11=>[]) (St.le_trans (Sld_ (x:=(.own 784)) (sz:=(1)) (es:=v49.map Sx) 2 [] 784 SC) (Slm_ SC)) (fun i11 s11 hi h=>?_) (fun s11 h=>?_)
     ·have w:=ws_ (i:=i11) (by omega)
      refine S ?_
      refine CondH.t2 cs (by omega) (fun cs=>S ?_)
      obtain⟨v61,hv61,h⟩:=rb_ h
      refine IdxH.mk (f:=(Formula.pv false)) hv61 SC (S ?_)
      obtain⟨v64,hv64,h⟩:=rb_ h
      refine CallH.mk [false,false,false] (ih _ _ _ _ hv64) SC (S ?_)
      have h:=rs_ h
      refine RdH.mk ⟨_,h,?_⟩
      exact Slm_ SW
     ·refine S ?_
      refine CondH.f2 cs (by omega) (fun cs=>S ?_)
      cases rs_ h
      exact FinH.r SC
    ·refine Mkv_ (b:=false) (sz:=5) (es:=a1.Parts.map (Formula.pv false)) (x:=(.pv ((Formula.pv false) a1))) 1 [3] SC fun hl1=>?_; rw[List.length_map] at hl1
     replace h:=rl_ h
     refine Mg.forN h (fun i11 s11=>[(0,.val (.pv (.sl false 1 (s11.map Sx)))),(2,.val (.pv (.sl false 1 (a2.map Sx)))),(4,.box (.pv ((Formula.pv false) a1))),(9,.val (.pv (I (i11:Int))))]) (fun i11 s11=>[]) (Slm_ SC) (fun i11 s11 hi h=>?_) (fun s11 h=>?_)
     ·have w:=ws_ (i:=i11) (by omega)
      refine S ?_
      refine CondH.t2 cs (by omega) (fun cs=>S ?_)
      obtain⟨v61,hv61,h⟩:=rb_ h
      refine IdxH.mk (f:=(Formula.pv false)) hv61 SC (S ?_)
      obtain⟨v64,hv64,h⟩:=rb_ h
      refine CallH.mk [false,false,false] (ih _ _ _ _ hv64) SC (S ?_)
      have h:=rs_ h
      refine RdH.mk ⟨_,h,?_⟩
      exact Slm_ SW
     ·refine S ?_
      refine CondH.f2 cs (by omega) (fun cs=>S ?_)
      cases rs_ h
      exact FinH.r SC
theorem slI_7{a0:List ByteArray}{a1:Formula}{a2:List ByteArray}{r:List ByteArray}(h:slI_6 a0 a1 a2=some r):Sat Tryz.prog 201 [(.sl false 1 (a0.map Sx)),((Formula.pv false) a1),(.sl false 1 (a2.map Sx))] (.sl false 1 (r.map Sx)):=by
 obtain⟨n,hn⟩:=ls_ h
 exact(slI_9 n) _ _ _ _ hn

theorem slF_5{a0:Formula}  {r:List ByteArray}(h:slF_1 a0=some r):Sat Tryz.prog 199 [((Formula.pv false) a0)] (.sl false 1 (r.map Sx)):=by
 obtain⟨h,cs⟩:=Ro_ h
 unfold slF_1 at h
 refine Sat.of_m (nt:=7) (rs:=[.tmp 2]) (n:=100000) Tryz.func199 rfl rfl rfl rfl (by simp) (S ?_)
 obtain⟨v6,hv6,h⟩:=rb_ h
 refine CallH.mk [true,false,true] (Sat.give (args:=[(.sl true 1 (([]).map Sx)),((Formula.pv false) a0),(.sl true 1 (([]).map Sx))]) [true,false,true] (by have gg:=slI_7 hv6; simp only[gv_t,gv_f,gv_n,vs_,va_,vl_,PV.views,RB,RS] at gg ⊢; exact gg)) SC (S ?_)
 cases rs_ h
 exact FinH.r SC

theorem slP_9(n:Nat):(∀ (a0:Formula) (a1:ByteArray) (a2:Term) (r:Formula×Bool),slP_1 n a0 a1 a2=some r→Sat Tryz.prog 191 [((Formula.pv false) a0),(Sx a1),((Term.pv false) a2)] (.tup [((Formula.pv true) r.1),(B r.2)])):=by
 induction n with
 | zero=>exact fun _ _ _ _ h=>by simp[slP_1] at h
 | succ n ih=>
  refine fun a0 a1 a2 r h=>?_
  obtain⟨h,cs⟩:=Ro_ h
  rw[slP_1] at h
  refine Sat.of_m (nt:=90) (rs:=[.cell 6 44,.tmp 7]) (n:=100000) Tryz.func191 rfl rfl rfl rfl (by simp) (S ?_)
  refine CondH.run cs h (fun cs h=>S ?_) (fun cs h=>S ?_)
  ·obtain⟨v23,hv23,h⟩:=rb_ h
   refine CallH.mk [false,false,false] (slP_11 hv23) SC (S ?_)
   obtain⟨v26,hv26,h⟩:=rb_ h
   refine CallH.mk [false,false] (slA_5 hv26) SC (S ?_)
   refine And.intro (DHa_ [] [416]) (S ?_)
   obtain⟨v31,hv31,h⟩:=rb_ h
   refine CallH.mk [false] (slA_3 hv31) SC (S ?_)
   refine And.intro (DHa_ [] []) (S ?_)
   cases rs_ h
   exact FinH.l SC
  ·refine CondH.run cs h (fun cs h=>S ?_) (fun cs h=>S ?_)
   ·refine CondH.run cs h (fun cs h=>S ?_) (fun cs h=>S ?_)
    ·obtain⟨v55,hv55,h⟩:=rb_ h
     refine CallH.mk [false] (slO_4 hv55) SC (S ?_)
     cases rs_ h
     exact FinH.l SC
    ·obtain⟨v47,hv47,h⟩:=rb_ h
     refine IdxH.mk (f:=(Formula.pv false)) hv47 SC (S ?_)
     obtain⟨v49,hv49,h⟩:=rb_ h
     refine CallH.mk [false] (slF_5 hv49) SC (S ?_)
     obtain⟨v51,hv51,h⟩:=rb_ h
     refine CallH.mk [false,false] (slI_4 hv51) SC (S ?_)
     refine CondH.run cs h (fun cs h=>S ?_) (fun cs h=>S ?_)
     ·obtain⟨v57,hv57,h⟩:=rb_ h
      refine CallH.mk [false] (slV_4 hv57) SC (S ?_)
      obtain⟨v60,hv60,h⟩:=rb_ h
      refine CallH.mk [false,false] (slI_4 hv60) SC (S ?_)
      refine And.intro (DHa_ [] []) (S ?_)
      refine CondH.run cs h (fun cs h=>S ?_) (fun cs h=>S ?_)
      ·cases rs_ h
       exact FinH.l SC
      ·refine Mg.know_sl (b:=false) (sz:=5) (es:=a0.Parts.map (Formula.pv false)) 46 SC fun hl46=>?_; rw[List.length_map] at hl46
       replace h:=rl_ h
       refine Mg.forN h (fun i11 s11=>[(1,.val (.pv (Sx a1))),(3,.box (.pv ((Formula.pv false) a0))),(5,.box (.pv ((Term.pv false) a2))),(6,.box (.node [(.pv (I (0:Int))),(.node [(.pv (Sx (⟨#[]⟩:ByteArray))),(.pv (.sl true 2 []))]),(.pv (Sx (⟨#[]⟩:ByteArray))),(.pv (.sl true 5 []))])),(8,.box (.node [(.pv (I a0.Op)),(.node [(.pv (Sx (⟨#[]⟩:ByteArray))),(.pv (.sl true 2 []))]),(.pv (Sx a0.Var)),(.own 9333)])),(9,.val (.pv (I (i11:Int))))]) (fun i11 s11=>[(9333,(5,s11.map (Formula.pv true)))]) (St.le_trans (Sln_ (x:=(.node [(.pv (I a0.Op)),(.node [(.pv (Sx (⟨#[]⟩:ByteArray))),(.pv (.sl true 2 []))]),(.pv (Sx a0.Var)),(.pv (.sl true 5 []))])) 8 [3] 9333 5 NM SC SC SC) (Slm_ SC)) (fun i11 s11 hi h=>?_) (fun s11 h=>?_)
       ·have w:=ws_ (i:=i11) (by omega)
        refine S ?_
        refine CondH.t2 cs (by omega) (fun cs=>S ?_)
        obtain⟨v73,hv73,h⟩:=rb_ h
        refine IdxH.mk (f:=(Formula.pv false)) hv73 SC (S ?_)
        obtain⟨v77,hv77,h⟩:=rb_ h
        refine CallH.mk [false,false,false] (ih _ _ _ _ hv77) SC (S ?_)
        refine And.intro (DHa_ [10] [1232,1233]) (S ?_)
        refine CondH.run cs h (fun cs h=>S ?_) (fun cs h=>S ?_)
        ·obtain⟨v87,hv87,h⟩:=rb_ h
         refine AppH.mk (f:=(Formula.pv true)) (fun a=>Formula.psize _ a) hv87 SC SC (S ?_)
         have h:=rs_ h
         refine RdH.mk ⟨_,h,?_⟩
         refine St.le_trans (Slm_1 (S:=[(1,.val (.pv (Sx a1))),(3,.box (.pv ((Formula.pv false) a0))),(5,.box (.pv ((Term.pv false) a2))),(6,.box (.node [(.pv (I (0:Int))),(.node [(.pv (Sx (⟨#[]⟩:ByteArray))),(.pv (.sl true 2 []))]),(.pv (Sx (⟨#[]⟩:ByteArray))),(.pv (.sl true 5 []))])),(8,.box (.node [(.pv (I a0.Op)),(.node [(.pv (Sx (⟨#[]⟩:ByteArray))),(.pv (.sl true 2 []))]),(.pv (Sx a0.Var)),(.own 1392)])),(9,.val (.pv (I (IntKind.i64.wrap ((i11:Int)+(1:Int))))))]) (O:=[(1392,(5,v87.map (Formula.pv true)))]) SW SW) ?_
         refine Slr_ 1392 9333 (by decide) NM ?_
         exact Slm_ SW
        ·cases rs_ h
         exact FinH.l SC
       ·refine S ?_
        refine CondH.f2 cs (by omega) (fun cs=>S ?_)
        cases rs_ h
        exact FinH.l SC
     ·obtain⟨v55,hv55,h⟩:=rb_ h
      refine CallH.mk [false] (slO_4 hv55) SC (S ?_)
      cases rs_ h
      exact FinH.l SC
   ·refine CondH.run cs h (fun cs h=>S ?_) (fun cs h=>S ?_)
    ·refine CondH.run cs h (fun cs h=>S ?_) (fun cs h=>S ?_)
     ·obtain⟨v55,hv55,h⟩:=rb_ h
      refine CallH.mk [false] (slO_4 hv55) SC (S ?_)
      cases rs_ h
      exact FinH.l SC
     ·obtain⟨v47,hv47,h⟩:=rb_ h
      refine IdxH.mk (f:=(Formula.pv false)) hv47 SC (S ?_)
      obtain⟨v49,hv49,h⟩:=rb_ h
      refine CallH.mk [false] (slF_5 hv49) SC (S ?_)
      obtain⟨v51,hv51,h⟩:=rb_ h
      refine CallH.mk [false,false] (slI_4 hv51) SC (S ?_)
      refine CondH.run cs h (fun cs h=>S ?_) (fun cs h=>S ?_)
      ·obtain⟨v57,hv57,h⟩:=rb_ h
       refine CallH.mk [false] (slV_4 hv57) SC (S ?_)
       obtain⟨v60,hv60,h⟩:=rb_ h
       refine CallH.mk [false,false] (slI_4 hv60) SC (S ?_)
       refine And.intro (DHa_ [] []) (S ?_)
       refine CondH.run cs h (fun cs h=>S ?_) (fun cs h=>S ?_)
       ·cases rs_ h
        exact FinH.l SC
       ·refine Mg.know_sl (b:=false) (sz:=5) (es:=a0.Parts.map (Formula.pv false)) 46 SC fun hl46=>?_; rw[List.length_map] at hl46
        replace h:=rl_ h
        refine Mg.forN h (fun i11 s11=>[(1,.val (.pv (Sx a1))),(3,.box (.pv ((Formula.pv false) a0))),(5,.box (.pv ((Term.pv false) a2))),(6,.box (.node [(.pv (I (0:Int))),(.node [(.pv (Sx (⟨#[]⟩:ByteArray))),(.pv (.sl true 2 []))]),(.pv (Sx (⟨#[]⟩:ByteArray))),(.pv (.sl true 5 []))])),(8,.box (.node [(.pv (I a0.Op)),(.node [(.pv (Sx (⟨#[]⟩:ByteArray))),(.pv (.sl true 2 []))]),(.pv (Sx a0.Var)),(.own 9333)])),(9,.val (.pv (I (i11:Int))))]) (fun i11 s11=>[(9333,(5,s11.map (Formula.pv true)))]) (St.le_trans (Sln_ (x:=(.node [(.pv (I a0.Op)),(.node [(.pv (Sx (⟨#[]⟩:ByteArray))),(.pv (.sl true 2 []))]),(.pv (Sx a0.Var)),(.pv (.sl true 5 []))])) 8 [3] 9333 5 NM SC SC SC) (Slm_ SC)) (fun i11 s11 hi h=>?_) (fun s11 h=>?_)
        ·have w:=ws_ (i:=i11) (by omega)
         refine S ?_
         refine CondH.t2 cs (by omega) (fun cs=>S ?_)
         obtain⟨v73,hv73,h⟩:=rb_ h
         refine IdxH.mk (f:=(Formula.pv false)) hv73 SC (S ?_)
         obtain⟨v77,hv77,h⟩:=rb_ h
         refine CallH.mk [false,false,false] (ih _ _ _ _ hv77) SC (S ?_)
         refine And.intro (DHa_ [10] [1232,1233]) (S ?_)
         refine CondH.run cs h (fun cs h=>S ?_) (fun cs h=>S ?_)
         ·obtain⟨v87,hv87,h⟩:=rb_ h
          refine AppH.mk (f:=(Formula.pv true)) (fun a=>Formula.psize _ a) hv87 SC SC (S ?_)
          have h:=rs_ h
          refine RdH.mk ⟨_,h,?_⟩
          refine St.le_trans (Slm_1 (S:=[(1,.val (.pv (Sx a1))),(3,.box (.pv ((Formula.pv false) a0))),(5,.box (.pv ((Term.pv false) a2))),(6,.box (.node [(.pv (I (0:Int))),(.node [(.pv (Sx (⟨#[]⟩:ByteArray))),(.pv (.sl true 2 []))]),(.pv (Sx (⟨#[]⟩:ByteArray))),(.pv (.sl true 5 []))])),(8,.box (.node [(.pv (I a0.Op)),(.node [(.pv (Sx (⟨#[]⟩:ByteArray))),(.pv (.sl true 2 []))]),(.pv (Sx a0.Var)),(.own 1392)])),(9,.val (.pv (I (IntKind.i64.wrap ((i11:Int)+(1:Int))))))]) (O:=[(1392,(5,v87.map (Formula.pv true)))]) SW SW) ?_
          refine Slr_ 1392 9333 (by decide) NM ?_
          exact Slm_ SW
         ·cases rs_ h
          exact FinH.l SC
        ·refine S ?_
         refine CondH.f2 cs (by omega) (fun cs=>S ?_)
         cases rs_ h
         exact FinH.l SC
      ·obtain⟨v55,hv55,h⟩:=rb_ h
       refine CallH.mk [false] (slO_4 hv55) SC (S ?_)
       cases rs_ h
       exact FinH.l SC
    ·refine Mkv_ (b:=false) (sz:=5) (es:=a0.Parts.map (Formula.pv false)) (x:=(.pv ((Formula.pv false) a0))) 0 [3] SC fun hl0=>?_; rw[List.length_map] at hl0
     replace h:=rl_ h
     refine Mg.forN h (fun i11 s11=>[(1,.val (.pv (Sx a1))),(3,.box (.pv ((Formula.pv false) a0))),(5,.box (.pv ((Term.pv false) a2))),(6,.box (.node [(.pv (I (0:Int))),(.node [(.pv (Sx (⟨#[]⟩:ByteArray))),(.pv (.sl true 2 []))]),(.pv (Sx (⟨#[]⟩:ByteArray))),(.pv (.sl true 5 []))])),(8,.box (.node [(.pv (I a0.Op)),(.node [(.pv (Sx (⟨#[]⟩:ByteArray))),(.pv (.sl true 2 []))]),(.pv (Sx a0.Var)),(.own 9333)])),(9,.val (.pv (I (i11:Int))))]) (fun i11 s11=>[(9333,(5,s11.map (Formula.pv true)))]) (St.le_trans (Sln_ (x:=(.node [(.pv (I a0.Op)),(.node [(.pv (Sx (⟨#[]⟩:ByteArray))),(.pv (.sl true 2 []))]),(.pv (Sx a0.Var)),(.pv (.sl true 5 []))])) 8 [3] 9333 5 NM SC SC SC) (Slm_ SC)) (fun i11 s11 hi h=>?_) (fun s11 h=>?_)
     ·have w:=ws_ (i:=i11) (by omega)
      refine S ?_
      refine CondH.t2 cs (by omega) (fun cs=>S ?_)
      obtain⟨v73,hv73,h⟩:=rb_ h
      refine IdxH.mk (f:=(Formula.pv false)) hv73 SC (S ?_)
      obtain⟨v77,hv77,h⟩:=rb_ h
      refine CallH.mk [false,false,false] (ih _ _ _ _ hv77) SC (S ?_)
      refine And.intro (DHa_ [10] [1232,1233]) (S ?_)
      refine CondH.run cs h (fun cs h=>S ?_) (fun cs h=>S ?_)
      ·obtain⟨v87,hv87,h⟩:=rb_ h
       refine AppH.mk (f:=(Formula.pv true)) (fun a=>Formula.psize _ a) hv87 SC SC (S ?_)
       have h:=rs_ h
       refine RdH.mk ⟨_,h,?_⟩
       refine St.le_trans (Slm_1 (S:=[(1,.val (.pv (Sx a1))),(3,.box (.pv ((Formula.pv false) a0))),(5,.box (.pv ((Term.pv false) a2))),(6,.box (.node [(.pv (I (0:Int))),(.node [(.pv (Sx (⟨#[]⟩:ByteArray))),(.pv (.sl true 2 []))]),(.pv (Sx (⟨#[]⟩:ByteArray))),(.pv (.sl true 5 []))])),(8,.box (.node [(.pv (I a0.Op)),(.node [(.pv (Sx (⟨#[]⟩:ByteArray))),(.pv (.sl true 2 []))]),(.pv (Sx a0.Var)),(.own 1392)])),(9,.val (.pv (I (IntKind.i64.wrap ((i11:Int)+(1:Int))))))]) (O:=[(1392,(5,v87.map (Formula.pv true)))]) SW SW) ?_
       refine Slr_ 1392 9333 (by decide) NM ?_
       exact Slm_ SW
      ·cases rs_ h
       exact FinH.l SC
     ·refine S ?_
      refine CondH.f2 cs (by omega) (fun cs=>S ?_)
      cases rs_ h
      exact FinH.l SC
theorem slP_10{a0:Formula}{a1:ByteArray}{a2:Term}{r:Formula×Bool}(h:slP_8 a0 a1 a2=some r):Sat Tryz.prog 191 [((Formula.pv false) a0),(Sx a1),((Term.pv false) a2)] (.tup [((Formula.pv true) r.1),(B r.2)]):=by
 obtain⟨n,hn⟩:=ls_ h
 exact(slP_9 n) _ _ _ _ hn

theorem slN_11{a0:Sequent}  {r:List ByteArray}(h:slN_7 a0=some r):Sat Tryz.prog 193 [((Sequent.pv false) a0)] (.sl false 1 (r.map Sx)):=by
 obtain⟨h,cs⟩:=Ro_ h
 unfold slN_7 at h
 refine Sat.of_m (nt:=38) (rs:=[.tmp 2]) (n:=100000) Tryz.func193 rfl rfl rfl rfl (by simp) (S ?_)
 refine Mkv_ (b:=false) (sz:=5) (es:=a0.Left.map (Formula.pv false)) (x:=(.pv ((Sequent.pv false) a0))) 0 [0] SC fun hl0=>?_; rw[List.length_map] at hl0
 replace h:=rl_ h
 refine Mg.forN h (fun i3 s3=>[(1,.box (.pv ((Sequent.pv false) a0))),(3,.val (.pv (.sl false 1 (s3.map Sx)))),(4,.val (.pv (I (i3:Int))))]) (fun i3 s3=>[]) (St.le_trans (Sld_ (x:=(.own 96)) (sz:=(1)) (es:=([]).map Sx) 3 [] 96 SC) (Slm_ SC)) (fun i3 s3 hi h=>?_) (fun s3 h=>?_)
 ·have w:=ws_ (i:=i3) (by omega)
  refine S ?_
  refine CondH.t2 cs (by omega) (fun cs=>S ?_)
  obtain⟨v18,hv18,h⟩:=rb_ h
  refine IdxH.mk (f:=(Formula.pv false)) hv18 SC (S ?_)
  obtain⟨v21,hv21,h⟩:=rb_ h
  refine CallH.mk [false,false,true] (Sat.give (args:=[(.sl false 1 (s3.map Sx)),((Formula.pv false) v18),(.sl true 1 (([]).map Sx))]) [false,false,true] (by have gg:=slI_7 hv21; simp only[gv_t,gv_f,gv_n,vs_,va_,vl_,PV.views,RB,RS] at gg ⊢; exact gg)) SC (S ?_)
  have h:=rs_ h
  refine RdH.mk ⟨_,h,?_⟩
  exact Slm_ SW
 ·refine S ?_
  refine CondH.f2 cs (by omega) (fun cs=>S ?_)
  refine Mkb_ (b:=false) (sz:=5) (es:=a0.Right.map (Formula.pv false)) (x:=(.pv ((Sequent.pv false) a0))) 1 [1] SC fun hl1=>?_; rw[List.length_map] at hl1
  replace h:=rl_ h
  refine Mg.forN h (fun i7 s7=>[(1,.box (.pv ((Sequent.pv false) a0))),(3,.val (.pv (.sl false 1 (s7.map Sx)))),(5,.val (.pv (I (i7:Int))))]) (fun i7 s7=>[]) (Slm_ SC) (fun i7 s7 hi h=>?_) (fun s7 h=>?_)
  ·have w:=ws_ (i:=i7) (by omega)
   refine S ?_
   refine CondH.t2 cs (by omega) (fun cs=>S ?_)
   obtain⟨v33,hv33,h⟩:=rb_ h
   refine IdxH.mk (f:=(Formula.pv false)) hv33 SC (S ?_)
   obtain⟨v36,hv36,h⟩:=rb_ h
   refine CallH.mk [false,false,true] (Sat.give (args:=[(.sl false 1 (s7.map Sx)),((Formula.pv false) v33),(.sl true 1 (([]).map Sx))]) [false,false,true] (by have gg:=slI_7 hv36; simp only[gv_t,gv_f,gv_n,vs_,va_,vl_,PV.views,RB,RS] at gg ⊢; exact gg)) SC (S ?_)
   have h:=rs_ h
   refine RdH.mk ⟨_,h,?_⟩
   exact Slm_ SW
  ·refine S ?_
   refine CondH.f2 cs (by omega) (fun cs=>S ?_)
   cases rs_ h
   exact FinH.r SC

theorem slQ_1{a0:Sequent}{a1:Int}{a2:Int}{a3:Formula}{a4:Term}  {r:(List Sequent)×Bool}(h:slQ_ a0 a1 a2 a3 a4=some r):Sat Tryz.prog 184 [((Sequent.pv false) a0),(I a1),(I a2),((Formula.pv false) a3),((Term.pv false) a4)] (.tup [(.sl true 2 (r.1.map (Sequent.pv true))),(B r.2)]):=by
 obtain⟨h,cs⟩:=Ro_ h
 unfold slQ_ at h
 refine Sat.of_m (nt:=78) (rs:=[.tmp 10,.tmp 11]) (n:=100000) Tryz.func184 rfl rfl rfl rfl (by simp) (S ?_)
 obtain⟨v17,hv17,h⟩:=rb_ h
 refine CallH.mk [false] (slG_5 hv17) SC (S ?_)
 refine CondH.run cs h (fun cs h=>S ?_) (fun cs h=>S ?_)
 ·obtain⟨v23,hv23,h⟩:=rb_ h
  refine IdxH.mk (f:=(Formula.pv false)) hv23 SC (S ?_)
  obtain⟨v28,hv28,h⟩:=rb_ h
  refine CallH.mk [false,false,false] (slP_10 hv28) SC (S ?_)
  refine And.intro (DHa_ [12] [448,449]) (S ?_)
  refine CondH.run cs h (fun cs h=>S ?_) (fun cs h=>S ?_)
  ·refine CondH.run cs h (fun cs h=>S ?_) (fun cs h=>S ?_)
   ·obtain⟨v43,hv43,h⟩:=rb_ h
    refine CallH.mk [false,false,false,false,false] (slN_ hv43) SC (S ?_)
    cases rs_ h
    exact FinH.l SC
   ·refine CondH.run cs h (fun cs h=>S ?_) (fun cs h=>S ?_)
    ·obtain⟨v50,hv50,h⟩:=rb_ h
     refine CallH.mk [false,false,false,false,false] (slN_ hv50) SC (S ?_)
     cases rs_ h
     exact FinH.l SC
    ·obtain⟨v54,hv54,h⟩:=rb_ h
     refine CallH.mk [false] (slV_2 hv54) SC (S ?_)
     refine CondH.run cs h (fun cs h=>S ?_) (fun cs h=>S ?_)
     ·obtain⟨v58,hv58,h⟩:=rb_ h
      refine CallH.mk [false] (slN_11 hv58) SC (S ?_)
      obtain⟨v61,hv61,h⟩:=rb_ h
      refine CallH.mk [false,false] (slI_4 hv61) SC (S ?_)
      refine And.intro (DHa_ [] []) (S ?_)
      refine CondH.run cs h (fun cs h=>S ?_) (fun cs h=>S ?_)
      ·cases rs_ h
       exact FinH.l SC
      ·refine CondH.run cs h (fun cs h=>S ?_) (fun cs h=>S ?_)
       ·obtain⟨v70,hv70,h⟩:=rb_ h
        refine CallH.mk [false,false,false,false,false] (slN_ hv70) SC (S ?_)
        cases rs_ h
        exact FinH.l SC
       ·obtain⟨v76,hv76,h⟩:=rb_ h
        refine CallH.mk [false,false,false,false,false] (slN_ hv76) SC (S ?_)
        cases rs_ h
        exact FinH.l SC
     ·refine And.intro (DHa_ [] []) (S ?_)
      cases rs_ h
      exact FinH.l SC
  ·cases rs_ h
   exact FinH.l SC
 ·cases rs_ h
  exact FinH.l SC

theorem slP_4{a0:Sequent}{a1:Int}{a2:Int}{a3:List Formula}  {r:List Sequent}(h:slP_ a0 a1 a2 a3=some r):Sat Tryz.prog 185 [((Sequent.pv false) a0),(I a1),(I a2),(.sl false 5 (a3.map (Formula.pv false)))] (.sl true 2 (r.map (Sequent.pv true))):=by
 obtain⟨h,cs⟩:=Ro_ h
 unfold slP_ at h
 refine Sat.of_m (nt:=96) (rs:=[.tmp 8]) (n:=100000) Tryz.func185 rfl rfl rfl rfl (by simp) (S ?_)
 obtain⟨v14,hv14,h⟩:=rb_ h
 refine SlcH.mk (f:=(Formula.pv false)) hv14 SC (S ?_)
 refine CondH.run cs h (fun cs h=>S ?_) (fun cs h=>S ?_)
 ·obtain⟨v22,hv22,h⟩:=rb_ h
  refine CallH.mk [false,false,false,false,false] (slN_ hv22) SC (S ?_)
  cases rs_ h
  exact FinH.l SC
 ·refine CondH.run cs h (fun cs h=>S ?_) (fun cs h=>S ?_)
  ·obtain⟨v30,hv30,h⟩:=rb_ h
   refine CallH.mk [false,false,false,false,false] (slN_ hv30) SC (S ?_)
   cases rs_ h
   exact FinH.l SC
  ·obtain⟨v33,hv33,h⟩:=rb_ h
   refine SlcH.mk (f:=(Formula.pv false)) hv33 SC (S ?_)
   refine CondH.run cs h (fun cs h=>S ?_) (fun cs h=>S ?_)
   ·obtain⟨v41,hv41,h⟩:=rb_ h
    refine CallH.mk [false,false,false,false,false] (slN_ hv41) SC (S ?_)
    cases rs_ h
    exact FinH.l SC
   ·refine CondH.run cs h (fun cs h=>S ?_) (fun cs h=>S ?_)
    ·obtain⟨v49,hv49,h⟩:=rb_ h
     refine CallH.mk [false,false,false,false,false] (slN_ hv49) SC (S ?_)
     obtain⟨v54,hv54,h⟩:=rb_ h
     refine CallH.mk [false,false,false,false,false] (slN_ hv54) SC (S ?_)
     refine And.intro (DHa_ [] [784,785,864,865,880]) (S ?_)
     cases rs_ h
     exact FinH.l SC
    ·refine CondH.run cs h (fun cs h=>S ?_) (fun cs h=>S ?_)
     ·obtain⟨v62,hv62,h⟩:=rb_ h
      refine CallH.mk [false,false,false,false,false] (slN_ hv62) SC (S ?_)
      obtain⟨v67,hv67,h⟩:=rb_ h
      refine CallH.mk [false,false,false,false,false] (slN_ hv67) SC (S ?_)
      refine And.intro (DHa_ [] [992,993,1072,1073,1088]) (S ?_)
      cases rs_ h
      exact FinH.l SC
     ·refine CondH.run cs h (fun cs h=>S ?_) (fun cs h=>S ?_)
      ·obtain⟨v75,hv75,h⟩:=rb_ h
       refine CallH.mk [false,false,false,false,false] (slN_ hv75) SC (S ?_)
       cases rs_ h
       exact FinH.l SC
      ·refine CondH.run cs h (fun cs h=>S ?_) (fun cs h=>S ?_)
       ·obtain⟨v83,hv83,h⟩:=rb_ h
        refine CallH.mk [false,false,false,false,false] (slN_ hv83) SC (S ?_)
        obtain⟨v88,hv88,h⟩:=rb_ h
        refine CallH.mk [false,false,false,false,false] (slN_ hv88) SC (S ?_)
        refine And.intro (DHa_ [] [1328,1329,1408,1409,1424]) (S ?_)
        cases rs_ h
        exact FinH.l SC
       ·obtain⟨v94,hv94,h⟩:=rb_ h
        refine CallH.mk [false,false,false,false,false] (slN_ hv94) SC (S ?_)
        cases rs_ h
        exact FinH.l SC

theorem slR_3{a0:Sequent}{a1:Derivation}  {r:(List Sequent)×Bool}(h:slR_ a0 a1=some r):Sat Tryz.prog 165 [((Sequent.pv false) a0),((Derivation.pv false) a1)] (.tup [(.sl true 2 (r.1.map (Sequent.pv true))),(B r.2)]):=by
 obtain⟨h,cs⟩:=Ro_ h
 unfold slR_ at h
 refine Sat.of_m (nt:=130) (rs:=[.tmp 4,.tmp 5]) (n:=100000) Tryz.func165 rfl rfl rfl rfl (by simp) (S ?_)
 obtain⟨v14,hv14,h⟩:=rb_ h
 refine CallH.mk [false,false,false] (slI_1 hv14) SC (S ?_)
 refine CondH.run cs h (fun cs h=>S ?_) (fun cs h=>S ?_)
 ·refine CondH.run cs h (fun cs h=>S ?_) (fun cs h=>S ?_)
  ·obtain⟨v46,hv46,h⟩:=rb_ h
   refine CallH.mk [false,false,false,false,false] (slN_ hv46) SC (S ?_)
   obtain⟨v50,hv50,h⟩:=rb_ h
   refine CallH.mk [false,false,false,false,false] (slN_ hv50) SC (S ?_)
   refine CondH.run cs h (fun cs h=>S ?_) (fun cs h=>S ?_)
   ·obtain⟨v58,hv58,h⟩:=rb_ h
    refine CallH.mk [false] (slG_3 hv58) SC (S ?_)
    refine And.intro (DHa_ [] [704,736,737,784,800,801,816]) (S ?_)
    cases rs_ h
    exact FinH.l SC
   ·refine And.intro (DHa_ [] [704,736,737,784,800,801,816]) (S ?_)
    cases rs_ h
    exact FinH.l SC
  ·obtain⟨v32,hv32,h⟩:=rb_ h
   refine CallH.mk [false,false] (slS_10 hv32) SC (S ?_)
   refine CondH.run cs h (fun cs h=>S ?_) (fun cs h=>S ?_)
   ·obtain⟨v64,hv64,h⟩:=rb_ h
    refine CallH.mk [false] (slO_5 hv64) SC (S ?_)
    refine CondH.run cs h (fun cs h=>S ?_) (fun cs h=>S ?_)
    ·obtain⟨v69,hv69,h⟩:=rb_ h
     refine CallH.mk [false,false,false] (slI_1 hv69) SC (S ?_)
     refine CondH.run cs h (fun cs h=>S ?_) (fun cs h=>S ?_)
     ·obtain⟨v77,hv77,h⟩:=rb_ h
      refine CallH.mk [false,false,false] (slI_1 hv77) SC (S ?_)
      refine CondH.run cs h (fun cs h=>S ?_) (fun cs h=>S ?_)
      ·obtain⟨v84,hv84,h⟩:=rb_ h
       refine IdxH.mk (f:=(Formula.pv false)) hv84 SC (S ?_)
       refine CondH.run cs h (fun cs h=>S ?_) (fun cs h=>S ?_)
       ·refine CondH.run cs h (fun cs h=>S ?_) (fun cs h=>S ?_)
        ·cases rs_ h
         exact FinH.l SC
        ·obtain⟨v97,hv97,h⟩:=rb_ h
         refine CallH.mk [false,false] (slH_1 hv97) SC (S ?_)
         cases rs_ h
         exact FinH.l SC
       ·obtain⟨v103,hv103,h⟩:=rb_ h
        refine CallH.mk [false] (slO_8 hv103) SC (S ?_)
        refine And.intro (DHa_ [] []) (S ?_)
        refine CondH.run cs h (fun cs h=>S ?_) (fun cs h=>S ?_)
        ·refine CondH.run cs h (fun cs h=>S ?_) (fun cs h=>S ?_)
         ·cases rs_ h
          exact FinH.l SC
         ·obtain⟨v119,hv119,h⟩:=rb_ h
          refine CallH.mk [false,false,false,false,false] (slQ_1 hv119) SC (S ?_)
          cases rs_ h
          exact FinH.l SC
        ·cases rs_ h
         exact FinH.l SC
      ·cases rs_ h
       exact FinH.l SC
     ·cases rs_ h
      exact FinH.l SC
    ·obtain⟨v69,hv69,h⟩:=rb_ h
     refine CallH.mk [false,false,false] (slI_1 hv69) SC (S ?_)
     refine CondH.run cs h (fun cs h=>S ?_) (fun cs h=>S ?_)
     ·obtain⟨v77,hv77,h⟩:=rb_ h
      refine CallH.mk [false,false,false] (slI_1 hv77) SC (S ?_)
      refine CondH.run cs h (fun cs h=>S ?_) (fun cs h=>S ?_)
      ·obtain⟨v84,hv84,h⟩:=rb_ h
       refine IdxH.mk (f:=(Formula.pv false)) hv84 SC (S ?_)
       refine CondH.run cs h (fun cs h=>S ?_) (fun cs h=>S ?_)
       ·refine CondH.run cs h (fun cs h=>S ?_) (fun cs h=>S ?_)
        ·cases rs_ h
         exact FinH.l SC
        ·obtain⟨v97,hv97,h⟩:=rb_ h
         refine CallH.mk [false,false] (slH_1 hv97) SC (S ?_)
         cases rs_ h
         exact FinH.l SC
       ·obtain⟨v103,hv103,h⟩:=rb_ h
        refine CallH.mk [false] (slO_8 hv103) SC (S ?_)
        refine And.intro (DHa_ [] []) (S ?_)
        refine CondH.run cs h (fun cs h=>S ?_) (fun cs h=>S ?_)
        ·refine CondH.run cs h (fun cs h=>S ?_) (fun cs h=>S ?_)
         ·cases rs_ h
          exact FinH.l SC
         ·obtain⟨v119,hv119,h⟩:=rb_ h
          refine CallH.mk [false,false,false,false,false] (slQ_1 hv119) SC (S ?_)
          cases rs_ h
          exact FinH.l SC
        ·cases rs_ h
         exact FinH.l SC
      ·cases rs_ h
       exact FinH.l SC
     ·cases rs_ h
      exact FinH.l SC
   ·cases rs_ h
    exact FinH.l SC
 ·obtain⟨v21,hv21,h⟩:=rb_ h
  refine CallH.mk [false,false] (slS_17 hv21) SC (S ?_)
  refine CondH.run cs h (fun cs h=>S ?_) (fun cs h=>S ?_)
  ·refine CondH.run cs h (fun cs h=>S ?_) (fun cs h=>S ?_)
   ·obtain⟨v46,hv46,h⟩:=rb_ h
    refine CallH.mk [false,false,false,false,false] (slN_ hv46) SC (S ?_)
    obtain⟨v50,hv50,h⟩:=rb_ h
    refine CallH.mk [false,false,false,false,false] (slN_ hv50) SC (S ?_)
    refine CondH.run cs h (fun cs h=>S ?_) (fun cs h=>S ?_)
    ·obtain⟨v58,hv58,h⟩:=rb_ h
     refine CallH.mk [false] (slG_3 hv58) SC (S ?_)
     refine And.intro (DHa_ [] [704,736,737,784,800,801,816]) (S ?_)
     cases rs_ h
     exact FinH.l SC
    ·refine And.intro (DHa_ [] [704,736,737,784,800,801,816]) (S ?_)
     cases rs_ h
     exact FinH.l SC
   ·obtain⟨v32,hv32,h⟩:=rb_ h
    refine CallH.mk [false,false] (slS_10 hv32) SC (S ?_)
    refine CondH.run cs h (fun cs h=>S ?_) (fun cs h=>S ?_)
    ·obtain⟨v64,hv64,h⟩:=rb_ h
     refine CallH.mk [false] (slO_5 hv64) SC (S ?_)
     refine CondH.run cs h (fun cs h=>S ?_) (fun cs h=>S ?_)
     ·obtain⟨v69,hv69,h⟩:=rb_ h
      refine CallH.mk [false,false,false] (slI_1 hv69) SC (S ?_)
      refine CondH.run cs h (fun cs h=>S ?_) (fun cs h=>S ?_)
      ·obtain⟨v77,hv77,h⟩:=rb_ h
       refine CallH.mk [false,false,false] (slI_1 hv77) SC (S ?_)
       refine CondH.run cs h (fun cs h=>S ?_) (fun cs h=>S ?_)
       ·obtain⟨v84,hv84,h⟩:=rb_ h
        refine IdxH.mk (f:=(Formula.pv false)) hv84 SC (S ?_)
        refine CondH.run cs h (fun cs h=>S ?_) (fun cs h=>S ?_)
        ·refine CondH.run cs h (fun cs h=>S ?_) (fun cs h=>S ?_)
         ·cases rs_ h
          exact FinH.l SC
         ·obtain⟨v97,hv97,h⟩:=rb_ h
          refine CallH.mk [false,false] (slH_1 hv97) SC (S ?_)
          cases rs_ h
          exact FinH.l SC
        ·obtain⟨v103,hv103,h⟩:=rb_ h
         refine CallH.mk [false] (slO_8 hv103) SC (S ?_)
         refine And.intro (DHa_ [] []) (S ?_)
         refine CondH.run cs h (fun cs h=>S ?_) (fun cs h=>S ?_)
         ·refine CondH.run cs h (fun cs h=>S ?_) (fun cs h=>S ?_)
          ·cases rs_ h
           exact FinH.l SC
          ·obtain⟨v129,hv129,h⟩:=rb_ h
           refine CallH.mk [false,false,false,false] (slP_4 hv129) SC (S ?_)
           cases rs_ h
           exact FinH.l SC
         ·cases rs_ h
          exact FinH.l SC
       ·cases rs_ h
        exact FinH.l SC
      ·cases rs_ h
       exact FinH.l SC
     ·obtain⟨v69,hv69,h⟩:=rb_ h
      refine CallH.mk [false,false,false] (slI_1 hv69) SC (S ?_)
      refine CondH.run cs h (fun cs h=>S ?_) (fun cs h=>S ?_)
      ·obtain⟨v77,hv77,h⟩:=rb_ h
       refine CallH.mk [false,false,false] (slI_1 hv77) SC (S ?_)
       refine CondH.run cs h (fun cs h=>S ?_) (fun cs h=>S ?_)
       ·obtain⟨v84,hv84,h⟩:=rb_ h
        refine IdxH.mk (f:=(Formula.pv false)) hv84 SC (S ?_)
        refine CondH.run cs h (fun cs h=>S ?_) (fun cs h=>S ?_)
        ·refine CondH.run cs h (fun cs h=>S ?_) (fun cs h=>S ?_)
         ·cases rs_ h
          exact FinH.l SC
         ·obtain⟨v97,hv97,h⟩:=rb_ h
          refine CallH.mk [false,false] (slH_1 hv97) SC (S ?_)
          cases rs_ h
          exact FinH.l SC
        ·obtain⟨v103,hv103,h⟩:=rb_ h
         refine CallH.mk [false] (slO_8 hv103) SC (S ?_)
         refine And.intro (DHa_ [] []) (S ?_)
         refine CondH.run cs h (fun cs h=>S ?_) (fun cs h=>S ?_)
         ·refine CondH.run cs h (fun cs h=>S ?_) (fun cs h=>S ?_)
          ·cases rs_ h
           exact FinH.l SC
          ·obtain⟨v129,hv129,h⟩:=rb_ h
           refine CallH.mk [false,false,false,false] (slP_4 hv129) SC (S ?_)
           cases rs_ h
           exact FinH.l SC
         ·cases rs_ h
          exact FinH.l SC
       ·cases rs_ h
        exact FinH.l SC
      ·cases rs_ h
       exact FinH.l SC
    ·cases rs_ h
     exact FinH.l SC
  ·cases rs_ h
   exact FinH.l SC

theorem slP_6{a0:Sequent}{a1:Derivation}  {r:(List Sequent)×Bool}(h:slP_2 a0 a1=some r):Sat Tryz.prog 145 [((Sequent.pv false) a0),((Derivation.pv false) a1)] (.tup [(.sl false 2 (r.1.map (Sequent.pv false))),(B r.2)]):=by
 obtain⟨h,cs⟩:=Ro_ h
 unfold slP_2 at h
 refine Sat.of_m (nt:=33) (rs:=[.tmp 4,.tmp 5]) (n:=100000) Tryz.func145 rfl rfl rfl rfl (by simp) (S ?_)
 obtain⟨v12,hv12,h⟩:=rb_ h
 refine CallH.mk [false,false] (SvO_ (res':=(.tup [(.sl false 2 (v12.1.map (Sequent.pv false))),(B v12.2)])) (slR_3 hv12) (by simp only[vt_,vs_,va_,vl_,PV.views,RB,RS])) SC (S ?_)
 refine Mg.know_sl (b:=false) (sz:=2) (es:=v12.1.map (Sequent.pv false)) 6 SC fun hl6=>?_; rw[List.length_map] at hl6
 replace h:=rl_ h
 refine Mg.forN h (fun i3 s3=>[(6,.val (.pv (.sl false 2 (v12.1.map (Sequent.pv false))))),(7,.val (.pv (B s3))),(8,.val (.pv (I (i3:Int))))]) (fun i3 s3=>[]) (Slm_ SC) (fun i3 s3 hi h=>?_) (fun s3 h=>?_)
 ·have w:=ws_ (i:=i3) (by omega)
  refine S ?_
  refine CondH.t2 cs (by omega) (fun cs=>S ?_)
  refine CondH.run cs h (fun cs h=>S ?_) (fun cs h=>S ?_)
  ·obtain⟨v25,hv25,h⟩:=rb_ h
   refine IdxH.mk (f:=(Sequent.pv false)) hv25 SC (S ?_)
   obtain⟨v27,hv27,h⟩:=rb_ h
   refine CallH.mk [false] (slG_4 hv27) SC (S ?_)
   have h:=rs_ h
   refine RdH.mk ⟨_,h,?_⟩
   exact Slm_ SW
  ·have h:=rs_ h
   refine RdH.mk ⟨_,h,?_⟩
   exact Slm_ SW
 ·refine S ?_
  refine CondH.f2 cs (by omega) (fun cs=>S ?_)
  refine CondH.run cs h (fun cs h=>S ?_) (fun cs h=>S ?_)
  ·cases rs_ h
   exact FinH.r SC
  ·cases rs_ h
   exact FinH.r SC

theorem slS_11{a0:List Formula}{a1:List Formula}  {r:Bool}(h:slS_1 a0 a1=some r):Sat Tryz.prog 148 [(.sl false 5 (a0.map (Formula.pv false))),(.sl false 5 (a1.map (Formula.pv false)))] (B r):=by
 obtain⟨h,cs⟩:=Ro_ h
 unfold slS_1 at h
 refine Sat.of_m (nt:=27) (rs:=[.tmp 4]) (n:=100000) Tryz.func148 rfl rfl rfl rfl (by simp) (S ?_)
 refine CondH.run cs h (fun cs h=>S ?_) (fun cs h=>S ?_)
 ·refine Mg.know_sl (b:=false) (sz:=5) (es:=a0.map (Formula.pv false)) 0 SC fun hl0=>?_; rw[List.length_map] at hl0
  replace h:=rl_ h
  refine Mg.forN h (fun i4 s4=>[(0,.val (.pv (.sl false 5 (a0.map (Formula.pv false))))),(1,.val (.pv (.sl false 5 (a1.map (Formula.pv false))))),(5,.val (.pv (I (i4:Int))))]) (fun i4 s4=>[]) (Slm_ SC) (fun i4 s4 hi h=>?_) (fun s4 h=>?_)
  ·have w:=ws_ (i:=i4) (by omega)
   refine S ?_
   refine CondH.t2 cs (by omega) (fun cs=>S ?_)
   obtain⟨v19,hv19,h⟩:=rb_ h
   refine IdxH.mk (f:=(Formula.pv false)) hv19 SC (S ?_)
   obtain⟨v23,hv23,h⟩:=rb_ h
   refine IdxH.mk (f:=(Formula.pv false)) hv23 SC (S ?_)
   obtain⟨v25,hv25,h⟩:=rb_ h
   refine CallH.mk [false,false] (slS_10 hv25) SC (S ?_)
   refine And.intro (DHa_ [] []) (S ?_)
   refine CondH.run cs h (fun cs h=>S ?_) (fun cs h=>S ?_)
   ·have h:=rs_ h
    refine RdH.mk ⟨_,h,?_⟩
    exact Slm_ SW
   ·cases rs_ h
    exact FinH.l SC
  ·refine S ?_
   refine CondH.f2 cs (by omega) (fun cs=>S ?_)
   cases rs_ h
   exact FinH.l SC
 ·cases rs_ h
  exact FinH.l SC

theorem slS_23{a0:Sequent}{a1:Sequent}  {r:Bool}(h:slS_9 a0 a1=some r):Sat Tryz.prog 121 [((Sequent.pv false) a0),((Sequent.pv false) a1)] (B r):=by
 obtain⟨h,cs⟩:=Ro_ h
 unfold slS_9 at h
 refine Sat.of_m (nt:=17) (rs:=[.tmp 4]) (n:=100000) Tryz.func121 rfl rfl rfl rfl (by simp) (S ?_)
 obtain⟨v9,hv9,h⟩:=rb_ h
 refine CallH.mk [false,false] (slS_11 hv9) SC (S ?_)
 refine CondH.run cs h (fun cs h=>S ?_) (fun cs h=>S ?_)
 ·obtain⟨v15,hv15,h⟩:=rb_ h
  refine CallH.mk [false,false] (slS_11 hv15) SC (S ?_)
  cases rs_ h
  exact FinH.l SC
 ·cases rs_ h
  exact FinH.l SC

theorem slN_12{a0:Derivation}  {r:Bool}(h:slN_5 a0=some r):Sat Tryz.prog 116 [((Derivation.pv false) a0)] (B r):=by
 obtain⟨h,cs⟩:=Ro_ h
 unfold slN_5 at h
 refine Sat.of_m (nt:=45) (rs:=[.tmp 2]) (n:=100000) Tryz.func116 rfl rfl rfl rfl (by simp) (S ?_)
 obtain⟨v8,hv8,h⟩:=rb_ h
 refine CallH.mk [false] (slG_4 hv8) SC (S ?_)
 refine CondH.run cs h (fun cs h=>S ?_) (fun cs h=>S ?_)
 ·obtain⟨v14,hv14,h⟩:=rb_ h
  refine CallH.mk [false,false] (slP_6 hv14) SC (S ?_)
  refine CondH.run cs h (fun cs h=>S ?_) (fun cs h=>S ?_)
  ·refine CondH.run cs h (fun cs h=>S ?_) (fun cs h=>S ?_)
   ·refine Mg.know_sl (b:=false) (sz:=2) (es:=v14.1.map (Sequent.pv false)) 3 SC fun hl3=>?_; rw[List.length_map] at hl3
    replace h:=rl_ h
    refine Mg.forN h (fun i7 s7=>[(1,.box (.pv ((Derivation.pv false) a0))),(3,.val (.pv (.sl false 2 (v14.1.map (Sequent.pv false))))),(5,.val (.pv (I (i7:Int))))]) (fun i7 s7=>[]) (Slm_ SC) (fun i7 s7 hi h=>?_) (fun s7 h=>?_)
    ·have w:=ws_ (i:=i7) (by omega)
     refine S ?_
     refine CondH.t2 cs (by omega) (fun cs=>S ?_)
     obtain⟨v35,hv35,h⟩:=rb_ h
     refine IdxH.mk (f:=(Sequent.pv false)) hv35 SC (S ?_)
     obtain⟨v40,hv40,h⟩:=rb_ h
     refine IdxH.mk (f:=(Derivation.pv false)) hv40 SC (S ?_)
     obtain⟨v43,hv43,h⟩:=rb_ h
     refine CallH.mk [false,false] (slS_23 hv43) SC (S ?_)
     refine And.intro (DHa_ [] []) (S ?_)
     refine CondH.run cs h (fun cs h=>S ?_) (fun cs h=>S ?_)
     ·have h:=rs_ h
      refine RdH.mk ⟨_,h,?_⟩
      exact Slm_ SW
     ·cases rs_ h
      exact FinH.l SC
    ·refine S ?_
     refine CondH.f2 cs (by omega) (fun cs=>S ?_)
     cases rs_ h
     exact FinH.l SC
   ·cases rs_ h
    exact FinH.l SC
  ·cases rs_ h
   exact FinH.l SC
 ·cases rs_ h
  exact FinH.l SC

theorem slO_13{a0:List Int}  {r:List Int}(h:slO_10 a0=some r):Sat Tryz.prog 117 [(.sl false 1 (a0.map I))] (.sl true 1 (r.map I)):=by
 obtain⟨h,cs⟩:=Ro_ h
 unfold slO_10 at h
 refine Sat.of_m (nt:=6) (rs:=[.tmp 2]) (n:=100000) Tryz.func117 rfl rfl rfl rfl (by simp) (S ?_)
 obtain⟨v5,hv5,h⟩:=rb_ h
 refine AppH.mk (f:=I) (fun _=>rfl) hv5 SC SC (S ?_)
 cases rs_ h
 exact FinH.l SC

theorem slW_2(n:Nat):(∀ (a0:Derivation) (a1:List Int) (r:(List Int)×Bool),slW_ n a0 a1=some r→Sat Tryz.prog 78 [((Derivation.pv false) a0),(.sl false 1 (a1.map I))] (.tup [(.sl false 1 (r.1.map I)),(B r.2)])):=by
 induction n with
 | zero=>exact fun _ _ _ h=>by simp[slW_] at h
 | succ n ih=>
  refine fun a0 a1 r h=>?_
  obtain⟨h,cs⟩:=Ro_ h
  rw[slW_] at h
  refine Sat.of_m (nt:=37) (rs:=[.tmp 4,.tmp 5]) (n:=100000) Tryz.func78 rfl rfl rfl rfl (by simp) (S ?_)
  obtain⟨v10,hv10,h⟩:=rb_ h
  refine CallH.mk [false] (slN_12 hv10) SC (S ?_)
  refine CondH.run cs h (fun cs h=>S ?_) (fun cs h=>S ?_)
  ·refine Mkv_ (b:=false) (sz:=12) (es:=a0.Parts.map (Derivation.pv false)) (x:=(.pv ((Derivation.pv false) a0))) 0 [5] SC fun hl0=>?_; rw[List.length_map] at hl0
   replace h:=rl_ h
   refine Mg.forN h (fun i4 s4=>[(1,.val (.pv (.sl false 1 (a1.map I)))),(2,.box (.pv ((Derivation.pv false) a0))),(6,.val (.pv (I (i4:Int))))]) (fun i4 s4=>[]) (Slm_ SC) (fun i4 s4 hi h=>?_) (fun s4 h=>?_)
   ·have w:=ws_ (i:=i4) (by omega)
    refine S ?_
    refine CondH.t2 cs (by omega) (fun cs=>S ?_)
    obtain⟨v24,hv24,h⟩:=rb_ h
    refine IdxH.mk (f:=(Derivation.pv false)) hv24 SC (S ?_)
    obtain⟨v27,hv27,h⟩:=rb_ h
    refine CallH.mk [false] (slO_13 hv27) SC (S ?_)
    obtain⟨v30,hv30,h⟩:=rb_ h
    refine AppH.mk (f:=I) (fun _=>rfl) hv30 SC SC (S ?_)
    obtain⟨v31,hv31,h⟩:=rb_ h
    refine CallH.mk [false,true] (Sat.give (args:=[((Derivation.pv false) v24),(.sl true 1 (v30.map I))]) [false,true] (by have gg:=ih _ _ _ hv31; simp only[gv_t,gv_f,gv_n,vs_,va_,vl_,PV.views,RB,RS] at gg ⊢; exact gg)) SC (S ?_)
    refine And.intro (DHa_ [] [432,464,480]) (S ?_)
    refine CondH.run cs h (fun cs h=>S ?_) (fun cs h=>S ?_)
    ·cases rs_ h
     exact FinH.r SC
    ·have h:=rs_ h
     refine RdH.mk ⟨_,h,?_⟩
     exact Slm_ SW
   ·refine S ?_
    refine CondH.f2 cs (by omega) (fun cs=>S ?_)
    cases rs_ h
    exact FinH.r SC
  ·cases rs_ h
   exact FinH.r SC
theorem slW_3{a0:Derivation}{a1:List Int}{r:(List Int)×Bool}(h:slW_1 a0 a1=some r):Sat Tryz.prog 78 [((Derivation.pv false) a0),(.sl false 1 (a1.map I))] (.tup [(.sl false 1 (r.1.map I)),(B r.2)]):=by
 obtain⟨n,hn⟩:=ls_ h
 exact(slW_2 n) _ _ _ hn

theorem slV_5{a0:Derivation}  {r:Bool}(h:slV_3 a0=some r):Sat Tryz.prog 40 [((Derivation.pv false) a0)] (B r):=by
 obtain⟨h,cs⟩:=Ro_ h
 unfold slV_3 at h
 refine Sat.of_m (nt:=16) (rs:=[.tmp 2]) (n:=100000) Tryz.func40 rfl rfl rfl rfl (by simp) (S ?_)
 obtain⟨v6,hv6,h⟩:=rb_ h
 refine CallH.mk [false,false] (slS_22 hv6) SC (S ?_)
 refine CondH.run cs h (fun cs h=>S ?_) (fun cs h=>S ?_)
 ·cases rs_ h
  exact FinH.l SC
 ·obtain⟨v11,hv11,h⟩:=rb_ h
  refine CallH.mk [false,true] (Sat.give (args:=[((Derivation.pv false) a0),(.sl true 1 (([]).map I))]) [false,true] (by have gg:=slW_3 hv11; simp only[gv_t,gv_f,gv_n,vs_,va_,vl_,PV.views,RB,RS] at gg ⊢; exact gg)) SC (S ?_)
  cases rs_ h
  exact FinH.l SC

theorem slM_10{a0:Derivation}{a1:List Bool}{a2:List Bool}  {r:Bool}(h:slM_4 a0 a1 a2=some r):Sat Tryz.prog 86 [((Derivation.pv false) a0),(.sl false 1 (a1.map B)),(.sl false 1 (a2.map B))] (B r):=by
 obtain⟨h,cs⟩:=Ro_ h
 unfold slM_4 at h
 refine Sat.of_m (nt:=23) (rs:=[.tmp 6]) (n:=100000) Tryz.func86 rfl rfl rfl rfl (by simp) (S ?_)
 refine CondH.run cs h (fun cs h=>S ?_) (fun cs h=>S ?_)
 ·cases rs_ h
  exact FinH.l SC
 ·obtain⟨v12,hv12,h⟩:=rb_ h
  refine CallH.mk [false] (slO_5 hv12) SC (S ?_)
  refine CondH.run cs h (fun cs h=>S ?_) (fun cs h=>S ?_)
  ·obtain⟨v16,hv16,h⟩:=rb_ h
   refine IdxH.mk (f:=B) hv16 SC (S ?_)
   cases rs_ h
   exact FinH.l SC
  ·obtain⟨v21,hv21,h⟩:=rb_ h
   refine IdxH.mk (f:=B) hv21 SC (S ?_)
   cases rs_ h
   exact FinH.l SC

theorem slR_2{a0:Derivation}{a1:Bool}  {r:Int}(h:slR_1 a0 a1=some r):Sat Tryz.prog 88 [((Derivation.pv false) a0),(B a1)] (I r):=by
 obtain⟨h,cs⟩:=Ro_ h
 unfold slR_1 at h
 refine Sat.of_m (nt:=20) (rs:=[.tmp 4]) (n:=100000) Tryz.func88 rfl rfl rfl rfl (by simp) (S ?_)
 refine CondH.run cs h (fun cs h=>S ?_) (fun cs h=>S ?_)
 ·cases rs_ h
  exact FinH.l SC
 ·refine CondH.run cs h (fun cs h=>S ?_) (fun cs h=>S ?_)
  ·cases rs_ h
   exact FinH.l SC
  ·refine CondH.run cs h (fun cs h=>S ?_) (fun cs h=>S ?_)
   ·cases rs_ h
    exact FinH.l SC
   ·refine CondH.run cs h (fun cs h=>S ?_) (fun cs h=>S ?_)
    ·cases rs_ h
     exact FinH.l SC
    ·refine CondH.run cs h (fun cs h=>S ?_) (fun cs h=>S ?_)
     ·cases rs_ h
      exact FinH.l SC
     ·obtain⟨v15,hv15,h⟩:=rb_ h
      refine CallH.mk [false] (slO_5 hv15) SC (S ?_)
      refine CondH.run cs h (fun cs h=>S ?_) (fun cs h=>S ?_)
      ·cases rs_ h
       exact FinH.l SC
      ·cases rs_ h
       exact FinH.l SC

theorem slS_15{a0:List Bool}{a1:Int}{a2:Int}{a3:Bool}  {r:List Bool}(h:slS_7 a0 a1 a2 a3=some r):Sat Tryz.prog 87 [(.sl false 1 (a0.map B)),(I a1),(I a2),(B a3)] (.sl true 1 (r.map B)):=by
 obtain⟨h,cs⟩:=Ro_ h
 unfold slS_7 at h
 refine Sat.of_m (nt:=37) (rs:=[.tmp 8]) (n:=100000) Tryz.func87 rfl rfl rfl rfl (by simp) (S ?_)
 refine Mg.know_sl (b:=false) (sz:=1) (es:=a0.map B) 0 SC fun hl0=>?_; rw[List.length_map] at hl0
 replace h:=rl_ h
 refine Mg.forN h (fun i3 s3=>[(0,.val (.pv (.sl false 1 (a0.map B)))),(1,.val (.pv (I a1))),(2,.val (.pv (I a2))),(3,.val (.pv (B a3))),(9,.val (.own 176)),(10,.val (.pv (I (i3:Int))))]) (fun i3 s3=>[(176,(1,s3.map B))]) (Slm_ SC) (fun i3 s3 hi h=>?_) (fun s3 h=>?_)
 ·have w:=ws_ (i:=i3) (by omega)
  refine S ?_
  refine CondH.t2 cs (by omega) (fun cs=>S ?_)
  refine CondH.run cs h (fun cs h=>S ?_) (fun cs h=>S ?_)
  ·have h:=rs_ h
   refine RdH.mk ⟨_,h,?_⟩
   exact Slm_ SW
  ·obtain⟨v24,hv24,h⟩:=rb_ h
   refine IdxH.mk (f:=B) hv24 SC (S ?_)
   obtain⟨v27,hv27,h⟩:=rb_ h
   refine AppH.mk (f:=B) (fun _=>rfl) hv27 SC SC (S ?_)
   have h:=rs_ h
   refine RdH.mk ⟨_,h,?_⟩
   refine St.le_trans (Slm_1 (S:=[(0,.val (.pv (.sl false 1 (a0.map B)))),(1,.val (.pv (I a1))),(2,.val (.pv (I a2))),(3,.val (.pv (B a3))),(9,.val (.own 432)),(10,.val (.pv (I (IntKind.i64.wrap ((i3:Int)+(1:Int))))))]) (O:=[(432,(1,v27.map B))]) SW SW) ?_
   refine Slr_ 432 176 (by decide) NM ?_
   exact Slm_ SW
 ·refine S ?_
  refine CondH.f2 cs (by omega) (fun cs=>S ?_)
  replace h:=rl_ h
  refine Mg.whileN h (fun s7=>[(2,.val (.pv (I a2))),(3,.val (.pv (B a3))),(9,.val (.own 176))]) (fun s7=>[(176,(1,s7.map B))]) (Slm_ SC) (fun n7 s7 h=>?_)
  refine S ?_
  refine CondH.run cs h (fun cs h=>S ?_) (fun cs h=>S ?_)
  ·obtain⟨v35,hv35,h⟩:=rb_ h
   refine AppH.mk (f:=B) (fun _=>rfl) hv35 SC SC (S ?_)
   have h:=rs_ h
   refine RdH.mk ⟨_,h,?_⟩
   refine St.le_trans (Slm_1 (S:=[(2,.val (.pv (I a2))),(3,.val (.pv (B a3))),(9,.val (.own 560))]) (O:=[(560,(1,v35.map B))]) SC SC) ?_
   refine Slr_ 560 176 (by decide) NM ?_
   exact Slm_ SC
  ·have h:=rs_ h
   cases rs_ h
   exact FinH.l SC

theorem slM_7{a0:Derivation}{a1:Int}{a2:List Bool}{a3:List Bool}  {r:(List Bool)×(List Bool)}(h:slM_2 a0 a1 a2 a3=some r):Sat Tryz.prog 54 [((Derivation.pv false) a0),(I a1),(.sl false 1 (a2.map B)),(.sl false 1 (a3.map B))] (.tup [(.sl true 1 (r.1.map B)),(.sl true 1 (r.2.map B))]):=by
 obtain⟨h,cs⟩:=Ro_ h
 unfold slM_2 at h
 refine Sat.of_m (nt:=38) (rs:=[.tmp 8,.tmp 9]) (n:=100000) Tryz.func54 rfl rfl rfl rfl (by simp) (S ?_)
 obtain⟨v15,hv15,h⟩:=rb_ h
 refine CallH.mk [false,false,false] (slM_10 hv15) SC (S ?_)
 obtain⟨v19,hv19,h⟩:=rb_ h
 refine IdxH.mk (f:=(Derivation.pv false)) hv19 SC (S ?_)
 obtain⟨v24,hv24,h⟩:=rb_ h
 refine CallH.mk [false,false] (slR_2 hv24) SC (S ?_)
 obtain⟨v29,hv29,h⟩:=rb_ h
 refine CallH.mk [false,false,false,false] (slS_15 hv29) SC (S ?_)
 obtain⟨v32,hv32,h⟩:=rb_ h
 refine CallH.mk [false,false] (slR_2 hv32) SC (S ?_)
 obtain⟨v37,hv37,h⟩:=rb_ h
 refine CallH.mk [false,false,false,false] (slS_15 hv37) SC (S ?_)
 refine And.intro (DHa_ [] [464,592]) (S ?_)
 cases rs_ h
 exact FinH.l SC

theorem sCA_1{a0:Derivation}{a1:List Int}  {r:(List Bool)×(List Bool)×Bool}(h:sCA_ a0 a1=some r):Sat Tryz.prog 17 [((Derivation.pv false) a0),(.sl false 1 (a1.map I))] (.tup [(.sl true 1 (r.1.map B)),(.sl true 1 (r.2.1.map B)),(B r.2.2)]):=by
 obtain⟨h,cs⟩:=Ro_ h
 unfold sCA_ at h
 refine Sat.of_m (nt:=64) (rs:=[.tmp 4,.tmp 5,.tmp 6]) (n:=100000) Tryz.func17 rfl rfl rfl rfl (by simp) (S ?_)
 obtain⟨v11,hv11,h⟩:=rb_ h
 refine CallH.mk [false] (slV_5 hv11) SC (S ?_)
 refine CondH.run cs h (fun cs h=>S ?_) (fun cs h=>S ?_)
 ·obtain⟨n19,hn19,h⟩:=rb_ h
  refine MknH.mk hn19 (S ?_)
  obtain⟨n24,hn24,h⟩:=rb_ h
  refine MknH.mk hn24 (S ?_)
  refine And.intro (DHa_ [] [304,384]) (S ?_)
  refine Mg.know_sl (b:=false) (sz:=1) (es:=a1.map I) 1 SC fun hl1=>?_; rw[List.length_map] at hl1
  replace h:=rl_ h
  refine Mg.forN h (fun i5 s5=>[(1,.val (.pv (.sl false 1 (a1.map I)))),(2,.box (.pv ((Derivation.pv false) s5.1))),(7,.val (.own 304)),(8,.val (.own 384)),(9,.val (.pv (I (i5:Int))))]) (fun i5 s5=>[(304,(1,s5.2.1.map B)),(384,(1,s5.2.2.map B))]) (Slm_ SC) (fun i5 s5 hi h=>?_) (fun s5 h=>?_)
  ·have w:=ws_ (i:=i5) (by omega)
   refine S ?_
   refine CondH.t2 cs (by omega) (fun cs=>S ?_)
   obtain⟨v33,hv33,h⟩:=rb_ h
   refine IdxH.mk (f:=I) hv33 SC (S ?_)
   obtain⟨v39,hv39,h⟩:=rb_ h
   refine CallH.mk [false,false,false] (slI_1 hv39) SC (S ?_)
   refine And.intro (DHa_ [] []) (S ?_)
   refine CondH.run cs h (fun cs h=>S ?_) (fun cs h=>S ?_)
   ·obtain⟨v47,hv47,h⟩:=rb_ h
    refine IdxH.mk (f:=I) hv47 SC (S ?_)
    obtain⟨v51,hv51,h⟩:=rb_ h
    refine CallH.mk [false,false,false,false] (slM_7 hv51) SC (S ?_)
    refine And.intro (DHa_ [] [816,817]) (S ?_)
    obtain⟨v58,hv58,h⟩:=rb_ h
    refine IdxH.mk (f:=I) hv58 SC (S ?_)
    obtain⟨v60,hv60,h⟩:=rb_ h
    refine IdxH.mk (f:=(Derivation.pv false)) hv60 SC (S ?_)
    refine And.intro (DHa_ [] []) (S ?_)
    have h:=rs_ h
    refine RdH.mk ⟨_,h,?_⟩
    refine St.le_trans (Slm_1 (S:=[(1,.val (.pv (.sl false 1 (a1.map I)))),(2,.box (.pv ((Derivation.pv false) v60))),(7,.val (.own 816)),(8,.val (.own 817)),(9,.val (.pv (I (IntKind.i64.wrap ((i5:Int)+(1:Int))))))]) (O:=[(816,(1,v51.1.map B)),(817,(1,v51.2.map B))]) SW SW) ?_
    refine Slr_ 816 304 (by decide) NM ?_
    refine St.le_trans (Slm_1 (S:=[(1,.val (.pv (.sl false 1 (a1.map I)))),(2,.box (.pv ((Derivation.pv false) v60))),(7,.val (.own 304)),(8,.val (.own 817)),(9,.val (.pv (I (IntKind.i64.wrap ((i5:Int)+(1:Int))))))]) (O:=[(304,(1,v51.1.map B)),(817,(1,v51.2.map B))]) SW SW) ?_
    refine Slr_ 817 384 (by decide) NM ?_
    exact Slm_ SW
   ·cases rs_ h
    exact FinH.l SC
  ·refine S ?_
   refine CondH.f2 cs (by omega) (fun cs=>S ?_)
   cases rs_ h
   exact FinH.l SC
 ·cases rs_ h
  exact FinH.l SC

theorem irN_2(n:Nat):(∀ (a0:Derivation) (r:Int),irN_ n a0=some r→Sat Tryz.prog 118 [((Derivation.pv false) a0)] (I r)):=by
 induction n with
 | zero=>exact fun _ _ h=>by simp[irN_] at h
 | succ n ih=>
  refine fun a0 r h=>?_
  obtain⟨h,cs⟩:=Ro_ h
  rw[irN_] at h
  refine Sat.of_m (nt:=22) (rs:=[.tmp 2]) (n:=100000) Tryz.func118 rfl rfl rfl rfl (by simp) (S ?_)
  refine Mg.know_sl (b:=false) (sz:=12) (es:=a0.Parts.map (Derivation.pv false)) 7 SC fun hl7=>?_; rw[List.length_map] at hl7
  replace h:=rl_ h
  refine Mg.forN h (fun i3 s3=>[(3,.val (.pv (I s3))),(7,.val (.pv (.sl false 12 (a0.Parts.map (Derivation.pv false))))),(8,.val (.pv (I (a0.Parts.length:Int)))),(9,.val (.pv (I (i3:Int))))]) (fun i3 s3=>[]) (Slm_ SC) (fun i3 s3 hi h=>?_) (fun s3 h=>?_)
  ·have w:=ws_ (i:=i3) (by omega)
   refine S ?_
   refine CondH.t2 cs (by omega) (fun cs=>S ?_)
   obtain⟨v11,hv11,h⟩:=rb_ h
   refine IdxH.mk (f:=(Derivation.pv false)) hv11 SC (S ?_)
   refine CondH.run cs h (fun cs h=>S ?_) (fun cs h=>S ?_)
   ·cases rs_ h
    exact FinH.l SC
   ·obtain⟨v18,hv18,h⟩:=rb_ h
    refine CallH.mk [false] (ih _ _ hv18) SC (S ?_)
    have h:=rs_ h
    refine RdH.mk ⟨_,h,?_⟩
    exact Slm_ SW
  ·refine S ?_
   refine CondH.f2 cs (by omega) (fun cs=>S ?_)
   cases rs_ h
   exact FinH.l SC
theorem irN_3{a0:Derivation}{r:Int}(h:irN_1 a0=some r):Sat Tryz.prog 118 [((Derivation.pv false) a0)] (I r):=by
 obtain⟨n,hn⟩:=ls_ h
 exact(irN_2 n) _ _ hn

theorem isO_2(n:Nat):(∀ (a0:Formula) (r:Int),isO_ n a0=some r→Sat Tryz.prog 82 [((Formula.pv false) a0)] (I r)):=by
 induction n with
 | zero=>exact fun _ _ h=>by simp[isO_] at h
 | succ n ih=>
  refine fun a0 r h=>?_
  obtain⟨h,cs⟩:=Ro_ h
  rw[isO_] at h
  refine Sat.of_m (nt:=22) (rs:=[.tmp 2]) (n:=100000) Tryz.func82 rfl rfl rfl rfl (by simp) (S ?_)
  refine Mg.know_sl (b:=false) (sz:=5) (es:=a0.Parts.map (Formula.pv false)) 7 SC fun hl7=>?_; rw[List.length_map] at hl7
  replace h:=rl_ h
  refine Mg.forN h (fun i3 s3=>[(3,.val (.pv (I s3))),(7,.val (.pv (.sl false 5 (a0.Parts.map (Formula.pv false))))),(8,.val (.pv (I (a0.Parts.length:Int)))),(9,.val (.pv (I (i3:Int))))]) (fun i3 s3=>[]) (Slm_ SC) (fun i3 s3 hi h=>?_) (fun s3 h=>?_)
  ·have w:=ws_ (i:=i3) (by omega)
   refine S ?_
   refine CondH.t2 cs (by omega) (fun cs=>S ?_)
   obtain⟨v11,hv11,h⟩:=rb_ h
   refine IdxH.mk (f:=(Formula.pv false)) hv11 SC (S ?_)
   refine CondH.run cs h (fun cs h=>S ?_) (fun cs h=>S ?_)
   ·cases rs_ h
    exact FinH.l SC
   ·obtain⟨v18,hv18,h⟩:=rb_ h
    refine CallH.mk [false] (ih _ _ hv18) SC (S ?_)
    have h:=rs_ h
    refine RdH.mk ⟨_,h,?_⟩
    exact Slm_ SW
  ·refine S ?_
   refine CondH.f2 cs (by omega) (fun cs=>S ?_)
   cases rs_ h
   exact FinH.l SC
theorem isO_3{a0:Formula}{r:Int}(h:isO_1 a0=some r):Sat Tryz.prog 82 [((Formula.pv false) a0)] (I r):=by
 obtain⟨n,hn⟩:=ls_ h
 exact(isO_2 n) _ _ hn

theorem iiQ_{a0:Int}  {r:Bool}(h:iiQ_2 a0=some r):Sat Tryz.prog 134 [(I a0)] (B r):=by
 obtain⟨h,cs⟩:=Ro_ h
 unfold iiQ_2 at h
 refine Sat.of_m (nt:=9) (rs:=[.tmp 2]) (n:=100000) Tryz.func134 rfl rfl rfl rfl (by simp) (S ?_)
 refine CondH.run cs h (fun cs h=>S ?_) (fun cs h=>S ?_)
 ·cases rs_ h
  exact FinH.l SC
 ·cases rs_ h
  exact FinH.l SC

theorem iiB_1{a0:Int}  {r:Bool}(h:iiB_ a0=some r):Sat Tryz.prog 135 [(I a0)] (B r):=by
 obtain⟨h,cs⟩:=Ro_ h
 unfold iiB_ at h
 refine Sat.of_m (nt:=13) (rs:=[.tmp 2]) (n:=100000) Tryz.func135 rfl rfl rfl rfl (by simp) (S ?_)
 refine CondH.run cs h (fun cs h=>S ?_) (fun cs h=>S ?_)
 ·cases rs_ h
  exact FinH.l SC
 ·refine CondH.run cs h (fun cs h=>S ?_) (fun cs h=>S ?_)
  ·cases rs_ h
   exact FinH.l SC
  ·cases rs_ h
   exact FinH.l SC

theorem iiU_1{a0:Int}  {r:Bool}(h:iiU_ a0=some r):Sat Tryz.prog 155 [((Ik .u8) a0)] (B r):=by
 obtain⟨h,cs⟩:=Ro_ h
 unfold iiU_ at h
 refine Sat.of_m (nt:=9) (rs:=[.tmp 2]) (n:=100000) Tryz.func155 rfl rfl rfl rfl (by simp) (S ?_)
 refine CondH.run cs h (fun cs h=>S ?_) (fun cs h=>S ?_)
 ·cases rs_ h
  exact FinH.l SC
 ·cases rs_ h
  exact FinH.l SC

theorem iiL_1{a0:Int}  {r:Bool}(h:iiL_ a0=some r):Sat Tryz.prog 156 [((Ik .u8) a0)] (B r):=by
 obtain⟨h,cs⟩:=Ro_ h
 unfold iiL_ at h
 refine Sat.of_m (nt:=9) (rs:=[.tmp 2]) (n:=100000) Tryz.func156 rfl rfl rfl rfl (by simp) (S ?_)
 refine CondH.run cs h (fun cs h=>S ?_) (fun cs h=>S ?_)
 ·cases rs_ h
  exact FinH.l SC
 ·cases rs_ h
  exact FinH.l SC

theorem iiD_1{a0:Int}  {r:Bool}(h:iiD_ a0=some r):Sat Tryz.prog 157 [((Ik .u8) a0)] (B r):=by
 obtain⟨h,cs⟩:=Ro_ h
 unfold iiD_ at h
 refine Sat.of_m (nt:=9) (rs:=[.tmp 2]) (n:=100000) Tryz.func157 rfl rfl rfl rfl (by simp) (S ?_)
 refine CondH.run cs h (fun cs h=>S ?_) (fun cs h=>S ?_)
 ·cases rs_ h
  exact FinH.l SC
 ·cases rs_ h
  exact FinH.l SC

theorem iws_{a0:Int}{a1:Int}{a2:Int}  {r:Bool}(h:iw_ a0 a1 a2=some r):Sat Tryz.prog 56 [(I a0),(I a1),(I a2)] (B r):=by
 obtain⟨h,cs⟩:=Ro_ h
 unfold iw_ at h
 refine Sat.of_m (nt:=15) (rs:=[.tmp 6]) (n:=100000) Tryz.func56 rfl rfl rfl rfl (by simp) (S ?_)
 refine CondH.run cs h (fun cs h=>S ?_) (fun cs h=>S ?_)
 ·cases rs_ h
  exact FinH.l SC
 ·cases rs_ h
  exact FinH.l SC

theorem iiV_1{a0:ByteArray}  {r:Bool}(h:iiV_ a0=some r):Sat Tryz.prog 136 [(Sx a0)] (B r):=by
 obtain⟨h,cs⟩:=Ro_ h
 unfold iiV_ at h
 refine Sat.of_m (nt:=40) (rs:=[.tmp 2]) (n:=100000) Tryz.func136 rfl rfl rfl rfl (by simp) (S ?_)
 obtain⟨N2,hN2,h⟩:=rb_ h
 obtain⟨hN2a,hN2b⟩:=bs_ hN2
 replace h:=rl_ h
 refine Mg.forN h (fun i2 s2=>[(0,.val (.pv (Sx a0))),(5,.val (.pv (I (a0.size:Int)))),(6,.val (.pv (I (i2:Int))))]) (fun i2 s2=>[]) (Slm_ SC) (fun i2 s2 hi h=>?_) (fun s2 h=>?_)
 ·have w:=ws_ (i:=i2) (by omega)
  refine S ?_
  refine CondH.t2 cs (by omega) (fun cs=>S ?_)
  refine CondH.run cs h (fun cs h=>S ?_) (fun cs h=>S ?_)
  ·obtain⟨v14,hv14,h⟩:=rb_ h
   refine SidxH.mk hv14 (S ?_)
   obtain⟨v15,hv15,h⟩:=rb_ h
   refine CallH.mk [false] (iiU_1 hv15) SC (S ?_)
   refine CondH.run cs h (fun cs h=>S ?_) (fun cs h=>S ?_)
   ·refine CondH.run cs h (fun cs h=>S ?_) (fun cs h=>S ?_)
    ·obtain⟨v24,hv24,h⟩:=rb_ h
     refine SidxH.mk hv24 (S ?_)
     obtain⟨v25,hv25,h⟩:=rb_ h
     refine CallH.mk [false] (iiL_1 hv25) SC (S ?_)
     refine CondH.run cs h (fun cs h=>S ?_) (fun cs h=>S ?_)
     ·have h:=rs_ h
      refine RdH.mk ⟨_,h,?_⟩
      exact Slm_ SW
     ·obtain⟨v31,hv31,h⟩:=rb_ h
      refine SidxH.mk hv31 (S ?_)
      obtain⟨v32,hv32,h⟩:=rb_ h
      refine CallH.mk [false] (iiD_1 hv32) SC (S ?_)
      refine CondH.run cs h (fun cs h=>S ?_) (fun cs h=>S ?_)
      ·have h:=rs_ h
       refine RdH.mk ⟨_,h,?_⟩
       exact Slm_ SW
      ·cases rs_ h
       exact FinH.l SC
    ·have h:=rs_ h
     refine RdH.mk ⟨_,h,?_⟩
     exact Slm_ SW
   ·cases rs_ h
    exact FinH.l SC
  ·refine CondH.run cs h (fun cs h=>S ?_) (fun cs h=>S ?_)
   ·obtain⟨v24,hv24,h⟩:=rb_ h
    refine SidxH.mk hv24 (S ?_)
    obtain⟨v25,hv25,h⟩:=rb_ h
    refine CallH.mk [false] (iiL_1 hv25) SC (S ?_)
    refine CondH.run cs h (fun cs h=>S ?_) (fun cs h=>S ?_)
    ·have h:=rs_ h
     refine RdH.mk ⟨_,h,?_⟩
     exact Slm_ SW
    ·obtain⟨v31,hv31,h⟩:=rb_ h
     refine SidxH.mk hv31 (S ?_)
     obtain⟨v32,hv32,h⟩:=rb_ h
     refine CallH.mk [false] (iiD_1 hv32) SC (S ?_)
     refine CondH.run cs h (fun cs h=>S ?_) (fun cs h=>S ?_)
     ·have h:=rs_ h
      refine RdH.mk ⟨_,h,?_⟩
      exact Slm_ SW
     ·cases rs_ h
      exact FinH.l SC
   ·have h:=rs_ h
    refine RdH.mk ⟨_,h,?_⟩
    exact Slm_ SW
 ·refine S ?_
  refine CondH.f2 cs (by omega) (fun cs=>S ?_)
  obtain⟨v39,hv39,h⟩:=rb_ h
  refine CallH.mk [false,false,false] (iws_ hv39) SC (S ?_)
  cases rs_ h
  exact FinH.l SC

theorem iiE_1{a0:Term}  {r:Bool}(h:iiE_ a0=some r):Sat Tryz.prog 158 [((Term.pv false) a0)] (B r):=by
 obtain⟨h,cs⟩:=Ro_ h
 unfold iiE_ at h
 refine Sat.of_m (nt:=6) (rs:=[.tmp 2]) (n:=100000) Tryz.func158 rfl rfl rfl rfl (by simp) (S ?_)
 cases rs_ h
 exact FinH.l SC

theorem isN_3(n:Nat):(∀ (a0:Term) (r:Int),isN_1 n a0=some r→Sat Tryz.prog 175 [((Term.pv false) a0)] (I r)):=by
 induction n with
 | zero=>exact fun _ _ h=>by simp[isN_1] at h
 | succ n ih=>
  refine fun a0 r h=>?_
  obtain⟨h,cs⟩:=Ro_ h
  rw[isN_1] at h
  refine Sat.of_m (nt:=22) (rs:=[.tmp 2]) (n:=100000) Tryz.func175 rfl rfl rfl rfl (by simp) (S ?_)
  refine Mg.know_sl (b:=false) (sz:=2) (es:=a0.Args.map (Term.pv false)) 7 SC fun hl7=>?_; rw[List.length_map] at hl7
  replace h:=rl_ h
  refine Mg.forN h (fun i3 s3=>[(3,.val (.pv (I s3))),(7,.val (.pv (.sl false 2 (a0.Args.map (Term.pv false))))),(8,.val (.pv (I (a0.Args.length:Int)))),(9,.val (.pv (I (i3:Int))))]) (fun i3 s3=>[]) (Slm_ SC) (fun i3 s3 hi h=>?_) (fun s3 h=>?_)
  ·have w:=ws_ (i:=i3) (by omega)
   refine S ?_
   refine CondH.t2 cs (by omega) (fun cs=>S ?_)
   obtain⟨v11,hv11,h⟩:=rb_ h
   refine IdxH.mk (f:=(Term.pv false)) hv11 SC (S ?_)
   refine CondH.run cs h (fun cs h=>S ?_) (fun cs h=>S ?_)
   ·cases rs_ h
    exact FinH.l SC
   ·obtain⟨v18,hv18,h⟩:=rb_ h
    refine CallH.mk [false] (ih _ _ hv18) SC (S ?_)
    have h:=rs_ h
    refine RdH.mk ⟨_,h,?_⟩
    exact Slm_ SW
  ·refine S ?_
   refine CondH.f2 cs (by omega) (fun cs=>S ?_)
   cases rs_ h
   exact FinH.l SC
theorem iss_1{a0:Term}{r:Int}(h:is_2 a0=some r):Sat Tryz.prog 175 [((Term.pv false) a0)] (I r):=by
 obtain⟨n,hn⟩:=ls_ h
 exact(isN_3 n) _ _ hn

theorem idN_1(n:Nat):(∀ (a0:Term) (r:Int),idN_ n a0=some r→Sat Tryz.prog 176 [((Term.pv false) a0)] (I r)):=by
 induction n with
 | zero=>exact fun _ _ h=>by simp[idN_] at h
 | succ n ih=>
  refine fun a0 r h=>?_
  obtain⟨h,cs⟩:=Ro_ h
  rw[idN_] at h
  refine Sat.of_m (nt:=20) (rs:=[.tmp 2]) (n:=100000) Tryz.func176 rfl rfl rfl rfl (by simp) (S ?_)
  refine Mg.know_sl (b:=false) (sz:=2) (es:=a0.Args.map (Term.pv false)) 7 SC fun hl7=>?_; rw[List.length_map] at hl7
  replace h:=rl_ h
  refine Mg.forN h (fun i3 s3=>[(3,.val (.pv (I s3))),(7,.val (.pv (.sl false 2 (a0.Args.map (Term.pv false))))),(8,.val (.pv (I (a0.Args.length:Int)))),(9,.val (.pv (I (i3:Int))))]) (fun i3 s3=>[]) (Slm_ SC) (fun i3 s3 hi h=>?_) (fun s3 h=>?_)
  ·have w:=ws_ (i:=i3) (by omega)
   refine S ?_
   refine CondH.t2 cs (by omega) (fun cs=>S ?_)
   obtain⟨v11,hv11,h⟩:=rb_ h
   refine IdxH.mk (f:=(Term.pv false)) hv11 SC (S ?_)
   obtain⟨v15,hv15,h⟩:=rb_ h
   refine CallH.mk [false] (ih _ _ hv15) SC (S ?_)
   have h:=rs_ h
   refine RdH.mk ⟨_,h,?_⟩
   exact Slm_ SW
  ·refine S ?_
   refine CondH.f2 cs (by omega) (fun cs=>S ?_)
   cases rs_ h
   exact FinH.l SC
theorem ids_{a0:Term}{r:Int}(h:id_ a0=some r):Sat Tryz.prog 176 [((Term.pv false) a0)] (I r):=by
 obtain⟨n,hn⟩:=ls_ h
 exact(idN_1 n) _ _ hn

theorem iiS_3{a0:Term}  {r:Bool}(h:iiS_1 a0=some r):Sat Tryz.prog 159 [((Term.pv false) a0)] (B r):=by
 obtain⟨h,cs⟩:=Ro_ h
 unfold iiS_1 at h
 refine Sat.of_m (nt:=11) (rs:=[.tmp 2]) (n:=100000) Tryz.func159 rfl rfl rfl rfl (by simp) (S ?_)
 obtain⟨v4,hv4,h⟩:=rb_ h
 refine CallH.mk [false] (iss_1 hv4) SC (S ?_)
 refine CondH.run cs h (fun cs h=>S ?_) (fun cs h=>S ?_)
 ·obtain⟨v8,hv8,h⟩:=rb_ h
  refine CallH.mk [false] (ids_ hv8) SC (S ?_)
  cases rs_ h
  exact FinH.l SC
 ·cases rs_ h
  exact FinH.l SC

theorem irs_   {r:List ByteArray}(h:ir_  =some r):Sat Tryz.prog 180 [] (.sl true 1 (r.map Sx)):=by
 obtain⟨h,cs⟩:=Ro_ h
 unfold ir_ at h
 refine Sat.of_m (nt:=2) (rs:=[.tmp 0]) (n:=100000) Tryz.func180 rfl rfl rfl rfl (by simp) (S ?_)
 cases rs_ h
 exact FinH.l SC

theorem sIS_1{a0:List ByteArray}{a1:ByteArray}  {r:Int}(h:sIS_ a0 a1=some r):Sat Tryz.prog 190 [(.sl false 1 (a0.map Sx)),(Sx a1)] (I r):=by
 obtain⟨h,cs⟩:=Ro_ h
 unfold sIS_ at h
 refine Sat.of_m (nt:=19) (rs:=[.tmp 4]) (n:=100000) Tryz.func190 rfl rfl rfl rfl (by simp) (S ?_)
 refine Mg.know_sl (b:=false) (sz:=1) (es:=a0.map Sx) 0 SC fun hl0=>?_; rw[List.length_map] at hl0
 replace h:=rl_ h
 refine Mg.forN h (fun i2 s2=>[(0,.val (.pv (.sl false 1 (a0.map Sx)))),(1,.val (.pv (Sx a1))),(7,.val (.pv (I (a0.length:Int)))),(8,.val (.pv (I (i2:Int))))]) (fun i2 s2=>[]) (Slm_ SC) (fun i2 s2 hi h=>?_) (fun s2 h=>?_)
 ·have w:=ws_ (i:=i2) (by omega)
  refine S ?_
  refine CondH.t2 cs (by omega) (fun cs=>S ?_)
  obtain⟨v14,hv14,h⟩:=rb_ h
  refine IdxH.mk (f:=Sx) hv14 SC (S ?_)
  refine CondH.run cs h (fun cs h=>S ?_) (fun cs h=>S ?_)
  ·cases rs_ h
   exact FinH.l SC
  ·have h:=rs_ h
   refine RdH.mk ⟨_,h,?_⟩
   exact Slm_ SW
 ·refine S ?_
  refine CondH.f2 cs (by omega) (fun cs=>S ?_)
  cases rs_ h
  exact FinH.l SC

theorem sCS_2{a0:List ByteArray}{a1:ByteArray}  {r:Bool}(h:sCS_ a0 a1=some r):Sat Tryz.prog 179 [(.sl false 1 (a0.map Sx)),(Sx a1)] (B r):=by
 obtain⟨h,cs⟩:=Ro_ h
 unfold sCS_ at h
 refine Sat.of_m (nt:=9) (rs:=[.tmp 4]) (n:=100000) Tryz.func179 rfl rfl rfl rfl (by simp) (S ?_)
 obtain⟨v7,hv7,h⟩:=rb_ h
 refine CallH.mk [false,false] (sIS_1 hv7) SC (S ?_)
 cases rs_ h
 exact FinH.l SC

theorem iiS_2{a0:ByteArray}  {r:Bool}(h:iiS_ a0=some r):Sat Tryz.prog 161 [(Sx a0)] (B r):=by
 obtain⟨h,cs⟩:=Ro_ h
 unfold iiS_ at h
 refine Sat.of_m (nt:=48) (rs:=[.tmp 2]) (n:=100000) Tryz.func161 rfl rfl rfl rfl (by simp) (S ?_)
 obtain⟨N2,hN2,h⟩:=rb_ h
 obtain⟨hN2a,hN2b⟩:=bs_ hN2
 replace h:=rl_ h
 refine Mg.forN h (fun i2 s2=>[(0,.val (.pv (Sx a0))),(5,.val (.pv (I (a0.size:Int)))),(6,.val (.pv (I (i2:Int))))]) (fun i2 s2=>[]) (Slm_ SC) (fun i2 s2 hi h=>?_) (fun s2 h=>?_)
 ·have w:=ws_ (i:=i2) (by omega)
  refine S ?_
  refine CondH.t2 cs (by omega) (fun cs=>S ?_)
  refine CondH.run cs h (fun cs h=>S ?_) (fun cs h=>S ?_)
  ·obtain⟨v14,hv14,h⟩:=rb_ h
   refine SidxH.mk hv14 (S ?_)
   obtain⟨v15,hv15,h⟩:=rb_ h
   refine CallH.mk [false] (iiL_1 hv15) SC (S ?_)
   refine CondH.run cs h (fun cs h=>S ?_) (fun cs h=>S ?_)
   ·obtain⟨v21,hv21,h⟩:=rb_ h
    refine SidxH.mk hv21 (S ?_)
    obtain⟨v22,hv22,h⟩:=rb_ h
    refine CallH.mk [false] (iiL_1 hv22) SC (S ?_)
    refine CondH.run cs h (fun cs h=>S ?_) (fun cs h=>S ?_)
    ·have h:=rs_ h
     refine RdH.mk ⟨_,h,?_⟩
     exact Slm_ SW
    ·obtain⟨v27,hv27,h⟩:=rb_ h
     refine SidxH.mk hv27 (S ?_)
     obtain⟨v28,hv28,h⟩:=rb_ h
     refine CallH.mk [false] (iiD_1 hv28) SC (S ?_)
     refine CondH.run cs h (fun cs h=>S ?_) (fun cs h=>S ?_)
     ·have h:=rs_ h
      refine RdH.mk ⟨_,h,?_⟩
      exact Slm_ SW
     ·obtain⟨v34,hv34,h⟩:=rb_ h
      refine SidxH.mk hv34 (S ?_)
      refine CondH.run cs h (fun cs h=>S ?_) (fun cs h=>S ?_)
      ·have h:=rs_ h
       refine RdH.mk ⟨_,h,?_⟩
       exact Slm_ SW
      ·cases rs_ h
       exact FinH.l SC
   ·cases rs_ h
    exact FinH.l SC
  ·obtain⟨v21,hv21,h⟩:=rb_ h
   refine SidxH.mk hv21 (S ?_)
   obtain⟨v22,hv22,h⟩:=rb_ h
   refine CallH.mk [false] (iiL_1 hv22) SC (S ?_)
   refine CondH.run cs h (fun cs h=>S ?_) (fun cs h=>S ?_)
   ·have h:=rs_ h
    refine RdH.mk ⟨_,h,?_⟩
    exact Slm_ SW
   ·obtain⟨v27,hv27,h⟩:=rb_ h
    refine SidxH.mk hv27 (S ?_)
    obtain⟨v28,hv28,h⟩:=rb_ h
    refine CallH.mk [false] (iiD_1 hv28) SC (S ?_)
    refine CondH.run cs h (fun cs h=>S ?_) (fun cs h=>S ?_)
    ·have h:=rs_ h
     refine RdH.mk ⟨_,h,?_⟩
     exact Slm_ SW
    ·obtain⟨v34,hv34,h⟩:=rb_ h
     refine SidxH.mk hv34 (S ?_)
     refine CondH.run cs h (fun cs h=>S ?_) (fun cs h=>S ?_)
     ·have h:=rs_ h
      refine RdH.mk ⟨_,h,?_⟩
      exact Slm_ SW
     ·cases rs_ h
      exact FinH.l SC
 ·refine S ?_
  refine CondH.f2 cs (by omega) (fun cs=>S ?_)
  obtain⟨v41,hv41,h⟩:=rb_ h
  refine CallH.mk [false,false,false] (iws_ hv41) SC (S ?_)
  refine CondH.run cs h (fun cs h=>S ?_) (fun cs h=>S ?_)
  ·obtain⟨v43,hv43,h⟩:=rb_ h
   refine CallH.mk [] (irs_ hv43) SC (S ?_)
   obtain⟨v45,hv45,h⟩:=rb_ h
   refine CallH.mk [false,false] (sCS_2 hv45) SC (S ?_)
   cases rs_ h
   exact FinH.l SC
  ·cases rs_ h
   exact FinH.l SC

theorem sIF_3{a0:List Term}{a1:Term→Option Bool}{a1_id:FuncId}{a1_cs:List PV}(a1_ok:∀ y0 r,a1 y0=some r→Sat Tryz.prog a1_id (((Term.pv false) y0)::a1_cs) (B r))(a1_cz:CapsOk a1_cs=True){r:Int}(h:sIF_1 a0 a1=some r):Sat Tryz.prog 189 [(.sl false 2 (a0.map (Term.pv false))),.clo a1_id a1_cs] (I r):=by
 obtain⟨h,cs⟩:=Ro_ h
 unfold sIF_1 at h
 have cs:=And.intro a1_cz cs
 refine Sat.of_m (nt:=19) (rs:=[.tmp 4]) (n:=100000) Tryz.func189 rfl rfl rfl rfl (by simp) (S ?_)
 refine Mg.know_sl (b:=false) (sz:=2) (es:=a0.map (Term.pv false)) 0 SC fun hl0=>?_; rw[List.length_map] at hl0
 replace h:=rl_ h
 refine Mg.forN h (fun i2 s2=>[(0,.val (.pv (.sl false 2 (a0.map (Term.pv false))))),(1,.val (.pv (.clo a1_id a1_cs))),(7,.val (.pv (I (a0.length:Int)))),(8,.val (.pv (I (i2:Int))))]) (fun i2 s2=>[]) (Slm_ SC) (fun i2 s2 hi h=>?_) (fun s2 h=>?_)
 ·have w:=ws_ (i:=i2) (by omega)
  refine S ?_
  refine CondH.t2 cs (by omega) (fun cs=>S ?_)
  obtain⟨v14,hv14,h⟩:=rb_ h
  refine IdxH.mk (f:=(Term.pv false)) hv14 SC (S ?_)
  obtain⟨v16,hv16,h⟩:=rb_ h
  refine CallH.mk [false] (a1_ok _ _ hv16) SC (S ?_)
  refine CondH.run cs h (fun cs h=>S ?_) (fun cs h=>S ?_)
  ·cases rs_ h
   exact FinH.l SC
  ·have h:=rs_ h
   refine RdH.mk ⟨_,h,?_⟩
   exact Slm_ SW
 ·refine S ?_
  refine CondH.f2 cs (by omega) (fun cs=>S ?_)
  cases rs_ h
  exact FinH.l SC

theorem sCF_3{a0:List Term}{a1:Term→Option Bool}{a1_id:FuncId}{a1_cs:List PV}(a1_ok:∀ y0 r,a1 y0=some r→Sat Tryz.prog a1_id (((Term.pv false) y0)::a1_cs) (B r))(a1_cz:CapsOk a1_cs=True){r:Bool}(h:sCF_2 a0 a1=some r):Sat Tryz.prog 177 [(.sl false 2 (a0.map (Term.pv false))),.clo a1_id a1_cs] (B r):=by
 obtain⟨h,cs⟩:=Ro_ h
 unfold sCF_2 at h
 have cs:=And.intro a1_cz cs
 refine Sat.of_m (nt:=9) (rs:=[.tmp 4]) (n:=100000) Tryz.func177 rfl rfl rfl rfl (by simp) (S ?_)
 obtain⟨v7,hv7,h⟩:=rb_ h
 refine CallH.mk [false,false] (sIF_3 a1_ok a1_cz hv7) SC (S ?_)
 cases rs_ h
 exact FinH.l SC

theorem ihN_4(n:Nat):(∀ (a0:Term) (r:Bool),ihN_ n a0=some r→Sat Tryz.prog 160 [((Term.pv false) a0)] (B r))∧(∀ (a0:Term) (r:Bool),ihN_1 n a0=some r→Sat Tryz.prog 178 [((Term.pv false) a0)] (B r)):=by
 induction n with
 | zero=>exact⟨fun _ _ h=>by simp[ihN_] at h,fun _ _ h=>by simp[ihN_1] at h⟩
 | succ n ih=>
  refine⟨fun a0 r h=>?_,fun a0 r h=>?_⟩
  ·obtain⟨h,cs⟩:=Ro_ h
   rw[ihN_] at h
   refine Sat.of_m (nt:=25) (rs:=[.tmp 2]) (n:=100000) Tryz.func160 rfl rfl rfl rfl (by simp) (S ?_)
   obtain⟨v5,hv5,h⟩:=rb_ h
   refine CallH.mk [false] (iiV_1 hv5) SC (S ?_)
   refine CondH.run cs h (fun cs h=>S ?_) (fun cs h=>S ?_)
   ·cases rs_ h
    exact FinH.l SC
   ·obtain⟨v12,hv12,h⟩:=rb_ h
    refine CallH.mk [false] (iiS_2 hv12) SC (S ?_)
    refine CondH.run cs h (fun cs h=>S ?_) (fun cs h=>S ?_)
    ·refine CondH.run cs h (fun cs h=>S ?_) (fun cs h=>S ?_)
     ·obtain⟨v22,hv22,h⟩:=rb_ h
      refine CallH.mk [false,false] (sCF_3 (fun _ _ hh=>ih.2 _ _ hh) (by simp only[COn_,COc_]) hv22) SC (S ?_)
      cases rs_ h
      exact FinH.l SC
     ·cases rs_ h
      exact FinH.l SC
    ·cases rs_ h
     exact FinH.l SC
  ·obtain⟨h,cs⟩:=Ro_ h
   rw[ihN_1] at h
   refine Sat.of_m (nt:=6) (rs:=[.tmp 2]) (n:=100000) Tryz.func178 rfl rfl rfl rfl (by simp) (S ?_)
   obtain⟨v4,hv4,h⟩:=rb_ h
   refine CallH.mk [false] (ih.1 _ _ hv4) SC (S ?_)
   cases rs_ h
   exact FinH.l SC
theorem ihN_3{a0:Term}{r:Bool}(h:ihN_2 a0=some r):Sat Tryz.prog 160 [((Term.pv false) a0)] (B r):=by
 obtain⟨n,hn⟩:=ls_ h
 exact(ihN_4 n).1 _ _ hn
theorem ihN_7{a0:Term}{r:Bool}(h:ihN_6 a0=some r):Sat Tryz.prog 178 [((Term.pv false) a0)] (B r):=by
 obtain⟨n,hn⟩:=ls_ h
 exact(ihN_4 n).2 _ _ hn

theorem iIV_10{a0:Term}  {r:Bool}(h:iIV_7 a0=some r):Sat Tryz.prog 162 [((Term.pv false) a0)] (B r):=by
 obtain⟨h,cs⟩:=Ro_ h
 unfold iIV_7 at h
 refine Sat.of_m (nt:=9) (rs:=[.tmp 2]) (n:=100000) Tryz.func162 rfl rfl rfl rfl (by simp) (S ?_)
 obtain⟨v4,hv4,h⟩:=rb_ h
 refine CallH.mk [false] (iiS_3 hv4) SC (S ?_)
 refine CondH.run cs h (fun cs h=>S ?_) (fun cs h=>S ?_)
 ·obtain⟨v7,hv7,h⟩:=rb_ h
  refine CallH.mk [false] (ihN_3 hv7) SC (S ?_)
  cases rs_ h
  exact FinH.l SC
 ·cases rs_ h
  exact FinH.l SC

theorem iIV_{a0:Term}  {r:Bool}(h:iIV_1 a0=some r):Sat Tryz.prog 137 [((Term.pv false) a0)] (B r):=by
 obtain⟨h,cs⟩:=Ro_ h
 unfold iIV_1 at h
 refine Sat.of_m (nt:=34) (rs:=[.tmp 2]) (n:=100000) Tryz.func137 rfl rfl rfl rfl (by simp) (S ?_)
 obtain⟨v4,hv4,h⟩:=rb_ h
 refine CallH.mk [false] (iiE_1 hv4) SC (S ?_)
 refine CondH.run cs h (fun cs h=>S ?_) (fun cs h=>S ?_)
 ·refine CondH.run cs h (fun cs h=>S ?_) (fun cs h=>S ?_)
  ·obtain⟨v11,hv11,h⟩:=rb_ h
   refine CallH.mk [false] (iiS_3 hv11) SC (S ?_)
   refine CondH.run cs h (fun cs h=>S ?_) (fun cs h=>S ?_)
   ·obtain⟨v16,hv16,h⟩:=rb_ h
    refine IdxH.mk (f:=(Term.pv false)) hv16 SC (S ?_)
    obtain⟨v18,hv18,h⟩:=rb_ h
    refine CallH.mk [false] (ihN_3 hv18) SC (S ?_)
    refine CondH.run cs h (fun cs h=>S ?_) (fun cs h=>S ?_)
    ·obtain⟨v23,hv23,h⟩:=rb_ h
     refine IdxH.mk (f:=(Term.pv false)) hv23 SC (S ?_)
     obtain⟨v25,hv25,h⟩:=rb_ h
     refine CallH.mk [false] (ihN_3 hv25) SC (S ?_)
     cases rs_ h
     exact FinH.l SC
    ·cases rs_ h
     exact FinH.l SC
   ·cases rs_ h
    exact FinH.l SC
  ·cases rs_ h
   exact FinH.l SC
 ·obtain⟨v29,hv29,h⟩:=rb_ h
  refine CallH.mk [false] (iiS_2 hv29) SC (S ?_)
  refine CondH.run cs h (fun cs h=>S ?_) (fun cs h=>S ?_)
  ·obtain⟨v32,hv32,h⟩:=rb_ h
   refine CallH.mk [false] (iIV_10 hv32) SC (S ?_)
   cases rs_ h
   exact FinH.l SC
  ·cases rs_ h
   exact FinH.l SC

theorem iiZ_{a0:Term}  {r:Bool}(h:iiZ_1 a0=some r):Sat Tryz.prog 138 [((Term.pv false) a0)] (B r):=by
 obtain⟨h,cs⟩:=Ro_ h
 unfold iiZ_1 at h
 refine Sat.of_m (nt:=12) (rs:=[.tmp 2]) (n:=100000) Tryz.func138 rfl rfl rfl rfl (by simp) (S ?_)
 refine CondH.run cs h (fun cs h=>S ?_) (fun cs h=>S ?_)
 ·cases rs_ h
  exact FinH.l SC
 ·cases rs_ h
  exact FinH.l SC

theorem sIF_2{a0:List Formula}{a1:Formula→Option Bool}{a1_id:FuncId}{a1_cs:List PV}(a1_ok:∀ y0 r,a1 y0=some r→Sat Tryz.prog a1_id (((Formula.pv false) y0)::a1_cs) (B r))(a1_cz:CapsOk a1_cs=True){r:Int}(h:sIF_ a0 a1=some r):Sat Tryz.prog 123 [(.sl false 5 (a0.map (Formula.pv false))),.clo a1_id a1_cs] (I r):=by
 obtain⟨h,cs⟩:=Ro_ h
 unfold sIF_ at h
 have cs:=And.intro a1_cz cs
 refine Sat.of_m (nt:=19) (rs:=[.tmp 4]) (n:=100000) Tryz.func123 rfl rfl rfl rfl (by simp) (S ?_)
 refine Mg.know_sl (b:=false) (sz:=5) (es:=a0.map (Formula.pv false)) 0 SC fun hl0=>?_; rw[List.length_map] at hl0
 replace h:=rl_ h
 refine Mg.forN h (fun i2 s2=>[(0,.val (.pv (.sl false 5 (a0.map (Formula.pv false))))),(1,.val (.pv (.clo a1_id a1_cs))),(7,.val (.pv (I (a0.length:Int)))),(8,.val (.pv (I (i2:Int))))]) (fun i2 s2=>[]) (Slm_ SC) (fun i2 s2 hi h=>?_) (fun s2 h=>?_)
 ·have w:=ws_ (i:=i2) (by omega)
  refine S ?_
  refine CondH.t2 cs (by omega) (fun cs=>S ?_)
  obtain⟨v14,hv14,h⟩:=rb_ h
  refine IdxH.mk (f:=(Formula.pv false)) hv14 SC (S ?_)
  obtain⟨v16,hv16,h⟩:=rb_ h
  refine CallH.mk [false] (a1_ok _ _ hv16) SC (S ?_)
  refine CondH.run cs h (fun cs h=>S ?_) (fun cs h=>S ?_)
  ·cases rs_ h
   exact FinH.l SC
  ·have h:=rs_ h
   refine RdH.mk ⟨_,h,?_⟩
   exact Slm_ SW
 ·refine S ?_
  refine CondH.f2 cs (by omega) (fun cs=>S ?_)
  cases rs_ h
  exact FinH.l SC

theorem sCF_1{a0:List Formula}{a1:Formula→Option Bool}{a1_id:FuncId}{a1_cs:List PV}(a1_ok:∀ y0 r,a1 y0=some r→Sat Tryz.prog a1_id (((Formula.pv false) y0)::a1_cs) (B r))(a1_cz:CapsOk a1_cs=True){r:Bool}(h:sCF_ a0 a1=some r):Sat Tryz.prog 132 [(.sl false 5 (a0.map (Formula.pv false))),.clo a1_id a1_cs] (B r):=by
 obtain⟨h,cs⟩:=Ro_ h
 unfold sCF_ at h
 have cs:=And.intro a1_cz cs
 refine Sat.of_m (nt:=9) (rs:=[.tmp 4]) (n:=100000) Tryz.func132 rfl rfl rfl rfl (by simp) (S ?_)
 obtain⟨v7,hv7,h⟩:=rb_ h
 refine CallH.mk [false,false] (sIF_2 a1_ok a1_cz hv7) SC (S ?_)
 cases rs_ h
 exact FinH.l SC

theorem ihF_2(n:Nat):(∀ (a0:Formula) (r:Bool),ihF_1 n a0=some r→Sat Tryz.prog 110 [((Formula.pv false) a0)] (B r))∧(∀ (a0:Formula) (r:Bool),ihF_ n a0=some r→Sat Tryz.prog 139 [((Formula.pv false) a0)] (B r)):=by
 induction n with
 | zero=>exact⟨fun _ _ h=>by simp[ihF_1] at h,fun _ _ h=>by simp[ihF_] at h⟩
 | succ n ih=>
  refine⟨fun a0 r h=>?_,fun a0 r h=>?_⟩
  ·obtain⟨h,cs⟩:=Ro_ h
   rw[ihF_1] at h
   refine Sat.of_m (nt:=76) (rs:=[.tmp 2]) (n:=100000) Tryz.func110 rfl rfl rfl rfl (by simp) (S ?_)
   refine CondH.run cs h (fun cs h=>S ?_) (fun cs h=>S ?_)
   ·refine CondH.run cs h (fun cs h=>S ?_) (fun cs h=>S ?_)
    ·obtain⟨v33,hv33,h⟩:=rb_ h
     refine CallH.mk [false] (iiQ_ hv33) SC (S ?_)
     refine CondH.run cs h (fun cs h=>S ?_) (fun cs h=>S ?_)
     ·obtain⟨v37,hv37,h⟩:=rb_ h
      refine CallH.mk [false] (iiV_1 hv37) SC (S ?_)
      refine CondH.run cs h (fun cs h=>S ?_) (fun cs h=>S ?_)
      ·obtain⟨v44,hv44,h⟩:=rb_ h
       refine CallH.mk [false] (iiQ_ hv44) SC (S ?_)
       refine CondH.run cs h (fun cs h=>S ?_) (fun cs h=>S ?_)
       ·refine CondH.run cs h (fun cs h=>S ?_) (fun cs h=>S ?_)
        ·obtain⟨v58,hv58,h⟩:=rb_ h
         refine CallH.mk [false] (iIV_ hv58) SC (S ?_)
         refine CondH.run cs h (fun cs h=>S ?_) (fun cs h=>S ?_)
         ·obtain⟨v74,hv74,h⟩:=rb_ h
          refine CallH.mk [false,false] (sCF_1 (fun _ _ hh=>ih.2 _ _ hh) (by simp only[COn_,COc_]) hv74) SC (S ?_)
          cases rs_ h
          exact FinH.l SC
         ·cases rs_ h
          exact FinH.l SC
        ·obtain⟨v68,hv68,h⟩:=rb_ h
         refine CallH.mk [false] (iiZ_ hv68) SC (S ?_)
         refine CondH.run cs h (fun cs h=>S ?_) (fun cs h=>S ?_)
         ·obtain⟨v74,hv74,h⟩:=rb_ h
          refine CallH.mk [false,false] (sCF_1 (fun _ _ hh=>ih.2 _ _ hh) (by simp only[COn_,COc_]) hv74) SC (S ?_)
          cases rs_ h
          exact FinH.l SC
         ·cases rs_ h
          exact FinH.l SC
       ·refine CondH.run cs h (fun cs h=>S ?_) (fun cs h=>S ?_)
        ·refine CondH.run cs h (fun cs h=>S ?_) (fun cs h=>S ?_)
         ·obtain⟨v58,hv58,h⟩:=rb_ h
          refine CallH.mk [false] (iIV_ hv58) SC (S ?_)
          refine CondH.run cs h (fun cs h=>S ?_) (fun cs h=>S ?_)
          ·obtain⟨v74,hv74,h⟩:=rb_ h
           refine CallH.mk [false,false] (sCF_1 (fun _ _ hh=>ih.2 _ _ hh) (by simp only[COn_,COc_]) hv74) SC (S ?_)
           cases rs_ h
           exact FinH.l SC
          ·cases rs_ h
           exact FinH.l SC
         ·obtain⟨v68,hv68,h⟩:=rb_ h
          refine CallH.mk [false] (iiZ_ hv68) SC (S ?_)
          refine CondH.run cs h (fun cs h=>S ?_) (fun cs h=>S ?_)
          ·obtain⟨v74,hv74,h⟩:=rb_ h
           refine CallH.mk [false,false] (sCF_1 (fun _ _ hh=>ih.2 _ _ hh) (by simp only[COn_,COc_]) hv74) SC (S ?_)
           cases rs_ h
           exact FinH.l SC
          ·cases rs_ h
           exact FinH.l SC
        ·cases rs_ h
         exact FinH.l SC
      ·cases rs_ h
       exact FinH.l SC
     ·obtain⟨v44,hv44,h⟩:=rb_ h
      refine CallH.mk [false] (iiQ_ hv44) SC (S ?_)
      refine CondH.run cs h (fun cs h=>S ?_) (fun cs h=>S ?_)
      ·refine CondH.run cs h (fun cs h=>S ?_) (fun cs h=>S ?_)
       ·obtain⟨v58,hv58,h⟩:=rb_ h
        refine CallH.mk [false] (iIV_ hv58) SC (S ?_)
        refine CondH.run cs h (fun cs h=>S ?_) (fun cs h=>S ?_)
        ·obtain⟨v74,hv74,h⟩:=rb_ h
         refine CallH.mk [false,false] (sCF_1 (fun _ _ hh=>ih.2 _ _ hh) (by simp only[COn_,COc_]) hv74) SC (S ?_)
         cases rs_ h
         exact FinH.l SC
        ·cases rs_ h
         exact FinH.l SC
       ·obtain⟨v68,hv68,h⟩:=rb_ h
        refine CallH.mk [false] (iiZ_ hv68) SC (S ?_)
        refine CondH.run cs h (fun cs h=>S ?_) (fun cs h=>S ?_)
        ·obtain⟨v74,hv74,h⟩:=rb_ h
         refine CallH.mk [false,false] (sCF_1 (fun _ _ hh=>ih.2 _ _ hh) (by simp only[COn_,COc_]) hv74) SC (S ?_)
         cases rs_ h
         exact FinH.l SC
        ·cases rs_ h
         exact FinH.l SC
      ·refine CondH.run cs h (fun cs h=>S ?_) (fun cs h=>S ?_)
       ·refine CondH.run cs h (fun cs h=>S ?_) (fun cs h=>S ?_)
        ·obtain⟨v58,hv58,h⟩:=rb_ h
         refine CallH.mk [false] (iIV_ hv58) SC (S ?_)
         refine CondH.run cs h (fun cs h=>S ?_) (fun cs h=>S ?_)
         ·obtain⟨v74,hv74,h⟩:=rb_ h
          refine CallH.mk [false,false] (sCF_1 (fun _ _ hh=>ih.2 _ _ hh) (by simp only[COn_,COc_]) hv74) SC (S ?_)
          cases rs_ h
          exact FinH.l SC
         ·cases rs_ h
          exact FinH.l SC
        ·obtain⟨v68,hv68,h⟩:=rb_ h
         refine CallH.mk [false] (iiZ_ hv68) SC (S ?_)
         refine CondH.run cs h (fun cs h=>S ?_) (fun cs h=>S ?_)
         ·obtain⟨v74,hv74,h⟩:=rb_ h
          refine CallH.mk [false,false] (sCF_1 (fun _ _ hh=>ih.2 _ _ hh) (by simp only[COn_,COc_]) hv74) SC (S ?_)
          cases rs_ h
          exact FinH.l SC
         ·cases rs_ h
          exact FinH.l SC
       ·cases rs_ h
        exact FinH.l SC
    ·cases rs_ h
     exact FinH.l SC
   ·refine CondH.run cs h (fun cs h=>S ?_) (fun cs h=>S ?_)
    ·refine CondH.run cs h (fun cs h=>S ?_) (fun cs h=>S ?_)
     ·obtain⟨v33,hv33,h⟩:=rb_ h
      refine CallH.mk [false] (iiQ_ hv33) SC (S ?_)
      refine CondH.run cs h (fun cs h=>S ?_) (fun cs h=>S ?_)
      ·obtain⟨v37,hv37,h⟩:=rb_ h
       refine CallH.mk [false] (iiV_1 hv37) SC (S ?_)
       refine CondH.run cs h (fun cs h=>S ?_) (fun cs h=>S ?_)
       ·obtain⟨v44,hv44,h⟩:=rb_ h
        refine CallH.mk [false] (iiQ_ hv44) SC (S ?_)
        refine CondH.run cs h (fun cs h=>S ?_) (fun cs h=>S ?_)
        ·refine CondH.run cs h (fun cs h=>S ?_) (fun cs h=>S ?_)
         ·obtain⟨v58,hv58,h⟩:=rb_ h
          refine CallH.mk [false] (iIV_ hv58) SC (S ?_)
          refine CondH.run cs h (fun cs h=>S ?_) (fun cs h=>S ?_)
          ·obtain⟨v74,hv74,h⟩:=rb_ h
           refine CallH.mk [false,false] (sCF_1 (fun _ _ hh=>ih.2 _ _ hh) (by simp only[COn_,COc_]) hv74) SC (S ?_)
           cases rs_ h
           exact FinH.l SC
          ·cases rs_ h
           exact FinH.l SC
         ·obtain⟨v68,hv68,h⟩:=rb_ h
          refine CallH.mk [false] (iiZ_ hv68) SC (S ?_)
          refine CondH.run cs h (fun cs h=>S ?_) (fun cs h=>S ?_)
          ·obtain⟨v74,hv74,h⟩:=rb_ h
           refine CallH.mk [false,false] (sCF_1 (fun _ _ hh=>ih.2 _ _ hh) (by simp only[COn_,COc_]) hv74) SC (S ?_)
           cases rs_ h
           exact FinH.l SC
          ·cases rs_ h
           exact FinH.l SC
        ·refine CondH.run cs h (fun cs h=>S ?_) (fun cs h=>S ?_)
         ·refine CondH.run cs h (fun cs h=>S ?_) (fun cs h=>S ?_)
          ·obtain⟨v58,hv58,h⟩:=rb_ h
           refine CallH.mk [false] (iIV_ hv58) SC (S ?_)
           refine CondH.run cs h (fun cs h=>S ?_) (fun cs h=>S ?_)
           ·obtain⟨v74,hv74,h⟩:=rb_ h
            refine CallH.mk [false,false] (sCF_1 (fun _ _ hh=>ih.2 _ _ hh) (by simp only[COn_,COc_]) hv74) SC (S ?_)
            cases rs_ h
            exact FinH.l SC
           ·cases rs_ h
            exact FinH.l SC
          ·obtain⟨v68,hv68,h⟩:=rb_ h
           refine CallH.mk [false] (iiZ_ hv68) SC (S ?_)
           refine CondH.run cs h (fun cs h=>S ?_) (fun cs h=>S ?_)
           ·obtain⟨v74,hv74,h⟩:=rb_ h
            refine CallH.mk [false,false] (sCF_1 (fun _ _ hh=>ih.2 _ _ hh) (by simp only[COn_,COc_]) hv74) SC (S ?_)
            cases rs_ h
            exact FinH.l SC
           ·cases rs_ h
            exact FinH.l SC
         ·cases rs_ h
          exact FinH.l SC
       ·cases rs_ h
        exact FinH.l SC
      ·obtain⟨v44,hv44,h⟩:=rb_ h
       refine CallH.mk [false] (iiQ_ hv44) SC (S ?_)
       refine CondH.run cs h (fun cs h=>S ?_) (fun cs h=>S ?_)
       ·refine CondH.run cs h (fun cs h=>S ?_) (fun cs h=>S ?_)
        ·obtain⟨v58,hv58,h⟩:=rb_ h
         refine CallH.mk [false] (iIV_ hv58) SC (S ?_)
         refine CondH.run cs h (fun cs h=>S ?_) (fun cs h=>S ?_)
         ·obtain⟨v74,hv74,h⟩:=rb_ h
          refine CallH.mk [false,false] (sCF_1 (fun _ _ hh=>ih.2 _ _ hh) (by simp only[COn_,COc_]) hv74) SC (S ?_)
          cases rs_ h
          exact FinH.l SC
         ·cases rs_ h
          exact FinH.l SC
        ·obtain⟨v68,hv68,h⟩:=rb_ h
         refine CallH.mk [false] (iiZ_ hv68) SC (S ?_)
         refine CondH.run cs h (fun cs h=>S ?_) (fun cs h=>S ?_)
         ·obtain⟨v74,hv74,h⟩:=rb_ h
          refine CallH.mk [false,false] (sCF_1 (fun _ _ hh=>ih.2 _ _ hh) (by simp only[COn_,COc_]) hv74) SC (S ?_)
          cases rs_ h
          exact FinH.l SC
         ·cases rs_ h
          exact FinH.l SC
       ·refine CondH.run cs h (fun cs h=>S ?_) (fun cs h=>S ?_)
        ·refine CondH.run cs h (fun cs h=>S ?_) (fun cs h=>S ?_)
         ·obtain⟨v58,hv58,h⟩:=rb_ h
          refine CallH.mk [false] (iIV_ hv58) SC (S ?_)
          refine CondH.run cs h (fun cs h=>S ?_) (fun cs h=>S ?_)
          ·obtain⟨v74,hv74,h⟩:=rb_ h
           refine CallH.mk [false,false] (sCF_1 (fun _ _ hh=>ih.2 _ _ hh) (by simp only[COn_,COc_]) hv74) SC (S ?_)
           cases rs_ h
           exact FinH.l SC
          ·cases rs_ h
           exact FinH.l SC
         ·obtain⟨v68,hv68,h⟩:=rb_ h
          refine CallH.mk [false] (iiZ_ hv68) SC (S ?_)
          refine CondH.run cs h (fun cs h=>S ?_) (fun cs h=>S ?_)
          ·obtain⟨v74,hv74,h⟩:=rb_ h
           refine CallH.mk [false,false] (sCF_1 (fun _ _ hh=>ih.2 _ _ hh) (by simp only[COn_,COc_]) hv74) SC (S ?_)
           cases rs_ h
           exact FinH.l SC
          ·cases rs_ h
           exact FinH.l SC
        ·cases rs_ h
         exact FinH.l SC
     ·cases rs_ h
      exact FinH.l SC
    ·refine CondH.run cs h (fun cs h=>S ?_) (fun cs h=>S ?_)
     ·refine CondH.run cs h (fun cs h=>S ?_) (fun cs h=>S ?_)
      ·obtain⟨v33,hv33,h⟩:=rb_ h
       refine CallH.mk [false] (iiQ_ hv33) SC (S ?_)
       refine CondH.run cs h (fun cs h=>S ?_) (fun cs h=>S ?_)
       ·obtain⟨v37,hv37,h⟩:=rb_ h
        refine CallH.mk [false] (iiV_1 hv37) SC (S ?_)
        refine CondH.run cs h (fun cs h=>S ?_) (fun cs h=>S ?_)
        ·obtain⟨v44,hv44,h⟩:=rb_ h
         refine CallH.mk [false] (iiQ_ hv44) SC (S ?_)
         refine CondH.run cs h (fun cs h=>S ?_) (fun cs h=>S ?_)
         ·obtain⟨v58,hv58,h⟩:=rb_ h
          refine CallH.mk [false] (iIV_ hv58) SC (S ?_)
          refine CondH.run cs h (fun cs h=>S ?_) (fun cs h=>S ?_)
          ·obtain⟨v74,hv74,h⟩:=rb_ h
           refine CallH.mk [false,false] (sCF_1 (fun _ _ hh=>ih.2 _ _ hh) (by simp only[COn_,COc_]) hv74) SC (S ?_)
           cases rs_ h
           exact FinH.l SC
          ·cases rs_ h
           exact FinH.l SC
         ·refine CondH.run cs h (fun cs h=>S ?_) (fun cs h=>S ?_)
          ·obtain⟨v58,hv58,h⟩:=rb_ h
           refine CallH.mk [false] (iIV_ hv58) SC (S ?_)
           refine CondH.run cs h (fun cs h=>S ?_) (fun cs h=>S ?_)
           ·obtain⟨v74,hv74,h⟩:=rb_ h
            refine CallH.mk [false,false] (sCF_1 (fun _ _ hh=>ih.2 _ _ hh) (by simp only[COn_,COc_]) hv74) SC (S ?_)
            cases rs_ h
            exact FinH.l SC
           ·cases rs_ h
            exact FinH.l SC
          ·cases rs_ h
           exact FinH.l SC
        ·cases rs_ h
         exact FinH.l SC
       ·obtain⟨v44,hv44,h⟩:=rb_ h
        refine CallH.mk [false] (iiQ_ hv44) SC (S ?_)
        refine CondH.run cs h (fun cs h=>S ?_) (fun cs h=>S ?_)
        ·obtain⟨v58,hv58,h⟩:=rb_ h
         refine CallH.mk [false] (iIV_ hv58) SC (S ?_)
         refine CondH.run cs h (fun cs h=>S ?_) (fun cs h=>S ?_)
         ·obtain⟨v74,hv74,h⟩:=rb_ h
          refine CallH.mk [false,false] (sCF_1 (fun _ _ hh=>ih.2 _ _ hh) (by simp only[COn_,COc_]) hv74) SC (S ?_)
          cases rs_ h
          exact FinH.l SC
         ·cases rs_ h
          exact FinH.l SC
        ·refine CondH.run cs h (fun cs h=>S ?_) (fun cs h=>S ?_)
         ·obtain⟨v58,hv58,h⟩:=rb_ h
          refine CallH.mk [false] (iIV_ hv58) SC (S ?_)
          refine CondH.run cs h (fun cs h=>S ?_) (fun cs h=>S ?_)
          ·obtain⟨v74,hv74,h⟩:=rb_ h
           refine CallH.mk [false,false] (sCF_1 (fun _ _ hh=>ih.2 _ _ hh) (by simp only[COn_,COc_]) hv74) SC (S ?_)
           cases rs_ h
           exact FinH.l SC
          ·cases rs_ h
           exact FinH.l SC
         ·cases rs_ h
          exact FinH.l SC
      ·cases rs_ h
       exact FinH.l SC
     ·refine CondH.run cs h (fun cs h=>S ?_) (fun cs h=>S ?_)
      ·refine CondH.run cs h (fun cs h=>S ?_) (fun cs h=>S ?_)
       ·obtain⟨v33,hv33,h⟩:=rb_ h
        refine CallH.mk [false] (iiQ_ hv33) SC (S ?_)
        refine CondH.run cs h (fun cs h=>S ?_) (fun cs h=>S ?_)
        ·obtain⟨v37,hv37,h⟩:=rb_ h
         refine CallH.mk [false] (iiV_1 hv37) SC (S ?_)
         refine CondH.run cs h (fun cs h=>S ?_) (fun cs h=>S ?_)
         ·obtain⟨v44,hv44,h⟩:=rb_ h
          refine CallH.mk [false] (iiQ_ hv44) SC (S ?_)
          refine CondH.run cs h (fun cs h=>S ?_) (fun cs h=>S ?_)
          ·obtain⟨v68,hv68,h⟩:=rb_ h
           refine CallH.mk [false] (iiZ_ hv68) SC (S ?_)
           refine CondH.run cs h (fun cs h=>S ?_) (fun cs h=>S ?_)
           ·obtain⟨v74,hv74,h⟩:=rb_ h
            refine CallH.mk [false,false] (sCF_1 (fun _ _ hh=>ih.2 _ _ hh) (by simp only[COn_,COc_]) hv74) SC (S ?_)
            cases rs_ h
            exact FinH.l SC
           ·cases rs_ h
            exact FinH.l SC
          ·refine CondH.run cs h (fun cs h=>S ?_) (fun cs h=>S ?_)
           ·obtain⟨v68,hv68,h⟩:=rb_ h
            refine CallH.mk [false] (iiZ_ hv68) SC (S ?_)
            refine CondH.run cs h (fun cs h=>S ?_) (fun cs h=>S ?_)
            ·obtain⟨v74,hv74,h⟩:=rb_ h
             refine CallH.mk [false,false] (sCF_1 (fun _ _ hh=>ih.2 _ _ hh) (by simp only[COn_,COc_]) hv74) SC (S ?_)
             cases rs_ h
             exact FinH.l SC
            ·cases rs_ h
             exact FinH.l SC
           ·cases rs_ h
            exact FinH.l SC
         ·cases rs_ h
          exact FinH.l SC
        ·obtain⟨v44,hv44,h⟩:=rb_ h
         refine CallH.mk [false] (iiQ_ hv44) SC (S ?_)
         refine CondH.run cs h (fun cs h=>S ?_) (fun cs h=>S ?_)
         ·obtain⟨v68,hv68,h⟩:=rb_ h
          refine CallH.mk [false] (iiZ_ hv68) SC (S ?_)
          refine CondH.run cs h (fun cs h=>S ?_) (fun cs h=>S ?_)
          ·obtain⟨v74,hv74,h⟩:=rb_ h
           refine CallH.mk [false,false] (sCF_1 (fun _ _ hh=>ih.2 _ _ hh) (by simp only[COn_,COc_]) hv74) SC (S ?_)
           cases rs_ h
           exact FinH.l SC
          ·cases rs_ h
           exact FinH.l SC
         ·refine CondH.run cs h (fun cs h=>S ?_) (fun cs h=>S ?_)
          ·obtain⟨v68,hv68,h⟩:=rb_ h
           refine CallH.mk [false] (iiZ_ hv68) SC (S ?_)
           refine CondH.run cs h (fun cs h=>S ?_) (fun cs h=>S ?_)
           ·obtain⟨v74,hv74,h⟩:=rb_ h
            refine CallH.mk [false,false] (sCF_1 (fun _ _ hh=>ih.2 _ _ hh) (by simp only[COn_,COc_]) hv74) SC (S ?_)
            cases rs_ h
            exact FinH.l SC
           ·cases rs_ h
            exact FinH.l SC
          ·cases rs_ h
           exact FinH.l SC
       ·cases rs_ h
        exact FinH.l SC
      ·obtain⟨v20,hv20,h⟩:=rb_ h
       refine CallH.mk [false] (iiQ_ hv20) SC (S ?_)
       refine CondH.run cs h (fun cs h=>S ?_) (fun cs h=>S ?_)
       ·refine CondH.run cs h (fun cs h=>S ?_) (fun cs h=>S ?_)
        ·obtain⟨v33,hv33,h⟩:=rb_ h
         refine CallH.mk [false] (iiQ_ hv33) SC (S ?_)
         refine CondH.run cs h (fun cs h=>S ?_) (fun cs h=>S ?_)
         ·obtain⟨v37,hv37,h⟩:=rb_ h
          refine CallH.mk [false] (iiV_1 hv37) SC (S ?_)
          refine CondH.run cs h (fun cs h=>S ?_) (fun cs h=>S ?_)
          ·obtain⟨v44,hv44,h⟩:=rb_ h
           refine CallH.mk [false] (iiQ_ hv44) SC (S ?_)
           refine CondH.run cs h (fun cs h=>S ?_) (fun cs h=>S ?_)
           ·obtain⟨v68,hv68,h⟩:=rb_ h
            refine CallH.mk [false] (iiZ_ hv68) SC (S ?_)
            refine CondH.run cs h (fun cs h=>S ?_) (fun cs h=>S ?_)
            ·obtain⟨v74,hv74,h⟩:=rb_ h
             refine CallH.mk [false,false] (sCF_1 (fun _ _ hh=>ih.2 _ _ hh) (by simp only[COn_,COc_]) hv74) SC (S ?_)
             cases rs_ h
             exact FinH.l SC
            ·cases rs_ h
             exact FinH.l SC
           ·refine CondH.run cs h (fun cs h=>S ?_) (fun cs h=>S ?_)
            ·obtain⟨v68,hv68,h⟩:=rb_ h
             refine CallH.mk [false] (iiZ_ hv68) SC (S ?_)
             refine CondH.run cs h (fun cs h=>S ?_) (fun cs h=>S ?_)
             ·obtain⟨v74,hv74,h⟩:=rb_ h
              refine CallH.mk [false,false] (sCF_1 (fun _ _ hh=>ih.2 _ _ hh) (by simp only[COn_,COc_]) hv74) SC (S ?_)
              cases rs_ h
              exact FinH.l SC
             ·cases rs_ h
              exact FinH.l SC
            ·cases rs_ h
             exact FinH.l SC
          ·cases rs_ h
           exact FinH.l SC
         ·obtain⟨v44,hv44,h⟩:=rb_ h
          refine CallH.mk [false] (iiQ_ hv44) SC (S ?_)
          refine CondH.run cs h (fun cs h=>S ?_) (fun cs h=>S ?_)
          ·obtain⟨v68,hv68,h⟩:=rb_ h
           refine CallH.mk [false] (iiZ_ hv68) SC (S ?_)
           refine CondH.run cs h (fun cs h=>S ?_) (fun cs h=>S ?_)
           ·obtain⟨v74,hv74,h⟩:=rb_ h
            refine CallH.mk [false,false] (sCF_1 (fun _ _ hh=>ih.2 _ _ hh) (by simp only[COn_,COc_]) hv74) SC (S ?_)
            cases rs_ h
            exact FinH.l SC
           ·cases rs_ h
            exact FinH.l SC
          ·refine CondH.run cs h (fun cs h=>S ?_) (fun cs h=>S ?_)
           ·obtain⟨v68,hv68,h⟩:=rb_ h
            refine CallH.mk [false] (iiZ_ hv68) SC (S ?_)
            refine CondH.run cs h (fun cs h=>S ?_) (fun cs h=>S ?_)
            ·obtain⟨v74,hv74,h⟩:=rb_ h
             refine CallH.mk [false,false] (sCF_1 (fun _ _ hh=>ih.2 _ _ hh) (by simp only[COn_,COc_]) hv74) SC (S ?_)
             cases rs_ h
             exact FinH.l SC
            ·cases rs_ h
             exact FinH.l SC
           ·cases rs_ h
            exact FinH.l SC
        ·cases rs_ h
         exact FinH.l SC
       ·obtain⟨v24,hv24,h⟩:=rb_ h
        refine CallH.mk [false] (iiB_1 hv24) SC (S ?_)
        refine CondH.run cs h (fun cs h=>S ?_) (fun cs h=>S ?_)
        ·refine CondH.run cs h (fun cs h=>S ?_) (fun cs h=>S ?_)
         ·obtain⟨v33,hv33,h⟩:=rb_ h
          refine CallH.mk [false] (iiQ_ hv33) SC (S ?_)
          refine CondH.run cs h (fun cs h=>S ?_) (fun cs h=>S ?_)
          ·obtain⟨v37,hv37,h⟩:=rb_ h
           refine CallH.mk [false] (iiV_1 hv37) SC (S ?_)
           refine CondH.run cs h (fun cs h=>S ?_) (fun cs h=>S ?_)
           ·obtain⟨v44,hv44,h⟩:=rb_ h
            refine CallH.mk [false] (iiQ_ hv44) SC (S ?_)
            refine CondH.run cs h (fun cs h=>S ?_) (fun cs h=>S ?_)
            ·obtain⟨v68,hv68,h⟩:=rb_ h
             refine CallH.mk [false] (iiZ_ hv68) SC (S ?_)
             refine CondH.run cs h (fun cs h=>S ?_) (fun cs h=>S ?_)
             ·obtain⟨v74,hv74,h⟩:=rb_ h
              refine CallH.mk [false,false] (sCF_1 (fun _ _ hh=>ih.2 _ _ hh) (by simp only[COn_,COc_]) hv74) SC (S ?_)
              cases rs_ h
              exact FinH.l SC
             ·cases rs_ h
              exact FinH.l SC
            ·refine CondH.run cs h (fun cs h=>S ?_) (fun cs h=>S ?_)
             ·obtain⟨v68,hv68,h⟩:=rb_ h
              refine CallH.mk [false] (iiZ_ hv68) SC (S ?_)
              refine CondH.run cs h (fun cs h=>S ?_) (fun cs h=>S ?_)
              ·obtain⟨v74,hv74,h⟩:=rb_ h
               refine CallH.mk [false,false] (sCF_1 (fun _ _ hh=>ih.2 _ _ hh) (by simp only[COn_,COc_]) hv74) SC (S ?_)
               cases rs_ h
               exact FinH.l SC
              ·cases rs_ h
               exact FinH.l SC
             ·cases rs_ h
              exact FinH.l SC
           ·cases rs_ h
            exact FinH.l SC
          ·obtain⟨v44,hv44,h⟩:=rb_ h
           refine CallH.mk [false] (iiQ_ hv44) SC (S ?_)
           refine CondH.run cs h (fun cs h=>S ?_) (fun cs h=>S ?_)
           ·obtain⟨v68,hv68,h⟩:=rb_ h
            refine CallH.mk [false] (iiZ_ hv68) SC (S ?_)
            refine CondH.run cs h (fun cs h=>S ?_) (fun cs h=>S ?_)
            ·obtain⟨v74,hv74,h⟩:=rb_ h
             refine CallH.mk [false,false] (sCF_1 (fun _ _ hh=>ih.2 _ _ hh) (by simp only[COn_,COc_]) hv74) SC (S ?_)
             cases rs_ h
             exact FinH.l SC
            ·cases rs_ h
             exact FinH.l SC
           ·refine CondH.run cs h (fun cs h=>S ?_) (fun cs h=>S ?_)
            ·obtain⟨v68,hv68,h⟩:=rb_ h
             refine CallH.mk [false] (iiZ_ hv68) SC (S ?_)
             refine CondH.run cs h (fun cs h=>S ?_) (fun cs h=>S ?_)
             ·obtain⟨v74,hv74,h⟩:=rb_ h
              refine CallH.mk [false,false] (sCF_1 (fun _ _ hh=>ih.2 _ _ hh) (by simp only[COn_,COc_]) hv74) SC (S ?_)
              cases rs_ h
              exact FinH.l SC
             ·cases rs_ h
              exact FinH.l SC
            ·cases rs_ h
             exact FinH.l SC
         ·cases rs_ h
          exact FinH.l SC
        ·cases rs_ h
         exact FinH.l SC
  ·obtain⟨h,cs⟩:=Ro_ h
   rw[ihF_] at h
   refine Sat.of_m (nt:=6) (rs:=[.tmp 2]) (n:=100000) Tryz.func139 rfl rfl rfl rfl (by simp) (S ?_)
   obtain⟨v4,hv4,h⟩:=rb_ h
   refine CallH.mk [false] (ih.1 _ _ hv4) SC (S ?_)
   cases rs_ h
   exact FinH.l SC
theorem ihF_4{a0:Formula}{r:Bool}(h:ihF_3 a0=some r):Sat Tryz.prog 110 [((Formula.pv false) a0)] (B r):=by
 obtain⟨n,hn⟩:=ls_ h
 exact(ihF_2 n).1 _ _ hn
theorem ihF_6{a0:Formula}{r:Bool}(h:ihF_5 a0=some r):Sat Tryz.prog 139 [((Formula.pv false) a0)] (B r):=by
 obtain⟨n,hn⟩:=ls_ h
 exact(ihF_2 n).2 _ _ hn

theorem iIV_6{a0:Formula}  {r:Bool}(h:iIV_2 a0=some r):Sat Tryz.prog 73 [((Formula.pv false) a0)] (B r):=by
 obtain⟨h,cs⟩:=Ro_ h
 unfold iIV_2 at h
 refine Sat.of_m (nt:=10) (rs:=[.tmp 2]) (n:=100000) Tryz.func73 rfl rfl rfl rfl (by simp) (S ?_)
 obtain⟨v4,hv4,h⟩:=rb_ h
 refine CallH.mk [false] (isO_3 hv4) SC (S ?_)
 refine CondH.run cs h (fun cs h=>S ?_) (fun cs h=>S ?_)
 ·obtain⟨v8,hv8,h⟩:=rb_ h
  refine CallH.mk [false] (ihF_4 hv8) SC (S ?_)
  cases rs_ h
  exact FinH.l SC
 ·cases rs_ h
  exact FinH.l SC

theorem iIV_8{a0:Formula}  {r:Bool}(h:iIV_5 a0=some r):Sat Tryz.prog 131 [((Formula.pv false) a0)] (B r):=by
 obtain⟨h,cs⟩:=Ro_ h
 unfold iIV_5 at h
 refine Sat.of_m (nt:=6) (rs:=[.tmp 2]) (n:=100000) Tryz.func131 rfl rfl rfl rfl (by simp) (S ?_)
 obtain⟨v4,hv4,h⟩:=rb_ h
 refine CallH.mk [false] (iIV_6 hv4) SC (S ?_)
 cases rs_ h
 exact FinH.l SC

theorem iIV_9{a0:Sequent}  {r:Bool}(h:iIV_4 a0=some r):Sat Tryz.prog 101 [((Sequent.pv false) a0)] (B r):=by
 obtain⟨h,cs⟩:=Ro_ h
 unfold iIV_4 at h
 refine Sat.of_m (nt:=28) (rs:=[.tmp 2]) (n:=100000) Tryz.func101 rfl rfl rfl rfl (by simp) (S ?_)
 refine CondH.run cs h (fun cs h=>S ?_) (fun cs h=>S ?_)
 ·refine CondH.run cs h (fun cs h=>S ?_) (fun cs h=>S ?_)
  ·obtain⟨v18,hv18,h⟩:=rb_ h
   refine CallH.mk [false,false] (sCF_1 (fun _ _ hh=>iIV_8 hh) (by simp only[COn_,COc_]) hv18) SC (S ?_)
   refine CondH.run cs h (fun cs h=>S ?_) (fun cs h=>S ?_)
   ·cases rs_ h
    exact FinH.l SC
   ·obtain⟨v25,hv25,h⟩:=rb_ h
    refine CallH.mk [false,false] (sCF_1 (fun _ _ hh=>iIV_8 hh) (by simp only[COn_,COc_]) hv25) SC (S ?_)
    cases rs_ h
    exact FinH.l SC
  ·cases rs_ h
   exact FinH.l SC
 ·cases rs_ h
  exact FinH.l SC

theorem sEF_5{a0:List Term}{a1:List Term}{a2:Term→Term→Option Bool}{a2_id:FuncId}{a2_cs:List PV}(a2_ok:∀ y0 y1 r,a2 y0 y1=some r→Sat Tryz.prog a2_id (((Term.pv false) y0)::((Term.pv false) y1)::a2_cs) (B r))(a2_cz:CapsOk a2_cs=True){r:Bool}(h:sEF_2 a0 a1 a2=some r):Sat Tryz.prog 169 [(.sl false 2 (a0.map (Term.pv false))),(.sl false 2 (a1.map (Term.pv false))),.clo a2_id a2_cs] (B r):=by
 obtain⟨h,cs⟩:=Ro_ h
 unfold sEF_2 at h
 have cs:=And.intro a2_cz cs
 refine Sat.of_m (nt:=32) (rs:=[.tmp 6]) (n:=100000) Tryz.func169 rfl rfl rfl rfl (by simp) (S ?_)
 refine CondH.run cs h (fun cs h=>S ?_) (fun cs h=>S ?_)
 ·refine Mg.know_sl (b:=false) (sz:=2) (es:=a0.map (Term.pv false)) 0 SC fun hl0=>?_; rw[List.length_map] at hl0
  replace h:=rl_ h
  refine Mg.forN h (fun i4 s4=>[(1,.val (.pv (.sl false 2 (a1.map (Term.pv false))))),(2,.val (.pv (.clo a2_id a2_cs))),(15,.val (.pv (.sl false 2 (a0.map (Term.pv false))))),(16,.val (.pv (I (a0.length:Int)))),(17,.val (.pv (I (i4:Int))))]) (fun i4 s4=>[]) (Slm_ SC) (fun i4 s4 hi h=>?_) (fun s4 h=>?_)
  ·have w:=ws_ (i:=i4) (by omega)
   refine S ?_
   refine CondH.t2 cs (by omega) (fun cs=>S ?_)
   obtain⟨v20,hv20,h⟩:=rb_ h
   refine IdxH.mk (f:=(Term.pv false)) hv20 SC (S ?_)
   obtain⟨v24,hv24,h⟩:=rb_ h
   refine IdxH.mk (f:=(Term.pv false)) hv24 SC (S ?_)
   obtain⟨v29,hv29,h⟩:=rb_ h
   refine CallH.mk [false,false] (a2_ok _ _ _ hv29) SC (S ?_)
   refine CondH.run cs h (fun cs h=>S ?_) (fun cs h=>S ?_)
   ·have h:=rs_ h
    refine RdH.mk ⟨_,h,?_⟩
    exact Slm_ SW
   ·cases rs_ h
    exact FinH.l SC
  ·refine S ?_
   refine CondH.f2 cs (by omega) (fun cs=>S ?_)
   cases rs_ h
   exact FinH.l SC
 ·cases rs_ h
  exact FinH.l SC

theorem iET_2(n:Nat):(∀ (a0:Term) (a1:Term) (r:Bool),iET_ n a0 a1=some r→Sat Tryz.prog 149 [((Term.pv false) a0),((Term.pv false) a1)] (B r)):=by
 induction n with
 | zero=>exact fun _ _ _ h=>by simp[iET_] at h
 | succ n ih=>
  refine fun a0 a1 r h=>?_
  obtain⟨h,cs⟩:=Ro_ h
  rw[iET_] at h
  refine Sat.of_m (nt:=17) (rs:=[.tmp 4]) (n:=100000) Tryz.func149 rfl rfl rfl rfl (by simp) (S ?_)
  refine CondH.run cs h (fun cs h=>S ?_) (fun cs h=>S ?_)
  ·obtain⟨v15,hv15,h⟩:=rb_ h
   refine CallH.mk [false,false,false] (sEF_5 (fun _ _ _ hh=>ih _ _ _ hh) (by simp only[COn_,COc_]) hv15) SC (S ?_)
   cases rs_ h
   exact FinH.l SC
  ·cases rs_ h
   exact FinH.l SC
theorem iET_3{a0:Term}{a1:Term}{r:Bool}(h:iET_1 a0 a1=some r):Sat Tryz.prog 149 [((Term.pv false) a0),((Term.pv false) a1)] (B r):=by
 obtain⟨n,hn⟩:=ls_ h
 exact(iET_2 n) _ _ _ hn

theorem sEF_3{a0:List Formula}{a1:List Formula}{a2:Formula→Formula→Option Bool}{a2_id:FuncId}{a2_cs:List PV}(a2_ok:∀ y0 y1 r,a2 y0 y1=some r→Sat Tryz.prog a2_id (((Formula.pv false) y0)::((Formula.pv false) y1)::a2_cs) (B r))(a2_cz:CapsOk a2_cs=True){r:Bool}(h:sEF_ a0 a1 a2=some r):Sat Tryz.prog 150 [(.sl false 5 (a0.map (Formula.pv false))),(.sl false 5 (a1.map (Formula.pv false))),.clo a2_id a2_cs] (B r):=by
 obtain⟨h,cs⟩:=Ro_ h
 unfold sEF_ at h
 have cs:=And.intro a2_cz cs
 refine Sat.of_m (nt:=32) (rs:=[.tmp 6]) (n:=100000) Tryz.func150 rfl rfl rfl rfl (by simp) (S ?_)
 refine CondH.run cs h (fun cs h=>S ?_) (fun cs h=>S ?_)
 ·refine Mg.know_sl (b:=false) (sz:=5) (es:=a0.map (Formula.pv false)) 0 SC fun hl0=>?_; rw[List.length_map] at hl0
  replace h:=rl_ h
  refine Mg.forN h (fun i4 s4=>[(1,.val (.pv (.sl false 5 (a1.map (Formula.pv false))))),(2,.val (.pv (.clo a2_id a2_cs))),(15,.val (.pv (.sl false 5 (a0.map (Formula.pv false))))),(16,.val (.pv (I (a0.length:Int)))),(17,.val (.pv (I (i4:Int))))]) (fun i4 s4=>[]) (Slm_ SC) (fun i4 s4 hi h=>?_) (fun s4 h=>?_)
  ·have w:=ws_ (i:=i4) (by omega)
   refine S ?_
   refine CondH.t2 cs (by omega) (fun cs=>S ?_)
   obtain⟨v20,hv20,h⟩:=rb_ h
   refine IdxH.mk (f:=(Formula.pv false)) hv20 SC (S ?_)
   obtain⟨v24,hv24,h⟩:=rb_ h
   refine IdxH.mk (f:=(Formula.pv false)) hv24 SC (S ?_)
   obtain⟨v29,hv29,h⟩:=rb_ h
   refine CallH.mk [false,false] (a2_ok _ _ _ hv29) SC (S ?_)
   refine CondH.run cs h (fun cs h=>S ?_) (fun cs h=>S ?_)
   ·have h:=rs_ h
    refine RdH.mk ⟨_,h,?_⟩
    exact Slm_ SW
   ·cases rs_ h
    exact FinH.l SC
  ·refine S ?_
   refine CondH.f2 cs (by omega) (fun cs=>S ?_)
   cases rs_ h
   exact FinH.l SC
 ·cases rs_ h
  exact FinH.l SC

end Go.Proofs.YtkoghcphkdecoaaGreat
