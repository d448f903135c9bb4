/- Lemmas of the proof; each says what it shows. -/
import Derived.Test.YtfchaodlnddkpaaGreatGw0
set_option linter.unusedSimpArgs false
set_option linter.unusedVariables false
set_option linter.defProp false
set_option maxRecDepth 4000
namespace Go.Proofs.YtfchaodlnddkpaaGreat
open Go.Av
open And renaming intro→ae
open CallH renaming c→aj
open CondH renaming run→ai,t3→aH,f3→aI
open DrawH renaming ak→aO
open FinH renaming zl→am
open Ft renaming pv→ao
open IdxH renaming c→aA
open List renaming length_map→aC
open Mg renaming know_sl→aN,forN→aJ
open RdH renaming mk→a7
open Run renaming of0→aq
open Sat renaming go→ar
open St renaming le_mk2→az
open Tryz renaming prog→ag
open Tt renaming pv→ah
open VSeq renaming step→aE,nil→bh
set_option maxHeartbeats 4000000
theorem impl_HerbrandDisjunction_sat{a0:Ft}{a1:List (List Tt)}  {r:Ft×Bool}(h:impl_HerbrandDisjunction a0 a1=some r):Sat ag 28 [((ao false) a0),(.sl false 1 (a1.map (Lv false 2 (ah false))))] (.tup [((ao false) r.1),(B r.2)]):=by
 obtain⟨h,cs⟩:=aq h
 unfold impl_HerbrandDisjunction at h
 refine ar 68 [.cell 4 39,.tmp 5] Tryz.func28 (h:=S ?_)
 refine run_bk h fun v15 q h=>aj [false] (impl_IsHerbrandFormula_sat q) (S ?_)
 refine ai cs h (fun cs h=>S ?_) fun cs h=>S ?_
 ·refine run_bk h fun v20 q h=>aj [false] (impl_prefix_sat q) (S ?_)
  refine aN (b:=false) (sz:=1) (es:=a1.map (Lv false 2 (ah false))) 1 SC fun hl1=>?_; rw[aC] at hl1
  refine aJ (run_loop h) (fun i6 s6=>[(4,.box zab0),(6,.val (.own 320)),(7,.box (.pv ((ao false) v20.2))),(8,.val (.own 368)),(24,.val (.pv (.sl false 1 (a1.map (Lv false 2 (ah false)))))),(25,.val (.pv (I (a1.length:Int)))),(26,.val (.pv (I (i6:Int))))]) (fun i6 s6=>[(320,(1,v20.1.map Sx)),(368,(5,s6.map (ao true)))]) (az SC) (fun i6 s6 hi h=>?_) (fun s6 h=>?_)
  ·have w:=wrap_s2 i6
   refine S ?_
   refine aH cs fun cs=>S ?_
   refine run_bk h fun v28 q h=>IdxH.mk (f:=(Lv false 2 (ah false))) q SC (S ?_)
   refine ai cs h (fun cs h=>S ?_) fun cs h=>S ?_
   ·refine run_bk h fun v37 q h=>aj [false,false] (slices_ContainsFunc_Simpl_Term_impl_Term_sat (fun _ _ hh=>impl_HerbrandDisjunction_1_sat hh) (by simp only[CapsOk_nil,CapsOk_cons]) q) (S ?_)
    refine ai cs h (fun cs h=>S ?_) fun cs h=>S ?_
    ·exact FinH.zr h
    ·refine HandH.makeMap (α:=Tt) (ah false) (by decide) (S ?_)
     refine Mg.know_own (sz:=1) (es:=v20.1.map Sx) 320 SC fun hl320=>?_; rw[aC] at hl320
     refine aJ (run_loop h) (fun i12 s12=>[(4,.box zab0),(6,.val (.own 320)),(7,.box (.pv ((ao false) v20.2))),(8,.val (.own 368)),(10,.val (.pv (.sl false 2 (v28.map (ah false))))),(11,.hptr 40 .mp []),(24,.val (.pv (.sl false 1 (a1.map (Lv false 2 (ah false)))))),(25,.val (.pv (I (a1.length:Int)))),(26,.val (.pv (I (i6:Int)))),(40,.hold .mp [] (.mp (gmap (ah false) (s12).es) (s12).clock)),(41,.val (.own 320)),(42,.val (.pv (I (v20.1.length:Int)))),(43,.val (.pv (I (i12:Int))))]) (fun i12 s12=>[(320,(1,v20.1.map Sx)),(368,(5,s6.map (ao true)))]) (az SC) (fun i12 s12 hi h=>?_) (fun s12 h=>?_)
     ·have w:=ae (wrap_s2 i12) w
      refine S ?_
      refine aH cs fun cs=>S ?_
      refine run_bk h fun v46 q h=>aA Sx q (S ?_)
      refine run_bk h fun v47 q h=>EldH.c Sx q (S ?_)
      refine run_bk h fun v52 q h=>aA (ah false) q (S ?_)
      refine HandH.put (E:=36) (r:=40) (sh:=.mp) (ps:=[]) (m:=s12) (f:=(ah false)) (k:=v47) (v0:=v52) (c:=(.pv ((ah false) v52))) mt_85 SC (S ?_)
      exact RdH.z h
     ·refine S ?_
      refine aI cs fun cs=>S ?_
      obtain⟨v58,hv58,h⟩:=run_bind h
      refine HandH.call (r:=40) (hc:=.mp (gmap (ah false) (s12).es) (s12).clock) 1 [_] [] [(.pv ((ao false) v20.2))] [] [false] (SatH.ofMv (pre:=[_]) (post:=[]) (kv:=gmap (ah false) (s12).es) (ck:=(s12).clock) (impl_instance_sat hv58) (Ft.noView _)) rfl rfl rfl SC (S ?_)
      refine run_bk h fun v60 q h=>AppH.c (ao true) (fun a=>Ft.psize _ a) q (S ?_)
      have h:=run_some h
      refine a7 ⟨_,h,?_⟩
      refine St.le_rt 960 368 ?_
      exact az SWx
   ·exact FinH.zr h
  ·refine S ?_
   refine aI cs fun cs=>S ?_
   refine run_bk h fun v64 q h=>aj [false,true,true] (Sat.give (args:=[(I 6),(.sl true 5 (s6.map (ao true))),(.agg [(I 2),(.agg [(Sx ⟨#[]⟩),(.sl true 2 [])]),(Sx ⟨#[]⟩),(.sl true 5 [])])]) [false,true,true] (by have gg:=impl_combined_sat q; simp only[gv_t,gv_f,gv_n,view_sl,view_agg,view_lit,views_repB,views_repI,PV.views,RB,RS] at gg ⊢; exact gg)) (S ?_)
   refine run_bk h fun v65 q h=>aj [false] (impl_ifFormula_sat q) (S ?_)
   exact FinH.zr h
 ·exact FinH.zr h

theorem impl_atomsOfN_sat(n:Nat):(∀ (a0:Ft) (r:List Tt),impl_atomsOfN n a0=some r→Sat ag 59 [((ao false) a0)] (.sl true 2 (r.map (ah false)))):=by
 induction n with
 | zero=>exact fun _ _ h=>by simp[impl_atomsOfN] at h
 | succ n ih=>
  refine fun a0 r h=>?_
  obtain⟨h,cs⟩:=aq h
  rw[impl_atomsOfN] at h
  refine ar 26 [.tmp 2] Tryz.func59 (h:=S ?_)
  refine ai cs h (fun cs h=>S ?_) fun cs h=>S ?_
  ·exact am h
  ·refine aN (b:=false) (sz:=5) (es:=a0.Parts.map (ao false)) 14 SC fun hl14=>?_; rw[aC] at hl14
   refine aJ (run_loop h) (fun i5 s5=>[(3,.val (.own 192)),(14,.val (.pv (.sl false 5 (a0.Parts.map (ao false))))),(15,.val (.pv (I (a0.Parts.length:Int)))),(16,.val (.pv (I (i5:Int))))]) (fun i5 s5=>[(192,(2,s5.map (ah false)))]) (az SC) (fun i5 s5 hi h=>?_) (fun s5 h=>?_)
   ·have w:=wrap_s2 i5
    refine S ?_
    refine aH cs fun cs=>S ?_
    refine run_bk h fun v18 q h=>aA (ao false) q (S ?_)
    refine run_bk h fun v22 q h=>aj [false] (ih _ _ q) (S ?_)
    refine run_bk h fun v23 q h=>AppH.c (ah false) (fun a=>Tt.psize _ a) q (S ?_)
    have h:=run_some h
    refine a7 ⟨_,h,?_⟩
    refine St.le_rt 368 192 ?_
    exact az SWx
   ·refine S ?_
    refine aI cs fun cs=>S ?_
    exact am h
theorem impl_atomsOf_sat{a0:Ft}{r:List Tt}(h:impl_atomsOf a0=some r):Sat ag 59 [((ao false) a0)] (.sl true 2 (r.map (ah false))):=by
 obtain⟨n,hn⟩:=lim_some h
 exact(impl_atomsOfN_sat n) _ _ hn

theorem slices_EqualFunc_Simpl_Term_Simpl_Term_impl_Term_impl_Term_sat{a0:List Tt}{a1:List Tt}{a2:Tt→Tt→Option Bool}{a2_id:FuncId}{a2_cs:List PV}(a2_ok:∀ y0 y1 r,a2 y0 y1=some r→Sat ag a2_id (((ah false) y0)::((ah false) y1)::a2_cs) (B r))(a2_cz:CapsOk a2_cs=True){r:Bool}(h:slices_EqualFunc_Simpl_Term_Simpl_Term_impl_Term_impl_Term a0 a1 a2=some r):Sat ag 137 [(.sl false 2 (a0.map (ah false))),(.sl false 2 (a1.map (ah false))),.clo a2_id a2_cs] (B r):=by
 obtain⟨h,cs⟩:=aq h
 unfold slices_EqualFunc_Simpl_Term_Simpl_Term_impl_Term_impl_Term at h
 have cs:=ae a2_cz cs
 refine ar 32 [.tmp 6] Tryz.func137 (h:=S ?_)
 refine ai cs h (fun cs h=>S ?_) fun cs h=>S ?_
 ·refine aN (b:=false) (sz:=2) (es:=a0.map (ah false)) 0 SC fun hl0=>?_; rw[aC] at hl0
  refine aJ (run_loop h) (fun i4 s4=>[(1,.val (.pv (.sl false 2 (a1.map (ah false))))),(2,.val (.pv (.clo a2_id a2_cs))),(15,.val (.pv (.sl false 2 (a0.map (ah false))))),(16,.val (.pv (I (a0.length:Int)))),(17,.val (.pv (I (i4:Int))))]) (fun i4 s4=>[]) (az SC) (fun i4 s4 hi h=>?_) (fun s4 h=>?_)
  ·have w:=wrap_s2 i4
   refine S ?_
   refine aH cs fun cs=>S ?_
   refine run_bk h fun v20 q h=>aA (ah false) q (S ?_)
   refine run_bk h fun v24 q h=>aA (ah false) q (S ?_)
   refine run_bk h fun v29 q h=>aj [false,false] (a2_ok _ _ _ q) (S ?_)
   refine ai cs h (fun cs h=>S ?_) fun cs h=>S ?_
   ·exact RdH.z h
   ·exact am h
  ·refine S ?_
   refine aI cs fun cs=>S ?_
   exact am h
 ·exact am h

theorem impl_EqualTermsN_sat(n:Nat):(∀ (a0:Tt) (a1:Tt) (r:Bool),impl_EqualTermsN n a0 a1=some r→Sat ag 100 [((ah false) a0),((ah false) a1)] (B r)):=by
 induction n with
 | zero=>exact fun _ _ _ h=>by simp[impl_EqualTermsN] at h
 | succ n ih=>
  refine fun a0 a1 r h=>?_
  obtain⟨h,cs⟩:=aq h
  rw[impl_EqualTermsN] at h
  refine ar 17 [.tmp 4] Tryz.func100 (h:=S ?_)
  refine ai cs h (fun cs h=>S ?_) fun cs h=>S ?_
  ·refine run_bk h fun v15 q h=>aj [false,false,false] (slices_EqualFunc_Simpl_Term_Simpl_Term_impl_Term_impl_Term_sat (fun _ _ _ hh=>ih _ _ _ hh) (by simp only[CapsOk_nil,CapsOk_cons]) q) (S ?_)
   exact am h
  ·exact am h
theorem impl_EqualTerms_sat{a0:Tt}{a1:Tt}{r:Bool}(h:impl_EqualTerms a0 a1=some r):Sat ag 100 [((ah false) a0),((ah false) a1)] (B r):=by
 obtain⟨n,hn⟩:=lim_some h
 exact(impl_EqualTermsN_sat n) _ _ _ hn

theorem impl_addAtom_1_sat{a0:Tt}{b0:Tt}  {r:Bool}(h:impl_addAtom_1 a0 b0=some r):Sat ag 99 [((ah false) a0),.ptr ((ah false) b0)] (B r):=by
 obtain⟨h,cs⟩:=aq h
 unfold impl_addAtom_1 at h
 refine ar 7 [.tmp 3] Tryz.func99 (h:=S ?_)
 refine run_bk h fun v6 q h=>aj [false,false] (impl_EqualTerms_sat q) (S ?_)
 exact am h

theorem impl_addAtom_sat{a0:List Tt}{a1:Tt}  {r:List Tt}(h:impl_addAtom a0 a1=some r):Sat ag 60 [(.sl true 2 (a0.map (ah true))),((ah false) a1)] (.sl true 2 (r.map (ah true))):=by
 obtain⟨h,cs⟩:=aq h
 unfold impl_addAtom at h
 refine ar 14 [.tmp 4] Tryz.func60 (h:=S ?_)
 refine MfH.fr (S ?_)
 refine run_bk h fun v7 q h=>aj [false,false] (slices_ContainsFunc_Simpl_Term_impl_Term_sat (fun _ _ hh=>impl_addAtom_1_sat hh) (by simp only[CapsOk_nil,CapsOk_cons]) q) (S ?_)
 refine ai cs h (fun cs h=>S ?_) fun cs h=>S ?_
 ·exact am h
 ·refine run_bk h fun v11 q h=>aj [false] (impl_copyTerm_sat q) (S ?_)
  refine run_bk h fun v13 q h=>AppH.c (ah true) (fun a=>Tt.psize _ a) q (S ?_)
  exact am h

theorem impl_differentAtoms_sat{a0:Ft}  {r:List Tt}(h:impl_differentAtoms a0=some r):Sat ag 29 [((ao false) a0)] (.sl true 2 (r.map (ah true))):=by
 obtain⟨h,cs⟩:=aq h
 unfold impl_differentAtoms at h
 refine ar 19 [.tmp 2] Tryz.func29 (h:=S ?_)
 refine run_bk h fun v8 q h=>aj [false] (impl_atomsOf_sat q) (S ?_)
 refine Mg.know_own (sz:=2) (es:=v8.map (ah false)) 128 SC fun hl128=>?_; rw[aC] at hl128
 refine aJ (run_loop h) (fun i3 s3=>[(3,.val (.own 96)),(8,.val (.own 128)),(9,.val (.pv (I (v8.length:Int)))),(10,.val (.pv (I (i3:Int))))]) (fun i3 s3=>[(96,(2,s3.map (ah true))),(128,(2,v8.map (ah false)))]) (az SC) (fun i3 s3 hi h=>?_) (fun s3 h=>?_)
 ·have w:=wrap_s2 i3
  refine S ?_
  refine aH cs fun cs=>S ?_
  refine run_bk h fun v12 q h=>aA (ah false) q (S ?_)
  refine run_bk h fun v13 q h=>EldH.c (ah false) q (S ?_)
  refine run_bk h fun v16 q h=>aj [true,false] (impl_addAtom_sat q) (S ?_)
  have h:=run_some h
  refine a7 ⟨_,h,?_⟩
  refine St.le_rt 256 96 ?_
  exact az SWx
 ·refine S ?_
  refine aI cs fun cs=>S ?_
  exact am h

theorem impl_indexOfAtom_1_sat{a0:Tt}{b0:Tt}  {r:Bool}(h:impl_indexOfAtom_1 a0 b0=some r):Sat ag 115 [((ah false) a0),.ptr ((ah false) b0)] (B r):=by
 obtain⟨h,cs⟩:=aq h
 unfold impl_indexOfAtom_1 at h
 refine ar 7 [.tmp 3] Tryz.func115 (h:=S ?_)
 refine run_bk h fun v6 q h=>aj [false,false] (impl_EqualTerms_sat q) (S ?_)
 exact am h

theorem impl_indexOfAtom_sat{a0:List Tt}{a1:Tt}  {r:Int}(h:impl_indexOfAtom a0 a1=some r):Sat ag 68 [(.sl false 2 (a0.map (ah false))),((ah false) a1)] (I r):=by
 obtain⟨h,cs⟩:=aq h
 unfold impl_indexOfAtom at h
 refine ar 8 [.tmp 4] Tryz.func68 (h:=S ?_)
 refine MfH.fr (S ?_)
 refine run_bk h fun v7 q h=>aj [false,false] (slices_IndexFunc_Simpl_Term_impl_Term_sat (fun _ _ hh=>impl_indexOfAtom_1_sat hh) (by simp only[CapsOk_nil,CapsOk_cons]) q) (S ?_)
 exact am h

theorem impl_truthOfN_sat(n:Nat):(∀ (a0:Ft) (a1:List Tt) (a2:Int) (r:Bool),impl_truthOfN n a0 a1 a2=some r→Sat ag 34 [((ao false) a0),(.sl false 2 (a1.map (ah false))),(I a2)] (B r)):=by
 induction n with
 | zero=>exact fun _ _ _ _ h=>by simp[impl_truthOfN] at h
 | succ n ih=>
  refine fun a0 a1 a2 r h=>?_
  obtain⟨h,cs⟩:=aq h
  rw[impl_truthOfN] at h
  refine ar 86 [.tmp 6] Tryz.func34 (h:=S ?_)
  refine ai cs h (fun cs h=>S ?_) fun cs h=>S ?_
  rotate_left
  refine ai cs h (fun cs h=>S ?_) fun cs h=>S ?_
  rotate_left
  refine ai cs h (fun cs h=>S ?_) fun cs h=>S ?_
  rotate_left
  refine ai cs h (fun cs h=>S ?_) fun cs h=>S ?_
  refine run_bk h fun v35 q h=>aA (ao false) q (S ?_)
  refine run_bk h fun v39 q h=>aj [false,false,false] (ih _ _ _ _ q) (S ?_)
  refine ai cs h (fun cs h=>S ?_) fun cs h=>S ?_
  rotate_left 2
  refine ai cs h (fun cs h=>S ?_) fun cs h=>S ?_
  refine run_bk h fun v53 q h=>aA (ao false) q (S ?_)
  refine run_bk h fun v57 q h=>aj [false,false,false] (ih _ _ _ _ q) (S ?_)
  refine ai cs h (fun cs h=>S ?_) fun cs h=>S ?_
  rotate_left 2
  refine ai cs h (fun cs h=>S ?_) fun cs h=>S ?_
  refine run_bk h fun v71 q h=>aA (ao false) q (S ?_)
  refine run_bk h fun v75 q h=>aj [false,false,false] (ih _ _ _ _ q) (S ?_)
  refine ai cs h (fun cs h=>S ?_) fun cs h=>S ?_
  ·refine run_bk h fun v80 q h=>aA (ao false) q (S ?_)
   refine run_bk h fun v84 q h=>aj [false,false,false] (ih _ _ _ _ q) (S ?_)
   exact am h
  rotate_left 3
  ·refine run_bk h fun v17 q h=>aj [false,false] (impl_indexOfAtom_sat q) (S ?_)
   refine run_bk h fun v18 q h=>ShrH.mk q (S ?_)
   exact am h
  ·refine run_bk h fun v25 q h=>aA (ao false) q (S ?_)
   refine run_bk h fun v29 q h=>aj [false,false,false] (ih _ _ _ _ q) (S ?_)
   exact am h
  ·refine run_bk h fun v43 q h=>aA (ao false) q (S ?_)
   refine run_bk h fun v47 q h=>aj [false,false,false] (ih _ _ _ _ q) (S ?_)
   exact am h
  rotate_left 2
  ·refine run_bk h fun v61 q h=>aA (ao false) q (S ?_)
   refine run_bk h fun v65 q h=>aj [false,false,false] (ih _ _ _ _ q) (S ?_)
   exact am h
  all_goals
   exact am h
theorem impl_truthOf_sat{a0:Ft}{a1:List Tt}{a2:Int}{r:Bool}(h:impl_truthOf a0 a1 a2=some r):Sat ag 34 [((ao false) a0),(.sl false 2 (a1.map (ah false))),(I a2)] (B r):=by
 obtain⟨n,hn⟩:=lim_some h
 exact(impl_truthOfN_sat n) _ _ _ _ hn

theorem impl_alwaysTrue_sat{a0:Ft}  {r:Bool×Bool}(h:impl_alwaysTrue a0=some r):Sat ag 50 [((ao false) a0)] (.tup [(B r.1),(B r.2)]):=by
 obtain⟨h,cs⟩:=aq h
 unfold impl_alwaysTrue at h
 refine ar 23 [.tmp 2,.tmp 3] Tryz.func50 (h:=S ?_)
 refine run_bk h fun v7 q h=>aj [false] (impl_differentAtoms_sat q) (S ?_)
 refine ai cs h (fun cs h=>S ?_) fun cs h=>S ?_
 ·exact am h
 ·refine run_bk h fun v13 q h=>ShlH.mk q (S ?_)
  obtain⟨N5,hN5,h⟩:=run_bind h
  obtain⟨hN5a,hN5b⟩:=bnd_some hN5
  refine aJ (run_loop h) (fun i5 s5=>[(1,.box (.pv ((ao false) a0))),(4,.val (.own 112)),(13,.val (.pv (I v13))),(14,.val (.pv (I (i5:Int))))]) (fun i5 s5=>[(112,(2,v7.map (ah true)))]) (az SC) (fun i5 s5 hi h=>?_) (fun s5 h=>?_)
  ·have w:=wrap_s2 i5
   refine S ?_
   refine aH cs fun cs=>S ?_
   refine run_bk h fun v20 q h=>aj [false,false,false] (impl_truthOf_sat q) (S ?_)
   refine ai cs h (fun cs h=>S ?_) fun cs h=>S ?_
   ·exact RdH.z h
   ·exact am h
  ·refine S ?_
   refine aI cs fun cs=>S ?_
   exact am h

theorem impl_IsHerbrandProof_sat{a0:Ft}{a1:List (List Tt)}  {r:Bool×Bool}(h:impl_IsHerbrandProof a0 a1=some r):Sat ag 27 [((ao false) a0),(.sl false 1 (a1.map (Lv false 2 (ah false))))] (.tup [(B r.1),(B r.2)]):=by
 obtain⟨h,cs⟩:=aq h
 unfold impl_IsHerbrandProof at h
 refine ar 20 [.tmp 4,.tmp 5] Tryz.func27 (h:=S ?_)
 refine run_bk h fun v11 q h=>aj [false,false] (impl_HerbrandDisjunction_sat q) (S ?_)
 refine ai cs h (fun cs h=>S ?_) fun cs h=>S ?_
 ·refine run_bk h fun v17 q h=>aj [false] (impl_alwaysTrue_sat q) (S ?_)
  exact am h
 ·exact am h

theorem cmp_isNaN_string_sat{a0:ByteArray}  {r:Bool}(h:cmp_isNaN_string a0=some r):Sat ag 113 [(Sx a0)] (B r):=by
 obtain⟨h,cs⟩:=aq h
 unfold cmp_isNaN_string at h
 refine ar 6 [.tmp 2] Tryz.func113 (h:=S ?_)
 exact am h

theorem cmp_Compare_string_sat{a0:ByteArray}{a1:ByteArray}  {r:Int}(h:cmp_Compare_string a0 a1=some r):Sat ag 65 [(Sx a0),(Sx a1)] (I r):=by
 obtain⟨h,cs⟩:=aq h
 unfold cmp_Compare_string at h
 refine ar 20 [.tmp 4] Tryz.func65 (h:=S ?_)
 refine run_bk h fun v8 q h=>aj [false] (cmp_isNaN_string_sat q) (S ?_)
 refine run_bk h fun v10 q h=>aj [false] (cmp_isNaN_string_sat q) (S ?_)
 refine ai cs h (fun cs h=>S ?_) fun cs h=>S ?_
 refine ai cs h (fun cs h=>S ?_) fun cs h=>S ?_
 rotate_left 2
 refine ai cs h (fun cs h=>S ?_) fun cs h=>S ?_
 rotate_left
 refine ai cs h (fun cs h=>S ?_) fun cs h=>S ?_
 rotate_left
 refine ai cs h (fun cs h=>S ?_) fun cs h=>S ?_
 all_goals
  exact am h

theorem cmp_isNaN_int_sat{a0:Int}  {r:Bool}(h:cmp_isNaN_int a0=some r):Sat ag 114 [(I a0)] (B r):=by
 obtain⟨h,cs⟩:=aq h
 unfold cmp_isNaN_int at h
 refine ar 6 [.tmp 2] Tryz.func114 (h:=S ?_)
 exact am h

theorem cmp_Compare_int_sat{a0:Int}{a1:Int}  {r:Int}(h:cmp_Compare_int a0 a1=some r):Sat ag 66 [(I a0),(I a1)] (I r):=by
 obtain⟨h,cs⟩:=aq h
 unfold cmp_Compare_int at h
 refine ar 20 [.tmp 4] Tryz.func66 (h:=S ?_)
 refine run_bk h fun v8 q h=>aj [false] (cmp_isNaN_int_sat q) (S ?_)
 refine run_bk h fun v10 q h=>aj [false] (cmp_isNaN_int_sat q) (S ?_)
 refine ai cs h (fun cs h=>S ?_) fun cs h=>S ?_
 refine ai cs h (fun cs h=>S ?_) fun cs h=>S ?_
 rotate_left 2
 refine ai cs h (fun cs h=>S ?_) fun cs h=>S ?_
 rotate_left
 refine ai cs h (fun cs h=>S ?_) fun cs h=>S ?_
 rotate_left
 refine ai cs h (fun cs h=>S ?_) fun cs h=>S ?_
 all_goals
  exact am h

theorem cmp_Or_int_sat{a0:List Int}  {r:Int}(h:cmp_Or_int a0=some r):Sat ag 64 [(.sl false 1 (a0.map I))] (I r):=by
 obtain⟨h,cs⟩:=aq h
 unfold cmp_Or_int at h
 refine ar 18 [.tmp 2] Tryz.func64 (h:=S ?_)
 refine aN (b:=false) (sz:=1) (es:=a0.map I) 0 SC fun hl0=>?_; rw[aC] at hl0
 refine aJ (run_loop h) (fun i3 s3=>[(3,.val (.pv (I 0))),(6,.val (.pv (.sl false 1 (a0.map I)))),(7,.val (.pv (I (a0.length:Int)))),(8,.val (.pv (I (i3:Int))))]) (fun i3 s3=>[]) (az SC) (fun i3 s3 hi h=>?_) (fun s3 h=>?_)
 ·have w:=wrap_s2 i3
  refine S ?_
  refine aH cs fun cs=>S ?_
  refine run_bk h fun v10 q h=>aA I q (S ?_)
  refine ai cs h (fun cs h=>S ?_) fun cs h=>S ?_
  ·exact RdH.z h
  ·exact am h
 ·refine S ?_
  refine aI cs fun cs=>S ?_
  exact am h

theorem slices_CompareFunc_Simpl_Term_Simpl_Term_impl_Term_impl_Term_sat{a0:List Tt}{a1:List Tt}{a2:Tt→Tt→Option Int}{a2_id:FuncId}{a2_cs:List PV}(a2_ok:∀ y0 y1 r,a2 y0 y1=some r→Sat ag a2_id (((ah false) y0)::((ah false) y1)::a2_cs) (I r))(a2_cz:CapsOk a2_cs=True){r:Int}(h:slices_CompareFunc_Simpl_Term_Simpl_Term_impl_Term_impl_Term a0 a1 a2=some r):Sat ag 67 [(.sl false 2 (a0.map (ah false))),(.sl false 2 (a1.map (ah false))),.clo a2_id a2_cs] (I r):=by
 obtain⟨h,cs⟩:=aq h
 unfold slices_CompareFunc_Simpl_Term_Simpl_Term_impl_Term_impl_Term at h
 have cs:=ae a2_cz cs
 refine ar 39 [.tmp 6] Tryz.func67 (h:=S ?_)
 refine aN (b:=false) (sz:=2) (es:=a0.map (ah false)) 0 SC fun hl0=>?_; rw[aC] at hl0
 refine aJ (run_loop h) (fun i2 s2=>[(0,.val (.pv (.sl false 2 (a0.map (ah false))))),(1,.val (.pv (.sl false 2 (a1.map (ah false))))),(2,.val (.pv (.clo a2_id a2_cs))),(11,.val (.pv (.sl false 2 (a0.map (ah false))))),(12,.val (.pv (I (a0.length:Int)))),(13,.val (.pv (I (i2:Int))))]) (fun i2 s2=>[]) (az SC) (fun i2 s2 hi h=>?_) (fun s2 h=>?_)
 ·have w:=wrap_s2 i2
  refine S ?_
  refine aH cs fun cs=>S ?_
  refine run_bk h fun v16 q h=>aA (ah false) q (S ?_)
  refine ai cs h (fun cs h=>S ?_) fun cs h=>S ?_
  ·exact am h
  ·refine run_bk h fun v24 q h=>aA (ah false) q (S ?_)
   refine run_bk h fun v29 q h=>aj [false,false] (a2_ok _ _ _ q) (S ?_)
   refine ai cs h (fun cs h=>S ?_) fun cs h=>S ?_
   ·exact RdH.z h
   ·exact am h
 ·refine S ?_
  refine aI cs fun cs=>S ?_
  refine ai cs h (fun cs h=>S ?_) fun cs h=>S ?_
  ·exact am h
  ·exact am h

theorem impl_compareTermsN_sat(n:Nat):(∀ (a0:Tt) (a1:Tt) (r:Int),impl_compareTermsN n a0 a1=some r→Sat ag 31 [((ah false) a0),((ah false) a1)] (I r)):=by
 induction n with
 | zero=>exact fun _ _ _ h=>by simp[impl_compareTermsN] at h
 | succ n ih=>
  refine fun a0 a1 r h=>?_
  obtain⟨h,cs⟩:=aq h
  rw[impl_compareTermsN] at h
  refine ar 46 [.tmp 4] Tryz.func31 (h:=S ?_)
  refine run_bk h fun v9 q h=>aj [false] (impl_isVar_sat q) (S ?_)
  refine run_bk h fun v11 q h=>aj [false] (impl_isVar_sat q) (S ?_)
  refine ae (aO [] []) (S ?_)
  refine ai cs h (fun cs h=>S ?_) fun cs h=>S ?_
  refine ai cs h (fun cs h=>S ?_) fun cs h=>S ?_
  refine run_bk h fun v28 q h=>aj [false,false] (cmp_Compare_string_sat q) (S ?_)
  refine run_bk h fun v35 q h=>aj [false,false] (cmp_Compare_int_sat q) (S ?_)
  refine run_bk h fun v37 q h=>aj [false] (cmp_Or_int_sat q) (S ?_)
  refine ae (aO [] [576]) (S ?_)
  refine ai cs h (fun cs h=>S ?_) fun cs h=>S ?_
  rotate_left 3
  refine ai cs h (fun cs h=>S ?_) fun cs h=>S ?_
  rotate_left
  refine run_bk h fun v28 q h=>aj [false,false] (cmp_Compare_string_sat q) (S ?_)
  refine run_bk h fun v35 q h=>aj [false,false] (cmp_Compare_int_sat q) (S ?_)
  refine run_bk h fun v37 q h=>aj [false] (cmp_Or_int_sat q) (S ?_)
  refine ae (aO [] [576]) (S ?_)
  refine ai cs h (fun cs h=>S ?_) fun cs h=>S ?_
  rotate_left
  ·exact am h
  rotate_left
  ·exact am h
  ·exact am h
  ·exact am h
  all_goals
   refine run_bk h fun v45 q h=>aj [false,false,false] (slices_CompareFunc_Simpl_Term_Simpl_Term_impl_Term_impl_Term_sat (fun _ _ _ hh=>ih _ _ _ hh) (by simp only[CapsOk_nil,CapsOk_cons]) q) (S ?_)
   exact am h
theorem impl_compareTerms_sat{a0:Tt}{a1:Tt}{r:Int}(h:impl_compareTerms a0 a1=some r):Sat ag 31 [((ah false) a0),((ah false) a1)] (I r):=by
 obtain⟨n,hn⟩:=lim_some h
 exact(impl_compareTermsN_sat n) _ _ _ hn

theorem slices_SortFuncT_sat{a0:List Tt}{r:Unit×List Tt}(h:slices_SortFuncT a0=some r):SatIO ag 30 [.sl true 2 (a0.map (ah true)),.clo 31 []] [.sl true 2 (r.2.map (ah true)),.clo 31 []] (.tup []):=sortT_sat (fun h=>impl_compareTerms_sat h) h

theorem impl_WitnessTable_1_sat{a0:Ft}{b0:List Tt}{b1:Int}  {r:Bool}(h:impl_WitnessTable_1 a0 b0 b1=some r):Sat ag 33 [((ao false) a0),.ptr (.sl false 2 (b0.map (ah false))),.ptr (I b1)] (B r):=by
 obtain⟨h,cs⟩:=aq h
 unfold impl_WitnessTable_1 at h
 refine ar 9 [.tmp 4] Tryz.func33 (h:=S ?_)
 refine run_bk h fun v8 q h=>aj [false,false,false] (impl_truthOf_sat q) (S ?_)
 exact am h

theorem impl_WitnessTable_sat{a0:Ft}{a1:List (List Tt)}  {r:(List Int)×Bool}(h:impl_WitnessTable a0 a1=some r):Sat ag 9 [((ao false) a0),(.sl false 1 (a1.map (Lv false 2 (ah false))))] (.tup [(.sl true 1 (r.1.map I)),(B r.2)]):=by
 obtain⟨h,cs⟩:=aq h
 unfold impl_WitnessTable at h
 refine ar 77 [.tmp 4,.tmp 5] Tryz.func9 (h:=S ?_)
 refine run_bk h fun v21 q h=>aj [false,false] (impl_IsHerbrandProof_sat q) (S ?_)
 refine ai cs h (fun cs h=>S ?_) fun cs h=>S ?_
 refine ai cs h (fun cs h=>S ?_) fun cs h=>S ?_
 refine run_bk h fun v33 q h=>aj [false,false] (impl_HerbrandDisjunction_sat q) (S ?_)
 refine run_bk h fun v37 q h=>aj [false] (impl_differentAtoms_sat q) (S ?_)
 refine ai cs h (fun cs h=>S ?_) fun cs h=>S ?_
 rotate_left
 ·obtain⟨v42,hv42,h⟩:=run_bind h
  refine CallH.io0 [(.own 592),(.pv (.clo 31 []))] [(592,(2,v42.2.map (ah true)))] (slices_SortFuncT_sat hv42) SC (S ?_)
  refine aN (b:=false) (sz:=1) (es:=a1.map (Lv false 2 (ah false))) 1 SC fun hl1=>?_; rw[aC] at hl1
  refine aJ (run_loop h) (fun i11 s11=>[(2,.box (.pv ((ao false) a0))),(10,.box (.own 592)),(11,.val (.own 688)),(44,.val (.pv (.sl false 1 (a1.map (Lv false 2 (ah false)))))),(45,.val (.pv (I (a1.length:Int)))),(46,.val (.pv (I (i11:Int))))]) (fun i11 s11=>[(592,(2,v42.2.map (ah true))),(688,(5,s11.map (ao false)))]) (az SC) (fun i11 s11 hi h=>?_) (fun s11 h=>?_)
  ·have w:=wrap_s2 i11
   refine S ?_
   refine aH cs fun cs=>S ?_
   refine run_bk h fun v48 q h=>IdxH.mk (f:=(Lv false 2 (ah false))) q SC (S ?_)
   refine run_bk h fun v54 q h=>aj [false,true] (Sat.give (args:=[((ao false) a0),(.sl true 1 (([v48]).map (Lv false 2 (ah false))))]) [false,true] (by have gg:=impl_HerbrandDisjunction_sat q; simp only[gv_t,gv_f,gv_n,view_sl,view_agg,view_lit,views_repB,views_repI,PV.views,RB,RS] at gg ⊢; exact gg)) (S ?_)
   refine run_bk h fun v60 q h=>AppH.c (ao false) (fun a=>Ft.psize _ a) q (S ?_)
   have h:=run_some h
   refine a7 ⟨_,h,?_⟩
   refine St.le_rt 960 688 ?_
   exact az SWx
  ·refine S ?_
   refine aI cs fun cs=>S ?_
   refine run_bk h fun v65 q h=>ShlH.mk q (S ?_)
   obtain⟨N18,hN18,h⟩:=run_bind h
   obtain⟨hN18a,hN18b⟩:=bnd_some hN18
   refine aJ (run_loop h) (fun i18 s18=>[(10,.val (.pv (.ptr (.sl false 2 (v42.2.map (ah false)))))),(11,.val (.own 688)),(16,.val (.own 992)),(65,.val (.pv (I v65))),(66,.val (.pv (I (i18:Int))))]) (fun i18 s18=>[(688,(5,s11.map (ao false))),(992,(1,s18.map I))]) (St.le_trans (St.le_demB (x:=(.own 592)) (sz:=(2)) (es:=v42.2.map (ah true)) 10 [] 592 SC) (St.le_trans (St.le_frz (x:=(.pv (.sl false 2 (v42.2.map (ah false))))) 10 SC) (az SC))) (fun i18 s18 hi h=>?_) (fun s18 h=>?_)
   ·have w:=wrap_s2 i18
    refine S ?_
    refine aH cs fun cs=>S ?_
    refine MfH.fr (S ?_)
    refine run_bk h fun v72 q h=>aj [false,false] (slices_IndexFunc_Simpl_Formula_impl_Formula_sat (fun _ _ hh=>impl_WitnessTable_1_sat hh) (by simp only[CapsOk_nil,CapsOk_cons]) q) (S ?_)
    refine run_bk h fun v74 q h=>AppH.c I (fun _=>rfl) q (S ?_)
    have h:=run_some h
    refine a7 ⟨_,h,?_⟩
    refine St.le_rt 1184 992 ?_
    exact az SWx
   ·refine S ?_
    refine aI cs fun cs=>S ?_
    exact am h
 all_goals
  exact am h

theorem eqIntS_sat{a0:List Int}{a1:List Int}  {r:Bool}(h:eqIntS a0 a1=some r):Sat ag 10 [(.sl false 1 (a0.map I)),(.sl false 1 (a1.map I))] (B r):=by
 obtain⟨h,cs⟩:=aq h
 unfold eqIntS at h
 refine ar 26 [.tmp 4] Tryz.func10 (h:=S ?_)
 refine ai cs h (fun cs h=>S ?_) fun cs h=>S ?_
 ·refine aN (b:=false) (sz:=1) (es:=a0.map I) 0 SC fun hl0=>?_; rw[aC] at hl0
  refine aJ (run_loop h) (fun i4 s4=>[(0,.val (.pv (.sl false 1 (a0.map I)))),(1,.val (.pv (.sl false 1 (a1.map I)))),(5,.val (.pv (I (i4:Int))))]) (fun i4 s4=>[]) (az SC) (fun i4 s4 hi h=>?_) (fun s4 h=>?_)
  ·have w:=wrap_s2 i4
   refine S ?_
   refine aH cs fun cs=>S ?_
   refine run_bk h fun v19 q h=>aA I q (S ?_)
   refine run_bk h fun v23 q h=>aA I q (S ?_)
   refine ae (aO [] []) (S ?_)
   refine ai cs h (fun cs h=>S ?_) fun cs h=>S ?_
   ·exact RdH.z h
   ·exact am h
  ·refine S ?_
   refine aI cs fun cs=>S ?_
   exact am h
 ·exact am h

theorem eqTermN_sat(n:Nat):(∀ (a0:Tt) (a1:Tt) (r:Bool),eqTermN n a0 a1=some r→Sat ag 35 [((ah false) a0),((ah false) a1)] (B r))∧(∀ (a0:List Tt) (a1:List Tt) (r:Bool),eqTermSN n a0 a1=some r→Sat ag 37 [(.sl false 2 (a0.map (ah false))),(.sl false 2 (a1.map (ah false)))] (B r)):=by
 induction n with
 | zero=>exact⟨fun _ _ _ h=>by simp[eqTermN] at h,fun _ _ _ h=>by simp[eqTermSN] at h⟩
 | succ n ih=>
  refine⟨fun a0 a1 r h=>?_,fun a0 a1 r h=>?_⟩
  ·obtain⟨h,cs⟩:=aq h
   rw[eqTermN] at h
   refine ar 16 [.tmp 4] Tryz.func35 (h:=S ?_)
   refine ai cs h (fun cs h=>S ?_) fun cs h=>S ?_
   refine run_bk h fun v14 q h=>aj [false,false] (ih.2 _ _ _ q) (S ?_)
   refine ai cs h (fun cs h=>S ?_) fun cs h=>S ?_
   all_goals
    exact am h
  ·obtain⟨h,cs⟩:=aq h
   rw[eqTermSN] at h
   refine ar 27 [.tmp 4] Tryz.func37 (h:=S ?_)
   refine ai cs h (fun cs h=>S ?_) fun cs h=>S ?_
   ·refine aN (b:=false) (sz:=2) (es:=a0.map (ah false)) 0 SC fun hl0=>?_; rw[aC] at hl0
    refine aJ (run_loop h) (fun i4 s4=>[(0,.val (.pv (.sl false 2 (a0.map (ah false))))),(1,.val (.pv (.sl false 2 (a1.map (ah false))))),(5,.val (.pv (I (i4:Int))))]) (fun i4 s4=>[]) (az SC) (fun i4 s4 hi h=>?_) (fun s4 h=>?_)
    ·have w:=wrap_s2 i4
     refine S ?_
     refine aH cs fun cs=>S ?_
     refine run_bk h fun v19 q h=>aA (ah false) q (S ?_)
     refine run_bk h fun v23 q h=>aA (ah false) q (S ?_)
     refine run_bk h fun v25 q h=>aj [false,false] (ih.1 _ _ _ q) (S ?_)
     refine ae (aO [] []) (S ?_)
     refine ai cs h (fun cs h=>S ?_) fun cs h=>S ?_
     ·exact RdH.z h
     ·exact am h
    ·refine S ?_
     refine aI cs fun cs=>S ?_
     exact am h
   ·exact am h
theorem eqTerm_sat{a0:Tt}{a1:Tt}{r:Bool}(h:eqTerm a0 a1=some r):Sat ag 35 [((ah false) a0),((ah false) a1)] (B r):=by
 obtain⟨n,hn⟩:=lim_some h
 exact(eqTermN_sat n).1 _ _ _ hn
theorem eqTermS_sat{a0:List Tt}{a1:List Tt}{r:Bool}(h:eqTermS a0 a1=some r):Sat ag 37 [(.sl false 2 (a0.map (ah false))),(.sl false 2 (a1.map (ah false)))] (B r):=by
 obtain⟨n,hn⟩:=lim_some h
 exact(eqTermN_sat n).2 _ _ _ hn

theorem eqFormulaN_sat(n:Nat):(∀ (a0:Ft) (a1:Ft) (r:Bool),eqFormulaN n a0 a1=some r→Sat ag 11 [((ao false) a0),((ao false) a1)] (B r))∧(∀ (a0:List Ft) (a1:List Ft) (r:Bool),eqFormulaSN n a0 a1=some r→Sat ag 36 [(.sl false 5 (a0.map (ao false))),(.sl false 5 (a1.map (ao false)))] (B r)):=by
 induction n with
 | zero=>exact⟨fun _ _ _ h=>by simp[eqFormulaN] at h,fun _ _ _ h=>by simp[eqFormulaSN] at h⟩
 | succ n ih=>
  refine⟨fun a0 a1 r h=>?_,fun a0 a1 r h=>?_⟩
  ·obtain⟨h,cs⟩:=aq h
   rw[eqFormulaN] at h
   refine ar 27 [.tmp 4] Tryz.func11 (h:=S ?_)
   refine ai cs h (fun cs h=>S ?_) fun cs h=>S ?_
   refine run_bk h fun v14 q h=>aj [false,false] (eqTerm_sat q) (S ?_)
   refine ai cs h (fun cs h=>S ?_) fun cs h=>S ?_
   refine ai cs h (fun cs h=>S ?_) fun cs h=>S ?_
   refine run_bk h fun v25 q h=>aj [false,false] (ih.2 _ _ _ q) (S ?_)
   refine ai cs h (fun cs h=>S ?_) fun cs h=>S ?_
   all_goals
    exact am h
  ·obtain⟨h,cs⟩:=aq h
   rw[eqFormulaSN] at h
   refine ar 27 [.tmp 4] Tryz.func36 (h:=S ?_)
   refine ai cs h (fun cs h=>S ?_) fun cs h=>S ?_
   ·refine aN (b:=false) (sz:=5) (es:=a0.map (ao false)) 0 SC fun hl0=>?_; rw[aC] at hl0
    refine aJ (run_loop h) (fun i4 s4=>[(0,.val (.pv (.sl false 5 (a0.map (ao false))))),(1,.val (.pv (.sl false 5 (a1.map (ao false))))),(5,.val (.pv (I (i4:Int))))]) (fun i4 s4=>[]) (az SC) (fun i4 s4 hi h=>?_) (fun s4 h=>?_)
    ·have w:=wrap_s2 i4
     refine S ?_
     refine aH cs fun cs=>S ?_
     refine run_bk h fun v19 q h=>aA (ao false) q (S ?_)
     refine run_bk h fun v23 q h=>aA (ao false) q (S ?_)
     refine run_bk h fun v25 q h=>aj [false,false] (ih.1 _ _ _ q) (S ?_)
     refine ae (aO [] []) (S ?_)
     refine ai cs h (fun cs h=>S ?_) fun cs h=>S ?_
     ·exact RdH.z h
     ·exact am h
    ·refine S ?_
     refine aI cs fun cs=>S ?_
     exact am h
   ·exact am h
theorem eqFormula_sat{a0:Ft}{a1:Ft}{r:Bool}(h:eqFormula a0 a1=some r):Sat ag 11 [((ao false) a0),((ao false) a1)] (B r):=by
 obtain⟨n,hn⟩:=lim_some h
 exact(eqFormulaN_sat n).1 _ _ _ hn
theorem eqFormulaS_sat{a0:List Ft}{a1:List Ft}{r:Bool}(h:eqFormulaS a0 a1=some r):Sat ag 36 [(.sl false 5 (a0.map (ao false))),(.sl false 5 (a1.map (ao false)))] (B r):=by
 obtain⟨n,hn⟩:=lim_some h
 exact(eqFormulaN_sat n).2 _ _ _ hn

theorem eqTermSS_sat{a0:List (List Tt)}{a1:List (List Tt)}  {r:Bool}(h:eqTermSS a0 a1=some r):Sat ag 12 [(.sl false 1 (a0.map (Lv false 2 (ah false)))),(.sl false 1 (a1.map (Lv false 2 (ah false))))] (B r):=by
 obtain⟨h,cs⟩:=aq h
 unfold eqTermSS at h
 refine ar 27 [.tmp 4] Tryz.func12 (h:=S ?_)
 refine ai cs h (fun cs h=>S ?_) fun cs h=>S ?_
 ·refine aN (b:=false) (sz:=1) (es:=a0.map (Lv false 2 (ah false))) 0 SC fun hl0=>?_; rw[aC] at hl0
  refine aJ (run_loop h) (fun i4 s4=>[(0,.val (.pv (.sl false 1 (a0.map (Lv false 2 (ah false)))))),(1,.val (.pv (.sl false 1 (a1.map (Lv false 2 (ah false)))))),(5,.val (.pv (I (i4:Int))))]) (fun i4 s4=>[]) (az SC) (fun i4 s4 hi h=>?_) (fun s4 h=>?_)
  ·have w:=wrap_s2 i4
   refine S ?_
   refine aH cs fun cs=>S ?_
   refine run_bk h fun v19 q h=>IdxH.mk (f:=(Lv false 2 (ah false))) q SC (S ?_)
   refine run_bk h fun v23 q h=>IdxH.mk (f:=(Lv false 2 (ah false))) q SC (S ?_)
   refine run_bk h fun v25 q h=>aj [false,false] (eqTermS_sat q) (S ?_)
   refine ae (aO [] []) (S ?_)
   refine ai cs h (fun cs h=>S ?_) fun cs h=>S ?_
   ·exact RdH.z h
   ·exact am h
  ·refine S ?_
   refine aI cs fun cs=>S ?_
   exact am h
 ·exact am h

theorem markText_sat{a0:Int}  {r:ByteArray}(h:markText a0=some r):Sat ag 69 [(I a0)] (Sx r):=by
 obtain⟨h,cs⟩:=aq h
 unfold markText at h
 refine ar 20 [.tmp 2] Tryz.func69 (h:=S ?_)
 refine ai cs h (fun cs h=>S ?_) fun cs h=>S ?_
 ·exact am h
 ·replace h:=run_loop h
  refine Mg.whileN h (fun s4=>[(0,.val (.pv (I s4.1))),(3,.val (.pv (Sx s4.2)))]) (fun s4=>[]) (az SC) (fun n4 s4 h=>?_)
  refine S ?_
  refine ai cs h (fun cs h=>S ?_) fun cs h=>S ?_
  ·refine run_bk h fun v9 q h=>remH.mk q (S ?_)
   refine run_bk h fun v13 q h=>BstrH.mk q SC (S ?_)
   refine run_bk h fun v15 q h=>SappH.mk q (S ?_)
   refine run_bk h fun v17 q h=>quoH.mk q (S ?_)
   have h:=run_some h
   refine a7 ⟨_,h,?_⟩
   exact az SC
  ·have h:=run_some h
   refine run_bk h fun v19 q h=>SappH.mk q (S ?_)
   exact am h

theorem markTermSN_sat(n:Nat):(∀ (a0:List Tt) (a1:Int) (r:Int×(List Tt)),markTermSN n a0 a1=some r→SatIO ag 40 [(.sl true 2 (a0.map (ah true))),(I a1)] [(.sl true 2 (r.2.map (ah true))),(I a1)] (I r.1)):=by
 induction n with
 | zero=>exact fun _ _ _ h=>by simp[markTermSN] at h
 | succ n ih=>
  refine fun a0 a1 r h=>?_
  obtain⟨h,cs⟩:=aq h
  rw[markTermSN] at h
  refine SatIO.of_mi (nt:=28) (rs:=[.tmp 4]) (n:=100000) Tryz.func40 rfl rfl rfl rfl (by simp) (S ?_)
  refine aE (S ?_)
  refine bh (Nat.le_of_eq rfl) (S ?_)
  refine aE (S ?_)
  refine bh (Nat.le_of_eq rfl) (S ?_)
  replace h:=run_loop h
  refine MgI.whileN h (fun s2=>[(0,.val (.own 10000)),(1,.val (.pv (I s2.2.1))),(5,.val (.pv (I s2.2.2)))]) (fun s2=>[(10000,(2,s2.1.map (ah true)))]) (az SC) (fun n2 s2 h=>?_)
  refine S ?_
  refine aE (S ?_)
  refine aE (S ?_)
  refine aE (S ?_)
  refine aE (S ?_)
  refine bh (Nat.le_of_eq rfl) (S ?_)
  refine ai cs h (fun cs h=>S ?_) fun cs h=>S ?_
  ·refine aE (S ?_)
   refine aE (S ?_)
   refine aE (S ?_)
   refine aE (S ?_)
   refine run_bk h fun v15 q h=>aj [false] (markText_sat q) (S ?_)
   refine aE (S ?_)
   refine run_bk h fun v16 q h=>aA (ah true) q (S ?_)
   refine aE (S ?_)
   refine aE (S ?_)
   refine run_bk h fun w2 q h=>EldH.c (ah true) q (S ?_)
   refine bh (Nat.le_of_eq rfl) (S ?_)
   refine aE (S ?_)
   refine aE (S ?_)
   refine aE (S ?_)
   refine bh (Nat.le_of_eq rfl) (S ?_)
   refine aE (S ?_)
   refine aE (S ?_)
   refine aE (S ?_)
   refine run_bk h fun v22 q h=>aA (ah true) q (S ?_)
   refine aE (S ?_)
   obtain⟨w3,hw3,h⟩:=run_bind h
   obtain⟨v26,hv26,h⟩:=run_bind h
   refine VSeq.innerM (fx:=(ah true)) (c:=10000) (sz:=2) (p:=[1]) (off:=1) (h1:=rfl) (h3:=rfl) (h2:=rfl) rfl rfl rfl rfl rfl rfl rfl rfl rfl hw3 (ih _ _ _ hv26) SC SC (S ?_)
   refine aE (S ?_)
   refine bh (Nat.le_of_eq rfl) (S ?_)
   refine aE (S ?_)
   refine aE (S ?_)
   refine aE (S ?_)
   refine bh (Nat.le_of_eq rfl) (S ?_)
   have h:=run_some h
   refine a7 ⟨_,h,?_⟩
   exact az SC
  ·have h:=run_some h
   refine aE (S ?_)
   refine aE (S ?_)
   refine bh (Nat.le_of_eq rfl) (S ?_)
   cases run_some h
   exact FinIO.mk SC
theorem markTermS_sat{a0:List Tt}{a1:Int}{r:Int×(List Tt)}(h:markTermS a0 a1=some r):SatIO ag 40 [(.sl true 2 (a0.map (ah true))),(I a1)] [(.sl true 2 (r.2.map (ah true))),(I a1)] (I r.1):=by
 obtain⟨n,hn⟩:=lim_some h
 exact(markTermSN_sat n) _ _ _ hn

theorem markTerm_sat{a0:Tt}{a1:Int}  {r:Int×(List Tt)}(h:markTerm a0 a1=some r):SatIO ag 38 [((ah true) a0),(I a1)] [((ah true) (Tt.mk a0.Name r.2)),(I a1)] (I r.1):=by
 obtain⟨h,cs⟩:=aq h
 unfold markTerm at h
 refine SatIO.of_m (nt:=10) (rs:=[.tmp 4]) (n:=100000) Tryz.func38 rfl rfl rfl rfl (by simp) (S ?_)
 obtain⟨v8,hv8,h⟩:=run_bind h
 refine CallH.io [(.own 10000),(.pv (I a1))] [(10000,(2,v8.2.map (ah true)))] (markTermS_sat hv8) SC (S ?_)
 cases run_some h
 exact FinIO.mk SC

theorem markFormulaSN_sat(n:Nat):(∀ (a0:List Ft) (a1:Int) (r:Int×(List Ft)),markFormulaSN n a0 a1=some r→SatIO ag 39 [(.sl true 5 (a0.map (ao true))),(I a1)] [(.sl true 5 (r.2.map (ao true))),(I a1)] (I r.1)):=by
 induction n with
 | zero=>exact fun _ _ _ h=>by simp[markFormulaSN] at h
 | succ n ih=>
  refine fun a0 a1 r h=>?_
  obtain⟨h,cs⟩:=aq h
  rw[markFormulaSN] at h
  refine SatIO.of_mi (nt:=52) (rs:=[.tmp 4]) (n:=100000) Tryz.func39 rfl rfl rfl rfl (by simp) (S ?_)
  refine aE (S ?_)
  refine bh (Nat.le_of_eq rfl) (S ?_)
  refine aE (S ?_)
  refine bh (Nat.le_of_eq rfl) (S ?_)
  replace h:=run_loop h
  refine MgI.whileN h (fun s2=>[(0,.val (.own 10000)),(1,.val (.pv (I s2.2.1))),(5,.val (.pv (I s2.2.2)))]) (fun s2=>[(10000,(5,s2.1.map (ao true)))]) (az SC) (fun n2 s2 h=>?_)
  refine S ?_
  refine aE (S ?_)
  refine aE (S ?_)
  refine aE (S ?_)
  refine aE (S ?_)
  refine bh (Nat.le_of_eq rfl) (S ?_)
  refine ai cs h (fun cs h=>S ?_) fun cs h=>S ?_
  ·refine aE (S ?_)
   refine aE (S ?_)
   refine aE (S ?_)
   refine aE (S ?_)
   refine run_bk h fun v15 q h=>aA (ao true) q (S ?_)
   refine aE (S ?_)
   refine aE (S ?_)
   refine run_bk h fun w2 q h=>EldH.c (ao true) q (S ?_)
   refine bh (Nat.le_of_eq rfl) (S ?_)
   refine aE (S ?_)
   refine aE (S ?_)
   refine aE (S ?_)
   refine bh (Nat.le_of_eq rfl) (S ?_)
   refine aE (S ?_)
   refine aE (S ?_)
   refine aE (S ?_)
   refine aE (S ?_)
   refine run_bk h fun v22 q h=>aj [false] (markText_sat q) (S ?_)
   refine aE (S ?_)
   refine run_bk h fun v23 q h=>aA (ao true) q (S ?_)
   refine aE (S ?_)
   refine aE (S ?_)
   refine aE (S ?_)
   refine run_bk h fun w3 q h=>EldH.c (ao true) q (S ?_)
   refine bh (Nat.le_of_eq rfl) (S ?_)
   refine aE (S ?_)
   refine aE (S ?_)
   refine aE (S ?_)
   refine bh (Nat.le_of_eq rfl) (S ?_)
   refine aE (S ?_)
   refine aE (S ?_)
   refine aE (S ?_)
   refine run_bk h fun v30 q h=>aA (ao true) q (S ?_)
   refine aE (S ?_)
   refine aE (S ?_)
   obtain⟨w4,hw4,h⟩:=run_bind h
   obtain⟨v35,hv35,h⟩:=run_bind h
   refine VSeq.innerM (fx:=(ao true)) (c:=10000) (sz:=5) (p:=[1,1]) (off:=2) (h1:=rfl) (h3:=rfl) (h2:=rfl) rfl rfl rfl rfl rfl rfl rfl rfl rfl hw4 (markTermS_sat hv35) SC SC (S ?_)
   refine aE (S ?_)
   refine bh (Nat.le_of_eq rfl) (S ?_)
   refine aE (S ?_)
   refine aE (S ?_)
   refine aE (S ?_)
   refine aE (S ?_)
   refine run_bk h fun v39 q h=>aj [false] (markText_sat q) (S ?_)
   refine aE (S ?_)
   refine run_bk h fun v40 q h=>aA (ao true) q (S ?_)
   refine aE (S ?_)
   refine aE (S ?_)
   refine run_bk h fun w5 q h=>EldH.c (ao true) q (S ?_)
   refine bh (Nat.le_of_eq rfl) (S ?_)
   refine aE (S ?_)
   refine aE (S ?_)
   refine aE (S ?_)
   refine bh (Nat.le_of_eq rfl) (S ?_)
   refine aE (S ?_)
   refine aE (S ?_)
   refine aE (S ?_)
   refine run_bk h fun v46 q h=>aA (ao true) q (S ?_)
   refine aE (S ?_)
   obtain⟨w6,hw6,h⟩:=run_bind h
   obtain⟨v50,hv50,h⟩:=run_bind h
   refine VSeq.innerM (fx:=(ao true)) (c:=10000) (sz:=5) (p:=[3]) (off:=4) (h1:=rfl) (h3:=rfl) (h2:=rfl) rfl rfl rfl rfl rfl rfl rfl rfl rfl hw6 (ih _ _ _ hv50) SC SC (S ?_)
   refine aE (S ?_)
   refine bh (Nat.le_of_eq rfl) (S ?_)
   refine aE (S ?_)
   refine aE (S ?_)
   refine aE (S ?_)
   refine bh (Nat.le_of_eq rfl) (S ?_)
   have h:=run_some h
   refine a7 ⟨_,h,?_⟩
   exact az SC
  ·have h:=run_some h
   refine aE (S ?_)
   refine aE (S ?_)
   refine bh (Nat.le_of_eq rfl) (S ?_)
   cases run_some h
   exact FinIO.mk SC
theorem markFormulaS_sat{a0:List Ft}{a1:Int}{r:Int×(List Ft)}(h:markFormulaS a0 a1=some r):SatIO ag 39 [(.sl true 5 (a0.map (ao true))),(I a1)] [(.sl true 5 (r.2.map (ao true))),(I a1)] (I r.1):=by
 obtain⟨n,hn⟩:=lim_some h
 exact(markFormulaSN_sat n) _ _ _ hn

theorem markFormula_sat{a0:Ft}{a1:Int}  {r:Int×(List Tt)×(List Ft)}(h:markFormula a0 a1=some r):SatIO ag 13 [((ao true) a0),(I a1)] [((ao true) (Ft.mk a0.Op (Tt.mk a0.Atom.Name r.2.1) a0.Var r.2.2)),(I a1)] (I r.1):=by
 obtain⟨h,cs⟩:=aq h
 unfold markFormula at h
 refine SatIO.of_m (nt:=14) (rs:=[.tmp 4]) (n:=100000) Tryz.func13 rfl rfl rfl rfl (by simp) (S ?_)
 obtain⟨v8,hv8,h⟩:=run_bind h
 refine CallH.io [(.node [(.pv (Sx a0.Atom.Name)),(.own 10000)]),(.pv (I a1))] [(10000,(2,v8.2.map (ah true)))] (markTerm_sat hv8) SC (S ?_)
 obtain⟨v12,hv12,h⟩:=run_bind h
 refine CallH.io [(.own 10001),(.pv (I v8.1))] [(10001,(5,v12.2.map (ao true)))] (markFormulaS_sat hv12) SC (S ?_)
 cases run_some h
 exact FinIO.mk SC

theorem markTermSS_sat{a0:List (List Tt)}{a1:Int}  {r:Int×(List (List Tt))}(h:markTermSS a0 a1=some r):SatIO ag 14 [(.sl true 1 (a0.map (Lv true 2 (ah true)))),(I a1)] [(.sl true 1 (r.2.map (Lv true 2 (ah true)))),(I a1)] (I r.1):=by
 obtain⟨h,cs⟩:=aq h
 unfold markTermSS at h
 refine SatIO.of_mi (nt:=19) (rs:=[.tmp 4]) (n:=100000) Tryz.func14 rfl rfl rfl rfl (by simp) (S ?_)
 refine aE (S ?_)
 refine bh (Nat.le_of_eq rfl) (S ?_)
 refine aE (S ?_)
 refine bh (Nat.le_of_eq rfl) (S ?_)
 replace h:=run_loop h
 refine MgI.whileN h (fun s2=>[(0,.val (.own 10000)),(1,.val (.pv (I s2.2.1))),(5,.val (.pv (I s2.2.2)))]) (fun s2=>[(10000,(1,s2.1.map (Lv true 2 (ah true))))]) (az SC) (fun n2 s2 h=>?_)
 refine S ?_
 refine aE (S ?_)
 refine aE (S ?_)
 refine aE (S ?_)
 refine aE (S ?_)
 refine bh (Nat.le_of_eq rfl) (S ?_)
 refine ai cs h (fun cs h=>S ?_) fun cs h=>S ?_
 ·refine aE (S ?_)
  refine aE (S ?_)
  refine aE (S ?_)
  refine run_bk h fun v14 q h=>IdxH.mk (f:=(Lv true 2 (ah true))) q SC (S ?_)
  obtain⟨w2,hw2,h⟩:=run_bind h
  obtain⟨v17,hv17,h⟩:=run_bind h
  refine VSeq.innerM (fx:=(Lv true 2 (ah true))) (c:=10000) (sz:=1) (p:=[]) (off:=0) (h1:=rfl) (h3:=rfl) (h2:=rfl) rfl rfl rfl rfl rfl rfl rfl rfl rfl hw2 (markTermS_sat hv17) SC SC (S ?_)
  refine aE (S ?_)
  refine bh (Nat.le_of_eq rfl) (S ?_)
  refine aE (S ?_)
  refine aE (S ?_)
  refine aE (S ?_)
  refine bh (Nat.le_of_eq rfl) (S ?_)
  have h:=run_some h
  refine a7 ⟨_,h,?_⟩
  exact az SC
 ·have h:=run_some h
  refine aE (S ?_)
  refine aE (S ?_)
  refine bh (Nat.le_of_eq rfl) (S ?_)
  cases run_some h
  exact FinIO.mk SC

theorem markIntS_sat{a0:List Int}{a1:Int}  {r:Int×(List Int)}(h:markIntS a0 a1=some r):SatIO ag 15 [(.sl true 1 (a0.map I)),(I a1)] [(.sl true 1 (r.2.map I)),(I a1)] (I r.1):=by
 obtain⟨h,cs⟩:=aq h
 unfold markIntS at h
 refine SatIO.of_m (nt:=19) (rs:=[.tmp 4]) (n:=100000) Tryz.func15 rfl rfl rfl rfl (by simp) (S ?_)
 replace h:=run_loop h
 refine Mg.whileN h (fun s2=>[(0,.val (.own 10000)),(1,.val (.pv (I s2.2.1))),(5,.val (.pv (I s2.2.2)))]) (fun s2=>[(10000,(1,s2.1.map I))]) (az SC) (fun n2 s2 h=>?_)
 refine S ?_
 refine ai cs h (fun cs h=>S ?_) fun cs h=>S ?_
 ·refine run_bk h fun v15 q h=>aA I q (S ?_)
  refine run_bk h fun w2 q h=>EldH.c I q (S ?_)
  have h:=run_some h
  refine a7 ⟨_,h,?_⟩
  exact az SC
 ·have h:=run_some h
  cases run_some h
  exact FinIO.mk SC

theorem heldIntS_sat{a0:List Int}{a1:Int}  {r:Int}(h:heldIntS a0 a1=some r):Sat ag 16 [(.sl false 1 (a0.map I)),(I a1)] (I r):=by
 obtain⟨h,cs⟩:=aq h
 unfold heldIntS at h
 refine ar 21 [.tmp 4] Tryz.func16 (h:=S ?_)
 refine aN (b:=false) (sz:=1) (es:=a0.map I) 0 SC fun hl0=>?_; rw[aC] at hl0
 refine aJ (run_loop h) (fun i2 s2=>[(0,.val (.pv (.sl false 1 (a0.map I)))),(1,.val (.pv (I s2))),(5,.val (.pv (I (i2:Int))))]) (fun i2 s2=>[]) (az SC) (fun i2 s2 hi h=>?_) (fun s2 h=>?_)
 ·have w:=wrap_s2 i2
  refine S ?_
  refine aH cs fun cs=>S ?_
  refine run_bk h fun v14 q h=>aA I q (S ?_)
  refine ai cs h (fun cs h=>S ?_) fun cs h=>S ?_
  ·exact RdH.z h
  ·exact am h
 ·refine S ?_
  refine aI cs fun cs=>S ?_
  exact am h

theorem FnExactWitnessTable_sat{a0:Ft}{a1:List (List Tt)}  {r:Bool}(h:FnExactWitnessTable a0 a1=some r):Sat ag 3 [((ao false) a0),(.sl false 1 (a1.map (Lv false 2 (ah false))))] (B r):=by
 obtain⟨h,cs⟩:=aq h
 unfold FnExactWitnessTable at h
 refine ar 119 [.tmp 4] Tryz.func3 (h:=S ?_)
 refine run_bk h fun v19 q h=>aj [false,false] (szFormula_sat q) (S ?_)
 refine ai cs h (fun cs h=>S ?_) fun cs h=>S ?_
 rotate_left
 refine run_bk h fun v24 q h=>aj [false,false] (szTermSS_sat q) (S ?_)
 refine ai cs h (fun cs h=>S ?_) fun cs h=>S ?_
 rotate_left
 refine run_bk h fun v29 q h=>aj [false] (toFormula_sat q) (S ?_)
 refine run_bk h fun v31 q h=>aj [false] (toTermSS_sat q) (S ?_)
 refine run_bk h fun v32 q h=>aj [false,false] (spec_WitnessTable_sat q) (S ?_)
 refine run_bk h fun v36 q h=>aj [false] (toFormula_sat q) (S ?_)
 refine run_bk h fun v38 q h=>aj [false] (toTermSS_sat q) (S ?_)
 refine run_bk h fun v42 q h=>aj [false,false] (impl_WitnessTable_sat q) (S ?_)
 refine run_bk h fun v47 q h=>aj [false,false] (eqIntS_sat q) (S ?_)
 refine ai cs h (fun cs h=>S ?_) fun cs h=>S ?_
 refine ai cs h (fun cs h=>S ?_) fun cs h=>S ?_
 refine run_bk h fun v56 q h=>aj [false] (toFormula_sat q) (S ?_)
 refine run_bk h fun v57 q h=>aj [false,false] (eqFormula_sat q) (S ?_)
 refine ae (aO [] [896,897]) (S ?_)
 refine ai cs h (fun cs h=>S ?_) fun cs h=>S ?_
 refine run_bk h fun v61 q h=>aj [false] (toTermSS_sat q) (S ?_)
 refine run_bk h fun v62 q h=>aj [false,false] (eqTermSS_sat q) (S ?_)
 refine ai cs h (fun cs h=>S ?_) fun cs h=>S ?_
 obtain⟨v66,hv66,h⟩:=run_bind h
 refine CallH.io [(.node [(.pv (I v36.Op)),(.node [(.pv (Sx v36.Atom.Name)),(.own 576)]),(.pv (Sx v36.Var)),(.own 577)]),(.pv (I 1))] [(576,(2,v66.2.1.map (ah true))),(577,(5,v66.2.2.map (ao true)))] (markFormula_sat hv66) SC (S ?_)
 obtain⟨v69,hv69,h⟩:=run_bind h
 refine CallH.io [(.own 608),(.pv (I v66.1))] [(608,(1,v69.2.map (Lv true 2 (ah true))))] (markTermSS_sat hv69) SC (S ?_)
 refine ai cs h (fun cs h=>S ?_) fun cs h=>S ?_
 rotate_left
 refine run_bk h fun v75 q h=>aj [false,false] (eqIntS_sat q) (S ?_)
 refine ai cs h (fun cs h=>S ?_) fun cs h=>S ?_
 obtain⟨v85,hv85,h⟩:=run_bind h
 refine CallH.io [(.own 672),(.pv (I 1))] [(672,(1,v85.2.map I))] (markIntS_sat hv85) SC (S ?_)
 refine run_bk h fun v88 q h=>aj [false,false] (heldIntS_sat q) (S ?_)
 refine ai cs h (fun cs h=>S ?_) fun cs h=>S ?_
 rotate_left
 refine ai cs h (fun cs h=>S ?_) fun cs h=>S ?_
 refine run_bk h fun v96 q h=>aj [false] (toFormula_sat q) (S ?_)
 refine run_bk h fun v98 q h=>aj [false] (toTermSS_sat q) (S ?_)
 refine run_bk h fun v99 q h=>aj [false,false] (impl_WitnessTable_sat q) (S ?_)
 refine run_bk h fun v104 q h=>aj [false,false] (eqIntS_sat q) (S ?_)
 refine ai cs h (fun cs h=>S ?_) fun cs h=>S ?_
 refine ai cs h (fun cs h=>S ?_) fun cs h=>S ?_
 refine run_bk h fun v113 q h=>aj [false,false] (heldIntS_sat q) (S ?_)
 refine ai cs h (fun cs h=>S ?_) fun cs h=>S ?_
 rotate_left
 refine ai cs h (fun cs h=>S ?_) fun cs h=>S ?_
 all_goals
  exact am h

end Go.Proofs.YtfchaodlnddkpaaGreat
