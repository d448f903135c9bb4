/- Lemmas of the proof; each says what it shows. -/
import Derived.Test.YtnjgpibbjiofpaaGreatGw0
set_option linter.unusedSimpArgs false
set_option linter.unusedVariables false
set_option linter.defProp false
set_option maxRecDepth 4000
namespace Go.Proofs.YtnjgpibbjiofpaaGreat
open Go.Av
open And renaming intro→ae
open CallH renaming mk→am
open CondH renaming t2→aI,f2→aJ,run→al
open DrawH renaming ak→aL
open FinH renaming l→aj
open IdxH renaming mk→av
open List renaming length_map→au
open Mg renaming know_sl→aW,forN→aM
open RdH renaming mk→aq
open Run renaming of0→ar
open Sat renaming of_m→aw
open St renaming le_mk2→ao
open Tryz renaming prog→ah
open Tt renaming pv→ag
set_option maxHeartbeats 4000000
theorem spec_l22Smallest_sat{a0:List Tt}  {r:Dt}(h:spec_l22Smallest a0=some r):Sat ah 26 [(.sl false 2 (a0.map (ag false)))] ((Dt.pv true) r):=by
 obtain⟨h,cs⟩:=ar h
 unfold spec_l22Smallest at h
 refine aw (nt:=71) (rs:=[.cell 2 31]) (n:=100000) Tryz.func26 rfl rfl rfl rfl (by simp) (S ?_)
 refine aW (b:=false) (sz:=2) (es:=a0.map (ag false)) 0 SC fun hl0=>?_; rw[au] at hl0
 replace h:=run_loop h
 refine aM h (fun i3 s3=>[(0,.val (.pv (.sl false 2 (a0.map (ag false))))),(2,.box zab2),(3,.box (.node [(.pv (.sl false 2 (s3.map (ag false)))),(.own 128)])),(4,.val (.pv (I (i3:Int))))]) (fun i3 s3=>[(128,(2,([]).map (ag false)))]) (St.le_trans (St.le_nvB (x:=(.node [(.pv (.sl true 2 [])),(.own 128)])) 3 [0] 2 SC SC SC) (ao SC)) (fun i3 s3 hi h=>?_) (fun s3 h=>?_)
 ·have w:=wrap_succ (i:=i3) (by omega)
  refine S ?_
  refine aI cs (by omega) (fun cs=>S ?_)
  obtain⟨v20,hv20,h⟩:=run_bind h
  refine av (f:=(ag false)) hv20 SC (S ?_)
  obtain⟨v22,hv22,h⟩:=run_bind h
  refine am [false,false] (spec_l16Put_sat hv22) SC (S ?_)
  refine ae (aL [] []) (S ?_)
  have h:=run_some h
  refine aq ⟨_,h,?_⟩
  exact ao SWx
 ·refine S ?_
  refine aJ cs (by omega) (fun cs=>S ?_)
  obtain⟨v25,hv25,h⟩:=run_bind h
  refine am [false] (Sat.vwOf (res':=(.sl false 2 (v25.map (lf.pv false)))) (spec_l22Rows_sat hv25) (by simp only[view_tup,view_sl,view_agg,view_lit,PV.views,RB,RS])) SC (S ?_)
  refine aW (b:=false) (sz:=2) (es:=v25.map (lf.pv false)) 5 SC fun hl5=>?_; rw[au] at hl5
  replace h:=run_loop h
  refine aM h (fun i8 s8=>[(0,.val (.pv (.sl false 2 (a0.map (ag false))))),(2,.box zab2),(3,.box (.node [(.pv (.sl false 2 (s8.1.map (ag false)))),(.pv (.sl false 2 (s8.2.map (ag false))))])),(5,.val (.pv (.sl false 2 (v25.map (lf.pv false))))),(6,.val (.pv (I (i8:Int))))]) (fun i8 s8=>[]) (St.le_trans (St.le_demB (x:=(.node [(.pv (.sl false 2 (s3.map (ag false)))),(.own 128)])) (sz:=(2)) (es:=([]).map (ag false)) 3 [1] 128 SC) (ao SC)) (fun i8 s8 hi h=>?_) (fun s8 h=>?_)
  ·have w:=wrap_succ (i:=i8) (by omega)
   refine S ?_
   refine aI cs (by omega) (fun cs=>S ?_)
   obtain⟨v34,hv34,h⟩:=run_bind h
   refine av (f:=(lf.pv false)) hv34 SC (S ?_)
   obtain⟨v39,hv39,h⟩:=run_bind h
   refine ShlH.mk hv39 (S ?_)
   obtain⟨v41,hv41,h⟩:=run_bind h
   refine am [false,false] (spec_l22Select_sat hv41) SC (S ?_)
   obtain⟨v44,hv44,h⟩:=run_bind h
   refine av (f:=(lf.pv false)) hv44 SC (S ?_)
   refine ae (aL [7] []) (S ?_)
   refine al cs h (fun cs h=>S ?_) (fun cs h=>S ?_)
   ·have h:=run_some h
    refine aq ⟨_,h,?_⟩
    exact ao SWx
   ·have h:=run_some h
    refine aq ⟨_,h,?_⟩
    exact ao SWx
  ·refine S ?_
   refine aJ cs (by omega) (fun cs=>S ?_)
   obtain⟨v66,hv66,h⟩:=run_bind h
   refine am [false] (spec_l22Copy_sat hv66) SC (S ?_)
   obtain⟨v69,hv69,h⟩:=run_bind h
   refine am [false] (spec_l22Copy_sat hv69) SC (S ?_)
   refine ae (aL [] [1056,1104]) (S ?_)
   cases run_some h
   exact aj SC

theorem spec_SmallestDecomposition_sat{a0:List Tt}  {r:Dt×Bool}(h:spec_SmallestDecomposition a0=some r):Sat ah 11 [(.sl false 2 (a0.map (ag false)))] (.tup [((Dt.pv true) r.1),(B r.2)]):=by
 obtain⟨h,cs⟩:=ar h
 unfold spec_SmallestDecomposition at h
 refine aw (nt:=10) (rs:=[.cell 2 31,.tmp 3]) (n:=100000) Tryz.func11 rfl rfl rfl rfl (by simp) (S ?_)
 obtain⟨v5,hv5,h⟩:=run_bind h
 refine am [false] (spec_l22Different_sat hv5) SC (S ?_)
 refine al cs h (fun cs h=>S ?_) (fun cs h=>S ?_)
 ·obtain⟨v9,hv9,h⟩:=run_bind h
  refine am [false] (spec_l22Smallest_sat hv9) SC (S ?_)
  cases run_some h
  exact aj SC
 ·cases run_some h
  exact aj SC

theorem impl_notGround_sat{a0:Tt}  {r:Bool}(h:impl_notGround a0=some r):Sat ah 47 [((ag false) a0)] (B r):=by
 obtain⟨h,cs⟩:=ar h
 unfold impl_notGround at h
 refine aw (nt:=6) (rs:=[.tmp 2]) (n:=100000) Tryz.func47 rfl rfl rfl rfl (by simp) (S ?_)
 obtain⟨v4,hv4,h⟩:=run_bind h
 refine am [false] (impl_isGroundTerm_sat hv4) SC (S ?_)
 cases run_some h
 exact aj SC

theorem impl_isPattern_1_sat{a0:ByteArray}  {r:Bool}(h:impl_isPattern_1 a0=some r):Sat ah 83 [(Sx a0)] (B r):=by
 obtain⟨h,cs⟩:=ar h
 unfold impl_isPattern_1 at h
 refine aw (nt:=5) (rs:=[.tmp 2]) (n:=100000) Tryz.func83 rfl rfl rfl rfl (by simp) (S ?_)
 cases run_some h
 exact aj SC

theorem slices_IndexFunc_Sstring_string_sat{a0:List ByteArray}{a1:ByteArray→Option Bool}{a1_id:FuncId}{a1_cs:List PV}(a1_ok:∀ y0 r,a1 y0=some r→Sat ah a1_id ((Sx y0)::a1_cs) (B r))(a1_cz:CapsOk a1_cs=True){r:Int}(h:slices_IndexFunc_Sstring_string a0 a1=some r):Sat ah 117 [(.sl false 1 (a0.map Sx)),.clo a1_id a1_cs] (I r):=by
 obtain⟨h,cs⟩:=ar h
 unfold slices_IndexFunc_Sstring_string at h
 have cs:=ae a1_cz cs
 refine aw (nt:=19) (rs:=[.tmp 4]) (n:=100000) Tryz.func117 rfl rfl rfl rfl (by simp) (S ?_)
 refine aW (b:=false) (sz:=1) (es:=a0.map Sx) 0 SC fun hl0=>?_; rw[au] at hl0
 replace h:=run_loop h
 refine aM h (fun i2 s2=>[(0,.val (.pv (.sl false 1 (a0.map Sx)))),(1,.val (.pv (.clo a1_id a1_cs))),(7,.val (.pv (I (a0.length:Int)))),(8,.val (.pv (I (i2:Int))))]) (fun i2 s2=>[]) (ao SC) (fun i2 s2 hi h=>?_) (fun s2 h=>?_)
 ·have w:=wrap_succ (i:=i2) (by omega)
  refine S ?_
  refine aI cs (by omega) (fun cs=>S ?_)
  obtain⟨v14,hv14,h⟩:=run_bind h
  refine av (f:=Sx) hv14 SC (S ?_)
  obtain⟨v16,hv16,h⟩:=run_bind h
  refine am [false] (a1_ok _ _ hv16) SC (S ?_)
  refine al cs h (fun cs h=>S ?_) (fun cs h=>S ?_)
  ·cases run_some h
   exact aj SC
  ·have h:=run_some h
   refine aq ⟨_,h,?_⟩
   exact ao SWx
 ·refine S ?_
  refine aJ cs (by omega) (fun cs=>S ?_)
  cases run_some h
  exact aj SC

theorem slices_ContainsFunc_Sstring_string_sat{a0:List ByteArray}{a1:ByteArray→Option Bool}{a1_id:FuncId}{a1_cs:List PV}(a1_ok:∀ y0 r,a1 y0=some r→Sat ah a1_id ((Sx y0)::a1_cs) (B r))(a1_cz:CapsOk a1_cs=True){r:Bool}(h:slices_ContainsFunc_Sstring_string a0 a1=some r):Sat ah 82 [(.sl false 1 (a0.map Sx)),.clo a1_id a1_cs] (B r):=by
 obtain⟨h,cs⟩:=ar h
 unfold slices_ContainsFunc_Sstring_string at h
 have cs:=ae a1_cz cs
 refine aw (nt:=9) (rs:=[.tmp 4]) (n:=100000) Tryz.func82 rfl rfl rfl rfl (by simp) (S ?_)
 obtain⟨v7,hv7,h⟩:=run_bind h
 refine am [false,false] (slices_IndexFunc_Sstring_string_sat a1_ok a1_cz hv7) SC (S ?_)
 cases run_some h
 exact aj SC

theorem impl_isPattern_sat{a0:Tt}  {r:Bool}(h:impl_isPattern a0=some r):Sat ah 51 [((ag false) a0)] (B r):=by
 obtain⟨h,cs⟩:=ar h
 unfold impl_isPattern at h
 refine aw (nt:=11) (rs:=[.tmp 2]) (n:=100000) Tryz.func51 rfl rfl rfl rfl (by simp) (S ?_)
 obtain⟨v4,hv4,h⟩:=run_bind h
 refine am [false] (impl_IsValidTerm_sat hv4) SC (S ?_)
 refine al cs h (fun cs h=>S ?_) (fun cs h=>S ?_)
 ·obtain⟨v7,hv7,h⟩:=run_bind h
  refine am [true,false] (impl_collect_sat hv7) SC (S ?_)
  obtain⟨v8,hv8,h⟩:=run_bind h
  refine am [false,false] (slices_ContainsFunc_Sstring_string_sat (fun _ _ hh=>impl_isPattern_1_sat hh) (by simp only[CapsOk_nil,CapsOk_cons]) hv8) SC (S ?_)
  cases run_some h
  exact aj SC
 ·cases run_some h
  exact aj SC

theorem impl_IsValidDecomposition_1_sat{a0:Tt}  {r:Bool}(h:impl_IsValidDecomposition_1 a0=some r):Sat ah 50 [((ag false) a0)] (B r):=by
 obtain⟨h,cs⟩:=ar h
 unfold impl_IsValidDecomposition_1 at h
 refine aw (nt:=6) (rs:=[.tmp 2]) (n:=100000) Tryz.func50 rfl rfl rfl rfl (by simp) (S ?_)
 obtain⟨v4,hv4,h⟩:=run_bind h
 refine am [false] (impl_isPattern_sat hv4) SC (S ?_)
 cases run_some h
 exact aj SC

theorem impl_areAscending_sat{a0:List Tt}  {r:Bool}(h:impl_areAscending a0=some r):Sat ah 52 [(.sl false 2 (a0.map (ag false)))] (B r):=by
 obtain⟨h,cs⟩:=ar h
 unfold impl_areAscending at h
 refine aw (nt:=28) (rs:=[.tmp 2]) (n:=100000) Tryz.func52 rfl rfl rfl rfl (by simp) (S ?_)
 refine aW (b:=false) (sz:=2) (es:=a0.map (ag false)) 0 SC fun hl0=>?_; rw[au] at hl0
 replace h:=run_loop h
 refine aM h (fun i2 s2=>[(0,.val (.pv (.sl false 2 (a0.map (ag false))))),(5,.val (.pv (I (a0.length:Int)))),(6,.val (.pv (I (i2:Int))))]) (fun i2 s2=>[]) (ao SC) (fun i2 s2 hi h=>?_) (fun s2 h=>?_)
 ·have w:=wrap_succ (i:=i2) (by omega)
  refine S ?_
  refine aI cs (by omega) (fun cs=>S ?_)
  refine al cs h (fun cs h=>S ?_) (fun cs h=>S ?_)
  ·obtain⟨v15,hv15,h⟩:=run_bind h
   refine av (f:=(ag false)) hv15 SC (S ?_)
   obtain⟨v19,hv19,h⟩:=run_bind h
   refine av (f:=(ag false)) hv19 SC (S ?_)
   obtain⟨v21,hv21,h⟩:=run_bind h
   refine am [false,false] (impl_compareTerms_sat hv21) SC (S ?_)
   refine ae (aL [] []) (S ?_)
   refine al cs h (fun cs h=>S ?_) (fun cs h=>S ?_)
   ·cases run_some h
    exact aj SC
   ·have h:=run_some h
    refine aq ⟨_,h,?_⟩
    exact ao SWx
  ·refine ae (aL [] []) (S ?_)
   have h:=run_some h
   refine aq ⟨_,h,?_⟩
   exact ao SWx
 ·refine S ?_
  refine aJ cs (by omega) (fun cs=>S ?_)
  cases run_some h
  exact aj SC

theorem impl_IsValidDecomposition_sat{a0:Dt}  {r:Bool}(h:impl_IsValidDecomposition a0=some r):Sat ah 21 [((Dt.pv false) a0)] (B r):=by
 obtain⟨h,cs⟩:=ar h
 unfold impl_IsValidDecomposition at h
 refine aw (nt:=31) (rs:=[.tmp 2]) (n:=100000) Tryz.func21 rfl rfl rfl rfl (by simp) (S ?_)
 obtain⟨v5,hv5,h⟩:=run_bind h
 refine am [false,false] (slices_ContainsFunc_Simpl_Term_impl_Term_sat (fun _ _ hh=>impl_notGround_sat hh) (by simp only[CapsOk_nil,CapsOk_cons]) hv5) SC (S ?_)
 refine al cs h (fun cs h=>S ?_) (fun cs h=>S ?_)
 ·cases run_some h
  exact aj SC
 ·obtain⟨v9,hv9,h⟩:=run_bind h
  refine am [false,false] (slices_ContainsFunc_Simpl_Term_impl_Term_sat (fun _ _ hh=>impl_IsValidDecomposition_1_sat hh) (by simp only[CapsOk_nil,CapsOk_cons]) hv9) SC (S ?_)
  refine al cs h (fun cs h=>S ?_) (fun cs h=>S ?_)
  ·cases run_some h
   exact aj SC
  ·obtain⟨v13,hv13,h⟩:=run_bind h
   refine am [false] (impl_areAscending_sat hv13) SC (S ?_)
   refine al cs h (fun cs h=>S ?_) (fun cs h=>S ?_)
   ·obtain⟨v17,hv17,h⟩:=run_bind h
    refine am [false] (impl_areAscending_sat hv17) SC (S ?_)
    refine al cs h (fun cs h=>S ?_) (fun cs h=>S ?_)
    ·refine al cs h (fun cs h=>S ?_) (fun cs h=>S ?_)
     ·cases run_some h
      exact aj SC
     ·obtain⟨v27,hv27,h⟩:=run_bind h
      refine am [false,false] (slices_ContainsFunc_Simpl_Term_impl_Term_sat (fun _ _ hh=>impl_notGround_sat hh) (by simp only[CapsOk_nil,CapsOk_cons]) hv27) SC (S ?_)
      cases run_some h
      exact aj SC
    ·cases run_some h
     exact aj SC
   ·cases run_some h
    exact aj SC

theorem impl_countNameN_sat(n:Nat):(∀ (a0:Tt) (a1:ByteArray) (r:Int),impl_countNameN n a0 a1=some r→Sat ah 144 [((ag false) a0),(Sx a1)] (I r)):=by
 induction n with
 | zero=>exact fun _ _ _ h=>by simp[impl_countNameN] at h
 | succ n ih=>
  refine fun a0 a1 r h=>?_
  obtain⟨h,cs⟩:=ar h
  rw[impl_countNameN] at h
  refine aw (nt:=26) (rs:=[.tmp 4]) (n:=100000) Tryz.func144 rfl rfl rfl rfl (by simp) (S ?_)
  refine al cs h (fun cs h=>S ?_) (fun cs h=>S ?_)
  ·refine aW (b:=false) (sz:=2) (es:=a0.Args.map (ag false)) 13 SC fun hl13=>?_; rw[au] at hl13
   replace h:=run_loop h
   refine aM h (fun i5 s5=>[(1,.val (.pv (Sx a1))),(5,.val (.pv (I s5))),(13,.val (.pv (.sl false 2 (a0.Args.map (ag false))))),(14,.val (.pv (I (a0.Args.length:Int)))),(15,.val (.pv (I (i5:Int))))]) (fun i5 s5=>[]) (ao SC) (fun i5 s5 hi h=>?_) (fun s5 h=>?_)
   ·have w:=wrap_succ (i:=i5) (by omega)
    refine S ?_
    refine aI cs (by omega) (fun cs=>S ?_)
    obtain⟨v17,hv17,h⟩:=run_bind h
    refine av (f:=(ag false)) hv17 SC (S ?_)
    obtain⟨v22,hv22,h⟩:=run_bind h
    refine am [false,false] (ih _ _ _ hv22) SC (S ?_)
    have h:=run_some h
    refine aq ⟨_,h,?_⟩
    exact ao SWx
   ·refine S ?_
    refine aJ cs (by omega) (fun cs=>S ?_)
    cases run_some h
    exact aj SC
  ·refine aW (b:=false) (sz:=2) (es:=a0.Args.map (ag false)) 13 SC fun hl13=>?_; rw[au] at hl13
   replace h:=run_loop h
   refine aM h (fun i5 s5=>[(1,.val (.pv (Sx a1))),(5,.val (.pv (I s5))),(13,.val (.pv (.sl false 2 (a0.Args.map (ag false))))),(14,.val (.pv (I (a0.Args.length:Int)))),(15,.val (.pv (I (i5:Int))))]) (fun i5 s5=>[]) (ao SC) (fun i5 s5 hi h=>?_) (fun s5 h=>?_)
   ·have w:=wrap_succ (i:=i5) (by omega)
    refine S ?_
    refine aI cs (by omega) (fun cs=>S ?_)
    obtain⟨v17,hv17,h⟩:=run_bind h
    refine av (f:=(ag false)) hv17 SC (S ?_)
    obtain⟨v22,hv22,h⟩:=run_bind h
    refine am [false,false] (ih _ _ _ hv22) SC (S ?_)
    have h:=run_some h
    refine aq ⟨_,h,?_⟩
    exact ao SWx
   ·refine S ?_
    refine aJ cs (by omega) (fun cs=>S ?_)
    cases run_some h
    exact aj SC
theorem impl_countName_sat{a0:Tt}{a1:ByteArray}{r:Int}(h:impl_countName a0 a1=some r):Sat ah 144 [((ag false) a0),(Sx a1)] (I r):=by
 obtain⟨n,hn⟩:=lim_some h
 exact(impl_countNameN_sat n) _ _ _ hn

theorem impl_occurs_sat{a0:ByteArray}{a1:Tt}  {r:Bool}(h:impl_occurs a0 a1=some r):Sat ah 115 [(Sx a0),((ag false) a1)] (B r):=by
 obtain⟨h,cs⟩:=ar h
 unfold impl_occurs at h
 refine aw (nt:=9) (rs:=[.tmp 4]) (n:=100000) Tryz.func115 rfl rfl rfl rfl (by simp) (S ?_)
 obtain⟨v7,hv7,h⟩:=run_bind h
 refine am [false,false] (impl_countName_sat hv7) SC (S ?_)
 cases run_some h
 exact aj SC

theorem impl_replaceVarsN_sat(n:Nat):(∀ (a0:Tt) (a1:GMap Tt) (r:Tt),impl_replaceVarsN n a0 a1=some r→SatH ah 145 [((ag false) a0)] [] .mp [] (.mp (gmap (ag false) a1.es) a1.clock) (.mp (gmap (ag false) a1.es) a1.clock) ((ag true) r)):=by
 induction n with
 | zero=>exact fun _ _ _ h=>by simp[impl_replaceVarsN] at h
 | succ n ih=>
  refine fun a0 a1 r h=>?_
  obtain⟨h,cs⟩:=ar h
  rw[impl_replaceVarsN] at h
  refine SatH.of_k (nt:=46) (rs:=[.cell 4 43]) (n:=100000) 1 Tryz.func145 rfl rfl rfl rfl rfl (Nat.le_of_ble_eq_true rfl) (by decide) (by first | exact Nat.le_of_ble_eq_true rfl | exact SC) (S ?_)
  refine HandH.lookupOk (E:=43) (r:=1) (sh:=.mp) (ps:=[]) (m:=a1) (f:=(ag false)) (k:=a0.Name) (z0:=(Tt.mk ⟨#[]⟩ ([]))) mt_154 mz_43 SC (S ?_)
  refine al cs h (fun cs h=>S ?_) (fun cs h=>S ?_)
  ·refine al cs h (fun cs h=>S ?_) (fun cs h=>S ?_)
   ·obtain⟨v25,hv25,h⟩:=run_bind h
    refine am [false] (impl_copyTerm_sat hv25) SC (S ?_)
    cases run_some h
    exact RetHB.l SC
   ·refine aW (b:=false) (sz:=2) (es:=a0.Args.map (ag false)) 20 SC fun hl20=>?_; rw[au] at hl20
    replace h:=run_loop h
    refine aM h (fun i6 s6=>[(1,.hold .mp [] (.mp (gmap (ag false) (a1).es) (a1).clock)),(4,.box zab1),(7,.box (.node [(.pv (Sx a0.Name)),(.own 9318)])),(30,.val (.pv (.sl false 2 (a0.Args.map (ag false))))),(31,.val (.pv (I (a0.Args.length:Int)))),(32,.val (.pv (I (i6:Int)))),(20000,gh 1)]) (fun i6 s6=>[(9318,(2,s6.map (ag true)))]) (St.le_trans (St.le_nilB (x:=(.node [(.pv (Sx a0.Name)),(.pv (.sl true 2 []))])) 7 [1] 9318 2 NM SC SC SC) (ao SC)) (fun i6 s6 hi h=>?_) (fun s6 h=>?_)
    ·have w:=wrap_succ (i:=i6) (by omega)
     refine S ?_
     refine aI cs (by omega) (fun cs=>S ?_)
     obtain⟨v34,hv34,h⟩:=run_bind h
     refine av (f:=(ag false)) hv34 SC (S ?_)
     obtain⟨v40,hv40,h⟩:=run_bind h
     refine HandH.call (r:=1) (hc:=.mp (gmap (ag false) (a1).es) (a1).clock) 1 [_] [] [(.pv ((ag false) v34))] [] [false] (ih _ _ _ hv40) rfl rfl rfl SC (S ?_)
     obtain⟨v42,hv42,h⟩:=run_bind h
     refine AppH.mk (f:=(ag true)) (fun a=>Tt.psize _ a) hv42 SC SC (S ?_)
     refine ae (aL [] [640,656,672]) (S ?_)
     have h:=run_some h
     refine aq ⟨_,h,?_⟩
     refine St.le_rt 672 9318 ?_
     exact ao SWx
    ·refine S ?_
     refine aJ cs (by omega) (fun cs=>S ?_)
     cases run_some h
     exact RetHB.l SC
  ·refine aW (b:=false) (sz:=2) (es:=a0.Args.map (ag false)) 30 SC fun hl30=>?_; rw[au] at hl30
   replace h:=run_loop h
   refine aM h (fun i6 s6=>[(1,.hold .mp [] (.mp (gmap (ag false) (a1).es) (a1).clock)),(4,.box zab1),(7,.box (.node [(.pv (Sx a0.Name)),(.own 9318)])),(30,.val (.pv (.sl false 2 (a0.Args.map (ag false))))),(31,.val (.pv (I (a0.Args.length:Int)))),(32,.val (.pv (I (i6:Int)))),(20000,gh 1)]) (fun i6 s6=>[(9318,(2,s6.map (ag true)))]) (St.le_trans (St.le_nilB (x:=(.node [(.pv (Sx a0.Name)),(.pv (.sl true 2 []))])) 7 [1] 9318 2 NM SC SC SC) (ao SC)) (fun i6 s6 hi h=>?_) (fun s6 h=>?_)
   ·have w:=wrap_succ (i:=i6) (by omega)
    refine S ?_
    refine aI cs (by omega) (fun cs=>S ?_)
    obtain⟨v34,hv34,h⟩:=run_bind h
    refine av (f:=(ag false)) hv34 SC (S ?_)
    obtain⟨v40,hv40,h⟩:=run_bind h
    refine HandH.call (r:=1) (hc:=.mp (gmap (ag false) (a1).es) (a1).clock) 1 [_] [] [(.pv ((ag false) v34))] [] [false] (ih _ _ _ hv40) rfl rfl rfl SC (S ?_)
    obtain⟨v42,hv42,h⟩:=run_bind h
    refine AppH.mk (f:=(ag true)) (fun a=>Tt.psize _ a) hv42 SC SC (S ?_)
    refine ae (aL [] [640,656,672]) (S ?_)
    have h:=run_some h
    refine aq ⟨_,h,?_⟩
    refine St.le_rt 672 9318 ?_
    exact ao SWx
   ·refine S ?_
    refine aJ cs (by omega) (fun cs=>S ?_)
    cases run_some h
    exact RetHB.l SC
theorem impl_replaceVars_sat{a0:Tt}{a1:GMap Tt}{r:Tt}(h:impl_replaceVars a0 a1=some r):SatH ah 145 [((ag false) a0)] [] .mp [] (.mp (gmap (ag false) a1.es) a1.clock) (.mp (gmap (ag false) a1.es) a1.clock) ((ag true) r):=by
 obtain⟨n,hn⟩:=lim_some h
 exact(impl_replaceVarsN_sat n) _ _ _ hn

theorem impl_filled_sat{a0:Tt}{a1:Tt}  {r:Tt}(h:impl_filled a0 a1=some r):Sat ah 116 [((ag false) a0),((ag false) a1)] ((ag true) r):=by
 obtain⟨h,cs⟩:=ar h
 unfold impl_filled at h
 refine aw (nt:=10) (rs:=[.cell 4 43]) (n:=100000) Tryz.func116 rfl rfl rfl rfl (by simp) (S ?_)
 refine HandH.makeMap (α:=Tt) (ag false) (by decide) (S ?_)
 refine HandH.ins (E:=43) (r:=6) (sh:=.mp) (ps:=[]) (m:=(GMap.empty:GMap Tt)) (f:=(ag false)) (k:=(⟨#[65]⟩:ByteArray)) (v0:=a1) (c:=(.pv ((ag false) a1))) mt_154 SC (S ?_)
 obtain⟨v9,hv9,h⟩:=run_bind h
 refine HandH.call (r:=6) (hc:=.mp (gmap (ag false) (GMap.put (GMap.empty:GMap Tt) (⟨#[65]⟩:ByteArray) a1).es) (GMap.put (GMap.empty:GMap Tt) (⟨#[65]⟩:ByteArray) a1).clock) 1 [_] [] [(.pv ((ag false) a0))] [] [false] (impl_replaceVars_sat hv9) rfl rfl rfl SC (S ?_)
 cases run_some h
 exact aj SC

theorem impl_language_sat{a0:Dt}  {r:(List Tt)×Bool}(h:impl_language a0=some r):Sat ah 78 [((Dt.pv false) a0)] (.tup [(.sl true 2 (r.1.map (ag true))),(B r.2)]):=by
 obtain⟨h,cs⟩:=ar h
 unfold impl_language at h
 refine aw (nt:=45) (rs:=[.tmp 2,.tmp 3]) (n:=100000) Tryz.func78 rfl rfl rfl rfl (by simp) (S ?_)
 refine aW (b:=false) (sz:=2) (es:=a0.Patterns.map (ag false)) 12 SC fun hl12=>?_; rw[au] at hl12
 replace h:=run_loop h
 refine aM h (fun i3 s3=>[(1,.box (.pv ((Dt.pv false) a0))),(4,.val (.own 160)),(12,.val (.pv (.sl false 2 (a0.Patterns.map (ag false))))),(13,.val (.pv (I (a0.Patterns.length:Int)))),(14,.val (.pv (I (i3:Int))))]) (fun i3 s3=>[(160,(2,s3.map (ag true)))]) (ao SC) (fun i3 s3 hi h=>?_) (fun s3 h=>?_)
 ·have w:=wrap_succ (i:=i3) (by omega)
  refine S ?_
  refine aI cs (by omega) (fun cs=>S ?_)
  obtain⟨v16,hv16,h⟩:=run_bind h
  refine av (f:=(ag false)) hv16 SC (S ?_)
  obtain⟨v19,hv19,h⟩:=run_bind h
  refine am [false,false] (impl_occurs_sat hv19) SC (S ?_)
  refine al cs h (fun cs h=>S ?_) (fun cs h=>S ?_)
  ·refine aW (b:=false) (sz:=2) (es:=a0.Instances.map (ag false)) 25 SC fun hl25=>?_; rw[au] at hl25
   replace h:=run_loop h
   refine aM h (fun i8 s8=>[(1,.box (.pv ((Dt.pv false) a0))),(4,.val (.own 160)),(6,.box (.pv ((ag false) v16))),(12,.val (.pv (.sl false 2 (a0.Patterns.map (ag false))))),(13,.val (.pv (I (a0.Patterns.length:Int)))),(14,.val (.pv (I (i3:Int)))),(25,.val (.pv (.sl false 2 (a0.Instances.map (ag false))))),(26,.val (.pv (I (a0.Instances.length:Int)))),(27,.val (.pv (I (i8:Int))))]) (fun i8 s8=>[(160,(2,s8.map (ag true)))]) (ao SC) (fun i8 s8 hi h=>?_) (fun s8 h=>?_)
   ·have w:=ae (wrap_succ (i:=i8) (by omega)) w
    refine S ?_
    refine aI cs (by omega) (fun cs=>S ?_)
    obtain⟨v29,hv29,h⟩:=run_bind h
    refine av (f:=(ag false)) hv29 SC (S ?_)
    obtain⟨v33,hv33,h⟩:=run_bind h
    refine am [false,false] (impl_filled_sat hv33) SC (S ?_)
    obtain⟨v35,hv35,h⟩:=run_bind h
    refine am [false] (impl_IsValidTerm_sat hv35) SC (S ?_)
    refine al cs h (fun cs h=>S ?_) (fun cs h=>S ?_)
    ·obtain⟨v39,hv39,h⟩:=run_bind h
     refine am [true,false] (impl_addAtom_sat hv39) SC (S ?_)
     have h:=run_some h
     refine aq ⟨_,h,?_⟩
     refine St.le_rt 624 160 ?_
     exact ao SWx
    ·cases run_some h
     exact aj SC
   ·refine S ?_
    refine aJ cs (by omega) (fun cs=>S ?_)
    have h:=run_some h
    refine aq ⟨_,h,?_⟩
    exact ao SWx
  ·obtain⟨v23,hv23,h⟩:=run_bind h
   refine am [true,false] (impl_addAtom_sat hv23) SC (S ?_)
   have h:=run_some h
   refine aq ⟨_,h,?_⟩
   refine St.le_rt 368 160 ?_
   exact ao SWx
 ·refine S ?_
  refine aJ cs (by omega) (fun cs=>S ?_)
  obtain⟨v43,hv43,h⟩:=run_bind h
  refine CallH.io0 [(.own 160),(.pv (.clo 41 []))] [(160,(2,v43.2.map (ag true)))] (slices_SortFuncT_sat hv43) SC (S ?_)
  cases run_some h
  exact aj SC

theorem impl_LanguageOf_sat{a0:Dt}  {r:(List Tt)×Bool}(h:impl_LanguageOf a0=some r):Sat ah 45 [((Dt.pv false) a0)] (.tup [(.sl true 2 (r.1.map (ag true))),(B r.2)]):=by
 obtain⟨h,cs⟩:=ar h
 unfold impl_LanguageOf at h
 refine aw (nt:=11) (rs:=[.tmp 2,.tmp 3]) (n:=100000) Tryz.func45 rfl rfl rfl rfl (by simp) (S ?_)
 obtain⟨v5,hv5,h⟩:=run_bind h
 refine am [false] (impl_IsValidDecomposition_sat hv5) SC (S ?_)
 refine al cs h (fun cs h=>S ?_) (fun cs h=>S ?_)
 ·obtain⟨v8,hv8,h⟩:=run_bind h
  refine am [false] (impl_language_sat hv8) SC (S ?_)
  cases run_some h
  exact aj SC
 ·cases run_some h
  exact aj SC

theorem impl_DescribesTerms_sat{a0:Dt}{a1:List Tt}  {r:Bool×Bool}(h:impl_DescribesTerms a0 a1=some r):Sat ah 19 [((Dt.pv false) a0),(.sl false 2 (a1.map (ag false)))] (.tup [(B r.1),(B r.2)]):=by
 obtain⟨h,cs⟩:=ar h
 unfold impl_DescribesTerms at h
 refine aw (nt:=43) (rs:=[.tmp 4,.tmp 5]) (n:=100000) Tryz.func19 rfl rfl rfl rfl (by simp) (S ?_)
 obtain⟨v13,hv13,h⟩:=run_bind h
 refine am [false] (impl_LanguageOf_sat hv13) SC (S ?_)
 refine al cs h (fun cs h=>S ?_) (fun cs h=>S ?_)
 ·refine al cs h (fun cs h=>S ?_) (fun cs h=>S ?_)
  ·cases run_some h
   exact aj SC
  ·obtain⟨v25,hv25,h⟩:=run_bind h
   refine am [false,false] (slices_ContainsFunc_Simpl_Term_impl_Term_sat (fun _ _ hh=>impl_notGround_sat hh) (by simp only[CapsOk_nil,CapsOk_cons]) hv25) SC (S ?_)
   refine al cs h (fun cs h=>S ?_) (fun cs h=>S ?_)
   ·cases run_some h
    exact aj SC
   ·refine aW (b:=false) (sz:=2) (es:=a1.map (ag false)) 1 SC fun hl1=>?_; rw[au] at hl1
    replace h:=run_loop h
    refine aM h (fun i6 s6=>[(6,.val (.own 208)),(8,.val (.own 432)),(28,.val (.pv (.sl false 2 (a1.map (ag false))))),(29,.val (.pv (I (a1.length:Int)))),(30,.val (.pv (I (i6:Int))))]) (fun i6 s6=>[(208,(2,v13.1.map (ag true))),(432,(2,s6.map (ag true)))]) (ao SC) (fun i6 s6 hi h=>?_) (fun s6 h=>?_)
    ·have w:=wrap_succ (i:=i6) (by omega)
     refine S ?_
     refine aI cs (by omega) (fun cs=>S ?_)
     obtain⟨v32,hv32,h⟩:=run_bind h
     refine av (f:=(ag false)) hv32 SC (S ?_)
     obtain⟨v36,hv36,h⟩:=run_bind h
     refine am [true,false] (impl_addAtom_sat hv36) SC (S ?_)
     have h:=run_some h
     refine aq ⟨_,h,?_⟩
     refine St.le_rt 576 432 ?_
     exact ao SWx
    ·refine S ?_
     refine aJ cs (by omega) (fun cs=>S ?_)
     obtain⟨v39,hv39,h⟩:=run_bind h
     refine CallH.io0 [(.own 432),(.pv (.clo 41 []))] [(432,(2,v39.2.map (ag true)))] (slices_SortFuncT_sat hv39) SC (S ?_)
     obtain⟨v42,hv42,h⟩:=run_bind h
     refine am [false,false,false] (slices_EqualFunc_Simpl_Term_Simpl_Term_impl_Term_impl_Term_sat (fun _ _ _ hh=>impl_EqualTerms_sat hh) (by simp only[CapsOk_nil,CapsOk_cons]) hv42) SC (S ?_)
     cases run_some h
     exact aj SC
 ·cases run_some h
  exact aj SC

theorem impl_GeneralizeTerms_sat{a0:List Tt}  {r:Tt×(List Tt)×Bool}(h:impl_GeneralizeTerms a0=some r):Sat ah 20 [(.sl false 2 (a0.map (ag false)))] (.tup [((ag true) r.1),(.sl true 2 (r.2.1.map (ag true))),(B r.2.2)]):=by
 obtain⟨h,cs⟩:=ar h
 unfold impl_GeneralizeTerms at h
 refine aw (nt:=23) (rs:=[.cell 2 43,.tmp 3,.tmp 4]) (n:=100000) Tryz.func20 rfl rfl rfl rfl (by simp) (S ?_)
 obtain⟨v9,hv9,h⟩:=run_bind h
 refine am [false,false,false] (impl_within_sat hv9) SC (S ?_)
 refine al cs h (fun cs h=>S ?_) (fun cs h=>S ?_)
 ·obtain⟨v13,hv13,h⟩:=run_bind h
  refine am [false,false] (slices_ContainsFunc_Simpl_Term_impl_Term_sat (fun _ _ hh=>impl_notGround_sat hh) (by simp only[CapsOk_nil,CapsOk_cons]) hv13) SC (S ?_)
  refine al cs h (fun cs h=>S ?_) (fun cs h=>S ?_)
  ·cases run_some h
   exact aj SC
  ·obtain⟨v18,hv18,h⟩:=run_bind h
   refine am [false] (impl_generalization_sat hv18) SC (S ?_)
   cases run_some h
   exact aj SC
 ·cases run_some h
  exact aj SC

theorem spec_l4Good_sat{a0:Sa}  {r:Bool}(h:spec_l4Good a0=some r):Sat ah 53 [((Sa.pv false) a0)] (B r):=by
 obtain⟨h,cs⟩:=ar h
 unfold spec_l4Good at h
 refine aw (nt:=55) (rs:=[.tmp 2]) (n:=100000) Tryz.func53 rfl rfl rfl rfl (by simp) (S ?_)
 refine Mg.know_val2 (b:=false) (sz:=3) (es:=a0.Bindings.map (Bt.pv false)) (x:=(.pv ((Sa.pv false) a0))) 0 [0] SC fun hl0=>?_; rw[au] at hl0
 replace h:=run_loop h
 refine aM h (fun i2 s2=>[(1,.box (.pv ((Sa.pv false) a0))),(3,.val (.pv (I (i2:Int))))]) (fun i2 s2=>[]) (ao SC) (fun i2 s2 hi h=>?_) (fun s2 h=>?_)
 ·have w:=wrap_succ (i:=i2) (by omega)
  refine S ?_
  refine aI cs (by omega) (fun cs=>S ?_)
  obtain⟨v15,hv15,h⟩:=run_bind h
  refine av (f:=(Bt.pv false)) hv15 SC (S ?_)
  obtain⟨v19,hv19,h⟩:=run_bind h
  refine am [false] (spec_l2Var_sat hv19) SC (S ?_)
  refine al cs h (fun cs h=>S ?_) (fun cs h=>S ?_)
  ·obtain⟨v24,hv24,h⟩:=run_bind h
   refine am [false] (spec_l2Good_sat hv24) SC (S ?_)
   refine al cs h (fun cs h=>S ?_) (fun cs h=>S ?_)
   ·refine al cs h (fun cs h=>S ?_) (fun cs h=>S ?_)
    ·refine ae (aL [] []) (S ?_)
     cases run_some h
     exact aj SC
    ·refine al cs h (fun cs h=>S ?_) (fun cs h=>S ?_)
     ·obtain⟨v43,hv43,h⟩:=run_bind h
      refine av (f:=(Bt.pv false)) hv43 SC (S ?_)
      refine ae (aL [] []) (S ?_)
      refine al cs h (fun cs h=>S ?_) (fun cs h=>S ?_)
      ·have h:=run_some h
       refine aq ⟨_,h,?_⟩
       exact ao SWx
      ·cases run_some h
       exact aj SC
     ·refine ae (aL [] []) (S ?_)
      have h:=run_some h
      refine aq ⟨_,h,?_⟩
      exact ao SWx
   ·refine ae (aL [] []) (S ?_)
    cases run_some h
    exact aj SC
  ·refine ae (aL [] []) (S ?_)
   cases run_some h
   exact aj SC
 ·refine S ?_
  refine aJ cs (by omega) (fun cs=>S ?_)
  cases run_some h
  exact aj SC

theorem spec_l2Atom_sat{a0:Tt}  {r:Bool}(h:spec_l2Atom a0=some r):Sat ah 86 [((ag false) a0)] (B r):=by
 obtain⟨h,cs⟩:=ar h
 unfold spec_l2Atom at h
 refine aw (nt:=35) (rs:=[.tmp 2]) (n:=100000) Tryz.func86 rfl rfl rfl rfl (by simp) (S ?_)
 refine al cs h (fun cs h=>S ?_) (fun cs h=>S ?_)
 ·refine al cs h (fun cs h=>S ?_) (fun cs h=>S ?_)
  ·obtain⟨v12,hv12,h⟩:=run_bind h
   refine am [false] (spec_l2Fits_sat hv12) SC (S ?_)
   refine al cs h (fun cs h=>S ?_) (fun cs h=>S ?_)
   ·obtain⟨v17,hv17,h⟩:=run_bind h
    refine av (f:=(ag false)) hv17 SC (S ?_)
    obtain⟨v19,hv19,h⟩:=run_bind h
    refine am [false] (spec_l2Nodes_sat hv19) SC (S ?_)
    refine al cs h (fun cs h=>S ?_) (fun cs h=>S ?_)
    ·obtain⟨v24,hv24,h⟩:=run_bind h
     refine av (f:=(ag false)) hv24 SC (S ?_)
     obtain⟨v26,hv26,h⟩:=run_bind h
     refine am [false] (spec_l2Nodes_sat hv26) SC (S ?_)
     cases run_some h
     exact aj SC
    ·cases run_some h
     exact aj SC
   ·cases run_some h
    exact aj SC
  ·cases run_some h
   exact aj SC
 ·obtain⟨v30,hv30,h⟩:=run_bind h
  refine am [false] (spec_l2Symbol_sat hv30) SC (S ?_)
  refine al cs h (fun cs h=>S ?_) (fun cs h=>S ?_)
  ·obtain⟨v33,hv33,h⟩:=run_bind h
   refine am [false] (spec_l2Good_sat hv33) SC (S ?_)
   cases run_some h
   exact aj SC
  ·cases run_some h
   exact aj SC

theorem spec_l2Any_sat{a0:Tt}  {r:Bool}(h:spec_l2Any a0=some r):Sat ah 54 [((ag false) a0)] (B r):=by
 obtain⟨h,cs⟩:=ar h
 unfold spec_l2Any at h
 refine aw (nt:=9) (rs:=[.tmp 2]) (n:=100000) Tryz.func54 rfl rfl rfl rfl (by simp) (S ?_)
 obtain⟨v4,hv4,h⟩:=run_bind h
 refine am [false] (spec_l2Good_sat hv4) SC (S ?_)
 refine al cs h (fun cs h=>S ?_) (fun cs h=>S ?_)
 ·cases run_some h
  exact aj SC
 ·obtain⟨v7,hv7,h⟩:=run_bind h
  refine am [false] (spec_l2Atom_sat hv7) SC (S ?_)
  cases run_some h
  exact aj SC

theorem spec_ApplySubstitution_sat{a0:Sa}{a1:Tt}  {r:Tt×Bool}(h:spec_ApplySubstitution a0 a1=some r):Sat ah 22 [((Sa.pv false) a0),((ag false) a1)] (.tup [((ag true) r.1),(B r.2)]):=by
 obtain⟨h,cs⟩:=ar h
 unfold spec_ApplySubstitution at h
 refine aw (nt:=24) (rs:=[.cell 4 43,.tmp 5]) (n:=100000) Tryz.func22 rfl rfl rfl rfl (by simp) (S ?_)
 obtain⟨v8,hv8,h⟩:=run_bind h
 refine am [false] (spec_l4Good_sat hv8) SC (S ?_)
 refine al cs h (fun cs h=>S ?_) (fun cs h=>S ?_)
 ·obtain⟨v12,hv12,h⟩:=run_bind h
  refine am [false] (spec_l2Any_sat hv12) SC (S ?_)
  refine al cs h (fun cs h=>S ?_) (fun cs h=>S ?_)
  ·obtain⟨v18,hv18,h⟩:=run_bind h
   refine am [false,false] (spec_l4Apply_sat hv18) SC (S ?_)
   obtain⟨v20,hv20,h⟩:=run_bind h
   refine am [false] (spec_l2Any_sat hv20) SC (S ?_)
   refine al cs h (fun cs h=>S ?_) (fun cs h=>S ?_)
   ·cases run_some h
    exact aj SC
   ·cases run_some h
    exact aj SC
  ·cases run_some h
   exact aj SC
 ·cases run_some h
  exact aj SC

theorem vTermsN_sat(n:Nat):(∀ (a0:Tt) (a1:Tt) (r:Bool),vTermsN n a0 a1=some r→Sat ah 23 [((ag false) a0),((ag false) a1)] (B r)):=by
 induction n with
 | zero=>exact fun _ _ _ h=>by simp[vTermsN] at h
 | succ n ih=>
  refine fun a0 a1 r h=>?_
  obtain⟨h,cs⟩:=ar h
  rw[vTermsN] at h
  refine aw (nt:=39) (rs:=[.tmp 4]) (n:=100000) Tryz.func23 rfl rfl rfl rfl (by simp) (S ?_)
  refine al cs h (fun cs h=>S ?_) (fun cs h=>S ?_)
  ·refine al cs h (fun cs h=>S ?_) (fun cs h=>S ?_)
   ·refine aW (b:=false) (sz:=2) (es:=a0.Args.map (ag false)) 13 SC fun hl13=>?_; rw[au] at hl13
    replace h:=run_loop h
    refine aM h (fun i4 s4=>[(2,.box (.pv ((ag false) a0))),(3,.box (.pv ((ag false) a1))),(5,.val (.pv (I (i4:Int))))]) (fun i4 s4=>[]) (ao SC) (fun i4 s4 hi h=>?_) (fun s4 h=>?_)
    ·have w:=wrap_succ (i:=i4) (by omega)
     refine S ?_
     refine aI cs (by omega) (fun cs=>S ?_)
     obtain⟨v30,hv30,h⟩:=run_bind h
     refine av (f:=(ag false)) hv30 SC (S ?_)
     obtain⟨v35,hv35,h⟩:=run_bind h
     refine av (f:=(ag false)) hv35 SC (S ?_)
     obtain⟨v37,hv37,h⟩:=run_bind h
     refine am [false,false] (ih _ _ _ hv37) SC (S ?_)
     refine ae (aL [] []) (S ?_)
     refine al cs h (fun cs h=>S ?_) (fun cs h=>S ?_)
     ·have h:=run_some h
      refine aq ⟨_,h,?_⟩
      exact ao SWx
     ·cases run_some h
      exact aj SC
    ·refine S ?_
     refine aJ cs (by omega) (fun cs=>S ?_)
     cases run_some h
     exact aj SC
   ·cases run_some h
    exact aj SC
  ·cases run_some h
   exact aj SC
theorem vTerms_sat{a0:Tt}{a1:Tt}{r:Bool}(h:vTerms a0 a1=some r):Sat ah 23 [((ag false) a0),((ag false) a1)] (B r):=by
 obtain⟨n,hn⟩:=lim_some h
 exact(vTermsN_sat n) _ _ _ hn

theorem FnGrammars_sat{a0:List Int}  {r:Bool}(h:FnGrammars a0=some r):Sat ah 5 [(.sl false 1 (a0.map (Ik .u8)))] (B r):=by
 obtain⟨h,cs⟩:=ar h
 unfold FnGrammars at h
 refine aw (nt:=140) (rs:=[.tmp 2]) (n:=100000) Tryz.func5 rfl rfl rfl rfl (by simp) (S ?_)
 obtain⟨v20,hv20,h⟩:=run_bind h
 refine am [false] (vBig_sat hv20) SC (S ?_)
 refine al cs h (fun cs h=>S ?_) (fun cs h=>S ?_)
 ·cases run_some h
  exact aj SC
 ·obtain⟨v22,hv22,h⟩:=run_bind h
  refine am [false] (Sat.vwOf (res':=(.sl false 2 (v22.map (ag false)))) (spec_DrawSmallestDecomposition_sat hv22) (by simp only[view_tup,view_sl,view_agg,view_lit,PV.views,RB,RS])) SC (S ?_)
  obtain⟨v25,hv25,h⟩:=run_bind h
  refine am [false] (impl_SmallestDecomposition_sat hv25) SC (S ?_)
  obtain⟨v30,hv30,h⟩:=run_bind h
  refine am [false] (impl_SizeGain_sat hv30) SC (S ?_)
  obtain⟨v35,hv35,h⟩:=run_bind h
  refine am [false] (spec_SmallestDecomposition_sat hv35) SC (S ?_)
  refine al cs h (fun cs h=>S ?_) (fun cs h=>S ?_)
  ·refine al cs h (fun cs h=>S ?_) (fun cs h=>S ?_)
   ·refine al cs h (fun cs h=>S ?_) (fun cs h=>S ?_)
    ·obtain⟨v61,hv61,h⟩:=run_bind h
     refine am [false,false] (impl_DescribesTerms_sat hv61) SC (S ?_)
     obtain⟨v66,hv66,h⟩:=run_bind h
     refine am [false] (Sat.vwOf (res':=(.tup [((ag false) v66.1),(.sl false 2 (v66.2.1.map (ag false))),(B v66.2.2)])) (impl_GeneralizeTerms_sat hv66) (by simp only[view_tup,view_sl,view_agg,view_lit,PV.views,RB,RS])) SC (S ?_)
     refine al cs h (fun cs h=>S ?_) (fun cs h=>S ?_)
     ·refine al cs h (fun cs h=>S ?_) (fun cs h=>S ?_)
      ·refine al cs h (fun cs h=>S ?_) (fun cs h=>S ?_)
       ·refine al cs h (fun cs h=>S ?_) (fun cs h=>S ?_)
        ·cases run_some h
         exact aj SC
        ·refine al cs h (fun cs h=>S ?_) (fun cs h=>S ?_)
         ·obtain⟨v100,hv100,h⟩:=run_bind h
          refine am [false] (impl_IsValidDecomposition_sat hv100) SC (S ?_)
          refine al cs h (fun cs h=>S ?_) (fun cs h=>S ?_)
          ·refine aW (b:=false) (sz:=2) (es:=v22.map (ag false)) 3 SC fun hl3=>?_; rw[au] at hl3
           replace h:=run_loop h
           refine aM h (fun i14 s14=>[(3,.val (.pv (.sl false 2 (v22.map (ag false))))),(12,.box (.pv ((ag false) v66.1))),(13,.val (.pv (.sl false 2 (v66.2.1.map (ag false))))),(15,.val (.pv (I (i14:Int))))]) (fun i14 s14=>[]) (ao SC) (fun i14 s14 hi h=>?_) (fun s14 h=>?_)
           ·have w:=wrap_succ (i:=i14) (by omega)
            refine S ?_
            refine aI cs (by omega) (fun cs=>S ?_)
            refine al cs h (fun cs h=>S ?_) (fun cs h=>S ?_)
            ·refine al cs h (fun cs h=>S ?_) (fun cs h=>S ?_)
             ·obtain⟨v121,hv121,h⟩:=run_bind h
              refine av (f:=(ag false)) hv121 SC (S ?_)
              obtain⟨v127,hv127,h⟩:=run_bind h
              refine am [false,false] (spec_ApplySubstitution_sat hv127) SC (S ?_)
              refine ae (aL [17] [1984,2032]) (S ?_)
              refine al cs h (fun cs h=>S ?_) (fun cs h=>S ?_)
              ·obtain⟨v136,hv136,h⟩:=run_bind h
               refine av (f:=(ag false)) hv136 SC (S ?_)
               obtain⟨v138,hv138,h⟩:=run_bind h
               refine am [false,false] (vTerms_sat hv138) SC (S ?_)
               refine ae (aL [] []) (S ?_)
               refine al cs h (fun cs h=>S ?_) (fun cs h=>S ?_)
               ·have h:=run_some h
                refine aq ⟨_,h,?_⟩
                exact ao SWx
               ·cases run_some h
                exact aj SC
              ·cases run_some h
               exact aj SC
             ·cases run_some h
              exact aj SC
            ·obtain⟨v136,hv136,h⟩:=run_bind h
             refine av (f:=(ag false)) hv136 SC (S ?_)
             obtain⟨v138,hv138,h⟩:=run_bind h
             refine am [false,false] (vTerms_sat hv138) SC (S ?_)
             refine ae (aL [] []) (S ?_)
             refine al cs h (fun cs h=>S ?_) (fun cs h=>S ?_)
             ·have h:=run_some h
              refine aq ⟨_,h,?_⟩
              exact ao SWx
             ·cases run_some h
              exact aj SC
           ·refine S ?_
            refine aJ cs (by omega) (fun cs=>S ?_)
            cases run_some h
            exact aj SC
          ·cases run_some h
           exact aj SC
         ·cases run_some h
          exact aj SC
       ·cases run_some h
        exact aj SC
      ·cases run_some h
       exact aj SC
     ·cases run_some h
      exact aj SC
    ·refine al cs h (fun cs h=>S ?_) (fun cs h=>S ?_)
     ·cases run_some h
      exact aj SC
     ·cases run_some h
      exact aj SC
   ·cases run_some h
    exact aj SC
  ·cases run_some h
   exact aj SC

end Go.Proofs.YtnjgpibbjiofpaaGreat
