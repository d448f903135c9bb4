/- Lemmas of the proof; each says what it shows. -/
import Derived.Test.YtkoghcphkdecoaaGreatGw0
set_option linter.unusedSimpArgs false
set_option linter.unusedVariables false
set_option linter.defProp false
set_option maxRecDepth 4000
namespace Go.Proofs.YtkoghcphkdecoaaGreat
open Go.Av
open And renaming intro→ag
open AppH renaming mk→aO
open CallH renaming mk→ai
open CondH renaming run→ak,t2→aD,f2→aE
open Dt renaming pv→al,psize→bq
open FinH renaming r→aL,l→ah
open Ft renaming pv→ae
open IdxH renaming mk→ar
open List renaming length_map→aB
open Mg renaming forN→aF,know_sl→aR
open RdH renaming mk→aA
open Sat renaming of_m→av
open SidxH renaming mk→bB
open St renaming le_trans→aM
open Tryz renaming prog→aj
open Tt renaming pv→am
set_option maxHeartbeats 4000000
theorem slI_12(n:Nat):(∀ (a0:Dt) (a1:Ft) (a2:Bool) (a3:Int) (r:Dt),slI_ n a0 a1 a2 a3=some r→Sat aj 72 [((al false) a0),((ae false) a1),(B a2),(I a3)] ((al false) r)):=by
 induction n with
 | zero=>exact fun _ _ _ _ _ h=>by simp[slI_] at h
 | succ n ih=>
  refine fun a0 a1 a2 a3 r h=>?_
  obtain⟨h,cs⟩:=Ro_ h
  rw[slI_] at h
  refine av (nt:=126) (rs:=[.cell 8 47]) (n:=100000) Tryz.func72 rfl rfl rfl rfl (by simp) (SB ?_)
  obtain⟨v22,hv22,h⟩:=rb_ h
  refine ai [false] (slO_7 hv22) SC (SB ?_)
  obtain⟨v25,hv25,h⟩:=rb_ h
  refine ai [false] (slO_2 hv25) SC (SB ?_)
  refine ag (DHa_ [9] [352,400,401]) (SB ?_)
  refine OrR.v [] (SB ?_)
  obtain⟨v32,hv32,h⟩:=rb_ h
  refine ai [false,false,false,false,false] (SvO_ (res':=((Sa.pv false) v32)) (slN_ hv32) (by simp only[vt_,vs_,va_,vl_,PV.views,RB,RS])) SC (SB ?_)
  refine ak cs h (fun cs h=>SB ?_) (fun cs h=>SB ?_)
  ·refine OrR.l (SB ?_)
   obtain⟨v41,hv41,h⟩:=rb_ h
   refine SlcH.mk (f:=(ae false)) hv41 SC (SB ?_)
   obtain⟨v42,hv42,h⟩:=rb_ h
   refine aO (f:=(ae false)) (fun a=>Ft.psize _ a) hv42 SC SC (SB ?_)
   obtain⟨v44,hv44,h⟩:=rb_ h
   refine ai [false] (SvO_ (res':=((ae false) v44)) (slO_2 hv44) (by simp only[vt_,vs_,va_,vl_,PV.views,RB,RS])) SC (SB ?_)
   refine OrR.l (SB ?_)
   obtain⟨v46,hv46,h⟩:=rb_ h
   refine aO (f:=(ae false)) (fun a=>Ft.psize _ a) hv46 SC SC (SB ?_)
   obtain⟨v49,hv49,h⟩:=rb_ h
   refine SlcH.mk (f:=(ae false)) hv49 SC (SB ?_)
   obtain⟨v50,hv50,h⟩:=rb_ h
   refine aO (f:=(ae false)) (fun a=>Ft.psize _ a) hv50 SC SC (SB ?_)
   refine ag (DHa_ [] [608,672,720,736,800]) (SB ?_)
   refine ak cs h (fun cs h=>SB ?_) (fun cs h=>SB ?_)
   ·obtain⟨v94,hv94,h⟩:=rb_ h
    refine ai [false,false] (slR_2 hv94) SC (SB ?_)
    refine ak cs h (fun cs h=>SB ?_) (fun cs h=>SB ?_)
    ·refine ak cs h (fun cs h=>SB ?_) (fun cs h=>SB ?_)
     ·refine Mkv_ (b:=false) (sz:=12) (es:=a0.Parts.map (al false)) (x:=(.pv ((al false) a0))) 0 [5] SC fun hl0=>?_; rw[aB] at hl0
      replace h:=rl_ h
      refine aF h (fun i16 s16=>[(2,.val (.pv (B a2))),(4,.box (.pv ((al false) a0))),(5,.box (.pv ((ae false) a1))),(8,.box (.node [(.pv (I 0)),(.node [(.pv (.sl true 5 [])),(.pv (.sl true 5 []))]),(.pv (I 0)),(.node [(.pv (Sx ⟨#[]⟩)),(.pv (.sl true 2 []))]),(.node [(.pv (I 0)),(.node [(.pv (Sx ⟨#[]⟩)),(.pv (.sl true 2 []))]),(.pv (Sx ⟨#[]⟩)),(.pv (.sl true 5 []))]),(.pv (.sl true 12 []))])),(9,.box (.node [(.pv (I a0.Rule)),(.node [(.own 800),(.pv (.sl false 5 (v32.Right.map (ae false))))]),(.pv (I a0.Main)),(.node [(.pv (Sx v22.Name)),(.own 352)]),(.node [(.pv (I v25.Op)),(.node [(.pv (Sx v25.Atom.Name)),(.own 400)]),(.pv (Sx v25.Var)),(.own 401)]),(.own 9348)])),(13,.val (.pv (I (IntKind.i64.wrap (a3-1))))),(15,.val (.pv (I (i16:Int))))]) (fun i16 s16=>[(800,(5,v50.map (ae false))),(352,(2,v22.Args.map (am true))),(400,(2,v25.Atom.Args.map (am true))),(401,(5,v25.Parts.map (ae true))),(9348,(12,s16.map (al false)))]) (aM (Sln_ (x:=(.node [(.pv (I a0.Rule)),(.node [(.own 800),(.pv (.sl false 5 (v32.Right.map (ae false))))]),(.pv (I a0.Main)),(.node [(.pv (Sx v22.Name)),(.own 352)]),(.node [(.pv (I v25.Op)),(.node [(.pv (Sx v25.Atom.Name)),(.own 400)]),(.pv (Sx v25.Var)),(.own 401)]),(.pv (.sl true 12 []))])) 9 [5] 9348 12 NM SC SC SC) (Slm_ SC)) (fun i16 s16 hi h=>?_) (fun s16 h=>?_)
      ·have w:=ws_ (i:=i16) (by omega)
       refine SB ?_
       refine aD cs (by omega) (fun cs=>SB ?_)
       obtain⟨v116,hv116,h⟩:=rb_ h
       refine ar (f:=(al false)) hv116 SC (SB ?_)
       obtain⟨v121,hv121,h⟩:=rb_ h
       refine ai [false,false,false,false] (ih _ _ _ _ _ hv121) SC (SB ?_)
       refine OrR.l (SB ?_)
       obtain⟨v123,hv123,h⟩:=rb_ h
       refine aO (f:=(al false)) (fun a=>bq _ a) hv123 SC SC (SB ?_)
       refine ag (DHa_ [] [1952,1968]) (SB ?_)
       have h:=rs_ h
       refine aA ⟨_,h,?_⟩
       refine aM (Slm_1 (S:=[(2,.val (.pv (B a2))),(4,.box (.pv ((al false) a0))),(5,.box (.pv ((ae false) a1))),(8,.box (.node [(.pv (I 0)),(.node [(.pv (.sl true 5 [])),(.pv (.sl true 5 []))]),(.pv (I 0)),(.node [(.pv (Sx ⟨#[]⟩)),(.pv (.sl true 2 []))]),(.node [(.pv (I 0)),(.node [(.pv (Sx ⟨#[]⟩)),(.pv (.sl true 2 []))]),(.pv (Sx ⟨#[]⟩)),(.pv (.sl true 5 []))]),(.pv (.sl true 12 []))])),(9,.box (.node [(.pv (I a0.Rule)),(.node [(.own 800),(.pv (.sl false 5 (v32.Right.map (ae false))))]),(.pv (I a0.Main)),(.node [(.pv (Sx v22.Name)),(.own 352)]),(.node [(.pv (I v25.Op)),(.node [(.pv (Sx v25.Atom.Name)),(.own 400)]),(.pv (Sx v25.Var)),(.own 401)]),(.own 1968)])),(13,.val (.pv (I (IntKind.i64.wrap (a3-1))))),(15,.val (.pv (I (IntKind.i64.wrap ((i16:Int)+1)))))]) (O:=[(800,(5,v50.map (ae false))),(352,(2,v22.Args.map (am true))),(400,(2,v25.Atom.Args.map (am true))),(401,(5,v25.Parts.map (ae true))),(1968,(12,v123.map (al false)))]) SW SW) ?_
       refine Slr_ 1968 9348 (by decide) NM ?_
       exact Slm_ SW
      ·refine SB ?_
       refine aE cs (by omega) (fun cs=>SB ?_)
       cases rs_ h
       exact aL SC
     ·refine Mkv_ (b:=false) (sz:=12) (es:=a0.Parts.map (al false)) (x:=(.pv ((al false) a0))) 0 [5] SC fun hl0=>?_; rw[aB] at hl0
      replace h:=rl_ h
      refine aF h (fun i16 s16=>[(2,.val (.pv (B a2))),(4,.box (.pv ((al false) a0))),(5,.box (.pv ((ae false) a1))),(8,.box (.node [(.pv (I 0)),(.node [(.pv (.sl true 5 [])),(.pv (.sl true 5 []))]),(.pv (I 0)),(.node [(.pv (Sx ⟨#[]⟩)),(.pv (.sl true 2 []))]),(.node [(.pv (I 0)),(.node [(.pv (Sx ⟨#[]⟩)),(.pv (.sl true 2 []))]),(.pv (Sx ⟨#[]⟩)),(.pv (.sl true 5 []))]),(.pv (.sl true 12 []))])),(9,.box (.node [(.pv (I a0.Rule)),(.node [(.own 800),(.pv (.sl false 5 (v32.Right.map (ae false))))]),(.pv (I a0.Main)),(.node [(.pv (Sx v22.Name)),(.own 352)]),(.node [(.pv (I v25.Op)),(.node [(.pv (Sx v25.Atom.Name)),(.own 400)]),(.pv (Sx v25.Var)),(.own 401)]),(.own 9348)])),(13,.val (.pv (I a3))),(15,.val (.pv (I (i16:Int))))]) (fun i16 s16=>[(800,(5,v50.map (ae false))),(352,(2,v22.Args.map (am true))),(400,(2,v25.Atom.Args.map (am true))),(401,(5,v25.Parts.map (ae true))),(9348,(12,s16.map (al false)))]) (aM (Sln_ (x:=(.node [(.pv (I a0.Rule)),(.node [(.own 800),(.pv (.sl false 5 (v32.Right.map (ae false))))]),(.pv (I a0.Main)),(.node [(.pv (Sx v22.Name)),(.own 352)]),(.node [(.pv (I v25.Op)),(.node [(.pv (Sx v25.Atom.Name)),(.own 400)]),(.pv (Sx v25.Var)),(.own 401)]),(.pv (.sl true 12 []))])) 9 [5] 9348 12 NM SC SC SC) (Slm_ SC)) (fun i16 s16 hi h=>?_) (fun s16 h=>?_)
      ·have w:=ws_ (i:=i16) (by omega)
       refine SB ?_
       refine aD cs (by omega) (fun cs=>SB ?_)
       obtain⟨v116,hv116,h⟩:=rb_ h
       refine ar (f:=(al false)) hv116 SC (SB ?_)
       obtain⟨v121,hv121,h⟩:=rb_ h
       refine ai [false,false,false,false] (ih _ _ _ _ _ hv121) SC (SB ?_)
       refine OrR.l (SB ?_)
       obtain⟨v123,hv123,h⟩:=rb_ h
       refine aO (f:=(al false)) (fun a=>bq _ a) hv123 SC SC (SB ?_)
       refine ag (DHa_ [] [1952,1968]) (SB ?_)
       have h:=rs_ h
       refine aA ⟨_,h,?_⟩
       refine aM (Slm_1 (S:=[(2,.val (.pv (B a2))),(4,.box (.pv ((al false) a0))),(5,.box (.pv ((ae false) a1))),(8,.box (.node [(.pv (I 0)),(.node [(.pv (.sl true 5 [])),(.pv (.sl true 5 []))]),(.pv (I 0)),(.node [(.pv (Sx ⟨#[]⟩)),(.pv (.sl true 2 []))]),(.node [(.pv (I 0)),(.node [(.pv (Sx ⟨#[]⟩)),(.pv (.sl true 2 []))]),(.pv (Sx ⟨#[]⟩)),(.pv (.sl true 5 []))]),(.pv (.sl true 12 []))])),(9,.box (.node [(.pv (I a0.Rule)),(.node [(.own 800),(.pv (.sl false 5 (v32.Right.map (ae false))))]),(.pv (I a0.Main)),(.node [(.pv (Sx v22.Name)),(.own 352)]),(.node [(.pv (I v25.Op)),(.node [(.pv (Sx v25.Atom.Name)),(.own 400)]),(.pv (Sx v25.Var)),(.own 401)]),(.own 1968)])),(13,.val (.pv (I a3))),(15,.val (.pv (I (IntKind.i64.wrap ((i16:Int)+1)))))]) (O:=[(800,(5,v50.map (ae false))),(352,(2,v22.Args.map (am true))),(400,(2,v25.Atom.Args.map (am true))),(401,(5,v25.Parts.map (ae true))),(1968,(12,v123.map (al false)))]) SW SW) ?_
       refine Slr_ 1968 9348 (by decide) NM ?_
       exact Slm_ SW
      ·refine SB ?_
       refine aE cs (by omega) (fun cs=>SB ?_)
       cases rs_ h
       exact aL SC
    ·refine Mkv_ (b:=false) (sz:=12) (es:=a0.Parts.map (al false)) (x:=(.pv ((al false) a0))) 0 [5] SC fun hl0=>?_; rw[aB] at hl0
     replace h:=rl_ h
     refine aF h (fun i16 s16=>[(2,.val (.pv (B a2))),(4,.box (.pv ((al false) a0))),(5,.box (.pv ((ae false) a1))),(8,.box (.node [(.pv (I 0)),(.node [(.pv (.sl true 5 [])),(.pv (.sl true 5 []))]),(.pv (I 0)),(.node [(.pv (Sx ⟨#[]⟩)),(.pv (.sl true 2 []))]),(.node [(.pv (I 0)),(.node [(.pv (Sx ⟨#[]⟩)),(.pv (.sl true 2 []))]),(.pv (Sx ⟨#[]⟩)),(.pv (.sl true 5 []))]),(.pv (.sl true 12 []))])),(9,.box (.node [(.pv (I a0.Rule)),(.node [(.own 800),(.pv (.sl false 5 (v32.Right.map (ae false))))]),(.pv (I a0.Main)),(.node [(.pv (Sx v22.Name)),(.own 352)]),(.node [(.pv (I v25.Op)),(.node [(.pv (Sx v25.Atom.Name)),(.own 400)]),(.pv (Sx v25.Var)),(.own 401)]),(.own 9348)])),(13,.val (.pv (I a3))),(15,.val (.pv (I (i16:Int))))]) (fun i16 s16=>[(800,(5,v50.map (ae false))),(352,(2,v22.Args.map (am true))),(400,(2,v25.Atom.Args.map (am true))),(401,(5,v25.Parts.map (ae true))),(9348,(12,s16.map (al false)))]) (aM (Sln_ (x:=(.node [(.pv (I a0.Rule)),(.node [(.own 800),(.pv (.sl false 5 (v32.Right.map (ae false))))]),(.pv (I a0.Main)),(.node [(.pv (Sx v22.Name)),(.own 352)]),(.node [(.pv (I v25.Op)),(.node [(.pv (Sx v25.Atom.Name)),(.own 400)]),(.pv (Sx v25.Var)),(.own 401)]),(.pv (.sl true 12 []))])) 9 [5] 9348 12 NM SC SC SC) (Slm_ SC)) (fun i16 s16 hi h=>?_) (fun s16 h=>?_)
     ·have w:=ws_ (i:=i16) (by omega)
      refine SB ?_
      refine aD cs (by omega) (fun cs=>SB ?_)
      obtain⟨v116,hv116,h⟩:=rb_ h
      refine ar (f:=(al false)) hv116 SC (SB ?_)
      obtain⟨v121,hv121,h⟩:=rb_ h
      refine ai [false,false,false,false] (ih _ _ _ _ _ hv121) SC (SB ?_)
      refine OrR.l (SB ?_)
      obtain⟨v123,hv123,h⟩:=rb_ h
      refine aO (f:=(al false)) (fun a=>bq _ a) hv123 SC SC (SB ?_)
      refine ag (DHa_ [] [1952,1968]) (SB ?_)
      have h:=rs_ h
      refine aA ⟨_,h,?_⟩
      refine aM (Slm_1 (S:=[(2,.val (.pv (B a2))),(4,.box (.pv ((al false) a0))),(5,.box (.pv ((ae false) a1))),(8,.box (.node [(.pv (I 0)),(.node [(.pv (.sl true 5 [])),(.pv (.sl true 5 []))]),(.pv (I 0)),(.node [(.pv (Sx ⟨#[]⟩)),(.pv (.sl true 2 []))]),(.node [(.pv (I 0)),(.node [(.pv (Sx ⟨#[]⟩)),(.pv (.sl true 2 []))]),(.pv (Sx ⟨#[]⟩)),(.pv (.sl true 5 []))]),(.pv (.sl true 12 []))])),(9,.box (.node [(.pv (I a0.Rule)),(.node [(.own 800),(.pv (.sl false 5 (v32.Right.map (ae false))))]),(.pv (I a0.Main)),(.node [(.pv (Sx v22.Name)),(.own 352)]),(.node [(.pv (I v25.Op)),(.node [(.pv (Sx v25.Atom.Name)),(.own 400)]),(.pv (Sx v25.Var)),(.own 401)]),(.own 1968)])),(13,.val (.pv (I a3))),(15,.val (.pv (I (IntKind.i64.wrap ((i16:Int)+1)))))]) (O:=[(800,(5,v50.map (ae false))),(352,(2,v22.Args.map (am true))),(400,(2,v25.Atom.Args.map (am true))),(401,(5,v25.Parts.map (ae true))),(1968,(12,v123.map (al false)))]) SW SW) ?_
      refine Slr_ 1968 9348 (by decide) NM ?_
      exact Slm_ SW
     ·refine SB ?_
      refine aE cs (by omega) (fun cs=>SB ?_)
      cases rs_ h
      exact aL SC
   ·obtain⟨v77,hv77,h⟩:=rb_ h
    refine ai [false] (slO_4 hv77) SC (SB ?_)
    refine ak cs h (fun cs h=>SB ?_) (fun cs h=>SB ?_)
    ·refine ak cs h (fun cs h=>SB ?_) (fun cs h=>SB ?_)
     ·obtain⟨v94,hv94,h⟩:=rb_ h
      refine ai [false,false] (slR_2 hv94) SC (SB ?_)
      refine ak cs h (fun cs h=>SB ?_) (fun cs h=>SB ?_)
      ·refine ak cs h (fun cs h=>SB ?_) (fun cs h=>SB ?_)
       ·refine Mkv_ (b:=false) (sz:=12) (es:=a0.Parts.map (al false)) (x:=(.pv ((al false) a0))) 0 [5] SC fun hl0=>?_; rw[aB] at hl0
        replace h:=rl_ h
        refine aF h (fun i16 s16=>[(2,.val (.pv (B a2))),(4,.box (.pv ((al false) a0))),(5,.box (.pv ((ae false) a1))),(8,.box (.node [(.pv (I 0)),(.node [(.pv (.sl true 5 [])),(.pv (.sl true 5 []))]),(.pv (I 0)),(.node [(.pv (Sx ⟨#[]⟩)),(.pv (.sl true 2 []))]),(.node [(.pv (I 0)),(.node [(.pv (Sx ⟨#[]⟩)),(.pv (.sl true 2 []))]),(.pv (Sx ⟨#[]⟩)),(.pv (.sl true 5 []))]),(.pv (.sl true 12 []))])),(9,.box (.node [(.pv (I a0.Rule)),(.node [(.own 800),(.pv (.sl false 5 (v32.Right.map (ae false))))]),(.pv (I (IntKind.i64.wrap (a0.Main+1)))),(.node [(.pv (Sx v22.Name)),(.own 352)]),(.node [(.pv (I v25.Op)),(.node [(.pv (Sx v25.Atom.Name)),(.own 400)]),(.pv (Sx v25.Var)),(.own 401)]),(.own 9348)])),(13,.val (.pv (I (IntKind.i64.wrap (a3-1))))),(15,.val (.pv (I (i16:Int))))]) (fun i16 s16=>[(800,(5,v50.map (ae false))),(352,(2,v22.Args.map (am true))),(400,(2,v25.Atom.Args.map (am true))),(401,(5,v25.Parts.map (ae true))),(9348,(12,s16.map (al false)))]) (aM (Sln_ (x:=(.node [(.pv (I a0.Rule)),(.node [(.own 800),(.pv (.sl false 5 (v32.Right.map (ae false))))]),(.pv (I (IntKind.i64.wrap (a0.Main+1)))),(.node [(.pv (Sx v22.Name)),(.own 352)]),(.node [(.pv (I v25.Op)),(.node [(.pv (Sx v25.Atom.Name)),(.own 400)]),(.pv (Sx v25.Var)),(.own 401)]),(.pv (.sl true 12 []))])) 9 [5] 9348 12 NM SC SC SC) (Slm_ SC)) (fun i16 s16 hi h=>?_) (fun s16 h=>?_)
        ·have w:=ws_ (i:=i16) (by omega)
         refine SB ?_
         refine aD cs (by omega) (fun cs=>SB ?_)
         obtain⟨v116,hv116,h⟩:=rb_ h
         refine ar (f:=(al false)) hv116 SC (SB ?_)
         obtain⟨v121,hv121,h⟩:=rb_ h
         refine ai [false,false,false,false] (ih _ _ _ _ _ hv121) SC (SB ?_)
         refine OrR.l (SB ?_)
         obtain⟨v123,hv123,h⟩:=rb_ h
         refine aO (f:=(al false)) (fun a=>bq _ a) hv123 SC SC (SB ?_)
         refine ag (DHa_ [] [1952,1968]) (SB ?_)
         have h:=rs_ h
         refine aA ⟨_,h,?_⟩
         refine aM (Slm_1 (S:=[(2,.val (.pv (B a2))),(4,.box (.pv ((al false) a0))),(5,.box (.pv ((ae false) a1))),(8,.box (.node [(.pv (I 0)),(.node [(.pv (.sl true 5 [])),(.pv (.sl true 5 []))]),(.pv (I 0)),(.node [(.pv (Sx ⟨#[]⟩)),(.pv (.sl true 2 []))]),(.node [(.pv (I 0)),(.node [(.pv (Sx ⟨#[]⟩)),(.pv (.sl true 2 []))]),(.pv (Sx ⟨#[]⟩)),(.pv (.sl true 5 []))]),(.pv (.sl true 12 []))])),(9,.box (.node [(.pv (I a0.Rule)),(.node [(.own 800),(.pv (.sl false 5 (v32.Right.map (ae false))))]),(.pv (I (IntKind.i64.wrap (a0.Main+1)))),(.node [(.pv (Sx v22.Name)),(.own 352)]),(.node [(.pv (I v25.Op)),(.node [(.pv (Sx v25.Atom.Name)),(.own 400)]),(.pv (Sx v25.Var)),(.own 401)]),(.own 1968)])),(13,.val (.pv (I (IntKind.i64.wrap (a3-1))))),(15,.val (.pv (I (IntKind.i64.wrap ((i16:Int)+1)))))]) (O:=[(800,(5,v50.map (ae false))),(352,(2,v22.Args.map (am true))),(400,(2,v25.Atom.Args.map (am true))),(401,(5,v25.Parts.map (ae true))),(1968,(12,v123.map (al false)))]) SW SW) ?_
         refine Slr_ 1968 9348 (by decide) NM ?_
         exact Slm_ SW
        ·refine SB ?_
         refine aE cs (by omega) (fun cs=>SB ?_)
         cases rs_ h
         exact aL SC
       ·refine Mkv_ (b:=false) (sz:=12) (es:=a0.Parts.map (al false)) (x:=(.pv ((al false) a0))) 0 [5] SC fun hl0=>?_; rw[aB] at hl0
        replace h:=rl_ h
        refine aF h (fun i16 s16=>[(2,.val (.pv (B a2))),(4,.box (.pv ((al false) a0))),(5,.box (.pv ((ae false) a1))),(8,.box (.node [(.pv (I 0)),(.node [(.pv (.sl true 5 [])),(.pv (.sl true 5 []))]),(.pv (I 0)),(.node [(.pv (Sx ⟨#[]⟩)),(.pv (.sl true 2 []))]),(.node [(.pv (I 0)),(.node [(.pv (Sx ⟨#[]⟩)),(.pv (.sl true 2 []))]),(.pv (Sx ⟨#[]⟩)),(.pv (.sl true 5 []))]),(.pv (.sl true 12 []))])),(9,.box (.node [(.pv (I a0.Rule)),(.node [(.own 800),(.pv (.sl false 5 (v32.Right.map (ae false))))]),(.pv (I (IntKind.i64.wrap (a0.Main+1)))),(.node [(.pv (Sx v22.Name)),(.own 352)]),(.node [(.pv (I v25.Op)),(.node [(.pv (Sx v25.Atom.Name)),(.own 400)]),(.pv (Sx v25.Var)),(.own 401)]),(.own 9348)])),(13,.val (.pv (I a3))),(15,.val (.pv (I (i16:Int))))]) (fun i16 s16=>[(800,(5,v50.map (ae false))),(352,(2,v22.Args.map (am true))),(400,(2,v25.Atom.Args.map (am true))),(401,(5,v25.Parts.map (ae true))),(9348,(12,s16.map (al false)))]) (aM (Sln_ (x:=(.node [(.pv (I a0.Rule)),(.node [(.own 800),(.pv (.sl false 5 (v32.Right.map (ae false))))]),(.pv (I (IntKind.i64.wrap (a0.Main+1)))),(.node [(.pv (Sx v22.Name)),(.own 352)]),(.node [(.pv (I v25.Op)),(.node [(.pv (Sx v25.Atom.Name)),(.own 400)]),(.pv (Sx v25.Var)),(.own 401)]),(.pv (.sl true 12 []))])) 9 [5] 9348 12 NM SC SC SC) (Slm_ SC)) (fun i16 s16 hi h=>?_) (fun s16 h=>?_)
        ·have w:=ws_ (i:=i16) (by omega)
         refine SB ?_
         refine aD cs (by omega) (fun cs=>SB ?_)
         obtain⟨v116,hv116,h⟩:=rb_ h
         refine ar (f:=(al false)) hv116 SC (SB ?_)
         obtain⟨v121,hv121,h⟩:=rb_ h
         refine ai [false,false,false,false] (ih _ _ _ _ _ hv121) SC (SB ?_)
         refine OrR.l (SB ?_)
         obtain⟨v123,hv123,h⟩:=rb_ h
         refine aO (f:=(al false)) (fun a=>bq _ a) hv123 SC SC (SB ?_)
         refine ag (DHa_ [] [1952,1968]) (SB ?_)
         have h:=rs_ h
         refine aA ⟨_,h,?_⟩
         refine aM (Slm_1 (S:=[(2,.val (.pv (B a2))),(4,.box (.pv ((al false) a0))),(5,.box (.pv ((ae false) a1))),(8,.box (.node [(.pv (I 0)),(.node [(.pv (.sl true 5 [])),(.pv (.sl true 5 []))]),(.pv (I 0)),(.node [(.pv (Sx ⟨#[]⟩)),(.pv (.sl true 2 []))]),(.node [(.pv (I 0)),(.node [(.pv (Sx ⟨#[]⟩)),(.pv (.sl true 2 []))]),(.pv (Sx ⟨#[]⟩)),(.pv (.sl true 5 []))]),(.pv (.sl true 12 []))])),(9,.box (.node [(.pv (I a0.Rule)),(.node [(.own 800),(.pv (.sl false 5 (v32.Right.map (ae false))))]),(.pv (I (IntKind.i64.wrap (a0.Main+1)))),(.node [(.pv (Sx v22.Name)),(.own 352)]),(.node [(.pv (I v25.Op)),(.node [(.pv (Sx v25.Atom.Name)),(.own 400)]),(.pv (Sx v25.Var)),(.own 401)]),(.own 1968)])),(13,.val (.pv (I a3))),(15,.val (.pv (I (IntKind.i64.wrap ((i16:Int)+1)))))]) (O:=[(800,(5,v50.map (ae false))),(352,(2,v22.Args.map (am true))),(400,(2,v25.Atom.Args.map (am true))),(401,(5,v25.Parts.map (ae true))),(1968,(12,v123.map (al false)))]) SW SW) ?_
         refine Slr_ 1968 9348 (by decide) NM ?_
         exact Slm_ SW
        ·refine SB ?_
         refine aE cs (by omega) (fun cs=>SB ?_)
         cases rs_ h
         exact aL SC
      ·refine Mkv_ (b:=false) (sz:=12) (es:=a0.Parts.map (al false)) (x:=(.pv ((al false) a0))) 0 [5] SC fun hl0=>?_; rw[aB] at hl0
       replace h:=rl_ h
       refine aF h (fun i16 s16=>[(2,.val (.pv (B a2))),(4,.box (.pv ((al false) a0))),(5,.box (.pv ((ae false) a1))),(8,.box (.node [(.pv (I 0)),(.node [(.pv (.sl true 5 [])),(.pv (.sl true 5 []))]),(.pv (I 0)),(.node [(.pv (Sx ⟨#[]⟩)),(.pv (.sl true 2 []))]),(.node [(.pv (I 0)),(.node [(.pv (Sx ⟨#[]⟩)),(.pv (.sl true 2 []))]),(.pv (Sx ⟨#[]⟩)),(.pv (.sl true 5 []))]),(.pv (.sl true 12 []))])),(9,.box (.node [(.pv (I a0.Rule)),(.node [(.own 800),(.pv (.sl false 5 (v32.Right.map (ae false))))]),(.pv (I (IntKind.i64.wrap (a0.Main+1)))),(.node [(.pv (Sx v22.Name)),(.own 352)]),(.node [(.pv (I v25.Op)),(.node [(.pv (Sx v25.Atom.Name)),(.own 400)]),(.pv (Sx v25.Var)),(.own 401)]),(.own 9348)])),(13,.val (.pv (I a3))),(15,.val (.pv (I (i16:Int))))]) (fun i16 s16=>[(800,(5,v50.map (ae false))),(352,(2,v22.Args.map (am true))),(400,(2,v25.Atom.Args.map (am true))),(401,(5,v25.Parts.map (ae true))),(9348,(12,s16.map (al false)))]) (aM (Sln_ (x:=(.node [(.pv (I a0.Rule)),(.node [(.own 800),(.pv (.sl false 5 (v32.Right.map (ae false))))]),(.pv (I (IntKind.i64.wrap (a0.Main+1)))),(.node [(.pv (Sx v22.Name)),(.own 352)]),(.node [(.pv (I v25.Op)),(.node [(.pv (Sx v25.Atom.Name)),(.own 400)]),(.pv (Sx v25.Var)),(.own 401)]),(.pv (.sl true 12 []))])) 9 [5] 9348 12 NM SC SC SC) (Slm_ SC)) (fun i16 s16 hi h=>?_) (fun s16 h=>?_)
       ·have w:=ws_ (i:=i16) (by omega)
        refine SB ?_
        refine aD cs (by omega) (fun cs=>SB ?_)
        obtain⟨v116,hv116,h⟩:=rb_ h
        refine ar (f:=(al false)) hv116 SC (SB ?_)
        obtain⟨v121,hv121,h⟩:=rb_ h
        refine ai [false,false,false,false] (ih _ _ _ _ _ hv121) SC (SB ?_)
        refine OrR.l (SB ?_)
        obtain⟨v123,hv123,h⟩:=rb_ h
        refine aO (f:=(al false)) (fun a=>bq _ a) hv123 SC SC (SB ?_)
        refine ag (DHa_ [] [1952,1968]) (SB ?_)
        have h:=rs_ h
        refine aA ⟨_,h,?_⟩
        refine aM (Slm_1 (S:=[(2,.val (.pv (B a2))),(4,.box (.pv ((al false) a0))),(5,.box (.pv ((ae false) a1))),(8,.box (.node [(.pv (I 0)),(.node [(.pv (.sl true 5 [])),(.pv (.sl true 5 []))]),(.pv (I 0)),(.node [(.pv (Sx ⟨#[]⟩)),(.pv (.sl true 2 []))]),(.node [(.pv (I 0)),(.node [(.pv (Sx ⟨#[]⟩)),(.pv (.sl true 2 []))]),(.pv (Sx ⟨#[]⟩)),(.pv (.sl true 5 []))]),(.pv (.sl true 12 []))])),(9,.box (.node [(.pv (I a0.Rule)),(.node [(.own 800),(.pv (.sl false 5 (v32.Right.map (ae false))))]),(.pv (I (IntKind.i64.wrap (a0.Main+1)))),(.node [(.pv (Sx v22.Name)),(.own 352)]),(.node [(.pv (I v25.Op)),(.node [(.pv (Sx v25.Atom.Name)),(.own 400)]),(.pv (Sx v25.Var)),(.own 401)]),(.own 1968)])),(13,.val (.pv (I a3))),(15,.val (.pv (I (IntKind.i64.wrap ((i16:Int)+1)))))]) (O:=[(800,(5,v50.map (ae false))),(352,(2,v22.Args.map (am true))),(400,(2,v25.Atom.Args.map (am true))),(401,(5,v25.Parts.map (ae true))),(1968,(12,v123.map (al false)))]) SW SW) ?_
        refine Slr_ 1968 9348 (by decide) NM ?_
        exact Slm_ SW
       ·refine SB ?_
        refine aE cs (by omega) (fun cs=>SB ?_)
        cases rs_ h
        exact aL SC
     ·obtain⟨v94,hv94,h⟩:=rb_ h
      refine ai [false,false] (slR_2 hv94) SC (SB ?_)
      refine ak cs h (fun cs h=>SB ?_) (fun cs h=>SB ?_)
      ·refine ak cs h (fun cs h=>SB ?_) (fun cs h=>SB ?_)
       ·refine Mkv_ (b:=false) (sz:=12) (es:=a0.Parts.map (al false)) (x:=(.pv ((al false) a0))) 0 [5] SC fun hl0=>?_; rw[aB] at hl0
        replace h:=rl_ h
        refine aF h (fun i16 s16=>[(2,.val (.pv (B a2))),(4,.box (.pv ((al false) a0))),(5,.box (.pv ((ae false) a1))),(8,.box (.node [(.pv (I 0)),(.node [(.pv (.sl true 5 [])),(.pv (.sl true 5 []))]),(.pv (I 0)),(.node [(.pv (Sx ⟨#[]⟩)),(.pv (.sl true 2 []))]),(.node [(.pv (I 0)),(.node [(.pv (Sx ⟨#[]⟩)),(.pv (.sl true 2 []))]),(.pv (Sx ⟨#[]⟩)),(.pv (.sl true 5 []))]),(.pv (.sl true 12 []))])),(9,.box (.node [(.pv (I a0.Rule)),(.node [(.own 800),(.pv (.sl false 5 (v32.Right.map (ae false))))]),(.pv (I a0.Main)),(.node [(.pv (Sx v22.Name)),(.own 352)]),(.node [(.pv (I v25.Op)),(.node [(.pv (Sx v25.Atom.Name)),(.own 400)]),(.pv (Sx v25.Var)),(.own 401)]),(.own 9348)])),(13,.val (.pv (I (IntKind.i64.wrap (a3-1))))),(15,.val (.pv (I (i16:Int))))]) (fun i16 s16=>[(800,(5,v50.map (ae false))),(352,(2,v22.Args.map (am true))),(400,(2,v25.Atom.Args.map (am true))),(401,(5,v25.Parts.map (ae true))),(9348,(12,s16.map (al false)))]) (aM (Sln_ (x:=(.node [(.pv (I a0.Rule)),(.node [(.own 800),(.pv (.sl false 5 (v32.Right.map (ae false))))]),(.pv (I a0.Main)),(.node [(.pv (Sx v22.Name)),(.own 352)]),(.node [(.pv (I v25.Op)),(.node [(.pv (Sx v25.Atom.Name)),(.own 400)]),(.pv (Sx v25.Var)),(.own 401)]),(.pv (.sl true 12 []))])) 9 [5] 9348 12 NM SC SC SC) (Slm_ SC)) (fun i16 s16 hi h=>?_) (fun s16 h=>?_)
        ·have w:=ws_ (i:=i16) (by omega)
         refine SB ?_
         refine aD cs (by omega) (fun cs=>SB ?_)
         obtain⟨v116,hv116,h⟩:=rb_ h
         refine ar (f:=(al false)) hv116 SC (SB ?_)
         obtain⟨v121,hv121,h⟩:=rb_ h
         refine ai [false,false,false,false] (ih _ _ _ _ _ hv121) SC (SB ?_)
         refine OrR.l (SB ?_)
         obtain⟨v123,hv123,h⟩:=rb_ h
         refine aO (f:=(al false)) (fun a=>bq _ a) hv123 SC SC (SB ?_)
         refine ag (DHa_ [] [1952,1968]) (SB ?_)
         have h:=rs_ h
         refine aA ⟨_,h,?_⟩
         refine aM (Slm_1 (S:=[(2,.val (.pv (B a2))),(4,.box (.pv ((al false) a0))),(5,.box (.pv ((ae false) a1))),(8,.box (.node [(.pv (I 0)),(.node [(.pv (.sl true 5 [])),(.pv (.sl true 5 []))]),(.pv (I 0)),(.node [(.pv (Sx ⟨#[]⟩)),(.pv (.sl true 2 []))]),(.node [(.pv (I 0)),(.node [(.pv (Sx ⟨#[]⟩)),(.pv (.sl true 2 []))]),(.pv (Sx ⟨#[]⟩)),(.pv (.sl true 5 []))]),(.pv (.sl true 12 []))])),(9,.box (.node [(.pv (I a0.Rule)),(.node [(.own 800),(.pv (.sl false 5 (v32.Right.map (ae false))))]),(.pv (I a0.Main)),(.node [(.pv (Sx v22.Name)),(.own 352)]),(.node [(.pv (I v25.Op)),(.node [(.pv (Sx v25.Atom.Name)),(.own 400)]),(.pv (Sx v25.Var)),(.own 401)]),(.own 1968)])),(13,.val (.pv (I (IntKind.i64.wrap (a3-1))))),(15,.val (.pv (I (IntKind.i64.wrap ((i16:Int)+1)))))]) (O:=[(800,(5,v50.map (ae false))),(352,(2,v22.Args.map (am true))),(400,(2,v25.Atom.Args.map (am true))),(401,(5,v25.Parts.map (ae true))),(1968,(12,v123.map (al false)))]) SW SW) ?_
         refine Slr_ 1968 9348 (by decide) NM ?_
         exact Slm_ SW
        ·refine SB ?_
         refine aE cs (by omega) (fun cs=>SB ?_)
         cases rs_ h
         exact aL SC
       ·refine Mkv_ (b:=false) (sz:=12) (es:=a0.Parts.map (al false)) (x:=(.pv ((al false) a0))) 0 [5] SC fun hl0=>?_; rw[aB] at hl0
        replace h:=rl_ h
        refine aF h (fun i16 s16=>[(2,.val (.pv (B a2))),(4,.box (.pv ((al false) a0))),(5,.box (.pv ((ae false) a1))),(8,.box (.node [(.pv (I 0)),(.node [(.pv (.sl true 5 [])),(.pv (.sl true 5 []))]),(.pv (I 0)),(.node [(.pv (Sx ⟨#[]⟩)),(.pv (.sl true 2 []))]),(.node [(.pv (I 0)),(.node [(.pv (Sx ⟨#[]⟩)),(.pv (.sl true 2 []))]),(.pv (Sx ⟨#[]⟩)),(.pv (.sl true 5 []))]),(.pv (.sl true 12 []))])),(9,.box (.node [(.pv (I a0.Rule)),(.node [(.own 800),(.pv (.sl false 5 (v32.Right.map (ae false))))]),(.pv (I a0.Main)),(.node [(.pv (Sx v22.Name)),(.own 352)]),(.node [(.pv (I v25.Op)),(.node [(.pv (Sx v25.Atom.Name)),(.own 400)]),(.pv (Sx v25.Var)),(.own 401)]),(.own 9348)])),(13,.val (.pv (I a3))),(15,.val (.pv (I (i16:Int))))]) (fun i16 s16=>[(800,(5,v50.map (ae false))),(352,(2,v22.Args.map (am true))),(400,(2,v25.Atom.Args.map (am true))),(401,(5,v25.Parts.map (ae true))),(9348,(12,s16.map (al false)))]) (aM (Sln_ (x:=(.node [(.pv (I a0.Rule)),(.node [(.own 800),(.pv (.sl false 5 (v32.Right.map (ae false))))]),(.pv (I a0.Main)),(.node [(.pv (Sx v22.Name)),(.own 352)]),(.node [(.pv (I v25.Op)),(.node [(.pv (Sx v25.Atom.Name)),(.own 400)]),(.pv (Sx v25.Var)),(.own 401)]),(.pv (.sl true 12 []))])) 9 [5] 9348 12 NM SC SC SC) (Slm_ SC)) (fun i16 s16 hi h=>?_) (fun s16 h=>?_)
        ·have w:=ws_ (i:=i16) (by omega)
         refine SB ?_
         refine aD cs (by omega) (fun cs=>SB ?_)
         obtain⟨v116,hv116,h⟩:=rb_ h
         refine ar (f:=(al false)) hv116 SC (SB ?_)
         obtain⟨v121,hv121,h⟩:=rb_ h
         refine ai [false,false,false,false] (ih _ _ _ _ _ hv121) SC (SB ?_)
         refine OrR.l (SB ?_)
         obtain⟨v123,hv123,h⟩:=rb_ h
         refine aO (f:=(al false)) (fun a=>bq _ a) hv123 SC SC (SB ?_)
         refine ag (DHa_ [] [1952,1968]) (SB ?_)
         have h:=rs_ h
         refine aA ⟨_,h,?_⟩
         refine aM (Slm_1 (S:=[(2,.val (.pv (B a2))),(4,.box (.pv ((al false) a0))),(5,.box (.pv ((ae false) a1))),(8,.box (.node [(.pv (I 0)),(.node [(.pv (.sl true 5 [])),(.pv (.sl true 5 []))]),(.pv (I 0)),(.node [(.pv (Sx ⟨#[]⟩)),(.pv (.sl true 2 []))]),(.node [(.pv (I 0)),(.node [(.pv (Sx ⟨#[]⟩)),(.pv (.sl true 2 []))]),(.pv (Sx ⟨#[]⟩)),(.pv (.sl true 5 []))]),(.pv (.sl true 12 []))])),(9,.box (.node [(.pv (I a0.Rule)),(.node [(.own 800),(.pv (.sl false 5 (v32.Right.map (ae false))))]),(.pv (I a0.Main)),(.node [(.pv (Sx v22.Name)),(.own 352)]),(.node [(.pv (I v25.Op)),(.node [(.pv (Sx v25.Atom.Name)),(.own 400)]),(.pv (Sx v25.Var)),(.own 401)]),(.own 1968)])),(13,.val (.pv (I a3))),(15,.val (.pv (I (IntKind.i64.wrap ((i16:Int)+1)))))]) (O:=[(800,(5,v50.map (ae false))),(352,(2,v22.Args.map (am true))),(400,(2,v25.Atom.Args.map (am true))),(401,(5,v25.Parts.map (ae true))),(1968,(12,v123.map (al false)))]) SW SW) ?_
         refine Slr_ 1968 9348 (by decide) NM ?_
         exact Slm_ SW
        ·refine SB ?_
         refine aE cs (by omega) (fun cs=>SB ?_)
         cases rs_ h
         exact aL SC
      ·refine Mkv_ (b:=false) (sz:=12) (es:=a0.Parts.map (al false)) (x:=(.pv ((al false) a0))) 0 [5] SC fun hl0=>?_; rw[aB] at hl0
       replace h:=rl_ h
       refine aF h (fun i16 s16=>[(2,.val (.pv (B a2))),(4,.box (.pv ((al false) a0))),(5,.box (.pv ((ae false) a1))),(8,.box (.node [(.pv (I 0)),(.node [(.pv (.sl true 5 [])),(.pv (.sl true 5 []))]),(.pv (I 0)),(.node [(.pv (Sx ⟨#[]⟩)),(.pv (.sl true 2 []))]),(.node [(.pv (I 0)),(.node [(.pv (Sx ⟨#[]⟩)),(.pv (.sl true 2 []))]),(.pv (Sx ⟨#[]⟩)),(.pv (.sl true 5 []))]),(.pv (.sl true 12 []))])),(9,.box (.node [(.pv (I a0.Rule)),(.node [(.own 800),(.pv (.sl false 5 (v32.Right.map (ae false))))]),(.pv (I a0.Main)),(.node [(.pv (Sx v22.Name)),(.own 352)]),(.node [(.pv (I v25.Op)),(.node [(.pv (Sx v25.Atom.Name)),(.own 400)]),(.pv (Sx v25.Var)),(.own 401)]),(.own 9348)])),(13,.val (.pv (I a3))),(15,.val (.pv (I (i16:Int))))]) (fun i16 s16=>[(800,(5,v50.map (ae false))),(352,(2,v22.Args.map (am true))),(400,(2,v25.Atom.Args.map (am true))),(401,(5,v25.Parts.map (ae true))),(9348,(12,s16.map (al false)))]) (aM (Sln_ (x:=(.node [(.pv (I a0.Rule)),(.node [(.own 800),(.pv (.sl false 5 (v32.Right.map (ae false))))]),(.pv (I a0.Main)),(.node [(.pv (Sx v22.Name)),(.own 352)]),(.node [(.pv (I v25.Op)),(.node [(.pv (Sx v25.Atom.Name)),(.own 400)]),(.pv (Sx v25.Var)),(.own 401)]),(.pv (.sl true 12 []))])) 9 [5] 9348 12 NM SC SC SC) (Slm_ SC)) (fun i16 s16 hi h=>?_) (fun s16 h=>?_)
       ·have w:=ws_ (i:=i16) (by omega)
        refine SB ?_
        refine aD cs (by omega) (fun cs=>SB ?_)
        obtain⟨v116,hv116,h⟩:=rb_ h
        refine ar (f:=(al false)) hv116 SC (SB ?_)
        obtain⟨v121,hv121,h⟩:=rb_ h
        refine ai [false,false,false,false] (ih _ _ _ _ _ hv121) SC (SB ?_)
        refine OrR.l (SB ?_)
        obtain⟨v123,hv123,h⟩:=rb_ h
        refine aO (f:=(al false)) (fun a=>bq _ a) hv123 SC SC (SB ?_)
        refine ag (DHa_ [] [1952,1968]) (SB ?_)
        have h:=rs_ h
        refine aA ⟨_,h,?_⟩
        refine aM (Slm_1 (S:=[(2,.val (.pv (B a2))),(4,.box (.pv ((al false) a0))),(5,.box (.pv ((ae false) a1))),(8,.box (.node [(.pv (I 0)),(.node [(.pv (.sl true 5 [])),(.pv (.sl true 5 []))]),(.pv (I 0)),(.node [(.pv (Sx ⟨#[]⟩)),(.pv (.sl true 2 []))]),(.node [(.pv (I 0)),(.node [(.pv (Sx ⟨#[]⟩)),(.pv (.sl true 2 []))]),(.pv (Sx ⟨#[]⟩)),(.pv (.sl true 5 []))]),(.pv (.sl true 12 []))])),(9,.box (.node [(.pv (I a0.Rule)),(.node [(.own 800),(.pv (.sl false 5 (v32.Right.map (ae false))))]),(.pv (I a0.Main)),(.node [(.pv (Sx v22.Name)),(.own 352)]),(.node [(.pv (I v25.Op)),(.node [(.pv (Sx v25.Atom.Name)),(.own 400)]),(.pv (Sx v25.Var)),(.own 401)]),(.own 1968)])),(13,.val (.pv (I a3))),(15,.val (.pv (I (IntKind.i64.wrap ((i16:Int)+1)))))]) (O:=[(800,(5,v50.map (ae false))),(352,(2,v22.Args.map (am true))),(400,(2,v25.Atom.Args.map (am true))),(401,(5,v25.Parts.map (ae true))),(1968,(12,v123.map (al false)))]) SW SW) ?_
        refine Slr_ 1968 9348 (by decide) NM ?_
        exact Slm_ SW
       ·refine SB ?_
        refine aE cs (by omega) (fun cs=>SB ?_)
        cases rs_ h
        exact aL SC
    ·obtain⟨v94,hv94,h⟩:=rb_ h
     refine ai [false,false] (slR_2 hv94) SC (SB ?_)
     refine ak cs h (fun cs h=>SB ?_) (fun cs h=>SB ?_)
     ·refine ak cs h (fun cs h=>SB ?_) (fun cs h=>SB ?_)
      ·refine Mkv_ (b:=false) (sz:=12) (es:=a0.Parts.map (al false)) (x:=(.pv ((al false) a0))) 0 [5] SC fun hl0=>?_; rw[aB] at hl0
       replace h:=rl_ h
       refine aF h (fun i16 s16=>[(2,.val (.pv (B a2))),(4,.box (.pv ((al false) a0))),(5,.box (.pv ((ae false) a1))),(8,.box (.node [(.pv (I 0)),(.node [(.pv (.sl true 5 [])),(.pv (.sl true 5 []))]),(.pv (I 0)),(.node [(.pv (Sx ⟨#[]⟩)),(.pv (.sl true 2 []))]),(.node [(.pv (I 0)),(.node [(.pv (Sx ⟨#[]⟩)),(.pv (.sl true 2 []))]),(.pv (Sx ⟨#[]⟩)),(.pv (.sl true 5 []))]),(.pv (.sl true 12 []))])),(9,.box (.node [(.pv (I a0.Rule)),(.node [(.own 800),(.pv (.sl false 5 (v32.Right.map (ae false))))]),(.pv (I a0.Main)),(.node [(.pv (Sx v22.Name)),(.own 352)]),(.node [(.pv (I v25.Op)),(.node [(.pv (Sx v25.Atom.Name)),(.own 400)]),(.pv (Sx v25.Var)),(.own 401)]),(.own 9348)])),(13,.val (.pv (I (IntKind.i64.wrap (a3-1))))),(15,.val (.pv (I (i16:Int))))]) (fun i16 s16=>[(800,(5,v50.map (ae false))),(352,(2,v22.Args.map (am true))),(400,(2,v25.Atom.Args.map (am true))),(401,(5,v25.Parts.map (ae true))),(9348,(12,s16.map (al false)))]) (aM (Sln_ (x:=(.node [(.pv (I a0.Rule)),(.node [(.own 800),(.pv (.sl false 5 (v32.Right.map (ae false))))]),(.pv (I a0.Main)),(.node [(.pv (Sx v22.Name)),(.own 352)]),(.node [(.pv (I v25.Op)),(.node [(.pv (Sx v25.Atom.Name)),(.own 400)]),(.pv (Sx v25.Var)),(.own 401)]),(.pv (.sl true 12 []))])) 9 [5] 9348 12 NM SC SC SC) (Slm_ SC)) (fun i16 s16 hi h=>?_) (fun s16 h=>?_)
       ·have w:=ws_ (i:=i16) (by omega)
        refine SB ?_
        refine aD cs (by omega) (fun cs=>SB ?_)
        obtain⟨v116,hv116,h⟩:=rb_ h
        refine ar (f:=(al false)) hv116 SC (SB ?_)
        obtain⟨v121,hv121,h⟩:=rb_ h
        refine ai [false,false,false,false] (ih _ _ _ _ _ hv121) SC (SB ?_)
        refine OrR.l (SB ?_)
        obtain⟨v123,hv123,h⟩:=rb_ h
        refine aO (f:=(al false)) (fun a=>bq _ a) hv123 SC SC (SB ?_)
        refine ag (DHa_ [] [1952,1968]) (SB ?_)
        have h:=rs_ h
        refine aA ⟨_,h,?_⟩
        refine aM (Slm_1 (S:=[(2,.val (.pv (B a2))),(4,.box (.pv ((al false) a0))),(5,.box (.pv ((ae false) a1))),(8,.box (.node [(.pv (I 0)),(.node [(.pv (.sl true 5 [])),(.pv (.sl true 5 []))]),(.pv (I 0)),(.node [(.pv (Sx ⟨#[]⟩)),(.pv (.sl true 2 []))]),(.node [(.pv (I 0)),(.node [(.pv (Sx ⟨#[]⟩)),(.pv (.sl true 2 []))]),(.pv (Sx ⟨#[]⟩)),(.pv (.sl true 5 []))]),(.pv (.sl true 12 []))])),(9,.box (.node [(.pv (I a0.Rule)),(.node [(.own 800),(.pv (.sl false 5 (v32.Right.map (ae false))))]),(.pv (I a0.Main)),(.node [(.pv (Sx v22.Name)),(.own 352)]),(.node [(.pv (I v25.Op)),(.node [(.pv (Sx v25.Atom.Name)),(.own 400)]),(.pv (Sx v25.Var)),(.own 401)]),(.own 1968)])),(13,.val (.pv (I (IntKind.i64.wrap (a3-1))))),(15,.val (.pv (I (IntKind.i64.wrap ((i16:Int)+1)))))]) (O:=[(800,(5,v50.map (ae false))),(352,(2,v22.Args.map (am true))),(400,(2,v25.Atom.Args.map (am true))),(401,(5,v25.Parts.map (ae true))),(1968,(12,v123.map (al false)))]) SW SW) ?_
        refine Slr_ 1968 9348 (by decide) NM ?_
        exact Slm_ SW
       ·refine SB ?_
        refine aE cs (by omega) (fun cs=>SB ?_)
        cases rs_ h
        exact aL SC
      ·refine Mkv_ (b:=false) (sz:=12) (es:=a0.Parts.map (al false)) (x:=(.pv ((al false) a0))) 0 [5] SC fun hl0=>?_; rw[aB] at hl0
       replace h:=rl_ h
       refine aF h (fun i16 s16=>[(2,.val (.pv (B a2))),(4,.box (.pv ((al false) a0))),(5,.box (.pv ((ae false) a1))),(8,.box (.node [(.pv (I 0)),(.node [(.pv (.sl true 5 [])),(.pv (.sl true 5 []))]),(.pv (I 0)),(.node [(.pv (Sx ⟨#[]⟩)),(.pv (.sl true 2 []))]),(.node [(.pv (I 0)),(.node [(.pv (Sx ⟨#[]⟩)),(.pv (.sl true 2 []))]),(.pv (Sx ⟨#[]⟩)),(.pv (.sl true 5 []))]),(.pv (.sl true 12 []))])),(9,.box (.node [(.pv (I a0.Rule)),(.node [(.own 800),(.pv (.sl false 5 (v32.Right.map (ae false))))]),(.pv (I a0.Main)),(.node [(.pv (Sx v22.Name)),(.own 352)]),(.node [(.pv (I v25.Op)),(.node [(.pv (Sx v25.Atom.Name)),(.own 400)]),(.pv (Sx v25.Var)),(.own 401)]),(.own 9348)])),(13,.val (.pv (I a3))),(15,.val (.pv (I (i16:Int))))]) (fun i16 s16=>[(800,(5,v50.map (ae false))),(352,(2,v22.Args.map (am true))),(400,(2,v25.Atom.Args.map (am true))),(401,(5,v25.Parts.map (ae true))),(9348,(12,s16.map (al false)))]) (aM (Sln_ (x:=(.node [(.pv (I a0.Rule)),(.node [(.own 800),(.pv (.sl false 5 (v32.Right.map (ae false))))]),(.pv (I a0.Main)),(.node [(.pv (Sx v22.Name)),(.own 352)]),(.node [(.pv (I v25.Op)),(.node [(.pv (Sx v25.Atom.Name)),(.own 400)]),(.pv (Sx v25.Var)),(.own 401)]),(.pv (.sl true 12 []))])) 9 [5] 9348 12 NM SC SC SC) (Slm_ SC)) (fun i16 s16 hi h=>?_) (fun s16 h=>?_)
       ·have w:=ws_ (i:=i16) (by omega)
        refine SB ?_
        refine aD cs (by omega) (fun cs=>SB ?_)
        obtain⟨v116,hv116,h⟩:=rb_ h
        refine ar (f:=(al false)) hv116 SC (SB ?_)
        obtain⟨v121,hv121,h⟩:=rb_ h
        refine ai [false,false,false,false] (ih _ _ _ _ _ hv121) SC (SB ?_)
        refine OrR.l (SB ?_)
        obtain⟨v123,hv123,h⟩:=rb_ h
        refine aO (f:=(al false)) (fun a=>bq _ a) hv123 SC SC (SB ?_)
        refine ag (DHa_ [] [1952,1968]) (SB ?_)
        have h:=rs_ h
        refine aA ⟨_,h,?_⟩
        refine aM (Slm_1 (S:=[(2,.val (.pv (B a2))),(4,.box (.pv ((al false) a0))),(5,.box (.pv ((ae false) a1))),(8,.box (.node [(.pv (I 0)),(.node [(.pv (.sl true 5 [])),(.pv (.sl true 5 []))]),(.pv (I 0)),(.node [(.pv (Sx ⟨#[]⟩)),(.pv (.sl true 2 []))]),(.node [(.pv (I 0)),(.node [(.pv (Sx ⟨#[]⟩)),(.pv (.sl true 2 []))]),(.pv (Sx ⟨#[]⟩)),(.pv (.sl true 5 []))]),(.pv (.sl true 12 []))])),(9,.box (.node [(.pv (I a0.Rule)),(.node [(.own 800),(.pv (.sl false 5 (v32.Right.map (ae false))))]),(.pv (I a0.Main)),(.node [(.pv (Sx v22.Name)),(.own 352)]),(.node [(.pv (I v25.Op)),(.node [(.pv (Sx v25.Atom.Name)),(.own 400)]),(.pv (Sx v25.Var)),(.own 401)]),(.own 1968)])),(13,.val (.pv (I a3))),(15,.val (.pv (I (IntKind.i64.wrap ((i16:Int)+1)))))]) (O:=[(800,(5,v50.map (ae false))),(352,(2,v22.Args.map (am true))),(400,(2,v25.Atom.Args.map (am true))),(401,(5,v25.Parts.map (ae true))),(1968,(12,v123.map (al false)))]) SW SW) ?_
        refine Slr_ 1968 9348 (by decide) NM ?_
        exact Slm_ SW
       ·refine SB ?_
        refine aE cs (by omega) (fun cs=>SB ?_)
        cases rs_ h
        exact aL SC
     ·refine Mkv_ (b:=false) (sz:=12) (es:=a0.Parts.map (al false)) (x:=(.pv ((al false) a0))) 0 [5] SC fun hl0=>?_; rw[aB] at hl0
      replace h:=rl_ h
      refine aF h (fun i16 s16=>[(2,.val (.pv (B a2))),(4,.box (.pv ((al false) a0))),(5,.box (.pv ((ae false) a1))),(8,.box (.node [(.pv (I 0)),(.node [(.pv (.sl true 5 [])),(.pv (.sl true 5 []))]),(.pv (I 0)),(.node [(.pv (Sx ⟨#[]⟩)),(.pv (.sl true 2 []))]),(.node [(.pv (I 0)),(.node [(.pv (Sx ⟨#[]⟩)),(.pv (.sl true 2 []))]),(.pv (Sx ⟨#[]⟩)),(.pv (.sl true 5 []))]),(.pv (.sl true 12 []))])),(9,.box (.node [(.pv (I a0.Rule)),(.node [(.own 800),(.pv (.sl false 5 (v32.Right.map (ae false))))]),(.pv (I a0.Main)),(.node [(.pv (Sx v22.Name)),(.own 352)]),(.node [(.pv (I v25.Op)),(.node [(.pv (Sx v25.Atom.Name)),(.own 400)]),(.pv (Sx v25.Var)),(.own 401)]),(.own 9348)])),(13,.val (.pv (I a3))),(15,.val (.pv (I (i16:Int))))]) (fun i16 s16=>[(800,(5,v50.map (ae false))),(352,(2,v22.Args.map (am true))),(400,(2,v25.Atom.Args.map (am true))),(401,(5,v25.Parts.map (ae true))),(9348,(12,s16.map (al false)))]) (aM (Sln_ (x:=(.node [(.pv (I a0.Rule)),(.node [(.own 800),(.pv (.sl false 5 (v32.Right.map (ae false))))]),(.pv (I a0.Main)),(.node [(.pv (Sx v22.Name)),(.own 352)]),(.node [(.pv (I v25.Op)),(.node [(.pv (Sx v25.Atom.Name)),(.own 400)]),(.pv (Sx v25.Var)),(.own 401)]),(.pv (.sl true 12 []))])) 9 [5] 9348 12 NM SC SC SC) (Slm_ SC)) (fun i16 s16 hi h=>?_) (fun s16 h=>?_)
      ·have w:=ws_ (i:=i16) (by omega)
       refine SB ?_
       refine aD cs (by omega) (fun cs=>SB ?_)
       obtain⟨v116,hv116,h⟩:=rb_ h
       refine ar (f:=(al false)) hv116 SC (SB ?_)
       obtain⟨v121,hv121,h⟩:=rb_ h
       refine ai [false,false,false,false] (ih _ _ _ _ _ hv121) SC (SB ?_)
       refine OrR.l (SB ?_)
       obtain⟨v123,hv123,h⟩:=rb_ h
       refine aO (f:=(al false)) (fun a=>bq _ a) hv123 SC SC (SB ?_)
       refine ag (DHa_ [] [1952,1968]) (SB ?_)
       have h:=rs_ h
       refine aA ⟨_,h,?_⟩
       refine aM (Slm_1 (S:=[(2,.val (.pv (B a2))),(4,.box (.pv ((al false) a0))),(5,.box (.pv ((ae false) a1))),(8,.box (.node [(.pv (I 0)),(.node [(.pv (.sl true 5 [])),(.pv (.sl true 5 []))]),(.pv (I 0)),(.node [(.pv (Sx ⟨#[]⟩)),(.pv (.sl true 2 []))]),(.node [(.pv (I 0)),(.node [(.pv (Sx ⟨#[]⟩)),(.pv (.sl true 2 []))]),(.pv (Sx ⟨#[]⟩)),(.pv (.sl true 5 []))]),(.pv (.sl true 12 []))])),(9,.box (.node [(.pv (I a0.Rule)),(.node [(.own 800),(.pv (.sl false 5 (v32.Right.map (ae false))))]),(.pv (I a0.Main)),(.node [(.pv (Sx v22.Name)),(.own 352)]),(.node [(.pv (I v25.Op)),(.node [(.pv (Sx v25.Atom.Name)),(.own 400)]),(.pv (Sx v25.Var)),(.own 401)]),(.own 1968)])),(13,.val (.pv (I a3))),(15,.val (.pv (I (IntKind.i64.wrap ((i16:Int)+1)))))]) (O:=[(800,(5,v50.map (ae false))),(352,(2,v22.Args.map (am true))),(400,(2,v25.Atom.Args.map (am true))),(401,(5,v25.Parts.map (ae true))),(1968,(12,v123.map (al false)))]) SW SW) ?_
       refine Slr_ 1968 9348 (by decide) NM ?_
       exact Slm_ SW
      ·refine SB ?_
       refine aE cs (by omega) (fun cs=>SB ?_)
       cases rs_ h
       exact aL SC
  ·refine OrR.l (SB ?_)
   obtain⟨v59,hv59,h⟩:=rb_ h
   refine SlcH.mk (f:=(ae false)) hv59 SC (SB ?_)
   obtain⟨v60,hv60,h⟩:=rb_ h
   refine aO (f:=(ae false)) (fun a=>Ft.psize _ a) hv60 SC SC (SB ?_)
   obtain⟨v62,hv62,h⟩:=rb_ h
   refine ai [false] (SvO_ (res':=((ae false) v62)) (slO_2 hv62) (by simp only[vt_,vs_,va_,vl_,PV.views,RB,RS])) SC (SB ?_)
   refine OrR.l (SB ?_)
   obtain⟨v64,hv64,h⟩:=rb_ h
   refine aO (f:=(ae false)) (fun a=>Ft.psize _ a) hv64 SC SC (SB ?_)
   obtain⟨v67,hv67,h⟩:=rb_ h
   refine SlcH.mk (f:=(ae false)) hv67 SC (SB ?_)
   obtain⟨v68,hv68,h⟩:=rb_ h
   refine aO (f:=(ae false)) (fun a=>Ft.psize _ a) hv68 SC SC (SB ?_)
   refine ag (DHa_ [] [896,960,1008,1024,1088]) (SB ?_)
   refine ak cs h (fun cs h=>SB ?_) (fun cs h=>SB ?_)
   ·obtain⟨v94,hv94,h⟩:=rb_ h
    refine ai [false,false] (slR_2 hv94) SC (SB ?_)
    refine ak cs h (fun cs h=>SB ?_) (fun cs h=>SB ?_)
    ·refine ak cs h (fun cs h=>SB ?_) (fun cs h=>SB ?_)
     ·refine Mkv_ (b:=false) (sz:=12) (es:=a0.Parts.map (al false)) (x:=(.pv ((al false) a0))) 0 [5] SC fun hl0=>?_; rw[aB] at hl0
      replace h:=rl_ h
      refine aF h (fun i16 s16=>[(2,.val (.pv (B a2))),(4,.box (.pv ((al false) a0))),(5,.box (.pv ((ae false) a1))),(8,.box (.node [(.pv (I 0)),(.node [(.pv (.sl true 5 [])),(.pv (.sl true 5 []))]),(.pv (I 0)),(.node [(.pv (Sx ⟨#[]⟩)),(.pv (.sl true 2 []))]),(.node [(.pv (I 0)),(.node [(.pv (Sx ⟨#[]⟩)),(.pv (.sl true 2 []))]),(.pv (Sx ⟨#[]⟩)),(.pv (.sl true 5 []))]),(.pv (.sl true 12 []))])),(9,.box (.node [(.pv (I a0.Rule)),(.node [(.pv (.sl false 5 (v32.Left.map (ae false)))),(.own 1088)]),(.pv (I a0.Main)),(.node [(.pv (Sx v22.Name)),(.own 352)]),(.node [(.pv (I v25.Op)),(.node [(.pv (Sx v25.Atom.Name)),(.own 400)]),(.pv (Sx v25.Var)),(.own 401)]),(.own 9348)])),(13,.val (.pv (I (IntKind.i64.wrap (a3-1))))),(15,.val (.pv (I (i16:Int))))]) (fun i16 s16=>[(1088,(5,v68.map (ae false))),(352,(2,v22.Args.map (am true))),(400,(2,v25.Atom.Args.map (am true))),(401,(5,v25.Parts.map (ae true))),(9348,(12,s16.map (al false)))]) (aM (Sln_ (x:=(.node [(.pv (I a0.Rule)),(.node [(.pv (.sl false 5 (v32.Left.map (ae false)))),(.own 1088)]),(.pv (I a0.Main)),(.node [(.pv (Sx v22.Name)),(.own 352)]),(.node [(.pv (I v25.Op)),(.node [(.pv (Sx v25.Atom.Name)),(.own 400)]),(.pv (Sx v25.Var)),(.own 401)]),(.pv (.sl true 12 []))])) 9 [5] 9348 12 NM SC SC SC) (Slm_ SC)) (fun i16 s16 hi h=>?_) (fun s16 h=>?_)
      ·have w:=ws_ (i:=i16) (by omega)
       refine SB ?_
       refine aD cs (by omega) (fun cs=>SB ?_)
       obtain⟨v116,hv116,h⟩:=rb_ h
       refine ar (f:=(al false)) hv116 SC (SB ?_)
       obtain⟨v121,hv121,h⟩:=rb_ h
       refine ai [false,false,false,false] (ih _ _ _ _ _ hv121) SC (SB ?_)
       refine OrR.l (SB ?_)
       obtain⟨v123,hv123,h⟩:=rb_ h
       refine aO (f:=(al false)) (fun a=>bq _ a) hv123 SC SC (SB ?_)
       refine ag (DHa_ [] [1952,1968]) (SB ?_)
       have h:=rs_ h
       refine aA ⟨_,h,?_⟩
       refine aM (Slm_1 (S:=[(2,.val (.pv (B a2))),(4,.box (.pv ((al false) a0))),(5,.box (.pv ((ae false) a1))),(8,.box (.node [(.pv (I 0)),(.node [(.pv (.sl true 5 [])),(.pv (.sl true 5 []))]),(.pv (I 0)),(.node [(.pv (Sx ⟨#[]⟩)),(.pv (.sl true 2 []))]),(.node [(.pv (I 0)),(.node [(.pv (Sx ⟨#[]⟩)),(.pv (.sl true 2 []))]),(.pv (Sx ⟨#[]⟩)),(.pv (.sl true 5 []))]),(.pv (.sl true 12 []))])),(9,.box (.node [(.pv (I a0.Rule)),(.node [(.pv (.sl false 5 (v32.Left.map (ae false)))),(.own 1088)]),(.pv (I a0.Main)),(.node [(.pv (Sx v22.Name)),(.own 352)]),(.node [(.pv (I v25.Op)),(.node [(.pv (Sx v25.Atom.Name)),(.own 400)]),(.pv (Sx v25.Var)),(.own 401)]),(.own 1968)])),(13,.val (.pv (I (IntKind.i64.wrap (a3-1))))),(15,.val (.pv (I (IntKind.i64.wrap ((i16:Int)+1)))))]) (O:=[(1088,(5,v68.map (ae false))),(352,(2,v22.Args.map (am true))),(400,(2,v25.Atom.Args.map (am true))),(401,(5,v25.Parts.map (ae true))),(1968,(12,v123.map (al false)))]) SW SW) ?_
       refine Slr_ 1968 9348 (by decide) NM ?_
       exact Slm_ SW
      ·refine SB ?_
       refine aE cs (by omega) (fun cs=>SB ?_)
       cases rs_ h
       exact aL SC
     ·refine Mkv_ (b:=false) (sz:=12) (es:=a0.Parts.map (al false)) (x:=(.pv ((al false) a0))) 0 [5] SC fun hl0=>?_; rw[aB] at hl0
      replace h:=rl_ h
      refine aF h (fun i16 s16=>[(2,.val (.pv (B a2))),(4,.box (.pv ((al false) a0))),(5,.box (.pv ((ae false) a1))),(8,.box (.node [(.pv (I 0)),(.node [(.pv (.sl true 5 [])),(.pv (.sl true 5 []))]),(.pv (I 0)),(.node [(.pv (Sx ⟨#[]⟩)),(.pv (.sl true 2 []))]),(.node [(.pv (I 0)),(.node [(.pv (Sx ⟨#[]⟩)),(.pv (.sl true 2 []))]),(.pv (Sx ⟨#[]⟩)),(.pv (.sl true 5 []))]),(.pv (.sl true 12 []))])),(9,.box (.node [(.pv (I a0.Rule)),(.node [(.pv (.sl false 5 (v32.Left.map (ae false)))),(.own 1088)]),(.pv (I a0.Main)),(.node [(.pv (Sx v22.Name)),(.own 352)]),(.node [(.pv (I v25.Op)),(.node [(.pv (Sx v25.Atom.Name)),(.own 400)]),(.pv (Sx v25.Var)),(.own 401)]),(.own 9348)])),(13,.val (.pv (I a3))),(15,.val (.pv (I (i16:Int))))]) (fun i16 s16=>[(1088,(5,v68.map (ae false))),(352,(2,v22.Args.map (am true))),(400,(2,v25.Atom.Args.map (am true))),(401,(5,v25.Parts.map (ae true))),(9348,(12,s16.map (al false)))]) (aM (Sln_ (x:=(.node [(.pv (I a0.Rule)),(.node [(.pv (.sl false 5 (v32.Left.map (ae false)))),(.own 1088)]),(.pv (I a0.Main)),(.node [(.pv (Sx v22.Name)),(.own 352)]),(.node [(.pv (I v25.Op)),(.node [(.pv (Sx v25.Atom.Name)),(.own 400)]),(.pv (Sx v25.Var)),(.own 401)]),(.pv (.sl true 12 []))])) 9 [5] 9348 12 NM SC SC SC) (Slm_ SC)) (fun i16 s16 hi h=>?_) (fun s16 h=>?_)
      ·have w:=ws_ (i:=i16) (by omega)
       refine SB ?_
       refine aD cs (by omega) (fun cs=>SB ?_)
       obtain⟨v116,hv116,h⟩:=rb_ h
       refine ar (f:=(al false)) hv116 SC (SB ?_)
       obtain⟨v121,hv121,h⟩:=rb_ h
       refine ai [false,false,false,false] (ih _ _ _ _ _ hv121) SC (SB ?_)
       refine OrR.l (SB ?_)
       obtain⟨v123,hv123,h⟩:=rb_ h
       refine aO (f:=(al false)) (fun a=>bq _ a) hv123 SC SC (SB ?_)
       refine ag (DHa_ [] [1952,1968]) (SB ?_)
       have h:=rs_ h
       refine aA ⟨_,h,?_⟩
       refine aM (Slm_1 (S:=[(2,.val (.pv (B a2))),(4,.box (.pv ((al false) a0))),(5,.box (.pv ((ae false) a1))),(8,.box (.node [(.pv (I 0)),(.node [(.pv (.sl true 5 [])),(.pv (.sl true 5 []))]),(.pv (I 0)),(.node [(.pv (Sx ⟨#[]⟩)),(.pv (.sl true 2 []))]),(.node [(.pv (I 0)),(.node [(.pv (Sx ⟨#[]⟩)),(.pv (.sl true 2 []))]),(.pv (Sx ⟨#[]⟩)),(.pv (.sl true 5 []))]),(.pv (.sl true 12 []))])),(9,.box (.node [(.pv (I a0.Rule)),(.node [(.pv (.sl false 5 (v32.Left.map (ae false)))),(.own 1088)]),(.pv (I a0.Main)),(.node [(.pv (Sx v22.Name)),(.own 352)]),(.node [(.pv (I v25.Op)),(.node [(.pv (Sx v25.Atom.Name)),(.own 400)]),(.pv (Sx v25.Var)),(.own 401)]),(.own 1968)])),(13,.val (.pv (I a3))),(15,.val (.pv (I (IntKind.i64.wrap ((i16:Int)+1)))))]) (O:=[(1088,(5,v68.map (ae false))),(352,(2,v22.Args.map (am true))),(400,(2,v25.Atom.Args.map (am true))),(401,(5,v25.Parts.map (ae true))),(1968,(12,v123.map (al false)))]) SW SW) ?_
       refine Slr_ 1968 9348 (by decide) NM ?_
       exact Slm_ SW
      ·refine SB ?_
       refine aE cs (by omega) (fun cs=>SB ?_)
       cases rs_ h
       exact aL SC
    ·refine Mkv_ (b:=false) (sz:=12) (es:=a0.Parts.map (al false)) (x:=(.pv ((al false) a0))) 0 [5] SC fun hl0=>?_; rw[aB] at hl0
     replace h:=rl_ h
     refine aF h (fun i16 s16=>[(2,.val (.pv (B a2))),(4,.box (.pv ((al false) a0))),(5,.box (.pv ((ae false) a1))),(8,.box (.node [(.pv (I 0)),(.node [(.pv (.sl true 5 [])),(.pv (.sl true 5 []))]),(.pv (I 0)),(.node [(.pv (Sx ⟨#[]⟩)),(.pv (.sl true 2 []))]),(.node [(.pv (I 0)),(.node [(.pv (Sx ⟨#[]⟩)),(.pv (.sl true 2 []))]),(.pv (Sx ⟨#[]⟩)),(.pv (.sl true 5 []))]),(.pv (.sl true 12 []))])),(9,.box (.node [(.pv (I a0.Rule)),(.node [(.pv (.sl false 5 (v32.Left.map (ae false)))),(.own 1088)]),(.pv (I a0.Main)),(.node [(.pv (Sx v22.Name)),(.own 352)]),(.node [(.pv (I v25.Op)),(.node [(.pv (Sx v25.Atom.Name)),(.own 400)]),(.pv (Sx v25.Var)),(.own 401)]),(.own 9348)])),(13,.val (.pv (I a3))),(15,.val (.pv (I (i16:Int))))]) (fun i16 s16=>[(1088,(5,v68.map (ae false))),(352,(2,v22.Args.map (am true))),(400,(2,v25.Atom.Args.map (am true))),(401,(5,v25.Parts.map (ae true))),(9348,(12,s16.map (al false)))]) (aM (Sln_ (x:=(.node [(.pv (I a0.Rule)),(.node [(.pv (.sl false 5 (v32.Left.map (ae false)))),(.own 1088)]),(.pv (I a0.Main)),(.node [(.pv (Sx v22.Name)),(.own 352)]),(.node [(.pv (I v25.Op)),(.node [(.pv (Sx v25.Atom.Name)),(.own 400)]),(.pv (Sx v25.Var)),(.own 401)]),(.pv (.sl true 12 []))])) 9 [5] 9348 12 NM SC SC SC) (Slm_ SC)) (fun i16 s16 hi h=>?_) (fun s16 h=>?_)
     ·have w:=ws_ (i:=i16) (by omega)
      refine SB ?_
      refine aD cs (by omega) (fun cs=>SB ?_)
      obtain⟨v116,hv116,h⟩:=rb_ h
      refine ar (f:=(al false)) hv116 SC (SB ?_)
      obtain⟨v121,hv121,h⟩:=rb_ h
      refine ai [false,false,false,false] (ih _ _ _ _ _ hv121) SC (SB ?_)
      refine OrR.l (SB ?_)
      obtain⟨v123,hv123,h⟩:=rb_ h
      refine aO (f:=(al false)) (fun a=>bq _ a) hv123 SC SC (SB ?_)
      refine ag (DHa_ [] [1952,1968]) (SB ?_)
      have h:=rs_ h
      refine aA ⟨_,h,?_⟩
      refine aM (Slm_1 (S:=[(2,.val (.pv (B a2))),(4,.box (.pv ((al false) a0))),(5,.box (.pv ((ae false) a1))),(8,.box (.node [(.pv (I 0)),(.node [(.pv (.sl true 5 [])),(.pv (.sl true 5 []))]),(.pv (I 0)),(.node [(.pv (Sx ⟨#[]⟩)),(.pv (.sl true 2 []))]),(.node [(.pv (I 0)),(.node [(.pv (Sx ⟨#[]⟩)),(.pv (.sl true 2 []))]),(.pv (Sx ⟨#[]⟩)),(.pv (.sl true 5 []))]),(.pv (.sl true 12 []))])),(9,.box (.node [(.pv (I a0.Rule)),(.node [(.pv (.sl false 5 (v32.Left.map (ae false)))),(.own 1088)]),(.pv (I a0.Main)),(.node [(.pv (Sx v22.Name)),(.own 352)]),(.node [(.pv (I v25.Op)),(.node [(.pv (Sx v25.Atom.Name)),(.own 400)]),(.pv (Sx v25.Var)),(.own 401)]),(.own 1968)])),(13,.val (.pv (I a3))),(15,.val (.pv (I (IntKind.i64.wrap ((i16:Int)+1)))))]) (O:=[(1088,(5,v68.map (ae false))),(352,(2,v22.Args.map (am true))),(400,(2,v25.Atom.Args.map (am true))),(401,(5,v25.Parts.map (ae true))),(1968,(12,v123.map (al false)))]) SW SW) ?_
      refine Slr_ 1968 9348 (by decide) NM ?_
      exact Slm_ SW
     ·refine SB ?_
      refine aE cs (by omega) (fun cs=>SB ?_)
      cases rs_ h
      exact aL SC
   ·obtain⟨v77,hv77,h⟩:=rb_ h
    refine ai [false] (slO_4 hv77) SC (SB ?_)
    refine ak cs h (fun cs h=>SB ?_) (fun cs h=>SB ?_)
    ·refine ak cs h (fun cs h=>SB ?_) (fun cs h=>SB ?_)
     ·obtain⟨v94,hv94,h⟩:=rb_ h
      refine ai [false,false] (slR_2 hv94) SC (SB ?_)
      refine ak cs h (fun cs h=>SB ?_) (fun cs h=>SB ?_)
      ·refine ak cs h (fun cs h=>SB ?_) (fun cs h=>SB ?_)
       ·refine Mkv_ (b:=false) (sz:=12) (es:=a0.Parts.map (al false)) (x:=(.pv ((al false) a0))) 0 [5] SC fun hl0=>?_; rw[aB] at hl0
        replace h:=rl_ h
        refine aF h (fun i16 s16=>[(2,.val (.pv (B a2))),(4,.box (.pv ((al false) a0))),(5,.box (.pv ((ae false) a1))),(8,.box (.node [(.pv (I 0)),(.node [(.pv (.sl true 5 [])),(.pv (.sl true 5 []))]),(.pv (I 0)),(.node [(.pv (Sx ⟨#[]⟩)),(.pv (.sl true 2 []))]),(.node [(.pv (I 0)),(.node [(.pv (Sx ⟨#[]⟩)),(.pv (.sl true 2 []))]),(.pv (Sx ⟨#[]⟩)),(.pv (.sl true 5 []))]),(.pv (.sl true 12 []))])),(9,.box (.node [(.pv (I a0.Rule)),(.node [(.pv (.sl false 5 (v32.Left.map (ae false)))),(.own 1088)]),(.pv (I (IntKind.i64.wrap (a0.Main+1)))),(.node [(.pv (Sx v22.Name)),(.own 352)]),(.node [(.pv (I v25.Op)),(.node [(.pv (Sx v25.Atom.Name)),(.own 400)]),(.pv (Sx v25.Var)),(.own 401)]),(.own 9348)])),(13,.val (.pv (I (IntKind.i64.wrap (a3-1))))),(15,.val (.pv (I (i16:Int))))]) (fun i16 s16=>[(1088,(5,v68.map (ae false))),(352,(2,v22.Args.map (am true))),(400,(2,v25.Atom.Args.map (am true))),(401,(5,v25.Parts.map (ae true))),(9348,(12,s16.map (al false)))]) (aM (Sln_ (x:=(.node [(.pv (I a0.Rule)),(.node [(.pv (.sl false 5 (v32.Left.map (ae false)))),(.own 1088)]),(.pv (I (IntKind.i64.wrap (a0.Main+1)))),(.node [(.pv (Sx v22.Name)),(.own 352)]),(.node [(.pv (I v25.Op)),(.node [(.pv (Sx v25.Atom.Name)),(.own 400)]),(.pv (Sx v25.Var)),(.own 401)]),(.pv (.sl true 12 []))])) 9 [5] 9348 12 NM SC SC SC) (Slm_ SC)) (fun i16 s16 hi h=>?_) (fun s16 h=>?_)
        ·have w:=ws_ (i:=i16) (by omega)
         refine SB ?_
         refine aD cs (by omega) (fun cs=>SB ?_)
         obtain⟨v116,hv116,h⟩:=rb_ h
         refine ar (f:=(al false)) hv116 SC (SB ?_)
         obtain⟨v121,hv121,h⟩:=rb_ h
         refine ai [false,false,false,false] (ih _ _ _ _ _ hv121) SC (SB ?_)
         refine OrR.l (SB ?_)
         obtain⟨v123,hv123,h⟩:=rb_ h
         refine aO (f:=(al false)) (fun a=>bq _ a) hv123 SC SC (SB ?_)
         refine ag (DHa_ [] [1952,1968]) (SB ?_)
         have h:=rs_ h
         refine aA ⟨_,h,?_⟩
         refine aM (Slm_1 (S:=[(2,.val (.pv (B a2))),(4,.box (.pv ((al false) a0))),(5,.box (.pv ((ae false) a1))),(8,.box (.node [(.pv (I 0)),(.node [(.pv (.sl true 5 [])),(.pv (.sl true 5 []))]),(.pv (I 0)),(.node [(.pv (Sx ⟨#[]⟩)),(.pv (.sl true 2 []))]),(.node [(.pv (I 0)),(.node [(.pv (Sx ⟨#[]⟩)),(.pv (.sl true 2 []))]),(.pv (Sx ⟨#[]⟩)),(.pv (.sl true 5 []))]),(.pv (.sl true 12 []))])),(9,.box (.node [(.pv (I a0.Rule)),(.node [(.pv (.sl false 5 (v32.Left.map (ae false)))),(.own 1088)]),(.pv (I (IntKind.i64.wrap (a0.Main+1)))),(.node [(.pv (Sx v22.Name)),(.own 352)]),(.node [(.pv (I v25.Op)),(.node [(.pv (Sx v25.Atom.Name)),(.own 400)]),(.pv (Sx v25.Var)),(.own 401)]),(.own 1968)])),(13,.val (.pv (I (IntKind.i64.wrap (a3-1))))),(15,.val (.pv (I (IntKind.i64.wrap ((i16:Int)+1)))))]) (O:=[(1088,(5,v68.map (ae false))),(352,(2,v22.Args.map (am true))),(400,(2,v25.Atom.Args.map (am true))),(401,(5,v25.Parts.map (ae true))),(1968,(12,v123.map (al false)))]) SW SW) ?_
         refine Slr_ 1968 9348 (by decide) NM ?_
         exact Slm_ SW
        ·refine SB ?_
         refine aE cs (by omega) (fun cs=>SB ?_)
         cases rs_ h
         exact aL SC
       ·refine Mkv_ (b:=false) (sz:=12) (es:=a0.Parts.map (al false)) (x:=(.pv ((al false) a0))) 0 [5] SC fun hl0=>?_; rw[aB] at hl0
        replace h:=rl_ h
        refine aF h (fun i16 s16=>[(2,.val (.pv (B a2))),(4,.box (.pv ((al false) a0))),(5,.box (.pv ((ae false) a1))),(8,.box (.node [(.pv (I 0)),(.node [(.pv (.sl true 5 [])),(.pv (.sl true 5 []))]),(.pv (I 0)),(.node [(.pv (Sx ⟨#[]⟩)),(.pv (.sl true 2 []))]),(.node [(.pv (I 0)),(.node [(.pv (Sx ⟨#[]⟩)),(.pv (.sl true 2 []))]),(.pv (Sx ⟨#[]⟩)),(.pv (.sl true 5 []))]),(.pv (.sl true 12 []))])),(9,.box (.node [(.pv (I a0.Rule)),(.node [(.pv (.sl false 5 (v32.Left.map (ae false)))),(.own 1088)]),(.pv (I (IntKind.i64.wrap (a0.Main+1)))),(.node [(.pv (Sx v22.Name)),(.own 352)]),(.node [(.pv (I v25.Op)),(.node [(.pv (Sx v25.Atom.Name)),(.own 400)]),(.pv (Sx v25.Var)),(.own 401)]),(.own 9348)])),(13,.val (.pv (I a3))),(15,.val (.pv (I (i16:Int))))]) (fun i16 s16=>[(1088,(5,v68.map (ae false))),(352,(2,v22.Args.map (am true))),(400,(2,v25.Atom.Args.map (am true))),(401,(5,v25.Parts.map (ae true))),(9348,(12,s16.map (al false)))]) (aM (Sln_ (x:=(.node [(.pv (I a0.Rule)),(.node [(.pv (.sl false 5 (v32.Left.map (ae false)))),(.own 1088)]),(.pv (I (IntKind.i64.wrap (a0.Main+1)))),(.node [(.pv (Sx v22.Name)),(.own 352)]),(.node [(.pv (I v25.Op)),(.node [(.pv (Sx v25.Atom.Name)),(.own 400)]),(.pv (Sx v25.Var)),(.own 401)]),(.pv (.sl true 12 []))])) 9 [5] 9348 12 NM SC SC SC) (Slm_ SC)) (fun i16 s16 hi h=>?_) (fun s16 h=>?_)
        ·have w:=ws_ (i:=i16) (by omega)
         refine SB ?_
         refine aD cs (by omega) (fun cs=>SB ?_)
         obtain⟨v116,hv116,h⟩:=rb_ h
         refine ar (f:=(al false)) hv116 SC (SB ?_)
         obtain⟨v121,hv121,h⟩:=rb_ h
         refine ai [false,false,false,false] (ih _ _ _ _ _ hv121) SC (SB ?_)
         refine OrR.l (SB ?_)
         obtain⟨v123,hv123,h⟩:=rb_ h
         refine aO (f:=(al false)) (fun a=>bq _ a) hv123 SC SC (SB ?_)
         refine ag (DHa_ [] [1952,1968]) (SB ?_)
         have h:=rs_ h
         refine aA ⟨_,h,?_⟩
         refine aM (Slm_1 (S:=[(2,.val (.pv (B a2))),(4,.box (.pv ((al false) a0))),(5,.box (.pv ((ae false) a1))),(8,.box (.node [(.pv (I 0)),(.node [(.pv (.sl true 5 [])),(.pv (.sl true 5 []))]),(.pv (I 0)),(.node [(.pv (Sx ⟨#[]⟩)),(.pv (.sl true 2 []))]),(.node [(.pv (I 0)),(.node [(.pv (Sx ⟨#[]⟩)),(.pv (.sl true 2 []))]),(.pv (Sx ⟨#[]⟩)),(.pv (.sl true 5 []))]),(.pv (.sl true 12 []))])),(9,.box (.node [(.pv (I a0.Rule)),(.node [(.pv (.sl false 5 (v32.Left.map (ae false)))),(.own 1088)]),(.pv (I (IntKind.i64.wrap (a0.Main+1)))),(.node [(.pv (Sx v22.Name)),(.own 352)]),(.node [(.pv (I v25.Op)),(.node [(.pv (Sx v25.Atom.Name)),(.own 400)]),(.pv (Sx v25.Var)),(.own 401)]),(.own 1968)])),(13,.val (.pv (I a3))),(15,.val (.pv (I (IntKind.i64.wrap ((i16:Int)+1)))))]) (O:=[(1088,(5,v68.map (ae false))),(352,(2,v22.Args.map (am true))),(400,(2,v25.Atom.Args.map (am true))),(401,(5,v25.Parts.map (ae true))),(1968,(12,v123.map (al false)))]) SW SW) ?_
         refine Slr_ 1968 9348 (by decide) NM ?_
         exact Slm_ SW
        ·refine SB ?_
         refine aE cs (by omega) (fun cs=>SB ?_)
         cases rs_ h
         exact aL SC
      ·refine Mkv_ (b:=false) (sz:=12) (es:=a0.Parts.map (al false)) (x:=(.pv ((al false) a0))) 0 [5] SC fun hl0=>?_; rw[aB] at hl0
       replace h:=rl_ h
       refine aF h (fun i16 s16=>[(2,.val (.pv (B a2))),(4,.box (.pv ((al false) a0))),(5,.box (.pv ((ae false) a1))),(8,.box (.node [(.pv (I 0)),(.node [(.pv (.sl true 5 [])),(.pv (.sl true 5 []))]),(.pv (I 0)),(.node [(.pv (Sx ⟨#[]⟩)),(.pv (.sl true 2 []))]),(.node [(.pv (I 0)),(.node [(.pv (Sx ⟨#[]⟩)),(.pv (.sl true 2 []))]),(.pv (Sx ⟨#[]⟩)),(.pv (.sl true 5 []))]),(.pv (.sl true 12 []))])),(9,.box (.node [(.pv (I a0.Rule)),(.node [(.pv (.sl false 5 (v32.Left.map (ae false)))),(.own 1088)]),(.pv (I (IntKind.i64.wrap (a0.Main+1)))),(.node [(.pv (Sx v22.Name)),(.own 352)]),(.node [(.pv (I v25.Op)),(.node [(.pv (Sx v25.Atom.Name)),(.own 400)]),(.pv (Sx v25.Var)),(.own 401)]),(.own 9348)])),(13,.val (.pv (I a3))),(15,.val (.pv (I (i16:Int))))]) (fun i16 s16=>[(1088,(5,v68.map (ae false))),(352,(2,v22.Args.map (am true))),(400,(2,v25.Atom.Args.map (am true))),(401,(5,v25.Parts.map (ae true))),(9348,(12,s16.map (al false)))]) (aM (Sln_ (x:=(.node [(.pv (I a0.Rule)),(.node [(.pv (.sl false 5 (v32.Left.map (ae false)))),(.own 1088)]),(.pv (I (IntKind.i64.wrap (a0.Main+1)))),(.node [(.pv (Sx v22.Name)),(.own 352)]),(.node [(.pv (I v25.Op)),(.node [(.pv (Sx v25.Atom.Name)),(.own 400)]),(.pv (Sx v25.Var)),(.own 401)]),(.pv (.sl true 12 []))])) 9 [5] 9348 12 NM SC SC SC) (Slm_ SC)) (fun i16 s16 hi h=>?_) (fun s16 h=>?_)
       ·have w:=ws_ (i:=i16) (by omega)
        refine SB ?_
        refine aD cs (by omega) (fun cs=>SB ?_)
        obtain⟨v116,hv116,h⟩:=rb_ h
        refine ar (f:=(al false)) hv116 SC (SB ?_)
        obtain⟨v121,hv121,h⟩:=rb_ h
        refine ai [false,false,false,false] (ih _ _ _ _ _ hv121) SC (SB ?_)
        refine OrR.l (SB ?_)
        obtain⟨v123,hv123,h⟩:=rb_ h
        refine aO (f:=(al false)) (fun a=>bq _ a) hv123 SC SC (SB ?_)
        refine ag (DHa_ [] [1952,1968]) (SB ?_)
        have h:=rs_ h
        refine aA ⟨_,h,?_⟩
        refine aM (Slm_1 (S:=[(2,.val (.pv (B a2))),(4,.box (.pv ((al false) a0))),(5,.box (.pv ((ae false) a1))),(8,.box (.node [(.pv (I 0)),(.node [(.pv (.sl true 5 [])),(.pv (.sl true 5 []))]),(.pv (I 0)),(.node [(.pv (Sx ⟨#[]⟩)),(.pv (.sl true 2 []))]),(.node [(.pv (I 0)),(.node [(.pv (Sx ⟨#[]⟩)),(.pv (.sl true 2 []))]),(.pv (Sx ⟨#[]⟩)),(.pv (.sl true 5 []))]),(.pv (.sl true 12 []))])),(9,.box (.node [(.pv (I a0.Rule)),(.node [(.pv (.sl false 5 (v32.Left.map (ae false)))),(.own 1088)]),(.pv (I (IntKind.i64.wrap (a0.Main+1)))),(.node [(.pv (Sx v22.Name)),(.own 352)]),(.node [(.pv (I v25.Op)),(.node [(.pv (Sx v25.Atom.Name)),(.own 400)]),(.pv (Sx v25.Var)),(.own 401)]),(.own 1968)])),(13,.val (.pv (I a3))),(15,.val (.pv (I (IntKind.i64.wrap ((i16:Int)+1)))))]) (O:=[(1088,(5,v68.map (ae false))),(352,(2,v22.Args.map (am true))),(400,(2,v25.Atom.Args.map (am true))),(401,(5,v25.Parts.map (ae true))),(1968,(12,v123.map (al false)))]) SW SW) ?_
        refine Slr_ 1968 9348 (by decide) NM ?_
        exact Slm_ SW
       ·refine SB ?_
        refine aE cs (by omega) (fun cs=>SB ?_)
        cases rs_ h
        exact aL SC
     ·obtain⟨v94,hv94,h⟩:=rb_ h
      refine ai [false,false] (slR_2 hv94) SC (SB ?_)
      refine ak cs h (fun cs h=>SB ?_) (fun cs h=>SB ?_)
      ·refine ak cs h (fun cs h=>SB ?_) (fun cs h=>SB ?_)
       ·refine Mkv_ (b:=false) (sz:=12) (es:=a0.Parts.map (al false)) (x:=(.pv ((al false) a0))) 0 [5] SC fun hl0=>?_; rw[aB] at hl0
        replace h:=rl_ h
        refine aF h (fun i16 s16=>[(2,.val (.pv (B a2))),(4,.box (.pv ((al false) a0))),(5,.box (.pv ((ae false) a1))),(8,.box (.node [(.pv (I 0)),(.node [(.pv (.sl true 5 [])),(.pv (.sl true 5 []))]),(.pv (I 0)),(.node [(.pv (Sx ⟨#[]⟩)),(.pv (.sl true 2 []))]),(.node [(.pv (I 0)),(.node [(.pv (Sx ⟨#[]⟩)),(.pv (.sl true 2 []))]),(.pv (Sx ⟨#[]⟩)),(.pv (.sl true 5 []))]),(.pv (.sl true 12 []))])),(9,.box (.node [(.pv (I a0.Rule)),(.node [(.pv (.sl false 5 (v32.Left.map (ae false)))),(.own 1088)]),(.pv (I a0.Main)),(.node [(.pv (Sx v22.Name)),(.own 352)]),(.node [(.pv (I v25.Op)),(.node [(.pv (Sx v25.Atom.Name)),(.own 400)]),(.pv (Sx v25.Var)),(.own 401)]),(.own 9348)])),(13,.val (.pv (I (IntKind.i64.wrap (a3-1))))),(15,.val (.pv (I (i16:Int))))]) (fun i16 s16=>[(1088,(5,v68.map (ae false))),(352,(2,v22.Args.map (am true))),(400,(2,v25.Atom.Args.map (am true))),(401,(5,v25.Parts.map (ae true))),(9348,(12,s16.map (al false)))]) (aM (Sln_ (x:=(.node [(.pv (I a0.Rule)),(.node [(.pv (.sl false 5 (v32.Left.map (ae false)))),(.own 1088)]),(.pv (I a0.Main)),(.node [(.pv (Sx v22.Name)),(.own 352)]),(.node [(.pv (I v25.Op)),(.node [(.pv (Sx v25.Atom.Name)),(.own 400)]),(.pv (Sx v25.Var)),(.own 401)]),(.pv (.sl true 12 []))])) 9 [5] 9348 12 NM SC SC SC) (Slm_ SC)) (fun i16 s16 hi h=>?_) (fun s16 h=>?_)
        ·have w:=ws_ (i:=i16) (by omega)
         refine SB ?_
         refine aD cs (by omega) (fun cs=>SB ?_)
         obtain⟨v116,hv116,h⟩:=rb_ h
         refine ar (f:=(al false)) hv116 SC (SB ?_)
         obtain⟨v121,hv121,h⟩:=rb_ h
         refine ai [false,false,false,false] (ih _ _ _ _ _ hv121) SC (SB ?_)
         refine OrR.l (SB ?_)
         obtain⟨v123,hv123,h⟩:=rb_ h
         refine aO (f:=(al false)) (fun a=>bq _ a) hv123 SC SC (SB ?_)
         refine ag (DHa_ [] [1952,1968]) (SB ?_)
         have h:=rs_ h
         refine aA ⟨_,h,?_⟩
         refine aM (Slm_1 (S:=[(2,.val (.pv (B a2))),(4,.box (.pv ((al false) a0))),(5,.box (.pv ((ae false) a1))),(8,.box (.node [(.pv (I 0)),(.node [(.pv (.sl true 5 [])),(.pv (.sl true 5 []))]),(.pv (I 0)),(.node [(.pv (Sx ⟨#[]⟩)),(.pv (.sl true 2 []))]),(.node [(.pv (I 0)),(.node [(.pv (Sx ⟨#[]⟩)),(.pv (.sl true 2 []))]),(.pv (Sx ⟨#[]⟩)),(.pv (.sl true 5 []))]),(.pv (.sl true 12 []))])),(9,.box (.node [(.pv (I a0.Rule)),(.node [(.pv (.sl false 5 (v32.Left.map (ae false)))),(.own 1088)]),(.pv (I a0.Main)),(.node [(.pv (Sx v22.Name)),(.own 352)]),(.node [(.pv (I v25.Op)),(.node [(.pv (Sx v25.Atom.Name)),(.own 400)]),(.pv (Sx v25.Var)),(.own 401)]),(.own 1968)])),(13,.val (.pv (I (IntKind.i64.wrap (a3-1))))),(15,.val (.pv (I (IntKind.i64.wrap ((i16:Int)+1)))))]) (O:=[(1088,(5,v68.map (ae false))),(352,(2,v22.Args.map (am true))),(400,(2,v25.Atom.Args.map (am true))),(401,(5,v25.Parts.map (ae true))),(1968,(12,v123.map (al false)))]) SW SW) ?_
         refine Slr_ 1968 9348 (by decide) NM ?_
         exact Slm_ SW
        ·refine SB ?_
         refine aE cs (by omega) (fun cs=>SB ?_)
         cases rs_ h
         exact aL SC
       ·refine Mkv_ (b:=false) (sz:=12) (es:=a0.Parts.map (al false)) (x:=(.pv ((al false) a0))) 0 [5] SC fun hl0=>?_; rw[aB] at hl0
        replace h:=rl_ h
        refine aF h (fun i16 s16=>[(2,.val (.pv (B a2))),(4,.box (.pv ((al false) a0))),(5,.box (.pv ((ae false) a1))),(8,.box (.node [(.pv (I 0)),(.node [(.pv (.sl true 5 [])),(.pv (.sl true 5 []))]),(.pv (I 0)),(.node [(.pv (Sx ⟨#[]⟩)),(.pv (.sl true 2 []))]),(.node [(.pv (I 0)),(.node [(.pv (Sx ⟨#[]⟩)),(.pv (.sl true 2 []))]),(.pv (Sx ⟨#[]⟩)),(.pv (.sl true 5 []))]),(.pv (.sl true 12 []))])),(9,.box (.node [(.pv (I a0.Rule)),(.node [(.pv (.sl false 5 (v32.Left.map (ae false)))),(.own 1088)]),(.pv (I a0.Main)),(.node [(.pv (Sx v22.Name)),(.own 352)]),(.node [(.pv (I v25.Op)),(.node [(.pv (Sx v25.Atom.Name)),(.own 400)]),(.pv (Sx v25.Var)),(.own 401)]),(.own 9348)])),(13,.val (.pv (I a3))),(15,.val (.pv (I (i16:Int))))]) (fun i16 s16=>[(1088,(5,v68.map (ae false))),(352,(2,v22.Args.map (am true))),(400,(2,v25.Atom.Args.map (am true))),(401,(5,v25.Parts.map (ae true))),(9348,(12,s16.map (al false)))]) (aM (Sln_ (x:=(.node [(.pv (I a0.Rule)),(.node [(.pv (.sl false 5 (v32.Left.map (ae false)))),(.own 1088)]),(.pv (I a0.Main)),(.node [(.pv (Sx v22.Name)),(.own 352)]),(.node [(.pv (I v25.Op)),(.node [(.pv (Sx v25.Atom.Name)),(.own 400)]),(.pv (Sx v25.Var)),(.own 401)]),(.pv (.sl true 12 []))])) 9 [5] 9348 12 NM SC SC SC) (Slm_ SC)) (fun i16 s16 hi h=>?_) (fun s16 h=>?_)
        ·have w:=ws_ (i:=i16) (by omega)
         refine SB ?_
         refine aD cs (by omega) (fun cs=>SB ?_)
         obtain⟨v116,hv116,h⟩:=rb_ h
         refine ar (f:=(al false)) hv116 SC (SB ?_)
         obtain⟨v121,hv121,h⟩:=rb_ h
         refine ai [false,false,false,false] (ih _ _ _ _ _ hv121) SC (SB ?_)
         refine OrR.l (SB ?_)
         obtain⟨v123,hv123,h⟩:=rb_ h
         refine aO (f:=(al false)) (fun a=>bq _ a) hv123 SC SC (SB ?_)
         refine ag (DHa_ [] [1952,1968]) (SB ?_)
         have h:=rs_ h
         refine aA ⟨_,h,?_⟩
         refine aM (Slm_1 (S:=[(2,.val (.pv (B a2))),(4,.box (.pv ((al false) a0))),(5,.box (.pv ((ae false) a1))),(8,.box (.node [(.pv (I 0)),(.node [(.pv (.sl true 5 [])),(.pv (.sl true 5 []))]),(.pv (I 0)),(.node [(.pv (Sx ⟨#[]⟩)),(.pv (.sl true 2 []))]),(.node [(.pv (I 0)),(.node [(.pv (Sx ⟨#[]⟩)),(.pv (.sl true 2 []))]),(.pv (Sx ⟨#[]⟩)),(.pv (.sl true 5 []))]),(.pv (.sl true 12 []))])),(9,.box (.node [(.pv (I a0.Rule)),(.node [(.pv (.sl false 5 (v32.Left.map (ae false)))),(.own 1088)]),(.pv (I a0.Main)),(.node [(.pv (Sx v22.Name)),(.own 352)]),(.node [(.pv (I v25.Op)),(.node [(.pv (Sx v25.Atom.Name)),(.own 400)]),(.pv (Sx v25.Var)),(.own 401)]),(.own 1968)])),(13,.val (.pv (I a3))),(15,.val (.pv (I (IntKind.i64.wrap ((i16:Int)+1)))))]) (O:=[(1088,(5,v68.map (ae false))),(352,(2,v22.Args.map (am true))),(400,(2,v25.Atom.Args.map (am true))),(401,(5,v25.Parts.map (ae true))),(1968,(12,v123.map (al false)))]) SW SW) ?_
         refine Slr_ 1968 9348 (by decide) NM ?_
         exact Slm_ SW
        ·refine SB ?_
         refine aE cs (by omega) (fun cs=>SB ?_)
         cases rs_ h
         exact aL SC
      ·refine Mkv_ (b:=false) (sz:=12) (es:=a0.Parts.map (al false)) (x:=(.pv ((al false) a0))) 0 [5] SC fun hl0=>?_; rw[aB] at hl0
       replace h:=rl_ h
       refine aF h (fun i16 s16=>[(2,.val (.pv (B a2))),(4,.box (.pv ((al false) a0))),(5,.box (.pv ((ae false) a1))),(8,.box (.node [(.pv (I 0)),(.node [(.pv (.sl true 5 [])),(.pv (.sl true 5 []))]),(.pv (I 0)),(.node [(.pv (Sx ⟨#[]⟩)),(.pv (.sl true 2 []))]),(.node [(.pv (I 0)),(.node [(.pv (Sx ⟨#[]⟩)),(.pv (.sl true 2 []))]),(.pv (Sx ⟨#[]⟩)),(.pv (.sl true 5 []))]),(.pv (.sl true 12 []))])),(9,.box (.node [(.pv (I a0.Rule)),(.node [(.pv (.sl false 5 (v32.Left.map (ae false)))),(.own 1088)]),(.pv (I a0.Main)),(.node [(.pv (Sx v22.Name)),(.own 352)]),(.node [(.pv (I v25.Op)),(.node [(.pv (Sx v25.Atom.Name)),(.own 400)]),(.pv (Sx v25.Var)),(.own 401)]),(.own 9348)])),(13,.val (.pv (I a3))),(15,.val (.pv (I (i16:Int))))]) (fun i16 s16=>[(1088,(5,v68.map (ae false))),(352,(2,v22.Args.map (am true))),(400,(2,v25.Atom.Args.map (am true))),(401,(5,v25.Parts.map (ae true))),(9348,(12,s16.map (al false)))]) (aM (Sln_ (x:=(.node [(.pv (I a0.Rule)),(.node [(.pv (.sl false 5 (v32.Left.map (ae false)))),(.own 1088)]),(.pv (I a0.Main)),(.node [(.pv (Sx v22.Name)),(.own 352)]),(.node [(.pv (I v25.Op)),(.node [(.pv (Sx v25.Atom.Name)),(.own 400)]),(.pv (Sx v25.Var)),(.own 401)]),(.pv (.sl true 12 []))])) 9 [5] 9348 12 NM SC SC SC) (Slm_ SC)) (fun i16 s16 hi h=>?_) (fun s16 h=>?_)
       ·have w:=ws_ (i:=i16) (by omega)
        refine SB ?_
        refine aD cs (by omega) (fun cs=>SB ?_)
        obtain⟨v116,hv116,h⟩:=rb_ h
        refine ar (f:=(al false)) hv116 SC (SB ?_)
        obtain⟨v121,hv121,h⟩:=rb_ h
        refine ai [false,false,false,false] (ih _ _ _ _ _ hv121) SC (SB ?_)
        refine OrR.l (SB ?_)
        obtain⟨v123,hv123,h⟩:=rb_ h
        refine aO (f:=(al false)) (fun a=>bq _ a) hv123 SC SC (SB ?_)
        refine ag (DHa_ [] [1952,1968]) (SB ?_)
        have h:=rs_ h
        refine aA ⟨_,h,?_⟩
        refine aM (Slm_1 (S:=[(2,.val (.pv (B a2))),(4,.box (.pv ((al false) a0))),(5,.box (.pv ((ae false) a1))),(8,.box (.node [(.pv (I 0)),(.node [(.pv (.sl true 5 [])),(.pv (.sl true 5 []))]),(.pv (I 0)),(.node [(.pv (Sx ⟨#[]⟩)),(.pv (.sl true 2 []))]),(.node [(.pv (I 0)),(.node [(.pv (Sx ⟨#[]⟩)),(.pv (.sl true 2 []))]),(.pv (Sx ⟨#[]⟩)),(.pv (.sl true 5 []))]),(.pv (.sl true 12 []))])),(9,.box (.node [(.pv (I a0.Rule)),(.node [(.pv (.sl false 5 (v32.Left.map (ae false)))),(.own 1088)]),(.pv (I a0.Main)),(.node [(.pv (Sx v22.Name)),(.own 352)]),(.node [(.pv (I v25.Op)),(.node [(.pv (Sx v25.Atom.Name)),(.own 400)]),(.pv (Sx v25.Var)),(.own 401)]),(.own 1968)])),(13,.val (.pv (I a3))),(15,.val (.pv (I (IntKind.i64.wrap ((i16:Int)+1)))))]) (O:=[(1088,(5,v68.map (ae false))),(352,(2,v22.Args.map (am true))),(400,(2,v25.Atom.Args.map (am true))),(401,(5,v25.Parts.map (ae true))),(1968,(12,v123.map (al false)))]) SW SW) ?_
        refine Slr_ 1968 9348 (by decide) NM ?_
        exact Slm_ SW
       ·refine SB ?_
        refine aE cs (by omega) (fun cs=>SB ?_)
        cases rs_ h
        exact aL SC
    ·obtain⟨v94,hv94,h⟩:=rb_ h
     refine ai [false,false] (slR_2 hv94) SC (SB ?_)
     refine ak cs h (fun cs h=>SB ?_) (fun cs h=>SB ?_)
     ·refine ak cs h (fun cs h=>SB ?_) (fun cs h=>SB ?_)
      ·refine Mkv_ (b:=false) (sz:=12) (es:=a0.Parts.map (al false)) (x:=(.pv ((al false) a0))) 0 [5] SC fun hl0=>?_; rw[aB] at hl0
       replace h:=rl_ h
       refine aF h (fun i16 s16=>[(2,.val (.pv (B a2))),(4,.box (.pv ((al false) a0))),(5,.box (.pv ((ae false) a1))),(8,.box (.node [(.pv (I 0)),(.node [(.pv (.sl true 5 [])),(.pv (.sl true 5 []))]),(.pv (I 0)),(.node [(.pv (Sx ⟨#[]⟩)),(.pv (.sl true 2 []))]),(.node [(.pv (I 0)),(.node [(.pv (Sx ⟨#[]⟩)),(.pv (.sl true 2 []))]),(.pv (Sx ⟨#[]⟩)),(.pv (.sl true 5 []))]),(.pv (.sl true 12 []))])),(9,.box (.node [(.pv (I a0.Rule)),(.node [(.pv (.sl false 5 (v32.Left.map (ae false)))),(.own 1088)]),(.pv (I a0.Main)),(.node [(.pv (Sx v22.Name)),(.own 352)]),(.node [(.pv (I v25.Op)),(.node [(.pv (Sx v25.Atom.Name)),(.own 400)]),(.pv (Sx v25.Var)),(.own 401)]),(.own 9348)])),(13,.val (.pv (I (IntKind.i64.wrap (a3-1))))),(15,.val (.pv (I (i16:Int))))]) (fun i16 s16=>[(1088,(5,v68.map (ae false))),(352,(2,v22.Args.map (am true))),(400,(2,v25.Atom.Args.map (am true))),(401,(5,v25.Parts.map (ae true))),(9348,(12,s16.map (al false)))]) (aM (Sln_ (x:=(.node [(.pv (I a0.Rule)),(.node [(.pv (.sl false 5 (v32.Left.map (ae false)))),(.own 1088)]),(.pv (I a0.Main)),(.node [(.pv (Sx v22.Name)),(.own 352)]),(.node [(.pv (I v25.Op)),(.node [(.pv (Sx v25.Atom.Name)),(.own 400)]),(.pv (Sx v25.Var)),(.own 401)]),(.pv (.sl true 12 []))])) 9 [5] 9348 12 NM SC SC SC) (Slm_ SC)) (fun i16 s16 hi h=>?_) (fun s16 h=>?_)
       ·have w:=ws_ (i:=i16) (by omega)
        refine SB ?_
        refine aD cs (by omega) (fun cs=>SB ?_)
        obtain⟨v116,hv116,h⟩:=rb_ h
        refine ar (f:=(al false)) hv116 SC (SB ?_)
        obtain⟨v121,hv121,h⟩:=rb_ h
        refine ai [false,false,false,false] (ih _ _ _ _ _ hv121) SC (SB ?_)
        refine OrR.l (SB ?_)
        obtain⟨v123,hv123,h⟩:=rb_ h
        refine aO (f:=(al false)) (fun a=>bq _ a) hv123 SC SC (SB ?_)
        refine ag (DHa_ [] [1952,1968]) (SB ?_)
        have h:=rs_ h
        refine aA ⟨_,h,?_⟩
        refine aM (Slm_1 (S:=[(2,.val (.pv (B a2))),(4,.box (.pv ((al false) a0))),(5,.box (.pv ((ae false) a1))),(8,.box (.node [(.pv (I 0)),(.node [(.pv (.sl true 5 [])),(.pv (.sl true 5 []))]),(.pv (I 0)),(.node [(.pv (Sx ⟨#[]⟩)),(.pv (.sl true 2 []))]),(.node [(.pv (I 0)),(.node [(.pv (Sx ⟨#[]⟩)),(.pv (.sl true 2 []))]),(.pv (Sx ⟨#[]⟩)),(.pv (.sl true 5 []))]),(.pv (.sl true 12 []))])),(9,.box (.node [(.pv (I a0.Rule)),(.node [(.pv (.sl false 5 (v32.Left.map (ae false)))),(.own 1088)]),(.pv (I a0.Main)),(.node [(.pv (Sx v22.Name)),(.own 352)]),(.node [(.pv (I v25.Op)),(.node [(.pv (Sx v25.Atom.Name)),(.own 400)]),(.pv (Sx v25.Var)),(.own 401)]),(.own 1968)])),(13,.val (.pv (I (IntKind.i64.wrap (a3-1))))),(15,.val (.pv (I (IntKind.i64.wrap ((i16:Int)+1)))))]) (O:=[(1088,(5,v68.map (ae false))),(352,(2,v22.Args.map (am true))),(400,(2,v25.Atom.Args.map (am true))),(401,(5,v25.Parts.map (ae true))),(1968,(12,v123.map (al false)))]) SW SW) ?_
        refine Slr_ 1968 9348 (by decide) NM ?_
        exact Slm_ SW
       ·refine SB ?_
        refine aE cs (by omega) (fun cs=>SB ?_)
        cases rs_ h
        exact aL SC
      ·refine Mkv_ (b:=false) (sz:=12) (es:=a0.Parts.map (al false)) (x:=(.pv ((al false) a0))) 0 [5] SC fun hl0=>?_; rw[aB] at hl0
       replace h:=rl_ h
       refine aF h (fun i16 s16=>[(2,.val (.pv (B a2))),(4,.box (.pv ((al false) a0))),(5,.box (.pv ((ae false) a1))),(8,.box (.node [(.pv (I 0)),(.node [(.pv (.sl true 5 [])),(.pv (.sl true 5 []))]),(.pv (I 0)),(.node [(.pv (Sx ⟨#[]⟩)),(.pv (.sl true 2 []))]),(.node [(.pv (I 0)),(.node [(.pv (Sx ⟨#[]⟩)),(.pv (.sl true 2 []))]),(.pv (Sx ⟨#[]⟩)),(.pv (.sl true 5 []))]),(.pv (.sl true 12 []))])),(9,.box (.node [(.pv (I a0.Rule)),(.node [(.pv (.sl false 5 (v32.Left.map (ae false)))),(.own 1088)]),(.pv (I a0.Main)),(.node [(.pv (Sx v22.Name)),(.own 352)]),(.node [(.pv (I v25.Op)),(.node [(.pv (Sx v25.Atom.Name)),(.own 400)]),(.pv (Sx v25.Var)),(.own 401)]),(.own 9348)])),(13,.val (.pv (I a3))),(15,.val (.pv (I (i16:Int))))]) (fun i16 s16=>[(1088,(5,v68.map (ae false))),(352,(2,v22.Args.map (am true))),(400,(2,v25.Atom.Args.map (am true))),(401,(5,v25.Parts.map (ae true))),(9348,(12,s16.map (al false)))]) (aM (Sln_ (x:=(.node [(.pv (I a0.Rule)),(.node [(.pv (.sl false 5 (v32.Left.map (ae false)))),(.own 1088)]),(.pv (I a0.Main)),(.node [(.pv (Sx v22.Name)),(.own 352)]),(.node [(.pv (I v25.Op)),(.node [(.pv (Sx v25.Atom.Name)),(.own 400)]),(.pv (Sx v25.Var)),(.own 401)]),(.pv (.sl true 12 []))])) 9 [5] 9348 12 NM SC SC SC) (Slm_ SC)) (fun i16 s16 hi h=>?_) (fun s16 h=>?_)
       ·have w:=ws_ (i:=i16) (by omega)
        refine SB ?_
        refine aD cs (by omega) (fun cs=>SB ?_)
        obtain⟨v116,hv116,h⟩:=rb_ h
        refine ar (f:=(al false)) hv116 SC (SB ?_)
        obtain⟨v121,hv121,h⟩:=rb_ h
        refine ai [false,false,false,false] (ih _ _ _ _ _ hv121) SC (SB ?_)
        refine OrR.l (SB ?_)
        obtain⟨v123,hv123,h⟩:=rb_ h
        refine aO (f:=(al false)) (fun a=>bq _ a) hv123 SC SC (SB ?_)
        refine ag (DHa_ [] [1952,1968]) (SB ?_)
        have h:=rs_ h
        refine aA ⟨_,h,?_⟩
        refine aM (Slm_1 (S:=[(2,.val (.pv (B a2))),(4,.box (.pv ((al false) a0))),(5,.box (.pv ((ae false) a1))),(8,.box (.node [(.pv (I 0)),(.node [(.pv (.sl true 5 [])),(.pv (.sl true 5 []))]),(.pv (I 0)),(.node [(.pv (Sx ⟨#[]⟩)),(.pv (.sl true 2 []))]),(.node [(.pv (I 0)),(.node [(.pv (Sx ⟨#[]⟩)),(.pv (.sl true 2 []))]),(.pv (Sx ⟨#[]⟩)),(.pv (.sl true 5 []))]),(.pv (.sl true 12 []))])),(9,.box (.node [(.pv (I a0.Rule)),(.node [(.pv (.sl false 5 (v32.Left.map (ae false)))),(.own 1088)]),(.pv (I a0.Main)),(.node [(.pv (Sx v22.Name)),(.own 352)]),(.node [(.pv (I v25.Op)),(.node [(.pv (Sx v25.Atom.Name)),(.own 400)]),(.pv (Sx v25.Var)),(.own 401)]),(.own 1968)])),(13,.val (.pv (I a3))),(15,.val (.pv (I (IntKind.i64.wrap ((i16:Int)+1)))))]) (O:=[(1088,(5,v68.map (ae false))),(352,(2,v22.Args.map (am true))),(400,(2,v25.Atom.Args.map (am true))),(401,(5,v25.Parts.map (ae true))),(1968,(12,v123.map (al false)))]) SW SW) ?_
        refine Slr_ 1968 9348 (by decide) NM ?_
        exact Slm_ SW
       ·refine SB ?_
        refine aE cs (by omega) (fun cs=>SB ?_)
        cases rs_ h
        exact aL SC
     ·refine Mkv_ (b:=false) (sz:=12) (es:=a0.Parts.map (al false)) (x:=(.pv ((al false) a0))) 0 [5] SC fun hl0=>?_; rw[aB] at hl0
      replace h:=rl_ h
      refine aF h (fun i16 s16=>[(2,.val (.pv (B a2))),(4,.box (.pv ((al false) a0))),(5,.box (.pv ((ae false) a1))),(8,.box (.node [(.pv (I 0)),(.node [(.pv (.sl true 5 [])),(.pv (.sl true 5 []))]),(.pv (I 0)),(.node [(.pv (Sx ⟨#[]⟩)),(.pv (.sl true 2 []))]),(.node [(.pv (I 0)),(.node [(.pv (Sx ⟨#[]⟩)),(.pv (.sl true 2 []))]),(.pv (Sx ⟨#[]⟩)),(.pv (.sl true 5 []))]),(.pv (.sl true 12 []))])),(9,.box (.node [(.pv (I a0.Rule)),(.node [(.pv (.sl false 5 (v32.Left.map (ae false)))),(.own 1088)]),(.pv (I a0.Main)),(.node [(.pv (Sx v22.Name)),(.own 352)]),(.node [(.pv (I v25.Op)),(.node [(.pv (Sx v25.Atom.Name)),(.own 400)]),(.pv (Sx v25.Var)),(.own 401)]),(.own 9348)])),(13,.val (.pv (I a3))),(15,.val (.pv (I (i16:Int))))]) (fun i16 s16=>[(1088,(5,v68.map (ae false))),(352,(2,v22.Args.map (am true))),(400,(2,v25.Atom.Args.map (am true))),(401,(5,v25.Parts.map (ae true))),(9348,(12,s16.map (al false)))]) (aM (Sln_ (x:=(.node [(.pv (I a0.Rule)),(.node [(.pv (.sl false 5 (v32.Left.map (ae false)))),(.own 1088)]),(.pv (I a0.Main)),(.node [(.pv (Sx v22.Name)),(.own 352)]),(.node [(.pv (I v25.Op)),(.node [(.pv (Sx v25.Atom.Name)),(.own 400)]),(.pv (Sx v25.Var)),(.own 401)]),(.pv (.sl true 12 []))])) 9 [5] 9348 12 NM SC SC SC) (Slm_ SC)) (fun i16 s16 hi h=>?_) (fun s16 h=>?_)
      ·have w:=ws_ (i:=i16) (by omega)
       refine SB ?_
       refine aD cs (by omega) (fun cs=>SB ?_)
       obtain⟨v116,hv116,h⟩:=rb_ h
       refine ar (f:=(al false)) hv116 SC (SB ?_)
       obtain⟨v121,hv121,h⟩:=rb_ h
       refine ai [false,false,false,false] (ih _ _ _ _ _ hv121) SC (SB ?_)
       refine OrR.l (SB ?_)
       obtain⟨v123,hv123,h⟩:=rb_ h
       refine aO (f:=(al false)) (fun a=>bq _ a) hv123 SC SC (SB ?_)
       refine ag (DHa_ [] [1952,1968]) (SB ?_)
       have h:=rs_ h
       refine aA ⟨_,h,?_⟩
       refine aM (Slm_1 (S:=[(2,.val (.pv (B a2))),(4,.box (.pv ((al false) a0))),(5,.box (.pv ((ae false) a1))),(8,.box (.node [(.pv (I 0)),(.node [(.pv (.sl true 5 [])),(.pv (.sl true 5 []))]),(.pv (I 0)),(.node [(.pv (Sx ⟨#[]⟩)),(.pv (.sl true 2 []))]),(.node [(.pv (I 0)),(.node [(.pv (Sx ⟨#[]⟩)),(.pv (.sl true 2 []))]),(.pv (Sx ⟨#[]⟩)),(.pv (.sl true 5 []))]),(.pv (.sl true 12 []))])),(9,.box (.node [(.pv (I a0.Rule)),(.node [(.pv (.sl false 5 (v32.Left.map (ae false)))),(.own 1088)]),(.pv (I a0.Main)),(.node [(.pv (Sx v22.Name)),(.own 352)]),(.node [(.pv (I v25.Op)),(.node [(.pv (Sx v25.Atom.Name)),(.own 400)]),(.pv (Sx v25.Var)),(.own 401)]),(.own 1968)])),(13,.val (.pv (I a3))),(15,.val (.pv (I (IntKind.i64.wrap ((i16:Int)+1)))))]) (O:=[(1088,(5,v68.map (ae false))),(352,(2,v22.Args.map (am true))),(400,(2,v25.Atom.Args.map (am true))),(401,(5,v25.Parts.map (ae true))),(1968,(12,v123.map (al false)))]) SW SW) ?_
       refine Slr_ 1968 9348 (by decide) NM ?_
       exact Slm_ SW
      ·refine SB ?_
       refine aE cs (by omega) (fun cs=>SB ?_)
       cases rs_ h
       exact aL SC
theorem slI_5{a0:Dt}{a1:Ft}{a2:Bool}{a3:Int}{r:Dt}(h:slI_9 a0 a1 a2 a3=some r):Sat aj 72 [((al false) a0),((ae false) a1),(B a2),(I a3)] ((al false) r):=by
 obtain⟨n,hn⟩:=ls_ h
 exact(slI_12 n) _ _ _ _ _ hn

theorem sWA_1{a0:Dt}{a1:Ft}{a2:Bool}{a3:Int}  {r:Dt×Bool}(h:sWA_ a0 a1 a2 a3=some r):Sat aj 35 [((al false) a0),((ae false) a1),(B a2),(I a3)] (.tup [((al false) r.1),(B r.2)]):=by
 obtain⟨h,cs⟩:=Ro_ h
 unfold sWA_ at h
 refine av (nt:=45) (rs:=[.cell 8 47,.tmp 9]) (n:=100000) Tryz.func35 rfl rfl rfl rfl (by simp) (S ?_)
 obtain⟨v13,hv13,h⟩:=rb_ h
 refine ai [false] (slV_1 hv13) SC (S ?_)
 refine ak cs h (fun cs h=>S ?_) (fun cs h=>S ?_)
 ·obtain⟨v17,hv17,h⟩:=rb_ h
  refine ai [false] (slG_2 hv17) SC (S ?_)
  refine ak cs h (fun cs h=>S ?_) (fun cs h=>S ?_)
  ·refine ak cs h (fun cs h=>S ?_) (fun cs h=>S ?_)
   ·obtain⟨v32,hv32,h⟩:=rb_ h
    refine ai [false,false,false] (slI_2 hv32) SC (S ?_)
    refine ak cs h (fun cs h=>S ?_) (fun cs h=>S ?_)
    ·obtain⟨v39,hv39,h⟩:=rb_ h
     refine ai [false,false,false,false] (slI_5 hv39) SC (S ?_)
     obtain⟨v41,hv41,h⟩:=rb_ h
     refine ai [false] (slV_1 hv41) SC (S ?_)
     refine ak cs h (fun cs h=>S ?_) (fun cs h=>S ?_)
     ·cases rs_ h
      exact aL SC
     ·cases rs_ h
      exact aL SC
    ·cases rs_ h
     exact aL SC
   ·obtain⟨v32,hv32,h⟩:=rb_ h
    refine ai [false,false,false] (slI_2 hv32) SC (S ?_)
    refine ak cs h (fun cs h=>S ?_) (fun cs h=>S ?_)
    ·obtain⟨v39,hv39,h⟩:=rb_ h
     refine ai [false,false,false,false] (slI_5 hv39) SC (S ?_)
     obtain⟨v41,hv41,h⟩:=rb_ h
     refine ai [false] (slV_1 hv41) SC (S ?_)
     refine ak cs h (fun cs h=>S ?_) (fun cs h=>S ?_)
     ·cases rs_ h
      exact aL SC
     ·cases rs_ h
      exact aL SC
    ·cases rs_ h
     exact aL SC
  ·cases rs_ h
   exact aL SC
 ·cases rs_ h
  exact aL SC

theorem irN_2(n:Nat):(∀ (a0:Dt) (r:Int),irN_ n a0=some r→Sat aj 118 [((al false) a0)] (I r)):=by
 induction n with
 | zero=>exact fun _ _ h=>by simp[irN_] at h
 | succ n ih=>
  refine fun a0 r h=>?_
  obtain⟨h,cs⟩:=Ro_ h
  rw[irN_] at h
  refine av (nt:=22) (rs:=[.tmp 2]) (n:=100000) Tryz.func118 rfl rfl rfl rfl (by simp) (S ?_)
  refine aR (b:=false) (sz:=12) (es:=a0.Parts.map (al false)) 7 SC fun hl7=>?_; rw[aB] at hl7
  replace h:=rl_ h
  refine aF h (fun i3 s3=>[(3,.val (.pv (I s3))),(7,.val (.pv (.sl false 12 (a0.Parts.map (al false))))),(8,.val (.pv (I (a0.Parts.length:Int)))),(9,.val (.pv (I (i3:Int))))]) (fun i3 s3=>[]) (Slm_ SC) (fun i3 s3 hi h=>?_) (fun s3 h=>?_)
  ·have w:=ws_ (i:=i3) (by omega)
   refine S ?_
   refine aD cs (by omega) (fun cs=>S ?_)
   obtain⟨v11,hv11,h⟩:=rb_ h
   refine ar (f:=(al false)) hv11 SC (S ?_)
   refine ak cs h (fun cs h=>S ?_) (fun cs h=>S ?_)
   ·cases rs_ h
    exact ah SC
   ·obtain⟨v18,hv18,h⟩:=rb_ h
    refine ai [false] (ih _ _ hv18) SC (S ?_)
    have h:=rs_ h
    refine aA ⟨_,h,?_⟩
    exact Slm_ SW
  ·refine S ?_
   refine aE cs (by omega) (fun cs=>S ?_)
   cases rs_ h
   exact ah SC
theorem irN_3{a0:Dt}{r:Int}(h:irN_1 a0=some r):Sat aj 118 [((al false) a0)] (I r):=by
 obtain⟨n,hn⟩:=ls_ h
 exact(irN_2 n) _ _ hn

theorem isO_2(n:Nat):(∀ (a0:Ft) (r:Int),isO_ n a0=some r→Sat aj 82 [((ae false) a0)] (I r)):=by
 induction n with
 | zero=>exact fun _ _ h=>by simp[isO_] at h
 | succ n ih=>
  refine fun a0 r h=>?_
  obtain⟨h,cs⟩:=Ro_ h
  rw[isO_] at h
  refine av (nt:=22) (rs:=[.tmp 2]) (n:=100000) Tryz.func82 rfl rfl rfl rfl (by simp) (S ?_)
  refine aR (b:=false) (sz:=5) (es:=a0.Parts.map (ae false)) 7 SC fun hl7=>?_; rw[aB] at hl7
  replace h:=rl_ h
  refine aF h (fun i3 s3=>[(3,.val (.pv (I s3))),(7,.val (.pv (.sl false 5 (a0.Parts.map (ae false))))),(8,.val (.pv (I (a0.Parts.length:Int)))),(9,.val (.pv (I (i3:Int))))]) (fun i3 s3=>[]) (Slm_ SC) (fun i3 s3 hi h=>?_) (fun s3 h=>?_)
  ·have w:=ws_ (i:=i3) (by omega)
   refine S ?_
   refine aD cs (by omega) (fun cs=>S ?_)
   obtain⟨v11,hv11,h⟩:=rb_ h
   refine ar (f:=(ae false)) hv11 SC (S ?_)
   refine ak cs h (fun cs h=>S ?_) (fun cs h=>S ?_)
   ·cases rs_ h
    exact ah SC
   ·obtain⟨v18,hv18,h⟩:=rb_ h
    refine ai [false] (ih _ _ hv18) SC (S ?_)
    have h:=rs_ h
    refine aA ⟨_,h,?_⟩
    exact Slm_ SW
  ·refine S ?_
   refine aE cs (by omega) (fun cs=>S ?_)
   cases rs_ h
   exact ah SC
theorem isO_3{a0:Ft}{r:Int}(h:isO_1 a0=some r):Sat aj 82 [((ae false) a0)] (I r):=by
 obtain⟨n,hn⟩:=ls_ h
 exact(isO_2 n) _ _ hn

theorem iiQ_{a0:Int}  {r:Bool}(h:iiQ_2 a0=some r):Sat aj 134 [(I a0)] (B r):=by
 obtain⟨h,cs⟩:=Ro_ h
 unfold iiQ_2 at h
 refine av (nt:=9) (rs:=[.tmp 2]) (n:=100000) Tryz.func134 rfl rfl rfl rfl (by simp) (S ?_)
 refine ak cs h (fun cs h=>S ?_) (fun cs h=>S ?_)
 ·cases rs_ h
  exact ah SC
 ·cases rs_ h
  exact ah SC

theorem iiB_1{a0:Int}  {r:Bool}(h:iiB_ a0=some r):Sat aj 135 [(I a0)] (B r):=by
 obtain⟨h,cs⟩:=Ro_ h
 unfold iiB_ at h
 refine av (nt:=13) (rs:=[.tmp 2]) (n:=100000) Tryz.func135 rfl rfl rfl rfl (by simp) (S ?_)
 refine ak cs h (fun cs h=>S ?_) (fun cs h=>S ?_)
 ·cases rs_ h
  exact ah SC
 ·refine ak cs h (fun cs h=>S ?_) (fun cs h=>S ?_)
  ·cases rs_ h
   exact ah SC
  ·cases rs_ h
   exact ah SC

theorem iiU_1{a0:Int}  {r:Bool}(h:iiU_ a0=some r):Sat aj 155 [((Ik .u8) a0)] (B r):=by
 obtain⟨h,cs⟩:=Ro_ h
 unfold iiU_ at h
 refine av (nt:=9) (rs:=[.tmp 2]) (n:=100000) Tryz.func155 rfl rfl rfl rfl (by simp) (S ?_)
 refine ak cs h (fun cs h=>S ?_) (fun cs h=>S ?_)
 ·cases rs_ h
  exact ah SC
 ·cases rs_ h
  exact ah SC

theorem iiL_1{a0:Int}  {r:Bool}(h:iiL_ a0=some r):Sat aj 156 [((Ik .u8) a0)] (B r):=by
 obtain⟨h,cs⟩:=Ro_ h
 unfold iiL_ at h
 refine av (nt:=9) (rs:=[.tmp 2]) (n:=100000) Tryz.func156 rfl rfl rfl rfl (by simp) (S ?_)
 refine ak cs h (fun cs h=>S ?_) (fun cs h=>S ?_)
 ·cases rs_ h
  exact ah SC
 ·cases rs_ h
  exact ah SC

theorem iiD_2{a0:Int}  {r:Bool}(h:iiD_1 a0=some r):Sat aj 157 [((Ik .u8) a0)] (B r):=by
 obtain⟨h,cs⟩:=Ro_ h
 unfold iiD_1 at h
 refine av (nt:=9) (rs:=[.tmp 2]) (n:=100000) Tryz.func157 rfl rfl rfl rfl (by simp) (S ?_)
 refine ak cs h (fun cs h=>S ?_) (fun cs h=>S ?_)
 ·cases rs_ h
  exact ah SC
 ·cases rs_ h
  exact ah SC

theorem iws_{a0:Int}{a1:Int}{a2:Int}  {r:Bool}(h:iw_ a0 a1 a2=some r):Sat aj 56 [(I a0),(I a1),(I a2)] (B r):=by
 obtain⟨h,cs⟩:=Ro_ h
 unfold iw_ at h
 refine av (nt:=15) (rs:=[.tmp 6]) (n:=100000) Tryz.func56 rfl rfl rfl rfl (by simp) (S ?_)
 refine ak cs h (fun cs h=>S ?_) (fun cs h=>S ?_)
 ·cases rs_ h
  exact ah SC
 ·cases rs_ h
  exact ah SC

theorem iiV_1{a0:ByteArray}  {r:Bool}(h:iiV_ a0=some r):Sat aj 136 [(Sx a0)] (B r):=by
 obtain⟨h,cs⟩:=Ro_ h
 unfold iiV_ at h
 refine av (nt:=40) (rs:=[.tmp 2]) (n:=100000) Tryz.func136 rfl rfl rfl rfl (by simp) (S ?_)
 obtain⟨N2,hN2,h⟩:=rb_ h
 obtain⟨hN2a,hN2b⟩:=bs_ hN2
 replace h:=rl_ h
 refine aF h (fun i2 s2=>[(0,.val (.pv (Sx a0))),(5,.val (.pv (I (a0.size:Int)))),(6,.val (.pv (I (i2:Int))))]) (fun i2 s2=>[]) (Slm_ SC) (fun i2 s2 hi h=>?_) (fun s2 h=>?_)
 ·have w:=ws_ (i:=i2) (by omega)
  refine S ?_
  refine aD cs (by omega) (fun cs=>S ?_)
  refine ak cs h (fun cs h=>S ?_) (fun cs h=>S ?_)
  ·obtain⟨v14,hv14,h⟩:=rb_ h
   refine bB hv14 (S ?_)
   obtain⟨v15,hv15,h⟩:=rb_ h
   refine ai [false] (iiU_1 hv15) SC (S ?_)
   refine ak cs h (fun cs h=>S ?_) (fun cs h=>S ?_)
   ·refine ak cs h (fun cs h=>S ?_) (fun cs h=>S ?_)
    ·obtain⟨v24,hv24,h⟩:=rb_ h
     refine bB hv24 (S ?_)
     obtain⟨v25,hv25,h⟩:=rb_ h
     refine ai [false] (iiL_1 hv25) SC (S ?_)
     refine ak cs h (fun cs h=>S ?_) (fun cs h=>S ?_)
     ·have h:=rs_ h
      refine aA ⟨_,h,?_⟩
      exact Slm_ SW
     ·obtain⟨v31,hv31,h⟩:=rb_ h
      refine bB hv31 (S ?_)
      obtain⟨v32,hv32,h⟩:=rb_ h
      refine ai [false] (iiD_2 hv32) SC (S ?_)
      refine ak cs h (fun cs h=>S ?_) (fun cs h=>S ?_)
      ·have h:=rs_ h
       refine aA ⟨_,h,?_⟩
       exact Slm_ SW
      ·cases rs_ h
       exact ah SC
    ·have h:=rs_ h
     refine aA ⟨_,h,?_⟩
     exact Slm_ SW
   ·cases rs_ h
    exact ah SC
  ·refine ak cs h (fun cs h=>S ?_) (fun cs h=>S ?_)
   ·obtain⟨v24,hv24,h⟩:=rb_ h
    refine bB hv24 (S ?_)
    obtain⟨v25,hv25,h⟩:=rb_ h
    refine ai [false] (iiL_1 hv25) SC (S ?_)
    refine ak cs h (fun cs h=>S ?_) (fun cs h=>S ?_)
    ·have h:=rs_ h
     refine aA ⟨_,h,?_⟩
     exact Slm_ SW
    ·obtain⟨v31,hv31,h⟩:=rb_ h
     refine bB hv31 (S ?_)
     obtain⟨v32,hv32,h⟩:=rb_ h
     refine ai [false] (iiD_2 hv32) SC (S ?_)
     refine ak cs h (fun cs h=>S ?_) (fun cs h=>S ?_)
     ·have h:=rs_ h
      refine aA ⟨_,h,?_⟩
      exact Slm_ SW
     ·cases rs_ h
      exact ah SC
   ·have h:=rs_ h
    refine aA ⟨_,h,?_⟩
    exact Slm_ SW
 ·refine S ?_
  refine aE cs (by omega) (fun cs=>S ?_)
  obtain⟨v39,hv39,h⟩:=rb_ h
  refine ai [false,false,false] (iws_ hv39) SC (S ?_)
  cases rs_ h
  exact ah SC

theorem iiE_1{a0:Tt}  {r:Bool}(h:iiE_ a0=some r):Sat aj 158 [((am false) a0)] (B r):=by
 obtain⟨h,cs⟩:=Ro_ h
 unfold iiE_ at h
 refine av (nt:=6) (rs:=[.tmp 2]) (n:=100000) Tryz.func158 rfl rfl rfl rfl (by simp) (S ?_)
 cases rs_ h
 exact ah SC

theorem isN_3(n:Nat):(∀ (a0:Tt) (r:Int),isN_1 n a0=some r→Sat aj 175 [((am false) a0)] (I r)):=by
 induction n with
 | zero=>exact fun _ _ h=>by simp[isN_1] at h
 | succ n ih=>
  refine fun a0 r h=>?_
  obtain⟨h,cs⟩:=Ro_ h
  rw[isN_1] at h
  refine av (nt:=22) (rs:=[.tmp 2]) (n:=100000) Tryz.func175 rfl rfl rfl rfl (by simp) (S ?_)
  refine aR (b:=false) (sz:=2) (es:=a0.Args.map (am false)) 7 SC fun hl7=>?_; rw[aB] at hl7
  replace h:=rl_ h
  refine aF h (fun i3 s3=>[(3,.val (.pv (I s3))),(7,.val (.pv (.sl false 2 (a0.Args.map (am false))))),(8,.val (.pv (I (a0.Args.length:Int)))),(9,.val (.pv (I (i3:Int))))]) (fun i3 s3=>[]) (Slm_ SC) (fun i3 s3 hi h=>?_) (fun s3 h=>?_)
  ·have w:=ws_ (i:=i3) (by omega)
   refine S ?_
   refine aD cs (by omega) (fun cs=>S ?_)
   obtain⟨v11,hv11,h⟩:=rb_ h
   refine ar (f:=(am false)) hv11 SC (S ?_)
   refine ak cs h (fun cs h=>S ?_) (fun cs h=>S ?_)
   ·cases rs_ h
    exact ah SC
   ·obtain⟨v18,hv18,h⟩:=rb_ h
    refine ai [false] (ih _ _ hv18) SC (S ?_)
    have h:=rs_ h
    refine aA ⟨_,h,?_⟩
    exact Slm_ SW
  ·refine S ?_
   refine aE cs (by omega) (fun cs=>S ?_)
   cases rs_ h
   exact ah SC
theorem iss_1{a0:Tt}{r:Int}(h:is_1 a0=some r):Sat aj 175 [((am false) a0)] (I r):=by
 obtain⟨n,hn⟩:=ls_ h
 exact(isN_3 n) _ _ hn

theorem idN_1(n:Nat):(∀ (a0:Tt) (r:Int),idN_ n a0=some r→Sat aj 176 [((am false) a0)] (I r)):=by
 induction n with
 | zero=>exact fun _ _ h=>by simp[idN_] at h
 | succ n ih=>
  refine fun a0 r h=>?_
  obtain⟨h,cs⟩:=Ro_ h
  rw[idN_] at h
  refine av (nt:=20) (rs:=[.tmp 2]) (n:=100000) Tryz.func176 rfl rfl rfl rfl (by simp) (S ?_)
  refine aR (b:=false) (sz:=2) (es:=a0.Args.map (am false)) 7 SC fun hl7=>?_; rw[aB] at hl7
  replace h:=rl_ h
  refine aF h (fun i3 s3=>[(3,.val (.pv (I s3))),(7,.val (.pv (.sl false 2 (a0.Args.map (am false))))),(8,.val (.pv (I (a0.Args.length:Int)))),(9,.val (.pv (I (i3:Int))))]) (fun i3 s3=>[]) (Slm_ SC) (fun i3 s3 hi h=>?_) (fun s3 h=>?_)
  ·have w:=ws_ (i:=i3) (by omega)
   refine S ?_
   refine aD cs (by omega) (fun cs=>S ?_)
   obtain⟨v11,hv11,h⟩:=rb_ h
   refine ar (f:=(am false)) hv11 SC (S ?_)
   obtain⟨v15,hv15,h⟩:=rb_ h
   refine ai [false] (ih _ _ hv15) SC (S ?_)
   have h:=rs_ h
   refine aA ⟨_,h,?_⟩
   exact Slm_ SW
  ·refine S ?_
   refine aE cs (by omega) (fun cs=>S ?_)
   cases rs_ h
   exact ah SC
theorem ids_{a0:Tt}{r:Int}(h:id_ a0=some r):Sat aj 176 [((am false) a0)] (I r):=by
 obtain⟨n,hn⟩:=ls_ h
 exact(idN_1 n) _ _ hn

theorem iiS_3{a0:Tt}  {r:Bool}(h:iiS_1 a0=some r):Sat aj 159 [((am false) a0)] (B r):=by
 obtain⟨h,cs⟩:=Ro_ h
 unfold iiS_1 at h
 refine av (nt:=11) (rs:=[.tmp 2]) (n:=100000) Tryz.func159 rfl rfl rfl rfl (by simp) (S ?_)
 obtain⟨v4,hv4,h⟩:=rb_ h
 refine ai [false] (iss_1 hv4) SC (S ?_)
 refine ak cs h (fun cs h=>S ?_) (fun cs h=>S ?_)
 ·obtain⟨v8,hv8,h⟩:=rb_ h
  refine ai [false] (ids_ hv8) SC (S ?_)
  cases rs_ h
  exact ah SC
 ·cases rs_ h
  exact ah SC

theorem irs_   {r:List ByteArray}(h:ir_  =some r):Sat aj 180 [] (.sl true 1 (r.map Sx)):=by
 obtain⟨h,cs⟩:=Ro_ h
 unfold ir_ at h
 refine av (nt:=2) (rs:=[.tmp 0]) (n:=100000) Tryz.func180 rfl rfl rfl rfl (by simp) (S ?_)
 cases rs_ h
 exact ah SC

theorem sIS_1{a0:List ByteArray}{a1:ByteArray}  {r:Int}(h:sIS_ a0 a1=some r):Sat aj 190 [(.sl false 1 (a0.map Sx)),(Sx a1)] (I r):=by
 obtain⟨h,cs⟩:=Ro_ h
 unfold sIS_ at h
 refine av (nt:=19) (rs:=[.tmp 4]) (n:=100000) Tryz.func190 rfl rfl rfl rfl (by simp) (S ?_)
 refine aR (b:=false) (sz:=1) (es:=a0.map Sx) 0 SC fun hl0=>?_; rw[aB] at hl0
 replace h:=rl_ h
 refine aF h (fun i2 s2=>[(0,.val (.pv (.sl false 1 (a0.map Sx)))),(1,.val (.pv (Sx a1))),(7,.val (.pv (I (a0.length:Int)))),(8,.val (.pv (I (i2:Int))))]) (fun i2 s2=>[]) (Slm_ SC) (fun i2 s2 hi h=>?_) (fun s2 h=>?_)
 ·have w:=ws_ (i:=i2) (by omega)
  refine S ?_
  refine aD cs (by omega) (fun cs=>S ?_)
  obtain⟨v14,hv14,h⟩:=rb_ h
  refine ar (f:=Sx) hv14 SC (S ?_)
  refine ak cs h (fun cs h=>S ?_) (fun cs h=>S ?_)
  ·cases rs_ h
   exact ah SC
  ·have h:=rs_ h
   refine aA ⟨_,h,?_⟩
   exact Slm_ SW
 ·refine S ?_
  refine aE cs (by omega) (fun cs=>S ?_)
  cases rs_ h
  exact ah SC

theorem sCS_2{a0:List ByteArray}{a1:ByteArray}  {r:Bool}(h:sCS_ a0 a1=some r):Sat aj 179 [(.sl false 1 (a0.map Sx)),(Sx a1)] (B r):=by
 obtain⟨h,cs⟩:=Ro_ h
 unfold sCS_ at h
 refine av (nt:=9) (rs:=[.tmp 4]) (n:=100000) Tryz.func179 rfl rfl rfl rfl (by simp) (S ?_)
 obtain⟨v7,hv7,h⟩:=rb_ h
 refine ai [false,false] (sIS_1 hv7) SC (S ?_)
 cases rs_ h
 exact ah SC

theorem iiS_2{a0:ByteArray}  {r:Bool}(h:iiS_ a0=some r):Sat aj 161 [(Sx a0)] (B r):=by
 obtain⟨h,cs⟩:=Ro_ h
 unfold iiS_ at h
 refine av (nt:=48) (rs:=[.tmp 2]) (n:=100000) Tryz.func161 rfl rfl rfl rfl (by simp) (S ?_)
 obtain⟨N2,hN2,h⟩:=rb_ h
 obtain⟨hN2a,hN2b⟩:=bs_ hN2
 replace h:=rl_ h
 refine aF h (fun i2 s2=>[(0,.val (.pv (Sx a0))),(5,.val (.pv (I (a0.size:Int)))),(6,.val (.pv (I (i2:Int))))]) (fun i2 s2=>[]) (Slm_ SC) (fun i2 s2 hi h=>?_) (fun s2 h=>?_)
 ·have w:=ws_ (i:=i2) (by omega)
  refine S ?_
  refine aD cs (by omega) (fun cs=>S ?_)
  refine ak cs h (fun cs h=>S ?_) (fun cs h=>S ?_)
  ·obtain⟨v14,hv14,h⟩:=rb_ h
   refine bB hv14 (S ?_)
   obtain⟨v15,hv15,h⟩:=rb_ h
   refine ai [false] (iiL_1 hv15) SC (S ?_)
   refine ak cs h (fun cs h=>S ?_) (fun cs h=>S ?_)
   ·obtain⟨v21,hv21,h⟩:=rb_ h
    refine bB hv21 (S ?_)
    obtain⟨v22,hv22,h⟩:=rb_ h
    refine ai [false] (iiL_1 hv22) SC (S ?_)
    refine ak cs h (fun cs h=>S ?_) (fun cs h=>S ?_)
    ·have h:=rs_ h
     refine aA ⟨_,h,?_⟩
     exact Slm_ SW
    ·obtain⟨v27,hv27,h⟩:=rb_ h
     refine bB hv27 (S ?_)
     obtain⟨v28,hv28,h⟩:=rb_ h
     refine ai [false] (iiD_2 hv28) SC (S ?_)
     refine ak cs h (fun cs h=>S ?_) (fun cs h=>S ?_)
     ·have h:=rs_ h
      refine aA ⟨_,h,?_⟩
      exact Slm_ SW
     ·obtain⟨v34,hv34,h⟩:=rb_ h
      refine bB hv34 (S ?_)
      refine ak cs h (fun cs h=>S ?_) (fun cs h=>S ?_)
      ·have h:=rs_ h
       refine aA ⟨_,h,?_⟩
       exact Slm_ SW
      ·cases rs_ h
       exact ah SC
   ·cases rs_ h
    exact ah SC
  ·obtain⟨v21,hv21,h⟩:=rb_ h
   refine bB hv21 (S ?_)
   obtain⟨v22,hv22,h⟩:=rb_ h
   refine ai [false] (iiL_1 hv22) SC (S ?_)
   refine ak cs h (fun cs h=>S ?_) (fun cs h=>S ?_)
   ·have h:=rs_ h
    refine aA ⟨_,h,?_⟩
    exact Slm_ SW
   ·obtain⟨v27,hv27,h⟩:=rb_ h
    refine bB hv27 (S ?_)
    obtain⟨v28,hv28,h⟩:=rb_ h
    refine ai [false] (iiD_2 hv28) SC (S ?_)
    refine ak cs h (fun cs h=>S ?_) (fun cs h=>S ?_)
    ·have h:=rs_ h
     refine aA ⟨_,h,?_⟩
     exact Slm_ SW
    ·obtain⟨v34,hv34,h⟩:=rb_ h
     refine bB hv34 (S ?_)
     refine ak cs h (fun cs h=>S ?_) (fun cs h=>S ?_)
     ·have h:=rs_ h
      refine aA ⟨_,h,?_⟩
      exact Slm_ SW
     ·cases rs_ h
      exact ah SC
 ·refine S ?_
  refine aE cs (by omega) (fun cs=>S ?_)
  obtain⟨v41,hv41,h⟩:=rb_ h
  refine ai [false,false,false] (iws_ hv41) SC (S ?_)
  refine ak cs h (fun cs h=>S ?_) (fun cs h=>S ?_)
  ·obtain⟨v43,hv43,h⟩:=rb_ h
   refine ai [] (irs_ hv43) SC (S ?_)
   obtain⟨v45,hv45,h⟩:=rb_ h
   refine ai [false,false] (sCS_2 hv45) SC (S ?_)
   cases rs_ h
   exact ah SC
  ·cases rs_ h
   exact ah SC

theorem sIF_4{a0:List Tt}{a1:Tt→Option Bool}{a1_id:FuncId}{a1_cs:List PV}(a1_ok:∀ y0 r,a1 y0=some r→Sat aj a1_id (((am false) y0)::a1_cs) (B r))(a1_cz:CO_ a1_cs=True){r:Int}(h:sIF_1 a0 a1=some r):Sat aj 189 [(.sl false 2 (a0.map (am false))),.clo a1_id a1_cs] (I r):=by
 obtain⟨h,cs⟩:=Ro_ h
 unfold sIF_1 at h
 have cs:=ag a1_cz cs
 refine av (nt:=19) (rs:=[.tmp 4]) (n:=100000) Tryz.func189 rfl rfl rfl rfl (by simp) (S ?_)
 refine aR (b:=false) (sz:=2) (es:=a0.map (am false)) 0 SC fun hl0=>?_; rw[aB] at hl0
 replace h:=rl_ h
 refine aF h (fun i2 s2=>[(0,.val (.pv (.sl false 2 (a0.map (am false))))),(1,.val (.pv (.clo a1_id a1_cs))),(7,.val (.pv (I (a0.length:Int)))),(8,.val (.pv (I (i2:Int))))]) (fun i2 s2=>[]) (Slm_ SC) (fun i2 s2 hi h=>?_) (fun s2 h=>?_)
 ·have w:=ws_ (i:=i2) (by omega)
  refine S ?_
  refine aD cs (by omega) (fun cs=>S ?_)
  obtain⟨v14,hv14,h⟩:=rb_ h
  refine ar (f:=(am false)) hv14 SC (S ?_)
  obtain⟨v16,hv16,h⟩:=rb_ h
  refine ai [false] (a1_ok _ _ hv16) SC (S ?_)
  refine ak cs h (fun cs h=>S ?_) (fun cs h=>S ?_)
  ·cases rs_ h
   exact ah SC
  ·have h:=rs_ h
   refine aA ⟨_,h,?_⟩
   exact Slm_ SW
 ·refine S ?_
  refine aE cs (by omega) (fun cs=>S ?_)
  cases rs_ h
  exact ah SC

theorem sCF_3{a0:List Tt}{a1:Tt→Option Bool}{a1_id:FuncId}{a1_cs:List PV}(a1_ok:∀ y0 r,a1 y0=some r→Sat aj a1_id (((am false) y0)::a1_cs) (B r))(a1_cz:CO_ a1_cs=True){r:Bool}(h:sCF_2 a0 a1=some r):Sat aj 177 [(.sl false 2 (a0.map (am false))),.clo a1_id a1_cs] (B r):=by
 obtain⟨h,cs⟩:=Ro_ h
 unfold sCF_2 at h
 have cs:=ag a1_cz cs
 refine av (nt:=9) (rs:=[.tmp 4]) (n:=100000) Tryz.func177 rfl rfl rfl rfl (by simp) (S ?_)
 obtain⟨v7,hv7,h⟩:=rb_ h
 refine ai [false,false] (sIF_4 a1_ok a1_cz hv7) SC (S ?_)
 cases rs_ h
 exact ah SC

theorem ihN_4(n:Nat):(∀ (a0:Tt) (r:Bool),ihN_ n a0=some r→Sat aj 160 [((am false) a0)] (B r))∧(∀ (a0:Tt) (r:Bool),ihN_1 n a0=some r→Sat aj 178 [((am false) a0)] (B r)):=by
 induction n with
 | zero=>exact⟨fun _ _ h=>by simp[ihN_] at h,fun _ _ h=>by simp[ihN_1] at h⟩
 | succ n ih=>
  refine⟨fun a0 r h=>?_,fun a0 r h=>?_⟩
  ·obtain⟨h,cs⟩:=Ro_ h
   rw[ihN_] at h
   refine av (nt:=25) (rs:=[.tmp 2]) (n:=100000) Tryz.func160 rfl rfl rfl rfl (by simp) (S ?_)
   obtain⟨v5,hv5,h⟩:=rb_ h
   refine ai [false] (iiV_1 hv5) SC (S ?_)
   refine ak cs h (fun cs h=>S ?_) (fun cs h=>S ?_)
   ·cases rs_ h
    exact ah SC
   ·obtain⟨v12,hv12,h⟩:=rb_ h
    refine ai [false] (iiS_2 hv12) SC (S ?_)
    refine ak cs h (fun cs h=>S ?_) (fun cs h=>S ?_)
    ·refine ak cs h (fun cs h=>S ?_) (fun cs h=>S ?_)
     ·obtain⟨v22,hv22,h⟩:=rb_ h
      refine ai [false,false] (sCF_3 (fun _ _ hh=>ih.2 _ _ hh) (by simp only[COn_,COc_]) hv22) SC (S ?_)
      cases rs_ h
      exact ah SC
     ·cases rs_ h
      exact ah SC
    ·cases rs_ h
     exact ah SC
  ·obtain⟨h,cs⟩:=Ro_ h
   rw[ihN_1] at h
   refine av (nt:=6) (rs:=[.tmp 2]) (n:=100000) Tryz.func178 rfl rfl rfl rfl (by simp) (S ?_)
   obtain⟨v4,hv4,h⟩:=rb_ h
   refine ai [false] (ih.1 _ _ hv4) SC (S ?_)
   cases rs_ h
   exact ah SC
theorem ihN_3{a0:Tt}{r:Bool}(h:ihN_2 a0=some r):Sat aj 160 [((am false) a0)] (B r):=by
 obtain⟨n,hn⟩:=ls_ h
 exact(ihN_4 n).1 _ _ hn
theorem ihN_7{a0:Tt}{r:Bool}(h:ihN_6 a0=some r):Sat aj 178 [((am false) a0)] (B r):=by
 obtain⟨n,hn⟩:=ls_ h
 exact(ihN_4 n).2 _ _ hn

theorem iIV_11{a0:Tt}  {r:Bool}(h:iIV_8 a0=some r):Sat aj 162 [((am false) a0)] (B r):=by
 obtain⟨h,cs⟩:=Ro_ h
 unfold iIV_8 at h
 refine av (nt:=9) (rs:=[.tmp 2]) (n:=100000) Tryz.func162 rfl rfl rfl rfl (by simp) (S ?_)
 obtain⟨v4,hv4,h⟩:=rb_ h
 refine ai [false] (iiS_3 hv4) SC (S ?_)
 refine ak cs h (fun cs h=>S ?_) (fun cs h=>S ?_)
 ·obtain⟨v7,hv7,h⟩:=rb_ h
  refine ai [false] (ihN_3 hv7) SC (S ?_)
  cases rs_ h
  exact ah SC
 ·cases rs_ h
  exact ah SC

theorem iIV_1{a0:Tt}  {r:Bool}(h:iIV_ a0=some r):Sat aj 137 [((am false) a0)] (B r):=by
 obtain⟨h,cs⟩:=Ro_ h
 unfold iIV_ at h
 refine av (nt:=34) (rs:=[.tmp 2]) (n:=100000) Tryz.func137 rfl rfl rfl rfl (by simp) (S ?_)
 obtain⟨v4,hv4,h⟩:=rb_ h
 refine ai [false] (iiE_1 hv4) SC (S ?_)
 refine ak cs h (fun cs h=>S ?_) (fun cs h=>S ?_)
 ·refine ak cs h (fun cs h=>S ?_) (fun cs h=>S ?_)
  ·obtain⟨v11,hv11,h⟩:=rb_ h
   refine ai [false] (iiS_3 hv11) SC (S ?_)
   refine ak cs h (fun cs h=>S ?_) (fun cs h=>S ?_)
   ·obtain⟨v16,hv16,h⟩:=rb_ h
    refine ar (f:=(am false)) hv16 SC (S ?_)
    obtain⟨v18,hv18,h⟩:=rb_ h
    refine ai [false] (ihN_3 hv18) SC (S ?_)
    refine ak cs h (fun cs h=>S ?_) (fun cs h=>S ?_)
    ·obtain⟨v23,hv23,h⟩:=rb_ h
     refine ar (f:=(am false)) hv23 SC (S ?_)
     obtain⟨v25,hv25,h⟩:=rb_ h
     refine ai [false] (ihN_3 hv25) SC (S ?_)
     cases rs_ h
     exact ah SC
    ·cases rs_ h
     exact ah SC
   ·cases rs_ h
    exact ah SC
  ·cases rs_ h
   exact ah SC
 ·obtain⟨v29,hv29,h⟩:=rb_ h
  refine ai [false] (iiS_2 hv29) SC (S ?_)
  refine ak cs h (fun cs h=>S ?_) (fun cs h=>S ?_)
  ·obtain⟨v32,hv32,h⟩:=rb_ h
   refine ai [false] (iIV_11 hv32) SC (S ?_)
   cases rs_ h
   exact ah SC
  ·cases rs_ h
   exact ah SC

theorem iiZ_{a0:Tt}  {r:Bool}(h:iiZ_1 a0=some r):Sat aj 138 [((am false) a0)] (B r):=by
 obtain⟨h,cs⟩:=Ro_ h
 unfold iiZ_1 at h
 refine av (nt:=12) (rs:=[.tmp 2]) (n:=100000) Tryz.func138 rfl rfl rfl rfl (by simp) (S ?_)
 refine ak cs h (fun cs h=>S ?_) (fun cs h=>S ?_)
 ·cases rs_ h
  exact ah SC
 ·cases rs_ h
  exact ah SC

theorem sIF_2{a0:List Ft}{a1:Ft→Option Bool}{a1_id:FuncId}{a1_cs:List PV}(a1_ok:∀ y0 r,a1 y0=some r→Sat aj a1_id (((ae false) y0)::a1_cs) (B r))(a1_cz:CO_ a1_cs=True){r:Int}(h:sIF_ a0 a1=some r):Sat aj 123 [(.sl false 5 (a0.map (ae false))),.clo a1_id a1_cs] (I r):=by
 obtain⟨h,cs⟩:=Ro_ h
 unfold sIF_ at h
 have cs:=ag a1_cz cs
 refine av (nt:=19) (rs:=[.tmp 4]) (n:=100000) Tryz.func123 rfl rfl rfl rfl (by simp) (S ?_)
 refine aR (b:=false) (sz:=5) (es:=a0.map (ae false)) 0 SC fun hl0=>?_; rw[aB] at hl0
 replace h:=rl_ h
 refine aF h (fun i2 s2=>[(0,.val (.pv (.sl false 5 (a0.map (ae false))))),(1,.val (.pv (.clo a1_id a1_cs))),(7,.val (.pv (I (a0.length:Int)))),(8,.val (.pv (I (i2:Int))))]) (fun i2 s2=>[]) (Slm_ SC) (fun i2 s2 hi h=>?_) (fun s2 h=>?_)
 ·have w:=ws_ (i:=i2) (by omega)
  refine S ?_
  refine aD cs (by omega) (fun cs=>S ?_)
  obtain⟨v14,hv14,h⟩:=rb_ h
  refine ar (f:=(ae false)) hv14 SC (S ?_)
  obtain⟨v16,hv16,h⟩:=rb_ h
  refine ai [false] (a1_ok _ _ hv16) SC (S ?_)
  refine ak cs h (fun cs h=>S ?_) (fun cs h=>S ?_)
  ·cases rs_ h
   exact ah SC
  ·have h:=rs_ h
   refine aA ⟨_,h,?_⟩
   exact Slm_ SW
 ·refine S ?_
  refine aE cs (by omega) (fun cs=>S ?_)
  cases rs_ h
  exact ah SC

theorem sCF_1{a0:List Ft}{a1:Ft→Option Bool}{a1_id:FuncId}{a1_cs:List PV}(a1_ok:∀ y0 r,a1 y0=some r→Sat aj a1_id (((ae false) y0)::a1_cs) (B r))(a1_cz:CO_ a1_cs=True){r:Bool}(h:sCF_ a0 a1=some r):Sat aj 132 [(.sl false 5 (a0.map (ae false))),.clo a1_id a1_cs] (B r):=by
 obtain⟨h,cs⟩:=Ro_ h
 unfold sCF_ at h
 have cs:=ag a1_cz cs
 refine av (nt:=9) (rs:=[.tmp 4]) (n:=100000) Tryz.func132 rfl rfl rfl rfl (by simp) (S ?_)
 obtain⟨v7,hv7,h⟩:=rb_ h
 refine ai [false,false] (sIF_2 a1_ok a1_cz hv7) SC (S ?_)
 cases rs_ h
 exact ah SC

theorem ihF_2(n:Nat):(∀ (a0:Ft) (r:Bool),ihF_1 n a0=some r→Sat aj 110 [((ae false) a0)] (B r))∧(∀ (a0:Ft) (r:Bool),ihF_ n a0=some r→Sat aj 139 [((ae false) a0)] (B r)):=by
 induction n with
 | zero=>exact⟨fun _ _ h=>by simp[ihF_1] at h,fun _ _ h=>by simp[ihF_] at h⟩
 | succ n ih=>
  refine⟨fun a0 r h=>?_,fun a0 r h=>?_⟩
  ·obtain⟨h,cs⟩:=Ro_ h
   rw[ihF_1] at h
   refine av (nt:=76) (rs:=[.tmp 2]) (n:=100000) Tryz.func110 rfl rfl rfl rfl (by simp) (S ?_)
   refine ak cs h (fun cs h=>S ?_) (fun cs h=>S ?_)
   ·refine ak cs h (fun cs h=>S ?_) (fun cs h=>S ?_)
    ·obtain⟨v33,hv33,h⟩:=rb_ h
     refine ai [false] (iiQ_ hv33) SC (S ?_)
     refine ak cs h (fun cs h=>S ?_) (fun cs h=>S ?_)
     ·obtain⟨v37,hv37,h⟩:=rb_ h
      refine ai [false] (iiV_1 hv37) SC (S ?_)
      refine ak cs h (fun cs h=>S ?_) (fun cs h=>S ?_)
      ·obtain⟨v44,hv44,h⟩:=rb_ h
       refine ai [false] (iiQ_ hv44) SC (S ?_)
       refine ak cs h (fun cs h=>S ?_) (fun cs h=>S ?_)
       ·refine ak cs h (fun cs h=>S ?_) (fun cs h=>S ?_)
        ·obtain⟨v58,hv58,h⟩:=rb_ h
         refine ai [false] (iIV_1 hv58) SC (S ?_)
         refine ak cs h (fun cs h=>S ?_) (fun cs h=>S ?_)
         ·obtain⟨v74,hv74,h⟩:=rb_ h
          refine ai [false,false] (sCF_1 (fun _ _ hh=>ih.2 _ _ hh) (by simp only[COn_,COc_]) hv74) SC (S ?_)
          cases rs_ h
          exact ah SC
         ·cases rs_ h
          exact ah SC
        ·obtain⟨v68,hv68,h⟩:=rb_ h
         refine ai [false] (iiZ_ hv68) SC (S ?_)
         refine ak cs h (fun cs h=>S ?_) (fun cs h=>S ?_)
         ·obtain⟨v74,hv74,h⟩:=rb_ h
          refine ai [false,false] (sCF_1 (fun _ _ hh=>ih.2 _ _ hh) (by simp only[COn_,COc_]) hv74) SC (S ?_)
          cases rs_ h
          exact ah SC
         ·cases rs_ h
          exact ah SC
       ·refine ak cs h (fun cs h=>S ?_) (fun cs h=>S ?_)
        ·refine ak cs h (fun cs h=>S ?_) (fun cs h=>S ?_)
         ·obtain⟨v58,hv58,h⟩:=rb_ h
          refine ai [false] (iIV_1 hv58) SC (S ?_)
          refine ak cs h (fun cs h=>S ?_) (fun cs h=>S ?_)
          ·obtain⟨v74,hv74,h⟩:=rb_ h
           refine ai [false,false] (sCF_1 (fun _ _ hh=>ih.2 _ _ hh) (by simp only[COn_,COc_]) hv74) SC (S ?_)
           cases rs_ h
           exact ah SC
          ·cases rs_ h
           exact ah SC
         ·obtain⟨v68,hv68,h⟩:=rb_ h
          refine ai [false] (iiZ_ hv68) SC (S ?_)
          refine ak cs h (fun cs h=>S ?_) (fun cs h=>S ?_)
          ·obtain⟨v74,hv74,h⟩:=rb_ h
           refine ai [false,false] (sCF_1 (fun _ _ hh=>ih.2 _ _ hh) (by simp only[COn_,COc_]) hv74) SC (S ?_)
           cases rs_ h
           exact ah SC
          ·cases rs_ h
           exact ah SC
        ·cases rs_ h
         exact ah SC
      ·cases rs_ h
       exact ah SC
     ·obtain⟨v44,hv44,h⟩:=rb_ h
      refine ai [false] (iiQ_ hv44) SC (S ?_)
      refine ak cs h (fun cs h=>S ?_) (fun cs h=>S ?_)
      ·refine ak cs h (fun cs h=>S ?_) (fun cs h=>S ?_)
       ·obtain⟨v58,hv58,h⟩:=rb_ h
        refine ai [false] (iIV_1 hv58) SC (S ?_)
        refine ak cs h (fun cs h=>S ?_) (fun cs h=>S ?_)
        ·obtain⟨v74,hv74,h⟩:=rb_ h
         refine ai [false,false] (sCF_1 (fun _ _ hh=>ih.2 _ _ hh) (by simp only[COn_,COc_]) hv74) SC (S ?_)
         cases rs_ h
         exact ah SC
        ·cases rs_ h
         exact ah SC
       ·obtain⟨v68,hv68,h⟩:=rb_ h
        refine ai [false] (iiZ_ hv68) SC (S ?_)
        refine ak cs h (fun cs h=>S ?_) (fun cs h=>S ?_)
        ·obtain⟨v74,hv74,h⟩:=rb_ h
         refine ai [false,false] (sCF_1 (fun _ _ hh=>ih.2 _ _ hh) (by simp only[COn_,COc_]) hv74) SC (S ?_)
         cases rs_ h
         exact ah SC
        ·cases rs_ h
         exact ah SC
      ·refine ak cs h (fun cs h=>S ?_) (fun cs h=>S ?_)
       ·refine ak cs h (fun cs h=>S ?_) (fun cs h=>S ?_)
        ·obtain⟨v58,hv58,h⟩:=rb_ h
         refine ai [false] (iIV_1 hv58) SC (S ?_)
         refine ak cs h (fun cs h=>S ?_) (fun cs h=>S ?_)
         ·obtain⟨v74,hv74,h⟩:=rb_ h
          refine ai [false,false] (sCF_1 (fun _ _ hh=>ih.2 _ _ hh) (by simp only[COn_,COc_]) hv74) SC (S ?_)
          cases rs_ h
          exact ah SC
         ·cases rs_ h
          exact ah SC
        ·obtain⟨v68,hv68,h⟩:=rb_ h
         refine ai [false] (iiZ_ hv68) SC (S ?_)
         refine ak cs h (fun cs h=>S ?_) (fun cs h=>S ?_)
         ·obtain⟨v74,hv74,h⟩:=rb_ h
          refine ai [false,false] (sCF_1 (fun _ _ hh=>ih.2 _ _ hh) (by simp only[COn_,COc_]) hv74) SC (S ?_)
          cases rs_ h
          exact ah SC
         ·cases rs_ h
          exact ah SC
       ·cases rs_ h
        exact ah SC
    ·cases rs_ h
     exact ah SC
   ·refine ak cs h (fun cs h=>S ?_) (fun cs h=>S ?_)
    ·refine ak cs h (fun cs h=>S ?_) (fun cs h=>S ?_)
     ·obtain⟨v33,hv33,h⟩:=rb_ h
      refine ai [false] (iiQ_ hv33) SC (S ?_)
      refine ak cs h (fun cs h=>S ?_) (fun cs h=>S ?_)
      ·obtain⟨v37,hv37,h⟩:=rb_ h
       refine ai [false] (iiV_1 hv37) SC (S ?_)
       refine ak cs h (fun cs h=>S ?_) (fun cs h=>S ?_)
       ·obtain⟨v44,hv44,h⟩:=rb_ h
        refine ai [false] (iiQ_ hv44) SC (S ?_)
        refine ak cs h (fun cs h=>S ?_) (fun cs h=>S ?_)
        ·refine ak cs h (fun cs h=>S ?_) (fun cs h=>S ?_)
         ·obtain⟨v58,hv58,h⟩:=rb_ h
          refine ai [false] (iIV_1 hv58) SC (S ?_)
          refine ak cs h (fun cs h=>S ?_) (fun cs h=>S ?_)
          ·obtain⟨v74,hv74,h⟩:=rb_ h
           refine ai [false,false] (sCF_1 (fun _ _ hh=>ih.2 _ _ hh) (by simp only[COn_,COc_]) hv74) SC (S ?_)
           cases rs_ h
           exact ah SC
          ·cases rs_ h
           exact ah SC
         ·obtain⟨v68,hv68,h⟩:=rb_ h
          refine ai [false] (iiZ_ hv68) SC (S ?_)
          refine ak cs h (fun cs h=>S ?_) (fun cs h=>S ?_)
          ·obtain⟨v74,hv74,h⟩:=rb_ h
           refine ai [false,false] (sCF_1 (fun _ _ hh=>ih.2 _ _ hh) (by simp only[COn_,COc_]) hv74) SC (S ?_)
           cases rs_ h
           exact ah SC
          ·cases rs_ h
           exact ah SC
        ·refine ak cs h (fun cs h=>S ?_) (fun cs h=>S ?_)
         ·refine ak cs h (fun cs h=>S ?_) (fun cs h=>S ?_)
          ·obtain⟨v58,hv58,h⟩:=rb_ h
           refine ai [false] (iIV_1 hv58) SC (S ?_)
           refine ak cs h (fun cs h=>S ?_) (fun cs h=>S ?_)
           ·obtain⟨v74,hv74,h⟩:=rb_ h
            refine ai [false,false] (sCF_1 (fun _ _ hh=>ih.2 _ _ hh) (by simp only[COn_,COc_]) hv74) SC (S ?_)
            cases rs_ h
            exact ah SC
           ·cases rs_ h
            exact ah SC
          ·obtain⟨v68,hv68,h⟩:=rb_ h
           refine ai [false] (iiZ_ hv68) SC (S ?_)
           refine ak cs h (fun cs h=>S ?_) (fun cs h=>S ?_)
           ·obtain⟨v74,hv74,h⟩:=rb_ h
            refine ai [false,false] (sCF_1 (fun _ _ hh=>ih.2 _ _ hh) (by simp only[COn_,COc_]) hv74) SC (S ?_)
            cases rs_ h
            exact ah SC
           ·cases rs_ h
            exact ah SC
         ·cases rs_ h
          exact ah SC
       ·cases rs_ h
        exact ah SC
      ·obtain⟨v44,hv44,h⟩:=rb_ h
       refine ai [false] (iiQ_ hv44) SC (S ?_)
       refine ak cs h (fun cs h=>S ?_) (fun cs h=>S ?_)
       ·refine ak cs h (fun cs h=>S ?_) (fun cs h=>S ?_)
        ·obtain⟨v58,hv58,h⟩:=rb_ h
         refine ai [false] (iIV_1 hv58) SC (S ?_)
         refine ak cs h (fun cs h=>S ?_) (fun cs h=>S ?_)
         ·obtain⟨v74,hv74,h⟩:=rb_ h
          refine ai [false,false] (sCF_1 (fun _ _ hh=>ih.2 _ _ hh) (by simp only[COn_,COc_]) hv74) SC (S ?_)
          cases rs_ h
          exact ah SC
         ·cases rs_ h
          exact ah SC
        ·obtain⟨v68,hv68,h⟩:=rb_ h
         refine ai [false] (iiZ_ hv68) SC (S ?_)
         refine ak cs h (fun cs h=>S ?_) (fun cs h=>S ?_)
         ·obtain⟨v74,hv74,h⟩:=rb_ h
          refine ai [false,false] (sCF_1 (fun _ _ hh=>ih.2 _ _ hh) (by simp only[COn_,COc_]) hv74) SC (S ?_)
          cases rs_ h
          exact ah SC
         ·cases rs_ h
          exact ah SC
       ·refine ak cs h (fun cs h=>S ?_) (fun cs h=>S ?_)
        ·refine ak cs h (fun cs h=>S ?_) (fun cs h=>S ?_)
         ·obtain⟨v58,hv58,h⟩:=rb_ h
          refine ai [false] (iIV_1 hv58) SC (S ?_)
          refine ak cs h (fun cs h=>S ?_) (fun cs h=>S ?_)
          ·obtain⟨v74,hv74,h⟩:=rb_ h
           refine ai [false,false] (sCF_1 (fun _ _ hh=>ih.2 _ _ hh) (by simp only[COn_,COc_]) hv74) SC (S ?_)
           cases rs_ h
           exact ah SC
          ·cases rs_ h
           exact ah SC
         ·obtain⟨v68,hv68,h⟩:=rb_ h
          refine ai [false] (iiZ_ hv68) SC (S ?_)
          refine ak cs h (fun cs h=>S ?_) (fun cs h=>S ?_)
          ·obtain⟨v74,hv74,h⟩:=rb_ h
           refine ai [false,false] (sCF_1 (fun _ _ hh=>ih.2 _ _ hh) (by simp only[COn_,COc_]) hv74) SC (S ?_)
           cases rs_ h
           exact ah SC
          ·cases rs_ h
           exact ah SC
        ·cases rs_ h
         exact ah SC
     ·cases rs_ h
      exact ah SC
    ·refine ak cs h (fun cs h=>S ?_) (fun cs h=>S ?_)
     ·refine ak cs h (fun cs h=>S ?_) (fun cs h=>S ?_)
      ·obtain⟨v33,hv33,h⟩:=rb_ h
       refine ai [false] (iiQ_ hv33) SC (S ?_)
       refine ak cs h (fun cs h=>S ?_) (fun cs h=>S ?_)
       ·obtain⟨v37,hv37,h⟩:=rb_ h
        refine ai [false] (iiV_1 hv37) SC (S ?_)
        refine ak cs h (fun cs h=>S ?_) (fun cs h=>S ?_)
        ·obtain⟨v44,hv44,h⟩:=rb_ h
         refine ai [false] (iiQ_ hv44) SC (S ?_)
         refine ak cs h (fun cs h=>S ?_) (fun cs h=>S ?_)
         ·obtain⟨v58,hv58,h⟩:=rb_ h
          refine ai [false] (iIV_1 hv58) SC (S ?_)
          refine ak cs h (fun cs h=>S ?_) (fun cs h=>S ?_)
          ·obtain⟨v74,hv74,h⟩:=rb_ h
           refine ai [false,false] (sCF_1 (fun _ _ hh=>ih.2 _ _ hh) (by simp only[COn_,COc_]) hv74) SC (S ?_)
           cases rs_ h
           exact ah SC
          ·cases rs_ h
           exact ah SC
         ·refine ak cs h (fun cs h=>S ?_) (fun cs h=>S ?_)
          ·obtain⟨v58,hv58,h⟩:=rb_ h
           refine ai [false] (iIV_1 hv58) SC (S ?_)
           refine ak cs h (fun cs h=>S ?_) (fun cs h=>S ?_)
           ·obtain⟨v74,hv74,h⟩:=rb_ h
            refine ai [false,false] (sCF_1 (fun _ _ hh=>ih.2 _ _ hh) (by simp only[COn_,COc_]) hv74) SC (S ?_)
            cases rs_ h
            exact ah SC
           ·cases rs_ h
            exact ah SC
          ·cases rs_ h
           exact ah SC
        ·cases rs_ h
         exact ah SC
       ·obtain⟨v44,hv44,h⟩:=rb_ h
        refine ai [false] (iiQ_ hv44) SC (S ?_)
        refine ak cs h (fun cs h=>S ?_) (fun cs h=>S ?_)
        ·obtain⟨v58,hv58,h⟩:=rb_ h
         refine ai [false] (iIV_1 hv58) SC (S ?_)
         refine ak cs h (fun cs h=>S ?_) (fun cs h=>S ?_)
         ·obtain⟨v74,hv74,h⟩:=rb_ h
          refine ai [false,false] (sCF_1 (fun _ _ hh=>ih.2 _ _ hh) (by simp only[COn_,COc_]) hv74) SC (S ?_)
          cases rs_ h
          exact ah SC
         ·cases rs_ h
          exact ah SC
        ·refine ak cs h (fun cs h=>S ?_) (fun cs h=>S ?_)
         ·obtain⟨v58,hv58,h⟩:=rb_ h
          refine ai [false] (iIV_1 hv58) SC (S ?_)
          refine ak cs h (fun cs h=>S ?_) (fun cs h=>S ?_)
          ·obtain⟨v74,hv74,h⟩:=rb_ h
           refine ai [false,false] (sCF_1 (fun _ _ hh=>ih.2 _ _ hh) (by simp only[COn_,COc_]) hv74) SC (S ?_)
           cases rs_ h
           exact ah SC
          ·cases rs_ h
           exact ah SC
         ·cases rs_ h
          exact ah SC
      ·cases rs_ h
       exact ah SC
     ·refine ak cs h (fun cs h=>S ?_) (fun cs h=>S ?_)
      ·refine ak cs h (fun cs h=>S ?_) (fun cs h=>S ?_)
       ·obtain⟨v33,hv33,h⟩:=rb_ h
        refine ai [false] (iiQ_ hv33) SC (S ?_)
        refine ak cs h (fun cs h=>S ?_) (fun cs h=>S ?_)
        ·obtain⟨v37,hv37,h⟩:=rb_ h
         refine ai [false] (iiV_1 hv37) SC (S ?_)
         refine ak cs h (fun cs h=>S ?_) (fun cs h=>S ?_)
         ·obtain⟨v44,hv44,h⟩:=rb_ h
          refine ai [false] (iiQ_ hv44) SC (S ?_)
          refine ak cs h (fun cs h=>S ?_) (fun cs h=>S ?_)
          ·obtain⟨v68,hv68,h⟩:=rb_ h
           refine ai [false] (iiZ_ hv68) SC (S ?_)
           refine ak cs h (fun cs h=>S ?_) (fun cs h=>S ?_)
           ·obtain⟨v74,hv74,h⟩:=rb_ h
            refine ai [false,false] (sCF_1 (fun _ _ hh=>ih.2 _ _ hh) (by simp only[COn_,COc_]) hv74) SC (S ?_)
            cases rs_ h
            exact ah SC
           ·cases rs_ h
            exact ah SC
          ·refine ak cs h (fun cs h=>S ?_) (fun cs h=>S ?_)
           ·obtain⟨v68,hv68,h⟩:=rb_ h
            refine ai [false] (iiZ_ hv68) SC (S ?_)
            refine ak cs h (fun cs h=>S ?_) (fun cs h=>S ?_)
            ·obtain⟨v74,hv74,h⟩:=rb_ h
             refine ai [false,false] (sCF_1 (fun _ _ hh=>ih.2 _ _ hh) (by simp only[COn_,COc_]) hv74) SC (S ?_)
             cases rs_ h
             exact ah SC
            ·cases rs_ h
             exact ah SC
           ·cases rs_ h
            exact ah SC
         ·cases rs_ h
          exact ah SC
        ·obtain⟨v44,hv44,h⟩:=rb_ h
         refine ai [false] (iiQ_ hv44) SC (S ?_)
         refine ak cs h (fun cs h=>S ?_) (fun cs h=>S ?_)
         ·obtain⟨v68,hv68,h⟩:=rb_ h
          refine ai [false] (iiZ_ hv68) SC (S ?_)
          refine ak cs h (fun cs h=>S ?_) (fun cs h=>S ?_)
          ·obtain⟨v74,hv74,h⟩:=rb_ h
           refine ai [false,false] (sCF_1 (fun _ _ hh=>ih.2 _ _ hh) (by simp only[COn_,COc_]) hv74) SC (S ?_)
           cases rs_ h
           exact ah SC
          ·cases rs_ h
           exact ah SC
         ·refine ak cs h (fun cs h=>S ?_) (fun cs h=>S ?_)
          ·obtain⟨v68,hv68,h⟩:=rb_ h
           refine ai [false] (iiZ_ hv68) SC (S ?_)
           refine ak cs h (fun cs h=>S ?_) (fun cs h=>S ?_)
           ·obtain⟨v74,hv74,h⟩:=rb_ h
            refine ai [false,false] (sCF_1 (fun _ _ hh=>ih.2 _ _ hh) (by simp only[COn_,COc_]) hv74) SC (S ?_)
            cases rs_ h
            exact ah SC
           ·cases rs_ h
            exact ah SC
          ·cases rs_ h
           exact ah SC
       ·cases rs_ h
        exact ah SC
      ·obtain⟨v20,hv20,h⟩:=rb_ h
       refine ai [false] (iiQ_ hv20) SC (S ?_)
       refine ak cs h (fun cs h=>S ?_) (fun cs h=>S ?_)
       ·refine ak cs h (fun cs h=>S ?_) (fun cs h=>S ?_)
        ·obtain⟨v33,hv33,h⟩:=rb_ h
         refine ai [false] (iiQ_ hv33) SC (S ?_)
         refine ak cs h (fun cs h=>S ?_) (fun cs h=>S ?_)
         ·obtain⟨v37,hv37,h⟩:=rb_ h
          refine ai [false] (iiV_1 hv37) SC (S ?_)
          refine ak cs h (fun cs h=>S ?_) (fun cs h=>S ?_)
          ·obtain⟨v44,hv44,h⟩:=rb_ h
           refine ai [false] (iiQ_ hv44) SC (S ?_)
           refine ak cs h (fun cs h=>S ?_) (fun cs h=>S ?_)
           ·obtain⟨v68,hv68,h⟩:=rb_ h
            refine ai [false] (iiZ_ hv68) SC (S ?_)
            refine ak cs h (fun cs h=>S ?_) (fun cs h=>S ?_)
            ·obtain⟨v74,hv74,h⟩:=rb_ h
             refine ai [false,false] (sCF_1 (fun _ _ hh=>ih.2 _ _ hh) (by simp only[COn_,COc_]) hv74) SC (S ?_)
             cases rs_ h
             exact ah SC
            ·cases rs_ h
             exact ah SC
           ·refine ak cs h (fun cs h=>S ?_) (fun cs h=>S ?_)
            ·obtain⟨v68,hv68,h⟩:=rb_ h
             refine ai [false] (iiZ_ hv68) SC (S ?_)
             refine ak cs h (fun cs h=>S ?_) (fun cs h=>S ?_)
             ·obtain⟨v74,hv74,h⟩:=rb_ h
              refine ai [false,false] (sCF_1 (fun _ _ hh=>ih.2 _ _ hh) (by simp only[COn_,COc_]) hv74) SC (S ?_)
              cases rs_ h
              exact ah SC
             ·cases rs_ h
              exact ah SC
            ·cases rs_ h
             exact ah SC
          ·cases rs_ h
           exact ah SC
         ·obtain⟨v44,hv44,h⟩:=rb_ h
          refine ai [false] (iiQ_ hv44) SC (S ?_)
          refine ak cs h (fun cs h=>S ?_) (fun cs h=>S ?_)
          ·obtain⟨v68,hv68,h⟩:=rb_ h
           refine ai [false] (iiZ_ hv68) SC (S ?_)
           refine ak cs h (fun cs h=>S ?_) (fun cs h=>S ?_)
           ·obtain⟨v74,hv74,h⟩:=rb_ h
            refine ai [false,false] (sCF_1 (fun _ _ hh=>ih.2 _ _ hh) (by simp only[COn_,COc_]) hv74) SC (S ?_)
            cases rs_ h
            exact ah SC
           ·cases rs_ h
            exact ah SC
          ·refine ak cs h (fun cs h=>S ?_) (fun cs h=>S ?_)
           ·obtain⟨v68,hv68,h⟩:=rb_ h
            refine ai [false] (iiZ_ hv68) SC (S ?_)
            refine ak cs h (fun cs h=>S ?_) (fun cs h=>S ?_)
            ·obtain⟨v74,hv74,h⟩:=rb_ h
             refine ai [false,false] (sCF_1 (fun _ _ hh=>ih.2 _ _ hh) (by simp only[COn_,COc_]) hv74) SC (S ?_)
             cases rs_ h
             exact ah SC
            ·cases rs_ h
             exact ah SC
           ·cases rs_ h
            exact ah SC
        ·cases rs_ h
         exact ah SC
       ·obtain⟨v24,hv24,h⟩:=rb_ h
        refine ai [false] (iiB_1 hv24) SC (S ?_)
        refine ak cs h (fun cs h=>S ?_) (fun cs h=>S ?_)
        ·refine ak cs h (fun cs h=>S ?_) (fun cs h=>S ?_)
         ·obtain⟨v33,hv33,h⟩:=rb_ h
          refine ai [false] (iiQ_ hv33) SC (S ?_)
          refine ak cs h (fun cs h=>S ?_) (fun cs h=>S ?_)
          ·obtain⟨v37,hv37,h⟩:=rb_ h
           refine ai [false] (iiV_1 hv37) SC (S ?_)
           refine ak cs h (fun cs h=>S ?_) (fun cs h=>S ?_)
           ·obtain⟨v44,hv44,h⟩:=rb_ h
            refine ai [false] (iiQ_ hv44) SC (S ?_)
            refine ak cs h (fun cs h=>S ?_) (fun cs h=>S ?_)
            ·obtain⟨v68,hv68,h⟩:=rb_ h
             refine ai [false] (iiZ_ hv68) SC (S ?_)
             refine ak cs h (fun cs h=>S ?_) (fun cs h=>S ?_)
             ·obtain⟨v74,hv74,h⟩:=rb_ h
              refine ai [false,false] (sCF_1 (fun _ _ hh=>ih.2 _ _ hh) (by simp only[COn_,COc_]) hv74) SC (S ?_)
              cases rs_ h
              exact ah SC
             ·cases rs_ h
              exact ah SC
            ·refine ak cs h (fun cs h=>S ?_) (fun cs h=>S ?_)
             ·obtain⟨v68,hv68,h⟩:=rb_ h
              refine ai [false] (iiZ_ hv68) SC (S ?_)
              refine ak cs h (fun cs h=>S ?_) (fun cs h=>S ?_)
              ·obtain⟨v74,hv74,h⟩:=rb_ h
               refine ai [false,false] (sCF_1 (fun _ _ hh=>ih.2 _ _ hh) (by simp only[COn_,COc_]) hv74) SC (S ?_)
               cases rs_ h
               exact ah SC
              ·cases rs_ h
               exact ah SC
             ·cases rs_ h
              exact ah SC
           ·cases rs_ h
            exact ah SC
          ·obtain⟨v44,hv44,h⟩:=rb_ h
           refine ai [false] (iiQ_ hv44) SC (S ?_)
           refine ak cs h (fun cs h=>S ?_) (fun cs h=>S ?_)
           ·obtain⟨v68,hv68,h⟩:=rb_ h
            refine ai [false] (iiZ_ hv68) SC (S ?_)
            refine ak cs h (fun cs h=>S ?_) (fun cs h=>S ?_)
            ·obtain⟨v74,hv74,h⟩:=rb_ h
             refine ai [false,false] (sCF_1 (fun _ _ hh=>ih.2 _ _ hh) (by simp only[COn_,COc_]) hv74) SC (S ?_)
             cases rs_ h
             exact ah SC
            ·cases rs_ h
             exact ah SC
           ·refine ak cs h (fun cs h=>S ?_) (fun cs h=>S ?_)
            ·obtain⟨v68,hv68,h⟩:=rb_ h
             refine ai [false] (iiZ_ hv68) SC (S ?_)
             refine ak cs h (fun cs h=>S ?_) (fun cs h=>S ?_)
             ·obtain⟨v74,hv74,h⟩:=rb_ h
              refine ai [false,false] (sCF_1 (fun _ _ hh=>ih.2 _ _ hh) (by simp only[COn_,COc_]) hv74) SC (S ?_)
              cases rs_ h
              exact ah SC
             ·cases rs_ h
              exact ah SC
            ·cases rs_ h
             exact ah SC
         ·cases rs_ h
          exact ah SC
        ·cases rs_ h
         exact ah SC
  ·obtain⟨h,cs⟩:=Ro_ h
   rw[ihF_] at h
   refine av (nt:=6) (rs:=[.tmp 2]) (n:=100000) Tryz.func139 rfl rfl rfl rfl (by simp) (S ?_)
   obtain⟨v4,hv4,h⟩:=rb_ h
   refine ai [false] (ih.1 _ _ hv4) SC (S ?_)
   cases rs_ h
   exact ah SC
theorem ihF_4{a0:Ft}{r:Bool}(h:ihF_3 a0=some r):Sat aj 110 [((ae false) a0)] (B r):=by
 obtain⟨n,hn⟩:=ls_ h
 exact(ihF_2 n).1 _ _ hn
theorem ihF_6{a0:Ft}{r:Bool}(h:ihF_5 a0=some r):Sat aj 139 [((ae false) a0)] (B r):=by
 obtain⟨n,hn⟩:=ls_ h
 exact(ihF_2 n).2 _ _ hn

theorem iIV_4{a0:Ft}  {r:Bool}(h:iIV_2 a0=some r):Sat aj 73 [((ae false) a0)] (B r):=by
 obtain⟨h,cs⟩:=Ro_ h
 unfold iIV_2 at h
 refine av (nt:=10) (rs:=[.tmp 2]) (n:=100000) Tryz.func73 rfl rfl rfl rfl (by simp) (S ?_)
 obtain⟨v4,hv4,h⟩:=rb_ h
 refine ai [false] (isO_3 hv4) SC (S ?_)
 refine ak cs h (fun cs h=>S ?_) (fun cs h=>S ?_)
 ·obtain⟨v8,hv8,h⟩:=rb_ h
  refine ai [false] (ihF_4 hv8) SC (S ?_)
  cases rs_ h
  exact ah SC
 ·cases rs_ h
  exact ah SC

theorem iIV_9{a0:Ft}  {r:Bool}(h:iIV_6 a0=some r):Sat aj 131 [((ae false) a0)] (B r):=by
 obtain⟨h,cs⟩:=Ro_ h
 unfold iIV_6 at h
 refine av (nt:=6) (rs:=[.tmp 2]) (n:=100000) Tryz.func131 rfl rfl rfl rfl (by simp) (S ?_)
 obtain⟨v4,hv4,h⟩:=rb_ h
 refine ai [false] (iIV_4 hv4) SC (S ?_)
 cases rs_ h
 exact ah SC

theorem iIV_10{a0:Sa}  {r:Bool}(h:iIV_5 a0=some r):Sat aj 101 [((Sa.pv false) a0)] (B r):=by
 obtain⟨h,cs⟩:=Ro_ h
 unfold iIV_5 at h
 refine av (nt:=28) (rs:=[.tmp 2]) (n:=100000) Tryz.func101 rfl rfl rfl rfl (by simp) (S ?_)
 refine ak cs h (fun cs h=>S ?_) (fun cs h=>S ?_)
 ·refine ak cs h (fun cs h=>S ?_) (fun cs h=>S ?_)
  ·obtain⟨v18,hv18,h⟩:=rb_ h
   refine ai [false,false] (sCF_1 (fun _ _ hh=>iIV_9 hh) (by simp only[COn_,COc_]) hv18) SC (S ?_)
   refine ak cs h (fun cs h=>S ?_) (fun cs h=>S ?_)
   ·cases rs_ h
    exact ah SC
   ·obtain⟨v25,hv25,h⟩:=rb_ h
    refine ai [false,false] (sCF_1 (fun _ _ hh=>iIV_9 hh) (by simp only[COn_,COc_]) hv25) SC (S ?_)
    cases rs_ h
    exact ah SC
  ·cases rs_ h
   exact ah SC
 ·cases rs_ h
  exact ah SC

theorem sEF_5{a0:List Tt}{a1:List Tt}{a2:Tt→Tt→Option Bool}{a2_id:FuncId}{a2_cs:List PV}(a2_ok:∀ y0 y1 r,a2 y0 y1=some r→Sat aj a2_id (((am false) y0)::((am false) y1)::a2_cs) (B r))(a2_cz:CO_ a2_cs=True){r:Bool}(h:sEF_2 a0 a1 a2=some r):Sat aj 169 [(.sl false 2 (a0.map (am false))),(.sl false 2 (a1.map (am false))),.clo a2_id a2_cs] (B r):=by
 obtain⟨h,cs⟩:=Ro_ h
 unfold sEF_2 at h
 have cs:=ag a2_cz cs
 refine av (nt:=32) (rs:=[.tmp 6]) (n:=100000) Tryz.func169 rfl rfl rfl rfl (by simp) (S ?_)
 refine ak cs h (fun cs h=>S ?_) (fun cs h=>S ?_)
 ·refine aR (b:=false) (sz:=2) (es:=a0.map (am false)) 0 SC fun hl0=>?_; rw[aB] at hl0
  replace h:=rl_ h
  refine aF h (fun i4 s4=>[(1,.val (.pv (.sl false 2 (a1.map (am false))))),(2,.val (.pv (.clo a2_id a2_cs))),(15,.val (.pv (.sl false 2 (a0.map (am false))))),(16,.val (.pv (I (a0.length:Int)))),(17,.val (.pv (I (i4:Int))))]) (fun i4 s4=>[]) (Slm_ SC) (fun i4 s4 hi h=>?_) (fun s4 h=>?_)
  ·have w:=ws_ (i:=i4) (by omega)
   refine S ?_
   refine aD cs (by omega) (fun cs=>S ?_)
   obtain⟨v20,hv20,h⟩:=rb_ h
   refine ar (f:=(am false)) hv20 SC (S ?_)
   obtain⟨v24,hv24,h⟩:=rb_ h
   refine ar (f:=(am false)) hv24 SC (S ?_)
   obtain⟨v29,hv29,h⟩:=rb_ h
   refine ai [false,false] (a2_ok _ _ _ hv29) SC (S ?_)
   refine ak cs h (fun cs h=>S ?_) (fun cs h=>S ?_)
   ·have h:=rs_ h
    refine aA ⟨_,h,?_⟩
    exact Slm_ SW
   ·cases rs_ h
    exact ah SC
  ·refine S ?_
   refine aE cs (by omega) (fun cs=>S ?_)
   cases rs_ h
   exact ah SC
 ·cases rs_ h
  exact ah SC

theorem iET_2(n:Nat):(∀ (a0:Tt) (a1:Tt) (r:Bool),iET_ n a0 a1=some r→Sat aj 149 [((am false) a0),((am false) a1)] (B r)):=by
 induction n with
 | zero=>exact fun _ _ _ h=>by simp[iET_] at h
 | succ n ih=>
  refine fun a0 a1 r h=>?_
  obtain⟨h,cs⟩:=Ro_ h
  rw[iET_] at h
  refine av (nt:=17) (rs:=[.tmp 4]) (n:=100000) Tryz.func149 rfl rfl rfl rfl (by simp) (S ?_)
  refine ak cs h (fun cs h=>S ?_) (fun cs h=>S ?_)
  ·obtain⟨v15,hv15,h⟩:=rb_ h
   refine ai [false,false,false] (sEF_5 (fun _ _ _ hh=>ih _ _ _ hh) (by simp only[COn_,COc_]) hv15) SC (S ?_)
   cases rs_ h
   exact ah SC
  ·cases rs_ h
   exact ah SC
theorem iET_3{a0:Tt}{a1:Tt}{r:Bool}(h:iET_1 a0 a1=some r):Sat aj 149 [((am false) a0),((am false) a1)] (B r):=by
 obtain⟨n,hn⟩:=ls_ h
 exact(iET_2 n) _ _ _ hn

theorem sEF_3{a0:List Ft}{a1:List Ft}{a2:Ft→Ft→Option Bool}{a2_id:FuncId}{a2_cs:List PV}(a2_ok:∀ y0 y1 r,a2 y0 y1=some r→Sat aj a2_id (((ae false) y0)::((ae false) y1)::a2_cs) (B r))(a2_cz:CO_ a2_cs=True){r:Bool}(h:sEF_ a0 a1 a2=some r):Sat aj 150 [(.sl false 5 (a0.map (ae false))),(.sl false 5 (a1.map (ae false))),.clo a2_id a2_cs] (B r):=by
 obtain⟨h,cs⟩:=Ro_ h
 unfold sEF_ at h
 have cs:=ag a2_cz cs
 refine av (nt:=32) (rs:=[.tmp 6]) (n:=100000) Tryz.func150 rfl rfl rfl rfl (by simp) (S ?_)
 refine ak cs h (fun cs h=>S ?_) (fun cs h=>S ?_)
 ·refine aR (b:=false) (sz:=5) (es:=a0.map (ae false)) 0 SC fun hl0=>?_; rw[aB] at hl0
  replace h:=rl_ h
  refine aF h (fun i4 s4=>[(1,.val (.pv (.sl false 5 (a1.map (ae false))))),(2,.val (.pv (.clo a2_id a2_cs))),(15,.val (.pv (.sl false 5 (a0.map (ae false))))),(16,.val (.pv (I (a0.length:Int)))),(17,.val (.pv (I (i4:Int))))]) (fun i4 s4=>[]) (Slm_ SC) (fun i4 s4 hi h=>?_) (fun s4 h=>?_)
  ·have w:=ws_ (i:=i4) (by omega)
   refine S ?_
   refine aD cs (by omega) (fun cs=>S ?_)
   obtain⟨v20,hv20,h⟩:=rb_ h
   refine ar (f:=(ae false)) hv20 SC (S ?_)
   obtain⟨v24,hv24,h⟩:=rb_ h
   refine ar (f:=(ae false)) hv24 SC (S ?_)
   obtain⟨v29,hv29,h⟩:=rb_ h
   refine ai [false,false] (a2_ok _ _ _ hv29) SC (S ?_)
   refine ak cs h (fun cs h=>S ?_) (fun cs h=>S ?_)
   ·have h:=rs_ h
    refine aA ⟨_,h,?_⟩
    exact Slm_ SW
   ·cases rs_ h
    exact ah SC
  ·refine S ?_
   refine aE cs (by omega) (fun cs=>S ?_)
   cases rs_ h
   exact ah SC
 ·cases rs_ h
  exact ah SC

theorem isF_5(n:Nat):(∀ (a0:Ft) (a1:Ft) (r:Bool),isF_ n a0 a1=some r→Sat aj 125 [((ae false) a0),((ae false) a1)] (B r)):=by
 induction n with
 | zero=>exact fun _ _ _ h=>by simp[isF_] at h
 | succ n ih=>
  refine fun a0 a1 r h=>?_
  obtain⟨h,cs⟩:=Ro_ h
  rw[isF_] at h
  refine av (nt:=31) (rs:=[.tmp 4]) (n:=100000) Tryz.func125 rfl rfl rfl rfl (by simp) (S ?_)
  refine ak cs h (fun cs h=>S ?_) (fun cs h=>S ?_)
  ·obtain⟨v15,hv15,h⟩:=rb_ h
   refine ai [false,false] (iET_3 hv15) SC (S ?_)
   refine ak cs h (fun cs h=>S ?_) (fun cs h=>S ?_)
   ·refine ak cs h (fun cs h=>S ?_) (fun cs h=>S ?_)
    ·obtain⟨v29,hv29,h⟩:=rb_ h
     refine ai [false,false,false] (sEF_3 (fun _ _ _ hh=>ih _ _ _ hh) (by simp only[COn_,COc_]) hv29) SC (S ?_)
     cases rs_ h
     exact ah SC
    ·cases rs_ h
     exact ah SC
   ·cases rs_ h
    exact ah SC
  ·cases rs_ h
   exact ah SC
theorem isF_3{a0:Ft}{a1:Ft}{r:Bool}(h:isF_2 a0 a1=some r):Sat aj 125 [((ae false) a0),((ae false) a1)] (B r):=by
 obtain⟨n,hn⟩:=ls_ h
 exact(isF_5 n) _ _ _ hn

theorem iiQ_3{a0:Int}  {r:Bool}(h:iiQ_1 a0=some r):Sat aj 202 [(I a0)] (B r):=by
 obtain⟨h,cs⟩:=Ro_ h
 unfold iiQ_1 at h
 refine av (nt:=5) (rs:=[.tmp 2]) (n:=100000) Tryz.func202 rfl rfl rfl rfl (by simp) (S ?_)
 obtain⟨v4,hv4,h⟩:=rb_ h
 refine ai [false,false,false] (iws_ hv4) SC (S ?_)
 cases rs_ h
 exact ah SC

theorem imO_1{a0:Int}  {r:Bool×Int}(h:imO_ a0=some r):Sat aj 115 [(I a0)] (.tup [(B r.1),(I r.2)]):=by
 obtain⟨h,cs⟩:=Ro_ h
 unfold imO_ at h
 refine av (nt:=36) (rs:=[.tmp 2,.tmp 3]) (n:=100000) Tryz.func115 rfl rfl rfl rfl (by simp) (S ?_)
 refine ak cs h (fun cs h=>S ?_) (fun cs h=>S ?_)
 ·cases rs_ h
  exact ah SC
 ·refine ak cs h (fun cs h=>S ?_) (fun cs h=>S ?_)
  ·cases rs_ h
   exact ah SC
  ·refine ak cs h (fun cs h=>S ?_) (fun cs h=>S ?_)
   ·cases rs_ h
    exact ah SC
   ·refine ak cs h (fun cs h=>S ?_) (fun cs h=>S ?_)
    ·cases rs_ h
     exact ah SC
    ·refine ak cs h (fun cs h=>S ?_) (fun cs h=>S ?_)
     ·cases rs_ h
      exact ah SC
     ·refine ak cs h (fun cs h=>S ?_) (fun cs h=>S ?_)
      ·cases rs_ h
       exact ah SC
      ·refine ak cs h (fun cs h=>S ?_) (fun cs h=>S ?_)
       ·cases rs_ h
        exact ah SC
       ·refine ak cs h (fun cs h=>S ?_) (fun cs h=>S ?_)
        ·cases rs_ h
         exact ah SC
        ·refine ak cs h (fun cs h=>S ?_) (fun cs h=>S ?_)
         ·cases rs_ h
          exact ah SC
         ·refine ak cs h (fun cs h=>S ?_) (fun cs h=>S ?_)
          ·cases rs_ h
           exact ah SC
          ·refine ak cs h (fun cs h=>S ?_) (fun cs h=>S ?_)
           ·cases rs_ h
            exact ah SC
           ·refine ak cs h (fun cs h=>S ?_) (fun cs h=>S ?_)
            ·cases rs_ h
             exact ah SC
            ·cases rs_ h
             exact ah SC

theorem imF_1{a0:Sa}{a1:Dt}  {r:Ft×Bool}(h:imF_ a0 a1=some r):Sat aj 203 [((Sa.pv false) a0),((al false) a1)] (.tup [((ae false) r.1),(B r.2)]):=by
 obtain⟨h,cs⟩:=Ro_ h
 unfold imF_ at h
 refine av (nt:=47) (rs:=[.cell 4 44,.tmp 5]) (n:=100000) Tryz.func203 rfl rfl rfl rfl (by simp) (S ?_)
 obtain⟨v12,hv12,h⟩:=rb_ h
 refine ai [false] (imO_1 hv12) SC (S ?_)
 refine ak cs h (fun cs h=>S ?_) (fun cs h=>S ?_)
 ·obtain⟨v25,hv25,h⟩:=rb_ h
  refine ai [false,false,false] (iws_ hv25) SC (S ?_)
  refine ak cs h (fun cs h=>S ?_) (fun cs h=>S ?_)
  ·refine ak cs h (fun cs h=>S ?_) (fun cs h=>S ?_)
   ·obtain⟨v45,hv45,h⟩:=rb_ h
    refine ar (f:=(ae false)) hv45 SC (S ?_)
    cases rs_ h
    exact aL SC
   ·obtain⟨v34,hv34,h⟩:=rb_ h
    refine ar (f:=(ae false)) hv34 SC (S ?_)
    refine ak cs h (fun cs h=>S ?_) (fun cs h=>S ?_)
    ·obtain⟨v45,hv45,h⟩:=rb_ h
     refine ar (f:=(ae false)) hv45 SC (S ?_)
     cases rs_ h
     exact aL SC
    ·cases rs_ h
     exact aL SC
  ·cases rs_ h
   exact aL SC
 ·obtain⟨v25,hv25,h⟩:=rb_ h
  refine ai [false,false,false] (iws_ hv25) SC (S ?_)
  refine ak cs h (fun cs h=>S ?_) (fun cs h=>S ?_)
  ·refine ak cs h (fun cs h=>S ?_) (fun cs h=>S ?_)
   ·obtain⟨v45,hv45,h⟩:=rb_ h
    refine ar (f:=(ae false)) hv45 SC (S ?_)
    cases rs_ h
    exact aL SC
   ·obtain⟨v34,hv34,h⟩:=rb_ h
    refine ar (f:=(ae false)) hv34 SC (S ?_)
    refine ak cs h (fun cs h=>S ?_) (fun cs h=>S ?_)
    ·obtain⟨v45,hv45,h⟩:=rb_ h
     refine ar (f:=(ae false)) hv45 SC (S ?_)
     cases rs_ h
     exact aL SC
    ·cases rs_ h
     exact aL SC
  ·cases rs_ h
   exact aL SC

theorem imR_1{a0:Int}  {r:Bool}(h:imR_ a0=some r):Sat aj 144 [(I a0)] (B r):=by
 obtain⟨h,cs⟩:=Ro_ h
 unfold imR_ at h
 refine av (nt:=9) (rs:=[.tmp 2]) (n:=100000) Tryz.func144 rfl rfl rfl rfl (by simp) (S ?_)
 refine ak cs h (fun cs h=>S ?_) (fun cs h=>S ?_)
 ·cases rs_ h
  exact ah SC
 ·cases rs_ h
  exact ah SC

theorem iiV_3{a0:Tt}  {r:Bool}(h:iiV_2 a0=some r):Sat aj 242 [((am false) a0)] (B r):=by
 obtain⟨h,cs⟩:=Ro_ h
 unfold iiV_2 at h
 refine av (nt:=7) (rs:=[.tmp 2]) (n:=100000) Tryz.func242 rfl rfl rfl rfl (by simp) (S ?_)
 obtain⟨v5,hv5,h⟩:=rb_ h
 refine bB hv5 (S ?_)
 obtain⟨v6,hv6,h⟩:=rb_ h
 refine ai [false] (iiU_1 hv6) SC (S ?_)
 cases rs_ h
 exact ah SC

theorem icN_5(n:Nat):(∀ (a0:List ByteArray) (a1:Tt) (r:List ByteArray),icN_1 n a0 a1=some r→Sat aj 227 [(.sl true 1 (a0.map Sx)),((am false) a1)] (.sl true 1 (r.map Sx))):=by
 induction n with
 | zero=>exact fun _ _ _ h=>by simp[icN_1] at h
 | succ n ih=>
  refine fun a0 a1 r h=>?_
  obtain⟨h,cs⟩:=Ro_ h
  rw[icN_1] at h
  refine av (nt:=38) (rs:=[.tmp 4]) (n:=100000) Tryz.func227 rfl rfl rfl rfl (by simp) (S ?_)
  refine ak cs h (fun cs h=>S ?_) (fun cs h=>S ?_)
  ·obtain⟨v13,hv13,h⟩:=rb_ h
   refine ai [false] (iiV_3 hv13) SC (S ?_)
   refine ak cs h (fun cs h=>S ?_) (fun cs h=>S ?_)
   ·obtain⟨v18,hv18,h⟩:=rb_ h
    refine ai [false,false] (sCS_2 hv18) SC (S ?_)
    refine ak cs h (fun cs h=>S ?_) (fun cs h=>S ?_)
    ·cases rs_ h
     exact ah SC
    ·obtain⟨v24,hv24,h⟩:=rb_ h
     refine aO (f:=Sx) (fun _=>rfl) hv24 SC SC (S ?_)
     cases rs_ h
     exact ah SC
   ·refine aR (b:=false) (sz:=2) (es:=a1.Args.map (am false)) 8 SC fun hl8=>?_; rw[aB] at hl8
    replace h:=rl_ h
    refine aF h (fun i6 s6=>[(0,.val (.own 9000)),(27,.val (.pv (.sl false 2 (a1.Args.map (am false))))),(28,.val (.pv (I (a1.Args.length:Int)))),(29,.val (.pv (I (i6:Int))))]) (fun i6 s6=>[(9000,(1,s6.map Sx))]) (Slm_ SC) (fun i6 s6 hi h=>?_) (fun s6 h=>?_)
    ·have w:=ws_ (i:=i6) (by omega)
     refine S ?_
     refine aD cs (by omega) (fun cs=>S ?_)
     obtain⟨v31,hv31,h⟩:=rb_ h
     refine ar (f:=(am false)) hv31 SC (S ?_)
     obtain⟨v35,hv35,h⟩:=rb_ h
     refine ai [true,false] (ih _ _ _ hv35) SC (S ?_)
     have h:=rs_ h
     refine aA ⟨_,h,?_⟩
     refine aM (Slm_1 (S:=[(0,.val (.own 560)),(27,.val (.pv (.sl false 2 (a1.Args.map (am false))))),(28,.val (.pv (I (a1.Args.length:Int)))),(29,.val (.pv (I (IntKind.i64.wrap ((i6:Int)+1)))))]) (O:=[(560,(1,v35.map Sx))]) SW SW) ?_
     refine Slr_ 560 9000 (by decide) NM ?_
     exact Slm_ SW
    ·refine S ?_
     refine aE cs (by omega) (fun cs=>S ?_)
     cases rs_ h
     exact ah SC
  ·refine aR (b:=false) (sz:=2) (es:=a1.Args.map (am false)) 8 SC fun hl8=>?_; rw[aB] at hl8
   replace h:=rl_ h
   refine aF h (fun i6 s6=>[(0,.val (.own 9000)),(27,.val (.pv (.sl false 2 (a1.Args.map (am false))))),(28,.val (.pv (I (a1.Args.length:Int)))),(29,.val (.pv (I (i6:Int))))]) (fun i6 s6=>[(9000,(1,s6.map Sx))]) (Slm_ SC) (fun i6 s6 hi h=>?_) (fun s6 h=>?_)
   ·have w:=ws_ (i:=i6) (by omega)
    refine S ?_
    refine aD cs (by omega) (fun cs=>S ?_)
    obtain⟨v31,hv31,h⟩:=rb_ h
    refine ar (f:=(am false)) hv31 SC (S ?_)
    obtain⟨v35,hv35,h⟩:=rb_ h
    refine ai [true,false] (ih _ _ _ hv35) SC (S ?_)
    have h:=rs_ h
    refine aA ⟨_,h,?_⟩
    refine aM (Slm_1 (S:=[(0,.val (.own 560)),(27,.val (.pv (.sl false 2 (a1.Args.map (am false))))),(28,.val (.pv (I (a1.Args.length:Int)))),(29,.val (.pv (I (IntKind.i64.wrap ((i6:Int)+1)))))]) (O:=[(560,(1,v35.map Sx))]) SW SW) ?_
    refine Slr_ 560 9000 (by decide) NM ?_
    exact Slm_ SW
   ·refine S ?_
    refine aE cs (by omega) (fun cs=>S ?_)
    cases rs_ h
    exact ah SC
theorem ics_{a0:List ByteArray}{a1:Tt}{r:List ByteArray}(h:ic_ a0 a1=some r):Sat aj 227 [(.sl true 1 (a0.map Sx)),((am false) a1)] (.sl true 1 (r.map Sx)):=by
 obtain⟨n,hn⟩:=ls_ h
 exact(icN_5 n) _ _ _ hn


theorem ivs_{a0:Tt}  {r:List ByteArray}(h:iv_ a0=some r):Sat aj 221 [((am false) a0)] (.sl true 1 (r.map Sx)):=by
 obtain⟨h,cs⟩:=Ro_ h
 unfold iv_ at h
 refine av (nt:=10) (rs:=[.tmp 2]) (n:=100000) Tryz.func221 rfl rfl rfl rfl (by simp) (S ?_)
 obtain⟨v6,hv6,h⟩:=rb_ h
 refine ai [true,false] (ics_ hv6) SC (S ?_)
 obtain⟨v8,hv8,h⟩:=rb_ h
 refine CHi_1 [(.own 96)] [(96,(1,v8.2.map Sx))] (sSS_1 hv8) SC (S ?_)
 cases rs_ h
 exact ah SC

theorem sCS_5{a0:List ByteArray}  {r:List ByteArray}(h:sCS_3 a0=some r):Sat aj 222 [(.sl false 1 (a0.map Sx))] (.sl true 1 (r.map Sx)):=by
 obtain⟨h,cs⟩:=Ro_ h
 unfold sCS_3 at h
 refine av (nt:=8) (rs:=[.tmp 2]) (n:=100000) Tryz.func222 rfl rfl rfl rfl (by simp) (S ?_)
 refine NilH.mk (fun e=>?_) ?_
 ·obtain rfl:a0=[]:=List.map_eq_nil_iff.1 e
  simp only[an_2,Option.bind_some] at h
  refine S ?_
  cases rs_ h
  exact ah SC
 ·skip
  refine S ?_
  obtain⟨v7,hv7,h⟩:=rb_ h
  refine aO (f:=Sx) (fun _=>rfl) hv7 SC SC (S ?_)
  cases rs_ h
  exact ah SC

theorem igN_1(n:Nat):(∀ (a0:List ByteArray) (a1:Ft) (a2:List ByteArray) (r:List ByteArray),igN_ n a0 a1 a2=some r→Sat aj 216 [(.sl true 1 (a0.map Sx)),((ae false) a1),(.sl false 1 (a2.map Sx))] (.sl true 1 (r.map Sx))):=by
 induction n with
 | zero=>exact fun _ _ _ _ h=>by simp[igN_] at h
 | succ n ih=>
  refine fun a0 a1 a2 r h=>?_
  obtain⟨h,cs⟩:=Ro_ h
  rw[igN_] at h
  refine av (nt:=60) (rs:=[.tmp 6]) (n:=100000) Tryz.func216 rfl rfl rfl rfl (by simp) (S ?_)
  refine ak cs h (fun cs h=>S ?_) (fun cs h=>S ?_)
  ·obtain⟨v16,hv16,h⟩:=rb_ h
   refine ai [false] (ivs_ hv16) SC (S ?_)
   refine Mg.know_own (sz:=1) (es:=v16.map Sx) 256 SC fun hl256=>?_; rw[aB] at hl256
   replace h:=rl_ h
   refine aF h (fun i3 s3=>[(0,.val (.own 9000)),(2,.val (.pv (.sl false 1 (a2.map Sx)))),(16,.val (.own 256)),(17,.val (.pv (I (v16.length:Int)))),(18,.val (.pv (I (i3:Int))))]) (fun i3 s3=>[(9000,(1,s3.map Sx)),(256,(1,v16.map Sx))]) (Slm_ SC) (fun i3 s3 hi h=>?_) (fun s3 h=>?_)
   ·have w:=ws_ (i:=i3) (by omega)
    refine S ?_
    refine aD cs (by omega) (fun cs=>S ?_)
    obtain⟨v20,hv20,h⟩:=rb_ h
    refine ar (f:=Sx) hv20 SC (S ?_)
    obtain⟨v21,hv21,h⟩:=rb_ h
    refine EldH.mk (f:=Sx) hv21 rfl SC (S ?_)
    obtain⟨v24,hv24,h⟩:=rb_ h
    refine ai [false,false] (sCS_2 hv24) SC (S ?_)
    refine ak cs h (fun cs h=>S ?_) (fun cs h=>S ?_)
    ·have h:=rs_ h
     refine aA ⟨_,h,?_⟩
     exact Slm_ SW
    ·obtain⟨v29,hv29,h⟩:=rb_ h
     refine ai [false,false] (sCS_2 hv29) SC (S ?_)
     refine ak cs h (fun cs h=>S ?_) (fun cs h=>S ?_)
     ·have h:=rs_ h
      refine aA ⟨_,h,?_⟩
      exact Slm_ SW
     ·obtain⟨v35,hv35,h⟩:=rb_ h
      refine aO (f:=Sx) (fun _=>rfl) hv35 SC SC (S ?_)
      have h:=rs_ h
      refine aA ⟨_,h,?_⟩
      refine aM (Slm_1 (S:=[(0,.val (.own 560)),(2,.val (.pv (.sl false 1 (a2.map Sx)))),(16,.val (.own 256)),(17,.val (.pv (I (v16.length:Int)))),(18,.val (.pv (I (IntKind.i64.wrap ((i3:Int)+1)))))]) (O:=[(560,(1,v35.map Sx)),(256,(1,v16.map Sx))]) SW SW) ?_
      refine Slr_ 560 9000 (by decide) NM ?_
      exact Slm_ SW
   ·refine S ?_
    refine aE cs (by omega) (fun cs=>S ?_)
    cases rs_ h
    exact ah SC
  ·obtain⟨v40,hv40,h⟩:=rb_ h
   refine ai [false] (iiQ_ hv40) SC (S ?_)
   refine ak cs h (fun cs h=>S ?_) (fun cs h=>S ?_)
   ·obtain⟨v42,hv42,h⟩:=rb_ h
    refine ai [false] (sCS_5 hv42) SC (S ?_)
    obtain⟨v46,hv46,h⟩:=rb_ h
    refine aO (f:=Sx) (fun _=>rfl) hv46 SC SC (S ?_)
    refine ag (DHa_ [] [672,720,736]) (S ?_)
    refine aR (b:=false) (sz:=5) (es:=a1.Parts.map (ae false)) 48 SC fun hl48=>?_; rw[aB] at hl48
    replace h:=rl_ h
    refine aF h (fun i12 s12=>[(0,.val (.own 9000)),(2,.val (.own 736)),(48,.val (.pv (.sl false 5 (a1.Parts.map (ae false))))),(49,.val (.pv (I (a1.Parts.length:Int)))),(50,.val (.pv (I (i12:Int))))]) (fun i12 s12=>[(9000,(1,s12.map Sx)),(736,(1,v46.map Sx))]) (Slm_ SC) (fun i12 s12 hi h=>?_) (fun s12 h=>?_)
    ·have w:=ws_ (i:=i12) (by omega)
     refine S ?_
     refine aD cs (by omega) (fun cs=>S ?_)
     obtain⟨v52,hv52,h⟩:=rb_ h
     refine ar (f:=(ae false)) hv52 SC (S ?_)
     obtain⟨v57,hv57,h⟩:=rb_ h
     refine ai [true,false,false] (ih _ _ _ _ hv57) SC (S ?_)
     have h:=rs_ h
     refine aA ⟨_,h,?_⟩
     refine aM (Slm_1 (S:=[(0,.val (.own 912)),(2,.val (.own 736)),(48,.val (.pv (.sl false 5 (a1.Parts.map (ae false))))),(49,.val (.pv (I (a1.Parts.length:Int)))),(50,.val (.pv (I (IntKind.i64.wrap ((i12:Int)+1)))))]) (O:=[(912,(1,v57.map Sx)),(736,(1,v46.map Sx))]) SW SW) ?_
     refine Slr_ 912 9000 (by decide) NM ?_
     exact Slm_ SW
    ·refine S ?_
     refine aE cs (by omega) (fun cs=>S ?_)
     cases rs_ h
     exact ah SC
   ·refine aR (b:=false) (sz:=5) (es:=a1.Parts.map (ae false)) 48 SC fun hl48=>?_; rw[aB] at hl48
    replace h:=rl_ h
    refine aF h (fun i12 s12=>[(0,.val (.own 9000)),(2,.val (.pv (.sl false 1 (a2.map Sx)))),(48,.val (.pv (.sl false 5 (a1.Parts.map (ae false))))),(49,.val (.pv (I (a1.Parts.length:Int)))),(50,.val (.pv (I (i12:Int))))]) (fun i12 s12=>[(9000,(1,s12.map Sx))]) (Slm_ SC) (fun i12 s12 hi h=>?_) (fun s12 h=>?_)
    ·have w:=ws_ (i:=i12) (by omega)
     refine S ?_
     refine aD cs (by omega) (fun cs=>S ?_)
     obtain⟨v52,hv52,h⟩:=rb_ h
     refine ar (f:=(ae false)) hv52 SC (S ?_)
     obtain⟨v57,hv57,h⟩:=rb_ h
     refine ai [true,false,false] (ih _ _ _ _ hv57) SC (S ?_)
     have h:=rs_ h
     refine aA ⟨_,h,?_⟩
     refine aM (Slm_1 (S:=[(0,.val (.own 912)),(2,.val (.pv (.sl false 1 (a2.map Sx)))),(48,.val (.pv (.sl false 5 (a1.Parts.map (ae false))))),(49,.val (.pv (I (a1.Parts.length:Int)))),(50,.val (.pv (I (IntKind.i64.wrap ((i12:Int)+1)))))]) (O:=[(912,(1,v57.map Sx))]) SW SW) ?_
     refine Slr_ 912 9000 (by decide) NM ?_
     exact Slm_ SW
    ·refine S ?_
     refine aE cs (by omega) (fun cs=>S ?_)
     cases rs_ h
     exact ah SC
theorem igs_{a0:List ByteArray}{a1:Ft}{a2:List ByteArray}{r:List ByteArray}(h:ig_ a0 a1 a2=some r):Sat aj 216 [(.sl true 1 (a0.map Sx)),((ae false) a1),(.sl false 1 (a2.map Sx))] (.sl true 1 (r.map Sx)):=by
 obtain⟨n,hn⟩:=ls_ h
 exact(igN_1 n) _ _ _ _ hn

theorem ifs_{a0:Ft}  {r:List ByteArray}(h:if_ a0=some r):Sat aj 213 [((ae false) a0)] (.sl true 1 (r.map Sx)):=by
 obtain⟨h,cs⟩:=Ro_ h
 unfold if_ at h
 refine av (nt:=10) (rs:=[.tmp 2]) (n:=100000) Tryz.func213 rfl rfl rfl rfl (by simp) (S ?_)
 obtain⟨v6,hv6,h⟩:=rb_ h
 refine ai [true,false,false] (igs_ hv6) SC (S ?_)
 obtain⟨v8,hv8,h⟩:=rb_ h
 refine CHi_1 [(.own 96)] [(96,(1,v8.2.map Sx))] (sSS_1 hv8) SC (S ?_)
 cases rs_ h
 exact ah SC

theorem iiF_3{a0:Ft}{b0:ByteArray}  {r:Bool}(h:iiF_ a0 b0=some r):Sat aj 212 [((ae false) a0),.ptr (Sx b0)] (B r):=by
 obtain⟨h,cs⟩:=Ro_ h
 unfold iiF_ at h
 refine av (nt:=8) (rs:=[.tmp 3]) (n:=100000) Tryz.func212 rfl rfl rfl rfl (by simp) (S ?_)
 obtain⟨v5,hv5,h⟩:=rb_ h
 refine ai [false] (ifs_ hv5) SC (S ?_)
 obtain⟨v7,hv7,h⟩:=rb_ h
 refine ai [false,false] (sCS_2 hv7) SC (S ?_)
 refine ag (DHa_ [] [80]) (S ?_)
 cases rs_ h
 exact ah SC

theorem iiF_5{a0:Sa}{a1:ByteArray}  {r:Bool}(h:iiF_2 a0 a1=some r):Sat aj 210 [((Sa.pv false) a0),(Sx a1)] (B r):=by
 obtain⟨h,cs⟩:=Ro_ h
 unfold iiF_2 at h
 refine av (nt:=17) (rs:=[.tmp 4]) (n:=100000) Tryz.func210 rfl rfl rfl rfl (by simp) (S ?_)
 refine MfH.fr (S ?_)
 obtain⟨v10,hv10,h⟩:=rb_ h
 refine ai [false,false] (sCF_1 (fun _ _ hh=>iiF_3 hh) (by simp only[COn_,COc_]) hv10) SC (S ?_)
 refine ak cs h (fun cs h=>S ?_) (fun cs h=>S ?_)
 ·cases rs_ h
  exact ah SC
 ·obtain⟨v15,hv15,h⟩:=rb_ h
  refine ai [false,false] (sCF_1 (fun _ _ hh=>iiF_3 hh) (by simp only[COn_,COc_]) hv15) SC (S ?_)
  cases rs_ h
  exact ah SC

theorem icT_4(n:Nat):(∀ (a0:Tt) (r:Tt),icT_ n a0=some r→Sat aj 140 [((am false) a0)] ((am true) r))∧(∀ (a0:List Tt) (r:List Tt),icT_1 n a0=some r→Sat aj 163 [(.sl false 2 (a0.map (am false)))] (.sl true 2 (r.map (am true)))):=by
 induction n with
 | zero=>exact⟨fun _ _ h=>by simp[icT_] at h,fun _ _ h=>by simp[icT_1] at h⟩
 | succ n ih=>
  refine⟨fun a0 r h=>?_,fun a0 r h=>?_⟩
  ·obtain⟨h,cs⟩:=Ro_ h
   rw[icT_] at h
   refine av (nt:=9) (rs:=[.cell 2 42]) (n:=100000) Tryz.func140 rfl rfl rfl rfl (by simp) (S ?_)
   obtain⟨v7,hv7,h⟩:=rb_ h
   refine ai [false] (ih.2 _ _ hv7) SC (S ?_)
   refine ag (DHa_ [] [112]) (S ?_)
   cases rs_ h
   exact ah SC
  ·obtain⟨h,cs⟩:=Ro_ h
   rw[icT_1] at h
   refine av (nt:=26) (rs:=[.tmp 2]) (n:=100000) Tryz.func163 rfl rfl rfl rfl (by simp) (S ?_)
   refine ak cs h (fun cs h=>S ?_) (fun cs h=>S ?_)
   ·cases rs_ h
    exact ah SC
   ·obtain⟨n11,hn11,h⟩:=rb_ h
    refine MknH.mk hn11 (S ?_)
    refine aR (b:=false) (sz:=2) (es:=a0.map (am false)) 0 SC fun hl0=>?_; rw[aB] at hl0
    replace h:=rl_ h
    refine aF h (fun i5 s5=>[(3,.val (.own 176)),(12,.val (.pv (.sl false 2 (a0.map (am false))))),(13,.val (.pv (I (a0.length:Int)))),(14,.val (.pv (I (i5:Int))))]) (fun i5 s5=>[(176,(2,s5.map (am true)))]) (Slm_ SC) (fun i5 s5 hi h=>?_) (fun s5 h=>?_)
    ·have w:=ws_ (i:=i5) (by omega)
     refine S ?_
     refine aD cs (by omega) (fun cs=>S ?_)
     obtain⟨v17,hv17,h⟩:=rb_ h
     refine ar (f:=(am false)) hv17 SC (S ?_)
     obtain⟨v22,hv22,h⟩:=rb_ h
     refine ai [false] (ih.1 _ _ hv22) SC (S ?_)
     obtain⟨v23,hv23,h⟩:=rb_ h
     refine ar (f:=(am true)) hv23 SC (S ?_)
     obtain⟨w3,hw3,h⟩:=rb_ h
     refine EldH.mk (f:=(am true)) hw3 rfl SC (S ?_)
     have h:=rs_ h
     refine aA ⟨_,h,?_⟩
     exact Slm_ SW
    ·refine S ?_
     refine aE cs (by omega) (fun cs=>S ?_)
     cases rs_ h
     exact ah SC
theorem icT_3{a0:Tt}{r:Tt}(h:icT_2 a0=some r):Sat aj 140 [((am false) a0)] ((am true) r):=by
 obtain⟨n,hn⟩:=ls_ h
 exact(icT_4 n).1 _ _ hn
theorem icT_6{a0:List Tt}{r:List Tt}(h:icT_5 a0=some r):Sat aj 163 [(.sl false 2 (a0.map (am false)))] (.sl true 2 (r.map (am true))):=by
 obtain⟨n,hn⟩:=ls_ h
 exact(icT_4 n).2 _ _ hn

theorem imP_3{a0:Ft}{a1:Ft→Option Ft}{a1_id:FuncId}{a1_cs:List PV}(a1_ok:∀ y0 r,a1 y0=some r→Sat aj a1_id (((ae false) y0)::a1_cs) ((ae true) r))(a1_cz:CO_ a1_cs=True){r:Ft}(h:imP_2 a0 a1=some r):Sat aj 143 [((ae false) a0),.clo a1_id a1_cs] ((ae true) r):=by
 obtain⟨h,cs⟩:=Ro_ h
 unfold imP_2 at h
 have cs:=ag a1_cz cs
 refine av (nt:=33) (rs:=[.cell 4 44]) (n:=100000) Tryz.func143 rfl rfl rfl rfl (by simp) (S ?_)
 obtain⟨v12,hv12,h⟩:=rb_ h
 refine ai [false] (icT_3 hv12) SC (S ?_)
 refine ag (DHa_ [5] [192]) (S ?_)
 refine aR (b:=false) (sz:=5) (es:=a0.Parts.map (ae false)) 17 SC fun hl17=>?_; rw[aB] at hl17
 replace h:=rl_ h
 refine aF h (fun i3 s3=>[(1,.val (.pv (.clo a1_id a1_cs))),(4,.box (.node [(.pv (I 0)),(.node [(.pv (Sx ⟨#[]⟩)),(.pv (.sl true 2 []))]),(.pv (Sx ⟨#[]⟩)),(.pv (.sl true 5 []))])),(5,.box (.node [(.pv (I a0.Op)),(.node [(.pv (Sx v12.Name)),(.own 192)]),(.pv (Sx a0.Var)),(.own 9309)])),(17,.val (.pv (.sl false 5 (a0.Parts.map (ae false))))),(18,.val (.pv (I (a0.Parts.length:Int)))),(19,.val (.pv (I (i3:Int))))]) (fun i3 s3=>[(192,(2,v12.Args.map (am true))),(9309,(5,s3.map (ae true)))]) (aM (Sln_ (x:=(.node [(.pv (I a0.Op)),(.node [(.pv (Sx v12.Name)),(.own 192)]),(.pv (Sx a0.Var)),(.pv (.sl true 5 []))])) 5 [3] 9309 5 NM SC SC SC) (Slm_ SC)) (fun i3 s3 hi h=>?_) (fun s3 h=>?_)
 ·have w:=ws_ (i:=i3) (by omega)
  refine S ?_
  refine aD cs (by omega) (fun cs=>S ?_)
  obtain⟨v21,hv21,h⟩:=rb_ h
  refine ar (f:=(ae false)) hv21 SC (S ?_)
  obtain⟨v27,hv27,h⟩:=rb_ h
  refine ai [false] (a1_ok _ _ hv27) SC (S ?_)
  obtain⟨v29,hv29,h⟩:=rb_ h
  refine aO (f:=(ae true)) (fun a=>Ft.psize _ a) hv29 SC SC (S ?_)
  refine ag (DHa_ [] [432,433,448,464]) (S ?_)
  have h:=rs_ h
  refine aA ⟨_,h,?_⟩
  refine aM (Slm_1 (S:=[(1,.val (.pv (.clo a1_id a1_cs))),(4,.box (.node [(.pv (I 0)),(.node [(.pv (Sx ⟨#[]⟩)),(.pv (.sl true 2 []))]),(.pv (Sx ⟨#[]⟩)),(.pv (.sl true 5 []))])),(5,.box (.node [(.pv (I a0.Op)),(.node [(.pv (Sx v12.Name)),(.own 192)]),(.pv (Sx a0.Var)),(.own 464)])),(17,.val (.pv (.sl false 5 (a0.Parts.map (ae false))))),(18,.val (.pv (I (a0.Parts.length:Int)))),(19,.val (.pv (I (IntKind.i64.wrap ((i3:Int)+1)))))]) (O:=[(192,(2,v12.Args.map (am true))),(464,(5,v29.map (ae true)))]) SW SW) ?_
  refine Slr_ 464 9309 (by decide) NM ?_
  exact Slm_ SW
 ·refine S ?_
  refine aE cs (by omega) (fun cs=>S ?_)
  cases rs_ h
  exact ah SC

theorem icF_5(n:Nat):(∀ (a0:Ft) (r:Ft),icF_1 n a0=some r→Sat aj 113 [((ae false) a0)] ((ae true) r)):=by
 induction n with
 | zero=>exact fun _ _ h=>by simp[icF_1] at h
 | succ n ih=>
  refine fun a0 r h=>?_
  obtain⟨h,cs⟩:=Ro_ h
  rw[icF_1] at h
  refine av (nt:=5) (rs:=[.cell 2 44]) (n:=100000) Tryz.func113 rfl rfl rfl rfl (by simp) (S ?_)
  obtain⟨v4,hv4,h⟩:=rb_ h
  refine ai [false,false] (imP_3 (fun _ _ hh=>ih _ _ hh) (by simp only[COn_,COc_]) hv4) SC (S ?_)
  cases rs_ h
  exact ah SC
theorem icF_2{a0:Ft}{r:Ft}(h:icF_ a0=some r):Sat aj 113 [((ae false) a0)] ((ae true) r):=by
 obtain⟨n,hn⟩:=ls_ h
 exact(icF_5 n) _ _ hn

theorem icN_3(n:Nat):(∀ (a0:Tt) (a1:ByteArray) (r:Int),icN_ n a0 a1=some r→Sat aj 225 [((am false) a0),(Sx a1)] (I r)):=by
 induction n with
 | zero=>exact fun _ _ _ h=>by simp[icN_] at h
 | succ n ih=>
  refine fun a0 a1 r h=>?_
  obtain⟨h,cs⟩:=Ro_ h
  rw[icN_] at h
  refine av (nt:=26) (rs:=[.tmp 4]) (n:=100000) Tryz.func225 rfl rfl rfl rfl (by simp) (S ?_)
  refine ak cs h (fun cs h=>S ?_) (fun cs h=>S ?_)
  ·refine aR (b:=false) (sz:=2) (es:=a0.Args.map (am false)) 13 SC fun hl13=>?_; rw[aB] at hl13
   replace h:=rl_ h
   refine aF h (fun i5 s5=>[(1,.val (.pv (Sx a1))),(5,.val (.pv (I s5))),(13,.val (.pv (.sl false 2 (a0.Args.map (am false))))),(14,.val (.pv (I (a0.Args.length:Int)))),(15,.val (.pv (I (i5:Int))))]) (fun i5 s5=>[]) (Slm_ SC) (fun i5 s5 hi h=>?_) (fun s5 h=>?_)
   ·have w:=ws_ (i:=i5) (by omega)
    refine S ?_
    refine aD cs (by omega) (fun cs=>S ?_)
    obtain⟨v17,hv17,h⟩:=rb_ h
    refine ar (f:=(am false)) hv17 SC (S ?_)
    obtain⟨v22,hv22,h⟩:=rb_ h
    refine ai [false,false] (ih _ _ _ hv22) SC (S ?_)
    have h:=rs_ h
    refine aA ⟨_,h,?_⟩
    exact Slm_ SW
   ·refine S ?_
    refine aE cs (by omega) (fun cs=>S ?_)
    cases rs_ h
    exact ah SC
  ·refine aR (b:=false) (sz:=2) (es:=a0.Args.map (am false)) 13 SC fun hl13=>?_; rw[aB] at hl13
   replace h:=rl_ h
   refine aF h (fun i5 s5=>[(1,.val (.pv (Sx a1))),(5,.val (.pv (I s5))),(13,.val (.pv (.sl false 2 (a0.Args.map (am false))))),(14,.val (.pv (I (a0.Args.length:Int)))),(15,.val (.pv (I (i5:Int))))]) (fun i5 s5=>[]) (Slm_ SC) (fun i5 s5 hi h=>?_) (fun s5 h=>?_)
   ·have w:=ws_ (i:=i5) (by omega)
    refine S ?_
    refine aD cs (by omega) (fun cs=>S ?_)
    obtain⟨v17,hv17,h⟩:=rb_ h
    refine ar (f:=(am false)) hv17 SC (S ?_)
    obtain⟨v22,hv22,h⟩:=rb_ h
    refine ai [false,false] (ih _ _ _ hv22) SC (S ?_)
    have h:=rs_ h
    refine aA ⟨_,h,?_⟩
    exact Slm_ SW
   ·refine S ?_
    refine aE cs (by omega) (fun cs=>S ?_)
    cases rs_ h
    exact ah SC
theorem icN_4{a0:Tt}{a1:ByteArray}{r:Int}(h:icN_2 a0 a1=some r):Sat aj 225 [((am false) a0),(Sx a1)] (I r):=by
 obtain⟨n,hn⟩:=ls_ h
 exact(icN_3 n) _ _ _ hn

theorem ios_{a0:ByteArray}{a1:Tt}  {r:Bool}(h:io_ a0 a1=some r):Sat aj 218 [(Sx a0),((am false) a1)] (B r):=by
 obtain⟨h,cs⟩:=Ro_ h
 unfold io_ at h
 refine av (nt:=9) (rs:=[.tmp 4]) (n:=100000) Tryz.func218 rfl rfl rfl rfl (by simp) (S ?_)
 obtain⟨v7,hv7,h⟩:=rb_ h
 refine ai [false,false] (icN_4 hv7) SC (S ?_)
 cases rs_ h
 exact ah SC

theorem ciN_1{a0:ByteArray}  {r:Bool}(h:ciN_ a0=some r):Sat aj 248 [(Sx a0)] (B r):=by
 obtain⟨h,cs⟩:=Ro_ h
 unfold ciN_ at h
 refine av (nt:=6) (rs:=[.tmp 2]) (n:=100000) Tryz.func248 rfl rfl rfl rfl (by simp) (S ?_)
 cases rs_ h
 exact ah SC

theorem cCs_1{a0:ByteArray}{a1:ByteArray}  {r:Int}(h:cCs_ a0 a1=some r):Sat aj 241 [(Sx a0),(Sx a1)] (I r):=by
 obtain⟨h,cs⟩:=Ro_ h
 unfold cCs_ at h
 refine av (nt:=20) (rs:=[.tmp 4]) (n:=100000) Tryz.func241 rfl rfl rfl rfl (by simp) (S ?_)
 obtain⟨v8,hv8,h⟩:=rb_ h
 refine ai [false] (ciN_1 hv8) SC (S ?_)
 obtain⟨v10,hv10,h⟩:=rb_ h
 refine ai [false] (ciN_1 hv10) SC (S ?_)
 refine ak cs h (fun cs h=>S ?_) (fun cs h=>S ?_)
 ·refine ak cs h (fun cs h=>S ?_) (fun cs h=>S ?_)
  ·cases rs_ h
   exact ah SC
  ·cases rs_ h
   exact ah SC
 ·refine ak cs h (fun cs h=>S ?_) (fun cs h=>S ?_)
  ·cases rs_ h
   exact ah SC
  ·refine ak cs h (fun cs h=>S ?_) (fun cs h=>S ?_)
   ·cases rs_ h
    exact ah SC
   ·refine ak cs h (fun cs h=>S ?_) (fun cs h=>S ?_)
    ·cases rs_ h
     exact ah SC
    ·cases rs_ h
     exact ah SC

theorem iSt_2{a0:Bt}{a1:ByteArray}  {r:Int}(h:iSt_ a0 a1=some r):Sat aj 240 [((Bt.pv false) a0),(Sx a1)] (I r):=by
 obtain⟨h,cs⟩:=Ro_ h
 unfold iSt_ at h
 refine av (nt:=9) (rs:=[.tmp 4]) (n:=100000) Tryz.func240 rfl rfl rfl rfl (by simp) (S ?_)
 obtain⟨v8,hv8,h⟩:=rb_ h
 refine ai [false,false] (cCs_1 hv8) SC (S ?_)
 cases rs_ h
 exact ah SC

theorem sBS_1{a0:List Bt}{a1:ByteArray}{a2:Bt→ByteArray→Option Int}{a2_id:FuncId}{a2_cs:List PV}(a2_ok:∀ y0 y1 r,a2 y0 y1=some r→Sat aj a2_id (((Bt.pv false) y0)::(Sx y1)::a2_cs) (I r))(a2_cz:CO_ a2_cs=True){r:Int×Bool}(h:sBS_ a0 a1 a2=some r):Sat aj 239 [(.sl false 3 (a0.map (Bt.pv false))),(Sx a1),.clo a2_id a2_cs] (.tup [(I r.1),(B r.2)]):=by
 obtain⟨h,cs⟩:=Ro_ h
 unfold sBS_ at h
 have cs:=ag a2_cz cs
 refine av (nt:=49) (rs:=[.tmp 6,.tmp 7]) (n:=100000) Tryz.func239 rfl rfl rfl rfl (by simp) (S ?_)
 replace h:=rl_ h
 refine Mg.whileN h (fun s3=>[(0,.val (.pv (.sl false 3 (a0.map (Bt.pv false))))),(1,.val (.pv (Sx a1))),(2,.val (.pv (.clo a2_id a2_cs))),(8,.val (.pv (I (a0.length:Int)))),(9,.val (.pv (I s3.1))),(10,.val (.pv (I s3.2)))]) (fun s3=>[]) (Slm_ SC) (fun n3 s3 h=>?_)
 refine S ?_
 refine ak cs h (fun cs h=>S ?_) (fun cs h=>S ?_)
 ·obtain⟨v22,hv22,h⟩:=rb_ h
  refine ShrH.mk hv22 (S ?_)
  obtain⟨v27,hv27,h⟩:=rb_ h
  refine ar (f:=(Bt.pv false)) hv27 SC (S ?_)
  obtain⟨v30,hv30,h⟩:=rb_ h
  refine ai [false,false] (a2_ok _ _ _ hv30) SC (S ?_)
  refine ak cs h (fun cs h=>S ?_) (fun cs h=>S ?_)
  ·have h:=rs_ h
   refine aA ⟨_,h,?_⟩
   exact Slm_ SC
  ·have h:=rs_ h
   refine aA ⟨_,h,?_⟩
   exact Slm_ SC
 ·have h:=rs_ h
  refine ak cs h (fun cs h=>S ?_) (fun cs h=>S ?_)
  ·obtain⟨v43,hv43,h⟩:=rb_ h
   refine ar (f:=(Bt.pv false)) hv43 SC (S ?_)
   obtain⟨v46,hv46,h⟩:=rb_ h
   refine ai [false,false] (a2_ok _ _ _ hv46) SC (S ?_)
   cases rs_ h
   exact ah SC
  ·cases rs_ h
   exact ah SC

theorem iSt_3{a0:Sb}{a1:ByteArray}  {r:Tt×Bool}(h:iSt_1 a0 a1=some r):Sat aj 226 [((Sb.pv false) a0),(Sx a1)] (.tup [((am false) r.1),(B r.2)]):=by
 obtain⟨h,cs⟩:=Ro_ h
 unfold iSt_1 at h
 refine av (nt:=24) (rs:=[.cell 4 42,.tmp 5]) (n:=100000) Tryz.func226 rfl rfl rfl rfl (by simp) (S ?_)
 obtain⟨v12,hv12,h⟩:=rb_ h
 refine ai [false,false,false] (sBS_1 (fun _ _ _ hh=>iSt_2 hh) (by simp only[COn_,COc_]) hv12) SC (S ?_)
 refine ak cs h (fun cs h=>S ?_) (fun cs h=>S ?_)
 ·obtain⟨v21,hv21,h⟩:=rb_ h
  refine ar (f:=(Bt.pv false)) hv21 SC (S ?_)
  cases rs_ h
  exact aL SC
 ·cases rs_ h
  exact aL SC

theorem iSa_3(n:Nat):(∀ (a0:Sb) (a1:Tt) (r:Tt),iSa_ n a0 a1=some r→Sat aj 220 [((Sb.pv false) a0),((am false) a1)] ((am true) r)):=by
 induction n with
 | zero=>exact fun _ _ _ h=>by simp[iSa_] at h
 | succ n ih=>
  refine fun a0 a1 r h=>?_
  obtain⟨h,cs⟩:=Ro_ h
  rw[iSa_] at h
  refine av (nt:=51) (rs:=[.cell 4 42]) (n:=100000) Tryz.func220 rfl rfl rfl rfl (by simp) (S ?_)
  refine ak cs h (fun cs h=>S ?_) (fun cs h=>S ?_)
  ·obtain⟨v18,hv18,h⟩:=rb_ h
   refine ai [false,false] (iSt_3 hv18) SC (S ?_)
   refine ak cs h (fun cs h=>S ?_) (fun cs h=>S ?_)
   ·obtain⟨v23,hv23,h⟩:=rb_ h
    refine ai [false] (icT_3 hv23) SC (S ?_)
    cases rs_ h
    exact ah SC
   ·cases rs_ h
    exact ah SC
  ·obtain⟨n32,hn32,h⟩:=rb_ h
   refine MknH.mk hn32 (S ?_)
   refine ag (DHa_ [7] [512]) (S ?_)
   refine aR (b:=false) (sz:=2) (es:=a1.Args.map (am false)) 11 SC fun hl11=>?_; rw[aB] at hl11
   replace h:=rl_ h
   refine aF h (fun i8 s8=>[(2,.box (.pv ((Sb.pv false) a0))),(4,.box (.node [(.pv (Sx ⟨#[]⟩)),(.pv (.sl true 2 []))])),(7,.box (.node [(.pv (Sx a1.Name)),(.own 512)])),(35,.val (.pv (.sl false 2 (a1.Args.map (am false))))),(36,.val (.pv (I (a1.Args.length:Int)))),(37,.val (.pv (I (i8:Int))))]) (fun i8 s8=>[(512,(2,s8.map (am true)))]) (Slm_ SC) (fun i8 s8 hi h=>?_) (fun s8 h=>?_)
   ·have w:=ws_ (i:=i8) (by omega)
    refine S ?_
    refine aD cs (by omega) (fun cs=>S ?_)
    obtain⟨v40,hv40,h⟩:=rb_ h
    refine ar (f:=(am false)) hv40 SC (S ?_)
    obtain⟨v47,hv47,h⟩:=rb_ h
    refine ai [false,false] (ih _ _ _ hv47) SC (S ?_)
    obtain⟨v48,hv48,h⟩:=rb_ h
    refine ar (f:=(am true)) hv48 SC (S ?_)
    obtain⟨w4,hw4,h⟩:=rb_ h
    refine EldH.mk (f:=(am true)) hw4 rfl SC (S ?_)
    refine ag (DHa_ [] [752]) (S ?_)
    have h:=rs_ h
    refine aA ⟨_,h,?_⟩
    exact Slm_ SW
   ·refine S ?_
    refine aE cs (by omega) (fun cs=>S ?_)
    cases rs_ h
    exact ah SC
theorem iSa_2{a0:Sb}{a1:Tt}{r:Tt}(h:iSa_1 a0 a1=some r):Sat aj 220 [((Sb.pv false) a0),((am false) a1)] ((am true) r):=by
 obtain⟨n,hn⟩:=ls_ h
 exact(iSa_3 n) _ _ _ hn

theorem imP_1{a0:Ft}{a1:Ft→Bool→Option (Ft×Bool)}{a1_s:Bool}{a1_id:FuncId}{a1_pat:List Bool}{a1_ps a1_p1 a1_p2:List PV}(a1_ok:∀ y0 s r,a1 y0 s=some r→SatH aj a1_id (((ae false) y0)::a1_p1) a1_p2 .ptr [] (.pv (B s)) (.pv (B r.2)) ((ae true) r.1))(a1_sp:sP_ a1_pat a1_ps=some (a1_p1,a1_p2))(a1_cz:CO_ a1_ps){r:Ft×Bool}(h:imP_ a0 a1 a1_s=some r):SatH aj 143 [((ae false) a0)] [] (.clo a1_id a1_pat) a1_ps (.pv (B a1_s)) (.pv (B r.2)) ((ae true) r.1):=by
 obtain⟨h,cs⟩:=Ro_ h
 unfold imP_ at h
 refine SHo_ (nt:=33) (rs:=[.cell 4 44]) (n:=100000) 1 Tryz.func143 rfl rfl rfl rfl rfl (Nat.le_of_ble_eq_true rfl) (by decide) (by first | exact Nat.le_of_ble_eq_true rfl | exact SC) (S ?_)
 obtain⟨v12,hv12,h⟩:=rb_ h
 refine ai [false] (icT_3 hv12) SC (S ?_)
 refine ag (DHa_ [5] [192]) (S ?_)
 refine aR (b:=false) (sz:=5) (es:=a0.Parts.map (ae false)) 17 SC fun hl17=>?_; rw[aB] at hl17
 replace h:=rl_ h
 refine aF h (fun i3 s3=>[(1,.hold (.clo a1_id a1_pat) a1_ps (.cv (.pv (B s3.1)))),(4,.box (.node [(.pv (I 0)),(.node [(.pv (Sx ⟨#[]⟩)),(.pv (.sl true 2 []))]),(.pv (Sx ⟨#[]⟩)),(.pv (.sl true 5 []))])),(5,.box (.node [(.pv (I a0.Op)),(.node [(.pv (Sx v12.Name)),(.own 192)]),(.pv (Sx a0.Var)),(.own 9309)])),(17,.val (.pv (.sl false 5 (a0.Parts.map (ae false))))),(18,.val (.pv (I (a0.Parts.length:Int)))),(19,.val (.pv (I (i3:Int)))),(20000,gh 1)]) (fun i3 s3=>[(192,(2,v12.Args.map (am true))),(9309,(5,s3.2.map (ae true)))]) (aM (Sln_ (x:=(.node [(.pv (I a0.Op)),(.node [(.pv (Sx v12.Name)),(.own 192)]),(.pv (Sx a0.Var)),(.pv (.sl true 5 []))])) 5 [3] 9309 5 NM SC SC SC) (Slm_ SC)) (fun i3 s3 hi h=>?_) (fun s3 h=>?_)
 ·have w:=ws_ (i:=i3) (by omega)
  refine S ?_
  refine aD cs (by omega) (fun cs=>S ?_)
  obtain⟨v21,hv21,h⟩:=rb_ h
  refine ar (f:=(ae false)) hv21 SC (S ?_)
  obtain⟨v27,hv27,h⟩:=rb_ h
  refine HHc_ (r:=1) (hc:=.cv (.pv (B s3.1))) (pre:=[((ae false) v21)]) a1_pat a1_ps a1_p1 a1_p2 [(.pv ((ae false) v21))] [false] (a1_ok _ _ _ hv27) a1_sp a1_cz SC (S ?_)
  obtain⟨v29,hv29,h⟩:=rb_ h
  refine aO (f:=(ae true)) (fun a=>Ft.psize _ a) hv29 SC SC (S ?_)
  refine ag (DHa_ [] [432,433,448,464]) (S ?_)
  have h:=rs_ h
  refine aA ⟨_,h,?_⟩
  refine aM (Slm_1 (S:=[(1,.hold (.clo a1_id a1_pat) a1_ps (.cv (.pv (B v27.2)))),(4,.box (.node [(.pv (I 0)),(.node [(.pv (Sx ⟨#[]⟩)),(.pv (.sl true 2 []))]),(.pv (Sx ⟨#[]⟩)),(.pv (.sl true 5 []))])),(5,.box (.node [(.pv (I a0.Op)),(.node [(.pv (Sx v12.Name)),(.own 192)]),(.pv (Sx a0.Var)),(.own 464)])),(17,.val (.pv (.sl false 5 (a0.Parts.map (ae false))))),(18,.val (.pv (I (a0.Parts.length:Int)))),(19,.val (.pv (I (IntKind.i64.wrap ((i3:Int)+1))))),(20000,gh 1)]) (O:=[(192,(2,v12.Args.map (am true))),(464,(5,v29.map (ae true)))]) SW SW) ?_
  refine Slr_ 464 9309 (by decide) NM ?_
  exact Slm_ SW
 ·refine S ?_
  refine aE cs (by omega) (fun cs=>S ?_)
  cases rs_ h
  exact RetHB.l SC

end Go.Proofs.YtkoghcphkdecoaaGreat
