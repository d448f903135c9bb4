/- Lemmas of the proof; each says what it shows. -/
import Derived.Test.YtkoghcphkdecoaaGreatGw1
set_option linter.unusedSimpArgs false
set_option linter.unusedVariables false
set_option linter.defProp false
set_option maxRecDepth 4000
namespace Go.Proofs.YtkoghcphkdecoaaGreat
open Go.Av
open CallH renaming mk→ai
open CondH renaming run→aj
open FinH renaming l→ag
set_option maxHeartbeats 4000000
theorem FnExactWeakenDerivation_sat{a0:Dt}{a1:Ft}{a2:Bool}  {r:Bool}(h:FnExactWeakenDerivation a0 a1 a2=some r):Sat Tryz.prog 6 [((Dt.pv false) a0),((Ft.pv false) a1),(B a2)] (B r):=by
 obtain⟨h,cs⟩:=Ro_ h
 unfold FnExactWeakenDerivation at h
 refine Sat.of_m (nt:=124) (rs:=[.tmp 6]) (n:=100000) Tryz.func6 rfl rfl rfl rfl (by simp) (S ?_)
 obtain⟨v21,hv21,h⟩:=rb_ h
 refine ai [false,false] (sDs_ hv21) SC (S ?_)
 refine aj cs h (fun cs h=>S ?_) (fun cs h=>S ?_)
 ·cases rs_ h
  exact ag SC
 ·obtain⟨v26,hv26,h⟩:=rb_ h
  refine ai [false,false] (sFs_ hv26) SC (S ?_)
  refine aj cs h (fun cs h=>S ?_) (fun cs h=>S ?_)
  ·cases rs_ h
   exact ag SC
  ·obtain⟨v31,hv31,h⟩:=rb_ h
   refine ai [false] (tDs_ hv31) SC (S ?_)
   obtain⟨v33,hv33,h⟩:=rb_ h
   refine ai [false] (tFs_ hv33) SC (S ?_)
   obtain⟨v35,hv35,h⟩:=rb_ h
   refine ai [false,false,false] (sWD_1 hv35) SC (S ?_)
   refine And.intro (DHa_ [8] [496,497,498,499,500,501,528,529,560,561,562,563,564,565]) (S ?_)
   obtain⟨v39,hv39,h⟩:=rb_ h
   refine ai [false] (tDs_ hv39) SC (S ?_)
   obtain⟨v41,hv41,h⟩:=rb_ h
   refine ai [false] (tFs_ hv41) SC (S ?_)
   obtain⟨v46,hv46,h⟩:=rb_ h
   refine ai [false,false,false] (iWD_1 hv46) SC (S ?_)
   obtain⟨v51,hv51,h⟩:=rb_ h
   refine ai [false,false] (eDs_ hv51) SC (S ?_)
   refine aj cs h (fun cs h=>S ?_) (fun cs h=>S ?_)
   ·refine aj cs h (fun cs h=>S ?_) (fun cs h=>S ?_)
    ·obtain⟨v60,hv60,h⟩:=rb_ h
     refine ai [false] (tDs_ hv60) SC (S ?_)
     obtain⟨v61,hv61,h⟩:=rb_ h
     refine ai [false,false] (eDs_ hv61) SC (S ?_)
     refine And.intro (DHa_ [] [960,961,962,963,964,965]) (S ?_)
     refine aj cs h (fun cs h=>S ?_) (fun cs h=>S ?_)
     ·obtain⟨v65,hv65,h⟩:=rb_ h
      refine ai [false] (tFs_ hv65) SC (S ?_)
      obtain⟨v66,hv66,h⟩:=rb_ h
      refine ai [false,false] (eFs_ hv66) SC (S ?_)
      refine And.intro (DHa_ [] [1040,1041]) (S ?_)
      refine aj cs h (fun cs h=>S ?_) (fun cs h=>S ?_)
      ·obtain⟨v70,hv70,h⟩:=rb_ h
       refine CHi_ [(.node [(.pv (I v39.Rule)),(.node [(.own 624),(.own 625)]),(.pv (I v39.Main)),(.node [(.pv (Sx v39.Term.Name)),(.own 626)]),(.node [(.pv (I v39.Cut.Op)),(.node [(.pv (Sx v39.Cut.Atom.Name)),(.own 627)]),(.pv (Sx v39.Cut.Var)),(.own 628)]),(.own 629)]),(.pv (I 1))] [(624,(5,v70.2.1.map (Ft.pv true))),(625,(5,v70.2.2.1.map (Ft.pv true))),(626,(2,v70.2.2.2.1.map (Tt.pv true))),(627,(2,v70.2.2.2.2.1.map (Tt.pv true))),(628,(5,v70.2.2.2.2.2.1.map (Ft.pv true))),(629,(12,v70.2.2.2.2.2.2.map (Dt.pv true)))] (mDs_ hv70) SC (S ?_)
       obtain⟨v73,hv73,h⟩:=rb_ h
       refine CHi_ [(.node [(.pv (I v41.Op)),(.node [(.pv (Sx v41.Atom.Name)),(.own 656)]),(.pv (Sx v41.Var)),(.own 657)]),(.pv (I v70.1))] [(656,(2,v73.2.1.map (Tt.pv true))),(657,(5,v73.2.2.map (Ft.pv true)))] (mFs_ hv73) SC (S ?_)
       refine aj cs h (fun cs h=>S ?_) (fun cs h=>S ?_)
       ·cases rs_ h
        exact ag SC
       ·obtain⟨v79,hv79,h⟩:=rb_ h
        refine ai [false,false] (eDs_ hv79) SC (S ?_)
        refine aj cs h (fun cs h=>S ?_) (fun cs h=>S ?_)
        ·obtain⟨v89,hv89,h⟩:=rb_ h
         refine CHi_ [(.node [(.pv (I v46.1.Rule)),(.node [(.own 736),(.own 737)]),(.pv (I v46.1.Main)),(.node [(.pv (Sx v46.1.Term.Name)),(.own 738)]),(.node [(.pv (I v46.1.Cut.Op)),(.node [(.pv (Sx v46.1.Cut.Atom.Name)),(.own 739)]),(.pv (Sx v46.1.Cut.Var)),(.own 740)]),(.own 741)]),(.pv (I 1))] [(736,(5,v89.2.1.map (Ft.pv true))),(737,(5,v89.2.2.1.map (Ft.pv true))),(738,(2,v89.2.2.2.1.map (Tt.pv true))),(739,(2,v89.2.2.2.2.1.map (Tt.pv true))),(740,(5,v89.2.2.2.2.2.1.map (Ft.pv true))),(741,(12,v89.2.2.2.2.2.2.map (Dt.pv true)))] (mDs_ hv89) SC (S ?_)
         obtain⟨v92,hv92,h⟩:=rb_ h
         refine ai [false,false] (hDs_ hv92) SC (S ?_)
         refine aj cs h (fun cs h=>S ?_) (fun cs h=>S ?_)
         ·cases rs_ h
          exact ag SC
         ·refine aj cs h (fun cs h=>S ?_) (fun cs h=>S ?_)
          ·obtain⟨v100,hv100,h⟩:=rb_ h
           refine ai [false] (tDs_ hv100) SC (S ?_)
           obtain⟨v102,hv102,h⟩:=rb_ h
           refine ai [false] (tFs_ hv102) SC (S ?_)
           obtain⟨v104,hv104,h⟩:=rb_ h
           refine ai [false,false,false] (iWD_1 hv104) SC (S ?_)
           refine And.intro (DHa_ [17] [1600,1601,1602,1603,1604,1605,1632,1633,1664,1665,1666,1667,1668,1669]) (S ?_)
           obtain⟨v109,hv109,h⟩:=rb_ h
           refine ai [false,false] (eDs_ hv109) SC (S ?_)
           refine aj cs h (fun cs h=>S ?_) (fun cs h=>S ?_)
           ·refine aj cs h (fun cs h=>S ?_) (fun cs h=>S ?_)
            ·obtain⟨v118,hv118,h⟩:=rb_ h
             refine ai [false,false] (hDs_ hv118) SC (S ?_)
             refine aj cs h (fun cs h=>S ?_) (fun cs h=>S ?_)
             ·cases rs_ h
              exact ag SC
             ·refine aj cs h (fun cs h=>S ?_) (fun cs h=>S ?_)
              ·cases rs_ h
               exact ag SC
              ·cases rs_ h
               exact ag SC
            ·cases rs_ h
             exact ag SC
           ·cases rs_ h
            exact ag SC
          ·cases rs_ h
           exact ag SC
        ·cases rs_ h
         exact ag SC
      ·cases rs_ h
       exact ag SC
     ·cases rs_ h
      exact ag SC
    ·cases rs_ h
     exact ag SC
   ·cases rs_ h
    exact ag SC

end Go.Proofs.YtkoghcphkdecoaaGreat
