/- A part of the proof: lemmas only; nothing is claimed here beyond what each lemma says. -/
import Derived.Test.YtlgeocknlmbgeaaGreatGw1
set_option linter.unusedSimpArgs false
set_option linter.unusedVariables false
set_option linter.defProp false
set_option maxRecDepth 4000
namespace Go.Proofs.YtlgeocknlmbgeaaGreat
open Go.Av
open CallH renaming mk→aj
open CondH renaming run→ah
open FinH renaming l→ag
set_option maxHeartbeats 4000000
theorem FnExactReplaceInDerivation_sat{a0:Dt}{a1:ByteArray}{a2:Tt}  {r:Bool}(h:FnExactReplaceInDerivation a0 a1 a2=some r):Sat Tryz.prog 5 [((Dt.pv false) a0),(Sx a1),((Tt.pv false) a2)] (B r):=by
 obtain⟨h,cs⟩:=Ro_ h
 unfold FnExactReplaceInDerivation at h
 refine Sat.of_m (nt:=127) (rs:=[.tmp 6]) (n:=100000) Tryz.func5 rfl rfl rfl rfl (by simp) (S ?_)
 refine ah cs h (fun cs h=>S ?_) (fun cs h=>S ?_)
 ·cases rs_ h
  exact ag SC
 ·obtain⟨v24,hv24,h⟩:=rb_ h
  refine aj [false,false] (sDs_ hv24) SC (S ?_)
  refine ah cs h (fun cs h=>S ?_) (fun cs h=>S ?_)
  ·cases rs_ h
   exact ag SC
  ·obtain⟨v29,hv29,h⟩:=rb_ h
   refine aj [false,false] (sTs_ hv29) SC (S ?_)
   refine ah cs h (fun cs h=>S ?_) (fun cs h=>S ?_)
   ·cases rs_ h
    exact ag SC
   ·obtain⟨v34,hv34,h⟩:=rb_ h
    refine aj [false] (tDs_ hv34) SC (S ?_)
    obtain⟨v37,hv37,h⟩:=rb_ h
    refine aj [false] (tTs_ hv37) SC (S ?_)
    obtain⟨v38,hv38,h⟩:=rb_ h
    refine aj [false,false,false] (sRI_1 hv38) SC (S ?_)
    refine And.intro (DHa_ [8] [544,545,546,547,548,549,592,608,609,610,611,612,613]) (S ?_)
    obtain⟨v42,hv42,h⟩:=rb_ h
    refine aj [false] (tDs_ hv42) SC (S ?_)
    obtain⟨v44,hv44,h⟩:=rb_ h
    refine aj [false] (tTs_ hv44) SC (S ?_)
    obtain⟨v49,hv49,h⟩:=rb_ h
    refine aj [false,false,false] (iRI_1 hv49) SC (S ?_)
    obtain⟨v54,hv54,h⟩:=rb_ h
    refine aj [false,false] (eDs_ hv54) SC (S ?_)
    refine ah cs h (fun cs h=>S ?_) (fun cs h=>S ?_)
    ·refine ah cs h (fun cs h=>S ?_) (fun cs h=>S ?_)
     ·obtain⟨v63,hv63,h⟩:=rb_ h
      refine aj [false] (tDs_ hv63) SC (S ?_)
      obtain⟨v64,hv64,h⟩:=rb_ h
      refine aj [false,false] (eDs_ hv64) SC (S ?_)
      refine And.intro (DHa_ [] [1008,1009,1010,1011,1012,1013]) (S ?_)
      refine ah cs h (fun cs h=>S ?_) (fun cs h=>S ?_)
      ·obtain⟨v68,hv68,h⟩:=rb_ h
       refine aj [false] (tTs_ hv68) SC (S ?_)
       obtain⟨v69,hv69,h⟩:=rb_ h
       refine aj [false,false] (eTs_ hv69) SC (S ?_)
       refine And.intro (DHa_ [] [1088]) (S ?_)
       refine ah cs h (fun cs h=>S ?_) (fun cs h=>S ?_)
       ·obtain⟨v73,hv73,h⟩:=rb_ h
        refine CHi_ [(.node [(.pv (I v42.Rule)),(.node [(.own 672),(.own 673)]),(.pv (I v42.Main)),(.node [(.pv (Sx v42.Term.Name)),(.own 674)]),(.node [(.pv (I v42.Cut.Op)),(.node [(.pv (Sx v42.Cut.Atom.Name)),(.own 675)]),(.pv (Sx v42.Cut.Var)),(.own 676)]),(.own 677)]),(.pv (I (1:Int)))] [(672,(5,v73.2.1.map (Ft.pv true))),(673,(5,v73.2.2.1.map (Ft.pv true))),(674,(2,v73.2.2.2.1.map (Tt.pv true))),(675,(2,v73.2.2.2.2.1.map (Tt.pv true))),(676,(5,v73.2.2.2.2.2.1.map (Ft.pv true))),(677,(12,v73.2.2.2.2.2.2.map (Dt.pv true)))] (mDs_ hv73) SC (S ?_)
        obtain⟨v76,hv76,h⟩:=rb_ h
        refine CHi_ [(.node [(.pv (Sx v44.Name)),(.own 704)]),(.pv (I v73.1))] [(704,(2,v76.2.map (Tt.pv true)))] (mTs_1 hv76) SC (S ?_)
        refine ah cs h (fun cs h=>S ?_) (fun cs h=>S ?_)
        ·cases rs_ h
         exact ag SC
        ·obtain⟨v82,hv82,h⟩:=rb_ h
         refine aj [false,false] (eDs_ hv82) SC (S ?_)
         refine ah cs h (fun cs h=>S ?_) (fun cs h=>S ?_)
         ·obtain⟨v92,hv92,h⟩:=rb_ h
          refine CHi_ [(.node [(.pv (I v49.1.Rule)),(.node [(.own 784),(.own 785)]),(.pv (I v49.1.Main)),(.node [(.pv (Sx v49.1.Term.Name)),(.own 786)]),(.node [(.pv (I v49.1.Cut.Op)),(.node [(.pv (Sx v49.1.Cut.Atom.Name)),(.own 787)]),(.pv (Sx v49.1.Cut.Var)),(.own 788)]),(.own 789)]),(.pv (I (1:Int)))] [(784,(5,v92.2.1.map (Ft.pv true))),(785,(5,v92.2.2.1.map (Ft.pv true))),(786,(2,v92.2.2.2.1.map (Tt.pv true))),(787,(2,v92.2.2.2.2.1.map (Tt.pv true))),(788,(5,v92.2.2.2.2.2.1.map (Ft.pv true))),(789,(12,v92.2.2.2.2.2.2.map (Dt.pv true)))] (mDs_ hv92) SC (S ?_)
          obtain⟨v95,hv95,h⟩:=rb_ h
          refine aj [false,false] (hDs_ hv95) SC (S ?_)
          refine ah cs h (fun cs h=>S ?_) (fun cs h=>S ?_)
          ·cases rs_ h
           exact ag SC
          ·refine ah cs h (fun cs h=>S ?_) (fun cs h=>S ?_)
           ·obtain⟨v103,hv103,h⟩:=rb_ h
            refine aj [false] (tDs_ hv103) SC (S ?_)
            obtain⟨v106,hv106,h⟩:=rb_ h
            refine aj [false] (tTs_ hv106) SC (S ?_)
            obtain⟨v107,hv107,h⟩:=rb_ h
            refine aj [false,false,false] (iRI_1 hv107) SC (S ?_)
            refine And.intro (DHa_ [17] [1648,1649,1650,1651,1652,1653,1696,1712,1713,1714,1715,1716,1717]) (S ?_)
            obtain⟨v112,hv112,h⟩:=rb_ h
            refine aj [false,false] (eDs_ hv112) SC (S ?_)
            refine ah cs h (fun cs h=>S ?_) (fun cs h=>S ?_)
            ·refine ah cs h (fun cs h=>S ?_) (fun cs h=>S ?_)
             ·obtain⟨v121,hv121,h⟩:=rb_ h
              refine aj [false,false] (hDs_ hv121) SC (S ?_)
              refine ah cs h (fun cs h=>S ?_) (fun cs h=>S ?_)
              ·cases rs_ h
               exact ag SC
              ·refine ah cs h (fun cs h=>S ?_) (fun cs h=>S ?_)
               ·cases rs_ h
                exact ag SC
               ·cases rs_ h
                exact ag SC
             ·cases rs_ h
              exact ag SC
            ·cases rs_ h
             exact ag SC
           ·cases rs_ h
            exact ag SC
         ·cases rs_ h
          exact ag SC
       ·cases rs_ h
        exact ag SC
      ·cases rs_ h
       exact ag SC
     ·cases rs_ h
      exact ag SC
    ·cases rs_ h
     exact ag SC

end Go.Proofs.YtlgeocknlmbgeaaGreat
