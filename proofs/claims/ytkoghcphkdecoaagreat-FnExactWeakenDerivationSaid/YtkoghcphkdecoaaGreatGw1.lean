/- Lemmas of the proof; each says what it shows. -/
import Derived.Test.YtkoghcphkdecoaaGreatGw0
set_option linter.unusedSimpArgs false
set_option linter.unusedVariables false
set_option linter.defProp false
set_option maxRecDepth 4000
namespace Go.Proofs.YtkoghcphkdecoaaGreat
open Go.Av
open And renaming intro→ae
open AppH renaming mk→aS
open CallH renaming mk→ai
open CondH renaming run→aj,t2→aI,f2→aJ
open Dt renaming pv→aq
open EldH renaming mk→bt
open FinH renaming l→ag,r→aR
open Ft renaming pv→ak
open IdxH renaming mk→au
open List renaming length_map→aD
open Mg renaming know_sl→aO,forN→aK
open PV renaming views→aG
open RdH renaming mk→aB
open Sa renaming pv→aM
open Sat renaming of_m→av
open St renaming le_trans→aU
open Tryz renaming prog→ah
open Tt renaming pv→am
open VSeq renaming step→ar,nil→aW
set_option maxHeartbeats 4000000
theorem ihF_2(n:Nat):(∀ (a0:Ft) (r:Bool),ihF_1 n a0=some r→Sat ah 110 [((ak false) a0)] (B r))∧(∀ (a0:Ft) (r:Bool),ihF_ n a0=some r→Sat ah 139 [((ak false) a0)] (B r)):=by
 induction n with
 | zero=>exact⟨fun _ _ h=>by simp[ihF_1] at h,fun _ _ h=>by simp[ihF_] at h⟩
 | succ n ih=>
  refine⟨fun a0 r h=>?_,fun a0 r h=>?_⟩
  ·obtain⟨h,cs⟩:=Ro_ h
   rw[ihF_1] at h
   refine av (nt:=76) (rs:=[.tmp 2]) (n:=100000) Tryz.func110 rfl rfl rfl rfl (by simp) (S ?_)
   refine aj cs h (fun cs h=>S ?_) (fun cs h=>S ?_)
   ·refine aj cs h (fun cs h=>S ?_) (fun cs h=>S ?_)
    ·obtain⟨v33,hv33,h⟩:=rb_ h
     refine ai [false] (iiQ_ hv33) SC (S ?_)
     refine aj cs h (fun cs h=>S ?_) (fun cs h=>S ?_)
     ·obtain⟨v37,hv37,h⟩:=rb_ h
      refine ai [false] (iiV_1 hv37) SC (S ?_)
      refine aj cs h (fun cs h=>S ?_) (fun cs h=>S ?_)
      ·obtain⟨v44,hv44,h⟩:=rb_ h
       refine ai [false] (iiQ_ hv44) SC (S ?_)
       refine aj cs h (fun cs h=>S ?_) (fun cs h=>S ?_)
       ·refine aj cs h (fun cs h=>S ?_) (fun cs h=>S ?_)
        ·obtain⟨v58,hv58,h⟩:=rb_ h
         refine ai [false] (iIV_1 hv58) SC (S ?_)
         refine aj cs h (fun cs h=>S ?_) (fun cs h=>S ?_)
         ·obtain⟨v74,hv74,h⟩:=rb_ h
          refine ai [false,false] (sCF_1 (fun _ _ hh=>ih.2 _ _ hh) (by simp only[COn_,COc_]) hv74) SC (S ?_)
          cases rs_ h
          exact ag SC
         ·cases rs_ h
          exact ag SC
        ·obtain⟨v68,hv68,h⟩:=rb_ h
         refine ai [false] (iiZ_ hv68) SC (S ?_)
         refine aj cs h (fun cs h=>S ?_) (fun cs h=>S ?_)
         ·obtain⟨v74,hv74,h⟩:=rb_ h
          refine ai [false,false] (sCF_1 (fun _ _ hh=>ih.2 _ _ hh) (by simp only[COn_,COc_]) hv74) SC (S ?_)
          cases rs_ h
          exact ag SC
         ·cases rs_ h
          exact ag SC
       ·refine aj cs h (fun cs h=>S ?_) (fun cs h=>S ?_)
        ·refine aj cs h (fun cs h=>S ?_) (fun cs h=>S ?_)
         ·obtain⟨v58,hv58,h⟩:=rb_ h
          refine ai [false] (iIV_1 hv58) SC (S ?_)
          refine aj cs h (fun cs h=>S ?_) (fun cs h=>S ?_)
          ·obtain⟨v74,hv74,h⟩:=rb_ h
           refine ai [false,false] (sCF_1 (fun _ _ hh=>ih.2 _ _ hh) (by simp only[COn_,COc_]) hv74) SC (S ?_)
           cases rs_ h
           exact ag SC
          ·cases rs_ h
           exact ag SC
         ·obtain⟨v68,hv68,h⟩:=rb_ h
          refine ai [false] (iiZ_ hv68) SC (S ?_)
          refine aj cs h (fun cs h=>S ?_) (fun cs h=>S ?_)
          ·obtain⟨v74,hv74,h⟩:=rb_ h
           refine ai [false,false] (sCF_1 (fun _ _ hh=>ih.2 _ _ hh) (by simp only[COn_,COc_]) hv74) SC (S ?_)
           cases rs_ h
           exact ag SC
          ·cases rs_ h
           exact ag SC
        ·cases rs_ h
         exact ag SC
      ·cases rs_ h
       exact ag SC
     ·obtain⟨v44,hv44,h⟩:=rb_ h
      refine ai [false] (iiQ_ hv44) SC (S ?_)
      refine aj cs h (fun cs h=>S ?_) (fun cs h=>S ?_)
      ·refine aj cs h (fun cs h=>S ?_) (fun cs h=>S ?_)
       ·obtain⟨v58,hv58,h⟩:=rb_ h
        refine ai [false] (iIV_1 hv58) SC (S ?_)
        refine aj cs h (fun cs h=>S ?_) (fun cs h=>S ?_)
        ·obtain⟨v74,hv74,h⟩:=rb_ h
         refine ai [false,false] (sCF_1 (fun _ _ hh=>ih.2 _ _ hh) (by simp only[COn_,COc_]) hv74) SC (S ?_)
         cases rs_ h
         exact ag SC
        ·cases rs_ h
         exact ag SC
       ·obtain⟨v68,hv68,h⟩:=rb_ h
        refine ai [false] (iiZ_ hv68) SC (S ?_)
        refine aj cs h (fun cs h=>S ?_) (fun cs h=>S ?_)
        ·obtain⟨v74,hv74,h⟩:=rb_ h
         refine ai [false,false] (sCF_1 (fun _ _ hh=>ih.2 _ _ hh) (by simp only[COn_,COc_]) hv74) SC (S ?_)
         cases rs_ h
         exact ag SC
        ·cases rs_ h
         exact ag SC
      ·refine aj cs h (fun cs h=>S ?_) (fun cs h=>S ?_)
       ·refine aj cs h (fun cs h=>S ?_) (fun cs h=>S ?_)
        ·obtain⟨v58,hv58,h⟩:=rb_ h
         refine ai [false] (iIV_1 hv58) SC (S ?_)
         refine aj cs h (fun cs h=>S ?_) (fun cs h=>S ?_)
         ·obtain⟨v74,hv74,h⟩:=rb_ h
          refine ai [false,false] (sCF_1 (fun _ _ hh=>ih.2 _ _ hh) (by simp only[COn_,COc_]) hv74) SC (S ?_)
          cases rs_ h
          exact ag SC
         ·cases rs_ h
          exact ag SC
        ·obtain⟨v68,hv68,h⟩:=rb_ h
         refine ai [false] (iiZ_ hv68) SC (S ?_)
         refine aj cs h (fun cs h=>S ?_) (fun cs h=>S ?_)
         ·obtain⟨v74,hv74,h⟩:=rb_ h
          refine ai [false,false] (sCF_1 (fun _ _ hh=>ih.2 _ _ hh) (by simp only[COn_,COc_]) hv74) SC (S ?_)
          cases rs_ h
          exact ag SC
         ·cases rs_ h
          exact ag SC
       ·cases rs_ h
        exact ag SC
    ·cases rs_ h
     exact ag SC
   ·refine aj cs h (fun cs h=>S ?_) (fun cs h=>S ?_)
    ·refine aj cs h (fun cs h=>S ?_) (fun cs h=>S ?_)
     ·obtain⟨v33,hv33,h⟩:=rb_ h
      refine ai [false] (iiQ_ hv33) SC (S ?_)
      refine aj cs h (fun cs h=>S ?_) (fun cs h=>S ?_)
      ·obtain⟨v37,hv37,h⟩:=rb_ h
       refine ai [false] (iiV_1 hv37) SC (S ?_)
       refine aj cs h (fun cs h=>S ?_) (fun cs h=>S ?_)
       ·obtain⟨v44,hv44,h⟩:=rb_ h
        refine ai [false] (iiQ_ hv44) SC (S ?_)
        refine aj cs h (fun cs h=>S ?_) (fun cs h=>S ?_)
        ·refine aj cs h (fun cs h=>S ?_) (fun cs h=>S ?_)
         ·obtain⟨v58,hv58,h⟩:=rb_ h
          refine ai [false] (iIV_1 hv58) SC (S ?_)
          refine aj cs h (fun cs h=>S ?_) (fun cs h=>S ?_)
          ·obtain⟨v74,hv74,h⟩:=rb_ h
           refine ai [false,false] (sCF_1 (fun _ _ hh=>ih.2 _ _ hh) (by simp only[COn_,COc_]) hv74) SC (S ?_)
           cases rs_ h
           exact ag SC
          ·cases rs_ h
           exact ag SC
         ·obtain⟨v68,hv68,h⟩:=rb_ h
          refine ai [false] (iiZ_ hv68) SC (S ?_)
          refine aj cs h (fun cs h=>S ?_) (fun cs h=>S ?_)
          ·obtain⟨v74,hv74,h⟩:=rb_ h
           refine ai [false,false] (sCF_1 (fun _ _ hh=>ih.2 _ _ hh) (by simp only[COn_,COc_]) hv74) SC (S ?_)
           cases rs_ h
           exact ag SC
          ·cases rs_ h
           exact ag SC
        ·refine aj cs h (fun cs h=>S ?_) (fun cs h=>S ?_)
         ·refine aj cs h (fun cs h=>S ?_) (fun cs h=>S ?_)
          ·obtain⟨v58,hv58,h⟩:=rb_ h
           refine ai [false] (iIV_1 hv58) SC (S ?_)
           refine aj cs h (fun cs h=>S ?_) (fun cs h=>S ?_)
           ·obtain⟨v74,hv74,h⟩:=rb_ h
            refine ai [false,false] (sCF_1 (fun _ _ hh=>ih.2 _ _ hh) (by simp only[COn_,COc_]) hv74) SC (S ?_)
            cases rs_ h
            exact ag SC
           ·cases rs_ h
            exact ag SC
          ·obtain⟨v68,hv68,h⟩:=rb_ h
           refine ai [false] (iiZ_ hv68) SC (S ?_)
           refine aj cs h (fun cs h=>S ?_) (fun cs h=>S ?_)
           ·obtain⟨v74,hv74,h⟩:=rb_ h
            refine ai [false,false] (sCF_1 (fun _ _ hh=>ih.2 _ _ hh) (by simp only[COn_,COc_]) hv74) SC (S ?_)
            cases rs_ h
            exact ag SC
           ·cases rs_ h
            exact ag SC
         ·cases rs_ h
          exact ag SC
       ·cases rs_ h
        exact ag SC
      ·obtain⟨v44,hv44,h⟩:=rb_ h
       refine ai [false] (iiQ_ hv44) SC (S ?_)
       refine aj cs h (fun cs h=>S ?_) (fun cs h=>S ?_)
       ·refine aj cs h (fun cs h=>S ?_) (fun cs h=>S ?_)
        ·obtain⟨v58,hv58,h⟩:=rb_ h
         refine ai [false] (iIV_1 hv58) SC (S ?_)
         refine aj cs h (fun cs h=>S ?_) (fun cs h=>S ?_)
         ·obtain⟨v74,hv74,h⟩:=rb_ h
          refine ai [false,false] (sCF_1 (fun _ _ hh=>ih.2 _ _ hh) (by simp only[COn_,COc_]) hv74) SC (S ?_)
          cases rs_ h
          exact ag SC
         ·cases rs_ h
          exact ag SC
        ·obtain⟨v68,hv68,h⟩:=rb_ h
         refine ai [false] (iiZ_ hv68) SC (S ?_)
         refine aj cs h (fun cs h=>S ?_) (fun cs h=>S ?_)
         ·obtain⟨v74,hv74,h⟩:=rb_ h
          refine ai [false,false] (sCF_1 (fun _ _ hh=>ih.2 _ _ hh) (by simp only[COn_,COc_]) hv74) SC (S ?_)
          cases rs_ h
          exact ag SC
         ·cases rs_ h
          exact ag SC
       ·refine aj cs h (fun cs h=>S ?_) (fun cs h=>S ?_)
        ·refine aj cs h (fun cs h=>S ?_) (fun cs h=>S ?_)
         ·obtain⟨v58,hv58,h⟩:=rb_ h
          refine ai [false] (iIV_1 hv58) SC (S ?_)
          refine aj cs h (fun cs h=>S ?_) (fun cs h=>S ?_)
          ·obtain⟨v74,hv74,h⟩:=rb_ h
           refine ai [false,false] (sCF_1 (fun _ _ hh=>ih.2 _ _ hh) (by simp only[COn_,COc_]) hv74) SC (S ?_)
           cases rs_ h
           exact ag SC
          ·cases rs_ h
           exact ag SC
         ·obtain⟨v68,hv68,h⟩:=rb_ h
          refine ai [false] (iiZ_ hv68) SC (S ?_)
          refine aj cs h (fun cs h=>S ?_) (fun cs h=>S ?_)
          ·obtain⟨v74,hv74,h⟩:=rb_ h
           refine ai [false,false] (sCF_1 (fun _ _ hh=>ih.2 _ _ hh) (by simp only[COn_,COc_]) hv74) SC (S ?_)
           cases rs_ h
           exact ag SC
          ·cases rs_ h
           exact ag SC
        ·cases rs_ h
         exact ag SC
     ·cases rs_ h
      exact ag SC
    ·refine aj cs h (fun cs h=>S ?_) (fun cs h=>S ?_)
     ·refine aj cs h (fun cs h=>S ?_) (fun cs h=>S ?_)
      ·obtain⟨v33,hv33,h⟩:=rb_ h
       refine ai [false] (iiQ_ hv33) SC (S ?_)
       refine aj cs h (fun cs h=>S ?_) (fun cs h=>S ?_)
       ·obtain⟨v37,hv37,h⟩:=rb_ h
        refine ai [false] (iiV_1 hv37) SC (S ?_)
        refine aj cs h (fun cs h=>S ?_) (fun cs h=>S ?_)
        ·obtain⟨v44,hv44,h⟩:=rb_ h
         refine ai [false] (iiQ_ hv44) SC (S ?_)
         refine aj cs h (fun cs h=>S ?_) (fun cs h=>S ?_)
         ·obtain⟨v58,hv58,h⟩:=rb_ h
          refine ai [false] (iIV_1 hv58) SC (S ?_)
          refine aj cs h (fun cs h=>S ?_) (fun cs h=>S ?_)
          ·obtain⟨v74,hv74,h⟩:=rb_ h
           refine ai [false,false] (sCF_1 (fun _ _ hh=>ih.2 _ _ hh) (by simp only[COn_,COc_]) hv74) SC (S ?_)
           cases rs_ h
           exact ag SC
          ·cases rs_ h
           exact ag SC
         ·refine aj cs h (fun cs h=>S ?_) (fun cs h=>S ?_)
          ·obtain⟨v58,hv58,h⟩:=rb_ h
           refine ai [false] (iIV_1 hv58) SC (S ?_)
           refine aj cs h (fun cs h=>S ?_) (fun cs h=>S ?_)
           ·obtain⟨v74,hv74,h⟩:=rb_ h
            refine ai [false,false] (sCF_1 (fun _ _ hh=>ih.2 _ _ hh) (by simp only[COn_,COc_]) hv74) SC (S ?_)
            cases rs_ h
            exact ag SC
           ·cases rs_ h
            exact ag SC
          ·cases rs_ h
           exact ag SC
        ·cases rs_ h
         exact ag SC
       ·obtain⟨v44,hv44,h⟩:=rb_ h
        refine ai [false] (iiQ_ hv44) SC (S ?_)
        refine aj cs h (fun cs h=>S ?_) (fun cs h=>S ?_)
        ·obtain⟨v58,hv58,h⟩:=rb_ h
         refine ai [false] (iIV_1 hv58) SC (S ?_)
         refine aj cs h (fun cs h=>S ?_) (fun cs h=>S ?_)
         ·obtain⟨v74,hv74,h⟩:=rb_ h
          refine ai [false,false] (sCF_1 (fun _ _ hh=>ih.2 _ _ hh) (by simp only[COn_,COc_]) hv74) SC (S ?_)
          cases rs_ h
          exact ag SC
         ·cases rs_ h
          exact ag SC
        ·refine aj cs h (fun cs h=>S ?_) (fun cs h=>S ?_)
         ·obtain⟨v58,hv58,h⟩:=rb_ h
          refine ai [false] (iIV_1 hv58) SC (S ?_)
          refine aj cs h (fun cs h=>S ?_) (fun cs h=>S ?_)
          ·obtain⟨v74,hv74,h⟩:=rb_ h
           refine ai [false,false] (sCF_1 (fun _ _ hh=>ih.2 _ _ hh) (by simp only[COn_,COc_]) hv74) SC (S ?_)
           cases rs_ h
           exact ag SC
          ·cases rs_ h
           exact ag SC
         ·cases rs_ h
          exact ag SC
      ·cases rs_ h
       exact ag SC
     ·refine aj cs h (fun cs h=>S ?_) (fun cs h=>S ?_)
      ·refine aj cs h (fun cs h=>S ?_) (fun cs h=>S ?_)
       ·obtain⟨v33,hv33,h⟩:=rb_ h
        refine ai [false] (iiQ_ hv33) SC (S ?_)
        refine aj cs h (fun cs h=>S ?_) (fun cs h=>S ?_)
        ·obtain⟨v37,hv37,h⟩:=rb_ h
         refine ai [false] (iiV_1 hv37) SC (S ?_)
         refine aj cs h (fun cs h=>S ?_) (fun cs h=>S ?_)
         ·obtain⟨v44,hv44,h⟩:=rb_ h
          refine ai [false] (iiQ_ hv44) SC (S ?_)
          refine aj cs h (fun cs h=>S ?_) (fun cs h=>S ?_)
          ·obtain⟨v68,hv68,h⟩:=rb_ h
           refine ai [false] (iiZ_ hv68) SC (S ?_)
           refine aj cs h (fun cs h=>S ?_) (fun cs h=>S ?_)
           ·obtain⟨v74,hv74,h⟩:=rb_ h
            refine ai [false,false] (sCF_1 (fun _ _ hh=>ih.2 _ _ hh) (by simp only[COn_,COc_]) hv74) SC (S ?_)
            cases rs_ h
            exact ag SC
           ·cases rs_ h
            exact ag SC
          ·refine aj cs h (fun cs h=>S ?_) (fun cs h=>S ?_)
           ·obtain⟨v68,hv68,h⟩:=rb_ h
            refine ai [false] (iiZ_ hv68) SC (S ?_)
            refine aj cs h (fun cs h=>S ?_) (fun cs h=>S ?_)
            ·obtain⟨v74,hv74,h⟩:=rb_ h
             refine ai [false,false] (sCF_1 (fun _ _ hh=>ih.2 _ _ hh) (by simp only[COn_,COc_]) hv74) SC (S ?_)
             cases rs_ h
             exact ag SC
            ·cases rs_ h
             exact ag SC
           ·cases rs_ h
            exact ag SC
         ·cases rs_ h
          exact ag SC
        ·obtain⟨v44,hv44,h⟩:=rb_ h
         refine ai [false] (iiQ_ hv44) SC (S ?_)
         refine aj cs h (fun cs h=>S ?_) (fun cs h=>S ?_)
         ·obtain⟨v68,hv68,h⟩:=rb_ h
          refine ai [false] (iiZ_ hv68) SC (S ?_)
          refine aj cs h (fun cs h=>S ?_) (fun cs h=>S ?_)
          ·obtain⟨v74,hv74,h⟩:=rb_ h
           refine ai [false,false] (sCF_1 (fun _ _ hh=>ih.2 _ _ hh) (by simp only[COn_,COc_]) hv74) SC (S ?_)
           cases rs_ h
           exact ag SC
          ·cases rs_ h
           exact ag SC
         ·refine aj cs h (fun cs h=>S ?_) (fun cs h=>S ?_)
          ·obtain⟨v68,hv68,h⟩:=rb_ h
           refine ai [false] (iiZ_ hv68) SC (S ?_)
           refine aj cs h (fun cs h=>S ?_) (fun cs h=>S ?_)
           ·obtain⟨v74,hv74,h⟩:=rb_ h
            refine ai [false,false] (sCF_1 (fun _ _ hh=>ih.2 _ _ hh) (by simp only[COn_,COc_]) hv74) SC (S ?_)
            cases rs_ h
            exact ag SC
           ·cases rs_ h
            exact ag SC
          ·cases rs_ h
           exact ag SC
       ·cases rs_ h
        exact ag SC
      ·obtain⟨v20,hv20,h⟩:=rb_ h
       refine ai [false] (iiQ_ hv20) SC (S ?_)
       refine aj cs h (fun cs h=>S ?_) (fun cs h=>S ?_)
       ·refine aj cs h (fun cs h=>S ?_) (fun cs h=>S ?_)
        ·obtain⟨v33,hv33,h⟩:=rb_ h
         refine ai [false] (iiQ_ hv33) SC (S ?_)
         refine aj cs h (fun cs h=>S ?_) (fun cs h=>S ?_)
         ·obtain⟨v37,hv37,h⟩:=rb_ h
          refine ai [false] (iiV_1 hv37) SC (S ?_)
          refine aj cs h (fun cs h=>S ?_) (fun cs h=>S ?_)
          ·obtain⟨v44,hv44,h⟩:=rb_ h
           refine ai [false] (iiQ_ hv44) SC (S ?_)
           refine aj cs h (fun cs h=>S ?_) (fun cs h=>S ?_)
           ·obtain⟨v68,hv68,h⟩:=rb_ h
            refine ai [false] (iiZ_ hv68) SC (S ?_)
            refine aj cs h (fun cs h=>S ?_) (fun cs h=>S ?_)
            ·obtain⟨v74,hv74,h⟩:=rb_ h
             refine ai [false,false] (sCF_1 (fun _ _ hh=>ih.2 _ _ hh) (by simp only[COn_,COc_]) hv74) SC (S ?_)
             cases rs_ h
             exact ag SC
            ·cases rs_ h
             exact ag SC
           ·refine aj cs h (fun cs h=>S ?_) (fun cs h=>S ?_)
            ·obtain⟨v68,hv68,h⟩:=rb_ h
             refine ai [false] (iiZ_ hv68) SC (S ?_)
             refine aj cs h (fun cs h=>S ?_) (fun cs h=>S ?_)
             ·obtain⟨v74,hv74,h⟩:=rb_ h
              refine ai [false,false] (sCF_1 (fun _ _ hh=>ih.2 _ _ hh) (by simp only[COn_,COc_]) hv74) SC (S ?_)
              cases rs_ h
              exact ag SC
             ·cases rs_ h
              exact ag SC
            ·cases rs_ h
             exact ag SC
          ·cases rs_ h
           exact ag SC
         ·obtain⟨v44,hv44,h⟩:=rb_ h
          refine ai [false] (iiQ_ hv44) SC (S ?_)
          refine aj cs h (fun cs h=>S ?_) (fun cs h=>S ?_)
          ·obtain⟨v68,hv68,h⟩:=rb_ h
           refine ai [false] (iiZ_ hv68) SC (S ?_)
           refine aj cs h (fun cs h=>S ?_) (fun cs h=>S ?_)
           ·obtain⟨v74,hv74,h⟩:=rb_ h
            refine ai [false,false] (sCF_1 (fun _ _ hh=>ih.2 _ _ hh) (by simp only[COn_,COc_]) hv74) SC (S ?_)
            cases rs_ h
            exact ag SC
           ·cases rs_ h
            exact ag SC
          ·refine aj cs h (fun cs h=>S ?_) (fun cs h=>S ?_)
           ·obtain⟨v68,hv68,h⟩:=rb_ h
            refine ai [false] (iiZ_ hv68) SC (S ?_)
            refine aj cs h (fun cs h=>S ?_) (fun cs h=>S ?_)
            ·obtain⟨v74,hv74,h⟩:=rb_ h
             refine ai [false,false] (sCF_1 (fun _ _ hh=>ih.2 _ _ hh) (by simp only[COn_,COc_]) hv74) SC (S ?_)
             cases rs_ h
             exact ag SC
            ·cases rs_ h
             exact ag SC
           ·cases rs_ h
            exact ag SC
        ·cases rs_ h
         exact ag SC
       ·obtain⟨v24,hv24,h⟩:=rb_ h
        refine ai [false] (iiB_1 hv24) SC (S ?_)
        refine aj cs h (fun cs h=>S ?_) (fun cs h=>S ?_)
        ·refine aj cs h (fun cs h=>S ?_) (fun cs h=>S ?_)
         ·obtain⟨v33,hv33,h⟩:=rb_ h
          refine ai [false] (iiQ_ hv33) SC (S ?_)
          refine aj cs h (fun cs h=>S ?_) (fun cs h=>S ?_)
          ·obtain⟨v37,hv37,h⟩:=rb_ h
           refine ai [false] (iiV_1 hv37) SC (S ?_)
           refine aj cs h (fun cs h=>S ?_) (fun cs h=>S ?_)
           ·obtain⟨v44,hv44,h⟩:=rb_ h
            refine ai [false] (iiQ_ hv44) SC (S ?_)
            refine aj cs h (fun cs h=>S ?_) (fun cs h=>S ?_)
            ·obtain⟨v68,hv68,h⟩:=rb_ h
             refine ai [false] (iiZ_ hv68) SC (S ?_)
             refine aj cs h (fun cs h=>S ?_) (fun cs h=>S ?_)
             ·obtain⟨v74,hv74,h⟩:=rb_ h
              refine ai [false,false] (sCF_1 (fun _ _ hh=>ih.2 _ _ hh) (by simp only[COn_,COc_]) hv74) SC (S ?_)
              cases rs_ h
              exact ag SC
             ·cases rs_ h
              exact ag SC
            ·refine aj cs h (fun cs h=>S ?_) (fun cs h=>S ?_)
             ·obtain⟨v68,hv68,h⟩:=rb_ h
              refine ai [false] (iiZ_ hv68) SC (S ?_)
              refine aj cs h (fun cs h=>S ?_) (fun cs h=>S ?_)
              ·obtain⟨v74,hv74,h⟩:=rb_ h
               refine ai [false,false] (sCF_1 (fun _ _ hh=>ih.2 _ _ hh) (by simp only[COn_,COc_]) hv74) SC (S ?_)
               cases rs_ h
               exact ag SC
              ·cases rs_ h
               exact ag SC
             ·cases rs_ h
              exact ag SC
           ·cases rs_ h
            exact ag SC
          ·obtain⟨v44,hv44,h⟩:=rb_ h
           refine ai [false] (iiQ_ hv44) SC (S ?_)
           refine aj cs h (fun cs h=>S ?_) (fun cs h=>S ?_)
           ·obtain⟨v68,hv68,h⟩:=rb_ h
            refine ai [false] (iiZ_ hv68) SC (S ?_)
            refine aj cs h (fun cs h=>S ?_) (fun cs h=>S ?_)
            ·obtain⟨v74,hv74,h⟩:=rb_ h
             refine ai [false,false] (sCF_1 (fun _ _ hh=>ih.2 _ _ hh) (by simp only[COn_,COc_]) hv74) SC (S ?_)
             cases rs_ h
             exact ag SC
            ·cases rs_ h
             exact ag SC
           ·refine aj cs h (fun cs h=>S ?_) (fun cs h=>S ?_)
            ·obtain⟨v68,hv68,h⟩:=rb_ h
             refine ai [false] (iiZ_ hv68) SC (S ?_)
             refine aj cs h (fun cs h=>S ?_) (fun cs h=>S ?_)
             ·obtain⟨v74,hv74,h⟩:=rb_ h
              refine ai [false,false] (sCF_1 (fun _ _ hh=>ih.2 _ _ hh) (by simp only[COn_,COc_]) hv74) SC (S ?_)
              cases rs_ h
              exact ag SC
             ·cases rs_ h
              exact ag SC
            ·cases rs_ h
             exact ag SC
         ·cases rs_ h
          exact ag SC
        ·cases rs_ h
         exact ag SC
  ·obtain⟨h,cs⟩:=Ro_ h
   rw[ihF_] at h
   refine av (nt:=6) (rs:=[.tmp 2]) (n:=100000) Tryz.func139 rfl rfl rfl rfl (by simp) (S ?_)
   obtain⟨v4,hv4,h⟩:=rb_ h
   refine ai [false] (ih.1 _ _ hv4) SC (S ?_)
   cases rs_ h
   exact ag SC
theorem ihF_4{a0:Ft}{r:Bool}(h:ihF_3 a0=some r):Sat ah 110 [((ak false) a0)] (B r):=by
 obtain⟨n,hn⟩:=ls_ h
 exact(ihF_2 n).1 _ _ hn
theorem ihF_6{a0:Ft}{r:Bool}(h:ihF_5 a0=some r):Sat ah 139 [((ak false) a0)] (B r):=by
 obtain⟨n,hn⟩:=ls_ h
 exact(ihF_2 n).2 _ _ hn

theorem iIV_4{a0:Ft}  {r:Bool}(h:iIV_2 a0=some r):Sat ah 73 [((ak false) a0)] (B r):=by
 obtain⟨h,cs⟩:=Ro_ h
 unfold iIV_2 at h
 refine av (nt:=10) (rs:=[.tmp 2]) (n:=100000) Tryz.func73 rfl rfl rfl rfl (by simp) (S ?_)
 obtain⟨v4,hv4,h⟩:=rb_ h
 refine ai [false] (isO_3 hv4) SC (S ?_)
 refine aj cs h (fun cs h=>S ?_) (fun cs h=>S ?_)
 ·obtain⟨v8,hv8,h⟩:=rb_ h
  refine ai [false] (ihF_4 hv8) SC (S ?_)
  cases rs_ h
  exact ag SC
 ·cases rs_ h
  exact ag SC

theorem iIV_9{a0:Ft}  {r:Bool}(h:iIV_6 a0=some r):Sat ah 131 [((ak false) a0)] (B r):=by
 obtain⟨h,cs⟩:=Ro_ h
 unfold iIV_6 at h
 refine av (nt:=6) (rs:=[.tmp 2]) (n:=100000) Tryz.func131 rfl rfl rfl rfl (by simp) (S ?_)
 obtain⟨v4,hv4,h⟩:=rb_ h
 refine ai [false] (iIV_4 hv4) SC (S ?_)
 cases rs_ h
 exact ag SC

theorem iIV_10{a0:Sa}  {r:Bool}(h:iIV_5 a0=some r):Sat ah 101 [((aM false) a0)] (B r):=by
 obtain⟨h,cs⟩:=Ro_ h
 unfold iIV_5 at h
 refine av (nt:=28) (rs:=[.tmp 2]) (n:=100000) Tryz.func101 rfl rfl rfl rfl (by simp) (S ?_)
 refine aj cs h (fun cs h=>S ?_) (fun cs h=>S ?_)
 ·refine aj cs h (fun cs h=>S ?_) (fun cs h=>S ?_)
  ·obtain⟨v18,hv18,h⟩:=rb_ h
   refine ai [false,false] (sCF_1 (fun _ _ hh=>iIV_9 hh) (by simp only[COn_,COc_]) hv18) SC (S ?_)
   refine aj cs h (fun cs h=>S ?_) (fun cs h=>S ?_)
   ·cases rs_ h
    exact ag SC
   ·obtain⟨v25,hv25,h⟩:=rb_ h
    refine ai [false,false] (sCF_1 (fun _ _ hh=>iIV_9 hh) (by simp only[COn_,COc_]) hv25) SC (S ?_)
    cases rs_ h
    exact ag SC
  ·cases rs_ h
   exact ag SC
 ·cases rs_ h
  exact ag SC

theorem sEF_5{a0:List Tt}{a1:List Tt}{a2:Tt→Tt→Option Bool}{a2_id:FuncId}{a2_cs:List PV}(a2_ok:∀ y0 y1 r,a2 y0 y1=some r→Sat ah a2_id (((am false) y0)::((am false) y1)::a2_cs) (B r))(a2_cz:CO_ a2_cs=True){r:Bool}(h:sEF_2 a0 a1 a2=some r):Sat ah 169 [(.sl false 2 (a0.map (am false))),(.sl false 2 (a1.map (am false))),.clo a2_id a2_cs] (B r):=by
 obtain⟨h,cs⟩:=Ro_ h
 unfold sEF_2 at h
 have cs:=ae a2_cz cs
 refine av (nt:=32) (rs:=[.tmp 6]) (n:=100000) Tryz.func169 rfl rfl rfl rfl (by simp) (S ?_)
 refine aj cs h (fun cs h=>S ?_) (fun cs h=>S ?_)
 ·refine aO (b:=false) (sz:=2) (es:=a0.map (am false)) 0 SC fun hl0=>?_; rw[aD] at hl0
  replace h:=rl_ h
  refine aK h (fun i4 s4=>[(1,.val (.pv (.sl false 2 (a1.map (am false))))),(2,.val (.pv (.clo a2_id a2_cs))),(15,.val (.pv (.sl false 2 (a0.map (am false))))),(16,.val (.pv (I (a0.length:Int)))),(17,.val (.pv (I (i4:Int))))]) (fun i4 s4=>[]) (Slm_ SC) (fun i4 s4 hi h=>?_) (fun s4 h=>?_)
  ·have w:=ws_ (i:=i4) (by omega)
   refine S ?_
   refine aI cs (by omega) (fun cs=>S ?_)
   obtain⟨v20,hv20,h⟩:=rb_ h
   refine au (f:=(am false)) hv20 SC (S ?_)
   obtain⟨v24,hv24,h⟩:=rb_ h
   refine au (f:=(am false)) hv24 SC (S ?_)
   obtain⟨v29,hv29,h⟩:=rb_ h
   refine ai [false,false] (a2_ok _ _ _ hv29) SC (S ?_)
   refine aj cs h (fun cs h=>S ?_) (fun cs h=>S ?_)
   ·have h:=rs_ h
    refine aB ⟨_,h,?_⟩
    exact Slm_ SW
   ·cases rs_ h
    exact ag SC
  ·refine S ?_
   refine aJ cs (by omega) (fun cs=>S ?_)
   cases rs_ h
   exact ag SC
 ·cases rs_ h
  exact ag SC

theorem iET_2(n:Nat):(∀ (a0:Tt) (a1:Tt) (r:Bool),iET_ n a0 a1=some r→Sat ah 149 [((am false) a0),((am false) a1)] (B r)):=by
 induction n with
 | zero=>exact fun _ _ _ h=>by simp[iET_] at h
 | succ n ih=>
  refine fun a0 a1 r h=>?_
  obtain⟨h,cs⟩:=Ro_ h
  rw[iET_] at h
  refine av (nt:=17) (rs:=[.tmp 4]) (n:=100000) Tryz.func149 rfl rfl rfl rfl (by simp) (S ?_)
  refine aj cs h (fun cs h=>S ?_) (fun cs h=>S ?_)
  ·obtain⟨v15,hv15,h⟩:=rb_ h
   refine ai [false,false,false] (sEF_5 (fun _ _ _ hh=>ih _ _ _ hh) (by simp only[COn_,COc_]) hv15) SC (S ?_)
   cases rs_ h
   exact ag SC
  ·cases rs_ h
   exact ag SC
theorem iET_3{a0:Tt}{a1:Tt}{r:Bool}(h:iET_1 a0 a1=some r):Sat ah 149 [((am false) a0),((am false) a1)] (B r):=by
 obtain⟨n,hn⟩:=ls_ h
 exact(iET_2 n) _ _ _ hn

theorem sEF_3{a0:List Ft}{a1:List Ft}{a2:Ft→Ft→Option Bool}{a2_id:FuncId}{a2_cs:List PV}(a2_ok:∀ y0 y1 r,a2 y0 y1=some r→Sat ah a2_id (((ak false) y0)::((ak false) y1)::a2_cs) (B r))(a2_cz:CO_ a2_cs=True){r:Bool}(h:sEF_ a0 a1 a2=some r):Sat ah 150 [(.sl false 5 (a0.map (ak false))),(.sl false 5 (a1.map (ak false))),.clo a2_id a2_cs] (B r):=by
 obtain⟨h,cs⟩:=Ro_ h
 unfold sEF_ at h
 have cs:=ae a2_cz cs
 refine av (nt:=32) (rs:=[.tmp 6]) (n:=100000) Tryz.func150 rfl rfl rfl rfl (by simp) (S ?_)
 refine aj cs h (fun cs h=>S ?_) (fun cs h=>S ?_)
 ·refine aO (b:=false) (sz:=5) (es:=a0.map (ak false)) 0 SC fun hl0=>?_; rw[aD] at hl0
  replace h:=rl_ h
  refine aK h (fun i4 s4=>[(1,.val (.pv (.sl false 5 (a1.map (ak false))))),(2,.val (.pv (.clo a2_id a2_cs))),(15,.val (.pv (.sl false 5 (a0.map (ak false))))),(16,.val (.pv (I (a0.length:Int)))),(17,.val (.pv (I (i4:Int))))]) (fun i4 s4=>[]) (Slm_ SC) (fun i4 s4 hi h=>?_) (fun s4 h=>?_)
  ·have w:=ws_ (i:=i4) (by omega)
   refine S ?_
   refine aI cs (by omega) (fun cs=>S ?_)
   obtain⟨v20,hv20,h⟩:=rb_ h
   refine au (f:=(ak false)) hv20 SC (S ?_)
   obtain⟨v24,hv24,h⟩:=rb_ h
   refine au (f:=(ak false)) hv24 SC (S ?_)
   obtain⟨v29,hv29,h⟩:=rb_ h
   refine ai [false,false] (a2_ok _ _ _ hv29) SC (S ?_)
   refine aj cs h (fun cs h=>S ?_) (fun cs h=>S ?_)
   ·have h:=rs_ h
    refine aB ⟨_,h,?_⟩
    exact Slm_ SW
   ·cases rs_ h
    exact ag SC
  ·refine S ?_
   refine aJ cs (by omega) (fun cs=>S ?_)
   cases rs_ h
   exact ag SC
 ·cases rs_ h
  exact ag SC

theorem isF_5(n:Nat):(∀ (a0:Ft) (a1:Ft) (r:Bool),isF_ n a0 a1=some r→Sat ah 125 [((ak false) a0),((ak false) a1)] (B r)):=by
 induction n with
 | zero=>exact fun _ _ _ h=>by simp[isF_] at h
 | succ n ih=>
  refine fun a0 a1 r h=>?_
  obtain⟨h,cs⟩:=Ro_ h
  rw[isF_] at h
  refine av (nt:=31) (rs:=[.tmp 4]) (n:=100000) Tryz.func125 rfl rfl rfl rfl (by simp) (S ?_)
  refine aj cs h (fun cs h=>S ?_) (fun cs h=>S ?_)
  ·obtain⟨v15,hv15,h⟩:=rb_ h
   refine ai [false,false] (iET_3 hv15) SC (S ?_)
   refine aj cs h (fun cs h=>S ?_) (fun cs h=>S ?_)
   ·refine aj cs h (fun cs h=>S ?_) (fun cs h=>S ?_)
    ·obtain⟨v29,hv29,h⟩:=rb_ h
     refine ai [false,false,false] (sEF_3 (fun _ _ _ hh=>ih _ _ _ hh) (by simp only[COn_,COc_]) hv29) SC (S ?_)
     cases rs_ h
     exact ag SC
    ·cases rs_ h
     exact ag SC
   ·cases rs_ h
    exact ag SC
  ·cases rs_ h
   exact ag SC
theorem isF_3{a0:Ft}{a1:Ft}{r:Bool}(h:isF_2 a0 a1=some r):Sat ah 125 [((ak false) a0),((ak false) a1)] (B r):=by
 obtain⟨n,hn⟩:=ls_ h
 exact(isF_5 n) _ _ _ hn

theorem iiQ_3{a0:Int}  {r:Bool}(h:iiQ_1 a0=some r):Sat ah 202 [(I a0)] (B r):=by
 obtain⟨h,cs⟩:=Ro_ h
 unfold iiQ_1 at h
 refine av (nt:=5) (rs:=[.tmp 2]) (n:=100000) Tryz.func202 rfl rfl rfl rfl (by simp) (S ?_)
 obtain⟨v4,hv4,h⟩:=rb_ h
 refine ai [false,false,false] (iws_ hv4) SC (S ?_)
 cases rs_ h
 exact ag SC

theorem imO_1{a0:Int}  {r:Bool×Int}(h:imO_ a0=some r):Sat ah 115 [(I a0)] (.tup [(B r.1),(I r.2)]):=by
 obtain⟨h,cs⟩:=Ro_ h
 unfold imO_ at h
 refine av (nt:=36) (rs:=[.tmp 2,.tmp 3]) (n:=100000) Tryz.func115 rfl rfl rfl rfl (by simp) (S ?_)
 refine aj cs h (fun cs h=>S ?_) (fun cs h=>S ?_)
 ·cases rs_ h
  exact ag SC
 ·refine aj cs h (fun cs h=>S ?_) (fun cs h=>S ?_)
  ·cases rs_ h
   exact ag SC
  ·refine aj cs h (fun cs h=>S ?_) (fun cs h=>S ?_)
   ·cases rs_ h
    exact ag SC
   ·refine aj cs h (fun cs h=>S ?_) (fun cs h=>S ?_)
    ·cases rs_ h
     exact ag SC
    ·refine aj cs h (fun cs h=>S ?_) (fun cs h=>S ?_)
     ·cases rs_ h
      exact ag SC
     ·refine aj cs h (fun cs h=>S ?_) (fun cs h=>S ?_)
      ·cases rs_ h
       exact ag SC
      ·refine aj cs h (fun cs h=>S ?_) (fun cs h=>S ?_)
       ·cases rs_ h
        exact ag SC
       ·refine aj cs h (fun cs h=>S ?_) (fun cs h=>S ?_)
        ·cases rs_ h
         exact ag SC
        ·refine aj cs h (fun cs h=>S ?_) (fun cs h=>S ?_)
         ·cases rs_ h
          exact ag SC
         ·refine aj cs h (fun cs h=>S ?_) (fun cs h=>S ?_)
          ·cases rs_ h
           exact ag SC
          ·refine aj cs h (fun cs h=>S ?_) (fun cs h=>S ?_)
           ·cases rs_ h
            exact ag SC
           ·refine aj cs h (fun cs h=>S ?_) (fun cs h=>S ?_)
            ·cases rs_ h
             exact ag SC
            ·cases rs_ h
             exact ag SC

theorem imF_1{a0:Sa}{a1:Dt}  {r:Ft×Bool}(h:imF_ a0 a1=some r):Sat ah 203 [((aM false) a0),((aq false) a1)] (.tup [((ak false) r.1),(B r.2)]):=by
 obtain⟨h,cs⟩:=Ro_ h
 unfold imF_ at h
 refine av (nt:=47) (rs:=[.cell 4 44,.tmp 5]) (n:=100000) Tryz.func203 rfl rfl rfl rfl (by simp) (S ?_)
 obtain⟨v12,hv12,h⟩:=rb_ h
 refine ai [false] (imO_1 hv12) SC (S ?_)
 refine aj cs h (fun cs h=>S ?_) (fun cs h=>S ?_)
 ·obtain⟨v25,hv25,h⟩:=rb_ h
  refine ai [false,false,false] (iws_ hv25) SC (S ?_)
  refine aj cs h (fun cs h=>S ?_) (fun cs h=>S ?_)
  ·refine aj cs h (fun cs h=>S ?_) (fun cs h=>S ?_)
   ·obtain⟨v45,hv45,h⟩:=rb_ h
    refine au (f:=(ak false)) hv45 SC (S ?_)
    cases rs_ h
    exact aR SC
   ·obtain⟨v34,hv34,h⟩:=rb_ h
    refine au (f:=(ak false)) hv34 SC (S ?_)
    refine aj cs h (fun cs h=>S ?_) (fun cs h=>S ?_)
    ·obtain⟨v45,hv45,h⟩:=rb_ h
     refine au (f:=(ak false)) hv45 SC (S ?_)
     cases rs_ h
     exact aR SC
    ·cases rs_ h
     exact aR SC
  ·cases rs_ h
   exact aR SC
 ·obtain⟨v25,hv25,h⟩:=rb_ h
  refine ai [false,false,false] (iws_ hv25) SC (S ?_)
  refine aj cs h (fun cs h=>S ?_) (fun cs h=>S ?_)
  ·refine aj cs h (fun cs h=>S ?_) (fun cs h=>S ?_)
   ·obtain⟨v45,hv45,h⟩:=rb_ h
    refine au (f:=(ak false)) hv45 SC (S ?_)
    cases rs_ h
    exact aR SC
   ·obtain⟨v34,hv34,h⟩:=rb_ h
    refine au (f:=(ak false)) hv34 SC (S ?_)
    refine aj cs h (fun cs h=>S ?_) (fun cs h=>S ?_)
    ·obtain⟨v45,hv45,h⟩:=rb_ h
     refine au (f:=(ak false)) hv45 SC (S ?_)
     cases rs_ h
     exact aR SC
    ·cases rs_ h
     exact aR SC
  ·cases rs_ h
   exact aR SC

theorem imR_1{a0:Int}  {r:Bool}(h:imR_ a0=some r):Sat ah 144 [(I a0)] (B r):=by
 obtain⟨h,cs⟩:=Ro_ h
 unfold imR_ at h
 refine av (nt:=9) (rs:=[.tmp 2]) (n:=100000) Tryz.func144 rfl rfl rfl rfl (by simp) (S ?_)
 refine aj cs h (fun cs h=>S ?_) (fun cs h=>S ?_)
 ·cases rs_ h
  exact ag SC
 ·cases rs_ h
  exact ag SC

theorem iiV_3{a0:Tt}  {r:Bool}(h:iiV_2 a0=some r):Sat ah 242 [((am false) a0)] (B r):=by
 obtain⟨h,cs⟩:=Ro_ h
 unfold iiV_2 at h
 refine av (nt:=7) (rs:=[.tmp 2]) (n:=100000) Tryz.func242 rfl rfl rfl rfl (by simp) (S ?_)
 obtain⟨v5,hv5,h⟩:=rb_ h
 refine SidxH.mk hv5 (S ?_)
 obtain⟨v6,hv6,h⟩:=rb_ h
 refine ai [false] (iiU_1 hv6) SC (S ?_)
 cases rs_ h
 exact ag SC

theorem icN_5(n:Nat):(∀ (a0:List ByteArray) (a1:Tt) (r:List ByteArray),icN_1 n a0 a1=some r→Sat ah 227 [(.sl true 1 (a0.map Sx)),((am false) a1)] (.sl true 1 (r.map Sx))):=by
 induction n with
 | zero=>exact fun _ _ _ h=>by simp[icN_1] at h
 | succ n ih=>
  refine fun a0 a1 r h=>?_
  obtain⟨h,cs⟩:=Ro_ h
  rw[icN_1] at h
  refine av (nt:=38) (rs:=[.tmp 4]) (n:=100000) Tryz.func227 rfl rfl rfl rfl (by simp) (S ?_)
  refine aj cs h (fun cs h=>S ?_) (fun cs h=>S ?_)
  ·obtain⟨v13,hv13,h⟩:=rb_ h
   refine ai [false] (iiV_3 hv13) SC (S ?_)
   refine aj cs h (fun cs h=>S ?_) (fun cs h=>S ?_)
   ·obtain⟨v18,hv18,h⟩:=rb_ h
    refine ai [false,false] (sCS_2 hv18) SC (S ?_)
    refine aj cs h (fun cs h=>S ?_) (fun cs h=>S ?_)
    ·cases rs_ h
     exact ag SC
    ·obtain⟨v24,hv24,h⟩:=rb_ h
     refine aS (f:=Sx) (fun _=>rfl) hv24 SC SC (S ?_)
     cases rs_ h
     exact ag SC
   ·refine aO (b:=false) (sz:=2) (es:=a1.Args.map (am false)) 8 SC fun hl8=>?_; rw[aD] at hl8
    replace h:=rl_ h
    refine aK h (fun i6 s6=>[(0,.val (.own 9000)),(27,.val (.pv (.sl false 2 (a1.Args.map (am false))))),(28,.val (.pv (I (a1.Args.length:Int)))),(29,.val (.pv (I (i6:Int))))]) (fun i6 s6=>[(9000,(1,s6.map Sx))]) (Slm_ SC) (fun i6 s6 hi h=>?_) (fun s6 h=>?_)
    ·have w:=ws_ (i:=i6) (by omega)
     refine S ?_
     refine aI cs (by omega) (fun cs=>S ?_)
     obtain⟨v31,hv31,h⟩:=rb_ h
     refine au (f:=(am false)) hv31 SC (S ?_)
     obtain⟨v35,hv35,h⟩:=rb_ h
     refine ai [true,false] (ih _ _ _ hv35) SC (S ?_)
     have h:=rs_ h
     refine aB ⟨_,h,?_⟩
     refine aU (Slm_1 (S:=[(0,.val (.own 560)),(27,.val (.pv (.sl false 2 (a1.Args.map (am false))))),(28,.val (.pv (I (a1.Args.length:Int)))),(29,.val (.pv (I (IntKind.i64.wrap ((i6:Int)+1)))))]) (O:=[(560,(1,v35.map Sx))]) SW SW) ?_
     refine Slr_ 560 9000 (by decide) NM ?_
     exact Slm_ SW
    ·refine S ?_
     refine aJ cs (by omega) (fun cs=>S ?_)
     cases rs_ h
     exact ag SC
  ·refine aO (b:=false) (sz:=2) (es:=a1.Args.map (am false)) 8 SC fun hl8=>?_; rw[aD] at hl8
   replace h:=rl_ h
   refine aK h (fun i6 s6=>[(0,.val (.own 9000)),(27,.val (.pv (.sl false 2 (a1.Args.map (am false))))),(28,.val (.pv (I (a1.Args.length:Int)))),(29,.val (.pv (I (i6:Int))))]) (fun i6 s6=>[(9000,(1,s6.map Sx))]) (Slm_ SC) (fun i6 s6 hi h=>?_) (fun s6 h=>?_)
   ·have w:=ws_ (i:=i6) (by omega)
    refine S ?_
    refine aI cs (by omega) (fun cs=>S ?_)
    obtain⟨v31,hv31,h⟩:=rb_ h
    refine au (f:=(am false)) hv31 SC (S ?_)
    obtain⟨v35,hv35,h⟩:=rb_ h
    refine ai [true,false] (ih _ _ _ hv35) SC (S ?_)
    have h:=rs_ h
    refine aB ⟨_,h,?_⟩
    refine aU (Slm_1 (S:=[(0,.val (.own 560)),(27,.val (.pv (.sl false 2 (a1.Args.map (am false))))),(28,.val (.pv (I (a1.Args.length:Int)))),(29,.val (.pv (I (IntKind.i64.wrap ((i6:Int)+1)))))]) (O:=[(560,(1,v35.map Sx))]) SW SW) ?_
    refine Slr_ 560 9000 (by decide) NM ?_
    exact Slm_ SW
   ·refine S ?_
    refine aJ cs (by omega) (fun cs=>S ?_)
    cases rs_ h
    exact ag SC
theorem ics_{a0:List ByteArray}{a1:Tt}{r:List ByteArray}(h:ic_ a0 a1=some r):Sat ah 227 [(.sl true 1 (a0.map Sx)),((am false) a1)] (.sl true 1 (r.map Sx)):=by
 obtain⟨n,hn⟩:=ls_ h
 exact(icN_5 n) _ _ _ hn


theorem ivs_{a0:Tt}  {r:List ByteArray}(h:iv_ a0=some r):Sat ah 221 [((am false) a0)] (.sl true 1 (r.map Sx)):=by
 obtain⟨h,cs⟩:=Ro_ h
 unfold iv_ at h
 refine av (nt:=10) (rs:=[.tmp 2]) (n:=100000) Tryz.func221 rfl rfl rfl rfl (by simp) (S ?_)
 obtain⟨v6,hv6,h⟩:=rb_ h
 refine ai [true,false] (ics_ hv6) SC (S ?_)
 obtain⟨v8,hv8,h⟩:=rb_ h
 refine CHi_1 [(.own 96)] [(96,(1,v8.2.map Sx))] (sSS_1 hv8) SC (S ?_)
 cases rs_ h
 exact ag SC

theorem sCS_5{a0:List ByteArray}  {r:List ByteArray}(h:sCS_3 a0=some r):Sat ah 222 [(.sl false 1 (a0.map Sx))] (.sl true 1 (r.map Sx)):=by
 obtain⟨h,cs⟩:=Ro_ h
 unfold sCS_3 at h
 refine av (nt:=8) (rs:=[.tmp 2]) (n:=100000) Tryz.func222 rfl rfl rfl rfl (by simp) (S ?_)
 refine NilH.mk (fun e=>?_) ?_
 ·obtain rfl:a0=[]:=List.map_eq_nil_iff.1 e
  simp only[an_2,Option.bind_some] at h
  refine S ?_
  cases rs_ h
  exact ag SC
 ·skip
  refine S ?_
  obtain⟨v7,hv7,h⟩:=rb_ h
  refine aS (f:=Sx) (fun _=>rfl) hv7 SC SC (S ?_)
  cases rs_ h
  exact ag SC

theorem igN_1(n:Nat):(∀ (a0:List ByteArray) (a1:Ft) (a2:List ByteArray) (r:List ByteArray),igN_ n a0 a1 a2=some r→Sat ah 216 [(.sl true 1 (a0.map Sx)),((ak false) a1),(.sl false 1 (a2.map Sx))] (.sl true 1 (r.map Sx))):=by
 induction n with
 | zero=>exact fun _ _ _ _ h=>by simp[igN_] at h
 | succ n ih=>
  refine fun a0 a1 a2 r h=>?_
  obtain⟨h,cs⟩:=Ro_ h
  rw[igN_] at h
  refine av (nt:=60) (rs:=[.tmp 6]) (n:=100000) Tryz.func216 rfl rfl rfl rfl (by simp) (S ?_)
  refine aj cs h (fun cs h=>S ?_) (fun cs h=>S ?_)
  ·obtain⟨v16,hv16,h⟩:=rb_ h
   refine ai [false] (ivs_ hv16) SC (S ?_)
   refine Mg.know_own (sz:=1) (es:=v16.map Sx) 256 SC fun hl256=>?_; rw[aD] at hl256
   replace h:=rl_ h
   refine aK h (fun i3 s3=>[(0,.val (.own 9000)),(2,.val (.pv (.sl false 1 (a2.map Sx)))),(16,.val (.own 256)),(17,.val (.pv (I (v16.length:Int)))),(18,.val (.pv (I (i3:Int))))]) (fun i3 s3=>[(9000,(1,s3.map Sx)),(256,(1,v16.map Sx))]) (Slm_ SC) (fun i3 s3 hi h=>?_) (fun s3 h=>?_)
   ·have w:=ws_ (i:=i3) (by omega)
    refine S ?_
    refine aI cs (by omega) (fun cs=>S ?_)
    obtain⟨v20,hv20,h⟩:=rb_ h
    refine au (f:=Sx) hv20 SC (S ?_)
    obtain⟨v21,hv21,h⟩:=rb_ h
    refine bt (f:=Sx) hv21 rfl SC (S ?_)
    obtain⟨v24,hv24,h⟩:=rb_ h
    refine ai [false,false] (sCS_2 hv24) SC (S ?_)
    refine aj cs h (fun cs h=>S ?_) (fun cs h=>S ?_)
    ·have h:=rs_ h
     refine aB ⟨_,h,?_⟩
     exact Slm_ SW
    ·obtain⟨v29,hv29,h⟩:=rb_ h
     refine ai [false,false] (sCS_2 hv29) SC (S ?_)
     refine aj cs h (fun cs h=>S ?_) (fun cs h=>S ?_)
     ·have h:=rs_ h
      refine aB ⟨_,h,?_⟩
      exact Slm_ SW
     ·obtain⟨v35,hv35,h⟩:=rb_ h
      refine aS (f:=Sx) (fun _=>rfl) hv35 SC SC (S ?_)
      have h:=rs_ h
      refine aB ⟨_,h,?_⟩
      refine aU (Slm_1 (S:=[(0,.val (.own 560)),(2,.val (.pv (.sl false 1 (a2.map Sx)))),(16,.val (.own 256)),(17,.val (.pv (I (v16.length:Int)))),(18,.val (.pv (I (IntKind.i64.wrap ((i3:Int)+1)))))]) (O:=[(560,(1,v35.map Sx)),(256,(1,v16.map Sx))]) SW SW) ?_
      refine Slr_ 560 9000 (by decide) NM ?_
      exact Slm_ SW
   ·refine S ?_
    refine aJ cs (by omega) (fun cs=>S ?_)
    cases rs_ h
    exact ag SC
  ·obtain⟨v40,hv40,h⟩:=rb_ h
   refine ai [false] (iiQ_ hv40) SC (S ?_)
   refine aj cs h (fun cs h=>S ?_) (fun cs h=>S ?_)
   ·obtain⟨v42,hv42,h⟩:=rb_ h
    refine ai [false] (sCS_5 hv42) SC (S ?_)
    obtain⟨v46,hv46,h⟩:=rb_ h
    refine aS (f:=Sx) (fun _=>rfl) hv46 SC SC (S ?_)
    refine ae (DHa_ [] [672,720,736]) (S ?_)
    refine aO (b:=false) (sz:=5) (es:=a1.Parts.map (ak false)) 48 SC fun hl48=>?_; rw[aD] at hl48
    replace h:=rl_ h
    refine aK h (fun i12 s12=>[(0,.val (.own 9000)),(2,.val (.own 736)),(48,.val (.pv (.sl false 5 (a1.Parts.map (ak false))))),(49,.val (.pv (I (a1.Parts.length:Int)))),(50,.val (.pv (I (i12:Int))))]) (fun i12 s12=>[(9000,(1,s12.map Sx)),(736,(1,v46.map Sx))]) (Slm_ SC) (fun i12 s12 hi h=>?_) (fun s12 h=>?_)
    ·have w:=ws_ (i:=i12) (by omega)
     refine S ?_
     refine aI cs (by omega) (fun cs=>S ?_)
     obtain⟨v52,hv52,h⟩:=rb_ h
     refine au (f:=(ak false)) hv52 SC (S ?_)
     obtain⟨v57,hv57,h⟩:=rb_ h
     refine ai [true,false,false] (ih _ _ _ _ hv57) SC (S ?_)
     have h:=rs_ h
     refine aB ⟨_,h,?_⟩
     refine aU (Slm_1 (S:=[(0,.val (.own 912)),(2,.val (.own 736)),(48,.val (.pv (.sl false 5 (a1.Parts.map (ak false))))),(49,.val (.pv (I (a1.Parts.length:Int)))),(50,.val (.pv (I (IntKind.i64.wrap ((i12:Int)+1)))))]) (O:=[(912,(1,v57.map Sx)),(736,(1,v46.map Sx))]) SW SW) ?_
     refine Slr_ 912 9000 (by decide) NM ?_
     exact Slm_ SW
    ·refine S ?_
     refine aJ cs (by omega) (fun cs=>S ?_)
     cases rs_ h
     exact ag SC
   ·refine aO (b:=false) (sz:=5) (es:=a1.Parts.map (ak false)) 48 SC fun hl48=>?_; rw[aD] at hl48
    replace h:=rl_ h
    refine aK h (fun i12 s12=>[(0,.val (.own 9000)),(2,.val (.pv (.sl false 1 (a2.map Sx)))),(48,.val (.pv (.sl false 5 (a1.Parts.map (ak false))))),(49,.val (.pv (I (a1.Parts.length:Int)))),(50,.val (.pv (I (i12:Int))))]) (fun i12 s12=>[(9000,(1,s12.map Sx))]) (Slm_ SC) (fun i12 s12 hi h=>?_) (fun s12 h=>?_)
    ·have w:=ws_ (i:=i12) (by omega)
     refine S ?_
     refine aI cs (by omega) (fun cs=>S ?_)
     obtain⟨v52,hv52,h⟩:=rb_ h
     refine au (f:=(ak false)) hv52 SC (S ?_)
     obtain⟨v57,hv57,h⟩:=rb_ h
     refine ai [true,false,false] (ih _ _ _ _ hv57) SC (S ?_)
     have h:=rs_ h
     refine aB ⟨_,h,?_⟩
     refine aU (Slm_1 (S:=[(0,.val (.own 912)),(2,.val (.pv (.sl false 1 (a2.map Sx)))),(48,.val (.pv (.sl false 5 (a1.Parts.map (ak false))))),(49,.val (.pv (I (a1.Parts.length:Int)))),(50,.val (.pv (I (IntKind.i64.wrap ((i12:Int)+1)))))]) (O:=[(912,(1,v57.map Sx))]) SW SW) ?_
     refine Slr_ 912 9000 (by decide) NM ?_
     exact Slm_ SW
    ·refine S ?_
     refine aJ cs (by omega) (fun cs=>S ?_)
     cases rs_ h
     exact ag SC
theorem igs_{a0:List ByteArray}{a1:Ft}{a2:List ByteArray}{r:List ByteArray}(h:ig_ a0 a1 a2=some r):Sat ah 216 [(.sl true 1 (a0.map Sx)),((ak false) a1),(.sl false 1 (a2.map Sx))] (.sl true 1 (r.map Sx)):=by
 obtain⟨n,hn⟩:=ls_ h
 exact(igN_1 n) _ _ _ _ hn

theorem ifs_{a0:Ft}  {r:List ByteArray}(h:if_ a0=some r):Sat ah 213 [((ak false) a0)] (.sl true 1 (r.map Sx)):=by
 obtain⟨h,cs⟩:=Ro_ h
 unfold if_ at h
 refine av (nt:=10) (rs:=[.tmp 2]) (n:=100000) Tryz.func213 rfl rfl rfl rfl (by simp) (S ?_)
 obtain⟨v6,hv6,h⟩:=rb_ h
 refine ai [true,false,false] (igs_ hv6) SC (S ?_)
 obtain⟨v8,hv8,h⟩:=rb_ h
 refine CHi_1 [(.own 96)] [(96,(1,v8.2.map Sx))] (sSS_1 hv8) SC (S ?_)
 cases rs_ h
 exact ag SC

theorem iiF_3{a0:Ft}{b0:ByteArray}  {r:Bool}(h:iiF_ a0 b0=some r):Sat ah 212 [((ak false) a0),.ptr (Sx b0)] (B r):=by
 obtain⟨h,cs⟩:=Ro_ h
 unfold iiF_ at h
 refine av (nt:=8) (rs:=[.tmp 3]) (n:=100000) Tryz.func212 rfl rfl rfl rfl (by simp) (S ?_)
 obtain⟨v5,hv5,h⟩:=rb_ h
 refine ai [false] (ifs_ hv5) SC (S ?_)
 obtain⟨v7,hv7,h⟩:=rb_ h
 refine ai [false,false] (sCS_2 hv7) SC (S ?_)
 refine ae (DHa_ [] [80]) (S ?_)
 cases rs_ h
 exact ag SC

theorem iiF_5{a0:Sa}{a1:ByteArray}  {r:Bool}(h:iiF_2 a0 a1=some r):Sat ah 210 [((aM false) a0),(Sx a1)] (B r):=by
 obtain⟨h,cs⟩:=Ro_ h
 unfold iiF_2 at h
 refine av (nt:=17) (rs:=[.tmp 4]) (n:=100000) Tryz.func210 rfl rfl rfl rfl (by simp) (S ?_)
 refine MfH.fr (S ?_)
 obtain⟨v10,hv10,h⟩:=rb_ h
 refine ai [false,false] (sCF_1 (fun _ _ hh=>iiF_3 hh) (by simp only[COn_,COc_]) hv10) SC (S ?_)
 refine aj cs h (fun cs h=>S ?_) (fun cs h=>S ?_)
 ·cases rs_ h
  exact ag SC
 ·obtain⟨v15,hv15,h⟩:=rb_ h
  refine ai [false,false] (sCF_1 (fun _ _ hh=>iiF_3 hh) (by simp only[COn_,COc_]) hv15) SC (S ?_)
  cases rs_ h
  exact ag SC

theorem icT_4(n:Nat):(∀ (a0:Tt) (r:Tt),icT_ n a0=some r→Sat ah 140 [((am false) a0)] ((am true) r))∧(∀ (a0:List Tt) (r:List Tt),icT_1 n a0=some r→Sat ah 163 [(.sl false 2 (a0.map (am false)))] (.sl true 2 (r.map (am true)))):=by
 induction n with
 | zero=>exact⟨fun _ _ h=>by simp[icT_] at h,fun _ _ h=>by simp[icT_1] at h⟩
 | succ n ih=>
  refine⟨fun a0 r h=>?_,fun a0 r h=>?_⟩
  ·obtain⟨h,cs⟩:=Ro_ h
   rw[icT_] at h
   refine av (nt:=9) (rs:=[.cell 2 42]) (n:=100000) Tryz.func140 rfl rfl rfl rfl (by simp) (S ?_)
   obtain⟨v7,hv7,h⟩:=rb_ h
   refine ai [false] (ih.2 _ _ hv7) SC (S ?_)
   refine ae (DHa_ [] [112]) (S ?_)
   cases rs_ h
   exact ag SC
  ·obtain⟨h,cs⟩:=Ro_ h
   rw[icT_1] at h
   refine av (nt:=26) (rs:=[.tmp 2]) (n:=100000) Tryz.func163 rfl rfl rfl rfl (by simp) (S ?_)
   refine aj cs h (fun cs h=>S ?_) (fun cs h=>S ?_)
   ·cases rs_ h
    exact ag SC
   ·obtain⟨n11,hn11,h⟩:=rb_ h
    refine MknH.mk hn11 (S ?_)
    refine aO (b:=false) (sz:=2) (es:=a0.map (am false)) 0 SC fun hl0=>?_; rw[aD] at hl0
    replace h:=rl_ h
    refine aK h (fun i5 s5=>[(3,.val (.own 176)),(12,.val (.pv (.sl false 2 (a0.map (am false))))),(13,.val (.pv (I (a0.length:Int)))),(14,.val (.pv (I (i5:Int))))]) (fun i5 s5=>[(176,(2,s5.map (am true)))]) (Slm_ SC) (fun i5 s5 hi h=>?_) (fun s5 h=>?_)
    ·have w:=ws_ (i:=i5) (by omega)
     refine S ?_
     refine aI cs (by omega) (fun cs=>S ?_)
     obtain⟨v17,hv17,h⟩:=rb_ h
     refine au (f:=(am false)) hv17 SC (S ?_)
     obtain⟨v22,hv22,h⟩:=rb_ h
     refine ai [false] (ih.1 _ _ hv22) SC (S ?_)
     obtain⟨v23,hv23,h⟩:=rb_ h
     refine au (f:=(am true)) hv23 SC (S ?_)
     obtain⟨w3,hw3,h⟩:=rb_ h
     refine bt (f:=(am true)) hw3 rfl SC (S ?_)
     have h:=rs_ h
     refine aB ⟨_,h,?_⟩
     exact Slm_ SW
    ·refine S ?_
     refine aJ cs (by omega) (fun cs=>S ?_)
     cases rs_ h
     exact ag SC
theorem icT_3{a0:Tt}{r:Tt}(h:icT_2 a0=some r):Sat ah 140 [((am false) a0)] ((am true) r):=by
 obtain⟨n,hn⟩:=ls_ h
 exact(icT_4 n).1 _ _ hn
theorem icT_6{a0:List Tt}{r:List Tt}(h:icT_5 a0=some r):Sat ah 163 [(.sl false 2 (a0.map (am false)))] (.sl true 2 (r.map (am true))):=by
 obtain⟨n,hn⟩:=ls_ h
 exact(icT_4 n).2 _ _ hn

theorem imP_3{a0:Ft}{a1:Ft→Option Ft}{a1_id:FuncId}{a1_cs:List PV}(a1_ok:∀ y0 r,a1 y0=some r→Sat ah a1_id (((ak false) y0)::a1_cs) ((ak true) r))(a1_cz:CO_ a1_cs=True){r:Ft}(h:imP_2 a0 a1=some r):Sat ah 143 [((ak false) a0),.clo a1_id a1_cs] ((ak true) r):=by
 obtain⟨h,cs⟩:=Ro_ h
 unfold imP_2 at h
 have cs:=ae a1_cz cs
 refine av (nt:=33) (rs:=[.cell 4 44]) (n:=100000) Tryz.func143 rfl rfl rfl rfl (by simp) (S ?_)
 obtain⟨v12,hv12,h⟩:=rb_ h
 refine ai [false] (icT_3 hv12) SC (S ?_)
 refine ae (DHa_ [5] [192]) (S ?_)
 refine aO (b:=false) (sz:=5) (es:=a0.Parts.map (ak false)) 17 SC fun hl17=>?_; rw[aD] at hl17
 replace h:=rl_ h
 refine aK h (fun i3 s3=>[(1,.val (.pv (.clo a1_id a1_cs))),(4,.box (.node [(.pv (I 0)),(.node [(.pv (Sx ⟨#[]⟩)),(.pv (.sl true 2 []))]),(.pv (Sx ⟨#[]⟩)),(.pv (.sl true 5 []))])),(5,.box (.node [(.pv (I a0.Op)),(.node [(.pv (Sx v12.Name)),(.own 192)]),(.pv (Sx a0.Var)),(.own 9309)])),(17,.val (.pv (.sl false 5 (a0.Parts.map (ak false))))),(18,.val (.pv (I (a0.Parts.length:Int)))),(19,.val (.pv (I (i3:Int))))]) (fun i3 s3=>[(192,(2,v12.Args.map (am true))),(9309,(5,s3.map (ak true)))]) (aU (Sln_ (x:=(.node [(.pv (I a0.Op)),(.node [(.pv (Sx v12.Name)),(.own 192)]),(.pv (Sx a0.Var)),(.pv (.sl true 5 []))])) 5 [3] 9309 5 NM SC SC SC) (Slm_ SC)) (fun i3 s3 hi h=>?_) (fun s3 h=>?_)
 ·have w:=ws_ (i:=i3) (by omega)
  refine S ?_
  refine aI cs (by omega) (fun cs=>S ?_)
  obtain⟨v21,hv21,h⟩:=rb_ h
  refine au (f:=(ak false)) hv21 SC (S ?_)
  obtain⟨v27,hv27,h⟩:=rb_ h
  refine ai [false] (a1_ok _ _ hv27) SC (S ?_)
  obtain⟨v29,hv29,h⟩:=rb_ h
  refine aS (f:=(ak true)) (fun a=>Ft.psize _ a) hv29 SC SC (S ?_)
  refine ae (DHa_ [] [432,433,448,464]) (S ?_)
  have h:=rs_ h
  refine aB ⟨_,h,?_⟩
  refine aU (Slm_1 (S:=[(1,.val (.pv (.clo a1_id a1_cs))),(4,.box (.node [(.pv (I 0)),(.node [(.pv (Sx ⟨#[]⟩)),(.pv (.sl true 2 []))]),(.pv (Sx ⟨#[]⟩)),(.pv (.sl true 5 []))])),(5,.box (.node [(.pv (I a0.Op)),(.node [(.pv (Sx v12.Name)),(.own 192)]),(.pv (Sx a0.Var)),(.own 464)])),(17,.val (.pv (.sl false 5 (a0.Parts.map (ak false))))),(18,.val (.pv (I (a0.Parts.length:Int)))),(19,.val (.pv (I (IntKind.i64.wrap ((i3:Int)+1)))))]) (O:=[(192,(2,v12.Args.map (am true))),(464,(5,v29.map (ak true)))]) SW SW) ?_
  refine Slr_ 464 9309 (by decide) NM ?_
  exact Slm_ SW
 ·refine S ?_
  refine aJ cs (by omega) (fun cs=>S ?_)
  cases rs_ h
  exact ag SC

theorem icF_5(n:Nat):(∀ (a0:Ft) (r:Ft),icF_1 n a0=some r→Sat ah 113 [((ak false) a0)] ((ak true) r)):=by
 induction n with
 | zero=>exact fun _ _ h=>by simp[icF_1] at h
 | succ n ih=>
  refine fun a0 r h=>?_
  obtain⟨h,cs⟩:=Ro_ h
  rw[icF_1] at h
  refine av (nt:=5) (rs:=[.cell 2 44]) (n:=100000) Tryz.func113 rfl rfl rfl rfl (by simp) (S ?_)
  obtain⟨v4,hv4,h⟩:=rb_ h
  refine ai [false,false] (imP_3 (fun _ _ hh=>ih _ _ hh) (by simp only[COn_,COc_]) hv4) SC (S ?_)
  cases rs_ h
  exact ag SC
theorem icF_2{a0:Ft}{r:Ft}(h:icF_ a0=some r):Sat ah 113 [((ak false) a0)] ((ak true) r):=by
 obtain⟨n,hn⟩:=ls_ h
 exact(icF_5 n) _ _ hn

theorem icN_3(n:Nat):(∀ (a0:Tt) (a1:ByteArray) (r:Int),icN_ n a0 a1=some r→Sat ah 225 [((am false) a0),(Sx a1)] (I r)):=by
 induction n with
 | zero=>exact fun _ _ _ h=>by simp[icN_] at h
 | succ n ih=>
  refine fun a0 a1 r h=>?_
  obtain⟨h,cs⟩:=Ro_ h
  rw[icN_] at h
  refine av (nt:=26) (rs:=[.tmp 4]) (n:=100000) Tryz.func225 rfl rfl rfl rfl (by simp) (S ?_)
  refine aj cs h (fun cs h=>S ?_) (fun cs h=>S ?_)
  ·refine aO (b:=false) (sz:=2) (es:=a0.Args.map (am false)) 13 SC fun hl13=>?_; rw[aD] at hl13
   replace h:=rl_ h
   refine aK h (fun i5 s5=>[(1,.val (.pv (Sx a1))),(5,.val (.pv (I s5))),(13,.val (.pv (.sl false 2 (a0.Args.map (am false))))),(14,.val (.pv (I (a0.Args.length:Int)))),(15,.val (.pv (I (i5:Int))))]) (fun i5 s5=>[]) (Slm_ SC) (fun i5 s5 hi h=>?_) (fun s5 h=>?_)
   ·have w:=ws_ (i:=i5) (by omega)
    refine S ?_
    refine aI cs (by omega) (fun cs=>S ?_)
    obtain⟨v17,hv17,h⟩:=rb_ h
    refine au (f:=(am false)) hv17 SC (S ?_)
    obtain⟨v22,hv22,h⟩:=rb_ h
    refine ai [false,false] (ih _ _ _ hv22) SC (S ?_)
    have h:=rs_ h
    refine aB ⟨_,h,?_⟩
    exact Slm_ SW
   ·refine S ?_
    refine aJ cs (by omega) (fun cs=>S ?_)
    cases rs_ h
    exact ag SC
  ·refine aO (b:=false) (sz:=2) (es:=a0.Args.map (am false)) 13 SC fun hl13=>?_; rw[aD] at hl13
   replace h:=rl_ h
   refine aK h (fun i5 s5=>[(1,.val (.pv (Sx a1))),(5,.val (.pv (I s5))),(13,.val (.pv (.sl false 2 (a0.Args.map (am false))))),(14,.val (.pv (I (a0.Args.length:Int)))),(15,.val (.pv (I (i5:Int))))]) (fun i5 s5=>[]) (Slm_ SC) (fun i5 s5 hi h=>?_) (fun s5 h=>?_)
   ·have w:=ws_ (i:=i5) (by omega)
    refine S ?_
    refine aI cs (by omega) (fun cs=>S ?_)
    obtain⟨v17,hv17,h⟩:=rb_ h
    refine au (f:=(am false)) hv17 SC (S ?_)
    obtain⟨v22,hv22,h⟩:=rb_ h
    refine ai [false,false] (ih _ _ _ hv22) SC (S ?_)
    have h:=rs_ h
    refine aB ⟨_,h,?_⟩
    exact Slm_ SW
   ·refine S ?_
    refine aJ cs (by omega) (fun cs=>S ?_)
    cases rs_ h
    exact ag SC
theorem icN_4{a0:Tt}{a1:ByteArray}{r:Int}(h:icN_2 a0 a1=some r):Sat ah 225 [((am false) a0),(Sx a1)] (I r):=by
 obtain⟨n,hn⟩:=ls_ h
 exact(icN_3 n) _ _ _ hn

theorem ios_{a0:ByteArray}{a1:Tt}  {r:Bool}(h:io_ a0 a1=some r):Sat ah 218 [(Sx a0),((am false) a1)] (B r):=by
 obtain⟨h,cs⟩:=Ro_ h
 unfold io_ at h
 refine av (nt:=9) (rs:=[.tmp 4]) (n:=100000) Tryz.func218 rfl rfl rfl rfl (by simp) (S ?_)
 obtain⟨v7,hv7,h⟩:=rb_ h
 refine ai [false,false] (icN_4 hv7) SC (S ?_)
 cases rs_ h
 exact ag SC

theorem ciN_1{a0:ByteArray}  {r:Bool}(h:ciN_ a0=some r):Sat ah 248 [(Sx a0)] (B r):=by
 obtain⟨h,cs⟩:=Ro_ h
 unfold ciN_ at h
 refine av (nt:=6) (rs:=[.tmp 2]) (n:=100000) Tryz.func248 rfl rfl rfl rfl (by simp) (S ?_)
 cases rs_ h
 exact ag SC

theorem cCs_1{a0:ByteArray}{a1:ByteArray}  {r:Int}(h:cCs_ a0 a1=some r):Sat ah 241 [(Sx a0),(Sx a1)] (I r):=by
 obtain⟨h,cs⟩:=Ro_ h
 unfold cCs_ at h
 refine av (nt:=20) (rs:=[.tmp 4]) (n:=100000) Tryz.func241 rfl rfl rfl rfl (by simp) (S ?_)
 obtain⟨v8,hv8,h⟩:=rb_ h
 refine ai [false] (ciN_1 hv8) SC (S ?_)
 obtain⟨v10,hv10,h⟩:=rb_ h
 refine ai [false] (ciN_1 hv10) SC (S ?_)
 refine aj cs h (fun cs h=>S ?_) (fun cs h=>S ?_)
 ·refine aj cs h (fun cs h=>S ?_) (fun cs h=>S ?_)
  ·cases rs_ h
   exact ag SC
  ·cases rs_ h
   exact ag SC
 ·refine aj cs h (fun cs h=>S ?_) (fun cs h=>S ?_)
  ·cases rs_ h
   exact ag SC
  ·refine aj cs h (fun cs h=>S ?_) (fun cs h=>S ?_)
   ·cases rs_ h
    exact ag SC
   ·refine aj cs h (fun cs h=>S ?_) (fun cs h=>S ?_)
    ·cases rs_ h
     exact ag SC
    ·cases rs_ h
     exact ag SC

theorem iSt_2{a0:Bt}{a1:ByteArray}  {r:Int}(h:iSt_ a0 a1=some r):Sat ah 240 [((Bt.pv false) a0),(Sx a1)] (I r):=by
 obtain⟨h,cs⟩:=Ro_ h
 unfold iSt_ at h
 refine av (nt:=9) (rs:=[.tmp 4]) (n:=100000) Tryz.func240 rfl rfl rfl rfl (by simp) (S ?_)
 obtain⟨v8,hv8,h⟩:=rb_ h
 refine ai [false,false] (cCs_1 hv8) SC (S ?_)
 cases rs_ h
 exact ag SC

theorem sBS_1{a0:List Bt}{a1:ByteArray}{a2:Bt→ByteArray→Option Int}{a2_id:FuncId}{a2_cs:List PV}(a2_ok:∀ y0 y1 r,a2 y0 y1=some r→Sat ah a2_id (((Bt.pv false) y0)::(Sx y1)::a2_cs) (I r))(a2_cz:CO_ a2_cs=True){r:Int×Bool}(h:sBS_ a0 a1 a2=some r):Sat ah 239 [(.sl false 3 (a0.map (Bt.pv false))),(Sx a1),.clo a2_id a2_cs] (.tup [(I r.1),(B r.2)]):=by
 obtain⟨h,cs⟩:=Ro_ h
 unfold sBS_ at h
 have cs:=ae a2_cz cs
 refine av (nt:=49) (rs:=[.tmp 6,.tmp 7]) (n:=100000) Tryz.func239 rfl rfl rfl rfl (by simp) (S ?_)
 replace h:=rl_ h
 refine Mg.whileN h (fun s3=>[(0,.val (.pv (.sl false 3 (a0.map (Bt.pv false))))),(1,.val (.pv (Sx a1))),(2,.val (.pv (.clo a2_id a2_cs))),(8,.val (.pv (I (a0.length:Int)))),(9,.val (.pv (I s3.1))),(10,.val (.pv (I s3.2)))]) (fun s3=>[]) (Slm_ SC) (fun n3 s3 h=>?_)
 refine S ?_
 refine aj cs h (fun cs h=>S ?_) (fun cs h=>S ?_)
 ·obtain⟨v22,hv22,h⟩:=rb_ h
  refine ShrH.mk hv22 (S ?_)
  obtain⟨v27,hv27,h⟩:=rb_ h
  refine au (f:=(Bt.pv false)) hv27 SC (S ?_)
  obtain⟨v30,hv30,h⟩:=rb_ h
  refine ai [false,false] (a2_ok _ _ _ hv30) SC (S ?_)
  refine aj cs h (fun cs h=>S ?_) (fun cs h=>S ?_)
  ·have h:=rs_ h
   refine aB ⟨_,h,?_⟩
   exact Slm_ SC
  ·have h:=rs_ h
   refine aB ⟨_,h,?_⟩
   exact Slm_ SC
 ·have h:=rs_ h
  refine aj cs h (fun cs h=>S ?_) (fun cs h=>S ?_)
  ·obtain⟨v43,hv43,h⟩:=rb_ h
   refine au (f:=(Bt.pv false)) hv43 SC (S ?_)
   obtain⟨v46,hv46,h⟩:=rb_ h
   refine ai [false,false] (a2_ok _ _ _ hv46) SC (S ?_)
   cases rs_ h
   exact ag SC
  ·cases rs_ h
   exact ag SC

theorem iSt_3{a0:Sb}{a1:ByteArray}  {r:Tt×Bool}(h:iSt_1 a0 a1=some r):Sat ah 226 [((Sb.pv false) a0),(Sx a1)] (.tup [((am false) r.1),(B r.2)]):=by
 obtain⟨h,cs⟩:=Ro_ h
 unfold iSt_1 at h
 refine av (nt:=24) (rs:=[.cell 4 42,.tmp 5]) (n:=100000) Tryz.func226 rfl rfl rfl rfl (by simp) (S ?_)
 obtain⟨v12,hv12,h⟩:=rb_ h
 refine ai [false,false,false] (sBS_1 (fun _ _ _ hh=>iSt_2 hh) (by simp only[COn_,COc_]) hv12) SC (S ?_)
 refine aj cs h (fun cs h=>S ?_) (fun cs h=>S ?_)
 ·obtain⟨v21,hv21,h⟩:=rb_ h
  refine au (f:=(Bt.pv false)) hv21 SC (S ?_)
  cases rs_ h
  exact aR SC
 ·cases rs_ h
  exact aR SC

theorem iSa_3(n:Nat):(∀ (a0:Sb) (a1:Tt) (r:Tt),iSa_ n a0 a1=some r→Sat ah 220 [((Sb.pv false) a0),((am false) a1)] ((am true) r)):=by
 induction n with
 | zero=>exact fun _ _ _ h=>by simp[iSa_] at h
 | succ n ih=>
  refine fun a0 a1 r h=>?_
  obtain⟨h,cs⟩:=Ro_ h
  rw[iSa_] at h
  refine av (nt:=51) (rs:=[.cell 4 42]) (n:=100000) Tryz.func220 rfl rfl rfl rfl (by simp) (S ?_)
  refine aj cs h (fun cs h=>S ?_) (fun cs h=>S ?_)
  ·obtain⟨v18,hv18,h⟩:=rb_ h
   refine ai [false,false] (iSt_3 hv18) SC (S ?_)
   refine aj cs h (fun cs h=>S ?_) (fun cs h=>S ?_)
   ·obtain⟨v23,hv23,h⟩:=rb_ h
    refine ai [false] (icT_3 hv23) SC (S ?_)
    cases rs_ h
    exact ag SC
   ·cases rs_ h
    exact ag SC
  ·obtain⟨n32,hn32,h⟩:=rb_ h
   refine MknH.mk hn32 (S ?_)
   refine ae (DHa_ [7] [512]) (S ?_)
   refine aO (b:=false) (sz:=2) (es:=a1.Args.map (am false)) 11 SC fun hl11=>?_; rw[aD] at hl11
   replace h:=rl_ h
   refine aK h (fun i8 s8=>[(2,.box (.pv ((Sb.pv false) a0))),(4,.box (.node [(.pv (Sx ⟨#[]⟩)),(.pv (.sl true 2 []))])),(7,.box (.node [(.pv (Sx a1.Name)),(.own 512)])),(35,.val (.pv (.sl false 2 (a1.Args.map (am false))))),(36,.val (.pv (I (a1.Args.length:Int)))),(37,.val (.pv (I (i8:Int))))]) (fun i8 s8=>[(512,(2,s8.map (am true)))]) (Slm_ SC) (fun i8 s8 hi h=>?_) (fun s8 h=>?_)
   ·have w:=ws_ (i:=i8) (by omega)
    refine S ?_
    refine aI cs (by omega) (fun cs=>S ?_)
    obtain⟨v40,hv40,h⟩:=rb_ h
    refine au (f:=(am false)) hv40 SC (S ?_)
    obtain⟨v47,hv47,h⟩:=rb_ h
    refine ai [false,false] (ih _ _ _ hv47) SC (S ?_)
    obtain⟨v48,hv48,h⟩:=rb_ h
    refine au (f:=(am true)) hv48 SC (S ?_)
    obtain⟨w4,hw4,h⟩:=rb_ h
    refine bt (f:=(am true)) hw4 rfl SC (S ?_)
    refine ae (DHa_ [] [752]) (S ?_)
    have h:=rs_ h
    refine aB ⟨_,h,?_⟩
    exact Slm_ SW
   ·refine S ?_
    refine aJ cs (by omega) (fun cs=>S ?_)
    cases rs_ h
    exact ag SC
theorem iSa_2{a0:Sb}{a1:Tt}{r:Tt}(h:iSa_1 a0 a1=some r):Sat ah 220 [((Sb.pv false) a0),((am false) a1)] ((am true) r):=by
 obtain⟨n,hn⟩:=ls_ h
 exact(iSa_3 n) _ _ _ hn

theorem imP_1{a0:Ft}{a1:Ft→Bool→Option (Ft×Bool)}{a1_s:Bool}{a1_id:FuncId}{a1_pat:List Bool}{a1_ps a1_p1 a1_p2:List PV}(a1_ok:∀ y0 s r,a1 y0 s=some r→SatH ah a1_id (((ak false) y0)::a1_p1) a1_p2 .ptr [] (.pv (B s)) (.pv (B r.2)) ((ak true) r.1))(a1_sp:sP_ a1_pat a1_ps=some (a1_p1,a1_p2))(a1_cz:CO_ a1_ps){r:Ft×Bool}(h:imP_ a0 a1 a1_s=some r):SatH ah 143 [((ak false) a0)] [] (.clo a1_id a1_pat) a1_ps (.pv (B a1_s)) (.pv (B r.2)) ((ak true) r.1):=by
 obtain⟨h,cs⟩:=Ro_ h
 unfold imP_ at h
 refine SHo_ (nt:=33) (rs:=[.cell 4 44]) (n:=100000) 1 Tryz.func143 rfl rfl rfl rfl rfl (Nat.le_of_ble_eq_true rfl) (by decide) (by first | exact Nat.le_of_ble_eq_true rfl | exact SC) (S ?_)
 obtain⟨v12,hv12,h⟩:=rb_ h
 refine ai [false] (icT_3 hv12) SC (S ?_)
 refine ae (DHa_ [5] [192]) (S ?_)
 refine aO (b:=false) (sz:=5) (es:=a0.Parts.map (ak false)) 17 SC fun hl17=>?_; rw[aD] at hl17
 replace h:=rl_ h
 refine aK h (fun i3 s3=>[(1,.hold (.clo a1_id a1_pat) a1_ps (.cv (.pv (B s3.1)))),(4,.box (.node [(.pv (I 0)),(.node [(.pv (Sx ⟨#[]⟩)),(.pv (.sl true 2 []))]),(.pv (Sx ⟨#[]⟩)),(.pv (.sl true 5 []))])),(5,.box (.node [(.pv (I a0.Op)),(.node [(.pv (Sx v12.Name)),(.own 192)]),(.pv (Sx a0.Var)),(.own 9309)])),(17,.val (.pv (.sl false 5 (a0.Parts.map (ak false))))),(18,.val (.pv (I (a0.Parts.length:Int)))),(19,.val (.pv (I (i3:Int)))),(20000,gh 1)]) (fun i3 s3=>[(192,(2,v12.Args.map (am true))),(9309,(5,s3.2.map (ak true)))]) (aU (Sln_ (x:=(.node [(.pv (I a0.Op)),(.node [(.pv (Sx v12.Name)),(.own 192)]),(.pv (Sx a0.Var)),(.pv (.sl true 5 []))])) 5 [3] 9309 5 NM SC SC SC) (Slm_ SC)) (fun i3 s3 hi h=>?_) (fun s3 h=>?_)
 ·have w:=ws_ (i:=i3) (by omega)
  refine S ?_
  refine aI cs (by omega) (fun cs=>S ?_)
  obtain⟨v21,hv21,h⟩:=rb_ h
  refine au (f:=(ak false)) hv21 SC (S ?_)
  obtain⟨v27,hv27,h⟩:=rb_ h
  refine HHc_ (r:=1) (hc:=.cv (.pv (B s3.1))) (pre:=[((ak false) v21)]) a1_pat a1_ps a1_p1 a1_p2 [(.pv ((ak false) v21))] [false] (a1_ok _ _ _ hv27) a1_sp a1_cz SC (S ?_)
  obtain⟨v29,hv29,h⟩:=rb_ h
  refine aS (f:=(ak true)) (fun a=>Ft.psize _ a) hv29 SC SC (S ?_)
  refine ae (DHa_ [] [432,433,448,464]) (S ?_)
  have h:=rs_ h
  refine aB ⟨_,h,?_⟩
  refine aU (Slm_1 (S:=[(1,.hold (.clo a1_id a1_pat) a1_ps (.cv (.pv (B v27.2)))),(4,.box (.node [(.pv (I 0)),(.node [(.pv (Sx ⟨#[]⟩)),(.pv (.sl true 2 []))]),(.pv (Sx ⟨#[]⟩)),(.pv (.sl true 5 []))])),(5,.box (.node [(.pv (I a0.Op)),(.node [(.pv (Sx v12.Name)),(.own 192)]),(.pv (Sx a0.Var)),(.own 464)])),(17,.val (.pv (.sl false 5 (a0.Parts.map (ak false))))),(18,.val (.pv (I (a0.Parts.length:Int)))),(19,.val (.pv (I (IntKind.i64.wrap ((i3:Int)+1))))),(20000,gh 1)]) (O:=[(192,(2,v12.Args.map (am true))),(464,(5,v29.map (ak true)))]) SW SW) ?_
  refine Slr_ 464 9309 (by decide) NM ?_
  exact Slm_ SW
 ·refine S ?_
  refine aJ cs (by omega) (fun cs=>S ?_)
  cases rs_ h
  exact RetHB.l SC

theorem isN_2(n:Nat):(∀ (a0:Ft) (a1:ByteArray) (a2:Tt) (r:Ft×Bool),isN_ n a0 a1 a2=some r→Sat ah 214 [((ak false) a0),(Sx a1),((am false) a2)] (.tup [((ak true) r.1),(B r.2)]))∧(∀ (a0:Ft) (b0:ByteArray) (b1:Tt) (b2:Bool) (r:Ft×Bool),is1_ n a0 b0 b1 b2=some r→SatH ah 219 [((ak false) a0),.ptr (Sx b0),.ptr ((am false) b1)] [] .ptr [] (.pv (B b2)) (.pv (B r.2)) ((ak true) r.1)):=by
 induction n with
 | zero=>exact⟨fun _ _ _ _ h=>by simp[isN_] at h,fun _ _ _ _ _ h=>by simp[is1_] at h⟩
 | succ n ih=>
  refine⟨fun a0 a1 a2 r h=>?_,fun a0 b0 b1 b2 r h=>?_⟩
  ·obtain⟨h,cs⟩:=Ro_ h
   rw[isN_] at h
   refine av (nt:=55) (rs:=[.cell 6 44,.tmp 7]) (n:=100000) Tryz.func214 rfl rfl rfl rfl (by simp) (S ?_)
   obtain⟨v12,hv12,h⟩:=rb_ h
   refine ai [false] (iiQ_ hv12) SC (S ?_)
   refine aj cs h (fun cs h=>S ?_) (fun cs h=>S ?_)
   ·refine aj cs h (fun cs h=>S ?_) (fun cs h=>S ?_)
    ·refine ae (DHa_ [] []) (S ?_)
     obtain⟨v27,hv27,h⟩:=rb_ h
     refine ai [false] (icF_2 hv27) SC (S ?_)
     cases rs_ h
     exact ag SC
    ·obtain⟨v20,hv20,h⟩:=rb_ h
     refine ai [false] (ifs_ hv20) SC (S ?_)
     obtain⟨v22,hv22,h⟩:=rb_ h
     refine ai [false,false] (sCS_2 hv22) SC (S ?_)
     refine ae (DHa_ [] [320]) (S ?_)
     refine aj cs h (fun cs h=>S ?_) (fun cs h=>S ?_)
     ·obtain⟨v30,hv30,h⟩:=rb_ h
      refine ai [false] (iiQ_ hv30) SC (S ?_)
      refine aj cs h (fun cs h=>S ?_) (fun cs h=>S ?_)
      ·obtain⟨v35,hv35,h⟩:=rb_ h
       refine ai [false,false] (ios_ hv35) SC (S ?_)
       refine aj cs h (fun cs h=>S ?_) (fun cs h=>S ?_)
       ·cases rs_ h
        exact ag SC
       ·refine MfH.hcl (r:=8) (x:=(.pv (B true))) [.tmp 4,.tmp 5] [] [(4,(Sx a1)),(5,((am false) a2))] [false,false,true] [(.ptr (Sx a1)),(.ptr ((am false) a2))] rfl rfl rfl SC (S ?_)
        obtain⟨v40,hv40,h⟩:=rb_ h
        refine HandH.call (r:=8) (hc:=.cv (.pv (B true))) 1 [_] [] [(.pv ((ak false) a0))] [] [false] (imP_1 (a1_id:=219) (a1_pat:=[false,false,true]) (a1_ps:=[(.ptr (Sx a1)),(.ptr ((am false) a2))]) (a1_p1:=[(.ptr (Sx a1)),(.ptr ((am false) a2))]) (a1_p2:=[]) (a1_ok:=fun _ _ _ hh=>ih.2 _ _ _ _ _ hh) (a1_sp:=rfl) (a1_cz:=by simp only[COn_,COc_]) hv40) rfl rfl rfl SC (S ?_)
        refine aj cs h (fun cs h=>S ?_) (fun cs h=>S ?_)
        ·obtain⟨v51,hv51,h⟩:=rb_ h
         refine ai [false,false] (iSa_2 hv51) SC (S ?_)
         refine ae (DHa_ [] []) (S ?_)
         cases rs_ h
         exact ag SC
        ·refine ae (DHa_ [] []) (S ?_)
         cases rs_ h
         exact ag SC
      ·refine MfH.hcl (r:=8) (x:=(.pv (B true))) [.tmp 4,.tmp 5] [] [(4,(Sx a1)),(5,((am false) a2))] [false,false,true] [(.ptr (Sx a1)),(.ptr ((am false) a2))] rfl rfl rfl SC (S ?_)
       obtain⟨v40,hv40,h⟩:=rb_ h
       refine HandH.call (r:=8) (hc:=.cv (.pv (B true))) 1 [_] [] [(.pv ((ak false) a0))] [] [false] (imP_1 (a1_id:=219) (a1_pat:=[false,false,true]) (a1_ps:=[(.ptr (Sx a1)),(.ptr ((am false) a2))]) (a1_p1:=[(.ptr (Sx a1)),(.ptr ((am false) a2))]) (a1_p2:=[]) (a1_ok:=fun _ _ _ hh=>ih.2 _ _ _ _ _ hh) (a1_sp:=rfl) (a1_cz:=by simp only[COn_,COc_]) hv40) rfl rfl rfl SC (S ?_)
       refine aj cs h (fun cs h=>S ?_) (fun cs h=>S ?_)
       ·obtain⟨v51,hv51,h⟩:=rb_ h
        refine ai [false,false] (iSa_2 hv51) SC (S ?_)
        refine ae (DHa_ [] []) (S ?_)
        cases rs_ h
        exact ag SC
       ·refine ae (DHa_ [] []) (S ?_)
        cases rs_ h
        exact ag SC
     ·obtain⟨v27,hv27,h⟩:=rb_ h
      refine ai [false] (icF_2 hv27) SC (S ?_)
      cases rs_ h
      exact ag SC
   ·refine ae (DHa_ [] []) (S ?_)
    obtain⟨v30,hv30,h⟩:=rb_ h
    refine ai [false] (iiQ_ hv30) SC (S ?_)
    refine aj cs h (fun cs h=>S ?_) (fun cs h=>S ?_)
    ·obtain⟨v35,hv35,h⟩:=rb_ h
     refine ai [false,false] (ios_ hv35) SC (S ?_)
     refine aj cs h (fun cs h=>S ?_) (fun cs h=>S ?_)
     ·cases rs_ h
      exact ag SC
     ·refine MfH.hcl (r:=8) (x:=(.pv (B true))) [.tmp 4,.tmp 5] [] [(4,(Sx a1)),(5,((am false) a2))] [false,false,true] [(.ptr (Sx a1)),(.ptr ((am false) a2))] rfl rfl rfl SC (S ?_)
      obtain⟨v40,hv40,h⟩:=rb_ h
      refine HandH.call (r:=8) (hc:=.cv (.pv (B true))) 1 [_] [] [(.pv ((ak false) a0))] [] [false] (imP_1 (a1_id:=219) (a1_pat:=[false,false,true]) (a1_ps:=[(.ptr (Sx a1)),(.ptr ((am false) a2))]) (a1_p1:=[(.ptr (Sx a1)),(.ptr ((am false) a2))]) (a1_p2:=[]) (a1_ok:=fun _ _ _ hh=>ih.2 _ _ _ _ _ hh) (a1_sp:=rfl) (a1_cz:=by simp only[COn_,COc_]) hv40) rfl rfl rfl SC (S ?_)
      refine aj cs h (fun cs h=>S ?_) (fun cs h=>S ?_)
      ·obtain⟨v51,hv51,h⟩:=rb_ h
       refine ai [false,false] (iSa_2 hv51) SC (S ?_)
       refine ae (DHa_ [] []) (S ?_)
       cases rs_ h
       exact ag SC
      ·refine ae (DHa_ [] []) (S ?_)
       cases rs_ h
       exact ag SC
    ·refine MfH.hcl (r:=8) (x:=(.pv (B true))) [.tmp 4,.tmp 5] [] [(4,(Sx a1)),(5,((am false) a2))] [false,false,true] [(.ptr (Sx a1)),(.ptr ((am false) a2))] rfl rfl rfl SC (S ?_)
     obtain⟨v40,hv40,h⟩:=rb_ h
     refine HandH.call (r:=8) (hc:=.cv (.pv (B true))) 1 [_] [] [(.pv ((ak false) a0))] [] [false] (imP_1 (a1_id:=219) (a1_pat:=[false,false,true]) (a1_ps:=[(.ptr (Sx a1)),(.ptr ((am false) a2))]) (a1_p1:=[(.ptr (Sx a1)),(.ptr ((am false) a2))]) (a1_p2:=[]) (a1_ok:=fun _ _ _ hh=>ih.2 _ _ _ _ _ hh) (a1_sp:=rfl) (a1_cz:=by simp only[COn_,COc_]) hv40) rfl rfl rfl SC (S ?_)
     refine aj cs h (fun cs h=>S ?_) (fun cs h=>S ?_)
     ·obtain⟨v51,hv51,h⟩:=rb_ h
      refine ai [false,false] (iSa_2 hv51) SC (S ?_)
      refine ae (DHa_ [] []) (S ?_)
      cases rs_ h
      exact ag SC
     ·refine ae (DHa_ [] []) (S ?_)
      cases rs_ h
      exact ag SC
  ·obtain⟨h,cs⟩:=Ro_ h
   rw[is1_] at h
   refine SHo_ (nt:=20) (rs:=[.cell 5 44]) (n:=100000) 3 Tryz.func219 rfl rfl rfl rfl rfl (Nat.le_of_ble_eq_true rfl) (by decide) (by first | exact Nat.le_of_ble_eq_true rfl | exact SC) (S ?_)
   obtain⟨v12,hv12,h⟩:=rb_ h
   refine ai [false,false,false] (ih.1 _ _ _ _ hv12) SC (S ?_)
   refine aj cs h (fun cs h=>S ?_) (fun cs h=>S ?_)
   ·cases rs_ h
    exact RetHB.l SC
   ·cases rs_ h
    exact RetHB.l SC
theorem iss_{a0:Ft}{a1:ByteArray}{a2:Tt}{r:Ft×Bool}(h:is_ a0 a1 a2=some r):Sat ah 214 [((ak false) a0),(Sx a1),((am false) a2)] (.tup [((ak true) r.1),(B r.2)]):=by
 obtain⟨n,hn⟩:=ls_ h
 exact(isN_2 n).1 _ _ _ _ hn
theorem is1_2{a0:Ft}{b0:ByteArray}{b1:Tt}{b2:Bool}{r:Ft×Bool}(h:is1_1 a0 b0 b1 b2=some r):SatH ah 219 [((ak false) a0),.ptr (Sx b0),.ptr ((am false) b1)] [] .ptr [] (.pv (B b2)) (.pv (B r.2)) ((ak true) r.1):=by
 obtain⟨n,hn⟩:=ls_ h
 exact(isN_2 n).2 _ _ _ _ _ hn

theorem iiF_6{a0:Ft}  {r:Ft×Bool}(h:iiF_1 a0=some r):Sat ah 215 [((ak false) a0)] (.tup [((ak false) r.1),(B r.2)]):=by
 obtain⟨h,cs⟩:=Ro_ h
 unfold iiF_1 at h
 refine av (nt:=9) (rs:=[.cell 2 44,.tmp 3]) (n:=100000) Tryz.func215 rfl rfl rfl rfl (by simp) (S ?_)
 obtain⟨v5,hv5,h⟩:=rb_ h
 refine ai [false] (iIV_4 hv5) SC (S ?_)
 refine aj cs h (fun cs h=>S ?_) (fun cs h=>S ?_)
 ·cases rs_ h
  exact aR SC
 ·cases rs_ h
  exact aR SC

theorem iiF_4{a0:Ft}  {r:Ft×Bool}(h:iiF_1 a0=some r):Sat ah 215 [((ak true) a0)] (.tup [((ak true) r.1),(B r.2)]):=by
 obtain⟨h,cs⟩:=Ro_ h
 unfold iiF_1 at h
 refine av (nt:=9) (rs:=[.cell 2 44,.tmp 3]) (n:=100000) Tryz.func215 rfl rfl rfl rfl (by simp) (S ?_)
 obtain⟨v5,hv5,h⟩:=rb_ h
 refine ai [false] (iIV_4 hv5) SC (S ?_)
 refine aj cs h (fun cs h=>S ?_) (fun cs h=>S ?_)
 ·cases rs_ h
  exact ag SC
 ·cases rs_ h
  exact ag SC

theorem iSF_1{a0:Ft}{a1:ByteArray}{a2:Tt}  {r:Ft×Bool}(h:iSF_ a0 a1 a2=some r):Sat ah 211 [((ak false) a0),(Sx a1),((am false) a2)] (.tup [((ak true) r.1),(B r.2)]):=by
 obtain⟨h,cs⟩:=Ro_ h
 unfold iSF_ at h
 refine av (nt:=38) (rs:=[.cell 6 44,.tmp 7]) (n:=100000) Tryz.func211 rfl rfl rfl rfl (by simp) (S ?_)
 obtain⟨v11,hv11,h⟩:=rb_ h
 refine ai [false] (iIV_4 hv11) SC (S ?_)
 refine aj cs h (fun cs h=>S ?_) (fun cs h=>S ?_)
 ·obtain⟨v15,hv15,h⟩:=rb_ h
  refine ai [false] (iiV_1 hv15) SC (S ?_)
  refine aj cs h (fun cs h=>S ?_) (fun cs h=>S ?_)
  ·obtain⟨v20,hv20,h⟩:=rb_ h
   refine ai [false] (iIV_11 hv20) SC (S ?_)
   refine aj cs h (fun cs h=>S ?_) (fun cs h=>S ?_)
   ·obtain⟨v28,hv28,h⟩:=rb_ h
    refine ai [false,false,false] (iss_ hv28) SC (S ?_)
    refine aj cs h (fun cs h=>S ?_) (fun cs h=>S ?_)
    ·obtain⟨v35,hv35,h⟩:=rb_ h
     refine ai [true] (iiF_4 hv35) SC (S ?_)
     cases rs_ h
     exact ag SC
    ·cases rs_ h
     exact ag SC
   ·cases rs_ h
    exact ag SC
  ·cases rs_ h
   exact ag SC
 ·cases rs_ h
  exact ag SC

theorem iis_{a0:Sa}{a1:Dt}{a2:Ft}  {r:(List Sa)×Bool}(h:ii_ a0 a1 a2=some r):Sat ah 204 [((aM false) a0),((aq false) a1),((ak false) a2)] (.tup [(.sl true 2 (r.1.map (aM true))),(B r.2)]):=by
 obtain⟨h,cs⟩:=Ro_ h
 unfold ii_ at h
 refine av (nt:=59) (rs:=[.tmp 6,.tmp 7]) (n:=100000) Tryz.func204 rfl rfl rfl rfl (by simp) (S ?_)
 obtain⟨v14,hv14,h⟩:=rb_ h
 refine ai [false] (imR_1 hv14) SC (S ?_)
 refine aj cs h (fun cs h=>S ?_) (fun cs h=>S ?_)
 ·obtain⟨v33,hv33,h⟩:=rb_ h
  refine au (f:=(ak false)) hv33 SC (S ?_)
  obtain⟨v39,hv39,h⟩:=rb_ h
  refine ai [false,false,false] (iSF_1 hv39) SC (S ?_)
  refine ae (DHa_ [8] [624,625]) (S ?_)
  refine aj cs h (fun cs h=>S ?_) (fun cs h=>S ?_)
  ·obtain⟨v47,hv47,h⟩:=rb_ h
   refine ai [false] (imO_1 hv47) SC (S ?_)
   refine aj cs h (fun cs h=>S ?_) (fun cs h=>S ?_)
   ·cases rs_ h
    exact ag SC
   ·cases rs_ h
    exact ag SC
  ·cases rs_ h
   exact ag SC
 ·obtain⟨v20,hv20,h⟩:=rb_ h
  refine ai [false] (iiV_1 hv20) SC (S ?_)
  refine aj cs h (fun cs h=>S ?_) (fun cs h=>S ?_)
  ·obtain⟨v27,hv27,h⟩:=rb_ h
   refine ai [false,false] (iiF_5 hv27) SC (S ?_)
   refine aj cs h (fun cs h=>S ?_) (fun cs h=>S ?_)
   ·cases rs_ h
    exact ag SC
   ·obtain⟨v33,hv33,h⟩:=rb_ h
    refine au (f:=(ak false)) hv33 SC (S ?_)
    obtain⟨v39,hv39,h⟩:=rb_ h
    refine ai [false,false,false] (iSF_1 hv39) SC (S ?_)
    refine ae (DHa_ [8] [624,625]) (S ?_)
    refine aj cs h (fun cs h=>S ?_) (fun cs h=>S ?_)
    ·obtain⟨v47,hv47,h⟩:=rb_ h
     refine ai [false] (imO_1 hv47) SC (S ?_)
     refine aj cs h (fun cs h=>S ?_) (fun cs h=>S ?_)
     ·cases rs_ h
      exact ag SC
     ·cases rs_ h
      exact ag SC
    ·cases rs_ h
     exact ag SC
  ·cases rs_ h
   exact ag SC

theorem ia1_1{a0:Int}{b0:Ft}  {r:List Ft}(h:ia1_ a0 b0=some r):Sat ah 205 [(I a0),.ptr ((ak false) b0)] (.sl true 5 (r.map (ak false))):=by
 obtain⟨h,cs⟩:=Ro_ h
 unfold ia1_ at h
 refine av (nt:=10) (rs:=[.tmp 3]) (n:=100000) Tryz.func205 rfl rfl rfl rfl (by simp) (S ?_)
 obtain⟨v7,hv7,h⟩:=rb_ h
 refine au (f:=(ak false)) hv7 SC (S ?_)
 cases rs_ h
 exact ag SC

theorem ia2_1{a0:Ft}{b0:Ft}  {r:Bool}(h:ia2_ a0 b0=some r):Sat ah 206 [((ak false) a0),.ptr ((ak false) b0)] (B r):=by
 obtain⟨h,cs⟩:=Ro_ h
 unfold ia2_ at h
 refine av (nt:=7) (rs:=[.tmp 3]) (n:=100000) Tryz.func206 rfl rfl rfl rfl (by simp) (S ?_)
 obtain⟨v6,hv6,h⟩:=rb_ h
 refine ai [false,false] (isF_3 hv6) SC (S ?_)
 cases rs_ h
 exact ag SC

theorem ias_{a0:Sa}{a1:Dt}  {r:(List Sa)×Bool}(h:ia_ a0 a1=some r):Sat ah 194 [((aM false) a0),((aq false) a1)] (.tup [(.sl false 2 (r.1.map (aM false))),(B r.2)]):=by
 obtain⟨h,cs⟩:=Ro_ h
 unfold ia_ at h
 refine av (nt:=147) (rs:=[.tmp 4,.tmp 5]) (n:=100000) Tryz.func194 rfl rfl rfl rfl (by simp) (SB ?_)
 refine aj cs h (fun cs h=>SB ?_) (fun cs h=>SB ?_)
 ·refine aj cs h (fun cs h=>SB ?_) (fun cs h=>SB ?_)
  ·obtain⟨v18,hv18,h⟩:=rb_ h
   refine ai [false] (iiZ_ hv18) SC (SB ?_)
   refine aj cs h (fun cs h=>SB ?_) (fun cs h=>SB ?_)
   ·obtain⟨v24,hv24,h⟩:=rb_ h
    refine ai [false] (iIV_4 hv24) SC (SB ?_)
    refine aj cs h (fun cs h=>SB ?_) (fun cs h=>SB ?_)
    ·refine OrR.v [((ak false) a1.Cut)] (SB ?_)
     refine OrR.v [((ak false) a1.Cut)] (SB ?_)
     refine OrR.l (SB ?_)
     cases rs_ h
     exact aR SC
    ·cases rs_ h
     exact aR SC
   ·cases rs_ h
    exact aR SC
  ·cases rs_ h
   exact aR SC
 ·obtain⟨v38,hv38,h⟩:=rb_ h
  refine ai [false,false,false] (iws_ hv38) SC (SB ?_)
  refine aj cs h (fun cs h=>SB ?_) (fun cs h=>SB ?_)
  ·obtain⟨v44,hv44,h⟩:=rb_ h
   refine ai [false,false] (isF_3 hv44) SC (SB ?_)
   refine aj cs h (fun cs h=>SB ?_) (fun cs h=>SB ?_)
   ·obtain⟨v50,hv50,h⟩:=rb_ h
    refine ai [false] (iiQ_3 hv50) SC (SB ?_)
    obtain⟨v53,hv53,h⟩:=rb_ h
    refine ai [false] (iiZ_ hv53) SC (SB ?_)
    refine ae (DHa_ [] []) (SB ?_)
    refine aj cs h (fun cs h=>SB ?_) (fun cs h=>SB ?_)
    ·obtain⟨v60,hv60,h⟩:=rb_ h
     refine ai [false,false] (imF_1 hv60) SC (SB ?_)
     refine aj cs h (fun cs h=>SB ?_) (fun cs h=>SB ?_)
     ·obtain⟨v67,hv67,h⟩:=rb_ h
      refine ai [false] (iiQ_3 hv67) SC (SB ?_)
      refine aj cs h (fun cs h=>SB ?_) (fun cs h=>SB ?_)
      ·obtain⟨v71,hv71,h⟩:=rb_ h
       refine ai [false,false,false] (iis_ hv71) SC (SB ?_)
       cases rs_ h
       exact aR SC
      ·refine MfH.fr (SB ?_)
       refine aj cs h (fun cs h=>SB ?_) (fun cs h=>SB ?_)
       ·refine aj cs h (fun cs h=>SB ?_) (fun cs h=>SB ?_)
        ·cases rs_ h
         exact aR SC
        ·refine MfH.fr (SB ?_)
         obtain⟨v86,hv86,h⟩:=rb_ h
         refine ai [false,false] (sCF_1 (fun _ _ hh=>ia2_1 hh) (by simp only[COn_,COc_]) hv86) SC (SB ?_)
         cases rs_ h
         exact aR SC
       ·refine aj cs h (fun cs h=>SB ?_) (fun cs h=>SB ?_)
        ·cases rs_ h
         exact aR SC
        ·refine aj cs h (fun cs h=>SB ?_) (fun cs h=>SB ?_)
         ·obtain⟨v93,hv93,h⟩:=rb_ h
          refine ai [false] (SvO_ (res':=(.sl false 5 (v93.map (ak false)))) (ia1_1 hv93) (by simp only[vt_,vs_,va_,vl_,aG,RB,RS])) SC (SB ?_)
          refine OrR.l (SB ?_)
          cases rs_ h
          exact aR SC
         ·refine aj cs h (fun cs h=>SB ?_) (fun cs h=>SB ?_)
          ·obtain⟨v99,hv99,h⟩:=rb_ h
           refine ai [false] (SvO_ (res':=(.sl false 5 (v99.map (ak false)))) (ia1_1 hv99) (by simp only[vt_,vs_,va_,vl_,aG,RB,RS])) SC (SB ?_)
           refine OrR.l (SB ?_)
           cases rs_ h
           exact aR SC
          ·refine aj cs h (fun cs h=>SB ?_) (fun cs h=>SB ?_)
           ·refine OrR.l (SB ?_)
            cases rs_ h
            exact aR SC
           ·refine aj cs h (fun cs h=>SB ?_) (fun cs h=>SB ?_)
            ·obtain⟨v111,hv111,h⟩:=rb_ h
             refine ai [false] (SvO_ (res':=(.sl false 5 (v111.map (ak false)))) (ia1_1 hv111) (by simp only[vt_,vs_,va_,vl_,aG,RB,RS])) SC (SB ?_)
             obtain⟨v114,hv114,h⟩:=rb_ h
             refine ai [false] (SvO_ (res':=(.sl false 5 (v114.map (ak false)))) (ia1_1 hv114) (by simp only[vt_,vs_,va_,vl_,aG,RB,RS])) SC (SB ?_)
             refine OrR.l (SB ?_)
             cases rs_ h
             exact aR SC
            ·refine aj cs h (fun cs h=>SB ?_) (fun cs h=>SB ?_)
             ·obtain⟨v120,hv120,h⟩:=rb_ h
              refine ai [false] (SvO_ (res':=(.sl false 5 (v120.map (ak false)))) (ia1_1 hv120) (by simp only[vt_,vs_,va_,vl_,aG,RB,RS])) SC (SB ?_)
              obtain⟨v123,hv123,h⟩:=rb_ h
              refine ai [false] (SvO_ (res':=(.sl false 5 (v123.map (ak false)))) (ia1_1 hv123) (by simp only[vt_,vs_,va_,vl_,aG,RB,RS])) SC (SB ?_)
              refine OrR.l (SB ?_)
              cases rs_ h
              exact aR SC
             ·refine aj cs h (fun cs h=>SB ?_) (fun cs h=>SB ?_)
              ·refine OrR.l (SB ?_)
               cases rs_ h
               exact aR SC
              ·refine aj cs h (fun cs h=>SB ?_) (fun cs h=>SB ?_)
               ·obtain⟨v135,hv135,h⟩:=rb_ h
                refine ai [false] (SvO_ (res':=(.sl false 5 (v135.map (ak false)))) (ia1_1 hv135) (by simp only[vt_,vs_,va_,vl_,aG,RB,RS])) SC (SB ?_)
                obtain⟨v138,hv138,h⟩:=rb_ h
                refine ai [false] (SvO_ (res':=(.sl false 5 (v138.map (ak false)))) (ia1_1 hv138) (by simp only[vt_,vs_,va_,vl_,aG,RB,RS])) SC (SB ?_)
                refine OrR.l (SB ?_)
                cases rs_ h
                exact aR SC
               ·obtain⟨v142,hv142,h⟩:=rb_ h
                refine ai [false] (SvO_ (res':=(.sl false 5 (v142.map (ak false)))) (ia1_1 hv142) (by simp only[vt_,vs_,va_,vl_,aG,RB,RS])) SC (SB ?_)
                obtain⟨v144,hv144,h⟩:=rb_ h
                refine ai [false] (SvO_ (res':=(.sl false 5 (v144.map (ak false)))) (ia1_1 hv144) (by simp only[vt_,vs_,va_,vl_,aG,RB,RS])) SC (SB ?_)
                refine OrR.l (SB ?_)
                cases rs_ h
                exact aR SC
     ·cases rs_ h
      exact aR SC
    ·cases rs_ h
     exact aR SC
   ·refine ae (DHa_ [] []) (SB ?_)
    cases rs_ h
    exact aR SC
  ·refine ae (DHa_ [] []) (SB ?_)
   cases rs_ h
   exact aR SC

theorem iDr_2{a0:Dt}{a1:Bool}{a2:Int}  {r:Bool}(h:iDr_ a0 a1 a2=some r):Sat ah 114 [((aq false) a0),(B a1),(I a2)] (B r):=by
 obtain⟨h,cs⟩:=Ro_ h
 unfold iDr_ at h
 refine av (nt:=32) (rs:=[.tmp 6]) (n:=100000) Tryz.func114 rfl rfl rfl rfl (by simp) (S ?_)
 refine aj cs h (fun cs h=>S ?_) (fun cs h=>S ?_)
 ·cases rs_ h
  exact ag SC
 ·obtain⟨v15,hv15,h⟩:=rb_ h
  refine ai [false] (imR_1 hv15) SC (S ?_)
  refine aj cs h (fun cs h=>S ?_) (fun cs h=>S ?_)
  ·cases rs_ h
   exact ag SC
  ·obtain⟨v20,hv20,h⟩:=rb_ h
   refine ai [false] (imO_1 hv20) SC (S ?_)
   refine aj cs h (fun cs h=>S ?_) (fun cs h=>S ?_)
   ·cases rs_ h
    exact ag SC
   ·cases rs_ h
    exact ag SC

theorem iDr_3{a0:Dt}{a1:List Ft}{a2:Bool}  {r:List Ft}(h:iDr_1 a0 a1 a2=some r):Sat ah 195 [((aq false) a0),(.sl false 5 (a1.map (ak false))),(B a2)] (.sl true 5 (r.map (ak false))):=by
 obtain⟨h,cs⟩:=Ro_ h
 unfold iDr_1 at h
 refine av (nt:=29) (rs:=[.tmp 6]) (n:=100000) Tryz.func195 rfl rfl rfl rfl (by simp) (S ?_)
 refine aO (b:=false) (sz:=5) (es:=a1.map (ak false)) 1 SC fun hl1=>?_; rw[aD] at hl1
 replace h:=rl_ h
 refine aK h (fun i3 s3=>[(2,.val (.pv (B a2))),(3,.box (.pv ((aq false) a0))),(7,.val (.own 160)),(11,.val (.pv (.sl false 5 (a1.map (ak false))))),(12,.val (.pv (I (a1.length:Int)))),(13,.val (.pv (I (i3:Int))))]) (fun i3 s3=>[(160,(5,s3.map (ak false)))]) (Slm_ SC) (fun i3 s3 hi h=>?_) (fun s3 h=>?_)
 ·have w:=ws_ (i:=i3) (by omega)
  refine S ?_
  refine aI cs (by omega) (fun cs=>S ?_)
  obtain⟨v16,hv16,h⟩:=rb_ h
  refine au (f:=(ak false)) hv16 SC (S ?_)
  obtain⟨v21,hv21,h⟩:=rb_ h
  refine ai [false,false,false] (iDr_2 hv21) SC (S ?_)
  refine aj cs h (fun cs h=>S ?_) (fun cs h=>S ?_)
  ·have h:=rs_ h
   refine aB ⟨_,h,?_⟩
   exact Slm_ SW
  ·obtain⟨v26,hv26,h⟩:=rb_ h
   refine aS (f:=(ak false)) (fun a=>Ft.psize _ a) hv26 SC SC (S ?_)
   have h:=rs_ h
   refine aB ⟨_,h,?_⟩
   refine aU (Slm_1 (S:=[(2,.val (.pv (B a2))),(3,.box (.pv ((aq false) a0))),(7,.val (.own 416)),(11,.val (.pv (.sl false 5 (a1.map (ak false))))),(12,.val (.pv (I (a1.length:Int)))),(13,.val (.pv (I (IntKind.i64.wrap ((i3:Int)+1)))))]) (O:=[(416,(5,v26.map (ak false)))]) SW SW) ?_
   refine Slr_ 416 160 (by decide) NM ?_
   exact Slm_ SW
 ·refine S ?_
  refine aJ cs (by omega) (fun cs=>S ?_)
  cases rs_ h
  exact ag SC

theorem sGS_1{a1:Int}  {r:List Ft}(h:sGS_ a1=some r):Sat ah 129 [(.lit (.slice none 0 0)),(I a1)] (.sl true 5 (r.map (ak false))):=by
 obtain⟨h,cs⟩:=Ro_ h
 unfold sGS_ at h
 refine Son_ (sz:=5) (nt:=27) (rs:=[.tmp 4]) (n:=100000) Tryz.func129 rfl rfl rfl rfl (by simp) (S ?_)
 refine aj cs h (fun cs h=>S ?_) (fun cs h=>S ?_)
 ·exact rn_ h
 ·refine aj cs h (fun cs h=>S ?_) (fun cs h=>S ?_)
  ·obtain⟨n22,hn22,h⟩:=rb_ h
   refine AppzH.mk hn22 (S ?_)
   obtain⟨v25,hv25,h⟩:=rb_ h
   refine SlcOH.mk (f:=(ak true)) hv25 SC ?_
   obtain rfl:=sn_4 hv25
   refine S ?_
   refine S ?_
   cases rs_ h
   exact ag SC
  ·cases rs_ h
   exact ag SC

theorem sCS_4{a0:List (List Ft)}  {r:List Ft}(h:sCS_1 a0=some r):Sat ah 98 [(.sl false 1 (a0.map (Lv false 5 (ak false))))] (.sl true 5 (r.map (ak false))):=by
 obtain⟨h,cs⟩:=Ro_ h
 unfold sCS_1 at h
 refine av (nt:=36) (rs:=[.tmp 2]) (n:=100000) Tryz.func98 rfl rfl rfl rfl (by simp) (S ?_)
 refine aO (b:=false) (sz:=1) (es:=a0.map (Lv false 5 (ak false))) 0 SC fun hl0=>?_; rw[aD] at hl0
 replace h:=rl_ h
 refine aK h (fun i3 s3=>[(0,.val (.pv (.sl false 1 (a0.map (Lv false 5 (ak false)))))),(3,.val (.pv (I s3))),(9,.val (.pv (.sl false 1 (a0.map (Lv false 5 (ak false)))))),(10,.val (.pv (I (a0.length:Int)))),(11,.val (.pv (I (i3:Int))))]) (fun i3 s3=>[]) (Slm_ SC) (fun i3 s3 hi h=>?_) (fun s3 h=>?_)
 ·have w:=ws_ (i:=i3) (by omega)
  refine S ?_
  refine aI cs (by omega) (fun cs=>S ?_)
  obtain⟨v13,hv13,h⟩:=rb_ h
  refine au (f:=(Lv false 5 (ak false))) hv13 SC (S ?_)
  refine aj cs h (fun cs h=>S ?_) (fun cs h=>S ?_)
  ·exact rn_ h
  ·have h:=rs_ h
   refine aB ⟨_,h,?_⟩
   exact Slm_ SW
 ·refine S ?_
  refine aJ cs (by omega) (fun cs=>S ?_)
  obtain⟨v24,hv24,h⟩:=rb_ h
  refine CHn_ (h:=sGS_1 hv24) (by refine S ?_; exact NM) (S ?_)
  refine aO (b:=false) (sz:=1) (es:=a0.map (Lv false 5 (ak false))) 0 SC fun hl0=>?_; rw[aD] at hl0
  replace h:=rl_ h
  refine aK h (fun i11 s11=>[(6,.val (.own 384)),(25,.val (.pv (.sl false 1 (a0.map (Lv false 5 (ak false)))))),(26,.val (.pv (I (a0.length:Int)))),(27,.val (.pv (I (i11:Int))))]) (fun i11 s11=>[(384,(5,s11.map (ak false)))]) (Slm_ SC) (fun i11 s11 hi h=>?_) (fun s11 h=>?_)
  ·have w:=ws_ (i:=i11) (by omega)
   refine S ?_
   refine aI cs (by omega) (fun cs=>S ?_)
   obtain⟨v29,hv29,h⟩:=rb_ h
   refine au (f:=(Lv false 5 (ak false))) hv29 SC (S ?_)
   obtain⟨v33,hv33,h⟩:=rb_ h
   refine aS (f:=(ak false)) (fun a=>Ft.psize _ a) hv33 SC SC (S ?_)
   have h:=rs_ h
   refine aB ⟨_,h,?_⟩
   refine aU (Slm_1 (S:=[(6,.val (.own 528)),(25,.val (.pv (.sl false 1 (a0.map (Lv false 5 (ak false)))))),(26,.val (.pv (I (a0.length:Int)))),(27,.val (.pv (I (IntKind.i64.wrap ((i11:Int)+1)))))]) (O:=[(528,(5,v33.map (ak false)))]) SW SW) ?_
   refine Slr_ 528 384 (by decide) NM ?_
   exact Slm_ SW
  ·refine S ?_
   cases rs_ h
   exact ag SC

theorem icF_4{a0:List Ft}  {r:List Ft}(h:icF_3 a0=some r):Sat ah 102 [(.sl false 5 (a0.map (ak false)))] (.sl true 5 (r.map (ak true))):=by
 obtain⟨h,cs⟩:=Ro_ h
 unfold icF_3 at h
 refine av (nt:=20) (rs:=[.tmp 2]) (n:=100000) Tryz.func102 rfl rfl rfl rfl (by simp) (S ?_)
 refine aO (b:=false) (sz:=5) (es:=a0.map (ak false)) 0 SC fun hl0=>?_; rw[aD] at hl0
 replace h:=rl_ h
 refine aK h (fun i3 s3=>[(3,.val (.own 96)),(7,.val (.pv (.sl false 5 (a0.map (ak false))))),(8,.val (.pv (I (a0.length:Int)))),(9,.val (.pv (I (i3:Int))))]) (fun i3 s3=>[(96,(5,s3.map (ak true)))]) (Slm_ SC) (fun i3 s3 hi h=>?_) (fun s3 h=>?_)
 ·have w:=ws_ (i:=i3) (by omega)
  refine S ?_
  refine aI cs (by omega) (fun cs=>S ?_)
  obtain⟨v11,hv11,h⟩:=rb_ h
  refine au (f:=(ak false)) hv11 SC (S ?_)
  obtain⟨v15,hv15,h⟩:=rb_ h
  refine ai [false] (icF_2 hv15) SC (S ?_)
  obtain⟨v17,hv17,h⟩:=rb_ h
  refine aS (f:=(ak true)) (fun a=>Ft.psize _ a) hv17 SC SC (S ?_)
  have h:=rs_ h
  refine aB ⟨_,h,?_⟩
  refine aU (Slm_1 (S:=[(3,.val (.own 272)),(7,.val (.pv (.sl false 5 (a0.map (ak false))))),(8,.val (.pv (I (a0.length:Int)))),(9,.val (.pv (I (IntKind.i64.wrap ((i3:Int)+1)))))]) (O:=[(272,(5,v17.map (ak true)))]) SW SW) ?_
  refine Slr_ 272 96 (by decide) NM ?_
  exact Slm_ SW
 ·refine S ?_
  refine aJ cs (by omega) (fun cs=>S ?_)
  cases rs_ h
  exact ag SC

theorem icS_1{a0:Sa}  {r:Sa}(h:icS_ a0=some r):Sat ah 60 [((aM false) a0)] ((aM true) r):=by
 obtain⟨h,cs⟩:=Ro_ h
 unfold icS_ at h
 refine av (nt:=10) (rs:=[.cell 2 39]) (n:=100000) Tryz.func60 rfl rfl rfl rfl (by simp) (S ?_)
 obtain⟨v5,hv5,h⟩:=rb_ h
 refine ai [false] (icF_4 hv5) SC (S ?_)
 obtain⟨v8,hv8,h⟩:=rb_ h
 refine ai [false] (icF_4 hv8) SC (S ?_)
 refine ae (DHa_ [] [80,128]) (S ?_)
 cases rs_ h
 exact ag SC

theorem ips_{a0:Sa}{a1:Dt}  {r:(List Sa)×Bool}(h:ip_ a0 a1=some r):Sat ah 186 [((aM false) a0),((aq false) a1)] (.tup [(.sl true 2 (r.1.map (aM true))),(B r.2)]):=by
 obtain⟨h,cs⟩:=Ro_ h
 unfold ip_ at h
 refine av (nt:=54) (rs:=[.tmp 4,.tmp 5]) (n:=100000) Tryz.func186 rfl rfl rfl rfl (by simp) (S ?_)
 obtain⟨v15,hv15,h⟩:=rb_ h
 refine ai [false,false] (ias_ hv15) SC (S ?_)
 refine aj cs h (fun cs h=>S ?_) (fun cs h=>S ?_)
 ·refine aO (b:=false) (sz:=2) (es:=v15.1.map (aM false)) 6 SC fun hl6=>?_; rw[aD] at hl6
  replace h:=rl_ h
  refine aK h (fun i6 s6=>[(2,.box (.pv ((aM false) a0))),(3,.box (.pv ((aq false) a1))),(8,.val (.own 320)),(21,.val (.pv (.sl false 2 (v15.1.map (aM false))))),(22,.val (.pv (I (v15.1.length:Int)))),(23,.val (.pv (I (i6:Int))))]) (fun i6 s6=>[(320,(2,s6.map (aM true)))]) (Slm_ SC) (fun i6 s6 hi h=>?_) (fun s6 h=>?_)
  ·have w:=ws_ (i:=i6) (by omega)
   refine S ?_
   refine aI cs (by omega) (fun cs=>S ?_)
   obtain⟨v25,hv25,h⟩:=rb_ h
   refine au (f:=(aM false)) hv25 SC (S ?_)
   obtain⟨v30,hv30,h⟩:=rb_ h
   refine ai [false,false,false] (SvO_ (res':=(.sl false 5 (v30.map (ak false)))) (iDr_3 hv30) (by simp only[vt_,vs_,va_,vl_,aG,RB,RS])) SC (S ?_)
   obtain⟨v34,hv34,h⟩:=rb_ h
   refine ai [true] (Sat.give (args:=[(.sl true 1 (([v30,v25.Left]).map (Lv false 5 (ak false))))]) [true] (by have gg:=sCS_4 hv34; simp only[gv_t,gv_f,gv_n,vs_,va_,vl_,vrB_,vrI_,aG,RB,RS] at gg ⊢; exact gg)) SC (S ?_)
   obtain⟨v38,hv38,h⟩:=rb_ h
   refine ai [false,false,false] (SvO_ (res':=(.sl false 5 (v38.map (ak false)))) (iDr_3 hv38) (by simp only[vt_,vs_,va_,vl_,aG,RB,RS])) SC (S ?_)
   obtain⟨v42,hv42,h⟩:=rb_ h
   refine ai [true] (Sat.give (args:=[(.sl true 1 (([v38,v25.Right]).map (Lv false 5 (ak false))))]) [true] (by have gg:=sCS_4 hv42; simp only[gv_t,gv_f,gv_n,vs_,va_,vl_,vrB_,vrI_,aG,RB,RS] at gg ⊢; exact gg)) SC (S ?_)
   obtain⟨v44,hv44,h⟩:=rb_ h
   refine ai [false] (icS_1 hv44) SC (S ?_)
   refine ae (DHa_ [11] [528,544,656,672,704,705]) (S ?_)
   obtain⟨v46,hv46,h⟩:=rb_ h
   refine ai [false] (iIV_10 hv46) SC (S ?_)
   refine aj cs h (fun cs h=>S ?_) (fun cs h=>S ?_)
   ·obtain⟨v51,hv51,h⟩:=rb_ h
    refine aS (f:=(aM true)) (fun a=>Sa.psize _ a) hv51 SC SC (S ?_)
    have h:=rs_ h
    refine aB ⟨_,h,?_⟩
    refine aU (Slm_1 (S:=[(2,.box (.pv ((aM false) a0))),(3,.box (.pv ((aq false) a1))),(8,.val (.own 816)),(21,.val (.pv (.sl false 2 (v15.1.map (aM false))))),(22,.val (.pv (I (v15.1.length:Int)))),(23,.val (.pv (I (IntKind.i64.wrap ((i6:Int)+1)))))]) (O:=[(816,(2,v51.map (aM true)))]) SW SW) ?_
    refine Slr_ 816 320 (by decide) NM ?_
    exact Slm_ SW
   ·cases rs_ h
    exact ag SC
  ·refine S ?_
   refine aJ cs (by omega) (fun cs=>S ?_)
   cases rs_ h
   exact ag SC
 ·cases rs_ h
  exact ag SC

theorem iPO_1{a0:Sa}{a1:Dt}  {r:(List Sa)×Bool}(h:iPO_ a0 a1=some r):Sat ah 166 [((aM false) a0),((aq false) a1)] (.tup [(.sl true 2 (r.1.map (aM true))),(B r.2)]):=by
 obtain⟨h,cs⟩:=Ro_ h
 unfold iPO_ at h
 refine av (nt:=14) (rs:=[.tmp 4,.tmp 5]) (n:=100000) Tryz.func166 rfl rfl rfl rfl (by simp) (S ?_)
 obtain⟨v7,hv7,h⟩:=rb_ h
 refine ai [false] (iIV_10 hv7) SC (S ?_)
 refine aj cs h (fun cs h=>S ?_) (fun cs h=>S ?_)
 ·obtain⟨v11,hv11,h⟩:=rb_ h
  refine ai [false,false] (ips_ hv11) SC (S ?_)
  cases rs_ h
  exact ag SC
 ·cases rs_ h
  exact ag SC

theorem isF_4{a0:List Ft}{a1:List Ft}  {r:Bool}(h:isF_1 a0 a1=some r):Sat ah 151 [(.sl false 5 (a0.map (ak false))),(.sl false 5 (a1.map (ak false)))] (B r):=by
 obtain⟨h,cs⟩:=Ro_ h
 unfold isF_1 at h
 refine av (nt:=8) (rs:=[.tmp 4]) (n:=100000) Tryz.func151 rfl rfl rfl rfl (by simp) (S ?_)
 obtain⟨v7,hv7,h⟩:=rb_ h
 refine ai [false,false,false] (sEF_3 (fun _ _ _ hh=>isF_3 hh) (by simp only[COn_,COc_]) hv7) SC (S ?_)
 cases rs_ h
 exact ag SC

theorem isS_1{a0:Sa}{a1:Sa}  {r:Bool}(h:isS_ a0 a1=some r):Sat ah 128 [((aM false) a0),((aM false) a1)] (B r):=by
 obtain⟨h,cs⟩:=Ro_ h
 unfold isS_ at h
 refine av (nt:=17) (rs:=[.tmp 4]) (n:=100000) Tryz.func128 rfl rfl rfl rfl (by simp) (S ?_)
 obtain⟨v9,hv9,h⟩:=rb_ h
 refine ai [false,false] (isF_4 hv9) SC (S ?_)
 refine aj cs h (fun cs h=>S ?_) (fun cs h=>S ?_)
 ·obtain⟨v15,hv15,h⟩:=rb_ h
  refine ai [false,false] (isF_4 hv15) SC (S ?_)
  cases rs_ h
  exact ag SC
 ·cases rs_ h
  exact ag SC

theorem iiR_2{a0:Sa}{a1:Dt}  {r:Bool}(h:iiR_ a0 a1=some r):Sat ah 168 [((aM false) a0),((aq false) a1)] (B r):=by
 obtain⟨h,cs⟩:=Ro_ h
 unfold iiR_ at h
 refine av (nt:=9) (rs:=[.tmp 4]) (n:=100000) Tryz.func168 rfl rfl rfl rfl (by simp) (S ?_)
 obtain⟨v8,hv8,h⟩:=rb_ h
 refine ai [false,false] (isS_1 hv8) SC (S ?_)
 cases rs_ h
 exact ag SC

theorem sEF_4{a0:List Sa}{a1:List Dt}{a2:Sa→Dt→Option Bool}{a2_id:FuncId}{a2_cs:List PV}(a2_ok:∀ y0 y1 r,a2 y0 y1=some r→Sat ah a2_id (((aM false) y0)::((aq false) y1)::a2_cs) (B r))(a2_cz:CO_ a2_cs=True){r:Bool}(h:sEF_1 a0 a1 a2=some r):Sat ah 167 [(.sl false 2 (a0.map (aM false))),(.sl false 12 (a1.map (aq false))),.clo a2_id a2_cs] (B r):=by
 obtain⟨h,cs⟩:=Ro_ h
 unfold sEF_1 at h
 have cs:=ae a2_cz cs
 refine av (nt:=32) (rs:=[.tmp 6]) (n:=100000) Tryz.func167 rfl rfl rfl rfl (by simp) (S ?_)
 refine aj cs h (fun cs h=>S ?_) (fun cs h=>S ?_)
 ·refine aO (b:=false) (sz:=2) (es:=a0.map (aM false)) 0 SC fun hl0=>?_; rw[aD] at hl0
  replace h:=rl_ h
  refine aK h (fun i4 s4=>[(1,.val (.pv (.sl false 12 (a1.map (aq false))))),(2,.val (.pv (.clo a2_id a2_cs))),(15,.val (.pv (.sl false 2 (a0.map (aM false))))),(16,.val (.pv (I (a0.length:Int)))),(17,.val (.pv (I (i4:Int))))]) (fun i4 s4=>[]) (Slm_ SC) (fun i4 s4 hi h=>?_) (fun s4 h=>?_)
  ·have w:=ws_ (i:=i4) (by omega)
   refine S ?_
   refine aI cs (by omega) (fun cs=>S ?_)
   obtain⟨v20,hv20,h⟩:=rb_ h
   refine au (f:=(aM false)) hv20 SC (S ?_)
   obtain⟨v24,hv24,h⟩:=rb_ h
   refine au (f:=(aq false)) hv24 SC (S ?_)
   obtain⟨v29,hv29,h⟩:=rb_ h
   refine ai [false,false] (a2_ok _ _ _ hv29) SC (S ?_)
   refine aj cs h (fun cs h=>S ?_) (fun cs h=>S ?_)
   ·have h:=rs_ h
    refine aB ⟨_,h,?_⟩
    exact Slm_ SW
   ·cases rs_ h
    exact ag SC
  ·refine S ?_
   refine aJ cs (by omega) (fun cs=>S ?_)
   cases rs_ h
   exact ag SC
 ·cases rs_ h
  exact ag SC

theorem iiR_3{a0:Dt}  {r:Bool}(h:iiR_1 a0=some r):Sat ah 146 [((aq false) a0)] (B r):=by
 obtain⟨h,cs⟩:=Ro_ h
 unfold iiR_1 at h
 refine av (nt:=19) (rs:=[.tmp 2]) (n:=100000) Tryz.func146 rfl rfl rfl rfl (by simp) (S ?_)
 obtain⟨v9,hv9,h⟩:=rb_ h
 refine ai [false,false] (iPO_1 hv9) SC (S ?_)
 refine aj cs h (fun cs h=>S ?_) (fun cs h=>S ?_)
 ·obtain⟨v17,hv17,h⟩:=rb_ h
  refine ai [false,false,false] (sEF_4 (fun _ _ _ hh=>iiR_2 hh) (by simp only[COn_,COc_]) hv17) SC (S ?_)
  cases rs_ h
  exact ag SC
 ·cases rs_ h
  exact ag SC

theorem ifW_2(n:Nat):(∀ (a0:Dt) (r:(List Int)×Bool),ifW_ n a0=some r→Sat ah 119 [((aq false) a0)] (.tup [(.sl true 1 (r.1.map I)),(B r.2)])):=by
 induction n with
 | zero=>exact fun _ _ h=>by simp[ifW_] at h
 | succ n ih=>
  refine fun a0 r h=>?_
  obtain⟨h,cs⟩:=Ro_ h
  rw[ifW_] at h
  refine av (nt:=31) (rs:=[.tmp 2,.tmp 3]) (n:=100000) Tryz.func119 rfl rfl rfl rfl (by simp) (S ?_)
  obtain⟨v9,hv9,h⟩:=rb_ h
  refine ai [false] (iiR_3 hv9) SC (S ?_)
  refine aj cs h (fun cs h=>S ?_) (fun cs h=>S ?_)
  ·refine aO (b:=false) (sz:=12) (es:=a0.Parts.map (aq false)) 13 SC fun hl13=>?_; rw[aD] at hl13
   replace h:=rl_ h
   refine aK h (fun i4 s4=>[(13,.val (.pv (.sl false 12 (a0.Parts.map (aq false))))),(14,.val (.pv (I (a0.Parts.length:Int)))),(15,.val (.pv (I (i4:Int))))]) (fun i4 s4=>[]) (Slm_ SC) (fun i4 s4 hi h=>?_) (fun s4 h=>?_)
   ·have w:=ws_ (i:=i4) (by omega)
    refine S ?_
    refine aI cs (by omega) (fun cs=>S ?_)
    obtain⟨v18,hv18,h⟩:=rb_ h
    refine au (f:=(aq false)) hv18 SC (S ?_)
    obtain⟨v22,hv22,h⟩:=rb_ h
    refine ai [false] (ih _ _ hv22) SC (S ?_)
    refine aj cs h (fun cs h=>S ?_) (fun cs h=>S ?_)
    ·obtain⟨v29,hv29,h⟩:=rb_ h
     refine aS (f:=I) (fun _=>rfl) hv29 SC SC (S ?_)
     cases rs_ h
     exact ag SC
    ·have h:=rs_ h
     refine aB ⟨_,h,?_⟩
     exact Slm_ SW
   ·refine S ?_
    refine aJ cs (by omega) (fun cs=>S ?_)
    cases rs_ h
    exact ag SC
  ·cases rs_ h
   exact ag SC
theorem ifW_3{a0:Dt}{r:(List Int)×Bool}(h:ifW_1 a0=some r):Sat ah 119 [((aq false) a0)] (.tup [(.sl true 1 (r.1.map I)),(B r.2)]):=by
 obtain⟨n,hn⟩:=ls_ h
 exact(ifW_2 n) _ _ hn

theorem iFW_1{a0:Dt}  {r:(List Int)×Bool×Bool}(h:iFW_ a0=some r):Sat ah 81 [((aq false) a0)] (.tup [(.sl true 1 (r.1.map I)),(B r.2.1),(B r.2.2)]):=by
 obtain⟨h,cs⟩:=Ro_ h
 unfold iFW_ at h
 refine av (nt:=17) (rs:=[.tmp 2,.tmp 3,.tmp 4]) (n:=100000) Tryz.func81 rfl rfl rfl rfl (by simp) (S ?_)
 obtain⟨v8,hv8,h⟩:=rb_ h
 refine ai [false] (irN_3 hv8) SC (S ?_)
 refine aj cs h (fun cs h=>S ?_) (fun cs h=>S ?_)
 ·cases rs_ h
  exact ag SC
 ·obtain⟨v12,hv12,h⟩:=rb_ h
  refine ai [false] (ifW_3 hv12) SC (S ?_)
  cases rs_ h
  exact ag SC

theorem iIV_7{a0:Dt}  {r:Bool}(h:iIV_3 a0=some r):Sat ah 45 [((aq false) a0)] (B r):=by
 obtain⟨h,cs⟩:=Ro_ h
 unfold iIV_3 at h
 refine av (nt:=17) (rs:=[.tmp 2]) (n:=100000) Tryz.func45 rfl rfl rfl rfl (by simp) (S ?_)
 obtain⟨v8,hv8,h⟩:=rb_ h
 refine ai [false] (iFW_1 hv8) SC (S ?_)
 refine aj cs h (fun cs h=>S ?_) (fun cs h=>S ?_)
 ·cases rs_ h
  exact ag SC
 ·cases rs_ h
  exact ag SC

theorem icD_2(n:Nat):(∀ (a0:Dt) (r:Dt),icD_ n a0=some r→Sat ah 111 [((aq false) a0)] ((aq true) r)):=by
 induction n with
 | zero=>exact fun _ _ h=>by simp[icD_] at h
 | succ n ih=>
  refine fun a0 r h=>?_
  obtain⟨h,cs⟩:=Ro_ h
  rw[icD_] at h
  refine av (nt:=36) (rs:=[.cell 2 47]) (n:=100000) Tryz.func111 rfl rfl rfl rfl (by simp) (S ?_)
  obtain⟨v10,hv10,h⟩:=rb_ h
  refine ai [false] (icS_1 hv10) SC (S ?_)
  obtain⟨v15,hv15,h⟩:=rb_ h
  refine ai [false] (icT_3 hv15) SC (S ?_)
  obtain⟨v18,hv18,h⟩:=rb_ h
  refine ai [false] (icF_2 hv18) SC (S ?_)
  refine ae (DHa_ [3] [160,161,240,288,289]) (S ?_)
  refine aO (b:=false) (sz:=12) (es:=a0.Parts.map (aq false)) 21 SC fun hl21=>?_; rw[aD] at hl21
  replace h:=rl_ h
  refine aK h (fun i3 s3=>[(2,.box (.node [(.pv (I 0)),(.node [(.pv (.sl true 5 [])),(.pv (.sl true 5 []))]),(.pv (I 0)),(.node [(.pv (Sx ⟨#[]⟩)),(.pv (.sl true 2 []))]),(.node [(.pv (I 0)),(.node [(.pv (Sx ⟨#[]⟩)),(.pv (.sl true 2 []))]),(.pv (Sx ⟨#[]⟩)),(.pv (.sl true 5 []))]),(.pv (.sl true 12 []))])),(3,.box (.node [(.pv (I a0.Rule)),(.node [(.own 160),(.own 161)]),(.pv (I a0.Main)),(.node [(.pv (Sx v15.Name)),(.own 240)]),(.node [(.pv (I v18.Op)),(.node [(.pv (Sx v18.Atom.Name)),(.own 288)]),(.pv (Sx v18.Var)),(.own 289)]),(.own 9309)])),(21,.val (.pv (.sl false 12 (a0.Parts.map (aq false))))),(22,.val (.pv (I (a0.Parts.length:Int)))),(23,.val (.pv (I (i3:Int))))]) (fun i3 s3=>[(160,(5,v10.Left.map (ak true))),(161,(5,v10.Right.map (ak true))),(240,(2,v15.Args.map (am true))),(288,(2,v18.Atom.Args.map (am true))),(289,(5,v18.Parts.map (ak true))),(9309,(12,s3.map (aq true)))]) (aU (Sln_ (x:=(.node [(.pv (I a0.Rule)),(.node [(.own 160),(.own 161)]),(.pv (I a0.Main)),(.node [(.pv (Sx v15.Name)),(.own 240)]),(.node [(.pv (I v18.Op)),(.node [(.pv (Sx v18.Atom.Name)),(.own 288)]),(.pv (Sx v18.Var)),(.own 289)]),(.pv (.sl true 12 []))])) 3 [5] 9309 12 NM SC SC SC) (Slm_ SC)) (fun i3 s3 hi h=>?_) (fun s3 h=>?_)
  ·have w:=ws_ (i:=i3) (by omega)
   refine S ?_
   refine aI cs (by omega) (fun cs=>S ?_)
   obtain⟨v25,hv25,h⟩:=rb_ h
   refine au (f:=(aq false)) hv25 SC (S ?_)
   obtain⟨v30,hv30,h⟩:=rb_ h
   refine ai [false] (ih _ _ hv30) SC (S ?_)
   obtain⟨v32,hv32,h⟩:=rb_ h
   refine aS (f:=(aq true)) (fun a=>Dt.psize _ a) hv32 SC SC (S ?_)
   refine ae (DHa_ [] [480,481,482,483,484,485,496,512]) (S ?_)
   have h:=rs_ h
   refine aB ⟨_,h,?_⟩
   refine aU (Slm_1 (S:=[(2,.box (.node [(.pv (I 0)),(.node [(.pv (.sl true 5 [])),(.pv (.sl true 5 []))]),(.pv (I 0)),(.node [(.pv (Sx ⟨#[]⟩)),(.pv (.sl true 2 []))]),(.node [(.pv (I 0)),(.node [(.pv (Sx ⟨#[]⟩)),(.pv (.sl true 2 []))]),(.pv (Sx ⟨#[]⟩)),(.pv (.sl true 5 []))]),(.pv (.sl true 12 []))])),(3,.box (.node [(.pv (I a0.Rule)),(.node [(.own 160),(.own 161)]),(.pv (I a0.Main)),(.node [(.pv (Sx v15.Name)),(.own 240)]),(.node [(.pv (I v18.Op)),(.node [(.pv (Sx v18.Atom.Name)),(.own 288)]),(.pv (Sx v18.Var)),(.own 289)]),(.own 512)])),(21,.val (.pv (.sl false 12 (a0.Parts.map (aq false))))),(22,.val (.pv (I (a0.Parts.length:Int)))),(23,.val (.pv (I (IntKind.i64.wrap ((i3:Int)+1)))))]) (O:=[(160,(5,v10.Left.map (ak true))),(161,(5,v10.Right.map (ak true))),(240,(2,v15.Args.map (am true))),(288,(2,v18.Atom.Args.map (am true))),(289,(5,v18.Parts.map (ak true))),(512,(12,v32.map (aq true)))]) SW SW) ?_
   refine Slr_ 512 9309 (by decide) NM ?_
   exact Slm_ SW
  ·refine S ?_
   refine aJ cs (by omega) (fun cs=>S ?_)
   cases rs_ h
   exact ag SC
theorem icD_3{a0:Dt}{r:Dt}(h:icD_1 a0=some r):Sat ah 111 [((aq false) a0)] ((aq true) r):=by
 obtain⟨n,hn⟩:=ls_ h
 exact(icD_2 n) _ _ hn


theorem iwN_1(n:Nat):(∀ (a0:Dt) (a1:Ft) (a2:Bool) (a3:Int) (r:Dt),iwN_ n a0 a1 a2 a3=some r→Sat ah 75 [((aq false) a0),((ak false) a1),(B a2),(I a3)] ((aq true) r)):=by
 induction n with
 | zero=>exact fun _ _ _ _ _ h=>by simp[iwN_] at h
 | succ n ih=>
  refine fun a0 a1 a2 a3 r h=>?_
  obtain⟨h,cs⟩:=Ro_ h
  rw[iwN_] at h
  refine av (nt:=89) (rs:=[.cell 8 47]) (n:=100000) Tryz.func75 rfl rfl rfl rfl (by simp) (S ?_)
  obtain⟨v18,hv18,h⟩:=rb_ h
  refine ai [false] (icD_3 hv18) SC (S ?_)
  refine aj cs h (fun cs h=>S ?_) (fun cs h=>S ?_)
  ·obtain⟨v30,hv30,h⟩:=rb_ h
   refine ai [false] (icF_2 hv30) SC (S ?_)
   obtain⟨v32,hv32,h⟩:=rb_ h
   refine ai [true,false,true] (sIF_5 hv32) SC (S ?_)
   refine ae (DHa_ [] [480,481,496,512]) (S ?_)
   obtain⟨N8,hN8,h⟩:=rb_ h
   obtain⟨hN8a,hN8b⟩:=bs_ hN8
   replace h:=rl_ h
   refine aK h (fun i8 s8=>[(2,.val (.pv (B a2))),(3,.val (.pv (I a3))),(4,.box (.pv ((aq false) a0))),(5,.box (.pv ((ak false) a1))),(8,.box (.node [(.pv (I 0)),(.node [(.pv (.sl true 5 [])),(.pv (.sl true 5 []))]),(.pv (I 0)),(.node [(.pv (Sx ⟨#[]⟩)),(.pv (.sl true 2 []))]),(.node [(.pv (I 0)),(.node [(.pv (Sx ⟨#[]⟩)),(.pv (.sl true 2 []))]),(.pv (Sx ⟨#[]⟩)),(.pv (.sl true 5 []))]),(.pv (.sl true 12 []))])),(9,.box (.node [(.pv (I v18.Rule)),(.node [(.own 512),(.own 289)]),(.pv (I v18.Main)),(.node [(.pv (Sx v18.Term.Name)),(.own 290)]),(.node [(.pv (I v18.Cut.Op)),(.node [(.pv (Sx v18.Cut.Atom.Name)),(.own 291)]),(.pv (Sx v18.Cut.Var)),(.own 292)]),(.own 293)])),(11,.val (.pv (I s8))),(35,.val (.pv (I a3))),(36,.val (.pv (I (i8:Int))))]) (fun i8 s8=>[(512,(5,v32.map (ak true))),(289,(5,v18.Sequent.Right.map (ak true))),(290,(2,v18.Term.Args.map (am true))),(291,(2,v18.Cut.Atom.Args.map (am true))),(292,(5,v18.Cut.Parts.map (ak true))),(293,(12,v18.Parts.map (aq true)))]) (Slm_ SC) (fun i8 s8 hi h=>?_) (fun s8 h=>?_)
   ·have w:=ws_ (i:=i8) (by omega)
    refine S ?_
    refine aI cs (by omega) (fun cs=>S ?_)
    obtain⟨v42,hv42,h⟩:=rb_ h
    refine ai [false,false,false] (iDr_2 hv42) SC (S ?_)
    refine aj cs h (fun cs h=>S ?_) (fun cs h=>S ?_)
    ·have h:=rs_ h
     refine aB ⟨_,h,?_⟩
     exact Slm_ SW
    ·have h:=rs_ h
     refine aB ⟨_,h,?_⟩
     exact Slm_ SW
   ·refine S ?_
    refine aJ cs (by omega) (fun cs=>S ?_)
    obtain⟨v49,hv49,h⟩:=rb_ h
    refine ai [false] (imO_1 hv49) SC (S ?_)
    refine aj cs h (fun cs h=>S ?_) (fun cs h=>S ?_)
    ·refine aO (b:=false) (sz:=12) (es:=a0.Parts.map (aq false)) 71 SC fun hl71=>?_; rw[aD] at hl71
     replace h:=rl_ h
     refine aK h (fun i17 s17=>[(2,.val (.pv (B a2))),(5,.box (.pv ((ak false) a1))),(8,.box (.node [(.pv (I 0)),(.node [(.pv (.sl true 5 [])),(.pv (.sl true 5 []))]),(.pv (I 0)),(.node [(.pv (Sx ⟨#[]⟩)),(.pv (.sl true 2 []))]),(.node [(.pv (I 0)),(.node [(.pv (Sx ⟨#[]⟩)),(.pv (.sl true 2 []))]),(.pv (Sx ⟨#[]⟩)),(.pv (.sl true 5 []))]),(.pv (.sl true 12 []))])),(9,.box (.node [(.pv (I v18.Rule)),(.node [(.own 512),(.own 289)]),(.pv (I v18.Main)),(.node [(.pv (Sx v18.Term.Name)),(.own 290)]),(.node [(.pv (I v18.Cut.Op)),(.node [(.pv (Sx v18.Cut.Atom.Name)),(.own 291)]),(.pv (Sx v18.Cut.Var)),(.own 292)]),(.own 293)])),(11,.val (.pv (I s8))),(71,.val (.pv (.sl false 12 (a0.Parts.map (aq false))))),(72,.val (.pv (I (a0.Parts.length:Int)))),(73,.val (.pv (I (i17:Int))))]) (fun i17 s17=>[(512,(5,v32.map (ak true))),(289,(5,v18.Sequent.Right.map (ak true))),(290,(2,v18.Term.Args.map (am true))),(291,(2,v18.Cut.Atom.Args.map (am true))),(292,(5,v18.Cut.Parts.map (ak true))),(293,(12,s17.map (aq true)))]) (Slm_ SC) (fun i17 s17 hi h=>?_) (fun s17 h=>?_)
     ·have w:=ws_ (i:=i17) (by omega)
      refine S ?_
      refine aI cs (by omega) (fun cs=>S ?_)
      obtain⟨v76,hv76,h⟩:=rb_ h
      refine au (f:=(aq false)) hv76 SC (S ?_)
      obtain⟨v85,hv85,h⟩:=rb_ h
      refine ai [false,false,false,false] (ih _ _ _ _ _ hv85) SC (S ?_)
      obtain⟨v86,hv86,h⟩:=rb_ h
      refine au (f:=(aq true)) hv86 SC (S ?_)
      obtain⟨w7,hw7,h⟩:=rb_ h
      refine bt (f:=(aq true)) hw7 rfl SC (S ?_)
      refine ae (DHa_ [] [1360,1361,1362,1363,1364,1365]) (S ?_)
      have h:=rs_ h
      refine aB ⟨_,h,?_⟩
      exact Slm_ SW
     ·refine S ?_
      refine aJ cs (by omega) (fun cs=>S ?_)
      cases rs_ h
      exact ag SC
    ·refine aj cs h (fun cs h=>S ?_) (fun cs h=>S ?_)
     ·refine aj cs h (fun cs h=>S ?_) (fun cs h=>S ?_)
      ·refine aO (b:=false) (sz:=12) (es:=a0.Parts.map (aq false)) 71 SC fun hl71=>?_; rw[aD] at hl71
       replace h:=rl_ h
       refine aK h (fun i17 s17=>[(2,.val (.pv (B a2))),(5,.box (.pv ((ak false) a1))),(8,.box (.node [(.pv (I 0)),(.node [(.pv (.sl true 5 [])),(.pv (.sl true 5 []))]),(.pv (I 0)),(.node [(.pv (Sx ⟨#[]⟩)),(.pv (.sl true 2 []))]),(.node [(.pv (I 0)),(.node [(.pv (Sx ⟨#[]⟩)),(.pv (.sl true 2 []))]),(.pv (Sx ⟨#[]⟩)),(.pv (.sl true 5 []))]),(.pv (.sl true 12 []))])),(9,.box (.node [(.pv (I v18.Rule)),(.node [(.own 512),(.own 289)]),(.pv (I (IntKind.i64.wrap (v18.Main+1)))),(.node [(.pv (Sx v18.Term.Name)),(.own 290)]),(.node [(.pv (I v18.Cut.Op)),(.node [(.pv (Sx v18.Cut.Atom.Name)),(.own 291)]),(.pv (Sx v18.Cut.Var)),(.own 292)]),(.own 293)])),(11,.val (.pv (I s8))),(71,.val (.pv (.sl false 12 (a0.Parts.map (aq false))))),(72,.val (.pv (I (a0.Parts.length:Int)))),(73,.val (.pv (I (i17:Int))))]) (fun i17 s17=>[(512,(5,v32.map (ak true))),(289,(5,v18.Sequent.Right.map (ak true))),(290,(2,v18.Term.Args.map (am true))),(291,(2,v18.Cut.Atom.Args.map (am true))),(292,(5,v18.Cut.Parts.map (ak true))),(293,(12,s17.map (aq true)))]) (Slm_ SC) (fun i17 s17 hi h=>?_) (fun s17 h=>?_)
       ·have w:=ws_ (i:=i17) (by omega)
        refine S ?_
        refine aI cs (by omega) (fun cs=>S ?_)
        obtain⟨v76,hv76,h⟩:=rb_ h
        refine au (f:=(aq false)) hv76 SC (S ?_)
        obtain⟨v85,hv85,h⟩:=rb_ h
        refine ai [false,false,false,false] (ih _ _ _ _ _ hv85) SC (S ?_)
        obtain⟨v86,hv86,h⟩:=rb_ h
        refine au (f:=(aq true)) hv86 SC (S ?_)
        obtain⟨w12,hw12,h⟩:=rb_ h
        refine bt (f:=(aq true)) hw12 rfl SC (S ?_)
        refine ae (DHa_ [] [1360,1361,1362,1363,1364,1365]) (S ?_)
        have h:=rs_ h
        refine aB ⟨_,h,?_⟩
        exact Slm_ SW
       ·refine S ?_
        refine aJ cs (by omega) (fun cs=>S ?_)
        cases rs_ h
        exact ag SC
      ·refine aO (b:=false) (sz:=12) (es:=a0.Parts.map (aq false)) 71 SC fun hl71=>?_; rw[aD] at hl71
       replace h:=rl_ h
       refine aK h (fun i17 s17=>[(2,.val (.pv (B a2))),(5,.box (.pv ((ak false) a1))),(8,.box (.node [(.pv (I 0)),(.node [(.pv (.sl true 5 [])),(.pv (.sl true 5 []))]),(.pv (I 0)),(.node [(.pv (Sx ⟨#[]⟩)),(.pv (.sl true 2 []))]),(.node [(.pv (I 0)),(.node [(.pv (Sx ⟨#[]⟩)),(.pv (.sl true 2 []))]),(.pv (Sx ⟨#[]⟩)),(.pv (.sl true 5 []))]),(.pv (.sl true 12 []))])),(9,.box (.node [(.pv (I v18.Rule)),(.node [(.own 512),(.own 289)]),(.pv (I v18.Main)),(.node [(.pv (Sx v18.Term.Name)),(.own 290)]),(.node [(.pv (I v18.Cut.Op)),(.node [(.pv (Sx v18.Cut.Atom.Name)),(.own 291)]),(.pv (Sx v18.Cut.Var)),(.own 292)]),(.own 293)])),(11,.val (.pv (I s8))),(71,.val (.pv (.sl false 12 (a0.Parts.map (aq false))))),(72,.val (.pv (I (a0.Parts.length:Int)))),(73,.val (.pv (I (i17:Int))))]) (fun i17 s17=>[(512,(5,v32.map (ak true))),(289,(5,v18.Sequent.Right.map (ak true))),(290,(2,v18.Term.Args.map (am true))),(291,(2,v18.Cut.Atom.Args.map (am true))),(292,(5,v18.Cut.Parts.map (ak true))),(293,(12,s17.map (aq true)))]) (Slm_ SC) (fun i17 s17 hi h=>?_) (fun s17 h=>?_)
       ·have w:=ws_ (i:=i17) (by omega)
        refine S ?_
        refine aI cs (by omega) (fun cs=>S ?_)
        obtain⟨v76,hv76,h⟩:=rb_ h
        refine au (f:=(aq false)) hv76 SC (S ?_)
        obtain⟨v85,hv85,h⟩:=rb_ h
        refine ai [false,false,false,false] (ih _ _ _ _ _ hv85) SC (S ?_)
        obtain⟨v86,hv86,h⟩:=rb_ h
        refine au (f:=(aq true)) hv86 SC (S ?_)
        obtain⟨w15,hw15,h⟩:=rb_ h
        refine bt (f:=(aq true)) hw15 rfl SC (S ?_)
        refine ae (DHa_ [] [1360,1361,1362,1363,1364,1365]) (S ?_)
        have h:=rs_ h
        refine aB ⟨_,h,?_⟩
        exact Slm_ SW
       ·refine S ?_
        refine aJ cs (by omega) (fun cs=>S ?_)
        cases rs_ h
        exact ag SC
     ·refine aO (b:=false) (sz:=12) (es:=a0.Parts.map (aq false)) 71 SC fun hl71=>?_; rw[aD] at hl71
      replace h:=rl_ h
      refine aK h (fun i17 s17=>[(2,.val (.pv (B a2))),(5,.box (.pv ((ak false) a1))),(8,.box (.node [(.pv (I 0)),(.node [(.pv (.sl true 5 [])),(.pv (.sl true 5 []))]),(.pv (I 0)),(.node [(.pv (Sx ⟨#[]⟩)),(.pv (.sl true 2 []))]),(.node [(.pv (I 0)),(.node [(.pv (Sx ⟨#[]⟩)),(.pv (.sl true 2 []))]),(.pv (Sx ⟨#[]⟩)),(.pv (.sl true 5 []))]),(.pv (.sl true 12 []))])),(9,.box (.node [(.pv (I v18.Rule)),(.node [(.own 512),(.own 289)]),(.pv (I v18.Main)),(.node [(.pv (Sx v18.Term.Name)),(.own 290)]),(.node [(.pv (I v18.Cut.Op)),(.node [(.pv (Sx v18.Cut.Atom.Name)),(.own 291)]),(.pv (Sx v18.Cut.Var)),(.own 292)]),(.own 293)])),(11,.val (.pv (I s8))),(71,.val (.pv (.sl false 12 (a0.Parts.map (aq false))))),(72,.val (.pv (I (a0.Parts.length:Int)))),(73,.val (.pv (I (i17:Int))))]) (fun i17 s17=>[(512,(5,v32.map (ak true))),(289,(5,v18.Sequent.Right.map (ak true))),(290,(2,v18.Term.Args.map (am true))),(291,(2,v18.Cut.Atom.Args.map (am true))),(292,(5,v18.Cut.Parts.map (ak true))),(293,(12,s17.map (aq true)))]) (Slm_ SC) (fun i17 s17 hi h=>?_) (fun s17 h=>?_)
      ·have w:=ws_ (i:=i17) (by omega)
       refine S ?_
       refine aI cs (by omega) (fun cs=>S ?_)
       obtain⟨v76,hv76,h⟩:=rb_ h
       refine au (f:=(aq false)) hv76 SC (S ?_)
       obtain⟨v85,hv85,h⟩:=rb_ h
       refine ai [false,false,false,false] (ih _ _ _ _ _ hv85) SC (S ?_)
       obtain⟨v86,hv86,h⟩:=rb_ h
       refine au (f:=(aq true)) hv86 SC (S ?_)
       obtain⟨w18,hw18,h⟩:=rb_ h
       refine bt (f:=(aq true)) hw18 rfl SC (S ?_)
       refine ae (DHa_ [] [1360,1361,1362,1363,1364,1365]) (S ?_)
       have h:=rs_ h
       refine aB ⟨_,h,?_⟩
       exact Slm_ SW
      ·refine S ?_
       refine aJ cs (by omega) (fun cs=>S ?_)
       cases rs_ h
       exact ag SC
  ·obtain⟨v30,hv30,h⟩:=rb_ h
   refine ai [false] (icF_2 hv30) SC (S ?_)
   obtain⟨v32,hv32,h⟩:=rb_ h
   refine ai [true,false,true] (sIF_5 hv32) SC (S ?_)
   refine ae (DHa_ [] [480,481,496,512]) (S ?_)
   obtain⟨N8,hN8,h⟩:=rb_ h
   obtain⟨hN8a,hN8b⟩:=bs_ hN8
   replace h:=rl_ h
   refine aK h (fun i8 s8=>[(2,.val (.pv (B a2))),(3,.val (.pv (I a3))),(4,.box (.pv ((aq false) a0))),(5,.box (.pv ((ak false) a1))),(8,.box (.node [(.pv (I 0)),(.node [(.pv (.sl true 5 [])),(.pv (.sl true 5 []))]),(.pv (I 0)),(.node [(.pv (Sx ⟨#[]⟩)),(.pv (.sl true 2 []))]),(.node [(.pv (I 0)),(.node [(.pv (Sx ⟨#[]⟩)),(.pv (.sl true 2 []))]),(.pv (Sx ⟨#[]⟩)),(.pv (.sl true 5 []))]),(.pv (.sl true 12 []))])),(9,.box (.node [(.pv (I v18.Rule)),(.node [(.own 288),(.own 512)]),(.pv (I v18.Main)),(.node [(.pv (Sx v18.Term.Name)),(.own 290)]),(.node [(.pv (I v18.Cut.Op)),(.node [(.pv (Sx v18.Cut.Atom.Name)),(.own 291)]),(.pv (Sx v18.Cut.Var)),(.own 292)]),(.own 293)])),(11,.val (.pv (I s8))),(35,.val (.pv (I a3))),(36,.val (.pv (I (i8:Int))))]) (fun i8 s8=>[(288,(5,v18.Sequent.Left.map (ak true))),(512,(5,v32.map (ak true))),(290,(2,v18.Term.Args.map (am true))),(291,(2,v18.Cut.Atom.Args.map (am true))),(292,(5,v18.Cut.Parts.map (ak true))),(293,(12,v18.Parts.map (aq true)))]) (Slm_ SC) (fun i8 s8 hi h=>?_) (fun s8 h=>?_)
   ·have w:=ws_ (i:=i8) (by omega)
    refine S ?_
    refine aI cs (by omega) (fun cs=>S ?_)
    obtain⟨v42,hv42,h⟩:=rb_ h
    refine ai [false,false,false] (iDr_2 hv42) SC (S ?_)
    refine aj cs h (fun cs h=>S ?_) (fun cs h=>S ?_)
    ·have h:=rs_ h
     refine aB ⟨_,h,?_⟩
     exact Slm_ SW
    ·have h:=rs_ h
     refine aB ⟨_,h,?_⟩
     exact Slm_ SW
   ·refine S ?_
    refine aJ cs (by omega) (fun cs=>S ?_)
    obtain⟨v49,hv49,h⟩:=rb_ h
    refine ai [false] (imO_1 hv49) SC (S ?_)
    refine aj cs h (fun cs h=>S ?_) (fun cs h=>S ?_)
    ·refine aO (b:=false) (sz:=12) (es:=a0.Parts.map (aq false)) 71 SC fun hl71=>?_; rw[aD] at hl71
     replace h:=rl_ h
     refine aK h (fun i17 s17=>[(2,.val (.pv (B a2))),(5,.box (.pv ((ak false) a1))),(8,.box (.node [(.pv (I 0)),(.node [(.pv (.sl true 5 [])),(.pv (.sl true 5 []))]),(.pv (I 0)),(.node [(.pv (Sx ⟨#[]⟩)),(.pv (.sl true 2 []))]),(.node [(.pv (I 0)),(.node [(.pv (Sx ⟨#[]⟩)),(.pv (.sl true 2 []))]),(.pv (Sx ⟨#[]⟩)),(.pv (.sl true 5 []))]),(.pv (.sl true 12 []))])),(9,.box (.node [(.pv (I v18.Rule)),(.node [(.own 288),(.own 512)]),(.pv (I v18.Main)),(.node [(.pv (Sx v18.Term.Name)),(.own 290)]),(.node [(.pv (I v18.Cut.Op)),(.node [(.pv (Sx v18.Cut.Atom.Name)),(.own 291)]),(.pv (Sx v18.Cut.Var)),(.own 292)]),(.own 293)])),(11,.val (.pv (I s8))),(71,.val (.pv (.sl false 12 (a0.Parts.map (aq false))))),(72,.val (.pv (I (a0.Parts.length:Int)))),(73,.val (.pv (I (i17:Int))))]) (fun i17 s17=>[(288,(5,v18.Sequent.Left.map (ak true))),(512,(5,v32.map (ak true))),(290,(2,v18.Term.Args.map (am true))),(291,(2,v18.Cut.Atom.Args.map (am true))),(292,(5,v18.Cut.Parts.map (ak true))),(293,(12,s17.map (aq true)))]) (Slm_ SC) (fun i17 s17 hi h=>?_) (fun s17 h=>?_)
     ·have w:=ws_ (i:=i17) (by omega)
      refine S ?_
      refine aI cs (by omega) (fun cs=>S ?_)
      obtain⟨v76,hv76,h⟩:=rb_ h
      refine au (f:=(aq false)) hv76 SC (S ?_)
      obtain⟨v85,hv85,h⟩:=rb_ h
      refine ai [false,false,false,false] (ih _ _ _ _ _ hv85) SC (S ?_)
      obtain⟨v86,hv86,h⟩:=rb_ h
      refine au (f:=(aq true)) hv86 SC (S ?_)
      obtain⟨w25,hw25,h⟩:=rb_ h
      refine bt (f:=(aq true)) hw25 rfl SC (S ?_)
      refine ae (DHa_ [] [1360,1361,1362,1363,1364,1365]) (S ?_)
      have h:=rs_ h
      refine aB ⟨_,h,?_⟩
      exact Slm_ SW
     ·refine S ?_
      refine aJ cs (by omega) (fun cs=>S ?_)
      cases rs_ h
      exact ag SC
    ·refine aj cs h (fun cs h=>S ?_) (fun cs h=>S ?_)
     ·refine aj cs h (fun cs h=>S ?_) (fun cs h=>S ?_)
      ·refine aO (b:=false) (sz:=12) (es:=a0.Parts.map (aq false)) 71 SC fun hl71=>?_; rw[aD] at hl71
       replace h:=rl_ h
       refine aK h (fun i17 s17=>[(2,.val (.pv (B a2))),(5,.box (.pv ((ak false) a1))),(8,.box (.node [(.pv (I 0)),(.node [(.pv (.sl true 5 [])),(.pv (.sl true 5 []))]),(.pv (I 0)),(.node [(.pv (Sx ⟨#[]⟩)),(.pv (.sl true 2 []))]),(.node [(.pv (I 0)),(.node [(.pv (Sx ⟨#[]⟩)),(.pv (.sl true 2 []))]),(.pv (Sx ⟨#[]⟩)),(.pv (.sl true 5 []))]),(.pv (.sl true 12 []))])),(9,.box (.node [(.pv (I v18.Rule)),(.node [(.own 288),(.own 512)]),(.pv (I (IntKind.i64.wrap (v18.Main+1)))),(.node [(.pv (Sx v18.Term.Name)),(.own 290)]),(.node [(.pv (I v18.Cut.Op)),(.node [(.pv (Sx v18.Cut.Atom.Name)),(.own 291)]),(.pv (Sx v18.Cut.Var)),(.own 292)]),(.own 293)])),(11,.val (.pv (I s8))),(71,.val (.pv (.sl false 12 (a0.Parts.map (aq false))))),(72,.val (.pv (I (a0.Parts.length:Int)))),(73,.val (.pv (I (i17:Int))))]) (fun i17 s17=>[(288,(5,v18.Sequent.Left.map (ak true))),(512,(5,v32.map (ak true))),(290,(2,v18.Term.Args.map (am true))),(291,(2,v18.Cut.Atom.Args.map (am true))),(292,(5,v18.Cut.Parts.map (ak true))),(293,(12,s17.map (aq true)))]) (Slm_ SC) (fun i17 s17 hi h=>?_) (fun s17 h=>?_)
       ·have w:=ws_ (i:=i17) (by omega)
        refine S ?_
        refine aI cs (by omega) (fun cs=>S ?_)
        obtain⟨v76,hv76,h⟩:=rb_ h
        refine au (f:=(aq false)) hv76 SC (S ?_)
        obtain⟨v85,hv85,h⟩:=rb_ h
        refine ai [false,false,false,false] (ih _ _ _ _ _ hv85) SC (S ?_)
        obtain⟨v86,hv86,h⟩:=rb_ h
        refine au (f:=(aq true)) hv86 SC (S ?_)
        obtain⟨w30,hw30,h⟩:=rb_ h
        refine bt (f:=(aq true)) hw30 rfl SC (S ?_)
        refine ae (DHa_ [] [1360,1361,1362,1363,1364,1365]) (S ?_)
        have h:=rs_ h
        refine aB ⟨_,h,?_⟩
        exact Slm_ SW
       ·refine S ?_
        refine aJ cs (by omega) (fun cs=>S ?_)
        cases rs_ h
        exact ag SC
      ·refine aO (b:=false) (sz:=12) (es:=a0.Parts.map (aq false)) 71 SC fun hl71=>?_; rw[aD] at hl71
       replace h:=rl_ h
       refine aK h (fun i17 s17=>[(2,.val (.pv (B a2))),(5,.box (.pv ((ak false) a1))),(8,.box (.node [(.pv (I 0)),(.node [(.pv (.sl true 5 [])),(.pv (.sl true 5 []))]),(.pv (I 0)),(.node [(.pv (Sx ⟨#[]⟩)),(.pv (.sl true 2 []))]),(.node [(.pv (I 0)),(.node [(.pv (Sx ⟨#[]⟩)),(.pv (.sl true 2 []))]),(.pv (Sx ⟨#[]⟩)),(.pv (.sl true 5 []))]),(.pv (.sl true 12 []))])),(9,.box (.node [(.pv (I v18.Rule)),(.node [(.own 288),(.own 512)]),(.pv (I v18.Main)),(.node [(.pv (Sx v18.Term.Name)),(.own 290)]),(.node [(.pv (I v18.Cut.Op)),(.node [(.pv (Sx v18.Cut.Atom.Name)),(.own 291)]),(.pv (Sx v18.Cut.Var)),(.own 292)]),(.own 293)])),(11,.val (.pv (I s8))),(71,.val (.pv (.sl false 12 (a0.Parts.map (aq false))))),(72,.val (.pv (I (a0.Parts.length:Int)))),(73,.val (.pv (I (i17:Int))))]) (fun i17 s17=>[(288,(5,v18.Sequent.Left.map (ak true))),(512,(5,v32.map (ak true))),(290,(2,v18.Term.Args.map (am true))),(291,(2,v18.Cut.Atom.Args.map (am true))),(292,(5,v18.Cut.Parts.map (ak true))),(293,(12,s17.map (aq true)))]) (Slm_ SC) (fun i17 s17 hi h=>?_) (fun s17 h=>?_)
       ·have w:=ws_ (i:=i17) (by omega)
        refine S ?_
        refine aI cs (by omega) (fun cs=>S ?_)
        obtain⟨v76,hv76,h⟩:=rb_ h
        refine au (f:=(aq false)) hv76 SC (S ?_)
        obtain⟨v85,hv85,h⟩:=rb_ h
        refine ai [false,false,false,false] (ih _ _ _ _ _ hv85) SC (S ?_)
        obtain⟨v86,hv86,h⟩:=rb_ h
        refine au (f:=(aq true)) hv86 SC (S ?_)
        obtain⟨w33,hw33,h⟩:=rb_ h
        refine bt (f:=(aq true)) hw33 rfl SC (S ?_)
        refine ae (DHa_ [] [1360,1361,1362,1363,1364,1365]) (S ?_)
        have h:=rs_ h
        refine aB ⟨_,h,?_⟩
        exact Slm_ SW
       ·refine S ?_
        refine aJ cs (by omega) (fun cs=>S ?_)
        cases rs_ h
        exact ag SC
     ·refine aO (b:=false) (sz:=12) (es:=a0.Parts.map (aq false)) 71 SC fun hl71=>?_; rw[aD] at hl71
      replace h:=rl_ h
      refine aK h (fun i17 s17=>[(2,.val (.pv (B a2))),(5,.box (.pv ((ak false) a1))),(8,.box (.node [(.pv (I 0)),(.node [(.pv (.sl true 5 [])),(.pv (.sl true 5 []))]),(.pv (I 0)),(.node [(.pv (Sx ⟨#[]⟩)),(.pv (.sl true 2 []))]),(.node [(.pv (I 0)),(.node [(.pv (Sx ⟨#[]⟩)),(.pv (.sl true 2 []))]),(.pv (Sx ⟨#[]⟩)),(.pv (.sl true 5 []))]),(.pv (.sl true 12 []))])),(9,.box (.node [(.pv (I v18.Rule)),(.node [(.own 288),(.own 512)]),(.pv (I v18.Main)),(.node [(.pv (Sx v18.Term.Name)),(.own 290)]),(.node [(.pv (I v18.Cut.Op)),(.node [(.pv (Sx v18.Cut.Atom.Name)),(.own 291)]),(.pv (Sx v18.Cut.Var)),(.own 292)]),(.own 293)])),(11,.val (.pv (I s8))),(71,.val (.pv (.sl false 12 (a0.Parts.map (aq false))))),(72,.val (.pv (I (a0.Parts.length:Int)))),(73,.val (.pv (I (i17:Int))))]) (fun i17 s17=>[(288,(5,v18.Sequent.Left.map (ak true))),(512,(5,v32.map (ak true))),(290,(2,v18.Term.Args.map (am true))),(291,(2,v18.Cut.Atom.Args.map (am true))),(292,(5,v18.Cut.Parts.map (ak true))),(293,(12,s17.map (aq true)))]) (Slm_ SC) (fun i17 s17 hi h=>?_) (fun s17 h=>?_)
      ·have w:=ws_ (i:=i17) (by omega)
       refine S ?_
       refine aI cs (by omega) (fun cs=>S ?_)
       obtain⟨v76,hv76,h⟩:=rb_ h
       refine au (f:=(aq false)) hv76 SC (S ?_)
       obtain⟨v85,hv85,h⟩:=rb_ h
       refine ai [false,false,false,false] (ih _ _ _ _ _ hv85) SC (S ?_)
       obtain⟨v86,hv86,h⟩:=rb_ h
       refine au (f:=(aq true)) hv86 SC (S ?_)
       obtain⟨w36,hw36,h⟩:=rb_ h
       refine bt (f:=(aq true)) hw36 rfl SC (S ?_)
       refine ae (DHa_ [] [1360,1361,1362,1363,1364,1365]) (S ?_)
       have h:=rs_ h
       refine aB ⟨_,h,?_⟩
       exact Slm_ SW
      ·refine S ?_
       refine aJ cs (by omega) (fun cs=>S ?_)
       cases rs_ h
       exact ag SC
theorem iws_1{a0:Dt}{a1:Ft}{a2:Bool}{a3:Int}{r:Dt}(h:iw_1 a0 a1 a2 a3=some r):Sat ah 75 [((aq false) a0),((ak false) a1),(B a2),(I a3)] ((aq true) r):=by
 obtain⟨n,hn⟩:=ls_ h
 exact(iwN_1 n) _ _ _ _ _ hn

theorem iiD_4{a0:Dt}  {r:Dt×Bool}(h:iiD_ a0=some r):Sat ah 74 [((aq false) a0)] (.tup [((aq false) r.1),(B r.2)]):=by
 obtain⟨h,cs⟩:=Ro_ h
 unfold iiD_ at h
 refine av (nt:=9) (rs:=[.cell 2 47,.tmp 3]) (n:=100000) Tryz.func74 rfl rfl rfl rfl (by simp) (S ?_)
 obtain⟨v5,hv5,h⟩:=rb_ h
 refine ai [false] (iIV_7 hv5) SC (S ?_)
 refine aj cs h (fun cs h=>S ?_) (fun cs h=>S ?_)
 ·cases rs_ h
  exact aR SC
 ·cases rs_ h
  exact aR SC

theorem iiD_3{a0:Dt}  {r:Dt×Bool}(h:iiD_ a0=some r):Sat ah 74 [((aq true) a0)] (.tup [((aq true) r.1),(B r.2)]):=by
 obtain⟨h,cs⟩:=Ro_ h
 unfold iiD_ at h
 refine av (nt:=9) (rs:=[.cell 2 47,.tmp 3]) (n:=100000) Tryz.func74 rfl rfl rfl rfl (by simp) (S ?_)
 obtain⟨v5,hv5,h⟩:=rb_ h
 refine ai [false] (iIV_7 hv5) SC (S ?_)
 refine aj cs h (fun cs h=>S ?_) (fun cs h=>S ?_)
 ·cases rs_ h
  exact ag SC
 ·cases rs_ h
  exact ag SC

theorem iWA_1{a0:Dt}{a1:Ft}{a2:Bool}{a3:Int}  {r:Dt×Bool}(h:iWA_ a0 a1 a2 a3=some r):Sat ah 36 [((aq false) a0),((ak false) a1),(B a2),(I a3)] (.tup [((aq true) r.1),(B r.2)]):=by
 obtain⟨h,cs⟩:=Ro_ h
 unfold iWA_ at h
 refine av (nt:=42) (rs:=[.cell 8 47,.tmp 9]) (n:=100000) Tryz.func36 rfl rfl rfl rfl (by simp) (S ?_)
 refine aj cs h (fun cs h=>S ?_) (fun cs h=>S ?_)
 ·obtain⟨v19,hv19,h⟩:=rb_ h
  refine ai [false] (iIV_7 hv19) SC (S ?_)
  refine aj cs h (fun cs h=>S ?_) (fun cs h=>S ?_)
  ·obtain⟨v23,hv23,h⟩:=rb_ h
   refine ai [false] (iIV_4 hv23) SC (S ?_)
   refine aj cs h (fun cs h=>S ?_) (fun cs h=>S ?_)
   ·obtain⟨v30,hv30,h⟩:=rb_ h
    refine ai [false,false,false] (iws_ hv30) SC (S ?_)
    refine aj cs h (fun cs h=>S ?_) (fun cs h=>S ?_)
    ·obtain⟨v38,hv38,h⟩:=rb_ h
     refine ai [false,false,false,false] (iws_1 hv38) SC (S ?_)
     obtain⟨v39,hv39,h⟩:=rb_ h
     refine ai [true] (iiD_3 hv39) SC (S ?_)
     cases rs_ h
     exact ag SC
    ·cases rs_ h
     exact ag SC
   ·cases rs_ h
    exact ag SC
  ·cases rs_ h
   exact ag SC
 ·obtain⟨v19,hv19,h⟩:=rb_ h
  refine ai [false] (iIV_7 hv19) SC (S ?_)
  refine aj cs h (fun cs h=>S ?_) (fun cs h=>S ?_)
  ·obtain⟨v23,hv23,h⟩:=rb_ h
   refine ai [false] (iIV_4 hv23) SC (S ?_)
   refine aj cs h (fun cs h=>S ?_) (fun cs h=>S ?_)
   ·obtain⟨v30,hv30,h⟩:=rb_ h
    refine ai [false,false,false] (iws_ hv30) SC (S ?_)
    refine aj cs h (fun cs h=>S ?_) (fun cs h=>S ?_)
    ·obtain⟨v38,hv38,h⟩:=rb_ h
     refine ai [false,false,false,false] (iws_1 hv38) SC (S ?_)
     obtain⟨v39,hv39,h⟩:=rb_ h
     refine ai [true] (iiD_3 hv39) SC (S ?_)
     cases rs_ h
     exact ag SC
    ·cases rs_ h
     exact ag SC
   ·cases rs_ h
    exact ag SC
  ·cases rs_ h
   exact ag SC

theorem iWD_1{a0:Dt}{a1:Ft}{a2:Bool}  {r:Dt×Bool}(h:iWD_ a0 a1 a2=some r):Sat ah 31 [((aq false) a0),((ak false) a1),(B a2)] (.tup [((aq true) r.1),(B r.2)]):=by
 obtain⟨h,cs⟩:=Ro_ h
 unfold iWD_ at h
 refine av (nt:=14) (rs:=[.cell 6 47,.tmp 7]) (n:=100000) Tryz.func31 rfl rfl rfl rfl (by simp) (S ?_)
 obtain⟨v11,hv11,h⟩:=rb_ h
 refine ai [false,false,false,false] (iWA_1 hv11) SC (S ?_)
 cases rs_ h
 exact ag SC

theorem eTN_1(n:Nat):(∀ (a0:Tt) (a1:Tt) (r:Bool),eTN_ n a0 a1=some r→Sat ah 48 [((am false) a0),((am false) a1)] (B r))∧(∀ (a0:List Tt) (a1:List Tt) (r:Bool),eTS_ n a0 a1=some r→Sat ah 83 [(.sl false 2 (a0.map (am false))),(.sl false 2 (a1.map (am false)))] (B r)):=by
 induction n with
 | zero=>exact⟨fun _ _ _ h=>by simp[eTN_] at h,fun _ _ _ h=>by simp[eTS_] at h⟩
 | succ n ih=>
  refine⟨fun a0 a1 r h=>?_,fun a0 a1 r h=>?_⟩
  ·obtain⟨h,cs⟩:=Ro_ h
   rw[eTN_] at h
   refine av (nt:=16) (rs:=[.tmp 4]) (n:=100000) Tryz.func48 rfl rfl rfl rfl (by simp) (S ?_)
   refine aj cs h (fun cs h=>S ?_) (fun cs h=>S ?_)
   ·obtain⟨v14,hv14,h⟩:=rb_ h
    refine ai [false,false] (ih.2 _ _ _ hv14) SC (S ?_)
    refine aj cs h (fun cs h=>S ?_) (fun cs h=>S ?_)
    ·cases rs_ h
     exact ag SC
    ·cases rs_ h
     exact ag SC
   ·cases rs_ h
    exact ag SC
  ·obtain⟨h,cs⟩:=Ro_ h
   rw[eTS_] at h
   refine av (nt:=27) (rs:=[.tmp 4]) (n:=100000) Tryz.func83 rfl rfl rfl rfl (by simp) (S ?_)
   refine aj cs h (fun cs h=>S ?_) (fun cs h=>S ?_)
   ·refine aO (b:=false) (sz:=2) (es:=a0.map (am false)) 0 SC fun hl0=>?_; rw[aD] at hl0
    replace h:=rl_ h
    refine aK h (fun i4 s4=>[(0,.val (.pv (.sl false 2 (a0.map (am false))))),(1,.val (.pv (.sl false 2 (a1.map (am false))))),(5,.val (.pv (I (i4:Int))))]) (fun i4 s4=>[]) (Slm_ SC) (fun i4 s4 hi h=>?_) (fun s4 h=>?_)
    ·have w:=ws_ (i:=i4) (by omega)
     refine S ?_
     refine aI cs (by omega) (fun cs=>S ?_)
     obtain⟨v19,hv19,h⟩:=rb_ h
     refine au (f:=(am false)) hv19 SC (S ?_)
     obtain⟨v23,hv23,h⟩:=rb_ h
     refine au (f:=(am false)) hv23 SC (S ?_)
     obtain⟨v25,hv25,h⟩:=rb_ h
     refine ai [false,false] (ih.1 _ _ _ hv25) SC (S ?_)
     refine ae (DHa_ [] []) (S ?_)
     refine aj cs h (fun cs h=>S ?_) (fun cs h=>S ?_)
     ·have h:=rs_ h
      refine aB ⟨_,h,?_⟩
      exact Slm_ SW
     ·cases rs_ h
      exact ag SC
    ·refine S ?_
     refine aJ cs (by omega) (fun cs=>S ?_)
     cases rs_ h
     exact ag SC
   ·cases rs_ h
    exact ag SC
theorem eTs_{a0:Tt}{a1:Tt}{r:Bool}(h:eT_ a0 a1=some r):Sat ah 48 [((am false) a0),((am false) a1)] (B r):=by
 obtain⟨n,hn⟩:=ls_ h
 exact(eTN_1 n).1 _ _ _ hn
theorem eTS_2{a0:List Tt}{a1:List Tt}{r:Bool}(h:eTS_1 a0 a1=some r):Sat ah 83 [(.sl false 2 (a0.map (am false))),(.sl false 2 (a1.map (am false)))] (B r):=by
 obtain⟨n,hn⟩:=ls_ h
 exact(eTN_1 n).2 _ _ _ hn

theorem eFN_2(n:Nat):(∀ (a0:Ft) (a1:Ft) (r:Bool),eFN_ n a0 a1=some r→Sat ah 32 [((ak false) a0),((ak false) a1)] (B r))∧(∀ (a0:List Ft) (a1:List Ft) (r:Bool),eFS_ n a0 a1=some r→Sat ah 67 [(.sl false 5 (a0.map (ak false))),(.sl false 5 (a1.map (ak false)))] (B r)):=by
 induction n with
 | zero=>exact⟨fun _ _ _ h=>by simp[eFN_] at h,fun _ _ _ h=>by simp[eFS_] at h⟩
 | succ n ih=>
  refine⟨fun a0 a1 r h=>?_,fun a0 a1 r h=>?_⟩
  ·obtain⟨h,cs⟩:=Ro_ h
   rw[eFN_] at h
   refine av (nt:=27) (rs:=[.tmp 4]) (n:=100000) Tryz.func32 rfl rfl rfl rfl (by simp) (S ?_)
   refine aj cs h (fun cs h=>S ?_) (fun cs h=>S ?_)
   ·obtain⟨v14,hv14,h⟩:=rb_ h
    refine ai [false,false] (eTs_ hv14) SC (S ?_)
    refine aj cs h (fun cs h=>S ?_) (fun cs h=>S ?_)
    ·refine aj cs h (fun cs h=>S ?_) (fun cs h=>S ?_)
     ·obtain⟨v25,hv25,h⟩:=rb_ h
      refine ai [false,false] (ih.2 _ _ _ hv25) SC (S ?_)
      refine aj cs h (fun cs h=>S ?_) (fun cs h=>S ?_)
      ·cases rs_ h
       exact ag SC
      ·cases rs_ h
       exact ag SC
     ·cases rs_ h
      exact ag SC
    ·cases rs_ h
     exact ag SC
   ·cases rs_ h
    exact ag SC
  ·obtain⟨h,cs⟩:=Ro_ h
   rw[eFS_] at h
   refine av (nt:=27) (rs:=[.tmp 4]) (n:=100000) Tryz.func67 rfl rfl rfl rfl (by simp) (S ?_)
   refine aj cs h (fun cs h=>S ?_) (fun cs h=>S ?_)
   ·refine aO (b:=false) (sz:=5) (es:=a0.map (ak false)) 0 SC fun hl0=>?_; rw[aD] at hl0
    replace h:=rl_ h
    refine aK h (fun i4 s4=>[(0,.val (.pv (.sl false 5 (a0.map (ak false))))),(1,.val (.pv (.sl false 5 (a1.map (ak false))))),(5,.val (.pv (I (i4:Int))))]) (fun i4 s4=>[]) (Slm_ SC) (fun i4 s4 hi h=>?_) (fun s4 h=>?_)
    ·have w:=ws_ (i:=i4) (by omega)
     refine S ?_
     refine aI cs (by omega) (fun cs=>S ?_)
     obtain⟨v19,hv19,h⟩:=rb_ h
     refine au (f:=(ak false)) hv19 SC (S ?_)
     obtain⟨v23,hv23,h⟩:=rb_ h
     refine au (f:=(ak false)) hv23 SC (S ?_)
     obtain⟨v25,hv25,h⟩:=rb_ h
     refine ai [false,false] (ih.1 _ _ _ hv25) SC (S ?_)
     refine ae (DHa_ [] []) (S ?_)
     refine aj cs h (fun cs h=>S ?_) (fun cs h=>S ?_)
     ·have h:=rs_ h
      refine aB ⟨_,h,?_⟩
      exact Slm_ SW
     ·cases rs_ h
      exact ag SC
    ·refine S ?_
     refine aJ cs (by omega) (fun cs=>S ?_)
     cases rs_ h
     exact ag SC
   ·cases rs_ h
    exact ag SC
theorem eFs_{a0:Ft}{a1:Ft}{r:Bool}(h:eF_ a0 a1=some r):Sat ah 32 [((ak false) a0),((ak false) a1)] (B r):=by
 obtain⟨n,hn⟩:=ls_ h
 exact(eFN_2 n).1 _ _ _ hn
theorem eFS_3{a0:List Ft}{a1:List Ft}{r:Bool}(h:eFS_1 a0 a1=some r):Sat ah 67 [(.sl false 5 (a0.map (ak false))),(.sl false 5 (a1.map (ak false)))] (B r):=by
 obtain⟨n,hn⟩:=ls_ h
 exact(eFN_2 n).2 _ _ _ hn

theorem eSs_{a0:Sa}{a1:Sa}  {r:Bool}(h:eS_ a0 a1=some r):Sat ah 47 [((aM false) a0),((aM false) a1)] (B r):=by
 obtain⟨h,cs⟩:=Ro_ h
 unfold eS_ at h
 refine av (nt:=17) (rs:=[.tmp 4]) (n:=100000) Tryz.func47 rfl rfl rfl rfl (by simp) (S ?_)
 obtain⟨v9,hv9,h⟩:=rb_ h
 refine ai [false,false] (eFS_3 hv9) SC (S ?_)
 refine aj cs h (fun cs h=>S ?_) (fun cs h=>S ?_)
 ·obtain⟨v15,hv15,h⟩:=rb_ h
  refine ai [false,false] (eFS_3 hv15) SC (S ?_)
  refine aj cs h (fun cs h=>S ?_) (fun cs h=>S ?_)
  ·cases rs_ h
   exact ag SC
  ·cases rs_ h
   exact ag SC
 ·cases rs_ h
  exact ag SC

theorem eDN_1(n:Nat):(∀ (a0:Dt) (a1:Dt) (r:Bool),eDN_ n a0 a1=some r→Sat ah 13 [((aq false) a0),((aq false) a1)] (B r))∧(∀ (a0:List Dt) (a1:List Dt) (r:Bool),eDS_ n a0 a1=some r→Sat ah 49 [(.sl false 12 (a0.map (aq false))),(.sl false 12 (a1.map (aq false)))] (B r)):=by
 induction n with
 | zero=>exact⟨fun _ _ _ h=>by simp[eDN_] at h,fun _ _ _ h=>by simp[eDS_] at h⟩
 | succ n ih=>
  refine⟨fun a0 a1 r h=>?_,fun a0 a1 r h=>?_⟩
  ·obtain⟨h,cs⟩:=Ro_ h
   rw[eDN_] at h
   refine av (nt:=39) (rs:=[.tmp 4]) (n:=100000) Tryz.func13 rfl rfl rfl rfl (by simp) (S ?_)
   refine aj cs h (fun cs h=>S ?_) (fun cs h=>S ?_)
   ·obtain⟨v14,hv14,h⟩:=rb_ h
    refine ai [false,false] (eSs_ hv14) SC (S ?_)
    refine aj cs h (fun cs h=>S ?_) (fun cs h=>S ?_)
    ·refine aj cs h (fun cs h=>S ?_) (fun cs h=>S ?_)
     ·obtain⟨v25,hv25,h⟩:=rb_ h
      refine ai [false,false] (eTs_ hv25) SC (S ?_)
      refine aj cs h (fun cs h=>S ?_) (fun cs h=>S ?_)
      ·obtain⟨v31,hv31,h⟩:=rb_ h
       refine ai [false,false] (eFs_ hv31) SC (S ?_)
       refine aj cs h (fun cs h=>S ?_) (fun cs h=>S ?_)
       ·obtain⟨v37,hv37,h⟩:=rb_ h
        refine ai [false,false] (ih.2 _ _ _ hv37) SC (S ?_)
        refine aj cs h (fun cs h=>S ?_) (fun cs h=>S ?_)
        ·cases rs_ h
         exact ag SC
        ·cases rs_ h
         exact ag SC
       ·cases rs_ h
        exact ag SC
      ·cases rs_ h
       exact ag SC
     ·cases rs_ h
      exact ag SC
    ·cases rs_ h
     exact ag SC
   ·cases rs_ h
    exact ag SC
  ·obtain⟨h,cs⟩:=Ro_ h
   rw[eDS_] at h
   refine av (nt:=27) (rs:=[.tmp 4]) (n:=100000) Tryz.func49 rfl rfl rfl rfl (by simp) (S ?_)
   refine aj cs h (fun cs h=>S ?_) (fun cs h=>S ?_)
   ·refine aO (b:=false) (sz:=12) (es:=a0.map (aq false)) 0 SC fun hl0=>?_; rw[aD] at hl0
    replace h:=rl_ h
    refine aK h (fun i4 s4=>[(0,.val (.pv (.sl false 12 (a0.map (aq false))))),(1,.val (.pv (.sl false 12 (a1.map (aq false))))),(5,.val (.pv (I (i4:Int))))]) (fun i4 s4=>[]) (Slm_ SC) (fun i4 s4 hi h=>?_) (fun s4 h=>?_)
    ·have w:=ws_ (i:=i4) (by omega)
     refine S ?_
     refine aI cs (by omega) (fun cs=>S ?_)
     obtain⟨v19,hv19,h⟩:=rb_ h
     refine au (f:=(aq false)) hv19 SC (S ?_)
     obtain⟨v23,hv23,h⟩:=rb_ h
     refine au (f:=(aq false)) hv23 SC (S ?_)
     obtain⟨v25,hv25,h⟩:=rb_ h
     refine ai [false,false] (ih.1 _ _ _ hv25) SC (S ?_)
     refine ae (DHa_ [] []) (S ?_)
     refine aj cs h (fun cs h=>S ?_) (fun cs h=>S ?_)
     ·have h:=rs_ h
      refine aB ⟨_,h,?_⟩
      exact Slm_ SW
     ·cases rs_ h
      exact ag SC
    ·refine S ?_
     refine aJ cs (by omega) (fun cs=>S ?_)
     cases rs_ h
     exact ag SC
   ·cases rs_ h
    exact ag SC
theorem eDs_{a0:Dt}{a1:Dt}{r:Bool}(h:eD_ a0 a1=some r):Sat ah 13 [((aq false) a0),((aq false) a1)] (B r):=by
 obtain⟨n,hn⟩:=ls_ h
 exact(eDN_1 n).1 _ _ _ hn
theorem eDS_2{a0:List Dt}{a1:List Dt}{r:Bool}(h:eDS_1 a0 a1=some r):Sat ah 49 [(.sl false 12 (a0.map (aq false))),(.sl false 12 (a1.map (aq false)))] (B r):=by
 obtain⟨n,hn⟩:=ls_ h
 exact(eDN_1 n).2 _ _ _ hn

theorem mTs_{a0:Int}  {r:ByteArray}(h:mT_ a0=some r):Sat ah 85 [(I a0)] (Sx r):=by
 obtain⟨h,cs⟩:=Ro_ h
 unfold mT_ at h
 refine av (nt:=20) (rs:=[.tmp 2]) (n:=100000) Tryz.func85 rfl rfl rfl rfl (by simp) (S ?_)
 refine aj cs h (fun cs h=>S ?_) (fun cs h=>S ?_)
 ·cases rs_ h
  exact ag SC
 ·replace h:=rl_ h
  refine Mg.whileN h (fun s4=>[(0,.val (.pv (I s4.1))),(3,.val (.pv (Sx s4.2)))]) (fun s4=>[]) (Slm_ SC) (fun n4 s4 h=>?_)
  refine S ?_
  refine aj cs h (fun cs h=>S ?_) (fun cs h=>S ?_)
  ·obtain⟨v9,hv9,h⟩:=rb_ h
   refine remH.mk hv9 (S ?_)
   obtain⟨v13,hv13,h⟩:=rb_ h
   refine BstrH.mk hv13 SC (S ?_)
   obtain⟨v15,hv15,h⟩:=rb_ h
   refine SappH.mk hv15 (S ?_)
   obtain⟨v17,hv17,h⟩:=rb_ h
   refine quoH.mk hv17 (S ?_)
   have h:=rs_ h
   refine aB ⟨_,h,?_⟩
   exact Slm_ SC
  ·have h:=rs_ h
   obtain⟨v19,hv19,h⟩:=rb_ h
   refine SappH.mk hv19 (S ?_)
   cases rs_ h
   exact ag SC

theorem mTS_5(n:Nat):(∀ (a0:List Tt) (a1:Int) (r:Int×(List Tt)),mTS_1 n a0 a1=some r→SatIO ah 84 [(.sl true 2 (a0.map (am true))),(I a1)] [(.sl true 2 (r.2.map (am true))),(I a1)] (I r.1)):=by
 induction n with
 | zero=>exact fun _ _ _ h=>by simp[mTS_1] at h
 | succ n ih=>
  refine fun a0 a1 r h=>?_
  obtain⟨h,cs⟩:=Ro_ h
  rw[mTS_1] at h
  refine SIo_ (nt:=28) (rs:=[.tmp 4]) (n:=100000) Tryz.func84 rfl rfl rfl rfl (by simp) (S ?_)
  refine ar (S ?_)
  refine aW (Nat.le_of_eq rfl) (S ?_)
  refine ar (S ?_)
  refine aW (Nat.le_of_eq rfl) (S ?_)
  replace h:=rl_ h
  refine MgI.whileN h (fun s2=>[(0,.val (.own 10000)),(1,.val (.pv (I s2.2.1))),(5,.val (.pv (I s2.2.2)))]) (fun s2=>[(10000,(2,s2.1.map (am true)))]) (Slm_ SC) (fun n2 s2 h=>?_)
  refine S ?_
  refine ar (S ?_)
  refine ar (S ?_)
  refine ar (S ?_)
  refine ar (S ?_)
  refine aW (Nat.le_of_eq rfl) (S ?_)
  refine aj cs h (fun cs h=>S ?_) (fun cs h=>S ?_)
  ·refine ar (S ?_)
   refine ar (S ?_)
   refine ar (S ?_)
   refine ar (S ?_)
   obtain⟨v15,hv15,h⟩:=rb_ h
   refine ai [false] (mTs_ hv15) SC (S ?_)
   refine ar (S ?_)
   obtain⟨v16,hv16,h⟩:=rb_ h
   refine au (f:=(am true)) hv16 SC (S ?_)
   refine ar (S ?_)
   refine ar (S ?_)
   obtain⟨w2,hw2,h⟩:=rb_ h
   refine bt (f:=(am true)) hw2 rfl SC (S ?_)
   refine aW (Nat.le_of_eq rfl) (S ?_)
   refine ar (S ?_)
   refine ar (S ?_)
   refine ar (S ?_)
   refine aW (Nat.le_of_eq rfl) (S ?_)
   refine ar (S ?_)
   refine ar (S ?_)
   refine ar (S ?_)
   obtain⟨v22,hv22,h⟩:=rb_ h
   refine au (f:=(am true)) hv22 SC (S ?_)
   refine ar (S ?_)
   obtain⟨w3,hw3,h⟩:=rb_ h
   obtain⟨v26,hv26,h⟩:=rb_ h
   refine Vei_ (fx:=(am true)) (c:=10000) (sz:=2) (p:=[1]) (off:=1) (h1:=rfl) (h3:=rfl) (h2:=rfl) rfl rfl rfl rfl rfl rfl rfl rfl rfl hw3 (ih _ _ _ hv26) SC SC (S ?_)
   refine ar (S ?_)
   refine aW (Nat.le_of_eq rfl) (S ?_)
   refine ar (S ?_)
   refine ar (S ?_)
   refine ar (S ?_)
   refine aW (Nat.le_of_eq rfl) (S ?_)
   have h:=rs_ h
   refine aB ⟨_,h,?_⟩
   exact Slm_ SC
  ·have h:=rs_ h
   refine ar (S ?_)
   refine ar (S ?_)
   refine aW (Nat.le_of_eq rfl) (S ?_)
   cases rs_ h
   exact FinIO.mk SC
theorem mTS_2{a0:List Tt}{a1:Int}{r:Int×(List Tt)}(h:mTS_3 a0 a1=some r):SatIO ah 84 [(.sl true 2 (a0.map (am true))),(I a1)] [(.sl true 2 (r.2.map (am true))),(I a1)] (I r.1):=by
 obtain⟨n,hn⟩:=ls_ h
 exact(mTS_5 n) _ _ _ hn

theorem mFS_5(n:Nat):(∀ (a0:List Ft) (a1:Int) (r:Int×(List Ft)),mFS_1 n a0 a1=some r→SatIO ah 61 [(.sl true 5 (a0.map (ak true))),(I a1)] [(.sl true 5 (r.2.map (ak true))),(I a1)] (I r.1)):=by
 induction n with
 | zero=>exact fun _ _ _ h=>by simp[mFS_1] at h
 | succ n ih=>
  refine fun a0 a1 r h=>?_
  obtain⟨h,cs⟩:=Ro_ h
  rw[mFS_1] at h
  refine SIo_ (nt:=52) (rs:=[.tmp 4]) (n:=100000) Tryz.func61 rfl rfl rfl rfl (by simp) (S ?_)
  refine ar (S ?_)
  refine aW (Nat.le_of_eq rfl) (S ?_)
  refine ar (S ?_)
  refine aW (Nat.le_of_eq rfl) (S ?_)
  replace h:=rl_ h
  refine MgI.whileN h (fun s2=>[(0,.val (.own 10000)),(1,.val (.pv (I s2.2.1))),(5,.val (.pv (I s2.2.2)))]) (fun s2=>[(10000,(5,s2.1.map (ak true)))]) (Slm_ SC) (fun n2 s2 h=>?_)
  refine S ?_
  refine ar (S ?_)
  refine ar (S ?_)
  refine ar (S ?_)
  refine ar (S ?_)
  refine aW (Nat.le_of_eq rfl) (S ?_)
  refine aj cs h (fun cs h=>S ?_) (fun cs h=>S ?_)
  ·refine ar (S ?_)
   refine ar (S ?_)
   refine ar (S ?_)
   refine ar (S ?_)
   obtain⟨v15,hv15,h⟩:=rb_ h
   refine au (f:=(ak true)) hv15 SC (S ?_)
   refine ar (S ?_)
   refine ar (S ?_)
   obtain⟨w2,hw2,h⟩:=rb_ h
   refine bt (f:=(ak true)) hw2 rfl SC (S ?_)
   refine aW (Nat.le_of_eq rfl) (S ?_)
   refine ar (S ?_)
   refine ar (S ?_)
   refine ar (S ?_)
   refine aW (Nat.le_of_eq rfl) (S ?_)
   refine ar (S ?_)
   refine ar (S ?_)
   refine ar (S ?_)
   refine ar (S ?_)
   obtain⟨v22,hv22,h⟩:=rb_ h
   refine ai [false] (mTs_ hv22) SC (S ?_)
   refine ar (S ?_)
   obtain⟨v23,hv23,h⟩:=rb_ h
   refine au (f:=(ak true)) hv23 SC (S ?_)
   refine ar (S ?_)
   refine ar (S ?_)
   refine ar (S ?_)
   obtain⟨w3,hw3,h⟩:=rb_ h
   refine bt (f:=(ak true)) hw3 rfl SC (S ?_)
   refine aW (Nat.le_of_eq rfl) (S ?_)
   refine ar (S ?_)
   refine ar (S ?_)
   refine ar (S ?_)
   refine aW (Nat.le_of_eq rfl) (S ?_)
   refine ar (S ?_)
   refine ar (S ?_)
   refine ar (S ?_)
   obtain⟨v30,hv30,h⟩:=rb_ h
   refine au (f:=(ak true)) hv30 SC (S ?_)
   refine ar (S ?_)
   refine ar (S ?_)
   obtain⟨w4,hw4,h⟩:=rb_ h
   obtain⟨v35,hv35,h⟩:=rb_ h
   refine Vei_ (fx:=(ak true)) (c:=10000) (sz:=5) (p:=[1,1]) (off:=2) (h1:=rfl) (h3:=rfl) (h2:=rfl) rfl rfl rfl rfl rfl rfl rfl rfl rfl hw4 (mTS_2 hv35) SC SC (S ?_)
   refine ar (S ?_)
   refine aW (Nat.le_of_eq rfl) (S ?_)
   refine ar (S ?_)
   refine ar (S ?_)
   refine ar (S ?_)
   refine ar (S ?_)
   obtain⟨v39,hv39,h⟩:=rb_ h
   refine ai [false] (mTs_ hv39) SC (S ?_)
   refine ar (S ?_)
   obtain⟨v40,hv40,h⟩:=rb_ h
   refine au (f:=(ak true)) hv40 SC (S ?_)
   refine ar (S ?_)
   refine ar (S ?_)
   obtain⟨w5,hw5,h⟩:=rb_ h
   refine bt (f:=(ak true)) hw5 rfl SC (S ?_)
   refine aW (Nat.le_of_eq rfl) (S ?_)
   refine ar (S ?_)
   refine ar (S ?_)
   refine ar (S ?_)
   refine aW (Nat.le_of_eq rfl) (S ?_)
   refine ar (S ?_)
   refine ar (S ?_)
   refine ar (S ?_)
   obtain⟨v46,hv46,h⟩:=rb_ h
   refine au (f:=(ak true)) hv46 SC (S ?_)
   refine ar (S ?_)
   obtain⟨w6,hw6,h⟩:=rb_ h
   obtain⟨v50,hv50,h⟩:=rb_ h
   refine Vei_ (fx:=(ak true)) (c:=10000) (sz:=5) (p:=[3]) (off:=4) (h1:=rfl) (h3:=rfl) (h2:=rfl) rfl rfl rfl rfl rfl rfl rfl rfl rfl hw6 (ih _ _ _ hv50) SC SC (S ?_)
   refine ar (S ?_)
   refine aW (Nat.le_of_eq rfl) (S ?_)
   refine ar (S ?_)
   refine ar (S ?_)
   refine ar (S ?_)
   refine aW (Nat.le_of_eq rfl) (S ?_)
   have h:=rs_ h
   refine aB ⟨_,h,?_⟩
   exact Slm_ SC
  ·have h:=rs_ h
   refine ar (S ?_)
   refine ar (S ?_)
   refine aW (Nat.le_of_eq rfl) (S ?_)
   cases rs_ h
   exact FinIO.mk SC
theorem mFS_2{a0:List Ft}{a1:Int}{r:Int×(List Ft)}(h:mFS_3 a0 a1=some r):SatIO ah 61 [(.sl true 5 (a0.map (ak true))),(I a1)] [(.sl true 5 (r.2.map (ak true))),(I a1)] (I r.1):=by
 obtain⟨n,hn⟩:=ls_ h
 exact(mFS_5 n) _ _ _ hn

theorem mSs_{a0:Sa}{a1:Int}  {r:Int×(List Ft)×(List Ft)}(h:mS_ a0 a1=some r):SatIO ah 50 [((aM true) a0),(I a1)] [((aM true) (Sa.mk r.2.1 r.2.2)),(I a1)] (I r.1):=by
 obtain⟨h,cs⟩:=Ro_ h
 unfold mS_ at h
 refine SatIO.of_m (nt:=14) (rs:=[.tmp 4]) (n:=100000) Tryz.func50 rfl rfl rfl rfl (by simp) (S ?_)
 obtain⟨v8,hv8,h⟩:=rb_ h
 refine CHi_ [(.own 10000),(.pv (I a1))] [(10000,(5,v8.2.map (ak true)))] (mFS_2 hv8) SC (S ?_)
 obtain⟨v12,hv12,h⟩:=rb_ h
 refine CHi_ [(.own 10001),(.pv (I v8.1))] [(10001,(5,v12.2.map (ak true)))] (mFS_2 hv12) SC (S ?_)
 cases rs_ h
 exact FinIO.mk SC

theorem mTs_1{a0:Tt}{a1:Int}  {r:Int×(List Tt)}(h:mT_1 a0 a1=some r):SatIO ah 51 [((am true) a0),(I a1)] [((am true) (Tt.mk a0.Name r.2)),(I a1)] (I r.1):=by
 obtain⟨h,cs⟩:=Ro_ h
 unfold mT_1 at h
 refine SatIO.of_m (nt:=10) (rs:=[.tmp 4]) (n:=100000) Tryz.func51 rfl rfl rfl rfl (by simp) (S ?_)
 obtain⟨v8,hv8,h⟩:=rb_ h
 refine CHi_ [(.own 10000),(.pv (I a1))] [(10000,(2,v8.2.map (am true)))] (mTS_2 hv8) SC (S ?_)
 cases rs_ h
 exact FinIO.mk SC

theorem mFs_{a0:Ft}{a1:Int}  {r:Int×(List Tt)×(List Ft)}(h:mF_ a0 a1=some r):SatIO ah 33 [((ak true) a0),(I a1)] [((ak true) (Ft.mk a0.Op (Tt.mk a0.Atom.Name r.2.1) a0.Var r.2.2)),(I a1)] (I r.1):=by
 obtain⟨h,cs⟩:=Ro_ h
 unfold mF_ at h
 refine SatIO.of_m (nt:=14) (rs:=[.tmp 4]) (n:=100000) Tryz.func33 rfl rfl rfl rfl (by simp) (S ?_)
 obtain⟨v8,hv8,h⟩:=rb_ h
 refine CHi_ [(.node [(.pv (Sx a0.Atom.Name)),(.own 10000)]),(.pv (I a1))] [(10000,(2,v8.2.map (am true)))] (mTs_1 hv8) SC (S ?_)
 obtain⟨v12,hv12,h⟩:=rb_ h
 refine CHi_ [(.own 10001),(.pv (I v8.1))] [(10001,(5,v12.2.map (ak true)))] (mFS_2 hv12) SC (S ?_)
 cases rs_ h
 exact FinIO.mk SC

theorem mDS_4(n:Nat):(∀ (a0:List Dt) (a1:Int) (r:Int×(List Dt)),mDS_ n a0 a1=some r→SatIO ah 52 [(.sl true 12 (a0.map (aq true))),(I a1)] [(.sl true 12 (r.2.map (aq true))),(I a1)] (I r.1)):=by
 induction n with
 | zero=>exact fun _ _ _ h=>by simp[mDS_] at h
 | succ n ih=>
  refine fun a0 a1 r h=>?_
  obtain⟨h,cs⟩:=Ro_ h
  rw[mDS_] at h
  refine SIo_ (nt:=111) (rs:=[.tmp 4]) (n:=100000) Tryz.func52 rfl rfl rfl rfl (by simp) (S ?_)
  refine ar (S ?_)
  refine aW (Nat.le_of_eq rfl) (S ?_)
  refine ar (S ?_)
  refine aW (Nat.le_of_eq rfl) (S ?_)
  replace h:=rl_ h
  refine MgI.whileN h (fun s2=>[(0,.val (.own 10000)),(1,.val (.pv (I s2.2.1))),(5,.val (.pv (I s2.2.2)))]) (fun s2=>[(10000,(12,s2.1.map (aq true)))]) (Slm_ SC) (fun n2 s2 h=>?_)
  refine S ?_
  refine ar (S ?_)
  refine ar (S ?_)
  refine ar (S ?_)
  refine ar (S ?_)
  refine aW (Nat.le_of_eq rfl) (S ?_)
  refine aj cs h (fun cs h=>S ?_) (fun cs h=>S ?_)
  ·refine ar (S ?_)
   refine ar (S ?_)
   refine ar (S ?_)
   refine ar (S ?_)
   obtain⟨v15,hv15,h⟩:=rb_ h
   refine au (f:=(aq true)) hv15 SC (S ?_)
   refine ar (S ?_)
   refine ar (S ?_)
   obtain⟨w2,hw2,h⟩:=rb_ h
   refine bt (f:=(aq true)) hw2 rfl SC (S ?_)
   refine aW (Nat.le_of_eq rfl) (S ?_)
   refine ar (S ?_)
   refine ar (S ?_)
   refine ar (S ?_)
   refine aW (Nat.le_of_eq rfl) (S ?_)
   refine ar (S ?_)
   refine ar (S ?_)
   refine ar (S ?_)
   obtain⟨v21,hv21,h⟩:=rb_ h
   refine au (f:=(aq true)) hv21 SC (S ?_)
   refine ar (S ?_)
   refine ar (S ?_)
   obtain⟨w3,hw3,h⟩:=rb_ h
   obtain⟨v26,hv26,h⟩:=rb_ h
   refine Vei_ (fx:=(aq true)) (c:=10000) (sz:=12) (p:=[1,0]) (off:=1) (h1:=rfl) (h3:=rfl) (h2:=rfl) rfl rfl rfl rfl rfl rfl rfl rfl rfl hw3 (mFS_2 hv26) SC SC (S ?_)
   refine ar (S ?_)
   refine aW (Nat.le_of_eq rfl) (S ?_)
   refine ar (S ?_)
   refine ar (S ?_)
   refine ar (S ?_)
   obtain⟨v29,hv29,h⟩:=rb_ h
   refine au (f:=(aq true)) hv29 SC (S ?_)
   refine ar (S ?_)
   refine ar (S ?_)
   obtain⟨w4,hw4,h⟩:=rb_ h
   obtain⟨v34,hv34,h⟩:=rb_ h
   refine Vei_ (fx:=(aq true)) (c:=10000) (sz:=12) (p:=[1,1]) (off:=2) (h1:=rfl) (h3:=rfl) (h2:=rfl) rfl rfl rfl rfl rfl rfl rfl rfl rfl hw4 (mFS_2 hv34) SC SC (S ?_)
   refine ar (S ?_)
   refine aW (Nat.le_of_eq rfl) (S ?_)
   refine ar (S ?_)
   refine ar (S ?_)
   refine ar (S ?_)
   refine ar (S ?_)
   obtain⟨v38,hv38,h⟩:=rb_ h
   refine au (f:=(aq true)) hv38 SC (S ?_)
   refine ar (S ?_)
   refine ar (S ?_)
   obtain⟨w5,hw5,h⟩:=rb_ h
   refine bt (f:=(aq true)) hw5 rfl SC (S ?_)
   refine aW (Nat.le_of_eq rfl) (S ?_)
   refine ar (S ?_)
   refine ar (S ?_)
   refine ar (S ?_)
   refine aW (Nat.le_of_eq rfl) (S ?_)
   refine ar (S ?_)
   refine ar (S ?_)
   refine ar (S ?_)
   refine ar (S ?_)
   obtain⟨v45,hv45,h⟩:=rb_ h
   refine ai [false] (mTs_ hv45) SC (S ?_)
   refine ar (S ?_)
   obtain⟨v46,hv46,h⟩:=rb_ h
   refine au (f:=(aq true)) hv46 SC (S ?_)
   refine ar (S ?_)
   refine ar (S ?_)
   refine ar (S ?_)
   obtain⟨w6,hw6,h⟩:=rb_ h
   refine bt (f:=(aq true)) hw6 rfl SC (S ?_)
   refine aW (Nat.le_of_eq rfl) (S ?_)
   refine ar (S ?_)
   refine ar (S ?_)
   refine ar (S ?_)
   refine aW (Nat.le_of_eq rfl) (S ?_)
   refine ar (S ?_)
   refine ar (S ?_)
   refine ar (S ?_)
   obtain⟨v53,hv53,h⟩:=rb_ h
   refine au (f:=(aq true)) hv53 SC (S ?_)
   refine ar (S ?_)
   refine ar (S ?_)
   obtain⟨w7,hw7,h⟩:=rb_ h
   obtain⟨v58,hv58,h⟩:=rb_ h
   refine Vei_ (fx:=(aq true)) (c:=10000) (sz:=12) (p:=[3,1]) (off:=5) (h1:=rfl) (h3:=rfl) (h2:=rfl) rfl rfl rfl rfl rfl rfl rfl rfl rfl hw7 (mTS_2 hv58) SC SC (S ?_)
   refine ar (S ?_)
   refine aW (Nat.le_of_eq rfl) (S ?_)
   refine ar (S ?_)
   refine ar (S ?_)
   refine ar (S ?_)
   refine ar (S ?_)
   obtain⟨v62,hv62,h⟩:=rb_ h
   refine au (f:=(aq true)) hv62 SC (S ?_)
   refine ar (S ?_)
   refine ar (S ?_)
   refine ar (S ?_)
   obtain⟨w8,hw8,h⟩:=rb_ h
   refine bt (f:=(aq true)) hw8 rfl SC (S ?_)
   refine aW (Nat.le_of_eq rfl) (S ?_)
   refine ar (S ?_)
   refine ar (S ?_)
   refine ar (S ?_)
   refine aW (Nat.le_of_eq rfl) (S ?_)
   refine ar (S ?_)
   refine ar (S ?_)
   refine ar (S ?_)
   refine ar (S ?_)
   obtain⟨v70,hv70,h⟩:=rb_ h
   refine ai [false] (mTs_ hv70) SC (S ?_)
   refine ar (S ?_)
   obtain⟨v71,hv71,h⟩:=rb_ h
   refine au (f:=(aq true)) hv71 SC (S ?_)
   refine ar (S ?_)
   refine ar (S ?_)
   refine ar (S ?_)
   refine ar (S ?_)
   obtain⟨w9,hw9,h⟩:=rb_ h
   refine bt (f:=(aq true)) hw9 rfl SC (S ?_)
   refine aW (Nat.le_of_eq rfl) (S ?_)
   refine ar (S ?_)
   refine ar (S ?_)
   refine ar (S ?_)
   refine aW (Nat.le_of_eq rfl) (S ?_)
   refine ar (S ?_)
   refine ar (S ?_)
   refine ar (S ?_)
   obtain⟨v79,hv79,h⟩:=rb_ h
   refine au (f:=(aq true)) hv79 SC (S ?_)
   refine ar (S ?_)
   refine ar (S ?_)
   refine ar (S ?_)
   obtain⟨w10,hw10,h⟩:=rb_ h
   obtain⟨v85,hv85,h⟩:=rb_ h
   refine Vei_ (fx:=(aq true)) (c:=10000) (sz:=12) (p:=[4,1,1]) (off:=8) (h1:=rfl) (h3:=rfl) (h2:=rfl) rfl rfl rfl rfl rfl rfl rfl rfl rfl hw10 (mTS_2 hv85) SC SC (S ?_)
   refine ar (S ?_)
   refine aW (Nat.le_of_eq rfl) (S ?_)
   refine ar (S ?_)
   refine ar (S ?_)
   refine ar (S ?_)
   refine ar (S ?_)
   obtain⟨v89,hv89,h⟩:=rb_ h
   refine ai [false] (mTs_ hv89) SC (S ?_)
   refine ar (S ?_)
   obtain⟨v90,hv90,h⟩:=rb_ h
   refine au (f:=(aq true)) hv90 SC (S ?_)
   refine ar (S ?_)
   refine ar (S ?_)
   refine ar (S ?_)
   obtain⟨w11,hw11,h⟩:=rb_ h
   refine bt (f:=(aq true)) hw11 rfl SC (S ?_)
   refine aW (Nat.le_of_eq rfl) (S ?_)
   refine ar (S ?_)
   refine ar (S ?_)
   refine ar (S ?_)
   refine aW (Nat.le_of_eq rfl) (S ?_)
   refine ar (S ?_)
   refine ar (S ?_)
   refine ar (S ?_)
   obtain⟨v97,hv97,h⟩:=rb_ h
   refine au (f:=(aq true)) hv97 SC (S ?_)
   refine ar (S ?_)
   refine ar (S ?_)
   obtain⟨w12,hw12,h⟩:=rb_ h
   obtain⟨v102,hv102,h⟩:=rb_ h
   refine Vei_ (fx:=(aq true)) (c:=10000) (sz:=12) (p:=[4,3]) (off:=10) (h1:=rfl) (h3:=rfl) (h2:=rfl) rfl rfl rfl rfl rfl rfl rfl rfl rfl hw12 (mFS_2 hv102) SC SC (S ?_)
   refine ar (S ?_)
   refine aW (Nat.le_of_eq rfl) (S ?_)
   refine ar (S ?_)
   refine ar (S ?_)
   refine ar (S ?_)
   obtain⟨v105,hv105,h⟩:=rb_ h
   refine au (f:=(aq true)) hv105 SC (S ?_)
   refine ar (S ?_)
   obtain⟨w13,hw13,h⟩:=rb_ h
   obtain⟨v109,hv109,h⟩:=rb_ h
   refine Vei_ (fx:=(aq true)) (c:=10000) (sz:=12) (p:=[5]) (off:=11) (h1:=rfl) (h3:=rfl) (h2:=rfl) rfl rfl rfl rfl rfl rfl rfl rfl rfl hw13 (ih _ _ _ hv109) SC SC (S ?_)
   refine ar (S ?_)
   refine aW (Nat.le_of_eq rfl) (S ?_)
   refine ar (S ?_)
   refine ar (S ?_)
   refine ar (S ?_)
   refine aW (Nat.le_of_eq rfl) (S ?_)
   have h:=rs_ h
   refine aB ⟨_,h,?_⟩
   exact Slm_ SC
  ·have h:=rs_ h
   refine ar (S ?_)
   refine ar (S ?_)
   refine aW (Nat.le_of_eq rfl) (S ?_)
   cases rs_ h
   exact FinIO.mk SC
theorem mDS_5{a0:List Dt}{a1:Int}{r:Int×(List Dt)}(h:mDS_2 a0 a1=some r):SatIO ah 52 [(.sl true 12 (a0.map (aq true))),(I a1)] [(.sl true 12 (r.2.map (aq true))),(I a1)] (I r.1):=by
 obtain⟨n,hn⟩:=ls_ h
 exact(mDS_4 n) _ _ _ hn

theorem mDs_{a0:Dt}{a1:Int}  {r:Int×(List Ft)×(List Ft)×(List Tt)×(List Tt)×(List Ft)×(List Dt)}(h:mD_ a0 a1=some r):SatIO ah 14 [((aq true) a0),(I a1)] [((aq true) (Dt.mk a0.Rule (Sa.mk r.2.1 r.2.2.1) a0.Main (Tt.mk a0.Term.Name r.2.2.2.1) (Ft.mk a0.Cut.Op (Tt.mk a0.Cut.Atom.Name r.2.2.2.2.1) a0.Cut.Var r.2.2.2.2.2.1) r.2.2.2.2.2.2)),(I a1)] (I r.1):=by
 obtain⟨h,cs⟩:=Ro_ h
 unfold mD_ at h
 refine SatIO.of_m (nt:=22) (rs:=[.tmp 4]) (n:=100000) Tryz.func14 rfl rfl rfl rfl (by simp) (S ?_)
 obtain⟨v8,hv8,h⟩:=rb_ h
 refine CHi_ [(.node [(.own 10000),(.own 10001)]),(.pv (I a1))] [(10000,(5,v8.2.1.map (ak true))),(10001,(5,v8.2.2.map (ak true)))] (mSs_ hv8) SC (S ?_)
 obtain⟨v12,hv12,h⟩:=rb_ h
 refine CHi_ [(.node [(.pv (Sx a0.Term.Name)),(.own 10002)]),(.pv (I v8.1))] [(10002,(2,v12.2.map (am true)))] (mTs_1 hv12) SC (S ?_)
 obtain⟨v16,hv16,h⟩:=rb_ h
 refine CHi_ [(.node [(.pv (I a0.Cut.Op)),(.node [(.pv (Sx a0.Cut.Atom.Name)),(.own 10003)]),(.pv (Sx a0.Cut.Var)),(.own 10004)]),(.pv (I v12.1))] [(10003,(2,v16.2.1.map (am true))),(10004,(5,v16.2.2.map (ak true)))] (mFs_ hv16) SC (S ?_)
 obtain⟨v20,hv20,h⟩:=rb_ h
 refine CHi_ [(.own 10005),(.pv (I v16.1))] [(10005,(12,v20.2.map (aq true)))] (mDS_5 hv20) SC (S ?_)
 cases rs_ h
 exact FinIO.mk SC

theorem hTS_3(n:Nat):(∀ (a0:List Tt) (a1:Int) (r:Int),hTS_ n a0 a1=some r→Sat ah 103 [(.sl false 2 (a0.map (am false))),(I a1)] (I r)):=by
 induction n with
 | zero=>exact fun _ _ _ h=>by simp[hTS_] at h
 | succ n ih=>
  refine fun a0 a1 r h=>?_
  obtain⟨h,cs⟩:=Ro_ h
  rw[hTS_] at h
  refine av (nt:=32) (rs:=[.tmp 4]) (n:=100000) Tryz.func103 rfl rfl rfl rfl (by simp) (S ?_)
  refine aO (b:=false) (sz:=2) (es:=a0.map (am false)) 0 SC fun hl0=>?_; rw[aD] at hl0
  replace h:=rl_ h
  refine aK h (fun i2 s2=>[(0,.val (.pv (.sl false 2 (a0.map (am false))))),(1,.val (.pv (I s2))),(5,.val (.pv (I (i2:Int))))]) (fun i2 s2=>[]) (Slm_ SC) (fun i2 s2 hi h=>?_) (fun s2 h=>?_)
  ·have w:=ws_ (i:=i2) (by omega)
   refine S ?_
   refine aI cs (by omega) (fun cs=>S ?_)
   obtain⟨v14,hv14,h⟩:=rb_ h
   refine au (f:=(am false)) hv14 SC (S ?_)
   obtain⟨v18,hv18,h⟩:=rb_ h
   refine ai [false] (mTs_ hv18) SC (S ?_)
   refine ae (DHa_ [] []) (S ?_)
   refine aj cs h (fun cs h=>S ?_) (fun cs h=>S ?_)
   ·obtain⟨v24,hv24,h⟩:=rb_ h
    refine au (f:=(am false)) hv24 SC (S ?_)
    obtain⟨v28,hv28,h⟩:=rb_ h
    refine ai [false,false] (ih _ _ _ hv28) SC (S ?_)
    refine aj cs h (fun cs h=>S ?_) (fun cs h=>S ?_)
    ·cases rs_ h
     exact ag SC
    ·have h:=rs_ h
     refine aB ⟨_,h,?_⟩
     exact Slm_ SW
   ·cases rs_ h
    exact ag SC
  ·refine S ?_
   refine aJ cs (by omega) (fun cs=>S ?_)
   cases rs_ h
   exact ag SC
theorem hTS_1{a0:List Tt}{a1:Int}{r:Int}(h:hTS_2 a0 a1=some r):Sat ah 103 [(.sl false 2 (a0.map (am false))),(I a1)] (I r):=by
 obtain⟨n,hn⟩:=ls_ h
 exact(hTS_3 n) _ _ _ hn

theorem hFS_3(n:Nat):(∀ (a0:List Ft) (a1:Int) (r:Int),hFS_ n a0 a1=some r→Sat ah 62 [(.sl false 5 (a0.map (ak false))),(I a1)] (I r)):=by
 induction n with
 | zero=>exact fun _ _ _ h=>by simp[hFS_] at h
 | succ n ih=>
  refine fun a0 a1 r h=>?_
  obtain⟨h,cs⟩:=Ro_ h
  rw[hFS_] at h
  refine av (nt:=62) (rs:=[.tmp 4]) (n:=100000) Tryz.func62 rfl rfl rfl rfl (by simp) (S ?_)
  refine aO (b:=false) (sz:=5) (es:=a0.map (ak false)) 0 SC fun hl0=>?_; rw[aD] at hl0
  replace h:=rl_ h
  refine aK h (fun i2 s2=>[(0,.val (.pv (.sl false 5 (a0.map (ak false))))),(1,.val (.pv (I s2))),(5,.val (.pv (I (i2:Int))))]) (fun i2 s2=>[]) (Slm_ SC) (fun i2 s2 hi h=>?_) (fun s2 h=>?_)
  ·have w:=ws_ (i:=i2) (by omega)
   refine S ?_
   refine aI cs (by omega) (fun cs=>S ?_)
   obtain⟨v14,hv14,h⟩:=rb_ h
   refine au (f:=(ak false)) hv14 SC (S ?_)
   refine aj cs h (fun cs h=>S ?_) (fun cs h=>S ?_)
   ·obtain⟨v23,hv23,h⟩:=rb_ h
    refine au (f:=(ak false)) hv23 SC (S ?_)
    obtain⟨v28,hv28,h⟩:=rb_ h
    refine ai [false] (mTs_ hv28) SC (S ?_)
    refine ae (DHa_ [] []) (S ?_)
    refine aj cs h (fun cs h=>S ?_) (fun cs h=>S ?_)
    ·obtain⟨v34,hv34,h⟩:=rb_ h
     refine au (f:=(ak false)) hv34 SC (S ?_)
     obtain⟨v39,hv39,h⟩:=rb_ h
     refine ai [false,false] (hTS_1 hv39) SC (S ?_)
     refine aj cs h (fun cs h=>S ?_) (fun cs h=>S ?_)
     ·cases rs_ h
      exact ag SC
     ·obtain⟨v44,hv44,h⟩:=rb_ h
      refine au (f:=(ak false)) hv44 SC (S ?_)
      obtain⟨v48,hv48,h⟩:=rb_ h
      refine ai [false] (mTs_ hv48) SC (S ?_)
      refine ae (DHa_ [] []) (S ?_)
      refine aj cs h (fun cs h=>S ?_) (fun cs h=>S ?_)
      ·obtain⟨v54,hv54,h⟩:=rb_ h
       refine au (f:=(ak false)) hv54 SC (S ?_)
       obtain⟨v58,hv58,h⟩:=rb_ h
       refine ai [false,false] (ih _ _ _ hv58) SC (S ?_)
       refine aj cs h (fun cs h=>S ?_) (fun cs h=>S ?_)
       ·cases rs_ h
        exact ag SC
       ·have h:=rs_ h
        refine aB ⟨_,h,?_⟩
        exact Slm_ SW
      ·cases rs_ h
       exact ag SC
    ·cases rs_ h
     exact ag SC
   ·cases rs_ h
    exact ag SC
  ·refine S ?_
   refine aJ cs (by omega) (fun cs=>S ?_)
   cases rs_ h
   exact ag SC
theorem hFS_1{a0:List Ft}{a1:Int}{r:Int}(h:hFS_2 a0 a1=some r):Sat ah 62 [(.sl false 5 (a0.map (ak false))),(I a1)] (I r):=by
 obtain⟨n,hn⟩:=ls_ h
 exact(hFS_3 n) _ _ _ hn

theorem hSs_{a0:Sa}{a1:Int}  {r:Int}(h:hS_ a0 a1=some r):Sat ah 68 [((aM false) a0),(I a1)] (I r):=by
 obtain⟨h,cs⟩:=Ro_ h
 unfold hS_ at h
 refine av (nt:=18) (rs:=[.tmp 4]) (n:=100000) Tryz.func68 rfl rfl rfl rfl (by simp) (S ?_)
 obtain⟨v8,hv8,h⟩:=rb_ h
 refine ai [false,false] (hFS_1 hv8) SC (S ?_)
 refine aj cs h (fun cs h=>S ?_) (fun cs h=>S ?_)
 ·cases rs_ h
  exact ag SC
 ·obtain⟨v14,hv14,h⟩:=rb_ h
  refine ai [false,false] (hFS_1 hv14) SC (S ?_)
  refine aj cs h (fun cs h=>S ?_) (fun cs h=>S ?_)
  ·cases rs_ h
   exact ag SC
  ·cases rs_ h
   exact ag SC

theorem hTs_{a0:Tt}{a1:Int}  {r:Int}(h:hT_ a0 a1=some r):Sat ah 69 [((am false) a0),(I a1)] (I r):=by
 obtain⟨h,cs⟩:=Ro_ h
 unfold hT_ at h
 refine av (nt:=12) (rs:=[.tmp 4]) (n:=100000) Tryz.func69 rfl rfl rfl rfl (by simp) (S ?_)
 obtain⟨v8,hv8,h⟩:=rb_ h
 refine ai [false,false] (hTS_1 hv8) SC (S ?_)
 refine aj cs h (fun cs h=>S ?_) (fun cs h=>S ?_)
 ·cases rs_ h
  exact ag SC
 ·cases rs_ h
  exact ag SC

theorem hFs_{a0:Ft}{a1:Int}  {r:Int}(h:hF_ a0 a1=some r):Sat ah 70 [((ak false) a0),(I a1)] (I r):=by
 obtain⟨h,cs⟩:=Ro_ h
 unfold hF_ at h
 refine av (nt:=18) (rs:=[.tmp 4]) (n:=100000) Tryz.func70 rfl rfl rfl rfl (by simp) (S ?_)
 obtain⟨v8,hv8,h⟩:=rb_ h
 refine ai [false,false] (hTs_ hv8) SC (S ?_)
 refine aj cs h (fun cs h=>S ?_) (fun cs h=>S ?_)
 ·cases rs_ h
  exact ag SC
 ·obtain⟨v14,hv14,h⟩:=rb_ h
  refine ai [false,false] (hFS_1 hv14) SC (S ?_)
  refine aj cs h (fun cs h=>S ?_) (fun cs h=>S ?_)
  ·cases rs_ h
   exact ag SC
  ·cases rs_ h
   exact ag SC

theorem hDS_2(n:Nat):(∀ (a0:List Dt) (a1:Int) (r:Int),hDS_ n a0 a1=some r→Sat ah 71 [(.sl false 12 (a0.map (aq false))),(I a1)] (I r)):=by
 induction n with
 | zero=>exact fun _ _ _ h=>by simp[hDS_] at h
 | succ n ih=>
  refine fun a0 a1 r h=>?_
  obtain⟨h,cs⟩:=Ro_ h
  rw[hDS_] at h
  refine av (nt:=135) (rs:=[.tmp 4]) (n:=100000) Tryz.func71 rfl rfl rfl rfl (by simp) (S ?_)
  refine aO (b:=false) (sz:=12) (es:=a0.map (aq false)) 0 SC fun hl0=>?_; rw[aD] at hl0
  replace h:=rl_ h
  refine aK h (fun i2 s2=>[(0,.val (.pv (.sl false 12 (a0.map (aq false))))),(1,.val (.pv (I s2))),(5,.val (.pv (I (i2:Int))))]) (fun i2 s2=>[]) (Slm_ SC) (fun i2 s2 hi h=>?_) (fun s2 h=>?_)
  ·have w:=ws_ (i:=i2) (by omega)
   refine S ?_
   refine aI cs (by omega) (fun cs=>S ?_)
   obtain⟨v14,hv14,h⟩:=rb_ h
   refine au (f:=(aq false)) hv14 SC (S ?_)
   refine aj cs h (fun cs h=>S ?_) (fun cs h=>S ?_)
   ·obtain⟨v23,hv23,h⟩:=rb_ h
    refine au (f:=(aq false)) hv23 SC (S ?_)
    obtain⟨v28,hv28,h⟩:=rb_ h
    refine ai [false,false] (hFS_1 hv28) SC (S ?_)
    refine aj cs h (fun cs h=>S ?_) (fun cs h=>S ?_)
    ·cases rs_ h
     exact ag SC
    ·obtain⟨v33,hv33,h⟩:=rb_ h
     refine au (f:=(aq false)) hv33 SC (S ?_)
     obtain⟨v38,hv38,h⟩:=rb_ h
     refine ai [false,false] (hFS_1 hv38) SC (S ?_)
     refine aj cs h (fun cs h=>S ?_) (fun cs h=>S ?_)
     ·cases rs_ h
      exact ag SC
     ·obtain⟨v43,hv43,h⟩:=rb_ h
      refine au (f:=(aq false)) hv43 SC (S ?_)
      refine aj cs h (fun cs h=>S ?_) (fun cs h=>S ?_)
      ·obtain⟨v52,hv52,h⟩:=rb_ h
       refine au (f:=(aq false)) hv52 SC (S ?_)
       obtain⟨v57,hv57,h⟩:=rb_ h
       refine ai [false] (mTs_ hv57) SC (S ?_)
       refine ae (DHa_ [] []) (S ?_)
       refine aj cs h (fun cs h=>S ?_) (fun cs h=>S ?_)
       ·obtain⟨v63,hv63,h⟩:=rb_ h
        refine au (f:=(aq false)) hv63 SC (S ?_)
        obtain⟨v68,hv68,h⟩:=rb_ h
        refine ai [false,false] (hTS_1 hv68) SC (S ?_)
        refine aj cs h (fun cs h=>S ?_) (fun cs h=>S ?_)
        ·cases rs_ h
         exact ag SC
        ·obtain⟨v73,hv73,h⟩:=rb_ h
         refine au (f:=(aq false)) hv73 SC (S ?_)
         refine aj cs h (fun cs h=>S ?_) (fun cs h=>S ?_)
         ·obtain⟨v83,hv83,h⟩:=rb_ h
          refine au (f:=(aq false)) hv83 SC (S ?_)
          obtain⟨v89,hv89,h⟩:=rb_ h
          refine ai [false] (mTs_ hv89) SC (S ?_)
          refine ae (DHa_ [] []) (S ?_)
          refine aj cs h (fun cs h=>S ?_) (fun cs h=>S ?_)
          ·obtain⟨v95,hv95,h⟩:=rb_ h
           refine au (f:=(aq false)) hv95 SC (S ?_)
           obtain⟨v101,hv101,h⟩:=rb_ h
           refine ai [false,false] (hTS_1 hv101) SC (S ?_)
           refine aj cs h (fun cs h=>S ?_) (fun cs h=>S ?_)
           ·cases rs_ h
            exact ag SC
           ·obtain⟨v106,hv106,h⟩:=rb_ h
            refine au (f:=(aq false)) hv106 SC (S ?_)
            obtain⟨v111,hv111,h⟩:=rb_ h
            refine ai [false] (mTs_ hv111) SC (S ?_)
            refine ae (DHa_ [] []) (S ?_)
            refine aj cs h (fun cs h=>S ?_) (fun cs h=>S ?_)
            ·obtain⟨v117,hv117,h⟩:=rb_ h
             refine au (f:=(aq false)) hv117 SC (S ?_)
             obtain⟨v122,hv122,h⟩:=rb_ h
             refine ai [false,false] (hFS_1 hv122) SC (S ?_)
             refine aj cs h (fun cs h=>S ?_) (fun cs h=>S ?_)
             ·cases rs_ h
              exact ag SC
             ·obtain⟨v127,hv127,h⟩:=rb_ h
              refine au (f:=(aq false)) hv127 SC (S ?_)
              obtain⟨v131,hv131,h⟩:=rb_ h
              refine ai [false,false] (ih _ _ _ hv131) SC (S ?_)
              refine aj cs h (fun cs h=>S ?_) (fun cs h=>S ?_)
              ·cases rs_ h
               exact ag SC
              ·have h:=rs_ h
               refine aB ⟨_,h,?_⟩
               exact Slm_ SW
            ·cases rs_ h
             exact ag SC
          ·cases rs_ h
           exact ag SC
         ·cases rs_ h
          exact ag SC
       ·cases rs_ h
        exact ag SC
      ·cases rs_ h
       exact ag SC
   ·cases rs_ h
    exact ag SC
  ·refine S ?_
   refine aJ cs (by omega) (fun cs=>S ?_)
   cases rs_ h
   exact ag SC
theorem hDS_3{a0:List Dt}{a1:Int}{r:Int}(h:hDS_1 a0 a1=some r):Sat ah 71 [(.sl false 12 (a0.map (aq false))),(I a1)] (I r):=by
 obtain⟨n,hn⟩:=ls_ h
 exact(hDS_2 n) _ _ _ hn

theorem hDs_{a0:Dt}{a1:Int}  {r:Int}(h:hD_ a0 a1=some r):Sat ah 34 [((aq false) a0),(I a1)] (I r):=by
 obtain⟨h,cs⟩:=Ro_ h
 unfold hD_ at h
 refine av (nt:=30) (rs:=[.tmp 4]) (n:=100000) Tryz.func34 rfl rfl rfl rfl (by simp) (S ?_)
 obtain⟨v8,hv8,h⟩:=rb_ h
 refine ai [false,false] (hSs_ hv8) SC (S ?_)
 refine aj cs h (fun cs h=>S ?_) (fun cs h=>S ?_)
 ·cases rs_ h
  exact ag SC
 ·obtain⟨v14,hv14,h⟩:=rb_ h
  refine ai [false,false] (hTs_ hv14) SC (S ?_)
  refine aj cs h (fun cs h=>S ?_) (fun cs h=>S ?_)
  ·cases rs_ h
   exact ag SC
  ·obtain⟨v20,hv20,h⟩:=rb_ h
   refine ai [false,false] (hFs_ hv20) SC (S ?_)
   refine aj cs h (fun cs h=>S ?_) (fun cs h=>S ?_)
   ·cases rs_ h
    exact ag SC
   ·obtain⟨v26,hv26,h⟩:=rb_ h
    refine ai [false,false] (hDS_3 hv26) SC (S ?_)
    refine aj cs h (fun cs h=>S ?_) (fun cs h=>S ?_)
    ·cases rs_ h
     exact ag SC
    ·cases rs_ h
     exact ag SC

end Go.Proofs.YtkoghcphkdecoaaGreat
