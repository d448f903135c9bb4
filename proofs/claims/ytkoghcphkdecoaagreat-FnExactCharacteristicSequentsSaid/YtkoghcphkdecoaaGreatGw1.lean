/- A part of the proof: lemmas only; nothing is claimed here beyond what each lemma says. -/
import Derived.Test.YtkoghcphkdecoaaGreatGw0
set_option linter.unusedSimpArgs false
set_option linter.unusedVariables false
set_option linter.defProp false
set_option maxRecDepth 4000
namespace Go.Proofs.YtkoghcphkdecoaaGreat
open Go.Av
open And renaming intro→ae
open AppH renaming mk→aQ
open CallH renaming mk→aj
open CondH renaming run→ai,t2→aG,f2→aJ
open Dt renaming pv→av
open EldH renaming mk→bp
open FinH renaming l→ag,r→aL
open Ft renaming pv→al
open IdxH renaming mk→ar
open List renaming length_map→aC
open Mg renaming know_sl→aN,forN→aI
open PV renaming views→aF
open RdH renaming mk→aA
open Sa renaming pv→ao
open Sat renaming of_m→au,give→bA
open St renaming le_trans→aT
open Tryz renaming prog→ah
open Tt renaming pv→am
open VSeq renaming step→aq,nil→aS
set_option maxHeartbeats 4000000
theorem ihF_2(n:Nat):(∀ (a0:Ft) (r:Bool),ihF_1 n a0=some r→Sat ah 110 [((al false) a0)] (B r))∧(∀ (a0:Ft) (r:Bool),ihF_ n a0=some r→Sat ah 139 [((al false) a0)] (B r)):=by
 induction n with
 | zero=>exact⟨fun _ _ h=>by simp[ihF_1] at h,fun _ _ h=>by simp[ihF_] at h⟩
 | succ n ih=>
  refine⟨fun a0 r h=>?_,fun a0 r h=>?_⟩
  ·obtain⟨h,cs⟩:=Ro_ h
   rw[ihF_1] at h
   refine au (nt:=76) (rs:=[.tmp 2]) (n:=100000) Tryz.func110 rfl rfl rfl rfl (by simp) (S ?_)
   refine ai cs h (fun cs h=>S ?_) (fun cs h=>S ?_)
   ·refine ai cs h (fun cs h=>S ?_) (fun cs h=>S ?_)
    ·obtain⟨v33,hv33,h⟩:=rb_ h
     refine aj [false] (iiQ_ hv33) SC (S ?_)
     refine ai cs h (fun cs h=>S ?_) (fun cs h=>S ?_)
     ·obtain⟨v37,hv37,h⟩:=rb_ h
      refine aj [false] (iiV_1 hv37) SC (S ?_)
      refine ai cs h (fun cs h=>S ?_) (fun cs h=>S ?_)
      ·obtain⟨v44,hv44,h⟩:=rb_ h
       refine aj [false] (iiQ_ hv44) SC (S ?_)
       refine ai cs h (fun cs h=>S ?_) (fun cs h=>S ?_)
       ·refine ai cs h (fun cs h=>S ?_) (fun cs h=>S ?_)
        ·obtain⟨v58,hv58,h⟩:=rb_ h
         refine aj [false] (iIV_ hv58) SC (S ?_)
         refine ai cs h (fun cs h=>S ?_) (fun cs h=>S ?_)
         ·obtain⟨v74,hv74,h⟩:=rb_ h
          refine aj [false,false] (sCF_1 (fun _ _ hh=>ih.2 _ _ hh) (by simp only[COn_,COc_]) hv74) SC (S ?_)
          cases rs_ h
          exact ag SC
         ·cases rs_ h
          exact ag SC
        ·obtain⟨v68,hv68,h⟩:=rb_ h
         refine aj [false] (iiZ_ hv68) SC (S ?_)
         refine ai cs h (fun cs h=>S ?_) (fun cs h=>S ?_)
         ·obtain⟨v74,hv74,h⟩:=rb_ h
          refine aj [false,false] (sCF_1 (fun _ _ hh=>ih.2 _ _ hh) (by simp only[COn_,COc_]) hv74) SC (S ?_)
          cases rs_ h
          exact ag SC
         ·cases rs_ h
          exact ag SC
       ·refine ai cs h (fun cs h=>S ?_) (fun cs h=>S ?_)
        ·refine ai cs h (fun cs h=>S ?_) (fun cs h=>S ?_)
         ·obtain⟨v58,hv58,h⟩:=rb_ h
          refine aj [false] (iIV_ hv58) SC (S ?_)
          refine ai cs h (fun cs h=>S ?_) (fun cs h=>S ?_)
          ·obtain⟨v74,hv74,h⟩:=rb_ h
           refine aj [false,false] (sCF_1 (fun _ _ hh=>ih.2 _ _ hh) (by simp only[COn_,COc_]) hv74) SC (S ?_)
           cases rs_ h
           exact ag SC
          ·cases rs_ h
           exact ag SC
         ·obtain⟨v68,hv68,h⟩:=rb_ h
          refine aj [false] (iiZ_ hv68) SC (S ?_)
          refine ai cs h (fun cs h=>S ?_) (fun cs h=>S ?_)
          ·obtain⟨v74,hv74,h⟩:=rb_ h
           refine aj [false,false] (sCF_1 (fun _ _ hh=>ih.2 _ _ hh) (by simp only[COn_,COc_]) hv74) SC (S ?_)
           cases rs_ h
           exact ag SC
          ·cases rs_ h
           exact ag SC
        ·cases rs_ h
         exact ag SC
      ·cases rs_ h
       exact ag SC
     ·obtain⟨v44,hv44,h⟩:=rb_ h
      refine aj [false] (iiQ_ hv44) SC (S ?_)
      refine ai cs h (fun cs h=>S ?_) (fun cs h=>S ?_)
      ·refine ai cs h (fun cs h=>S ?_) (fun cs h=>S ?_)
       ·obtain⟨v58,hv58,h⟩:=rb_ h
        refine aj [false] (iIV_ hv58) SC (S ?_)
        refine ai cs h (fun cs h=>S ?_) (fun cs h=>S ?_)
        ·obtain⟨v74,hv74,h⟩:=rb_ h
         refine aj [false,false] (sCF_1 (fun _ _ hh=>ih.2 _ _ hh) (by simp only[COn_,COc_]) hv74) SC (S ?_)
         cases rs_ h
         exact ag SC
        ·cases rs_ h
         exact ag SC
       ·obtain⟨v68,hv68,h⟩:=rb_ h
        refine aj [false] (iiZ_ hv68) SC (S ?_)
        refine ai cs h (fun cs h=>S ?_) (fun cs h=>S ?_)
        ·obtain⟨v74,hv74,h⟩:=rb_ h
         refine aj [false,false] (sCF_1 (fun _ _ hh=>ih.2 _ _ hh) (by simp only[COn_,COc_]) hv74) SC (S ?_)
         cases rs_ h
         exact ag SC
        ·cases rs_ h
         exact ag SC
      ·refine ai cs h (fun cs h=>S ?_) (fun cs h=>S ?_)
       ·refine ai cs h (fun cs h=>S ?_) (fun cs h=>S ?_)
        ·obtain⟨v58,hv58,h⟩:=rb_ h
         refine aj [false] (iIV_ hv58) SC (S ?_)
         refine ai cs h (fun cs h=>S ?_) (fun cs h=>S ?_)
         ·obtain⟨v74,hv74,h⟩:=rb_ h
          refine aj [false,false] (sCF_1 (fun _ _ hh=>ih.2 _ _ hh) (by simp only[COn_,COc_]) hv74) SC (S ?_)
          cases rs_ h
          exact ag SC
         ·cases rs_ h
          exact ag SC
        ·obtain⟨v68,hv68,h⟩:=rb_ h
         refine aj [false] (iiZ_ hv68) SC (S ?_)
         refine ai cs h (fun cs h=>S ?_) (fun cs h=>S ?_)
         ·obtain⟨v74,hv74,h⟩:=rb_ h
          refine aj [false,false] (sCF_1 (fun _ _ hh=>ih.2 _ _ hh) (by simp only[COn_,COc_]) hv74) SC (S ?_)
          cases rs_ h
          exact ag SC
         ·cases rs_ h
          exact ag SC
       ·cases rs_ h
        exact ag SC
    ·cases rs_ h
     exact ag SC
   ·refine ai cs h (fun cs h=>S ?_) (fun cs h=>S ?_)
    ·refine ai cs h (fun cs h=>S ?_) (fun cs h=>S ?_)
     ·obtain⟨v33,hv33,h⟩:=rb_ h
      refine aj [false] (iiQ_ hv33) SC (S ?_)
      refine ai cs h (fun cs h=>S ?_) (fun cs h=>S ?_)
      ·obtain⟨v37,hv37,h⟩:=rb_ h
       refine aj [false] (iiV_1 hv37) SC (S ?_)
       refine ai cs h (fun cs h=>S ?_) (fun cs h=>S ?_)
       ·obtain⟨v44,hv44,h⟩:=rb_ h
        refine aj [false] (iiQ_ hv44) SC (S ?_)
        refine ai cs h (fun cs h=>S ?_) (fun cs h=>S ?_)
        ·refine ai cs h (fun cs h=>S ?_) (fun cs h=>S ?_)
         ·obtain⟨v58,hv58,h⟩:=rb_ h
          refine aj [false] (iIV_ hv58) SC (S ?_)
          refine ai cs h (fun cs h=>S ?_) (fun cs h=>S ?_)
          ·obtain⟨v74,hv74,h⟩:=rb_ h
           refine aj [false,false] (sCF_1 (fun _ _ hh=>ih.2 _ _ hh) (by simp only[COn_,COc_]) hv74) SC (S ?_)
           cases rs_ h
           exact ag SC
          ·cases rs_ h
           exact ag SC
         ·obtain⟨v68,hv68,h⟩:=rb_ h
          refine aj [false] (iiZ_ hv68) SC (S ?_)
          refine ai cs h (fun cs h=>S ?_) (fun cs h=>S ?_)
          ·obtain⟨v74,hv74,h⟩:=rb_ h
           refine aj [false,false] (sCF_1 (fun _ _ hh=>ih.2 _ _ hh) (by simp only[COn_,COc_]) hv74) SC (S ?_)
           cases rs_ h
           exact ag SC
          ·cases rs_ h
           exact ag SC
        ·refine ai cs h (fun cs h=>S ?_) (fun cs h=>S ?_)
         ·refine ai cs h (fun cs h=>S ?_) (fun cs h=>S ?_)
          ·obtain⟨v58,hv58,h⟩:=rb_ h
           refine aj [false] (iIV_ hv58) SC (S ?_)
           refine ai cs h (fun cs h=>S ?_) (fun cs h=>S ?_)
           ·obtain⟨v74,hv74,h⟩:=rb_ h
            refine aj [false,false] (sCF_1 (fun _ _ hh=>ih.2 _ _ hh) (by simp only[COn_,COc_]) hv74) SC (S ?_)
            cases rs_ h
            exact ag SC
           ·cases rs_ h
            exact ag SC
          ·obtain⟨v68,hv68,h⟩:=rb_ h
           refine aj [false] (iiZ_ hv68) SC (S ?_)
           refine ai cs h (fun cs h=>S ?_) (fun cs h=>S ?_)
           ·obtain⟨v74,hv74,h⟩:=rb_ h
            refine aj [false,false] (sCF_1 (fun _ _ hh=>ih.2 _ _ hh) (by simp only[COn_,COc_]) hv74) SC (S ?_)
            cases rs_ h
            exact ag SC
           ·cases rs_ h
            exact ag SC
         ·cases rs_ h
          exact ag SC
       ·cases rs_ h
        exact ag SC
      ·obtain⟨v44,hv44,h⟩:=rb_ h
       refine aj [false] (iiQ_ hv44) SC (S ?_)
       refine ai cs h (fun cs h=>S ?_) (fun cs h=>S ?_)
       ·refine ai cs h (fun cs h=>S ?_) (fun cs h=>S ?_)
        ·obtain⟨v58,hv58,h⟩:=rb_ h
         refine aj [false] (iIV_ hv58) SC (S ?_)
         refine ai cs h (fun cs h=>S ?_) (fun cs h=>S ?_)
         ·obtain⟨v74,hv74,h⟩:=rb_ h
          refine aj [false,false] (sCF_1 (fun _ _ hh=>ih.2 _ _ hh) (by simp only[COn_,COc_]) hv74) SC (S ?_)
          cases rs_ h
          exact ag SC
         ·cases rs_ h
          exact ag SC
        ·obtain⟨v68,hv68,h⟩:=rb_ h
         refine aj [false] (iiZ_ hv68) SC (S ?_)
         refine ai cs h (fun cs h=>S ?_) (fun cs h=>S ?_)
         ·obtain⟨v74,hv74,h⟩:=rb_ h
          refine aj [false,false] (sCF_1 (fun _ _ hh=>ih.2 _ _ hh) (by simp only[COn_,COc_]) hv74) SC (S ?_)
          cases rs_ h
          exact ag SC
         ·cases rs_ h
          exact ag SC
       ·refine ai cs h (fun cs h=>S ?_) (fun cs h=>S ?_)
        ·refine ai cs h (fun cs h=>S ?_) (fun cs h=>S ?_)
         ·obtain⟨v58,hv58,h⟩:=rb_ h
          refine aj [false] (iIV_ hv58) SC (S ?_)
          refine ai cs h (fun cs h=>S ?_) (fun cs h=>S ?_)
          ·obtain⟨v74,hv74,h⟩:=rb_ h
           refine aj [false,false] (sCF_1 (fun _ _ hh=>ih.2 _ _ hh) (by simp only[COn_,COc_]) hv74) SC (S ?_)
           cases rs_ h
           exact ag SC
          ·cases rs_ h
           exact ag SC
         ·obtain⟨v68,hv68,h⟩:=rb_ h
          refine aj [false] (iiZ_ hv68) SC (S ?_)
          refine ai cs h (fun cs h=>S ?_) (fun cs h=>S ?_)
          ·obtain⟨v74,hv74,h⟩:=rb_ h
           refine aj [false,false] (sCF_1 (fun _ _ hh=>ih.2 _ _ hh) (by simp only[COn_,COc_]) hv74) SC (S ?_)
           cases rs_ h
           exact ag SC
          ·cases rs_ h
           exact ag SC
        ·cases rs_ h
         exact ag SC
     ·cases rs_ h
      exact ag SC
    ·refine ai cs h (fun cs h=>S ?_) (fun cs h=>S ?_)
     ·refine ai cs h (fun cs h=>S ?_) (fun cs h=>S ?_)
      ·obtain⟨v33,hv33,h⟩:=rb_ h
       refine aj [false] (iiQ_ hv33) SC (S ?_)
       refine ai cs h (fun cs h=>S ?_) (fun cs h=>S ?_)
       ·obtain⟨v37,hv37,h⟩:=rb_ h
        refine aj [false] (iiV_1 hv37) SC (S ?_)
        refine ai cs h (fun cs h=>S ?_) (fun cs h=>S ?_)
        ·obtain⟨v44,hv44,h⟩:=rb_ h
         refine aj [false] (iiQ_ hv44) SC (S ?_)
         refine ai cs h (fun cs h=>S ?_) (fun cs h=>S ?_)
         ·obtain⟨v58,hv58,h⟩:=rb_ h
          refine aj [false] (iIV_ hv58) SC (S ?_)
          refine ai cs h (fun cs h=>S ?_) (fun cs h=>S ?_)
          ·obtain⟨v74,hv74,h⟩:=rb_ h
           refine aj [false,false] (sCF_1 (fun _ _ hh=>ih.2 _ _ hh) (by simp only[COn_,COc_]) hv74) SC (S ?_)
           cases rs_ h
           exact ag SC
          ·cases rs_ h
           exact ag SC
         ·refine ai cs h (fun cs h=>S ?_) (fun cs h=>S ?_)
          ·obtain⟨v58,hv58,h⟩:=rb_ h
           refine aj [false] (iIV_ hv58) SC (S ?_)
           refine ai cs h (fun cs h=>S ?_) (fun cs h=>S ?_)
           ·obtain⟨v74,hv74,h⟩:=rb_ h
            refine aj [false,false] (sCF_1 (fun _ _ hh=>ih.2 _ _ hh) (by simp only[COn_,COc_]) hv74) SC (S ?_)
            cases rs_ h
            exact ag SC
           ·cases rs_ h
            exact ag SC
          ·cases rs_ h
           exact ag SC
        ·cases rs_ h
         exact ag SC
       ·obtain⟨v44,hv44,h⟩:=rb_ h
        refine aj [false] (iiQ_ hv44) SC (S ?_)
        refine ai cs h (fun cs h=>S ?_) (fun cs h=>S ?_)
        ·obtain⟨v58,hv58,h⟩:=rb_ h
         refine aj [false] (iIV_ hv58) SC (S ?_)
         refine ai cs h (fun cs h=>S ?_) (fun cs h=>S ?_)
         ·obtain⟨v74,hv74,h⟩:=rb_ h
          refine aj [false,false] (sCF_1 (fun _ _ hh=>ih.2 _ _ hh) (by simp only[COn_,COc_]) hv74) SC (S ?_)
          cases rs_ h
          exact ag SC
         ·cases rs_ h
          exact ag SC
        ·refine ai cs h (fun cs h=>S ?_) (fun cs h=>S ?_)
         ·obtain⟨v58,hv58,h⟩:=rb_ h
          refine aj [false] (iIV_ hv58) SC (S ?_)
          refine ai cs h (fun cs h=>S ?_) (fun cs h=>S ?_)
          ·obtain⟨v74,hv74,h⟩:=rb_ h
           refine aj [false,false] (sCF_1 (fun _ _ hh=>ih.2 _ _ hh) (by simp only[COn_,COc_]) hv74) SC (S ?_)
           cases rs_ h
           exact ag SC
          ·cases rs_ h
           exact ag SC
         ·cases rs_ h
          exact ag SC
      ·cases rs_ h
       exact ag SC
     ·refine ai cs h (fun cs h=>S ?_) (fun cs h=>S ?_)
      ·refine ai cs h (fun cs h=>S ?_) (fun cs h=>S ?_)
       ·obtain⟨v33,hv33,h⟩:=rb_ h
        refine aj [false] (iiQ_ hv33) SC (S ?_)
        refine ai cs h (fun cs h=>S ?_) (fun cs h=>S ?_)
        ·obtain⟨v37,hv37,h⟩:=rb_ h
         refine aj [false] (iiV_1 hv37) SC (S ?_)
         refine ai cs h (fun cs h=>S ?_) (fun cs h=>S ?_)
         ·obtain⟨v44,hv44,h⟩:=rb_ h
          refine aj [false] (iiQ_ hv44) SC (S ?_)
          refine ai cs h (fun cs h=>S ?_) (fun cs h=>S ?_)
          ·obtain⟨v68,hv68,h⟩:=rb_ h
           refine aj [false] (iiZ_ hv68) SC (S ?_)
           refine ai cs h (fun cs h=>S ?_) (fun cs h=>S ?_)
           ·obtain⟨v74,hv74,h⟩:=rb_ h
            refine aj [false,false] (sCF_1 (fun _ _ hh=>ih.2 _ _ hh) (by simp only[COn_,COc_]) hv74) SC (S ?_)
            cases rs_ h
            exact ag SC
           ·cases rs_ h
            exact ag SC
          ·refine ai cs h (fun cs h=>S ?_) (fun cs h=>S ?_)
           ·obtain⟨v68,hv68,h⟩:=rb_ h
            refine aj [false] (iiZ_ hv68) SC (S ?_)
            refine ai cs h (fun cs h=>S ?_) (fun cs h=>S ?_)
            ·obtain⟨v74,hv74,h⟩:=rb_ h
             refine aj [false,false] (sCF_1 (fun _ _ hh=>ih.2 _ _ hh) (by simp only[COn_,COc_]) hv74) SC (S ?_)
             cases rs_ h
             exact ag SC
            ·cases rs_ h
             exact ag SC
           ·cases rs_ h
            exact ag SC
         ·cases rs_ h
          exact ag SC
        ·obtain⟨v44,hv44,h⟩:=rb_ h
         refine aj [false] (iiQ_ hv44) SC (S ?_)
         refine ai cs h (fun cs h=>S ?_) (fun cs h=>S ?_)
         ·obtain⟨v68,hv68,h⟩:=rb_ h
          refine aj [false] (iiZ_ hv68) SC (S ?_)
          refine ai cs h (fun cs h=>S ?_) (fun cs h=>S ?_)
          ·obtain⟨v74,hv74,h⟩:=rb_ h
           refine aj [false,false] (sCF_1 (fun _ _ hh=>ih.2 _ _ hh) (by simp only[COn_,COc_]) hv74) SC (S ?_)
           cases rs_ h
           exact ag SC
          ·cases rs_ h
           exact ag SC
         ·refine ai cs h (fun cs h=>S ?_) (fun cs h=>S ?_)
          ·obtain⟨v68,hv68,h⟩:=rb_ h
           refine aj [false] (iiZ_ hv68) SC (S ?_)
           refine ai cs h (fun cs h=>S ?_) (fun cs h=>S ?_)
           ·obtain⟨v74,hv74,h⟩:=rb_ h
            refine aj [false,false] (sCF_1 (fun _ _ hh=>ih.2 _ _ hh) (by simp only[COn_,COc_]) hv74) SC (S ?_)
            cases rs_ h
            exact ag SC
           ·cases rs_ h
            exact ag SC
          ·cases rs_ h
           exact ag SC
       ·cases rs_ h
        exact ag SC
      ·obtain⟨v20,hv20,h⟩:=rb_ h
       refine aj [false] (iiQ_ hv20) SC (S ?_)
       refine ai cs h (fun cs h=>S ?_) (fun cs h=>S ?_)
       ·refine ai cs h (fun cs h=>S ?_) (fun cs h=>S ?_)
        ·obtain⟨v33,hv33,h⟩:=rb_ h
         refine aj [false] (iiQ_ hv33) SC (S ?_)
         refine ai cs h (fun cs h=>S ?_) (fun cs h=>S ?_)
         ·obtain⟨v37,hv37,h⟩:=rb_ h
          refine aj [false] (iiV_1 hv37) SC (S ?_)
          refine ai cs h (fun cs h=>S ?_) (fun cs h=>S ?_)
          ·obtain⟨v44,hv44,h⟩:=rb_ h
           refine aj [false] (iiQ_ hv44) SC (S ?_)
           refine ai cs h (fun cs h=>S ?_) (fun cs h=>S ?_)
           ·obtain⟨v68,hv68,h⟩:=rb_ h
            refine aj [false] (iiZ_ hv68) SC (S ?_)
            refine ai cs h (fun cs h=>S ?_) (fun cs h=>S ?_)
            ·obtain⟨v74,hv74,h⟩:=rb_ h
             refine aj [false,false] (sCF_1 (fun _ _ hh=>ih.2 _ _ hh) (by simp only[COn_,COc_]) hv74) SC (S ?_)
             cases rs_ h
             exact ag SC
            ·cases rs_ h
             exact ag SC
           ·refine ai cs h (fun cs h=>S ?_) (fun cs h=>S ?_)
            ·obtain⟨v68,hv68,h⟩:=rb_ h
             refine aj [false] (iiZ_ hv68) SC (S ?_)
             refine ai cs h (fun cs h=>S ?_) (fun cs h=>S ?_)
             ·obtain⟨v74,hv74,h⟩:=rb_ h
              refine aj [false,false] (sCF_1 (fun _ _ hh=>ih.2 _ _ hh) (by simp only[COn_,COc_]) hv74) SC (S ?_)
              cases rs_ h
              exact ag SC
             ·cases rs_ h
              exact ag SC
            ·cases rs_ h
             exact ag SC
          ·cases rs_ h
           exact ag SC
         ·obtain⟨v44,hv44,h⟩:=rb_ h
          refine aj [false] (iiQ_ hv44) SC (S ?_)
          refine ai cs h (fun cs h=>S ?_) (fun cs h=>S ?_)
          ·obtain⟨v68,hv68,h⟩:=rb_ h
           refine aj [false] (iiZ_ hv68) SC (S ?_)
           refine ai cs h (fun cs h=>S ?_) (fun cs h=>S ?_)
           ·obtain⟨v74,hv74,h⟩:=rb_ h
            refine aj [false,false] (sCF_1 (fun _ _ hh=>ih.2 _ _ hh) (by simp only[COn_,COc_]) hv74) SC (S ?_)
            cases rs_ h
            exact ag SC
           ·cases rs_ h
            exact ag SC
          ·refine ai cs h (fun cs h=>S ?_) (fun cs h=>S ?_)
           ·obtain⟨v68,hv68,h⟩:=rb_ h
            refine aj [false] (iiZ_ hv68) SC (S ?_)
            refine ai cs h (fun cs h=>S ?_) (fun cs h=>S ?_)
            ·obtain⟨v74,hv74,h⟩:=rb_ h
             refine aj [false,false] (sCF_1 (fun _ _ hh=>ih.2 _ _ hh) (by simp only[COn_,COc_]) hv74) SC (S ?_)
             cases rs_ h
             exact ag SC
            ·cases rs_ h
             exact ag SC
           ·cases rs_ h
            exact ag SC
        ·cases rs_ h
         exact ag SC
       ·obtain⟨v24,hv24,h⟩:=rb_ h
        refine aj [false] (iiB_1 hv24) SC (S ?_)
        refine ai cs h (fun cs h=>S ?_) (fun cs h=>S ?_)
        ·refine ai cs h (fun cs h=>S ?_) (fun cs h=>S ?_)
         ·obtain⟨v33,hv33,h⟩:=rb_ h
          refine aj [false] (iiQ_ hv33) SC (S ?_)
          refine ai cs h (fun cs h=>S ?_) (fun cs h=>S ?_)
          ·obtain⟨v37,hv37,h⟩:=rb_ h
           refine aj [false] (iiV_1 hv37) SC (S ?_)
           refine ai cs h (fun cs h=>S ?_) (fun cs h=>S ?_)
           ·obtain⟨v44,hv44,h⟩:=rb_ h
            refine aj [false] (iiQ_ hv44) SC (S ?_)
            refine ai cs h (fun cs h=>S ?_) (fun cs h=>S ?_)
            ·obtain⟨v68,hv68,h⟩:=rb_ h
             refine aj [false] (iiZ_ hv68) SC (S ?_)
             refine ai cs h (fun cs h=>S ?_) (fun cs h=>S ?_)
             ·obtain⟨v74,hv74,h⟩:=rb_ h
              refine aj [false,false] (sCF_1 (fun _ _ hh=>ih.2 _ _ hh) (by simp only[COn_,COc_]) hv74) SC (S ?_)
              cases rs_ h
              exact ag SC
             ·cases rs_ h
              exact ag SC
            ·refine ai cs h (fun cs h=>S ?_) (fun cs h=>S ?_)
             ·obtain⟨v68,hv68,h⟩:=rb_ h
              refine aj [false] (iiZ_ hv68) SC (S ?_)
              refine ai cs h (fun cs h=>S ?_) (fun cs h=>S ?_)
              ·obtain⟨v74,hv74,h⟩:=rb_ h
               refine aj [false,false] (sCF_1 (fun _ _ hh=>ih.2 _ _ hh) (by simp only[COn_,COc_]) hv74) SC (S ?_)
               cases rs_ h
               exact ag SC
              ·cases rs_ h
               exact ag SC
             ·cases rs_ h
              exact ag SC
           ·cases rs_ h
            exact ag SC
          ·obtain⟨v44,hv44,h⟩:=rb_ h
           refine aj [false] (iiQ_ hv44) SC (S ?_)
           refine ai cs h (fun cs h=>S ?_) (fun cs h=>S ?_)
           ·obtain⟨v68,hv68,h⟩:=rb_ h
            refine aj [false] (iiZ_ hv68) SC (S ?_)
            refine ai cs h (fun cs h=>S ?_) (fun cs h=>S ?_)
            ·obtain⟨v74,hv74,h⟩:=rb_ h
             refine aj [false,false] (sCF_1 (fun _ _ hh=>ih.2 _ _ hh) (by simp only[COn_,COc_]) hv74) SC (S ?_)
             cases rs_ h
             exact ag SC
            ·cases rs_ h
             exact ag SC
           ·refine ai cs h (fun cs h=>S ?_) (fun cs h=>S ?_)
            ·obtain⟨v68,hv68,h⟩:=rb_ h
             refine aj [false] (iiZ_ hv68) SC (S ?_)
             refine ai cs h (fun cs h=>S ?_) (fun cs h=>S ?_)
             ·obtain⟨v74,hv74,h⟩:=rb_ h
              refine aj [false,false] (sCF_1 (fun _ _ hh=>ih.2 _ _ hh) (by simp only[COn_,COc_]) hv74) SC (S ?_)
              cases rs_ h
              exact ag SC
             ·cases rs_ h
              exact ag SC
            ·cases rs_ h
             exact ag SC
         ·cases rs_ h
          exact ag SC
        ·cases rs_ h
         exact ag SC
  ·obtain⟨h,cs⟩:=Ro_ h
   rw[ihF_] at h
   refine au (nt:=6) (rs:=[.tmp 2]) (n:=100000) Tryz.func139 rfl rfl rfl rfl (by simp) (S ?_)
   obtain⟨v4,hv4,h⟩:=rb_ h
   refine aj [false] (ih.1 _ _ hv4) SC (S ?_)
   cases rs_ h
   exact ag SC
theorem ihF_4{a0:Ft}{r:Bool}(h:ihF_3 a0=some r):Sat ah 110 [((al false) a0)] (B r):=by
 obtain⟨n,hn⟩:=ls_ h
 exact(ihF_2 n).1 _ _ hn
theorem ihF_6{a0:Ft}{r:Bool}(h:ihF_5 a0=some r):Sat ah 139 [((al false) a0)] (B r):=by
 obtain⟨n,hn⟩:=ls_ h
 exact(ihF_2 n).2 _ _ hn

theorem iIV_6{a0:Ft}  {r:Bool}(h:iIV_2 a0=some r):Sat ah 73 [((al false) a0)] (B r):=by
 obtain⟨h,cs⟩:=Ro_ h
 unfold iIV_2 at h
 refine au (nt:=10) (rs:=[.tmp 2]) (n:=100000) Tryz.func73 rfl rfl rfl rfl (by simp) (S ?_)
 obtain⟨v4,hv4,h⟩:=rb_ h
 refine aj [false] (isO_3 hv4) SC (S ?_)
 refine ai cs h (fun cs h=>S ?_) (fun cs h=>S ?_)
 ·obtain⟨v8,hv8,h⟩:=rb_ h
  refine aj [false] (ihF_4 hv8) SC (S ?_)
  cases rs_ h
  exact ag SC
 ·cases rs_ h
  exact ag SC

theorem iIV_9{a0:Ft}  {r:Bool}(h:iIV_5 a0=some r):Sat ah 131 [((al false) a0)] (B r):=by
 obtain⟨h,cs⟩:=Ro_ h
 unfold iIV_5 at h
 refine au (nt:=6) (rs:=[.tmp 2]) (n:=100000) Tryz.func131 rfl rfl rfl rfl (by simp) (S ?_)
 obtain⟨v4,hv4,h⟩:=rb_ h
 refine aj [false] (iIV_6 hv4) SC (S ?_)
 cases rs_ h
 exact ag SC

theorem iIV_8{a0:Sa}  {r:Bool}(h:iIV_3 a0=some r):Sat ah 101 [((ao false) a0)] (B r):=by
 obtain⟨h,cs⟩:=Ro_ h
 unfold iIV_3 at h
 refine au (nt:=28) (rs:=[.tmp 2]) (n:=100000) Tryz.func101 rfl rfl rfl rfl (by simp) (S ?_)
 refine ai cs h (fun cs h=>S ?_) (fun cs h=>S ?_)
 ·refine ai cs h (fun cs h=>S ?_) (fun cs h=>S ?_)
  ·obtain⟨v18,hv18,h⟩:=rb_ h
   refine aj [false,false] (sCF_1 (fun _ _ hh=>iIV_9 hh) (by simp only[COn_,COc_]) hv18) SC (S ?_)
   refine ai cs h (fun cs h=>S ?_) (fun cs h=>S ?_)
   ·cases rs_ h
    exact ag SC
   ·obtain⟨v25,hv25,h⟩:=rb_ h
    refine aj [false,false] (sCF_1 (fun _ _ hh=>iIV_9 hh) (by simp only[COn_,COc_]) hv25) SC (S ?_)
    cases rs_ h
    exact ag SC
  ·cases rs_ h
   exact ag SC
 ·cases rs_ h
  exact ag SC

theorem sEF_5{a0:List Tt}{a1:List Tt}{a2:Tt→Tt→Option Bool}{a2_id:FuncId}{a2_cs:List PV}(a2_ok:∀ y0 y1 r,a2 y0 y1=some r→Sat ah a2_id (((am false) y0)::((am false) y1)::a2_cs) (B r))(a2_cz:CapsOk a2_cs=True){r:Bool}(h:sEF_2 a0 a1 a2=some r):Sat ah 169 [(.sl false 2 (a0.map (am false))),(.sl false 2 (a1.map (am false))),.clo a2_id a2_cs] (B r):=by
 obtain⟨h,cs⟩:=Ro_ h
 unfold sEF_2 at h
 have cs:=ae a2_cz cs
 refine au (nt:=32) (rs:=[.tmp 6]) (n:=100000) Tryz.func169 rfl rfl rfl rfl (by simp) (S ?_)
 refine ai cs h (fun cs h=>S ?_) (fun cs h=>S ?_)
 ·refine aN (b:=false) (sz:=2) (es:=a0.map (am false)) 0 SC fun hl0=>?_; rw[aC] at hl0
  replace h:=rl_ h
  refine aI h (fun i4 s4=>[(1,.val (.pv (.sl false 2 (a1.map (am false))))),(2,.val (.pv (.clo a2_id a2_cs))),(15,.val (.pv (.sl false 2 (a0.map (am false))))),(16,.val (.pv (I (a0.length:Int)))),(17,.val (.pv (I (i4:Int))))]) (fun i4 s4=>[]) (Slm_ SC) (fun i4 s4 hi h=>?_) (fun s4 h=>?_)
  ·have w:=ws_ (i:=i4) (by omega)
   refine S ?_
   refine aG cs (by omega) (fun cs=>S ?_)
   obtain⟨v20,hv20,h⟩:=rb_ h
   refine ar (f:=(am false)) hv20 SC (S ?_)
   obtain⟨v24,hv24,h⟩:=rb_ h
   refine ar (f:=(am false)) hv24 SC (S ?_)
   obtain⟨v29,hv29,h⟩:=rb_ h
   refine aj [false,false] (a2_ok _ _ _ hv29) SC (S ?_)
   refine ai cs h (fun cs h=>S ?_) (fun cs h=>S ?_)
   ·have h:=rs_ h
    refine aA ⟨_,h,?_⟩
    exact Slm_ SW
   ·cases rs_ h
    exact ag SC
  ·refine S ?_
   refine aJ cs (by omega) (fun cs=>S ?_)
   cases rs_ h
   exact ag SC
 ·cases rs_ h
  exact ag SC

theorem iET_2(n:Nat):(∀ (a0:Tt) (a1:Tt) (r:Bool),iET_ n a0 a1=some r→Sat ah 149 [((am false) a0),((am false) a1)] (B r)):=by
 induction n with
 | zero=>exact fun _ _ _ h=>by simp[iET_] at h
 | succ n ih=>
  refine fun a0 a1 r h=>?_
  obtain⟨h,cs⟩:=Ro_ h
  rw[iET_] at h
  refine au (nt:=17) (rs:=[.tmp 4]) (n:=100000) Tryz.func149 rfl rfl rfl rfl (by simp) (S ?_)
  refine ai cs h (fun cs h=>S ?_) (fun cs h=>S ?_)
  ·obtain⟨v15,hv15,h⟩:=rb_ h
   refine aj [false,false,false] (sEF_5 (fun _ _ _ hh=>ih _ _ _ hh) (by simp only[COn_,COc_]) hv15) SC (S ?_)
   cases rs_ h
   exact ag SC
  ·cases rs_ h
   exact ag SC
theorem iET_3{a0:Tt}{a1:Tt}{r:Bool}(h:iET_1 a0 a1=some r):Sat ah 149 [((am false) a0),((am false) a1)] (B r):=by
 obtain⟨n,hn⟩:=ls_ h
 exact(iET_2 n) _ _ _ hn

theorem sEF_3{a0:List Ft}{a1:List Ft}{a2:Ft→Ft→Option Bool}{a2_id:FuncId}{a2_cs:List PV}(a2_ok:∀ y0 y1 r,a2 y0 y1=some r→Sat ah a2_id (((al false) y0)::((al false) y1)::a2_cs) (B r))(a2_cz:CapsOk a2_cs=True){r:Bool}(h:sEF_ a0 a1 a2=some r):Sat ah 150 [(.sl false 5 (a0.map (al false))),(.sl false 5 (a1.map (al false))),.clo a2_id a2_cs] (B r):=by
 obtain⟨h,cs⟩:=Ro_ h
 unfold sEF_ at h
 have cs:=ae a2_cz cs
 refine au (nt:=32) (rs:=[.tmp 6]) (n:=100000) Tryz.func150 rfl rfl rfl rfl (by simp) (S ?_)
 refine ai cs h (fun cs h=>S ?_) (fun cs h=>S ?_)
 ·refine aN (b:=false) (sz:=5) (es:=a0.map (al false)) 0 SC fun hl0=>?_; rw[aC] at hl0
  replace h:=rl_ h
  refine aI h (fun i4 s4=>[(1,.val (.pv (.sl false 5 (a1.map (al false))))),(2,.val (.pv (.clo a2_id a2_cs))),(15,.val (.pv (.sl false 5 (a0.map (al false))))),(16,.val (.pv (I (a0.length:Int)))),(17,.val (.pv (I (i4:Int))))]) (fun i4 s4=>[]) (Slm_ SC) (fun i4 s4 hi h=>?_) (fun s4 h=>?_)
  ·have w:=ws_ (i:=i4) (by omega)
   refine S ?_
   refine aG cs (by omega) (fun cs=>S ?_)
   obtain⟨v20,hv20,h⟩:=rb_ h
   refine ar (f:=(al false)) hv20 SC (S ?_)
   obtain⟨v24,hv24,h⟩:=rb_ h
   refine ar (f:=(al false)) hv24 SC (S ?_)
   obtain⟨v29,hv29,h⟩:=rb_ h
   refine aj [false,false] (a2_ok _ _ _ hv29) SC (S ?_)
   refine ai cs h (fun cs h=>S ?_) (fun cs h=>S ?_)
   ·have h:=rs_ h
    refine aA ⟨_,h,?_⟩
    exact Slm_ SW
   ·cases rs_ h
    exact ag SC
  ·refine S ?_
   refine aJ cs (by omega) (fun cs=>S ?_)
   cases rs_ h
   exact ag SC
 ·cases rs_ h
  exact ag SC

theorem isF_5(n:Nat):(∀ (a0:Ft) (a1:Ft) (r:Bool),isF_ n a0 a1=some r→Sat ah 125 [((al false) a0),((al false) a1)] (B r)):=by
 induction n with
 | zero=>exact fun _ _ _ h=>by simp[isF_] at h
 | succ n ih=>
  refine fun a0 a1 r h=>?_
  obtain⟨h,cs⟩:=Ro_ h
  rw[isF_] at h
  refine au (nt:=31) (rs:=[.tmp 4]) (n:=100000) Tryz.func125 rfl rfl rfl rfl (by simp) (S ?_)
  refine ai cs h (fun cs h=>S ?_) (fun cs h=>S ?_)
  ·obtain⟨v15,hv15,h⟩:=rb_ h
   refine aj [false,false] (iET_3 hv15) SC (S ?_)
   refine ai cs h (fun cs h=>S ?_) (fun cs h=>S ?_)
   ·refine ai cs h (fun cs h=>S ?_) (fun cs h=>S ?_)
    ·obtain⟨v29,hv29,h⟩:=rb_ h
     refine aj [false,false,false] (sEF_3 (fun _ _ _ hh=>ih _ _ _ hh) (by simp only[COn_,COc_]) hv29) SC (S ?_)
     cases rs_ h
     exact ag SC
    ·cases rs_ h
     exact ag SC
   ·cases rs_ h
    exact ag SC
  ·cases rs_ h
   exact ag SC
theorem isF_3{a0:Ft}{a1:Ft}{r:Bool}(h:isF_2 a0 a1=some r):Sat ah 125 [((al false) a0),((al false) a1)] (B r):=by
 obtain⟨n,hn⟩:=ls_ h
 exact(isF_5 n) _ _ _ hn

theorem iiQ_3{a0:Int}  {r:Bool}(h:iiQ_1 a0=some r):Sat ah 202 [(I a0)] (B r):=by
 obtain⟨h,cs⟩:=Ro_ h
 unfold iiQ_1 at h
 refine au (nt:=5) (rs:=[.tmp 2]) (n:=100000) Tryz.func202 rfl rfl rfl rfl (by simp) (S ?_)
 obtain⟨v4,hv4,h⟩:=rb_ h
 refine aj [false,false,false] (iws_ hv4) SC (S ?_)
 cases rs_ h
 exact ag SC

theorem imO_1{a0:Int}  {r:Bool×Int}(h:imO_ a0=some r):Sat ah 115 [(I a0)] (.tup [(B r.1),(I r.2)]):=by
 obtain⟨h,cs⟩:=Ro_ h
 unfold imO_ at h
 refine au (nt:=36) (rs:=[.tmp 2,.tmp 3]) (n:=100000) Tryz.func115 rfl rfl rfl rfl (by simp) (S ?_)
 refine ai cs h (fun cs h=>S ?_) (fun cs h=>S ?_)
 ·cases rs_ h
  exact ag SC
 ·refine ai cs h (fun cs h=>S ?_) (fun cs h=>S ?_)
  ·cases rs_ h
   exact ag SC
  ·refine ai cs h (fun cs h=>S ?_) (fun cs h=>S ?_)
   ·cases rs_ h
    exact ag SC
   ·refine ai cs h (fun cs h=>S ?_) (fun cs h=>S ?_)
    ·cases rs_ h
     exact ag SC
    ·refine ai cs h (fun cs h=>S ?_) (fun cs h=>S ?_)
     ·cases rs_ h
      exact ag SC
     ·refine ai cs h (fun cs h=>S ?_) (fun cs h=>S ?_)
      ·cases rs_ h
       exact ag SC
      ·refine ai cs h (fun cs h=>S ?_) (fun cs h=>S ?_)
       ·cases rs_ h
        exact ag SC
       ·refine ai cs h (fun cs h=>S ?_) (fun cs h=>S ?_)
        ·cases rs_ h
         exact ag SC
        ·refine ai cs h (fun cs h=>S ?_) (fun cs h=>S ?_)
         ·cases rs_ h
          exact ag SC
         ·refine ai cs h (fun cs h=>S ?_) (fun cs h=>S ?_)
          ·cases rs_ h
           exact ag SC
          ·refine ai cs h (fun cs h=>S ?_) (fun cs h=>S ?_)
           ·cases rs_ h
            exact ag SC
           ·refine ai cs h (fun cs h=>S ?_) (fun cs h=>S ?_)
            ·cases rs_ h
             exact ag SC
            ·cases rs_ h
             exact ag SC

theorem imF_1{a0:Sa}{a1:Dt}  {r:Ft×Bool}(h:imF_ a0 a1=some r):Sat ah 203 [((ao false) a0),((av false) a1)] (.tup [((al false) r.1),(B r.2)]):=by
 obtain⟨h,cs⟩:=Ro_ h
 unfold imF_ at h
 refine au (nt:=47) (rs:=[.cell 4 44,.tmp 5]) (n:=100000) Tryz.func203 rfl rfl rfl rfl (by simp) (S ?_)
 obtain⟨v12,hv12,h⟩:=rb_ h
 refine aj [false] (imO_1 hv12) SC (S ?_)
 refine ai cs h (fun cs h=>S ?_) (fun cs h=>S ?_)
 ·obtain⟨v25,hv25,h⟩:=rb_ h
  refine aj [false,false,false] (iws_ hv25) SC (S ?_)
  refine ai cs h (fun cs h=>S ?_) (fun cs h=>S ?_)
  ·refine ai cs h (fun cs h=>S ?_) (fun cs h=>S ?_)
   ·obtain⟨v45,hv45,h⟩:=rb_ h
    refine ar (f:=(al false)) hv45 SC (S ?_)
    cases rs_ h
    exact aL SC
   ·obtain⟨v34,hv34,h⟩:=rb_ h
    refine ar (f:=(al false)) hv34 SC (S ?_)
    refine ai cs h (fun cs h=>S ?_) (fun cs h=>S ?_)
    ·obtain⟨v45,hv45,h⟩:=rb_ h
     refine ar (f:=(al false)) hv45 SC (S ?_)
     cases rs_ h
     exact aL SC
    ·cases rs_ h
     exact aL SC
  ·cases rs_ h
   exact aL SC
 ·obtain⟨v25,hv25,h⟩:=rb_ h
  refine aj [false,false,false] (iws_ hv25) SC (S ?_)
  refine ai cs h (fun cs h=>S ?_) (fun cs h=>S ?_)
  ·refine ai cs h (fun cs h=>S ?_) (fun cs h=>S ?_)
   ·obtain⟨v45,hv45,h⟩:=rb_ h
    refine ar (f:=(al false)) hv45 SC (S ?_)
    cases rs_ h
    exact aL SC
   ·obtain⟨v34,hv34,h⟩:=rb_ h
    refine ar (f:=(al false)) hv34 SC (S ?_)
    refine ai cs h (fun cs h=>S ?_) (fun cs h=>S ?_)
    ·obtain⟨v45,hv45,h⟩:=rb_ h
     refine ar (f:=(al false)) hv45 SC (S ?_)
     cases rs_ h
     exact aL SC
    ·cases rs_ h
     exact aL SC
  ·cases rs_ h
   exact aL SC

theorem imR_1{a0:Int}  {r:Bool}(h:imR_ a0=some r):Sat ah 144 [(I a0)] (B r):=by
 obtain⟨h,cs⟩:=Ro_ h
 unfold imR_ at h
 refine au (nt:=9) (rs:=[.tmp 2]) (n:=100000) Tryz.func144 rfl rfl rfl rfl (by simp) (S ?_)
 refine ai cs h (fun cs h=>S ?_) (fun cs h=>S ?_)
 ·cases rs_ h
  exact ag SC
 ·cases rs_ h
  exact ag SC

theorem iiV_3{a0:Tt}  {r:Bool}(h:iiV_2 a0=some r):Sat ah 242 [((am false) a0)] (B r):=by
 obtain⟨h,cs⟩:=Ro_ h
 unfold iiV_2 at h
 refine au (nt:=7) (rs:=[.tmp 2]) (n:=100000) Tryz.func242 rfl rfl rfl rfl (by simp) (S ?_)
 obtain⟨v5,hv5,h⟩:=rb_ h
 refine SidxH.mk hv5 (S ?_)
 obtain⟨v6,hv6,h⟩:=rb_ h
 refine aj [false] (iiU_1 hv6) SC (S ?_)
 cases rs_ h
 exact ag SC

theorem icN_5(n:Nat):(∀ (a0:List ByteArray) (a1:Tt) (r:List ByteArray),icN_1 n a0 a1=some r→Sat ah 227 [(.sl true 1 (a0.map Sx)),((am false) a1)] (.sl true 1 (r.map Sx))):=by
 induction n with
 | zero=>exact fun _ _ _ h=>by simp[icN_1] at h
 | succ n ih=>
  refine fun a0 a1 r h=>?_
  obtain⟨h,cs⟩:=Ro_ h
  rw[icN_1] at h
  refine au (nt:=38) (rs:=[.tmp 4]) (n:=100000) Tryz.func227 rfl rfl rfl rfl (by simp) (S ?_)
  refine ai cs h (fun cs h=>S ?_) (fun cs h=>S ?_)
  ·obtain⟨v13,hv13,h⟩:=rb_ h
   refine aj [false] (iiV_3 hv13) SC (S ?_)
   refine ai cs h (fun cs h=>S ?_) (fun cs h=>S ?_)
   ·obtain⟨v18,hv18,h⟩:=rb_ h
    refine aj [false,false] (sCS_3 hv18) SC (S ?_)
    refine ai cs h (fun cs h=>S ?_) (fun cs h=>S ?_)
    ·cases rs_ h
     exact ag SC
    ·obtain⟨v24,hv24,h⟩:=rb_ h
     refine aQ (f:=Sx) (fun _=>rfl) hv24 SC SC (S ?_)
     cases rs_ h
     exact ag SC
   ·refine aN (b:=false) (sz:=2) (es:=a1.Args.map (am false)) 8 SC fun hl8=>?_; rw[aC] at hl8
    replace h:=rl_ h
    refine aI h (fun i6 s6=>[(0,.val (.own 9000)),(27,.val (.pv (.sl false 2 (a1.Args.map (am false))))),(28,.val (.pv (I (a1.Args.length:Int)))),(29,.val (.pv (I (i6:Int))))]) (fun i6 s6=>[(9000,(1,s6.map Sx))]) (Slm_ SC) (fun i6 s6 hi h=>?_) (fun s6 h=>?_)
    ·have w:=ws_ (i:=i6) (by omega)
     refine S ?_
     refine aG cs (by omega) (fun cs=>S ?_)
     obtain⟨v31,hv31,h⟩:=rb_ h
     refine ar (f:=(am false)) hv31 SC (S ?_)
     obtain⟨v35,hv35,h⟩:=rb_ h
     refine aj [true,false] (ih _ _ _ hv35) SC (S ?_)
     have h:=rs_ h
     refine aA ⟨_,h,?_⟩
     refine aT (Slm_1 (S:=[(0,.val (.own 560)),(27,.val (.pv (.sl false 2 (a1.Args.map (am false))))),(28,.val (.pv (I (a1.Args.length:Int)))),(29,.val (.pv (I (IntKind.i64.wrap ((i6:Int)+(1:Int))))))]) (O:=[(560,(1,v35.map Sx))]) SW SW) ?_
     refine Slr_ 560 9000 (by decide) NM ?_
     exact Slm_ SW
    ·refine S ?_
     refine aJ cs (by omega) (fun cs=>S ?_)
     cases rs_ h
     exact ag SC
  ·refine aN (b:=false) (sz:=2) (es:=a1.Args.map (am false)) 8 SC fun hl8=>?_; rw[aC] at hl8
   replace h:=rl_ h
   refine aI h (fun i6 s6=>[(0,.val (.own 9000)),(27,.val (.pv (.sl false 2 (a1.Args.map (am false))))),(28,.val (.pv (I (a1.Args.length:Int)))),(29,.val (.pv (I (i6:Int))))]) (fun i6 s6=>[(9000,(1,s6.map Sx))]) (Slm_ SC) (fun i6 s6 hi h=>?_) (fun s6 h=>?_)
   ·have w:=ws_ (i:=i6) (by omega)
    refine S ?_
    refine aG cs (by omega) (fun cs=>S ?_)
    obtain⟨v31,hv31,h⟩:=rb_ h
    refine ar (f:=(am false)) hv31 SC (S ?_)
    obtain⟨v35,hv35,h⟩:=rb_ h
    refine aj [true,false] (ih _ _ _ hv35) SC (S ?_)
    have h:=rs_ h
    refine aA ⟨_,h,?_⟩
    refine aT (Slm_1 (S:=[(0,.val (.own 560)),(27,.val (.pv (.sl false 2 (a1.Args.map (am false))))),(28,.val (.pv (I (a1.Args.length:Int)))),(29,.val (.pv (I (IntKind.i64.wrap ((i6:Int)+(1:Int))))))]) (O:=[(560,(1,v35.map Sx))]) SW SW) ?_
    refine Slr_ 560 9000 (by decide) NM ?_
    exact Slm_ SW
   ·refine S ?_
    refine aJ cs (by omega) (fun cs=>S ?_)
    cases rs_ h
    exact ag SC
theorem ics_{a0:List ByteArray}{a1:Tt}{r:List ByteArray}(h:ic_ a0 a1=some r):Sat ah 227 [(.sl true 1 (a0.map Sx)),((am false) a1)] (.sl true 1 (r.map Sx)):=by
 obtain⟨n,hn⟩:=ls_ h
 exact(icN_5 n) _ _ _ hn


theorem ivs_{a0:Tt}  {r:List ByteArray}(h:iv_ a0=some r):Sat ah 221 [((am false) a0)] (.sl true 1 (r.map Sx)):=by
 obtain⟨h,cs⟩:=Ro_ h
 unfold iv_ at h
 refine au (nt:=10) (rs:=[.tmp 2]) (n:=100000) Tryz.func221 rfl rfl rfl rfl (by simp) (S ?_)
 obtain⟨v6,hv6,h⟩:=rb_ h
 refine aj [true,false] (ics_ hv6) SC (S ?_)
 obtain⟨v8,hv8,h⟩:=rb_ h
 refine CHi_1 [(.own 96)] [(96,(1,v8.2.map Sx))] (sSS_1 hv8) SC (S ?_)
 cases rs_ h
 exact ag SC

theorem sCS_9{a0:List ByteArray}  {r:List ByteArray}(h:sCS_6 a0=some r):Sat ah 222 [(.sl false 1 (a0.map Sx))] (.sl true 1 (r.map Sx)):=by
 obtain⟨h,cs⟩:=Ro_ h
 unfold sCS_6 at h
 refine au (nt:=8) (rs:=[.tmp 2]) (n:=100000) Tryz.func222 rfl rfl rfl rfl (by simp) (S ?_)
 refine NilH.mk (fun e=>?_) ?_
 ·obtain rfl:a0=[]:=List.map_eq_nil_iff.1 e
  simp only[app_nn,Option.bind_some] at h
  refine S ?_
  cases rs_ h
  exact ag SC
 ·skip
  refine S ?_
  obtain⟨v7,hv7,h⟩:=rb_ h
  refine aQ (f:=Sx) (fun _=>rfl) hv7 SC SC (S ?_)
  cases rs_ h
  exact ag SC

theorem igN_1(n:Nat):(∀ (a0:List ByteArray) (a1:Ft) (a2:List ByteArray) (r:List ByteArray),igN_ n a0 a1 a2=some r→Sat ah 216 [(.sl true 1 (a0.map Sx)),((al false) a1),(.sl false 1 (a2.map Sx))] (.sl true 1 (r.map Sx))):=by
 induction n with
 | zero=>exact fun _ _ _ _ h=>by simp[igN_] at h
 | succ n ih=>
  refine fun a0 a1 a2 r h=>?_
  obtain⟨h,cs⟩:=Ro_ h
  rw[igN_] at h
  refine au (nt:=60) (rs:=[.tmp 6]) (n:=100000) Tryz.func216 rfl rfl rfl rfl (by simp) (S ?_)
  refine ai cs h (fun cs h=>S ?_) (fun cs h=>S ?_)
  ·obtain⟨v16,hv16,h⟩:=rb_ h
   refine aj [false] (ivs_ hv16) SC (S ?_)
   refine Mg.know_own (sz:=1) (es:=v16.map Sx) 256 SC fun hl256=>?_; rw[aC] at hl256
   replace h:=rl_ h
   refine aI h (fun i3 s3=>[(0,.val (.own 9000)),(2,.val (.pv (.sl false 1 (a2.map Sx)))),(16,.val (.own 256)),(17,.val (.pv (I (v16.length:Int)))),(18,.val (.pv (I (i3:Int))))]) (fun i3 s3=>[(9000,(1,s3.map Sx)),(256,(1,v16.map Sx))]) (Slm_ SC) (fun i3 s3 hi h=>?_) (fun s3 h=>?_)
   ·have w:=ws_ (i:=i3) (by omega)
    refine S ?_
    refine aG cs (by omega) (fun cs=>S ?_)
    obtain⟨v20,hv20,h⟩:=rb_ h
    refine ar (f:=Sx) hv20 SC (S ?_)
    obtain⟨v21,hv21,h⟩:=rb_ h
    refine bp (f:=Sx) hv21 rfl SC (S ?_)
    obtain⟨v24,hv24,h⟩:=rb_ h
    refine aj [false,false] (sCS_3 hv24) SC (S ?_)
    refine ai cs h (fun cs h=>S ?_) (fun cs h=>S ?_)
    ·have h:=rs_ h
     refine aA ⟨_,h,?_⟩
     exact Slm_ SW
    ·obtain⟨v29,hv29,h⟩:=rb_ h
     refine aj [false,false] (sCS_3 hv29) SC (S ?_)
     refine ai cs h (fun cs h=>S ?_) (fun cs h=>S ?_)
     ·have h:=rs_ h
      refine aA ⟨_,h,?_⟩
      exact Slm_ SW
     ·obtain⟨v35,hv35,h⟩:=rb_ h
      refine aQ (f:=Sx) (fun _=>rfl) hv35 SC SC (S ?_)
      have h:=rs_ h
      refine aA ⟨_,h,?_⟩
      refine aT (Slm_1 (S:=[(0,.val (.own 560)),(2,.val (.pv (.sl false 1 (a2.map Sx)))),(16,.val (.own 256)),(17,.val (.pv (I (v16.length:Int)))),(18,.val (.pv (I (IntKind.i64.wrap ((i3:Int)+(1:Int))))))]) (O:=[(560,(1,v35.map Sx)),(256,(1,v16.map Sx))]) SW SW) ?_
      refine Slr_ 560 9000 (by decide) NM ?_
      exact Slm_ SW
   ·refine S ?_
    refine aJ cs (by omega) (fun cs=>S ?_)
    cases rs_ h
    exact ag SC
  ·obtain⟨v40,hv40,h⟩:=rb_ h
   refine aj [false] (iiQ_ hv40) SC (S ?_)
   refine ai cs h (fun cs h=>S ?_) (fun cs h=>S ?_)
   ·obtain⟨v42,hv42,h⟩:=rb_ h
    refine aj [false] (sCS_9 hv42) SC (S ?_)
    obtain⟨v46,hv46,h⟩:=rb_ h
    refine aQ (f:=Sx) (fun _=>rfl) hv46 SC SC (S ?_)
    refine ae (DHa_ [] [672,720,736]) (S ?_)
    refine aN (b:=false) (sz:=5) (es:=a1.Parts.map (al false)) 48 SC fun hl48=>?_; rw[aC] at hl48
    replace h:=rl_ h
    refine aI h (fun i12 s12=>[(0,.val (.own 9000)),(2,.val (.own 736)),(48,.val (.pv (.sl false 5 (a1.Parts.map (al false))))),(49,.val (.pv (I (a1.Parts.length:Int)))),(50,.val (.pv (I (i12:Int))))]) (fun i12 s12=>[(9000,(1,s12.map Sx)),(736,(1,v46.map Sx))]) (Slm_ SC) (fun i12 s12 hi h=>?_) (fun s12 h=>?_)
    ·have w:=ws_ (i:=i12) (by omega)
     refine S ?_
     refine aG cs (by omega) (fun cs=>S ?_)
     obtain⟨v52,hv52,h⟩:=rb_ h
     refine ar (f:=(al false)) hv52 SC (S ?_)
     obtain⟨v57,hv57,h⟩:=rb_ h
     refine aj [true,false,false] (ih _ _ _ _ hv57) SC (S ?_)
     have h:=rs_ h
     refine aA ⟨_,h,?_⟩
     refine aT (Slm_1 (S:=[(0,.val (.own 912)),(2,.val (.own 736)),(48,.val (.pv (.sl false 5 (a1.Parts.map (al false))))),(49,.val (.pv (I (a1.Parts.length:Int)))),(50,.val (.pv (I (IntKind.i64.wrap ((i12:Int)+(1:Int))))))]) (O:=[(912,(1,v57.map Sx)),(736,(1,v46.map Sx))]) SW SW) ?_
     refine Slr_ 912 9000 (by decide) NM ?_
     exact Slm_ SW
    ·refine S ?_
     refine aJ cs (by omega) (fun cs=>S ?_)
     cases rs_ h
     exact ag SC
   ·refine aN (b:=false) (sz:=5) (es:=a1.Parts.map (al false)) 48 SC fun hl48=>?_; rw[aC] at hl48
    replace h:=rl_ h
    refine aI h (fun i12 s12=>[(0,.val (.own 9000)),(2,.val (.pv (.sl false 1 (a2.map Sx)))),(48,.val (.pv (.sl false 5 (a1.Parts.map (al false))))),(49,.val (.pv (I (a1.Parts.length:Int)))),(50,.val (.pv (I (i12:Int))))]) (fun i12 s12=>[(9000,(1,s12.map Sx))]) (Slm_ SC) (fun i12 s12 hi h=>?_) (fun s12 h=>?_)
    ·have w:=ws_ (i:=i12) (by omega)
     refine S ?_
     refine aG cs (by omega) (fun cs=>S ?_)
     obtain⟨v52,hv52,h⟩:=rb_ h
     refine ar (f:=(al false)) hv52 SC (S ?_)
     obtain⟨v57,hv57,h⟩:=rb_ h
     refine aj [true,false,false] (ih _ _ _ _ hv57) SC (S ?_)
     have h:=rs_ h
     refine aA ⟨_,h,?_⟩
     refine aT (Slm_1 (S:=[(0,.val (.own 912)),(2,.val (.pv (.sl false 1 (a2.map Sx)))),(48,.val (.pv (.sl false 5 (a1.Parts.map (al false))))),(49,.val (.pv (I (a1.Parts.length:Int)))),(50,.val (.pv (I (IntKind.i64.wrap ((i12:Int)+(1:Int))))))]) (O:=[(912,(1,v57.map Sx))]) SW SW) ?_
     refine Slr_ 912 9000 (by decide) NM ?_
     exact Slm_ SW
    ·refine S ?_
     refine aJ cs (by omega) (fun cs=>S ?_)
     cases rs_ h
     exact ag SC
theorem igs_{a0:List ByteArray}{a1:Ft}{a2:List ByteArray}{r:List ByteArray}(h:ig_ a0 a1 a2=some r):Sat ah 216 [(.sl true 1 (a0.map Sx)),((al false) a1),(.sl false 1 (a2.map Sx))] (.sl true 1 (r.map Sx)):=by
 obtain⟨n,hn⟩:=ls_ h
 exact(igN_1 n) _ _ _ _ hn

theorem ifs_{a0:Ft}  {r:List ByteArray}(h:if_ a0=some r):Sat ah 213 [((al false) a0)] (.sl true 1 (r.map Sx)):=by
 obtain⟨h,cs⟩:=Ro_ h
 unfold if_ at h
 refine au (nt:=10) (rs:=[.tmp 2]) (n:=100000) Tryz.func213 rfl rfl rfl rfl (by simp) (S ?_)
 obtain⟨v6,hv6,h⟩:=rb_ h
 refine aj [true,false,false] (igs_ hv6) SC (S ?_)
 obtain⟨v8,hv8,h⟩:=rb_ h
 refine CHi_1 [(.own 96)] [(96,(1,v8.2.map Sx))] (sSS_1 hv8) SC (S ?_)
 cases rs_ h
 exact ag SC

theorem iiF_3{a0:Ft}{b0:ByteArray}  {r:Bool}(h:iiF_ a0 b0=some r):Sat ah 212 [((al false) a0),.ptr (Sx b0)] (B r):=by
 obtain⟨h,cs⟩:=Ro_ h
 unfold iiF_ at h
 refine au (nt:=8) (rs:=[.tmp 3]) (n:=100000) Tryz.func212 rfl rfl rfl rfl (by simp) (S ?_)
 obtain⟨v5,hv5,h⟩:=rb_ h
 refine aj [false] (ifs_ hv5) SC (S ?_)
 obtain⟨v7,hv7,h⟩:=rb_ h
 refine aj [false,false] (sCS_3 hv7) SC (S ?_)
 refine ae (DHa_ [] [80]) (S ?_)
 cases rs_ h
 exact ag SC

theorem iiF_5{a0:Sa}{a1:ByteArray}  {r:Bool}(h:iiF_2 a0 a1=some r):Sat ah 210 [((ao false) a0),(Sx a1)] (B r):=by
 obtain⟨h,cs⟩:=Ro_ h
 unfold iiF_2 at h
 refine au (nt:=17) (rs:=[.tmp 4]) (n:=100000) Tryz.func210 rfl rfl rfl rfl (by simp) (S ?_)
 refine MfH.fr (S ?_)
 obtain⟨v10,hv10,h⟩:=rb_ h
 refine aj [false,false] (sCF_1 (fun _ _ hh=>iiF_3 hh) (by simp only[COn_,COc_]) hv10) SC (S ?_)
 refine ai cs h (fun cs h=>S ?_) (fun cs h=>S ?_)
 ·cases rs_ h
  exact ag SC
 ·obtain⟨v15,hv15,h⟩:=rb_ h
  refine aj [false,false] (sCF_1 (fun _ _ hh=>iiF_3 hh) (by simp only[COn_,COc_]) hv15) SC (S ?_)
  cases rs_ h
  exact ag SC

theorem icT_4(n:Nat):(∀ (a0:Tt) (r:Tt),icT_ n a0=some r→Sat ah 140 [((am false) a0)] ((am true) r))∧(∀ (a0:List Tt) (r:List Tt),icT_1 n a0=some r→Sat ah 163 [(.sl false 2 (a0.map (am false)))] (.sl true 2 (r.map (am true)))):=by
 induction n with
 | zero=>exact⟨fun _ _ h=>by simp[icT_] at h,fun _ _ h=>by simp[icT_1] at h⟩
 | succ n ih=>
  refine⟨fun a0 r h=>?_,fun a0 r h=>?_⟩
  ·obtain⟨h,cs⟩:=Ro_ h
   rw[icT_] at h
   refine au (nt:=9) (rs:=[.cell 2 42]) (n:=100000) Tryz.func140 rfl rfl rfl rfl (by simp) (S ?_)
   obtain⟨v7,hv7,h⟩:=rb_ h
   refine aj [false] (ih.2 _ _ hv7) SC (S ?_)
   refine ae (DHa_ [] [112]) (S ?_)
   cases rs_ h
   exact ag SC
  ·obtain⟨h,cs⟩:=Ro_ h
   rw[icT_1] at h
   refine au (nt:=26) (rs:=[.tmp 2]) (n:=100000) Tryz.func163 rfl rfl rfl rfl (by simp) (S ?_)
   refine ai cs h (fun cs h=>S ?_) (fun cs h=>S ?_)
   ·cases rs_ h
    exact ag SC
   ·obtain⟨n11,hn11,h⟩:=rb_ h
    refine MknH.mk hn11 (S ?_)
    refine aN (b:=false) (sz:=2) (es:=a0.map (am false)) 0 SC fun hl0=>?_; rw[aC] at hl0
    replace h:=rl_ h
    refine aI h (fun i5 s5=>[(3,.val (.own 176)),(12,.val (.pv (.sl false 2 (a0.map (am false))))),(13,.val (.pv (I (a0.length:Int)))),(14,.val (.pv (I (i5:Int))))]) (fun i5 s5=>[(176,(2,s5.map (am true)))]) (Slm_ SC) (fun i5 s5 hi h=>?_) (fun s5 h=>?_)
    ·have w:=ws_ (i:=i5) (by omega)
     refine S ?_
     refine aG cs (by omega) (fun cs=>S ?_)
     obtain⟨v17,hv17,h⟩:=rb_ h
     refine ar (f:=(am false)) hv17 SC (S ?_)
     obtain⟨v22,hv22,h⟩:=rb_ h
     refine aj [false] (ih.1 _ _ hv22) SC (S ?_)
     obtain⟨v23,hv23,h⟩:=rb_ h
     refine ar (f:=(am true)) hv23 SC (S ?_)
     obtain⟨w3,hw3,h⟩:=rb_ h
     refine bp (f:=(am true)) hw3 rfl SC (S ?_)
     have h:=rs_ h
     refine aA ⟨_,h,?_⟩
     exact Slm_ SW
    ·refine S ?_
     refine aJ cs (by omega) (fun cs=>S ?_)
     cases rs_ h
     exact ag SC
theorem icT_3{a0:Tt}{r:Tt}(h:icT_2 a0=some r):Sat ah 140 [((am false) a0)] ((am true) r):=by
 obtain⟨n,hn⟩:=ls_ h
 exact(icT_4 n).1 _ _ hn
theorem icT_6{a0:List Tt}{r:List Tt}(h:icT_5 a0=some r):Sat ah 163 [(.sl false 2 (a0.map (am false)))] (.sl true 2 (r.map (am true))):=by
 obtain⟨n,hn⟩:=ls_ h
 exact(icT_4 n).2 _ _ hn

theorem imP_3{a0:Ft}{a1:Ft→Option Ft}{a1_id:FuncId}{a1_cs:List PV}(a1_ok:∀ y0 r,a1 y0=some r→Sat ah a1_id (((al false) y0)::a1_cs) ((al true) r))(a1_cz:CapsOk a1_cs=True){r:Ft}(h:imP_2 a0 a1=some r):Sat ah 143 [((al false) a0),.clo a1_id a1_cs] ((al true) r):=by
 obtain⟨h,cs⟩:=Ro_ h
 unfold imP_2 at h
 have cs:=ae a1_cz cs
 refine au (nt:=33) (rs:=[.cell 4 44]) (n:=100000) Tryz.func143 rfl rfl rfl rfl (by simp) (S ?_)
 obtain⟨v12,hv12,h⟩:=rb_ h
 refine aj [false] (icT_3 hv12) SC (S ?_)
 refine ae (DHa_ [5] [192]) (S ?_)
 refine aN (b:=false) (sz:=5) (es:=a0.Parts.map (al false)) 17 SC fun hl17=>?_; rw[aC] at hl17
 replace h:=rl_ h
 refine aI h (fun i3 s3=>[(1,.val (.pv (.clo a1_id a1_cs))),(4,.box (.node [(.pv (I (0:Int))),(.node [(.pv (Sx (⟨#[]⟩:ByteArray))),(.pv (.sl true 2 []))]),(.pv (Sx (⟨#[]⟩:ByteArray))),(.pv (.sl true 5 []))])),(5,.box (.node [(.pv (I a0.Op)),(.node [(.pv (Sx v12.Name)),(.own 192)]),(.pv (Sx a0.Var)),(.own 9309)])),(17,.val (.pv (.sl false 5 (a0.Parts.map (al false))))),(18,.val (.pv (I (a0.Parts.length:Int)))),(19,.val (.pv (I (i3:Int))))]) (fun i3 s3=>[(192,(2,v12.Args.map (am true))),(9309,(5,s3.map (al true)))]) (aT (Sln_ (x:=(.node [(.pv (I a0.Op)),(.node [(.pv (Sx v12.Name)),(.own 192)]),(.pv (Sx a0.Var)),(.pv (.sl true 5 []))])) 5 [3] 9309 5 NM SC SC SC) (Slm_ SC)) (fun i3 s3 hi h=>?_) (fun s3 h=>?_)
 ·have w:=ws_ (i:=i3) (by omega)
  refine S ?_
  refine aG cs (by omega) (fun cs=>S ?_)
  obtain⟨v21,hv21,h⟩:=rb_ h
  refine ar (f:=(al false)) hv21 SC (S ?_)
  obtain⟨v27,hv27,h⟩:=rb_ h
  refine aj [false] (a1_ok _ _ hv27) SC (S ?_)
  obtain⟨v29,hv29,h⟩:=rb_ h
  refine aQ (f:=(al true)) (fun a=>Ft.psize _ a) hv29 SC SC (S ?_)
  refine ae (DHa_ [] [432,433,448,464]) (S ?_)
  have h:=rs_ h
  refine aA ⟨_,h,?_⟩
  refine aT (Slm_1 (S:=[(1,.val (.pv (.clo a1_id a1_cs))),(4,.box (.node [(.pv (I (0:Int))),(.node [(.pv (Sx (⟨#[]⟩:ByteArray))),(.pv (.sl true 2 []))]),(.pv (Sx (⟨#[]⟩:ByteArray))),(.pv (.sl true 5 []))])),(5,.box (.node [(.pv (I a0.Op)),(.node [(.pv (Sx v12.Name)),(.own 192)]),(.pv (Sx a0.Var)),(.own 464)])),(17,.val (.pv (.sl false 5 (a0.Parts.map (al false))))),(18,.val (.pv (I (a0.Parts.length:Int)))),(19,.val (.pv (I (IntKind.i64.wrap ((i3:Int)+(1:Int))))))]) (O:=[(192,(2,v12.Args.map (am true))),(464,(5,v29.map (al true)))]) SW SW) ?_
  refine Slr_ 464 9309 (by decide) NM ?_
  exact Slm_ SW
 ·refine S ?_
  refine aJ cs (by omega) (fun cs=>S ?_)
  cases rs_ h
  exact ag SC

theorem icF_5(n:Nat):(∀ (a0:Ft) (r:Ft),icF_ n a0=some r→Sat ah 113 [((al false) a0)] ((al true) r)):=by
 induction n with
 | zero=>exact fun _ _ h=>by simp[icF_] at h
 | succ n ih=>
  refine fun a0 r h=>?_
  obtain⟨h,cs⟩:=Ro_ h
  rw[icF_] at h
  refine au (nt:=5) (rs:=[.cell 2 44]) (n:=100000) Tryz.func113 rfl rfl rfl rfl (by simp) (S ?_)
  obtain⟨v4,hv4,h⟩:=rb_ h
  refine aj [false,false] (imP_3 (fun _ _ hh=>ih _ _ hh) (by simp only[COn_,COc_]) hv4) SC (S ?_)
  cases rs_ h
  exact ag SC
theorem icF_3{a0:Ft}{r:Ft}(h:icF_2 a0=some r):Sat ah 113 [((al false) a0)] ((al true) r):=by
 obtain⟨n,hn⟩:=ls_ h
 exact(icF_5 n) _ _ hn

theorem icN_3(n:Nat):(∀ (a0:Tt) (a1:ByteArray) (r:Int),icN_ n a0 a1=some r→Sat ah 225 [((am false) a0),(Sx a1)] (I r)):=by
 induction n with
 | zero=>exact fun _ _ _ h=>by simp[icN_] at h
 | succ n ih=>
  refine fun a0 a1 r h=>?_
  obtain⟨h,cs⟩:=Ro_ h
  rw[icN_] at h
  refine au (nt:=26) (rs:=[.tmp 4]) (n:=100000) Tryz.func225 rfl rfl rfl rfl (by simp) (S ?_)
  refine ai cs h (fun cs h=>S ?_) (fun cs h=>S ?_)
  ·refine aN (b:=false) (sz:=2) (es:=a0.Args.map (am false)) 13 SC fun hl13=>?_; rw[aC] at hl13
   replace h:=rl_ h
   refine aI h (fun i5 s5=>[(1,.val (.pv (Sx a1))),(5,.val (.pv (I s5))),(13,.val (.pv (.sl false 2 (a0.Args.map (am false))))),(14,.val (.pv (I (a0.Args.length:Int)))),(15,.val (.pv (I (i5:Int))))]) (fun i5 s5=>[]) (Slm_ SC) (fun i5 s5 hi h=>?_) (fun s5 h=>?_)
   ·have w:=ws_ (i:=i5) (by omega)
    refine S ?_
    refine aG cs (by omega) (fun cs=>S ?_)
    obtain⟨v17,hv17,h⟩:=rb_ h
    refine ar (f:=(am false)) hv17 SC (S ?_)
    obtain⟨v22,hv22,h⟩:=rb_ h
    refine aj [false,false] (ih _ _ _ hv22) SC (S ?_)
    have h:=rs_ h
    refine aA ⟨_,h,?_⟩
    exact Slm_ SW
   ·refine S ?_
    refine aJ cs (by omega) (fun cs=>S ?_)
    cases rs_ h
    exact ag SC
  ·refine aN (b:=false) (sz:=2) (es:=a0.Args.map (am false)) 13 SC fun hl13=>?_; rw[aC] at hl13
   replace h:=rl_ h
   refine aI h (fun i5 s5=>[(1,.val (.pv (Sx a1))),(5,.val (.pv (I s5))),(13,.val (.pv (.sl false 2 (a0.Args.map (am false))))),(14,.val (.pv (I (a0.Args.length:Int)))),(15,.val (.pv (I (i5:Int))))]) (fun i5 s5=>[]) (Slm_ SC) (fun i5 s5 hi h=>?_) (fun s5 h=>?_)
   ·have w:=ws_ (i:=i5) (by omega)
    refine S ?_
    refine aG cs (by omega) (fun cs=>S ?_)
    obtain⟨v17,hv17,h⟩:=rb_ h
    refine ar (f:=(am false)) hv17 SC (S ?_)
    obtain⟨v22,hv22,h⟩:=rb_ h
    refine aj [false,false] (ih _ _ _ hv22) SC (S ?_)
    have h:=rs_ h
    refine aA ⟨_,h,?_⟩
    exact Slm_ SW
   ·refine S ?_
    refine aJ cs (by omega) (fun cs=>S ?_)
    cases rs_ h
    exact ag SC
theorem icN_4{a0:Tt}{a1:ByteArray}{r:Int}(h:icN_2 a0 a1=some r):Sat ah 225 [((am false) a0),(Sx a1)] (I r):=by
 obtain⟨n,hn⟩:=ls_ h
 exact(icN_3 n) _ _ _ hn

theorem ios_{a0:ByteArray}{a1:Tt}  {r:Bool}(h:io_ a0 a1=some r):Sat ah 218 [(Sx a0),((am false) a1)] (B r):=by
 obtain⟨h,cs⟩:=Ro_ h
 unfold io_ at h
 refine au (nt:=9) (rs:=[.tmp 4]) (n:=100000) Tryz.func218 rfl rfl rfl rfl (by simp) (S ?_)
 obtain⟨v7,hv7,h⟩:=rb_ h
 refine aj [false,false] (icN_4 hv7) SC (S ?_)
 cases rs_ h
 exact ag SC

theorem ciN_1{a0:ByteArray}  {r:Bool}(h:ciN_ a0=some r):Sat ah 248 [(Sx a0)] (B r):=by
 obtain⟨h,cs⟩:=Ro_ h
 unfold ciN_ at h
 refine au (nt:=6) (rs:=[.tmp 2]) (n:=100000) Tryz.func248 rfl rfl rfl rfl (by simp) (S ?_)
 cases rs_ h
 exact ag SC

theorem cCs_1{a0:ByteArray}{a1:ByteArray}  {r:Int}(h:cCs_ a0 a1=some r):Sat ah 241 [(Sx a0),(Sx a1)] (I r):=by
 obtain⟨h,cs⟩:=Ro_ h
 unfold cCs_ at h
 refine au (nt:=20) (rs:=[.tmp 4]) (n:=100000) Tryz.func241 rfl rfl rfl rfl (by simp) (S ?_)
 obtain⟨v8,hv8,h⟩:=rb_ h
 refine aj [false] (ciN_1 hv8) SC (S ?_)
 obtain⟨v10,hv10,h⟩:=rb_ h
 refine aj [false] (ciN_1 hv10) SC (S ?_)
 refine ai cs h (fun cs h=>S ?_) (fun cs h=>S ?_)
 ·refine ai cs h (fun cs h=>S ?_) (fun cs h=>S ?_)
  ·cases rs_ h
   exact ag SC
  ·cases rs_ h
   exact ag SC
 ·refine ai cs h (fun cs h=>S ?_) (fun cs h=>S ?_)
  ·cases rs_ h
   exact ag SC
  ·refine ai cs h (fun cs h=>S ?_) (fun cs h=>S ?_)
   ·cases rs_ h
    exact ag SC
   ·refine ai cs h (fun cs h=>S ?_) (fun cs h=>S ?_)
    ·cases rs_ h
     exact ag SC
    ·cases rs_ h
     exact ag SC

theorem iSt_2{a0:Bt}{a1:ByteArray}  {r:Int}(h:iSt_ a0 a1=some r):Sat ah 240 [((Bt.pv false) a0),(Sx a1)] (I r):=by
 obtain⟨h,cs⟩:=Ro_ h
 unfold iSt_ at h
 refine au (nt:=9) (rs:=[.tmp 4]) (n:=100000) Tryz.func240 rfl rfl rfl rfl (by simp) (S ?_)
 obtain⟨v8,hv8,h⟩:=rb_ h
 refine aj [false,false] (cCs_1 hv8) SC (S ?_)
 cases rs_ h
 exact ag SC

theorem sBS_1{a0:List Bt}{a1:ByteArray}{a2:Bt→ByteArray→Option Int}{a2_id:FuncId}{a2_cs:List PV}(a2_ok:∀ y0 y1 r,a2 y0 y1=some r→Sat ah a2_id (((Bt.pv false) y0)::(Sx y1)::a2_cs) (I r))(a2_cz:CapsOk a2_cs=True){r:Int×Bool}(h:sBS_ a0 a1 a2=some r):Sat ah 239 [(.sl false 3 (a0.map (Bt.pv false))),(Sx a1),.clo a2_id a2_cs] (.tup [(I r.1),(B r.2)]):=by
 obtain⟨h,cs⟩:=Ro_ h
 unfold sBS_ at h
 have cs:=ae a2_cz cs
 refine au (nt:=49) (rs:=[.tmp 6,.tmp 7]) (n:=100000) Tryz.func239 rfl rfl rfl rfl (by simp) (S ?_)
 replace h:=rl_ h
 refine Mg.whileN h (fun s3=>[(0,.val (.pv (.sl false 3 (a0.map (Bt.pv false))))),(1,.val (.pv (Sx a1))),(2,.val (.pv (.clo a2_id a2_cs))),(8,.val (.pv (I (a0.length:Int)))),(9,.val (.pv (I s3.1))),(10,.val (.pv (I s3.2)))]) (fun s3=>[]) (Slm_ SC) (fun n3 s3 h=>?_)
 refine S ?_
 refine ai cs h (fun cs h=>S ?_) (fun cs h=>S ?_)
 ·obtain⟨v22,hv22,h⟩:=rb_ h
  refine ShrH.mk hv22 (S ?_)
  obtain⟨v27,hv27,h⟩:=rb_ h
  refine ar (f:=(Bt.pv false)) hv27 SC (S ?_)
  obtain⟨v30,hv30,h⟩:=rb_ h
  refine aj [false,false] (a2_ok _ _ _ hv30) SC (S ?_)
  refine ai cs h (fun cs h=>S ?_) (fun cs h=>S ?_)
  ·have h:=rs_ h
   refine aA ⟨_,h,?_⟩
   exact Slm_ SC
  ·have h:=rs_ h
   refine aA ⟨_,h,?_⟩
   exact Slm_ SC
 ·have h:=rs_ h
  refine ai cs h (fun cs h=>S ?_) (fun cs h=>S ?_)
  ·obtain⟨v43,hv43,h⟩:=rb_ h
   refine ar (f:=(Bt.pv false)) hv43 SC (S ?_)
   obtain⟨v46,hv46,h⟩:=rb_ h
   refine aj [false,false] (a2_ok _ _ _ hv46) SC (S ?_)
   cases rs_ h
   exact ag SC
  ·cases rs_ h
   exact ag SC

theorem iSt_3{a0:Sb}{a1:ByteArray}  {r:Tt×Bool}(h:iSt_1 a0 a1=some r):Sat ah 226 [((Sb.pv false) a0),(Sx a1)] (.tup [((am false) r.1),(B r.2)]):=by
 obtain⟨h,cs⟩:=Ro_ h
 unfold iSt_1 at h
 refine au (nt:=24) (rs:=[.cell 4 42,.tmp 5]) (n:=100000) Tryz.func226 rfl rfl rfl rfl (by simp) (S ?_)
 obtain⟨v12,hv12,h⟩:=rb_ h
 refine aj [false,false,false] (sBS_1 (fun _ _ _ hh=>iSt_2 hh) (by simp only[COn_,COc_]) hv12) SC (S ?_)
 refine ai cs h (fun cs h=>S ?_) (fun cs h=>S ?_)
 ·obtain⟨v21,hv21,h⟩:=rb_ h
  refine ar (f:=(Bt.pv false)) hv21 SC (S ?_)
  cases rs_ h
  exact aL SC
 ·cases rs_ h
  exact aL SC

theorem iSa_3(n:Nat):(∀ (a0:Sb) (a1:Tt) (r:Tt),iSa_ n a0 a1=some r→Sat ah 220 [((Sb.pv false) a0),((am false) a1)] ((am true) r)):=by
 induction n with
 | zero=>exact fun _ _ _ h=>by simp[iSa_] at h
 | succ n ih=>
  refine fun a0 a1 r h=>?_
  obtain⟨h,cs⟩:=Ro_ h
  rw[iSa_] at h
  refine au (nt:=51) (rs:=[.cell 4 42]) (n:=100000) Tryz.func220 rfl rfl rfl rfl (by simp) (S ?_)
  refine ai cs h (fun cs h=>S ?_) (fun cs h=>S ?_)
  ·obtain⟨v18,hv18,h⟩:=rb_ h
   refine aj [false,false] (iSt_3 hv18) SC (S ?_)
   refine ai cs h (fun cs h=>S ?_) (fun cs h=>S ?_)
   ·obtain⟨v23,hv23,h⟩:=rb_ h
    refine aj [false] (icT_3 hv23) SC (S ?_)
    cases rs_ h
    exact ag SC
   ·cases rs_ h
    exact ag SC
  ·obtain⟨n32,hn32,h⟩:=rb_ h
   refine MknH.mk hn32 (S ?_)
   refine ae (DHa_ [7] [512]) (S ?_)
   refine aN (b:=false) (sz:=2) (es:=a1.Args.map (am false)) 11 SC fun hl11=>?_; rw[aC] at hl11
   replace h:=rl_ h
   refine aI h (fun i8 s8=>[(2,.box (.pv ((Sb.pv false) a0))),(4,.box (.node [(.pv (Sx (⟨#[]⟩:ByteArray))),(.pv (.sl true 2 []))])),(7,.box (.node [(.pv (Sx a1.Name)),(.own 512)])),(35,.val (.pv (.sl false 2 (a1.Args.map (am false))))),(36,.val (.pv (I (a1.Args.length:Int)))),(37,.val (.pv (I (i8:Int))))]) (fun i8 s8=>[(512,(2,s8.map (am true)))]) (Slm_ SC) (fun i8 s8 hi h=>?_) (fun s8 h=>?_)
   ·have w:=ws_ (i:=i8) (by omega)
    refine S ?_
    refine aG cs (by omega) (fun cs=>S ?_)
    obtain⟨v40,hv40,h⟩:=rb_ h
    refine ar (f:=(am false)) hv40 SC (S ?_)
    obtain⟨v47,hv47,h⟩:=rb_ h
    refine aj [false,false] (ih _ _ _ hv47) SC (S ?_)
    obtain⟨v48,hv48,h⟩:=rb_ h
    refine ar (f:=(am true)) hv48 SC (S ?_)
    obtain⟨w4,hw4,h⟩:=rb_ h
    refine bp (f:=(am true)) hw4 rfl SC (S ?_)
    refine ae (DHa_ [] [752]) (S ?_)
    have h:=rs_ h
    refine aA ⟨_,h,?_⟩
    exact Slm_ SW
   ·refine S ?_
    refine aJ cs (by omega) (fun cs=>S ?_)
    cases rs_ h
    exact ag SC
theorem iSa_2{a0:Sb}{a1:Tt}{r:Tt}(h:iSa_1 a0 a1=some r):Sat ah 220 [((Sb.pv false) a0),((am false) a1)] ((am true) r):=by
 obtain⟨n,hn⟩:=ls_ h
 exact(iSa_3 n) _ _ _ hn

theorem imP_1{a0:Ft}{a1:Ft→Bool→Option (Ft×Bool)}{a1_s:Bool}{a1_id:FuncId}{a1_pat:List Bool}{a1_ps a1_p1 a1_p2:List PV}(a1_ok:∀ y0 s r,a1 y0 s=some r→SatH ah a1_id (((al false) y0)::a1_p1) a1_p2 .ptr [] (.pv (B s)) (.pv (B r.2)) ((al true) r.1))(a1_sp:sP_ a1_pat a1_ps=some (a1_p1,a1_p2))(a1_cz:CapsOk a1_ps){r:Ft×Bool}(h:imP_ a0 a1 a1_s=some r):SatH ah 143 [((al false) a0)] [] (.clo a1_id a1_pat) a1_ps (.pv (B a1_s)) (.pv (B r.2)) ((al true) r.1):=by
 obtain⟨h,cs⟩:=Ro_ h
 unfold imP_ at h
 refine SHo_ (nt:=33) (rs:=[.cell 4 44]) (n:=100000) 1 Tryz.func143 rfl rfl rfl rfl rfl (Nat.le_of_ble_eq_true rfl) (by decide) (by first | exact Nat.le_of_ble_eq_true rfl | exact SC) (S ?_)
 obtain⟨v12,hv12,h⟩:=rb_ h
 refine aj [false] (icT_3 hv12) SC (S ?_)
 refine ae (DHa_ [5] [192]) (S ?_)
 refine aN (b:=false) (sz:=5) (es:=a0.Parts.map (al false)) 17 SC fun hl17=>?_; rw[aC] at hl17
 replace h:=rl_ h
 refine aI h (fun i3 s3=>[(1,.hold (.clo a1_id a1_pat) a1_ps (.cv (.pv (B s3.1)))),(4,.box (.node [(.pv (I (0:Int))),(.node [(.pv (Sx (⟨#[]⟩:ByteArray))),(.pv (.sl true 2 []))]),(.pv (Sx (⟨#[]⟩:ByteArray))),(.pv (.sl true 5 []))])),(5,.box (.node [(.pv (I a0.Op)),(.node [(.pv (Sx v12.Name)),(.own 192)]),(.pv (Sx a0.Var)),(.own 9309)])),(17,.val (.pv (.sl false 5 (a0.Parts.map (al false))))),(18,.val (.pv (I (a0.Parts.length:Int)))),(19,.val (.pv (I (i3:Int)))),(20000,gh 1)]) (fun i3 s3=>[(192,(2,v12.Args.map (am true))),(9309,(5,s3.2.map (al true)))]) (aT (Sln_ (x:=(.node [(.pv (I a0.Op)),(.node [(.pv (Sx v12.Name)),(.own 192)]),(.pv (Sx a0.Var)),(.pv (.sl true 5 []))])) 5 [3] 9309 5 NM SC SC SC) (Slm_ SC)) (fun i3 s3 hi h=>?_) (fun s3 h=>?_)
 ·have w:=ws_ (i:=i3) (by omega)
  refine S ?_
  refine aG cs (by omega) (fun cs=>S ?_)
  obtain⟨v21,hv21,h⟩:=rb_ h
  refine ar (f:=(al false)) hv21 SC (S ?_)
  obtain⟨v27,hv27,h⟩:=rb_ h
  refine HHc_ (r:=1) (hc:=.cv (.pv (B s3.1))) (pre:=[((al false) v21)]) a1_pat a1_ps a1_p1 a1_p2 [(.pv ((al false) v21))] [false] (a1_ok _ _ _ hv27) a1_sp a1_cz SC (S ?_)
  obtain⟨v29,hv29,h⟩:=rb_ h
  refine aQ (f:=(al true)) (fun a=>Ft.psize _ a) hv29 SC SC (S ?_)
  refine ae (DHa_ [] [432,433,448,464]) (S ?_)
  have h:=rs_ h
  refine aA ⟨_,h,?_⟩
  refine aT (Slm_1 (S:=[(1,.hold (.clo a1_id a1_pat) a1_ps (.cv (.pv (B v27.2)))),(4,.box (.node [(.pv (I (0:Int))),(.node [(.pv (Sx (⟨#[]⟩:ByteArray))),(.pv (.sl true 2 []))]),(.pv (Sx (⟨#[]⟩:ByteArray))),(.pv (.sl true 5 []))])),(5,.box (.node [(.pv (I a0.Op)),(.node [(.pv (Sx v12.Name)),(.own 192)]),(.pv (Sx a0.Var)),(.own 464)])),(17,.val (.pv (.sl false 5 (a0.Parts.map (al false))))),(18,.val (.pv (I (a0.Parts.length:Int)))),(19,.val (.pv (I (IntKind.i64.wrap ((i3:Int)+(1:Int)))))),(20000,gh 1)]) (O:=[(192,(2,v12.Args.map (am true))),(464,(5,v29.map (al true)))]) SW SW) ?_
  refine Slr_ 464 9309 (by decide) NM ?_
  exact Slm_ SW
 ·refine S ?_
  refine aJ cs (by omega) (fun cs=>S ?_)
  cases rs_ h
  exact RetHB.l SC

theorem isN_2(n:Nat):(∀ (a0:Ft) (a1:ByteArray) (a2:Tt) (r:Ft×Bool),isN_ n a0 a1 a2=some r→Sat ah 214 [((al false) a0),(Sx a1),((am false) a2)] (.tup [((al true) r.1),(B r.2)]))∧(∀ (a0:Ft) (b0:ByteArray) (b1:Tt) (b2:Bool) (r:Ft×Bool),is1_ n a0 b0 b1 b2=some r→SatH ah 219 [((al false) a0),.ptr (Sx b0),.ptr ((am false) b1)] [] .ptr [] (.pv (B b2)) (.pv (B r.2)) ((al true) r.1)):=by
 induction n with
 | zero=>exact⟨fun _ _ _ _ h=>by simp[isN_] at h,fun _ _ _ _ _ h=>by simp[is1_] at h⟩
 | succ n ih=>
  refine⟨fun a0 a1 a2 r h=>?_,fun a0 b0 b1 b2 r h=>?_⟩
  ·obtain⟨h,cs⟩:=Ro_ h
   rw[isN_] at h
   refine au (nt:=55) (rs:=[.cell 6 44,.tmp 7]) (n:=100000) Tryz.func214 rfl rfl rfl rfl (by simp) (S ?_)
   obtain⟨v12,hv12,h⟩:=rb_ h
   refine aj [false] (iiQ_ hv12) SC (S ?_)
   refine ai cs h (fun cs h=>S ?_) (fun cs h=>S ?_)
   ·refine ai cs h (fun cs h=>S ?_) (fun cs h=>S ?_)
    ·refine ae (DHa_ [] []) (S ?_)
     obtain⟨v27,hv27,h⟩:=rb_ h
     refine aj [false] (icF_3 hv27) SC (S ?_)
     cases rs_ h
     exact ag SC
    ·obtain⟨v20,hv20,h⟩:=rb_ h
     refine aj [false] (ifs_ hv20) SC (S ?_)
     obtain⟨v22,hv22,h⟩:=rb_ h
     refine aj [false,false] (sCS_3 hv22) SC (S ?_)
     refine ae (DHa_ [] [320]) (S ?_)
     refine ai cs h (fun cs h=>S ?_) (fun cs h=>S ?_)
     ·obtain⟨v30,hv30,h⟩:=rb_ h
      refine aj [false] (iiQ_ hv30) SC (S ?_)
      refine ai cs h (fun cs h=>S ?_) (fun cs h=>S ?_)
      ·obtain⟨v35,hv35,h⟩:=rb_ h
       refine aj [false,false] (ios_ hv35) SC (S ?_)
       refine ai cs h (fun cs h=>S ?_) (fun cs h=>S ?_)
       ·cases rs_ h
        exact ag SC
       ·refine MfH.hcl (r:=8) (x:=(.pv (B true))) [.tmp 4,.tmp 5] [] [(4,(Sx a1)),(5,((am false) a2))] [false,false,true] [(.ptr (Sx a1)),(.ptr ((am false) a2))] rfl rfl rfl SC (S ?_)
        obtain⟨v40,hv40,h⟩:=rb_ h
        refine HandH.call (r:=8) (hc:=.cv (.pv (B true))) 1 [_] [] [(.pv ((al false) a0))] [] [false] (imP_1 (a1_id:=219) (a1_pat:=[false,false,true]) (a1_ps:=[(.ptr (Sx a1)),(.ptr ((am false) a2))]) (a1_p1:=[(.ptr (Sx a1)),(.ptr ((am false) a2))]) (a1_p2:=[]) (a1_ok:=fun _ _ _ hh=>ih.2 _ _ _ _ _ hh) (a1_sp:=rfl) (a1_cz:=by simp only[COn_,COc_]) hv40) rfl rfl rfl SC (S ?_)
        refine ai cs h (fun cs h=>S ?_) (fun cs h=>S ?_)
        ·obtain⟨v51,hv51,h⟩:=rb_ h
         refine aj [false,false] (iSa_2 hv51) SC (S ?_)
         refine ae (DHa_ [] []) (S ?_)
         cases rs_ h
         exact ag SC
        ·refine ae (DHa_ [] []) (S ?_)
         cases rs_ h
         exact ag SC
      ·refine MfH.hcl (r:=8) (x:=(.pv (B true))) [.tmp 4,.tmp 5] [] [(4,(Sx a1)),(5,((am false) a2))] [false,false,true] [(.ptr (Sx a1)),(.ptr ((am false) a2))] rfl rfl rfl SC (S ?_)
       obtain⟨v40,hv40,h⟩:=rb_ h
       refine HandH.call (r:=8) (hc:=.cv (.pv (B true))) 1 [_] [] [(.pv ((al false) a0))] [] [false] (imP_1 (a1_id:=219) (a1_pat:=[false,false,true]) (a1_ps:=[(.ptr (Sx a1)),(.ptr ((am false) a2))]) (a1_p1:=[(.ptr (Sx a1)),(.ptr ((am false) a2))]) (a1_p2:=[]) (a1_ok:=fun _ _ _ hh=>ih.2 _ _ _ _ _ hh) (a1_sp:=rfl) (a1_cz:=by simp only[COn_,COc_]) hv40) rfl rfl rfl SC (S ?_)
       refine ai cs h (fun cs h=>S ?_) (fun cs h=>S ?_)
       ·obtain⟨v51,hv51,h⟩:=rb_ h
        refine aj [false,false] (iSa_2 hv51) SC (S ?_)
        refine ae (DHa_ [] []) (S ?_)
        cases rs_ h
        exact ag SC
       ·refine ae (DHa_ [] []) (S ?_)
        cases rs_ h
        exact ag SC
     ·obtain⟨v27,hv27,h⟩:=rb_ h
      refine aj [false] (icF_3 hv27) SC (S ?_)
      cases rs_ h
      exact ag SC
   ·refine ae (DHa_ [] []) (S ?_)
    obtain⟨v30,hv30,h⟩:=rb_ h
    refine aj [false] (iiQ_ hv30) SC (S ?_)
    refine ai cs h (fun cs h=>S ?_) (fun cs h=>S ?_)
    ·obtain⟨v35,hv35,h⟩:=rb_ h
     refine aj [false,false] (ios_ hv35) SC (S ?_)
     refine ai cs h (fun cs h=>S ?_) (fun cs h=>S ?_)
     ·cases rs_ h
      exact ag SC
     ·refine MfH.hcl (r:=8) (x:=(.pv (B true))) [.tmp 4,.tmp 5] [] [(4,(Sx a1)),(5,((am false) a2))] [false,false,true] [(.ptr (Sx a1)),(.ptr ((am false) a2))] rfl rfl rfl SC (S ?_)
      obtain⟨v40,hv40,h⟩:=rb_ h
      refine HandH.call (r:=8) (hc:=.cv (.pv (B true))) 1 [_] [] [(.pv ((al false) a0))] [] [false] (imP_1 (a1_id:=219) (a1_pat:=[false,false,true]) (a1_ps:=[(.ptr (Sx a1)),(.ptr ((am false) a2))]) (a1_p1:=[(.ptr (Sx a1)),(.ptr ((am false) a2))]) (a1_p2:=[]) (a1_ok:=fun _ _ _ hh=>ih.2 _ _ _ _ _ hh) (a1_sp:=rfl) (a1_cz:=by simp only[COn_,COc_]) hv40) rfl rfl rfl SC (S ?_)
      refine ai cs h (fun cs h=>S ?_) (fun cs h=>S ?_)
      ·obtain⟨v51,hv51,h⟩:=rb_ h
       refine aj [false,false] (iSa_2 hv51) SC (S ?_)
       refine ae (DHa_ [] []) (S ?_)
       cases rs_ h
       exact ag SC
      ·refine ae (DHa_ [] []) (S ?_)
       cases rs_ h
       exact ag SC
    ·refine MfH.hcl (r:=8) (x:=(.pv (B true))) [.tmp 4,.tmp 5] [] [(4,(Sx a1)),(5,((am false) a2))] [false,false,true] [(.ptr (Sx a1)),(.ptr ((am false) a2))] rfl rfl rfl SC (S ?_)
     obtain⟨v40,hv40,h⟩:=rb_ h
     refine HandH.call (r:=8) (hc:=.cv (.pv (B true))) 1 [_] [] [(.pv ((al false) a0))] [] [false] (imP_1 (a1_id:=219) (a1_pat:=[false,false,true]) (a1_ps:=[(.ptr (Sx a1)),(.ptr ((am false) a2))]) (a1_p1:=[(.ptr (Sx a1)),(.ptr ((am false) a2))]) (a1_p2:=[]) (a1_ok:=fun _ _ _ hh=>ih.2 _ _ _ _ _ hh) (a1_sp:=rfl) (a1_cz:=by simp only[COn_,COc_]) hv40) rfl rfl rfl SC (S ?_)
     refine ai cs h (fun cs h=>S ?_) (fun cs h=>S ?_)
     ·obtain⟨v51,hv51,h⟩:=rb_ h
      refine aj [false,false] (iSa_2 hv51) SC (S ?_)
      refine ae (DHa_ [] []) (S ?_)
      cases rs_ h
      exact ag SC
     ·refine ae (DHa_ [] []) (S ?_)
      cases rs_ h
      exact ag SC
  ·obtain⟨h,cs⟩:=Ro_ h
   rw[is1_] at h
   refine SHo_ (nt:=20) (rs:=[.cell 5 44]) (n:=100000) 3 Tryz.func219 rfl rfl rfl rfl rfl (Nat.le_of_ble_eq_true rfl) (by decide) (by first | exact Nat.le_of_ble_eq_true rfl | exact SC) (S ?_)
   obtain⟨v12,hv12,h⟩:=rb_ h
   refine aj [false,false,false] (ih.1 _ _ _ _ hv12) SC (S ?_)
   refine ai cs h (fun cs h=>S ?_) (fun cs h=>S ?_)
   ·cases rs_ h
    exact RetHB.l SC
   ·cases rs_ h
    exact RetHB.l SC
theorem iss_{a0:Ft}{a1:ByteArray}{a2:Tt}{r:Ft×Bool}(h:is_ a0 a1 a2=some r):Sat ah 214 [((al false) a0),(Sx a1),((am false) a2)] (.tup [((al true) r.1),(B r.2)]):=by
 obtain⟨n,hn⟩:=ls_ h
 exact(isN_2 n).1 _ _ _ _ hn
theorem is1_2{a0:Ft}{b0:ByteArray}{b1:Tt}{b2:Bool}{r:Ft×Bool}(h:is1_1 a0 b0 b1 b2=some r):SatH ah 219 [((al false) a0),.ptr (Sx b0),.ptr ((am false) b1)] [] .ptr [] (.pv (B b2)) (.pv (B r.2)) ((al true) r.1):=by
 obtain⟨n,hn⟩:=ls_ h
 exact(isN_2 n).2 _ _ _ _ _ hn

theorem iiF_6{a0:Ft}  {r:Ft×Bool}(h:iiF_1 a0=some r):Sat ah 215 [((al false) a0)] (.tup [((al false) r.1),(B r.2)]):=by
 obtain⟨h,cs⟩:=Ro_ h
 unfold iiF_1 at h
 refine au (nt:=9) (rs:=[.cell 2 44,.tmp 3]) (n:=100000) Tryz.func215 rfl rfl rfl rfl (by simp) (S ?_)
 obtain⟨v5,hv5,h⟩:=rb_ h
 refine aj [false] (iIV_6 hv5) SC (S ?_)
 refine ai cs h (fun cs h=>S ?_) (fun cs h=>S ?_)
 ·cases rs_ h
  exact aL SC
 ·cases rs_ h
  exact aL SC

theorem iiF_4{a0:Ft}  {r:Ft×Bool}(h:iiF_1 a0=some r):Sat ah 215 [((al true) a0)] (.tup [((al true) r.1),(B r.2)]):=by
 obtain⟨h,cs⟩:=Ro_ h
 unfold iiF_1 at h
 refine au (nt:=9) (rs:=[.cell 2 44,.tmp 3]) (n:=100000) Tryz.func215 rfl rfl rfl rfl (by simp) (S ?_)
 obtain⟨v5,hv5,h⟩:=rb_ h
 refine aj [false] (iIV_6 hv5) SC (S ?_)
 refine ai cs h (fun cs h=>S ?_) (fun cs h=>S ?_)
 ·cases rs_ h
  exact ag SC
 ·cases rs_ h
  exact ag SC

theorem iSF_1{a0:Ft}{a1:ByteArray}{a2:Tt}  {r:Ft×Bool}(h:iSF_ a0 a1 a2=some r):Sat ah 211 [((al false) a0),(Sx a1),((am false) a2)] (.tup [((al true) r.1),(B r.2)]):=by
 obtain⟨h,cs⟩:=Ro_ h
 unfold iSF_ at h
 refine au (nt:=38) (rs:=[.cell 6 44,.tmp 7]) (n:=100000) Tryz.func211 rfl rfl rfl rfl (by simp) (S ?_)
 obtain⟨v11,hv11,h⟩:=rb_ h
 refine aj [false] (iIV_6 hv11) SC (S ?_)
 refine ai cs h (fun cs h=>S ?_) (fun cs h=>S ?_)
 ·obtain⟨v15,hv15,h⟩:=rb_ h
  refine aj [false] (iiV_1 hv15) SC (S ?_)
  refine ai cs h (fun cs h=>S ?_) (fun cs h=>S ?_)
  ·obtain⟨v20,hv20,h⟩:=rb_ h
   refine aj [false] (iIV_10 hv20) SC (S ?_)
   refine ai cs h (fun cs h=>S ?_) (fun cs h=>S ?_)
   ·obtain⟨v28,hv28,h⟩:=rb_ h
    refine aj [false,false,false] (iss_ hv28) SC (S ?_)
    refine ai cs h (fun cs h=>S ?_) (fun cs h=>S ?_)
    ·obtain⟨v35,hv35,h⟩:=rb_ h
     refine aj [true] (iiF_4 hv35) SC (S ?_)
     cases rs_ h
     exact ag SC
    ·cases rs_ h
     exact ag SC
   ·cases rs_ h
    exact ag SC
  ·cases rs_ h
   exact ag SC
 ·cases rs_ h
  exact ag SC

theorem iis_{a0:Sa}{a1:Dt}{a2:Ft}  {r:(List Sa)×Bool}(h:ii_ a0 a1 a2=some r):Sat ah 204 [((ao false) a0),((av false) a1),((al false) a2)] (.tup [(.sl true 2 (r.1.map (ao true))),(B r.2)]):=by
 obtain⟨h,cs⟩:=Ro_ h
 unfold ii_ at h
 refine au (nt:=59) (rs:=[.tmp 6,.tmp 7]) (n:=100000) Tryz.func204 rfl rfl rfl rfl (by simp) (S ?_)
 obtain⟨v14,hv14,h⟩:=rb_ h
 refine aj [false] (imR_1 hv14) SC (S ?_)
 refine ai cs h (fun cs h=>S ?_) (fun cs h=>S ?_)
 ·obtain⟨v33,hv33,h⟩:=rb_ h
  refine ar (f:=(al false)) hv33 SC (S ?_)
  obtain⟨v39,hv39,h⟩:=rb_ h
  refine aj [false,false,false] (iSF_1 hv39) SC (S ?_)
  refine ae (DHa_ [8] [624,625]) (S ?_)
  refine ai cs h (fun cs h=>S ?_) (fun cs h=>S ?_)
  ·obtain⟨v47,hv47,h⟩:=rb_ h
   refine aj [false] (imO_1 hv47) SC (S ?_)
   refine ai cs h (fun cs h=>S ?_) (fun cs h=>S ?_)
   ·cases rs_ h
    exact ag SC
   ·cases rs_ h
    exact ag SC
  ·cases rs_ h
   exact ag SC
 ·obtain⟨v20,hv20,h⟩:=rb_ h
  refine aj [false] (iiV_1 hv20) SC (S ?_)
  refine ai cs h (fun cs h=>S ?_) (fun cs h=>S ?_)
  ·obtain⟨v27,hv27,h⟩:=rb_ h
   refine aj [false,false] (iiF_5 hv27) SC (S ?_)
   refine ai cs h (fun cs h=>S ?_) (fun cs h=>S ?_)
   ·cases rs_ h
    exact ag SC
   ·obtain⟨v33,hv33,h⟩:=rb_ h
    refine ar (f:=(al false)) hv33 SC (S ?_)
    obtain⟨v39,hv39,h⟩:=rb_ h
    refine aj [false,false,false] (iSF_1 hv39) SC (S ?_)
    refine ae (DHa_ [8] [624,625]) (S ?_)
    refine ai cs h (fun cs h=>S ?_) (fun cs h=>S ?_)
    ·obtain⟨v47,hv47,h⟩:=rb_ h
     refine aj [false] (imO_1 hv47) SC (S ?_)
     refine ai cs h (fun cs h=>S ?_) (fun cs h=>S ?_)
     ·cases rs_ h
      exact ag SC
     ·cases rs_ h
      exact ag SC
    ·cases rs_ h
     exact ag SC
  ·cases rs_ h
   exact ag SC

theorem ia1_1{a0:Int}{b0:Ft}  {r:List Ft}(h:ia1_ a0 b0=some r):Sat ah 205 [(I a0),.ptr ((al false) b0)] (.sl true 5 (r.map (al false))):=by
 obtain⟨h,cs⟩:=Ro_ h
 unfold ia1_ at h
 refine au (nt:=10) (rs:=[.tmp 3]) (n:=100000) Tryz.func205 rfl rfl rfl rfl (by simp) (S ?_)
 obtain⟨v7,hv7,h⟩:=rb_ h
 refine ar (f:=(al false)) hv7 SC (S ?_)
 cases rs_ h
 exact ag SC

theorem ia2_1{a0:Ft}{b0:Ft}  {r:Bool}(h:ia2_ a0 b0=some r):Sat ah 206 [((al false) a0),.ptr ((al false) b0)] (B r):=by
 obtain⟨h,cs⟩:=Ro_ h
 unfold ia2_ at h
 refine au (nt:=7) (rs:=[.tmp 3]) (n:=100000) Tryz.func206 rfl rfl rfl rfl (by simp) (S ?_)
 obtain⟨v6,hv6,h⟩:=rb_ h
 refine aj [false,false] (isF_3 hv6) SC (S ?_)
 cases rs_ h
 exact ag SC

theorem ias_{a0:Sa}{a1:Dt}  {r:(List Sa)×Bool}(h:ia_ a0 a1=some r):Sat ah 194 [((ao false) a0),((av false) a1)] (.tup [(.sl false 2 (r.1.map (ao false))),(B r.2)]):=by
 obtain⟨h,cs⟩:=Ro_ h
 unfold ia_ at h
 refine au (nt:=147) (rs:=[.tmp 4,.tmp 5]) (n:=100000) Tryz.func194 rfl rfl rfl rfl (by simp) (SB ?_)
 refine ai cs h (fun cs h=>SB ?_) (fun cs h=>SB ?_)
 ·refine ai cs h (fun cs h=>SB ?_) (fun cs h=>SB ?_)
  ·obtain⟨v18,hv18,h⟩:=rb_ h
   refine aj [false] (iiZ_ hv18) SC (SB ?_)
   refine ai cs h (fun cs h=>SB ?_) (fun cs h=>SB ?_)
   ·obtain⟨v24,hv24,h⟩:=rb_ h
    refine aj [false] (iIV_6 hv24) SC (SB ?_)
    refine ai cs h (fun cs h=>SB ?_) (fun cs h=>SB ?_)
    ·refine OrR.v [((al false) a1.Cut)] (SB ?_)
     refine OrR.v [((al false) a1.Cut)] (SB ?_)
     refine OrR.l (SB ?_)
     cases rs_ h
     exact aL SC
    ·cases rs_ h
     exact aL SC
   ·cases rs_ h
    exact aL SC
  ·cases rs_ h
   exact aL SC
 ·obtain⟨v38,hv38,h⟩:=rb_ h
  refine aj [false,false,false] (iws_ hv38) SC (SB ?_)
  refine ai cs h (fun cs h=>SB ?_) (fun cs h=>SB ?_)
  ·obtain⟨v44,hv44,h⟩:=rb_ h
   refine aj [false,false] (isF_3 hv44) SC (SB ?_)
   refine ai cs h (fun cs h=>SB ?_) (fun cs h=>SB ?_)
   ·obtain⟨v50,hv50,h⟩:=rb_ h
    refine aj [false] (iiQ_3 hv50) SC (SB ?_)
    obtain⟨v53,hv53,h⟩:=rb_ h
    refine aj [false] (iiZ_ hv53) SC (SB ?_)
    refine ae (DHa_ [] []) (SB ?_)
    refine ai cs h (fun cs h=>SB ?_) (fun cs h=>SB ?_)
    ·obtain⟨v60,hv60,h⟩:=rb_ h
     refine aj [false,false] (imF_1 hv60) SC (SB ?_)
     refine ai cs h (fun cs h=>SB ?_) (fun cs h=>SB ?_)
     ·obtain⟨v67,hv67,h⟩:=rb_ h
      refine aj [false] (iiQ_3 hv67) SC (SB ?_)
      refine ai cs h (fun cs h=>SB ?_) (fun cs h=>SB ?_)
      ·obtain⟨v71,hv71,h⟩:=rb_ h
       refine aj [false,false,false] (iis_ hv71) SC (SB ?_)
       cases rs_ h
       exact aL SC
      ·refine MfH.fr (SB ?_)
       refine ai cs h (fun cs h=>SB ?_) (fun cs h=>SB ?_)
       ·refine ai cs h (fun cs h=>SB ?_) (fun cs h=>SB ?_)
        ·cases rs_ h
         exact aL SC
        ·refine MfH.fr (SB ?_)
         obtain⟨v86,hv86,h⟩:=rb_ h
         refine aj [false,false] (sCF_1 (fun _ _ hh=>ia2_1 hh) (by simp only[COn_,COc_]) hv86) SC (SB ?_)
         cases rs_ h
         exact aL SC
       ·refine ai cs h (fun cs h=>SB ?_) (fun cs h=>SB ?_)
        ·cases rs_ h
         exact aL SC
        ·refine ai cs h (fun cs h=>SB ?_) (fun cs h=>SB ?_)
         ·obtain⟨v93,hv93,h⟩:=rb_ h
          refine aj [false] (SvO_ (res':=(.sl false 5 (v93.map (al false)))) (ia1_1 hv93) (by simp only[vt_,vs_,va_,vl_,aF,RB,RS])) SC (SB ?_)
          refine OrR.l (SB ?_)
          cases rs_ h
          exact aL SC
         ·refine ai cs h (fun cs h=>SB ?_) (fun cs h=>SB ?_)
          ·obtain⟨v99,hv99,h⟩:=rb_ h
           refine aj [false] (SvO_ (res':=(.sl false 5 (v99.map (al false)))) (ia1_1 hv99) (by simp only[vt_,vs_,va_,vl_,aF,RB,RS])) SC (SB ?_)
           refine OrR.l (SB ?_)
           cases rs_ h
           exact aL SC
          ·refine ai cs h (fun cs h=>SB ?_) (fun cs h=>SB ?_)
           ·refine OrR.l (SB ?_)
            cases rs_ h
            exact aL SC
           ·refine ai cs h (fun cs h=>SB ?_) (fun cs h=>SB ?_)
            ·obtain⟨v111,hv111,h⟩:=rb_ h
             refine aj [false] (SvO_ (res':=(.sl false 5 (v111.map (al false)))) (ia1_1 hv111) (by simp only[vt_,vs_,va_,vl_,aF,RB,RS])) SC (SB ?_)
             obtain⟨v114,hv114,h⟩:=rb_ h
             refine aj [false] (SvO_ (res':=(.sl false 5 (v114.map (al false)))) (ia1_1 hv114) (by simp only[vt_,vs_,va_,vl_,aF,RB,RS])) SC (SB ?_)
             refine OrR.l (SB ?_)
             cases rs_ h
             exact aL SC
            ·refine ai cs h (fun cs h=>SB ?_) (fun cs h=>SB ?_)
             ·obtain⟨v120,hv120,h⟩:=rb_ h
              refine aj [false] (SvO_ (res':=(.sl false 5 (v120.map (al false)))) (ia1_1 hv120) (by simp only[vt_,vs_,va_,vl_,aF,RB,RS])) SC (SB ?_)
              obtain⟨v123,hv123,h⟩:=rb_ h
              refine aj [false] (SvO_ (res':=(.sl false 5 (v123.map (al false)))) (ia1_1 hv123) (by simp only[vt_,vs_,va_,vl_,aF,RB,RS])) SC (SB ?_)
              refine OrR.l (SB ?_)
              cases rs_ h
              exact aL SC
             ·refine ai cs h (fun cs h=>SB ?_) (fun cs h=>SB ?_)
              ·refine OrR.l (SB ?_)
               cases rs_ h
               exact aL SC
              ·refine ai cs h (fun cs h=>SB ?_) (fun cs h=>SB ?_)
               ·obtain⟨v135,hv135,h⟩:=rb_ h
                refine aj [false] (SvO_ (res':=(.sl false 5 (v135.map (al false)))) (ia1_1 hv135) (by simp only[vt_,vs_,va_,vl_,aF,RB,RS])) SC (SB ?_)
                obtain⟨v138,hv138,h⟩:=rb_ h
                refine aj [false] (SvO_ (res':=(.sl false 5 (v138.map (al false)))) (ia1_1 hv138) (by simp only[vt_,vs_,va_,vl_,aF,RB,RS])) SC (SB ?_)
                refine OrR.l (SB ?_)
                cases rs_ h
                exact aL SC
               ·obtain⟨v142,hv142,h⟩:=rb_ h
                refine aj [false] (SvO_ (res':=(.sl false 5 (v142.map (al false)))) (ia1_1 hv142) (by simp only[vt_,vs_,va_,vl_,aF,RB,RS])) SC (SB ?_)
                obtain⟨v144,hv144,h⟩:=rb_ h
                refine aj [false] (SvO_ (res':=(.sl false 5 (v144.map (al false)))) (ia1_1 hv144) (by simp only[vt_,vs_,va_,vl_,aF,RB,RS])) SC (SB ?_)
                refine OrR.l (SB ?_)
                cases rs_ h
                exact aL SC
     ·cases rs_ h
      exact aL SC
    ·cases rs_ h
     exact aL SC
   ·refine ae (DHa_ [] []) (SB ?_)
    cases rs_ h
    exact aL SC
  ·refine ae (DHa_ [] []) (SB ?_)
   cases rs_ h
   exact aL SC

theorem iDr_4{a0:Dt}{a1:Bool}{a2:Int}  {r:Bool}(h:iDr_1 a0 a1 a2=some r):Sat ah 114 [((av false) a0),(B a1),(I a2)] (B r):=by
 obtain⟨h,cs⟩:=Ro_ h
 unfold iDr_1 at h
 refine au (nt:=32) (rs:=[.tmp 6]) (n:=100000) Tryz.func114 rfl rfl rfl rfl (by simp) (S ?_)
 refine ai cs h (fun cs h=>S ?_) (fun cs h=>S ?_)
 ·cases rs_ h
  exact ag SC
 ·obtain⟨v15,hv15,h⟩:=rb_ h
  refine aj [false] (imR_1 hv15) SC (S ?_)
  refine ai cs h (fun cs h=>S ?_) (fun cs h=>S ?_)
  ·cases rs_ h
   exact ag SC
  ·obtain⟨v20,hv20,h⟩:=rb_ h
   refine aj [false] (imO_1 hv20) SC (S ?_)
   refine ai cs h (fun cs h=>S ?_) (fun cs h=>S ?_)
   ·cases rs_ h
    exact ag SC
   ·cases rs_ h
    exact ag SC

theorem iDr_5{a0:Dt}{a1:List Ft}{a2:Bool}  {r:List Ft}(h:iDr_2 a0 a1 a2=some r):Sat ah 195 [((av false) a0),(.sl false 5 (a1.map (al false))),(B a2)] (.sl true 5 (r.map (al false))):=by
 obtain⟨h,cs⟩:=Ro_ h
 unfold iDr_2 at h
 refine au (nt:=29) (rs:=[.tmp 6]) (n:=100000) Tryz.func195 rfl rfl rfl rfl (by simp) (S ?_)
 refine aN (b:=false) (sz:=5) (es:=a1.map (al false)) 1 SC fun hl1=>?_; rw[aC] at hl1
 replace h:=rl_ h
 refine aI h (fun i3 s3=>[(2,.val (.pv (B a2))),(3,.box (.pv ((av false) a0))),(7,.val (.own 160)),(11,.val (.pv (.sl false 5 (a1.map (al false))))),(12,.val (.pv (I (a1.length:Int)))),(13,.val (.pv (I (i3:Int))))]) (fun i3 s3=>[(160,(5,s3.map (al false)))]) (Slm_ SC) (fun i3 s3 hi h=>?_) (fun s3 h=>?_)
 ·have w:=ws_ (i:=i3) (by omega)
  refine S ?_
  refine aG cs (by omega) (fun cs=>S ?_)
  obtain⟨v16,hv16,h⟩:=rb_ h
  refine ar (f:=(al false)) hv16 SC (S ?_)
  obtain⟨v21,hv21,h⟩:=rb_ h
  refine aj [false,false,false] (iDr_4 hv21) SC (S ?_)
  refine ai cs h (fun cs h=>S ?_) (fun cs h=>S ?_)
  ·have h:=rs_ h
   refine aA ⟨_,h,?_⟩
   exact Slm_ SW
  ·obtain⟨v26,hv26,h⟩:=rb_ h
   refine aQ (f:=(al false)) (fun a=>Ft.psize _ a) hv26 SC SC (S ?_)
   have h:=rs_ h
   refine aA ⟨_,h,?_⟩
   refine aT (Slm_1 (S:=[(2,.val (.pv (B a2))),(3,.box (.pv ((av false) a0))),(7,.val (.own 416)),(11,.val (.pv (.sl false 5 (a1.map (al false))))),(12,.val (.pv (I (a1.length:Int)))),(13,.val (.pv (I (IntKind.i64.wrap ((i3:Int)+(1:Int))))))]) (O:=[(416,(5,v26.map (al false)))]) SW SW) ?_
   refine Slr_ 416 160 (by decide) NM ?_
   exact Slm_ SW
 ·refine S ?_
  refine aJ cs (by omega) (fun cs=>S ?_)
  cases rs_ h
  exact ag SC

theorem sGS_3{a1:Int}  {r:List Ft}(h:sGS_1 a1=some r):Sat ah 129 [(.lit (.slice none 0 0)),(I a1)] (.sl true 5 (r.map (al false))):=by
 obtain⟨h,cs⟩:=Ro_ h
 unfold sGS_1 at h
 refine Son_ (sz:=5) (nt:=27) (rs:=[.tmp 4]) (n:=100000) Tryz.func129 rfl rfl rfl rfl (by simp) (S ?_)
 refine ai cs h (fun cs h=>S ?_) (fun cs h=>S ?_)
 ·exact rn_ h
 ·refine ai cs h (fun cs h=>S ?_) (fun cs h=>S ?_)
  ·obtain⟨n22,hn22,h⟩:=rb_ h
   refine AppzH.mk hn22 (S ?_)
   obtain⟨v25,hv25,h⟩:=rb_ h
   refine SlcOH.mk (f:=(al true)) hv25 SC ?_
   obtain rfl:=sn_4 hv25
   refine S ?_
   refine S ?_
   cases rs_ h
   exact ag SC
  ·cases rs_ h
   exact ag SC

theorem sCS_4{a0:List (List Ft)}  {r:List Ft}(h:sCS_ a0=some r):Sat ah 98 [(.sl false 1 (a0.map (Lv false 5 (al false))))] (.sl true 5 (r.map (al false))):=by
 obtain⟨h,cs⟩:=Ro_ h
 unfold sCS_ at h
 refine au (nt:=36) (rs:=[.tmp 2]) (n:=100000) Tryz.func98 rfl rfl rfl rfl (by simp) (S ?_)
 refine aN (b:=false) (sz:=1) (es:=a0.map (Lv false 5 (al false))) 0 SC fun hl0=>?_; rw[aC] at hl0
 replace h:=rl_ h
 refine aI h (fun i3 s3=>[(0,.val (.pv (.sl false 1 (a0.map (Lv false 5 (al false)))))),(3,.val (.pv (I s3))),(9,.val (.pv (.sl false 1 (a0.map (Lv false 5 (al false)))))),(10,.val (.pv (I (a0.length:Int)))),(11,.val (.pv (I (i3:Int))))]) (fun i3 s3=>[]) (Slm_ SC) (fun i3 s3 hi h=>?_) (fun s3 h=>?_)
 ·have w:=ws_ (i:=i3) (by omega)
  refine S ?_
  refine aG cs (by omega) (fun cs=>S ?_)
  obtain⟨v13,hv13,h⟩:=rb_ h
  refine ar (f:=(Lv false 5 (al false))) hv13 SC (S ?_)
  refine ai cs h (fun cs h=>S ?_) (fun cs h=>S ?_)
  ·exact rn_ h
  ·have h:=rs_ h
   refine aA ⟨_,h,?_⟩
   exact Slm_ SW
 ·refine S ?_
  refine aJ cs (by omega) (fun cs=>S ?_)
  obtain⟨v24,hv24,h⟩:=rb_ h
  refine CHn_ (h:=sGS_3 hv24) (by refine S ?_; exact NM) (S ?_)
  refine aN (b:=false) (sz:=1) (es:=a0.map (Lv false 5 (al false))) 0 SC fun hl0=>?_; rw[aC] at hl0
  replace h:=rl_ h
  refine aI h (fun i11 s11=>[(6,.val (.own 384)),(25,.val (.pv (.sl false 1 (a0.map (Lv false 5 (al false)))))),(26,.val (.pv (I (a0.length:Int)))),(27,.val (.pv (I (i11:Int))))]) (fun i11 s11=>[(384,(5,s11.map (al false)))]) (Slm_ SC) (fun i11 s11 hi h=>?_) (fun s11 h=>?_)
  ·have w:=ws_ (i:=i11) (by omega)
   refine S ?_
   refine aG cs (by omega) (fun cs=>S ?_)
   obtain⟨v29,hv29,h⟩:=rb_ h
   refine ar (f:=(Lv false 5 (al false))) hv29 SC (S ?_)
   obtain⟨v33,hv33,h⟩:=rb_ h
   refine aQ (f:=(al false)) (fun a=>Ft.psize _ a) hv33 SC SC (S ?_)
   have h:=rs_ h
   refine aA ⟨_,h,?_⟩
   refine aT (Slm_1 (S:=[(6,.val (.own 528)),(25,.val (.pv (.sl false 1 (a0.map (Lv false 5 (al false)))))),(26,.val (.pv (I (a0.length:Int)))),(27,.val (.pv (I (IntKind.i64.wrap ((i11:Int)+(1:Int))))))]) (O:=[(528,(5,v33.map (al false)))]) SW SW) ?_
   refine Slr_ 528 384 (by decide) NM ?_
   exact Slm_ SW
  ·refine S ?_
   cases rs_ h
   exact ag SC

theorem icF_4{a0:List Ft}  {r:List Ft}(h:icF_1 a0=some r):Sat ah 102 [(.sl false 5 (a0.map (al false)))] (.sl true 5 (r.map (al true))):=by
 obtain⟨h,cs⟩:=Ro_ h
 unfold icF_1 at h
 refine au (nt:=20) (rs:=[.tmp 2]) (n:=100000) Tryz.func102 rfl rfl rfl rfl (by simp) (S ?_)
 refine aN (b:=false) (sz:=5) (es:=a0.map (al false)) 0 SC fun hl0=>?_; rw[aC] at hl0
 replace h:=rl_ h
 refine aI h (fun i3 s3=>[(3,.val (.own 96)),(7,.val (.pv (.sl false 5 (a0.map (al false))))),(8,.val (.pv (I (a0.length:Int)))),(9,.val (.pv (I (i3:Int))))]) (fun i3 s3=>[(96,(5,s3.map (al true)))]) (Slm_ SC) (fun i3 s3 hi h=>?_) (fun s3 h=>?_)
 ·have w:=ws_ (i:=i3) (by omega)
  refine S ?_
  refine aG cs (by omega) (fun cs=>S ?_)
  obtain⟨v11,hv11,h⟩:=rb_ h
  refine ar (f:=(al false)) hv11 SC (S ?_)
  obtain⟨v15,hv15,h⟩:=rb_ h
  refine aj [false] (icF_3 hv15) SC (S ?_)
  obtain⟨v17,hv17,h⟩:=rb_ h
  refine aQ (f:=(al true)) (fun a=>Ft.psize _ a) hv17 SC SC (S ?_)
  have h:=rs_ h
  refine aA ⟨_,h,?_⟩
  refine aT (Slm_1 (S:=[(3,.val (.own 272)),(7,.val (.pv (.sl false 5 (a0.map (al false))))),(8,.val (.pv (I (a0.length:Int)))),(9,.val (.pv (I (IntKind.i64.wrap ((i3:Int)+(1:Int))))))]) (O:=[(272,(5,v17.map (al true)))]) SW SW) ?_
  refine Slr_ 272 96 (by decide) NM ?_
  exact Slm_ SW
 ·refine S ?_
  refine aJ cs (by omega) (fun cs=>S ?_)
  cases rs_ h
  exact ag SC

theorem icS_1{a0:Sa}  {r:Sa}(h:icS_ a0=some r):Sat ah 60 [((ao false) a0)] ((ao true) r):=by
 obtain⟨h,cs⟩:=Ro_ h
 unfold icS_ at h
 refine au (nt:=10) (rs:=[.cell 2 39]) (n:=100000) Tryz.func60 rfl rfl rfl rfl (by simp) (S ?_)
 obtain⟨v5,hv5,h⟩:=rb_ h
 refine aj [false] (icF_4 hv5) SC (S ?_)
 obtain⟨v8,hv8,h⟩:=rb_ h
 refine aj [false] (icF_4 hv8) SC (S ?_)
 refine ae (DHa_ [] [80,128]) (S ?_)
 cases rs_ h
 exact ag SC

theorem ips_{a0:Sa}{a1:Dt}  {r:(List Sa)×Bool}(h:ip_ a0 a1=some r):Sat ah 186 [((ao false) a0),((av false) a1)] (.tup [(.sl true 2 (r.1.map (ao true))),(B r.2)]):=by
 obtain⟨h,cs⟩:=Ro_ h
 unfold ip_ at h
 refine au (nt:=54) (rs:=[.tmp 4,.tmp 5]) (n:=100000) Tryz.func186 rfl rfl rfl rfl (by simp) (S ?_)
 obtain⟨v15,hv15,h⟩:=rb_ h
 refine aj [false,false] (ias_ hv15) SC (S ?_)
 refine ai cs h (fun cs h=>S ?_) (fun cs h=>S ?_)
 ·refine aN (b:=false) (sz:=2) (es:=v15.1.map (ao false)) 6 SC fun hl6=>?_; rw[aC] at hl6
  replace h:=rl_ h
  refine aI h (fun i6 s6=>[(2,.box (.pv ((ao false) a0))),(3,.box (.pv ((av false) a1))),(8,.val (.own 320)),(21,.val (.pv (.sl false 2 (v15.1.map (ao false))))),(22,.val (.pv (I (v15.1.length:Int)))),(23,.val (.pv (I (i6:Int))))]) (fun i6 s6=>[(320,(2,s6.map (ao true)))]) (Slm_ SC) (fun i6 s6 hi h=>?_) (fun s6 h=>?_)
  ·have w:=ws_ (i:=i6) (by omega)
   refine S ?_
   refine aG cs (by omega) (fun cs=>S ?_)
   obtain⟨v25,hv25,h⟩:=rb_ h
   refine ar (f:=(ao false)) hv25 SC (S ?_)
   obtain⟨v30,hv30,h⟩:=rb_ h
   refine aj [false,false,false] (SvO_ (res':=(.sl false 5 (v30.map (al false)))) (iDr_5 hv30) (by simp only[vt_,vs_,va_,vl_,aF,RB,RS])) SC (S ?_)
   obtain⟨v34,hv34,h⟩:=rb_ h
   refine aj [true] (bA (args:=[(.sl true 1 (([v30,v25.Left]).map (Lv false 5 (al false))))]) [true] (by have gg:=sCS_4 hv34; simp only[gv_t,gv_f,gv_n,vs_,va_,vl_,vrB_,vrI_,aF,RB,RS] at gg ⊢; exact gg)) SC (S ?_)
   obtain⟨v38,hv38,h⟩:=rb_ h
   refine aj [false,false,false] (SvO_ (res':=(.sl false 5 (v38.map (al false)))) (iDr_5 hv38) (by simp only[vt_,vs_,va_,vl_,aF,RB,RS])) SC (S ?_)
   obtain⟨v42,hv42,h⟩:=rb_ h
   refine aj [true] (bA (args:=[(.sl true 1 (([v38,v25.Right]).map (Lv false 5 (al false))))]) [true] (by have gg:=sCS_4 hv42; simp only[gv_t,gv_f,gv_n,vs_,va_,vl_,vrB_,vrI_,aF,RB,RS] at gg ⊢; exact gg)) SC (S ?_)
   obtain⟨v44,hv44,h⟩:=rb_ h
   refine aj [false] (icS_1 hv44) SC (S ?_)
   refine ae (DHa_ [11] [528,544,656,672,704,705]) (S ?_)
   obtain⟨v46,hv46,h⟩:=rb_ h
   refine aj [false] (iIV_8 hv46) SC (S ?_)
   refine ai cs h (fun cs h=>S ?_) (fun cs h=>S ?_)
   ·obtain⟨v51,hv51,h⟩:=rb_ h
    refine aQ (f:=(ao true)) (fun a=>Sa.psize _ a) hv51 SC SC (S ?_)
    have h:=rs_ h
    refine aA ⟨_,h,?_⟩
    refine aT (Slm_1 (S:=[(2,.box (.pv ((ao false) a0))),(3,.box (.pv ((av false) a1))),(8,.val (.own 816)),(21,.val (.pv (.sl false 2 (v15.1.map (ao false))))),(22,.val (.pv (I (v15.1.length:Int)))),(23,.val (.pv (I (IntKind.i64.wrap ((i6:Int)+(1:Int))))))]) (O:=[(816,(2,v51.map (ao true)))]) SW SW) ?_
    refine Slr_ 816 320 (by decide) NM ?_
    exact Slm_ SW
   ·cases rs_ h
    exact ag SC
  ·refine S ?_
   refine aJ cs (by omega) (fun cs=>S ?_)
   cases rs_ h
   exact ag SC
 ·cases rs_ h
  exact ag SC

theorem iPO_1{a0:Sa}{a1:Dt}  {r:(List Sa)×Bool}(h:iPO_ a0 a1=some r):Sat ah 166 [((ao false) a0),((av false) a1)] (.tup [(.sl true 2 (r.1.map (ao true))),(B r.2)]):=by
 obtain⟨h,cs⟩:=Ro_ h
 unfold iPO_ at h
 refine au (nt:=14) (rs:=[.tmp 4,.tmp 5]) (n:=100000) Tryz.func166 rfl rfl rfl rfl (by simp) (S ?_)
 obtain⟨v7,hv7,h⟩:=rb_ h
 refine aj [false] (iIV_8 hv7) SC (S ?_)
 refine ai cs h (fun cs h=>S ?_) (fun cs h=>S ?_)
 ·obtain⟨v11,hv11,h⟩:=rb_ h
  refine aj [false,false] (ips_ hv11) SC (S ?_)
  cases rs_ h
  exact ag SC
 ·cases rs_ h
  exact ag SC

theorem isF_4{a0:List Ft}{a1:List Ft}  {r:Bool}(h:isF_1 a0 a1=some r):Sat ah 151 [(.sl false 5 (a0.map (al false))),(.sl false 5 (a1.map (al false)))] (B r):=by
 obtain⟨h,cs⟩:=Ro_ h
 unfold isF_1 at h
 refine au (nt:=8) (rs:=[.tmp 4]) (n:=100000) Tryz.func151 rfl rfl rfl rfl (by simp) (S ?_)
 obtain⟨v7,hv7,h⟩:=rb_ h
 refine aj [false,false,false] (sEF_3 (fun _ _ _ hh=>isF_3 hh) (by simp only[COn_,COc_]) hv7) SC (S ?_)
 cases rs_ h
 exact ag SC

theorem isS_1{a0:Sa}{a1:Sa}  {r:Bool}(h:isS_ a0 a1=some r):Sat ah 128 [((ao false) a0),((ao false) a1)] (B r):=by
 obtain⟨h,cs⟩:=Ro_ h
 unfold isS_ at h
 refine au (nt:=17) (rs:=[.tmp 4]) (n:=100000) Tryz.func128 rfl rfl rfl rfl (by simp) (S ?_)
 obtain⟨v9,hv9,h⟩:=rb_ h
 refine aj [false,false] (isF_4 hv9) SC (S ?_)
 refine ai cs h (fun cs h=>S ?_) (fun cs h=>S ?_)
 ·obtain⟨v15,hv15,h⟩:=rb_ h
  refine aj [false,false] (isF_4 hv15) SC (S ?_)
  cases rs_ h
  exact ag SC
 ·cases rs_ h
  exact ag SC

theorem iiR_2{a0:Sa}{a1:Dt}  {r:Bool}(h:iiR_1 a0 a1=some r):Sat ah 168 [((ao false) a0),((av false) a1)] (B r):=by
 obtain⟨h,cs⟩:=Ro_ h
 unfold iiR_1 at h
 refine au (nt:=9) (rs:=[.tmp 4]) (n:=100000) Tryz.func168 rfl rfl rfl rfl (by simp) (S ?_)
 obtain⟨v8,hv8,h⟩:=rb_ h
 refine aj [false,false] (isS_1 hv8) SC (S ?_)
 cases rs_ h
 exact ag SC

theorem sEF_4{a0:List Sa}{a1:List Dt}{a2:Sa→Dt→Option Bool}{a2_id:FuncId}{a2_cs:List PV}(a2_ok:∀ y0 y1 r,a2 y0 y1=some r→Sat ah a2_id (((ao false) y0)::((av false) y1)::a2_cs) (B r))(a2_cz:CapsOk a2_cs=True){r:Bool}(h:sEF_1 a0 a1 a2=some r):Sat ah 167 [(.sl false 2 (a0.map (ao false))),(.sl false 12 (a1.map (av false))),.clo a2_id a2_cs] (B r):=by
 obtain⟨h,cs⟩:=Ro_ h
 unfold sEF_1 at h
 have cs:=ae a2_cz cs
 refine au (nt:=32) (rs:=[.tmp 6]) (n:=100000) Tryz.func167 rfl rfl rfl rfl (by simp) (S ?_)
 refine ai cs h (fun cs h=>S ?_) (fun cs h=>S ?_)
 ·refine aN (b:=false) (sz:=2) (es:=a0.map (ao false)) 0 SC fun hl0=>?_; rw[aC] at hl0
  replace h:=rl_ h
  refine aI h (fun i4 s4=>[(1,.val (.pv (.sl false 12 (a1.map (av false))))),(2,.val (.pv (.clo a2_id a2_cs))),(15,.val (.pv (.sl false 2 (a0.map (ao false))))),(16,.val (.pv (I (a0.length:Int)))),(17,.val (.pv (I (i4:Int))))]) (fun i4 s4=>[]) (Slm_ SC) (fun i4 s4 hi h=>?_) (fun s4 h=>?_)
  ·have w:=ws_ (i:=i4) (by omega)
   refine S ?_
   refine aG cs (by omega) (fun cs=>S ?_)
   obtain⟨v20,hv20,h⟩:=rb_ h
   refine ar (f:=(ao false)) hv20 SC (S ?_)
   obtain⟨v24,hv24,h⟩:=rb_ h
   refine ar (f:=(av false)) hv24 SC (S ?_)
   obtain⟨v29,hv29,h⟩:=rb_ h
   refine aj [false,false] (a2_ok _ _ _ hv29) SC (S ?_)
   refine ai cs h (fun cs h=>S ?_) (fun cs h=>S ?_)
   ·have h:=rs_ h
    refine aA ⟨_,h,?_⟩
    exact Slm_ SW
   ·cases rs_ h
    exact ag SC
  ·refine S ?_
   refine aJ cs (by omega) (fun cs=>S ?_)
   cases rs_ h
   exact ag SC
 ·cases rs_ h
  exact ag SC

theorem iiR_3{a0:Dt}  {r:Bool}(h:iiR_ a0=some r):Sat ah 146 [((av false) a0)] (B r):=by
 obtain⟨h,cs⟩:=Ro_ h
 unfold iiR_ at h
 refine au (nt:=19) (rs:=[.tmp 2]) (n:=100000) Tryz.func146 rfl rfl rfl rfl (by simp) (S ?_)
 obtain⟨v9,hv9,h⟩:=rb_ h
 refine aj [false,false] (iPO_1 hv9) SC (S ?_)
 refine ai cs h (fun cs h=>S ?_) (fun cs h=>S ?_)
 ·obtain⟨v17,hv17,h⟩:=rb_ h
  refine aj [false,false,false] (sEF_4 (fun _ _ _ hh=>iiR_2 hh) (by simp only[COn_,COc_]) hv17) SC (S ?_)
  cases rs_ h
  exact ag SC
 ·cases rs_ h
  exact ag SC

theorem ifW_2(n:Nat):(∀ (a0:Dt) (r:(List Int)×Bool),ifW_ n a0=some r→Sat ah 119 [((av false) a0)] (.tup [(.sl true 1 (r.1.map I)),(B r.2)])):=by
 induction n with
 | zero=>exact fun _ _ h=>by simp[ifW_] at h
 | succ n ih=>
  refine fun a0 r h=>?_
  obtain⟨h,cs⟩:=Ro_ h
  rw[ifW_] at h
  refine au (nt:=31) (rs:=[.tmp 2,.tmp 3]) (n:=100000) Tryz.func119 rfl rfl rfl rfl (by simp) (S ?_)
  obtain⟨v9,hv9,h⟩:=rb_ h
  refine aj [false] (iiR_3 hv9) SC (S ?_)
  refine ai cs h (fun cs h=>S ?_) (fun cs h=>S ?_)
  ·refine aN (b:=false) (sz:=12) (es:=a0.Parts.map (av false)) 13 SC fun hl13=>?_; rw[aC] at hl13
   replace h:=rl_ h
   refine aI h (fun i4 s4=>[(13,.val (.pv (.sl false 12 (a0.Parts.map (av false))))),(14,.val (.pv (I (a0.Parts.length:Int)))),(15,.val (.pv (I (i4:Int))))]) (fun i4 s4=>[]) (Slm_ SC) (fun i4 s4 hi h=>?_) (fun s4 h=>?_)
   ·have w:=ws_ (i:=i4) (by omega)
    refine S ?_
    refine aG cs (by omega) (fun cs=>S ?_)
    obtain⟨v18,hv18,h⟩:=rb_ h
    refine ar (f:=(av false)) hv18 SC (S ?_)
    obtain⟨v22,hv22,h⟩:=rb_ h
    refine aj [false] (ih _ _ hv22) SC (S ?_)
    refine ai cs h (fun cs h=>S ?_) (fun cs h=>S ?_)
    ·obtain⟨v29,hv29,h⟩:=rb_ h
     refine aQ (f:=I) (fun _=>rfl) hv29 SC SC (S ?_)
     cases rs_ h
     exact ag SC
    ·have h:=rs_ h
     refine aA ⟨_,h,?_⟩
     exact Slm_ SW
   ·refine S ?_
    refine aJ cs (by omega) (fun cs=>S ?_)
    cases rs_ h
    exact ag SC
  ·cases rs_ h
   exact ag SC
theorem ifW_3{a0:Dt}{r:(List Int)×Bool}(h:ifW_1 a0=some r):Sat ah 119 [((av false) a0)] (.tup [(.sl true 1 (r.1.map I)),(B r.2)]):=by
 obtain⟨n,hn⟩:=ls_ h
 exact(ifW_2 n) _ _ hn

theorem iFW_1{a0:Dt}  {r:(List Int)×Bool×Bool}(h:iFW_ a0=some r):Sat ah 81 [((av false) a0)] (.tup [(.sl true 1 (r.1.map I)),(B r.2.1),(B r.2.2)]):=by
 obtain⟨h,cs⟩:=Ro_ h
 unfold iFW_ at h
 refine au (nt:=17) (rs:=[.tmp 2,.tmp 3,.tmp 4]) (n:=100000) Tryz.func81 rfl rfl rfl rfl (by simp) (S ?_)
 obtain⟨v8,hv8,h⟩:=rb_ h
 refine aj [false] (irN_3 hv8) SC (S ?_)
 refine ai cs h (fun cs h=>S ?_) (fun cs h=>S ?_)
 ·cases rs_ h
  exact ag SC
 ·obtain⟨v12,hv12,h⟩:=rb_ h
  refine aj [false] (ifW_3 hv12) SC (S ?_)
  cases rs_ h
  exact ag SC

theorem iIV_11{a0:Dt}  {r:Bool}(h:iIV_4 a0=some r):Sat ah 45 [((av false) a0)] (B r):=by
 obtain⟨h,cs⟩:=Ro_ h
 unfold iIV_4 at h
 refine au (nt:=17) (rs:=[.tmp 2]) (n:=100000) Tryz.func45 rfl rfl rfl rfl (by simp) (S ?_)
 obtain⟨v8,hv8,h⟩:=rb_ h
 refine aj [false] (iFW_1 hv8) SC (S ?_)
 refine ai cs h (fun cs h=>S ?_) (fun cs h=>S ?_)
 ·cases rs_ h
  exact ag SC
 ·cases rs_ h
  exact ag SC

theorem inM_1{a0:Sa}  {r:ma}(h:inM_ a0=some r):Sat ah 55 [((ao false) a0)] ((ma.pv true) r):=by
 obtain⟨h,cs⟩:=Ro_ h
 unfold inM_ at h
 refine au (nt:=12) (rs:=[.cell 2 93]) (n:=100000) Tryz.func55 rfl rfl rfl rfl (by simp) (S ?_)
 obtain⟨n6,hn6,h⟩:=rb_ h
 refine MknH.mk hn6 (S ?_)
 obtain⟨n10,hn10,h⟩:=rb_ h
 refine MknH.mk hn10 (S ?_)
 refine ae (DHa_ [] [96,160]) (S ?_)
 cases rs_ h
 exact ag SC

theorem iDr_3{a0:Dt}{a1:List Bool}{a2:Bool}  {r:List Bool}(h:iDr_ a0 a1 a2=some r):Sat ah 89 [((av false) a0),(.sl false 1 (a1.map B)),(B a2)] (.sl true 1 (r.map B)):=by
 obtain⟨h,cs⟩:=Ro_ h
 unfold iDr_ at h
 refine au (nt:=29) (rs:=[.tmp 6]) (n:=100000) Tryz.func89 rfl rfl rfl rfl (by simp) (S ?_)
 refine aN (b:=false) (sz:=1) (es:=a1.map B) 1 SC fun hl1=>?_; rw[aC] at hl1
 replace h:=rl_ h
 refine aI h (fun i3 s3=>[(2,.val (.pv (B a2))),(3,.box (.pv ((av false) a0))),(7,.val (.own 160)),(11,.val (.pv (.sl false 1 (a1.map B)))),(12,.val (.pv (I (a1.length:Int)))),(13,.val (.pv (I (i3:Int))))]) (fun i3 s3=>[(160,(1,s3.map B))]) (Slm_ SC) (fun i3 s3 hi h=>?_) (fun s3 h=>?_)
 ·have w:=ws_ (i:=i3) (by omega)
  refine S ?_
  refine aG cs (by omega) (fun cs=>S ?_)
  obtain⟨v16,hv16,h⟩:=rb_ h
  refine ar (f:=B) hv16 SC (S ?_)
  obtain⟨v21,hv21,h⟩:=rb_ h
  refine aj [false,false,false] (iDr_4 hv21) SC (S ?_)
  refine ai cs h (fun cs h=>S ?_) (fun cs h=>S ?_)
  ·have h:=rs_ h
   refine aA ⟨_,h,?_⟩
   exact Slm_ SW
  ·obtain⟨v26,hv26,h⟩:=rb_ h
   refine aQ (f:=B) (fun _=>rfl) hv26 SC SC (S ?_)
   have h:=rs_ h
   refine aA ⟨_,h,?_⟩
   refine aT (Slm_1 (S:=[(2,.val (.pv (B a2))),(3,.box (.pv ((av false) a0))),(7,.val (.own 416)),(11,.val (.pv (.sl false 1 (a1.map B)))),(12,.val (.pv (I (a1.length:Int)))),(13,.val (.pv (I (IntKind.i64.wrap ((i3:Int)+(1:Int))))))]) (O:=[(416,(1,v26.map B))]) SW SW) ?_
   refine Slr_ 416 160 (by decide) NM ?_
   exact Slm_ SW
 ·refine S ?_
  refine aJ cs (by omega) (fun cs=>S ?_)
  cases rs_ h
  exact ag SC

theorem iDm_1{a0:Dt}{a1:ma}  {r:Bool}(h:iDm_ a0 a1=some r):Sat ah 90 [((av false) a0),((ma.pv false) a1)] (B r):=by
 obtain⟨h,cs⟩:=Ro_ h
 unfold iDm_ at h
 refine au (nt:=29) (rs:=[.tmp 4]) (n:=100000) Tryz.func90 rfl rfl rfl rfl (by simp) (S ?_)
 refine ai cs h (fun cs h=>S ?_) (fun cs h=>S ?_)
 ·cases rs_ h
  exact ag SC
 ·obtain⟨v13,hv13,h⟩:=rb_ h
  refine aj [false] (imO_1 hv13) SC (S ?_)
  refine ai cs h (fun cs h=>S ?_) (fun cs h=>S ?_)
  ·obtain⟨v21,hv21,h⟩:=rb_ h
   refine ar (f:=B) hv21 SC (S ?_)
   cases rs_ h
   exact ag SC
  ·obtain⟨v27,hv27,h⟩:=rb_ h
   refine ar (f:=B) hv27 SC (S ?_)
   cases rs_ h
   exact ag SC

theorem iDp_1{a0:Dt}{a1:ma}{a2:Int}  {r:ma}(h:iDp_ a0 a1 a2=some r):Sat ah 57 [((av false) a0),((ma.pv false) a1),(I a2)] ((ma.pv true) r):=by
 obtain⟨h,cs⟩:=Ro_ h
 unfold iDp_ at h
 refine au (nt:=58) (rs:=[.cell 6 93]) (n:=100000) Tryz.func57 rfl rfl rfl rfl (by simp) (S ?_)
 obtain⟨v12,hv12,h⟩:=rb_ h
 refine aj [false,false,false] (iDr_3 hv12) SC (S ?_)
 obtain⟨v16,hv16,h⟩:=rb_ h
 refine aj [false,false,false] (iDr_3 hv16) SC (S ?_)
 refine ae (DHa_ [7] [192,256]) (S ?_)
 obtain⟨v20,hv20,h⟩:=rb_ h
 refine aj [false,false] (iDm_1 hv20) SC (S ?_)
 replace h:=rl_ h
 refine Mg.whileN h (fun s3=>[(2,.val (.pv (I a2))),(3,.box (.pv ((av false) a0))),(6,.box (.node [(.pv (.sl true 1 [])),(.pv (.sl true 1 []))])),(7,.box (.node [(.own 192),(.own 256)])),(8,.val (.pv (B v20)))]) (fun s3=>[(192,(1,s3.map B)),(256,(1,v16.map B))]) (Slm_ SC) (fun n3 s3 h=>?_)
 refine S ?_
 obtain⟨v27,hv27,h⟩:=rb_ h
 refine ar (f:=(av false)) hv27 SC (S ?_)
 refine ae (DHa_ [] []) (S ?_)
 refine ai cs h (fun cs h=>S ?_) (fun cs h=>S ?_)
 ·obtain⟨v37,hv37,h⟩:=rb_ h
  refine aQ (f:=B) (fun _=>rfl) hv37 SC SC (S ?_)
  have h:=rs_ h
  refine aA ⟨_,h,?_⟩
  refine aT (Slm_1 (S:=[(2,.val (.pv (I a2))),(3,.box (.pv ((av false) a0))),(6,.box (.node [(.pv (.sl true 1 [])),(.pv (.sl true 1 []))])),(7,.box (.node [(.own 592),(.own 256)])),(8,.val (.pv (B v20)))]) (O:=[(592,(1,v37.map B)),(256,(1,v16.map B))]) SC SC) ?_
  refine Slr_ 592 192 (by decide) NM ?_
  exact Slm_ SC
 ·have h:=rs_ h
  replace h:=rl_ h
  refine Mg.whileN h (fun s5=>[(2,.val (.pv (I a2))),(3,.box (.pv ((av false) a0))),(6,.box (.node [(.pv (.sl true 1 [])),(.pv (.sl true 1 []))])),(7,.box (.node [(.own 192),(.own 256)])),(8,.val (.pv (B v20)))]) (fun s5=>[(192,(1,s3.map B)),(256,(1,s5.map B))]) (Slm_ SC) (fun n5 s5 h=>?_)
  refine S ?_
  obtain⟨v45,hv45,h⟩:=rb_ h
  refine ar (f:=(av false)) hv45 SC (S ?_)
  refine ae (DHa_ [] []) (S ?_)
  refine ai cs h (fun cs h=>S ?_) (fun cs h=>S ?_)
  ·obtain⟨v55,hv55,h⟩:=rb_ h
   refine aQ (f:=B) (fun _=>rfl) hv55 SC SC (S ?_)
   have h:=rs_ h
   refine aA ⟨_,h,?_⟩
   refine aT (Slm_1 (S:=[(2,.val (.pv (I a2))),(3,.box (.pv ((av false) a0))),(6,.box (.node [(.pv (.sl true 1 [])),(.pv (.sl true 1 []))])),(7,.box (.node [(.own 192),(.own 880)])),(8,.val (.pv (B v20)))]) (O:=[(192,(1,s3.map B)),(880,(1,v55.map B))]) SC SC) ?_
   refine Slr_ 880 256 (by decide) NM ?_
   exact Slm_ SC
  ·have h:=rs_ h
   cases rs_ h
   exact ag SC

theorem iDa_2{a0:Ft}{b0:Ft}  {r:Bool}(h:iDa_ a0 b0=some r):Sat ah 124 [((al false) a0),.ptr ((al false) b0)] (B r):=by
 obtain⟨h,cs⟩:=Ro_ h
 unfold iDa_ at h
 refine au (nt:=7) (rs:=[.tmp 3]) (n:=100000) Tryz.func124 rfl rfl rfl rfl (by simp) (S ?_)
 obtain⟨v6,hv6,h⟩:=rb_ h
 refine aj [false,false] (isF_3 hv6) SC (S ?_)
 cases rs_ h
 exact ag SC

theorem iDa_3{a0:Dt}{a1:ma}  {r:Sa}(h:iDa_1 a0 a1=some r):Sat ah 95 [((av false) a0),((ma.pv false) a1)] ((ao false) r):=by
 obtain⟨h,cs⟩:=Ro_ h
 unfold iDa_1 at h
 refine au (nt:=63) (rs:=[.cell 4 39]) (n:=100000) Tryz.func95 rfl rfl rfl rfl (by simp) (S ?_)
 refine ai cs h (fun cs h=>S ?_) (fun cs h=>S ?_)
 ·obtain⟨v16,hv16,h⟩:=rb_ h
  refine ar (f:=B) hv16 SC (S ?_)
  refine ai cs h (fun cs h=>S ?_) (fun cs h=>S ?_)
  ·obtain⟨v23,hv23,h⟩:=rb_ h
   refine ar (f:=(al false)) hv23 SC (S ?_)
   cases rs_ h
   exact aL SC
  ·cases rs_ h
   exact aL SC
 ·obtain⟨v33,hv33,h⟩:=rb_ h
  refine ar (f:=(al false)) hv33 SC (S ?_)
  obtain⟨v39,hv39,h⟩:=rb_ h
  refine ar (f:=B) hv39 SC (S ?_)
  refine ai cs h (fun cs h=>S ?_) (fun cs h=>S ?_)
  ·refine MfH.fr (S ?_)
   obtain⟨v48,hv48,h⟩:=rb_ h
   refine aj [false,false] (sIF_2 (fun _ _ hh=>iDa_2 hh) (by simp only[COn_,COc_]) hv48) SC (S ?_)
   refine ai cs h (fun cs h=>S ?_) (fun cs h=>S ?_)
   ·cases rs_ h
    exact aL SC
   ·obtain⟨v56,hv56,h⟩:=rb_ h
    refine ar (f:=B) hv56 SC (S ?_)
    refine ai cs h (fun cs h=>S ?_) (fun cs h=>S ?_)
    ·cases rs_ h
     exact aL SC
    ·cases rs_ h
     exact aL SC
  ·refine MfH.fr (S ?_)
   obtain⟨v48,hv48,h⟩:=rb_ h
   refine aj [false,false] (sIF_2 (fun _ _ hh=>iDa_2 hh) (by simp only[COn_,COc_]) hv48) SC (S ?_)
   refine ai cs h (fun cs h=>S ?_) (fun cs h=>S ?_)
   ·cases rs_ h
    exact aL SC
   ·obtain⟨v56,hv56,h⟩:=rb_ h
    refine ar (f:=B) hv56 SC (S ?_)
    refine ai cs h (fun cs h=>S ?_) (fun cs h=>S ?_)
    ·cases rs_ h
     exact aL SC
    ·cases rs_ h
     exact aL SC

theorem sGS_2{a1:Int}  {r:List Sa}(h:sGS_ a1=some r):Sat ah 126 [(.lit (.slice none 0 0)),(I a1)] (.sl true 2 (r.map (ao false))):=by
 obtain⟨h,cs⟩:=Ro_ h
 unfold sGS_ at h
 refine Son_ (sz:=2) (nt:=27) (rs:=[.tmp 4]) (n:=100000) Tryz.func126 rfl rfl rfl rfl (by simp) (S ?_)
 refine ai cs h (fun cs h=>S ?_) (fun cs h=>S ?_)
 ·exact rn_ h
 ·refine ai cs h (fun cs h=>S ?_) (fun cs h=>S ?_)
  ·obtain⟨n22,hn22,h⟩:=rb_ h
   refine AppzH.mk hn22 (S ?_)
   obtain⟨v25,hv25,h⟩:=rb_ h
   refine SlcOH.mk (f:=(ao true)) hv25 SC ?_
   obtain rfl:=sn_4 hv25
   refine S ?_
   refine S ?_
   cases rs_ h
   exact ag SC
  ·cases rs_ h
   exact ag SC

theorem sCS_7{a0:List (List Sa)}  {r:List Sa}(h:sCS_2 a0=some r):Sat ah 96 [(.sl false 1 (a0.map (Lv false 2 (ao false))))] (.sl true 2 (r.map (ao false))):=by
 obtain⟨h,cs⟩:=Ro_ h
 unfold sCS_2 at h
 refine au (nt:=36) (rs:=[.tmp 2]) (n:=100000) Tryz.func96 rfl rfl rfl rfl (by simp) (S ?_)
 refine aN (b:=false) (sz:=1) (es:=a0.map (Lv false 2 (ao false))) 0 SC fun hl0=>?_; rw[aC] at hl0
 replace h:=rl_ h
 refine aI h (fun i3 s3=>[(0,.val (.pv (.sl false 1 (a0.map (Lv false 2 (ao false)))))),(3,.val (.pv (I s3))),(9,.val (.pv (.sl false 1 (a0.map (Lv false 2 (ao false)))))),(10,.val (.pv (I (a0.length:Int)))),(11,.val (.pv (I (i3:Int))))]) (fun i3 s3=>[]) (Slm_ SC) (fun i3 s3 hi h=>?_) (fun s3 h=>?_)
 ·have w:=ws_ (i:=i3) (by omega)
  refine S ?_
  refine aG cs (by omega) (fun cs=>S ?_)
  obtain⟨v13,hv13,h⟩:=rb_ h
  refine ar (f:=(Lv false 2 (ao false))) hv13 SC (S ?_)
  refine ai cs h (fun cs h=>S ?_) (fun cs h=>S ?_)
  ·exact rn_ h
  ·have h:=rs_ h
   refine aA ⟨_,h,?_⟩
   exact Slm_ SW
 ·refine S ?_
  refine aJ cs (by omega) (fun cs=>S ?_)
  obtain⟨v24,hv24,h⟩:=rb_ h
  refine CHn_ (h:=sGS_2 hv24) (by refine S ?_; exact NM) (S ?_)
  refine aN (b:=false) (sz:=1) (es:=a0.map (Lv false 2 (ao false))) 0 SC fun hl0=>?_; rw[aC] at hl0
  replace h:=rl_ h
  refine aI h (fun i11 s11=>[(6,.val (.own 384)),(25,.val (.pv (.sl false 1 (a0.map (Lv false 2 (ao false)))))),(26,.val (.pv (I (a0.length:Int)))),(27,.val (.pv (I (i11:Int))))]) (fun i11 s11=>[(384,(2,s11.map (ao false)))]) (Slm_ SC) (fun i11 s11 hi h=>?_) (fun s11 h=>?_)
  ·have w:=ws_ (i:=i11) (by omega)
   refine S ?_
   refine aG cs (by omega) (fun cs=>S ?_)
   obtain⟨v29,hv29,h⟩:=rb_ h
   refine ar (f:=(Lv false 2 (ao false))) hv29 SC (S ?_)
   obtain⟨v33,hv33,h⟩:=rb_ h
   refine aQ (f:=(ao false)) (fun a=>Sa.psize _ a) hv33 SC SC (S ?_)
   have h:=rs_ h
   refine aA ⟨_,h,?_⟩
   refine aT (Slm_1 (S:=[(6,.val (.own 528)),(25,.val (.pv (.sl false 1 (a0.map (Lv false 2 (ao false)))))),(26,.val (.pv (I (a0.length:Int)))),(27,.val (.pv (I (IntKind.i64.wrap ((i11:Int)+(1:Int))))))]) (O:=[(528,(2,v33.map (ao false)))]) SW SW) ?_
   refine Slr_ 528 384 (by decide) NM ?_
   exact Slm_ SW
  ·refine S ?_
   cases rs_ h
   exact ag SC

theorem iaS_3{a0:Sa}{b0:Sa}  {r:Bool}(h:iaS_1 a0 b0=some r):Sat ah 127 [((ao false) a0),.ptr ((ao false) b0)] (B r):=by
 obtain⟨h,cs⟩:=Ro_ h
 unfold iaS_1 at h
 refine au (nt:=7) (rs:=[.tmp 3]) (n:=100000) Tryz.func127 rfl rfl rfl rfl (by simp) (S ?_)
 obtain⟨v6,hv6,h⟩:=rb_ h
 refine aj [false,false] (isS_1 hv6) SC (S ?_)
 cases rs_ h
 exact ag SC

theorem sIF_4{a0:List Sa}{a1:Sa→Option Bool}{a1_id:FuncId}{a1_cs:List PV}(a1_ok:∀ y0 r,a1 y0=some r→Sat ah a1_id (((ao false) y0)::a1_cs) (B r))(a1_cz:CapsOk a1_cs=True){r:Int}(h:sIF_1 a0 a1=some r):Sat ah 130 [(.sl false 2 (a0.map (ao false))),.clo a1_id a1_cs] (I r):=by
 obtain⟨h,cs⟩:=Ro_ h
 unfold sIF_1 at h
 have cs:=ae a1_cz cs
 refine au (nt:=19) (rs:=[.tmp 4]) (n:=100000) Tryz.func130 rfl rfl rfl rfl (by simp) (S ?_)
 refine aN (b:=false) (sz:=2) (es:=a0.map (ao false)) 0 SC fun hl0=>?_; rw[aC] at hl0
 replace h:=rl_ h
 refine aI h (fun i2 s2=>[(0,.val (.pv (.sl false 2 (a0.map (ao false))))),(1,.val (.pv (.clo a1_id a1_cs))),(7,.val (.pv (I (a0.length:Int)))),(8,.val (.pv (I (i2:Int))))]) (fun i2 s2=>[]) (Slm_ SC) (fun i2 s2 hi h=>?_) (fun s2 h=>?_)
 ·have w:=ws_ (i:=i2) (by omega)
  refine S ?_
  refine aG cs (by omega) (fun cs=>S ?_)
  obtain⟨v14,hv14,h⟩:=rb_ h
  refine ar (f:=(ao false)) hv14 SC (S ?_)
  obtain⟨v16,hv16,h⟩:=rb_ h
  refine aj [false] (a1_ok _ _ hv16) SC (S ?_)
  refine ai cs h (fun cs h=>S ?_) (fun cs h=>S ?_)
  ·cases rs_ h
   exact ag SC
  ·have h:=rs_ h
   refine aA ⟨_,h,?_⟩
   exact Slm_ SW
 ·refine S ?_
  refine aJ cs (by omega) (fun cs=>S ?_)
  cases rs_ h
  exact ag SC

theorem sCF_3{a0:List Sa}{a1:Sa→Option Bool}{a1_id:FuncId}{a1_cs:List PV}(a1_ok:∀ y0 r,a1 y0=some r→Sat ah a1_id (((ao false) y0)::a1_cs) (B r))(a1_cz:CapsOk a1_cs=True){r:Bool}(h:sCF_2 a0 a1=some r):Sat ah 99 [(.sl false 2 (a0.map (ao false))),.clo a1_id a1_cs] (B r):=by
 obtain⟨h,cs⟩:=Ro_ h
 unfold sCF_2 at h
 have cs:=ae a1_cz cs
 refine au (nt:=9) (rs:=[.tmp 4]) (n:=100000) Tryz.func99 rfl rfl rfl rfl (by simp) (S ?_)
 obtain⟨v7,hv7,h⟩:=rb_ h
 refine aj [false,false] (sIF_4 a1_ok a1_cz hv7) SC (S ?_)
 cases rs_ h
 exact ag SC

theorem iaS_2{a0:List Sa}{a1:Sa}  {r:List Sa}(h:iaS_ a0 a1=some r):Sat ah 97 [(.sl true 2 (a0.map (ao false))),((ao false) a1)] (.sl true 2 (r.map (ao false))):=by
 obtain⟨h,cs⟩:=Ro_ h
 unfold iaS_ at h
 refine au (nt:=13) (rs:=[.tmp 4]) (n:=100000) Tryz.func97 rfl rfl rfl rfl (by simp) (S ?_)
 refine MfH.fr (S ?_)
 obtain⟨v7,hv7,h⟩:=rb_ h
 refine aj [false,false] (sCF_3 (fun _ _ hh=>iaS_3 hh) (by simp only[COn_,COc_]) hv7) SC (S ?_)
 refine ai cs h (fun cs h=>S ?_) (fun cs h=>S ?_)
 ·cases rs_ h
  exact ag SC
 ·obtain⟨v12,hv12,h⟩:=rb_ h
  refine aQ (f:=(ao false)) (fun a=>Sa.psize _ a) hv12 SC SC (S ?_)
  cases rs_ h
  exact ag SC

theorem iDc_2{a0:Sa}  {r:Bool}(h:iDc_1 a0=some r):Sat ah 100 [((ao false) a0)] (B r):=by
 obtain⟨h,cs⟩:=Ro_ h
 unfold iDc_1 at h
 refine au (nt:=6) (rs:=[.tmp 2]) (n:=100000) Tryz.func100 rfl rfl rfl rfl (by simp) (S ?_)
 obtain⟨v4,hv4,h⟩:=rb_ h
 refine aj [false] (iIV_8 hv4) SC (S ?_)
 cases rs_ h
 exact ag SC

theorem iDc_4(n:Nat):(∀ (a0:Dt) (a1:ma) (r:(List Sa)×Bool),iDc_ n a0 a1=some r→Sat ah 59 [((av false) a0),((ma.pv false) a1)] (.tup [(.sl false 2 (r.1.map (ao false))),(B r.2)])):=by
 induction n with
 | zero=>exact fun _ _ _ h=>by simp[iDc_] at h
 | succ n ih=>
  refine fun a0 a1 r h=>?_
  obtain⟨h,cs⟩:=Ro_ h
  rw[iDc_] at h
  refine au (nt:=124) (rs:=[.tmp 4,.tmp 5]) (n:=100000) Tryz.func59 rfl rfl rfl rfl (by simp) (S ?_)
  refine aN (b:=false) (sz:=12) (es:=a0.Parts.map (av false)) 20 SC fun hl20=>?_; rw[aC] at hl20
  replace h:=rl_ h
  refine aI h (fun i3 s3=>[(2,.box (.pv ((av false) a0))),(3,.box (.pv ((ma.pv false) a1))),(6,.val (.own 288)),(20,.val (.pv (.sl false 12 (a0.Parts.map (av false))))),(21,.val (.pv (I (a0.Parts.length:Int)))),(22,.val (.pv (I (i3:Int))))]) (fun i3 s3=>[(288,(1,s3.map (Lv false 2 (ao false))))]) (Slm_ SC) (fun i3 s3 hi h=>?_) (fun s3 h=>?_)
  ·have w:=ws_ (i:=i3) (by omega)
   refine S ?_
   refine aG cs (by omega) (fun cs=>S ?_)
   obtain⟨v25,hv25,h⟩:=rb_ h
   refine ar (f:=(av false)) hv25 SC (S ?_)
   obtain⟨v32,hv32,h⟩:=rb_ h
   refine aj [false,false,false] (iDp_1 hv32) SC (S ?_)
   obtain⟨v33,hv33,h⟩:=rb_ h
   refine aj [false,true] (bA (args:=[((av false) v25),(.agg [(.sl true 1 (v32.left.map B)),(.sl true 1 (v32.right.map B))])]) [false,true] (by have gg:=ih _ _ _ hv33; simp only[gv_t,gv_f,gv_n,vs_,va_,vl_,vrB_,vrI_,aF,RB,RS] at gg ⊢; exact gg)) SC (S ?_)
   refine ae (DHa_ [] [512,513]) (S ?_)
   refine ai cs h (fun cs h=>S ?_) (fun cs h=>S ?_)
   ·obtain⟨v41,hv41,h⟩:=rb_ h
    refine aQ (f:=(Lv false 2 (ao false))) (fun _=>rfl) hv41 SC SC (S ?_)
    have h:=rs_ h
    refine aA ⟨_,h,?_⟩
    refine aT (Slm_1 (S:=[(2,.box (.pv ((av false) a0))),(3,.box (.pv ((ma.pv false) a1))),(6,.val (.own 656)),(20,.val (.pv (.sl false 12 (a0.Parts.map (av false))))),(21,.val (.pv (I (a0.Parts.length:Int)))),(22,.val (.pv (I (IntKind.i64.wrap ((i3:Int)+(1:Int))))))]) (O:=[(656,(1,v41.map (Lv false 2 (ao false))))]) SW SW) ?_
    refine Slr_ 656 288 (by decide) NM ?_
    exact Slm_ SW
   ·cases rs_ h
    exact aL SC
  ·refine S ?_
   refine aJ cs (by omega) (fun cs=>S ?_)
   refine ai cs h (fun cs h=>S ?_) (fun cs h=>S ?_)
   ·obtain⟨v84,hv84,h⟩:=rb_ h
    refine aj [false,false] (iDa_3 hv84) SC (S ?_)
    obtain⟨v86,hv86,h⟩:=rb_ h
    refine aQ (f:=(ao false)) (fun a=>Sa.psize _ a) hv86 SC SC (S ?_)
    refine ai cs h (fun cs h=>S ?_) (fun cs h=>S ?_)
    ·obtain⟨v121,hv121,h⟩:=rb_ h
     refine aj [false,false] (sCF_3 (fun _ _ hh=>iDc_2 hh) (by simp only[COn_,COc_]) hv121) SC (S ?_)
     cases rs_ h
     exact aL SC
    ·cases rs_ h
     exact aL SC
   ·refine ai cs h (fun cs h=>S ?_) (fun cs h=>S ?_)
    ·obtain⟨v92,hv92,h⟩:=rb_ h
     refine ar (f:=(Lv false 2 (ao false))) hv92 SC (S ?_)
     obtain⟨v93,hv93,h⟩:=rb_ h
     refine bp (f:=(Lv false 2 (ao false))) hv93 rfl SC (S ?_)
     refine ai cs h (fun cs h=>S ?_) (fun cs h=>S ?_)
     ·obtain⟨v121,hv121,h⟩:=rb_ h
      refine aj [false,false] (sCF_3 (fun _ _ hh=>iDc_2 hh) (by simp only[COn_,COc_]) hv121) SC (S ?_)
      cases rs_ h
      exact aL SC
     ·cases rs_ h
      exact aL SC
    ·obtain⟨v97,hv97,h⟩:=rb_ h
     refine aj [false,false] (iDm_1 hv97) SC (S ?_)
     refine ai cs h (fun cs h=>S ?_) (fun cs h=>S ?_)
     ·obtain⟨v99,hv99,h⟩:=rb_ h
      refine ar (f:=(Lv false 2 (ao false))) hv99 SC (S ?_)
      obtain⟨v100,hv100,h⟩:=rb_ h
      refine bp (f:=(Lv false 2 (ao false))) hv100 rfl SC (S ?_)
      obtain⟨v102,hv102,h⟩:=rb_ h
      refine ar (f:=(Lv false 2 (ao false))) hv102 SC (S ?_)
      obtain⟨v103,hv103,h⟩:=rb_ h
      refine bp (f:=(Lv false 2 (ao false))) hv103 rfl SC (S ?_)
      obtain⟨v105,hv105,h⟩:=rb_ h
      refine aj [true] (bA (args:=[(.sl true 1 (([v100,v103]).map (Lv false 2 (ao false))))]) [true] (by have gg:=sCS_7 hv105; simp only[gv_t,gv_f,gv_n,vs_,va_,vl_,vrB_,vrI_,aF,RB,RS] at gg ⊢; exact gg)) SC (S ?_)
      refine ae (DHa_ [] [1664,1680]) (S ?_)
      refine Mg.know_own (sz:=2) (es:=v105.map (ao false)) 1680 SC fun hl1680=>?_; rw[aC] at hl1680
      replace h:=rl_ h
      refine aI h (fun i26 s26=>[(11,.val (.own 688)),(105,.val (.own 1680)),(106,.val (.pv (I (v105.length:Int)))),(107,.val (.pv (I (i26:Int))))]) (fun i26 s26=>[(688,(2,s26.map (ao false))),(1680,(2,v105.map (ao false)))]) (Slm_ SC) (fun i26 s26 hi h=>?_) (fun s26 h=>?_)
      ·have w:=ws_ (i:=i26) (by omega)
       refine S ?_
       refine aG cs (by omega) (fun cs=>S ?_)
       obtain⟨v109,hv109,h⟩:=rb_ h
       refine ar (f:=(ao false)) hv109 SC (S ?_)
       obtain⟨v110,hv110,h⟩:=rb_ h
       refine bp (f:=(ao false)) hv110 rfl SC (S ?_)
       obtain⟨v113,hv113,h⟩:=rb_ h
       refine aj [true,false] (iaS_2 hv113) SC (S ?_)
       have h:=rs_ h
       refine aA ⟨_,h,?_⟩
       refine aT (Slm_1 (S:=[(11,.val (.own 1808)),(105,.val (.own 1680)),(106,.val (.pv (I (v105.length:Int)))),(107,.val (.pv (I (IntKind.i64.wrap ((i26:Int)+(1:Int))))))]) (O:=[(1808,(2,v113.map (ao false))),(1680,(2,v105.map (ao false)))]) SW SW) ?_
       refine Slr_ 1808 688 (by decide) NM ?_
       exact Slm_ SW
      ·refine S ?_
       refine aJ cs (by omega) (fun cs=>S ?_)
       refine ai cs h (fun cs h=>S ?_) (fun cs h=>S ?_)
       ·obtain⟨v121,hv121,h⟩:=rb_ h
        refine aj [false,false] (sCF_3 (fun _ _ hh=>iDc_2 hh) (by simp only[COn_,COc_]) hv121) SC (S ?_)
        cases rs_ h
        exact aL SC
       ·cases rs_ h
        exact aL SC
     ·obtain⟨v45,hv45,h⟩:=rb_ h
      refine ar (f:=(Lv false 2 (ao false))) hv45 SC (S ?_)
      obtain⟨v46,hv46,h⟩:=rb_ h
      refine bp (f:=(Lv false 2 (ao false))) hv46 rfl SC (S ?_)
      refine aN (b:=false) (sz:=2) (es:=v46.map (ao false)) 46 SC fun hl46=>?_; rw[aC] at hl46
      replace h:=rl_ h
      refine aI h (fun i12 s12=>[(6,.val (.own 288)),(11,.val (.own 688)),(46,.val (.pv (.sl false 2 (v46.map (ao false))))),(47,.val (.pv (I (v46.length:Int)))),(48,.val (.pv (I (i12:Int))))]) (fun i12 s12=>[(288,(1,s3.map (Lv false 2 (ao false)))),(688,(2,s12.map (ao false)))]) (Slm_ SC) (fun i12 s12 hi h=>?_) (fun s12 h=>?_)
      ·have w:=ws_ (i:=i12) (by omega)
       refine S ?_
       refine aG cs (by omega) (fun cs=>S ?_)
       obtain⟨v50,hv50,h⟩:=rb_ h
       refine ar (f:=(ao false)) hv50 SC (S ?_)
       obtain⟨v53,hv53,h⟩:=rb_ h
       refine ar (f:=(Lv false 2 (ao false))) hv53 SC (S ?_)
       obtain⟨v54,hv54,h⟩:=rb_ h
       refine bp (f:=(Lv false 2 (ao false))) hv54 rfl SC (S ?_)
       refine aN (b:=false) (sz:=2) (es:=v54.map (ao false)) 54 SC fun hl54=>?_; rw[aC] at hl54
       replace h:=rl_ h
       refine aI h (fun i15 s15=>[(6,.val (.own 288)),(11,.val (.own 688)),(15,.box (.pv ((ao false) v50))),(46,.val (.pv (.sl false 2 (v46.map (ao false))))),(47,.val (.pv (I (v46.length:Int)))),(48,.val (.pv (I (i12:Int)))),(54,.val (.pv (.sl false 2 (v54.map (ao false))))),(55,.val (.pv (I (v54.length:Int)))),(56,.val (.pv (I (i15:Int))))]) (fun i15 s15=>[(288,(1,s3.map (Lv false 2 (ao false)))),(688,(2,s15.map (ao false)))]) (Slm_ SC) (fun i15 s15 hi h=>?_) (fun s15 h=>?_)
       ·have w:=ws_ (i:=i15) (by omega)
        refine S ?_
        refine aG cs (by omega) (fun cs=>S ?_)
        obtain⟨v58,hv58,h⟩:=rb_ h
        refine ar (f:=(ao false)) hv58 SC (S ?_)
        obtain⟨v66,hv66,h⟩:=rb_ h
        refine aj [true] (bA (args:=[(.sl true 1 (([v50.Left,v58.Left]).map (Lv false 5 (al false))))]) [true] (by have gg:=sCS_4 hv66; simp only[gv_t,gv_f,gv_n,vs_,va_,vl_,vrB_,vrI_,aF,RB,RS] at gg ⊢; exact gg)) SC (S ?_)
        obtain⟨v72,hv72,h⟩:=rb_ h
        refine aj [true] (bA (args:=[(.sl true 1 (([v50.Right,v58.Right]).map (Lv false 5 (al false))))]) [true] (by have gg:=sCS_4 hv72; simp only[gv_t,gv_f,gv_n,vs_,va_,vl_,vrB_,vrI_,aF,RB,RS] at gg ⊢; exact gg)) SC (S ?_)
        obtain⟨v74,hv74,h⟩:=rb_ h
        refine aj [true,true] (bA (args:=[(.sl true 2 (s15.map (ao false))),(.agg [(.sl true 5 (v66.map (al false))),(.sl true 5 (v72.map (al false)))])]) [false,true] (by have gg:=iaS_2 hv74; simp only[gv_t,gv_f,gv_n,vs_,va_,vl_,vrB_,vrI_,aF,RB,RS] at gg ⊢; exact gg)) SC (S ?_)
        refine ae (DHa_ [] [1040,1056,1136,1152,1184]) (S ?_)
        have h:=rs_ h
        refine aA ⟨_,h,?_⟩
        refine aT (Slm_1 (S:=[(6,.val (.own 288)),(11,.val (.own 1184)),(15,.box (.pv ((ao false) v50))),(46,.val (.pv (.sl false 2 (v46.map (ao false))))),(47,.val (.pv (I (v46.length:Int)))),(48,.val (.pv (I (i12:Int)))),(54,.val (.pv (.sl false 2 (v54.map (ao false))))),(55,.val (.pv (I (v54.length:Int)))),(56,.val (.pv (I (IntKind.i64.wrap ((i15:Int)+(1:Int))))))]) (O:=[(288,(1,s3.map (Lv false 2 (ao false)))),(1184,(2,v74.map (ao false)))]) SW SW) ?_
        refine Slr_ 1184 688 (by decide) NM ?_
        exact Slm_ SW
       ·refine S ?_
        refine aJ cs (by omega) (fun cs=>S ?_)
        have h:=rs_ h
        refine aA ⟨_,h,?_⟩
        exact Slm_ SW
      ·refine S ?_
       refine aJ cs (by omega) (fun cs=>S ?_)
       refine ai cs h (fun cs h=>S ?_) (fun cs h=>S ?_)
       ·obtain⟨v121,hv121,h⟩:=rb_ h
        refine aj [false,false] (sCF_3 (fun _ _ hh=>iDc_2 hh) (by simp only[COn_,COc_]) hv121) SC (S ?_)
        cases rs_ h
        exact aL SC
       ·cases rs_ h
        exact aL SC
theorem iDc_5{a0:Dt}{a1:ma}{r:(List Sa)×Bool}(h:iDc_3 a0 a1=some r):Sat ah 59 [((av false) a0),((ma.pv false) a1)] (.tup [(.sl false 2 (r.1.map (ao false))),(B r.2)]):=by
 obtain⟨n,hn⟩:=ls_ h
 exact(iDc_4 n) _ _ _ hn

theorem iCS_1{a0:Dt}  {r:(List Sa)×Bool}(h:iCS_ a0=some r):Sat ah 24 [((av false) a0)] (.tup [(.sl true 2 (r.1.map (ao true))),(B r.2)]):=by
 obtain⟨h,cs⟩:=Ro_ h
 unfold iCS_ at h
 refine au (nt:=36) (rs:=[.tmp 2,.tmp 3]) (n:=100000) Tryz.func24 rfl rfl rfl rfl (by simp) (S ?_)
 obtain⟨v10,hv10,h⟩:=rb_ h
 refine aj [false] (iIV_11 hv10) SC (S ?_)
 refine ai cs h (fun cs h=>S ?_) (fun cs h=>S ?_)
 ·obtain⟨v16,hv16,h⟩:=rb_ h
  refine aj [false] (inM_1 hv16) SC (S ?_)
  obtain⟨v17,hv17,h⟩:=rb_ h
  refine aj [false,true] (bA (args:=[((av false) a0),(.agg [(.sl true 1 (v16.left.map B)),(.sl true 1 (v16.right.map B))])]) [false,true] (by have gg:=iDc_5 hv17; simp only[gv_t,gv_f,gv_n,vs_,va_,vl_,vrB_,vrI_,aF,RB,RS] at gg ⊢; exact gg)) SC (S ?_)
  refine ae (DHa_ [] [256,257]) (S ?_)
  refine ai cs h (fun cs h=>S ?_) (fun cs h=>S ?_)
  ·refine aN (b:=false) (sz:=2) (es:=v17.1.map (ao false)) 4 SC fun hl4=>?_; rw[aC] at hl4
   replace h:=rl_ h
   refine aI h (fun i8 s8=>[(6,.val (.own 352)),(23,.val (.pv (.sl false 2 (v17.1.map (ao false))))),(24,.val (.pv (I (v17.1.length:Int)))),(25,.val (.pv (I (i8:Int))))]) (fun i8 s8=>[(352,(2,s8.map (ao true)))]) (Slm_ SC) (fun i8 s8 hi h=>?_) (fun s8 h=>?_)
   ·have w:=ws_ (i:=i8) (by omega)
    refine S ?_
    refine aG cs (by omega) (fun cs=>S ?_)
    obtain⟨v27,hv27,h⟩:=rb_ h
    refine ar (f:=(ao false)) hv27 SC (S ?_)
    obtain⟨v31,hv31,h⟩:=rb_ h
    refine aj [false] (icS_1 hv31) SC (S ?_)
    obtain⟨v33,hv33,h⟩:=rb_ h
    refine aQ (f:=(ao true)) (fun a=>Sa.psize _ a) hv33 SC SC (S ?_)
    have h:=rs_ h
    refine aA ⟨_,h,?_⟩
    refine aT (Slm_1 (S:=[(6,.val (.own 528)),(23,.val (.pv (.sl false 2 (v17.1.map (ao false))))),(24,.val (.pv (I (v17.1.length:Int)))),(25,.val (.pv (I (IntKind.i64.wrap ((i8:Int)+(1:Int))))))]) (O:=[(528,(2,v33.map (ao true)))]) SW SW) ?_
    refine Slr_ 528 352 (by decide) NM ?_
    exact Slm_ SW
   ·refine S ?_
    refine aJ cs (by omega) (fun cs=>S ?_)
    cases rs_ h
    exact ag SC
  ·cases rs_ h
   exact ag SC
 ·cases rs_ h
  exact ag SC

theorem eTN_1(n:Nat):(∀ (a0:Tt) (a1:Tt) (r:Bool),eTN_ n a0 a1=some r→Sat ah 48 [((am false) a0),((am false) a1)] (B r))∧(∀ (a0:List Tt) (a1:List Tt) (r:Bool),eTS_ n a0 a1=some r→Sat ah 83 [(.sl false 2 (a0.map (am false))),(.sl false 2 (a1.map (am false)))] (B r)):=by
 induction n with
 | zero=>exact⟨fun _ _ _ h=>by simp[eTN_] at h,fun _ _ _ h=>by simp[eTS_] at h⟩
 | succ n ih=>
  refine⟨fun a0 a1 r h=>?_,fun a0 a1 r h=>?_⟩
  ·obtain⟨h,cs⟩:=Ro_ h
   rw[eTN_] at h
   refine au (nt:=16) (rs:=[.tmp 4]) (n:=100000) Tryz.func48 rfl rfl rfl rfl (by simp) (S ?_)
   refine ai cs h (fun cs h=>S ?_) (fun cs h=>S ?_)
   ·obtain⟨v14,hv14,h⟩:=rb_ h
    refine aj [false,false] (ih.2 _ _ _ hv14) SC (S ?_)
    refine ai cs h (fun cs h=>S ?_) (fun cs h=>S ?_)
    ·cases rs_ h
     exact ag SC
    ·cases rs_ h
     exact ag SC
   ·cases rs_ h
    exact ag SC
  ·obtain⟨h,cs⟩:=Ro_ h
   rw[eTS_] at h
   refine au (nt:=27) (rs:=[.tmp 4]) (n:=100000) Tryz.func83 rfl rfl rfl rfl (by simp) (S ?_)
   refine ai cs h (fun cs h=>S ?_) (fun cs h=>S ?_)
   ·refine aN (b:=false) (sz:=2) (es:=a0.map (am false)) 0 SC fun hl0=>?_; rw[aC] at hl0
    replace h:=rl_ h
    refine aI h (fun i4 s4=>[(0,.val (.pv (.sl false 2 (a0.map (am false))))),(1,.val (.pv (.sl false 2 (a1.map (am false))))),(5,.val (.pv (I (i4:Int))))]) (fun i4 s4=>[]) (Slm_ SC) (fun i4 s4 hi h=>?_) (fun s4 h=>?_)
    ·have w:=ws_ (i:=i4) (by omega)
     refine S ?_
     refine aG cs (by omega) (fun cs=>S ?_)
     obtain⟨v19,hv19,h⟩:=rb_ h
     refine ar (f:=(am false)) hv19 SC (S ?_)
     obtain⟨v23,hv23,h⟩:=rb_ h
     refine ar (f:=(am false)) hv23 SC (S ?_)
     obtain⟨v25,hv25,h⟩:=rb_ h
     refine aj [false,false] (ih.1 _ _ _ hv25) SC (S ?_)
     refine ae (DHa_ [] []) (S ?_)
     refine ai cs h (fun cs h=>S ?_) (fun cs h=>S ?_)
     ·have h:=rs_ h
      refine aA ⟨_,h,?_⟩
      exact Slm_ SW
     ·cases rs_ h
      exact ag SC
    ·refine S ?_
     refine aJ cs (by omega) (fun cs=>S ?_)
     cases rs_ h
     exact ag SC
   ·cases rs_ h
    exact ag SC
theorem eTs_{a0:Tt}{a1:Tt}{r:Bool}(h:eqTerm a0 a1=some r):Sat ah 48 [((am false) a0),((am false) a1)] (B r):=by
 obtain⟨n,hn⟩:=ls_ h
 exact(eTN_1 n).1 _ _ _ hn
theorem eTS_1{a0:List Tt}{a1:List Tt}{r:Bool}(h:eTS_2 a0 a1=some r):Sat ah 83 [(.sl false 2 (a0.map (am false))),(.sl false 2 (a1.map (am false)))] (B r):=by
 obtain⟨n,hn⟩:=ls_ h
 exact(eTN_1 n).2 _ _ _ hn

theorem eFN_2(n:Nat):(∀ (a0:Ft) (a1:Ft) (r:Bool),eFN_ n a0 a1=some r→Sat ah 32 [((al false) a0),((al false) a1)] (B r))∧(∀ (a0:List Ft) (a1:List Ft) (r:Bool),eFS_ n a0 a1=some r→Sat ah 67 [(.sl false 5 (a0.map (al false))),(.sl false 5 (a1.map (al false)))] (B r)):=by
 induction n with
 | zero=>exact⟨fun _ _ _ h=>by simp[eFN_] at h,fun _ _ _ h=>by simp[eFS_] at h⟩
 | succ n ih=>
  refine⟨fun a0 a1 r h=>?_,fun a0 a1 r h=>?_⟩
  ·obtain⟨h,cs⟩:=Ro_ h
   rw[eFN_] at h
   refine au (nt:=27) (rs:=[.tmp 4]) (n:=100000) Tryz.func32 rfl rfl rfl rfl (by simp) (S ?_)
   refine ai cs h (fun cs h=>S ?_) (fun cs h=>S ?_)
   ·obtain⟨v14,hv14,h⟩:=rb_ h
    refine aj [false,false] (eTs_ hv14) SC (S ?_)
    refine ai cs h (fun cs h=>S ?_) (fun cs h=>S ?_)
    ·refine ai cs h (fun cs h=>S ?_) (fun cs h=>S ?_)
     ·obtain⟨v25,hv25,h⟩:=rb_ h
      refine aj [false,false] (ih.2 _ _ _ hv25) SC (S ?_)
      refine ai cs h (fun cs h=>S ?_) (fun cs h=>S ?_)
      ·cases rs_ h
       exact ag SC
      ·cases rs_ h
       exact ag SC
     ·cases rs_ h
      exact ag SC
    ·cases rs_ h
     exact ag SC
   ·cases rs_ h
    exact ag SC
  ·obtain⟨h,cs⟩:=Ro_ h
   rw[eFS_] at h
   refine au (nt:=27) (rs:=[.tmp 4]) (n:=100000) Tryz.func67 rfl rfl rfl rfl (by simp) (S ?_)
   refine ai cs h (fun cs h=>S ?_) (fun cs h=>S ?_)
   ·refine aN (b:=false) (sz:=5) (es:=a0.map (al false)) 0 SC fun hl0=>?_; rw[aC] at hl0
    replace h:=rl_ h
    refine aI h (fun i4 s4=>[(0,.val (.pv (.sl false 5 (a0.map (al false))))),(1,.val (.pv (.sl false 5 (a1.map (al false))))),(5,.val (.pv (I (i4:Int))))]) (fun i4 s4=>[]) (Slm_ SC) (fun i4 s4 hi h=>?_) (fun s4 h=>?_)
    ·have w:=ws_ (i:=i4) (by omega)
     refine S ?_
     refine aG cs (by omega) (fun cs=>S ?_)
     obtain⟨v19,hv19,h⟩:=rb_ h
     refine ar (f:=(al false)) hv19 SC (S ?_)
     obtain⟨v23,hv23,h⟩:=rb_ h
     refine ar (f:=(al false)) hv23 SC (S ?_)
     obtain⟨v25,hv25,h⟩:=rb_ h
     refine aj [false,false] (ih.1 _ _ _ hv25) SC (S ?_)
     refine ae (DHa_ [] []) (S ?_)
     refine ai cs h (fun cs h=>S ?_) (fun cs h=>S ?_)
     ·have h:=rs_ h
      refine aA ⟨_,h,?_⟩
      exact Slm_ SW
     ·cases rs_ h
      exact ag SC
    ·refine S ?_
     refine aJ cs (by omega) (fun cs=>S ?_)
     cases rs_ h
     exact ag SC
   ·cases rs_ h
    exact ag SC
theorem eFs_{a0:Ft}{a1:Ft}{r:Bool}(h:eF_ a0 a1=some r):Sat ah 32 [((al false) a0),((al false) a1)] (B r):=by
 obtain⟨n,hn⟩:=ls_ h
 exact(eFN_2 n).1 _ _ _ hn
theorem eFS_3{a0:List Ft}{a1:List Ft}{r:Bool}(h:eFS_2 a0 a1=some r):Sat ah 67 [(.sl false 5 (a0.map (al false))),(.sl false 5 (a1.map (al false)))] (B r):=by
 obtain⟨n,hn⟩:=ls_ h
 exact(eFN_2 n).2 _ _ _ hn

theorem eSs_{a0:Sa}{a1:Sa}  {r:Bool}(h:eS_ a0 a1=some r):Sat ah 47 [((ao false) a0),((ao false) a1)] (B r):=by
 obtain⟨h,cs⟩:=Ro_ h
 unfold eS_ at h
 refine au (nt:=17) (rs:=[.tmp 4]) (n:=100000) Tryz.func47 rfl rfl rfl rfl (by simp) (S ?_)
 obtain⟨v9,hv9,h⟩:=rb_ h
 refine aj [false,false] (eFS_3 hv9) SC (S ?_)
 refine ai cs h (fun cs h=>S ?_) (fun cs h=>S ?_)
 ·obtain⟨v15,hv15,h⟩:=rb_ h
  refine aj [false,false] (eFS_3 hv15) SC (S ?_)
  refine ai cs h (fun cs h=>S ?_) (fun cs h=>S ?_)
  ·cases rs_ h
   exact ag SC
  ·cases rs_ h
   exact ag SC
 ·cases rs_ h
  exact ag SC

theorem eSS_1{a0:List Sa}{a1:List Sa}  {r:Bool}(h:eSS_ a0 a1=some r):Sat ah 25 [(.sl false 2 (a0.map (ao false))),(.sl false 2 (a1.map (ao false)))] (B r):=by
 obtain⟨h,cs⟩:=Ro_ h
 unfold eSS_ at h
 refine au (nt:=27) (rs:=[.tmp 4]) (n:=100000) Tryz.func25 rfl rfl rfl rfl (by simp) (S ?_)
 refine ai cs h (fun cs h=>S ?_) (fun cs h=>S ?_)
 ·refine aN (b:=false) (sz:=2) (es:=a0.map (ao false)) 0 SC fun hl0=>?_; rw[aC] at hl0
  replace h:=rl_ h
  refine aI h (fun i4 s4=>[(0,.val (.pv (.sl false 2 (a0.map (ao false))))),(1,.val (.pv (.sl false 2 (a1.map (ao false))))),(5,.val (.pv (I (i4:Int))))]) (fun i4 s4=>[]) (Slm_ SC) (fun i4 s4 hi h=>?_) (fun s4 h=>?_)
  ·have w:=ws_ (i:=i4) (by omega)
   refine S ?_
   refine aG cs (by omega) (fun cs=>S ?_)
   obtain⟨v19,hv19,h⟩:=rb_ h
   refine ar (f:=(ao false)) hv19 SC (S ?_)
   obtain⟨v23,hv23,h⟩:=rb_ h
   refine ar (f:=(ao false)) hv23 SC (S ?_)
   obtain⟨v25,hv25,h⟩:=rb_ h
   refine aj [false,false] (eSs_ hv25) SC (S ?_)
   refine ae (DHa_ [] []) (S ?_)
   refine ai cs h (fun cs h=>S ?_) (fun cs h=>S ?_)
   ·have h:=rs_ h
    refine aA ⟨_,h,?_⟩
    exact Slm_ SW
   ·cases rs_ h
    exact ag SC
  ·refine S ?_
   refine aJ cs (by omega) (fun cs=>S ?_)
   cases rs_ h
   exact ag SC
 ·cases rs_ h
  exact ag SC

theorem eDN_1(n:Nat):(∀ (a0:Dt) (a1:Dt) (r:Bool),eDN_ n a0 a1=some r→Sat ah 13 [((av false) a0),((av false) a1)] (B r))∧(∀ (a0:List Dt) (a1:List Dt) (r:Bool),eDS_ n a0 a1=some r→Sat ah 49 [(.sl false 12 (a0.map (av false))),(.sl false 12 (a1.map (av false)))] (B r)):=by
 induction n with
 | zero=>exact⟨fun _ _ _ h=>by simp[eDN_] at h,fun _ _ _ h=>by simp[eDS_] at h⟩
 | succ n ih=>
  refine⟨fun a0 a1 r h=>?_,fun a0 a1 r h=>?_⟩
  ·obtain⟨h,cs⟩:=Ro_ h
   rw[eDN_] at h
   refine au (nt:=39) (rs:=[.tmp 4]) (n:=100000) Tryz.func13 rfl rfl rfl rfl (by simp) (S ?_)
   refine ai cs h (fun cs h=>S ?_) (fun cs h=>S ?_)
   ·obtain⟨v14,hv14,h⟩:=rb_ h
    refine aj [false,false] (eSs_ hv14) SC (S ?_)
    refine ai cs h (fun cs h=>S ?_) (fun cs h=>S ?_)
    ·refine ai cs h (fun cs h=>S ?_) (fun cs h=>S ?_)
     ·obtain⟨v25,hv25,h⟩:=rb_ h
      refine aj [false,false] (eTs_ hv25) SC (S ?_)
      refine ai cs h (fun cs h=>S ?_) (fun cs h=>S ?_)
      ·obtain⟨v31,hv31,h⟩:=rb_ h
       refine aj [false,false] (eFs_ hv31) SC (S ?_)
       refine ai cs h (fun cs h=>S ?_) (fun cs h=>S ?_)
       ·obtain⟨v37,hv37,h⟩:=rb_ h
        refine aj [false,false] (ih.2 _ _ _ hv37) SC (S ?_)
        refine ai cs h (fun cs h=>S ?_) (fun cs h=>S ?_)
        ·cases rs_ h
         exact ag SC
        ·cases rs_ h
         exact ag SC
       ·cases rs_ h
        exact ag SC
      ·cases rs_ h
       exact ag SC
     ·cases rs_ h
      exact ag SC
    ·cases rs_ h
     exact ag SC
   ·cases rs_ h
    exact ag SC
  ·obtain⟨h,cs⟩:=Ro_ h
   rw[eDS_] at h
   refine au (nt:=27) (rs:=[.tmp 4]) (n:=100000) Tryz.func49 rfl rfl rfl rfl (by simp) (S ?_)
   refine ai cs h (fun cs h=>S ?_) (fun cs h=>S ?_)
   ·refine aN (b:=false) (sz:=12) (es:=a0.map (av false)) 0 SC fun hl0=>?_; rw[aC] at hl0
    replace h:=rl_ h
    refine aI h (fun i4 s4=>[(0,.val (.pv (.sl false 12 (a0.map (av false))))),(1,.val (.pv (.sl false 12 (a1.map (av false))))),(5,.val (.pv (I (i4:Int))))]) (fun i4 s4=>[]) (Slm_ SC) (fun i4 s4 hi h=>?_) (fun s4 h=>?_)
    ·have w:=ws_ (i:=i4) (by omega)
     refine S ?_
     refine aG cs (by omega) (fun cs=>S ?_)
     obtain⟨v19,hv19,h⟩:=rb_ h
     refine ar (f:=(av false)) hv19 SC (S ?_)
     obtain⟨v23,hv23,h⟩:=rb_ h
     refine ar (f:=(av false)) hv23 SC (S ?_)
     obtain⟨v25,hv25,h⟩:=rb_ h
     refine aj [false,false] (ih.1 _ _ _ hv25) SC (S ?_)
     refine ae (DHa_ [] []) (S ?_)
     refine ai cs h (fun cs h=>S ?_) (fun cs h=>S ?_)
     ·have h:=rs_ h
      refine aA ⟨_,h,?_⟩
      exact Slm_ SW
     ·cases rs_ h
      exact ag SC
    ·refine S ?_
     refine aJ cs (by omega) (fun cs=>S ?_)
     cases rs_ h
     exact ag SC
   ·cases rs_ h
    exact ag SC
theorem eDs_{a0:Dt}{a1:Dt}{r:Bool}(h:eD_ a0 a1=some r):Sat ah 13 [((av false) a0),((av false) a1)] (B r):=by
 obtain⟨n,hn⟩:=ls_ h
 exact(eDN_1 n).1 _ _ _ hn
theorem eDS_2{a0:List Dt}{a1:List Dt}{r:Bool}(h:eDS_1 a0 a1=some r):Sat ah 49 [(.sl false 12 (a0.map (av false))),(.sl false 12 (a1.map (av false)))] (B r):=by
 obtain⟨n,hn⟩:=ls_ h
 exact(eDN_1 n).2 _ _ _ hn

theorem mTs_{a0:Int}  {r:ByteArray}(h:mT_ a0=some r):Sat ah 85 [(I a0)] (Sx r):=by
 obtain⟨h,cs⟩:=Ro_ h
 unfold mT_ at h
 refine au (nt:=20) (rs:=[.tmp 2]) (n:=100000) Tryz.func85 rfl rfl rfl rfl (by simp) (S ?_)
 refine ai cs h (fun cs h=>S ?_) (fun cs h=>S ?_)
 ·cases rs_ h
  exact ag SC
 ·replace h:=rl_ h
  refine Mg.whileN h (fun s4=>[(0,.val (.pv (I s4.1))),(3,.val (.pv (Sx s4.2)))]) (fun s4=>[]) (Slm_ SC) (fun n4 s4 h=>?_)
  refine S ?_
  refine ai cs h (fun cs h=>S ?_) (fun cs h=>S ?_)
  ·obtain⟨v9,hv9,h⟩:=rb_ h
   refine remH.mk hv9 (S ?_)
   obtain⟨v13,hv13,h⟩:=rb_ h
   refine BstrH.mk hv13 SC (S ?_)
   obtain⟨v15,hv15,h⟩:=rb_ h
   refine SappH.mk hv15 (S ?_)
   obtain⟨v17,hv17,h⟩:=rb_ h
   refine quoH.mk hv17 (S ?_)
   have h:=rs_ h
   refine aA ⟨_,h,?_⟩
   exact Slm_ SC
  ·have h:=rs_ h
   obtain⟨v19,hv19,h⟩:=rb_ h
   refine SappH.mk hv19 (S ?_)
   cases rs_ h
   exact ag SC

theorem mTS_7(n:Nat):(∀ (a0:List Tt) (a1:Int) (r:Int×(List Tt)),mTS_ n a0 a1=some r→SatIO ah 84 [(.sl true 2 (a0.map (am true))),(I a1)] [(.sl true 2 (r.2.map (am true))),(I a1)] (I r.1)):=by
 induction n with
 | zero=>exact fun _ _ _ h=>by simp[mTS_] at h
 | succ n ih=>
  refine fun a0 a1 r h=>?_
  obtain⟨h,cs⟩:=Ro_ h
  rw[mTS_] at h
  refine SIo_ (nt:=28) (rs:=[.tmp 4]) (n:=100000) Tryz.func84 rfl rfl rfl rfl (by simp) (S ?_)
  refine aq (S ?_)
  refine aS (Nat.le_of_eq rfl) (S ?_)
  refine aq (S ?_)
  refine aS (Nat.le_of_eq rfl) (S ?_)
  replace h:=rl_ h
  refine MgI.whileN h (fun s2=>[(0,.val (.own 10000)),(1,.val (.pv (I s2.2.1))),(5,.val (.pv (I s2.2.2)))]) (fun s2=>[(10000,(2,s2.1.map (am true)))]) (Slm_ SC) (fun n2 s2 h=>?_)
  refine S ?_
  refine aq (S ?_)
  refine aq (S ?_)
  refine aq (S ?_)
  refine aq (S ?_)
  refine aS (Nat.le_of_eq rfl) (S ?_)
  refine ai cs h (fun cs h=>S ?_) (fun cs h=>S ?_)
  ·refine aq (S ?_)
   refine aq (S ?_)
   refine aq (S ?_)
   refine aq (S ?_)
   obtain⟨v15,hv15,h⟩:=rb_ h
   refine aj [false] (mTs_ hv15) SC (S ?_)
   refine aq (S ?_)
   obtain⟨v16,hv16,h⟩:=rb_ h
   refine ar (f:=(am true)) hv16 SC (S ?_)
   refine aq (S ?_)
   refine aq (S ?_)
   obtain⟨w2,hw2,h⟩:=rb_ h
   refine bp (f:=(am true)) hw2 rfl SC (S ?_)
   refine aS (Nat.le_of_eq rfl) (S ?_)
   refine aq (S ?_)
   refine aq (S ?_)
   refine aq (S ?_)
   refine aS (Nat.le_of_eq rfl) (S ?_)
   refine aq (S ?_)
   refine aq (S ?_)
   refine aq (S ?_)
   obtain⟨v22,hv22,h⟩:=rb_ h
   refine ar (f:=(am true)) hv22 SC (S ?_)
   refine aq (S ?_)
   obtain⟨w3,hw3,h⟩:=rb_ h
   obtain⟨v26,hv26,h⟩:=rb_ h
   refine Vei_ (fx:=(am true)) (c:=10000) (sz:=2) (p:=[1]) (off:=1) (h1:=rfl) (h3:=rfl) (h2:=rfl) rfl rfl rfl rfl rfl rfl rfl rfl rfl hw3 (ih _ _ _ hv26) SC SC (S ?_)
   refine aq (S ?_)
   refine aS (Nat.le_of_eq rfl) (S ?_)
   refine aq (S ?_)
   refine aq (S ?_)
   refine aq (S ?_)
   refine aS (Nat.le_of_eq rfl) (S ?_)
   have h:=rs_ h
   refine aA ⟨_,h,?_⟩
   exact Slm_ SC
  ·have h:=rs_ h
   refine aq (S ?_)
   refine aq (S ?_)
   refine aS (Nat.le_of_eq rfl) (S ?_)
   cases rs_ h
   exact FinIO.mk SC
theorem mTS_2{a0:List Tt}{a1:Int}{r:Int×(List Tt)}(h:mTS_3 a0 a1=some r):SatIO ah 84 [(.sl true 2 (a0.map (am true))),(I a1)] [(.sl true 2 (r.2.map (am true))),(I a1)] (I r.1):=by
 obtain⟨n,hn⟩:=ls_ h
 exact(mTS_7 n) _ _ _ hn

theorem mFS_7(n:Nat):(∀ (a0:List Ft) (a1:Int) (r:Int×(List Ft)),mFS_ n a0 a1=some r→SatIO ah 61 [(.sl true 5 (a0.map (al true))),(I a1)] [(.sl true 5 (r.2.map (al true))),(I a1)] (I r.1)):=by
 induction n with
 | zero=>exact fun _ _ _ h=>by simp[mFS_] at h
 | succ n ih=>
  refine fun a0 a1 r h=>?_
  obtain⟨h,cs⟩:=Ro_ h
  rw[mFS_] at h
  refine SIo_ (nt:=52) (rs:=[.tmp 4]) (n:=100000) Tryz.func61 rfl rfl rfl rfl (by simp) (S ?_)
  refine aq (S ?_)
  refine aS (Nat.le_of_eq rfl) (S ?_)
  refine aq (S ?_)
  refine aS (Nat.le_of_eq rfl) (S ?_)
  replace h:=rl_ h
  refine MgI.whileN h (fun s2=>[(0,.val (.own 10000)),(1,.val (.pv (I s2.2.1))),(5,.val (.pv (I s2.2.2)))]) (fun s2=>[(10000,(5,s2.1.map (al true)))]) (Slm_ SC) (fun n2 s2 h=>?_)
  refine S ?_
  refine aq (S ?_)
  refine aq (S ?_)
  refine aq (S ?_)
  refine aq (S ?_)
  refine aS (Nat.le_of_eq rfl) (S ?_)
  refine ai cs h (fun cs h=>S ?_) (fun cs h=>S ?_)
  ·refine aq (S ?_)
   refine aq (S ?_)
   refine aq (S ?_)
   refine aq (S ?_)
   obtain⟨v15,hv15,h⟩:=rb_ h
   refine ar (f:=(al true)) hv15 SC (S ?_)
   refine aq (S ?_)
   refine aq (S ?_)
   obtain⟨w2,hw2,h⟩:=rb_ h
   refine bp (f:=(al true)) hw2 rfl SC (S ?_)
   refine aS (Nat.le_of_eq rfl) (S ?_)
   refine aq (S ?_)
   refine aq (S ?_)
   refine aq (S ?_)
   refine aS (Nat.le_of_eq rfl) (S ?_)
   refine aq (S ?_)
   refine aq (S ?_)
   refine aq (S ?_)
   refine aq (S ?_)
   obtain⟨v22,hv22,h⟩:=rb_ h
   refine aj [false] (mTs_ hv22) SC (S ?_)
   refine aq (S ?_)
   obtain⟨v23,hv23,h⟩:=rb_ h
   refine ar (f:=(al true)) hv23 SC (S ?_)
   refine aq (S ?_)
   refine aq (S ?_)
   refine aq (S ?_)
   obtain⟨w3,hw3,h⟩:=rb_ h
   refine bp (f:=(al true)) hw3 rfl SC (S ?_)
   refine aS (Nat.le_of_eq rfl) (S ?_)
   refine aq (S ?_)
   refine aq (S ?_)
   refine aq (S ?_)
   refine aS (Nat.le_of_eq rfl) (S ?_)
   refine aq (S ?_)
   refine aq (S ?_)
   refine aq (S ?_)
   obtain⟨v30,hv30,h⟩:=rb_ h
   refine ar (f:=(al true)) hv30 SC (S ?_)
   refine aq (S ?_)
   refine aq (S ?_)
   obtain⟨w4,hw4,h⟩:=rb_ h
   obtain⟨v35,hv35,h⟩:=rb_ h
   refine Vei_ (fx:=(al true)) (c:=10000) (sz:=5) (p:=[1,1]) (off:=2) (h1:=rfl) (h3:=rfl) (h2:=rfl) rfl rfl rfl rfl rfl rfl rfl rfl rfl hw4 (mTS_2 hv35) SC SC (S ?_)
   refine aq (S ?_)
   refine aS (Nat.le_of_eq rfl) (S ?_)
   refine aq (S ?_)
   refine aq (S ?_)
   refine aq (S ?_)
   refine aq (S ?_)
   obtain⟨v39,hv39,h⟩:=rb_ h
   refine aj [false] (mTs_ hv39) SC (S ?_)
   refine aq (S ?_)
   obtain⟨v40,hv40,h⟩:=rb_ h
   refine ar (f:=(al true)) hv40 SC (S ?_)
   refine aq (S ?_)
   refine aq (S ?_)
   obtain⟨w5,hw5,h⟩:=rb_ h
   refine bp (f:=(al true)) hw5 rfl SC (S ?_)
   refine aS (Nat.le_of_eq rfl) (S ?_)
   refine aq (S ?_)
   refine aq (S ?_)
   refine aq (S ?_)
   refine aS (Nat.le_of_eq rfl) (S ?_)
   refine aq (S ?_)
   refine aq (S ?_)
   refine aq (S ?_)
   obtain⟨v46,hv46,h⟩:=rb_ h
   refine ar (f:=(al true)) hv46 SC (S ?_)
   refine aq (S ?_)
   obtain⟨w6,hw6,h⟩:=rb_ h
   obtain⟨v50,hv50,h⟩:=rb_ h
   refine Vei_ (fx:=(al true)) (c:=10000) (sz:=5) (p:=[3]) (off:=4) (h1:=rfl) (h3:=rfl) (h2:=rfl) rfl rfl rfl rfl rfl rfl rfl rfl rfl hw6 (ih _ _ _ hv50) SC SC (S ?_)
   refine aq (S ?_)
   refine aS (Nat.le_of_eq rfl) (S ?_)
   refine aq (S ?_)
   refine aq (S ?_)
   refine aq (S ?_)
   refine aS (Nat.le_of_eq rfl) (S ?_)
   have h:=rs_ h
   refine aA ⟨_,h,?_⟩
   exact Slm_ SC
  ·have h:=rs_ h
   refine aq (S ?_)
   refine aq (S ?_)
   refine aS (Nat.le_of_eq rfl) (S ?_)
   cases rs_ h
   exact FinIO.mk SC
theorem mFS_2{a0:List Ft}{a1:Int}{r:Int×(List Ft)}(h:mFS_3 a0 a1=some r):SatIO ah 61 [(.sl true 5 (a0.map (al true))),(I a1)] [(.sl true 5 (r.2.map (al true))),(I a1)] (I r.1):=by
 obtain⟨n,hn⟩:=ls_ h
 exact(mFS_7 n) _ _ _ hn

theorem mSs_{a0:Sa}{a1:Int}  {r:Int×(List Ft)×(List Ft)}(h:mS_ a0 a1=some r):SatIO ah 50 [((ao true) a0),(I a1)] [((ao true) (Sa.mk r.2.1 r.2.2)),(I a1)] (I r.1):=by
 obtain⟨h,cs⟩:=Ro_ h
 unfold mS_ at h
 refine SatIO.of_m (nt:=14) (rs:=[.tmp 4]) (n:=100000) Tryz.func50 rfl rfl rfl rfl (by simp) (S ?_)
 obtain⟨v8,hv8,h⟩:=rb_ h
 refine CHi_ [(.own 10000),(.pv (I a1))] [(10000,(5,v8.2.map (al true)))] (mFS_2 hv8) SC (S ?_)
 obtain⟨v12,hv12,h⟩:=rb_ h
 refine CHi_ [(.own 10001),(.pv (I v8.1))] [(10001,(5,v12.2.map (al true)))] (mFS_2 hv12) SC (S ?_)
 cases rs_ h
 exact FinIO.mk SC

theorem mTs_1{a0:Tt}{a1:Int}  {r:Int×(List Tt)}(h:mT_1 a0 a1=some r):SatIO ah 51 [((am true) a0),(I a1)] [((am true) (Tt.mk a0.Name r.2)),(I a1)] (I r.1):=by
 obtain⟨h,cs⟩:=Ro_ h
 unfold mT_1 at h
 refine SatIO.of_m (nt:=10) (rs:=[.tmp 4]) (n:=100000) Tryz.func51 rfl rfl rfl rfl (by simp) (S ?_)
 obtain⟨v8,hv8,h⟩:=rb_ h
 refine CHi_ [(.own 10000),(.pv (I a1))] [(10000,(2,v8.2.map (am true)))] (mTS_2 hv8) SC (S ?_)
 cases rs_ h
 exact FinIO.mk SC

theorem mFs_{a0:Ft}{a1:Int}  {r:Int×(List Tt)×(List Ft)}(h:mF_ a0 a1=some r):SatIO ah 33 [((al true) a0),(I a1)] [((al true) (Ft.mk a0.Op (Tt.mk a0.Atom.Name r.2.1) a0.Var r.2.2)),(I a1)] (I r.1):=by
 obtain⟨h,cs⟩:=Ro_ h
 unfold mF_ at h
 refine SatIO.of_m (nt:=14) (rs:=[.tmp 4]) (n:=100000) Tryz.func33 rfl rfl rfl rfl (by simp) (S ?_)
 obtain⟨v8,hv8,h⟩:=rb_ h
 refine CHi_ [(.node [(.pv (Sx a0.Atom.Name)),(.own 10000)]),(.pv (I a1))] [(10000,(2,v8.2.map (am true)))] (mTs_1 hv8) SC (S ?_)
 obtain⟨v12,hv12,h⟩:=rb_ h
 refine CHi_ [(.own 10001),(.pv (I v8.1))] [(10001,(5,v12.2.map (al true)))] (mFS_2 hv12) SC (S ?_)
 cases rs_ h
 exact FinIO.mk SC

theorem mDS_3(n:Nat):(∀ (a0:List Dt) (a1:Int) (r:Int×(List Dt)),mDS_ n a0 a1=some r→SatIO ah 52 [(.sl true 12 (a0.map (av true))),(I a1)] [(.sl true 12 (r.2.map (av true))),(I a1)] (I r.1)):=by
 induction n with
 | zero=>exact fun _ _ _ h=>by simp[mDS_] at h
 | succ n ih=>
  refine fun a0 a1 r h=>?_
  obtain⟨h,cs⟩:=Ro_ h
  rw[mDS_] at h
  refine SIo_ (nt:=111) (rs:=[.tmp 4]) (n:=100000) Tryz.func52 rfl rfl rfl rfl (by simp) (S ?_)
  refine aq (S ?_)
  refine aS (Nat.le_of_eq rfl) (S ?_)
  refine aq (S ?_)
  refine aS (Nat.le_of_eq rfl) (S ?_)
  replace h:=rl_ h
  refine MgI.whileN h (fun s2=>[(0,.val (.own 10000)),(1,.val (.pv (I s2.2.1))),(5,.val (.pv (I s2.2.2)))]) (fun s2=>[(10000,(12,s2.1.map (av true)))]) (Slm_ SC) (fun n2 s2 h=>?_)
  refine S ?_
  refine aq (S ?_)
  refine aq (S ?_)
  refine aq (S ?_)
  refine aq (S ?_)
  refine aS (Nat.le_of_eq rfl) (S ?_)
  refine ai cs h (fun cs h=>S ?_) (fun cs h=>S ?_)
  ·refine aq (S ?_)
   refine aq (S ?_)
   refine aq (S ?_)
   refine aq (S ?_)
   obtain⟨v15,hv15,h⟩:=rb_ h
   refine ar (f:=(av true)) hv15 SC (S ?_)
   refine aq (S ?_)
   refine aq (S ?_)
   obtain⟨w2,hw2,h⟩:=rb_ h
   refine bp (f:=(av true)) hw2 rfl SC (S ?_)
   refine aS (Nat.le_of_eq rfl) (S ?_)
   refine aq (S ?_)
   refine aq (S ?_)
   refine aq (S ?_)
   refine aS (Nat.le_of_eq rfl) (S ?_)
   refine aq (S ?_)
   refine aq (S ?_)
   refine aq (S ?_)
   obtain⟨v21,hv21,h⟩:=rb_ h
   refine ar (f:=(av true)) hv21 SC (S ?_)
   refine aq (S ?_)
   refine aq (S ?_)
   obtain⟨w3,hw3,h⟩:=rb_ h
   obtain⟨v26,hv26,h⟩:=rb_ h
   refine Vei_ (fx:=(av true)) (c:=10000) (sz:=12) (p:=[1,0]) (off:=1) (h1:=rfl) (h3:=rfl) (h2:=rfl) rfl rfl rfl rfl rfl rfl rfl rfl rfl hw3 (mFS_2 hv26) SC SC (S ?_)
   refine aq (S ?_)
   refine aS (Nat.le_of_eq rfl) (S ?_)
   refine aq (S ?_)
   refine aq (S ?_)
   refine aq (S ?_)
   obtain⟨v29,hv29,h⟩:=rb_ h
   refine ar (f:=(av true)) hv29 SC (S ?_)
   refine aq (S ?_)
   refine aq (S ?_)
   obtain⟨w4,hw4,h⟩:=rb_ h
   obtain⟨v34,hv34,h⟩:=rb_ h
   refine Vei_ (fx:=(av true)) (c:=10000) (sz:=12) (p:=[1,1]) (off:=2) (h1:=rfl) (h3:=rfl) (h2:=rfl) rfl rfl rfl rfl rfl rfl rfl rfl rfl hw4 (mFS_2 hv34) SC SC (S ?_)
   refine aq (S ?_)
   refine aS (Nat.le_of_eq rfl) (S ?_)
   refine aq (S ?_)
   refine aq (S ?_)
   refine aq (S ?_)
   refine aq (S ?_)
   obtain⟨v38,hv38,h⟩:=rb_ h
   refine ar (f:=(av true)) hv38 SC (S ?_)
   refine aq (S ?_)
   refine aq (S ?_)
   obtain⟨w5,hw5,h⟩:=rb_ h
   refine bp (f:=(av true)) hw5 rfl SC (S ?_)
   refine aS (Nat.le_of_eq rfl) (S ?_)
   refine aq (S ?_)
   refine aq (S ?_)
   refine aq (S ?_)
   refine aS (Nat.le_of_eq rfl) (S ?_)
   refine aq (S ?_)
   refine aq (S ?_)
   refine aq (S ?_)
   refine aq (S ?_)
   obtain⟨v45,hv45,h⟩:=rb_ h
   refine aj [false] (mTs_ hv45) SC (S ?_)
   refine aq (S ?_)
   obtain⟨v46,hv46,h⟩:=rb_ h
   refine ar (f:=(av true)) hv46 SC (S ?_)
   refine aq (S ?_)
   refine aq (S ?_)
   refine aq (S ?_)
   obtain⟨w6,hw6,h⟩:=rb_ h
   refine bp (f:=(av true)) hw6 rfl SC (S ?_)
   refine aS (Nat.le_of_eq rfl) (S ?_)
   refine aq (S ?_)
   refine aq (S ?_)
   refine aq (S ?_)
   refine aS (Nat.le_of_eq rfl) (S ?_)
   refine aq (S ?_)
   refine aq (S ?_)
   refine aq (S ?_)
   obtain⟨v53,hv53,h⟩:=rb_ h
   refine ar (f:=(av true)) hv53 SC (S ?_)
   refine aq (S ?_)
   refine aq (S ?_)
   obtain⟨w7,hw7,h⟩:=rb_ h
   obtain⟨v58,hv58,h⟩:=rb_ h
   refine Vei_ (fx:=(av true)) (c:=10000) (sz:=12) (p:=[3,1]) (off:=5) (h1:=rfl) (h3:=rfl) (h2:=rfl) rfl rfl rfl rfl rfl rfl rfl rfl rfl hw7 (mTS_2 hv58) SC SC (S ?_)
   refine aq (S ?_)
   refine aS (Nat.le_of_eq rfl) (S ?_)
   refine aq (S ?_)
   refine aq (S ?_)
   refine aq (S ?_)
   refine aq (S ?_)
   obtain⟨v62,hv62,h⟩:=rb_ h
   refine ar (f:=(av true)) hv62 SC (S ?_)
   refine aq (S ?_)
   refine aq (S ?_)
   refine aq (S ?_)
   obtain⟨w8,hw8,h⟩:=rb_ h
   refine bp (f:=(av true)) hw8 rfl SC (S ?_)
   refine aS (Nat.le_of_eq rfl) (S ?_)
   refine aq (S ?_)
   refine aq (S ?_)
   refine aq (S ?_)
   refine aS (Nat.le_of_eq rfl) (S ?_)
   refine aq (S ?_)
   refine aq (S ?_)
   refine aq (S ?_)
   refine aq (S ?_)
   obtain⟨v70,hv70,h⟩:=rb_ h
   refine aj [false] (mTs_ hv70) SC (S ?_)
   refine aq (S ?_)
   obtain⟨v71,hv71,h⟩:=rb_ h
   refine ar (f:=(av true)) hv71 SC (S ?_)
   refine aq (S ?_)
   refine aq (S ?_)
   refine aq (S ?_)
   refine aq (S ?_)
   obtain⟨w9,hw9,h⟩:=rb_ h
   refine bp (f:=(av true)) hw9 rfl SC (S ?_)
   refine aS (Nat.le_of_eq rfl) (S ?_)
   refine aq (S ?_)
   refine aq (S ?_)
   refine aq (S ?_)
   refine aS (Nat.le_of_eq rfl) (S ?_)
   refine aq (S ?_)
   refine aq (S ?_)
   refine aq (S ?_)
   obtain⟨v79,hv79,h⟩:=rb_ h
   refine ar (f:=(av true)) hv79 SC (S ?_)
   refine aq (S ?_)
   refine aq (S ?_)
   refine aq (S ?_)
   obtain⟨w10,hw10,h⟩:=rb_ h
   obtain⟨v85,hv85,h⟩:=rb_ h
   refine Vei_ (fx:=(av true)) (c:=10000) (sz:=12) (p:=[4,1,1]) (off:=8) (h1:=rfl) (h3:=rfl) (h2:=rfl) rfl rfl rfl rfl rfl rfl rfl rfl rfl hw10 (mTS_2 hv85) SC SC (S ?_)
   refine aq (S ?_)
   refine aS (Nat.le_of_eq rfl) (S ?_)
   refine aq (S ?_)
   refine aq (S ?_)
   refine aq (S ?_)
   refine aq (S ?_)
   obtain⟨v89,hv89,h⟩:=rb_ h
   refine aj [false] (mTs_ hv89) SC (S ?_)
   refine aq (S ?_)
   obtain⟨v90,hv90,h⟩:=rb_ h
   refine ar (f:=(av true)) hv90 SC (S ?_)
   refine aq (S ?_)
   refine aq (S ?_)
   refine aq (S ?_)
   obtain⟨w11,hw11,h⟩:=rb_ h
   refine bp (f:=(av true)) hw11 rfl SC (S ?_)
   refine aS (Nat.le_of_eq rfl) (S ?_)
   refine aq (S ?_)
   refine aq (S ?_)
   refine aq (S ?_)
   refine aS (Nat.le_of_eq rfl) (S ?_)
   refine aq (S ?_)
   refine aq (S ?_)
   refine aq (S ?_)
   obtain⟨v97,hv97,h⟩:=rb_ h
   refine ar (f:=(av true)) hv97 SC (S ?_)
   refine aq (S ?_)
   refine aq (S ?_)
   obtain⟨w12,hw12,h⟩:=rb_ h
   obtain⟨v102,hv102,h⟩:=rb_ h
   refine Vei_ (fx:=(av true)) (c:=10000) (sz:=12) (p:=[4,3]) (off:=10) (h1:=rfl) (h3:=rfl) (h2:=rfl) rfl rfl rfl rfl rfl rfl rfl rfl rfl hw12 (mFS_2 hv102) SC SC (S ?_)
   refine aq (S ?_)
   refine aS (Nat.le_of_eq rfl) (S ?_)
   refine aq (S ?_)
   refine aq (S ?_)
   refine aq (S ?_)
   obtain⟨v105,hv105,h⟩:=rb_ h
   refine ar (f:=(av true)) hv105 SC (S ?_)
   refine aq (S ?_)
   obtain⟨w13,hw13,h⟩:=rb_ h
   obtain⟨v109,hv109,h⟩:=rb_ h
   refine Vei_ (fx:=(av true)) (c:=10000) (sz:=12) (p:=[5]) (off:=11) (h1:=rfl) (h3:=rfl) (h2:=rfl) rfl rfl rfl rfl rfl rfl rfl rfl rfl hw13 (ih _ _ _ hv109) SC SC (S ?_)
   refine aq (S ?_)
   refine aS (Nat.le_of_eq rfl) (S ?_)
   refine aq (S ?_)
   refine aq (S ?_)
   refine aq (S ?_)
   refine aS (Nat.le_of_eq rfl) (S ?_)
   have h:=rs_ h
   refine aA ⟨_,h,?_⟩
   exact Slm_ SC
  ·have h:=rs_ h
   refine aq (S ?_)
   refine aq (S ?_)
   refine aS (Nat.le_of_eq rfl) (S ?_)
   cases rs_ h
   exact FinIO.mk SC
theorem mDS_4{a0:List Dt}{a1:Int}{r:Int×(List Dt)}(h:mDS_2 a0 a1=some r):SatIO ah 52 [(.sl true 12 (a0.map (av true))),(I a1)] [(.sl true 12 (r.2.map (av true))),(I a1)] (I r.1):=by
 obtain⟨n,hn⟩:=ls_ h
 exact(mDS_3 n) _ _ _ hn

theorem mDs_{a0:Dt}{a1:Int}  {r:Int×(List Ft)×(List Ft)×(List Tt)×(List Tt)×(List Ft)×(List Dt)}(h:mD_ a0 a1=some r):SatIO ah 14 [((av true) a0),(I a1)] [((av true) (Dt.mk a0.Rule (Sa.mk r.2.1 r.2.2.1) a0.Main (Tt.mk a0.Term.Name r.2.2.2.1) (Ft.mk a0.Cut.Op (Tt.mk a0.Cut.Atom.Name r.2.2.2.2.1) a0.Cut.Var r.2.2.2.2.2.1) r.2.2.2.2.2.2)),(I a1)] (I r.1):=by
 obtain⟨h,cs⟩:=Ro_ h
 unfold mD_ at h
 refine SatIO.of_m (nt:=22) (rs:=[.tmp 4]) (n:=100000) Tryz.func14 rfl rfl rfl rfl (by simp) (S ?_)
 obtain⟨v8,hv8,h⟩:=rb_ h
 refine CHi_ [(.node [(.own 10000),(.own 10001)]),(.pv (I a1))] [(10000,(5,v8.2.1.map (al true))),(10001,(5,v8.2.2.map (al true)))] (mSs_ hv8) SC (S ?_)
 obtain⟨v12,hv12,h⟩:=rb_ h
 refine CHi_ [(.node [(.pv (Sx a0.Term.Name)),(.own 10002)]),(.pv (I v8.1))] [(10002,(2,v12.2.map (am true)))] (mTs_1 hv12) SC (S ?_)
 obtain⟨v16,hv16,h⟩:=rb_ h
 refine CHi_ [(.node [(.pv (I a0.Cut.Op)),(.node [(.pv (Sx a0.Cut.Atom.Name)),(.own 10003)]),(.pv (Sx a0.Cut.Var)),(.own 10004)]),(.pv (I v12.1))] [(10003,(2,v16.2.1.map (am true))),(10004,(5,v16.2.2.map (al true)))] (mFs_ hv16) SC (S ?_)
 obtain⟨v20,hv20,h⟩:=rb_ h
 refine CHi_ [(.own 10005),(.pv (I v16.1))] [(10005,(12,v20.2.map (av true)))] (mDS_4 hv20) SC (S ?_)
 cases rs_ h
 exact FinIO.mk SC

theorem mSS_2{a0:List Sa}{a1:Int}  {r:Int×(List Sa)}(h:mSS_ a0 a1=some r):SatIO ah 26 [(.sl true 2 (a0.map (ao true))),(I a1)] [(.sl true 2 (r.2.map (ao true))),(I a1)] (I r.1):=by
 obtain⟨h,cs⟩:=Ro_ h
 unfold mSS_ at h
 refine SIo_ (nt:=27) (rs:=[.tmp 4]) (n:=100000) Tryz.func26 rfl rfl rfl rfl (by simp) (S ?_)
 refine aq (S ?_)
 refine aS (Nat.le_of_eq rfl) (S ?_)
 refine aq (S ?_)
 refine aS (Nat.le_of_eq rfl) (S ?_)
 replace h:=rl_ h
 refine MgI.whileN h (fun s2=>[(0,.val (.own 10000)),(1,.val (.pv (I s2.2.1))),(5,.val (.pv (I s2.2.2)))]) (fun s2=>[(10000,(2,s2.1.map (ao true)))]) (Slm_ SC) (fun n2 s2 h=>?_)
 refine S ?_
 refine aq (S ?_)
 refine aq (S ?_)
 refine aq (S ?_)
 refine aq (S ?_)
 refine aS (Nat.le_of_eq rfl) (S ?_)
 refine ai cs h (fun cs h=>S ?_) (fun cs h=>S ?_)
 ·refine aq (S ?_)
  refine aq (S ?_)
  refine aq (S ?_)
  obtain⟨v14,hv14,h⟩:=rb_ h
  refine ar (f:=(ao true)) hv14 SC (S ?_)
  refine aq (S ?_)
  obtain⟨w2,hw2,h⟩:=rb_ h
  obtain⟨v18,hv18,h⟩:=rb_ h
  refine Vei_ (fx:=(ao true)) (c:=10000) (sz:=2) (p:=[0]) (off:=0) (h1:=rfl) (h3:=rfl) (h2:=rfl) rfl rfl rfl rfl rfl rfl rfl rfl rfl hw2 (mFS_2 hv18) SC SC (S ?_)
  refine aq (S ?_)
  refine aS (Nat.le_of_eq rfl) (S ?_)
  refine aq (S ?_)
  refine aq (S ?_)
  refine aq (S ?_)
  obtain⟨v21,hv21,h⟩:=rb_ h
  refine ar (f:=(ao true)) hv21 SC (S ?_)
  refine aq (S ?_)
  obtain⟨w3,hw3,h⟩:=rb_ h
  obtain⟨v25,hv25,h⟩:=rb_ h
  refine Vei_ (fx:=(ao true)) (c:=10000) (sz:=2) (p:=[1]) (off:=1) (h1:=rfl) (h3:=rfl) (h2:=rfl) rfl rfl rfl rfl rfl rfl rfl rfl rfl hw3 (mFS_2 hv25) SC SC (S ?_)
  refine aq (S ?_)
  refine aS (Nat.le_of_eq rfl) (S ?_)
  refine aq (S ?_)
  refine aq (S ?_)
  refine aq (S ?_)
  refine aS (Nat.le_of_eq rfl) (S ?_)
  have h:=rs_ h
  refine aA ⟨_,h,?_⟩
  exact Slm_ SC
 ·have h:=rs_ h
  refine aq (S ?_)
  refine aq (S ?_)
  refine aS (Nat.le_of_eq rfl) (S ?_)
  cases rs_ h
  exact FinIO.mk SC

theorem hTS_2(n:Nat):(∀ (a0:List Tt) (a1:Int) (r:Int),hTS_ n a0 a1=some r→Sat ah 103 [(.sl false 2 (a0.map (am false))),(I a1)] (I r)):=by
 induction n with
 | zero=>exact fun _ _ _ h=>by simp[hTS_] at h
 | succ n ih=>
  refine fun a0 a1 r h=>?_
  obtain⟨h,cs⟩:=Ro_ h
  rw[hTS_] at h
  refine au (nt:=32) (rs:=[.tmp 4]) (n:=100000) Tryz.func103 rfl rfl rfl rfl (by simp) (S ?_)
  refine aN (b:=false) (sz:=2) (es:=a0.map (am false)) 0 SC fun hl0=>?_; rw[aC] at hl0
  replace h:=rl_ h
  refine aI h (fun i2 s2=>[(0,.val (.pv (.sl false 2 (a0.map (am false))))),(1,.val (.pv (I s2))),(5,.val (.pv (I (i2:Int))))]) (fun i2 s2=>[]) (Slm_ SC) (fun i2 s2 hi h=>?_) (fun s2 h=>?_)
  ·have w:=ws_ (i:=i2) (by omega)
   refine S ?_
   refine aG cs (by omega) (fun cs=>S ?_)
   obtain⟨v14,hv14,h⟩:=rb_ h
   refine ar (f:=(am false)) hv14 SC (S ?_)
   obtain⟨v18,hv18,h⟩:=rb_ h
   refine aj [false] (mTs_ hv18) SC (S ?_)
   refine ae (DHa_ [] []) (S ?_)
   refine ai cs h (fun cs h=>S ?_) (fun cs h=>S ?_)
   ·obtain⟨v24,hv24,h⟩:=rb_ h
    refine ar (f:=(am false)) hv24 SC (S ?_)
    obtain⟨v28,hv28,h⟩:=rb_ h
    refine aj [false,false] (ih _ _ _ hv28) SC (S ?_)
    refine ai cs h (fun cs h=>S ?_) (fun cs h=>S ?_)
    ·cases rs_ h
     exact ag SC
    ·have h:=rs_ h
     refine aA ⟨_,h,?_⟩
     exact Slm_ SW
   ·cases rs_ h
    exact ag SC
  ·refine S ?_
   refine aJ cs (by omega) (fun cs=>S ?_)
   cases rs_ h
   exact ag SC
theorem hTS_3{a0:List Tt}{a1:Int}{r:Int}(h:hTS_1 a0 a1=some r):Sat ah 103 [(.sl false 2 (a0.map (am false))),(I a1)] (I r):=by
 obtain⟨n,hn⟩:=ls_ h
 exact(hTS_2 n) _ _ _ hn

theorem hFS_3(n:Nat):(∀ (a0:List Ft) (a1:Int) (r:Int),hFS_ n a0 a1=some r→Sat ah 62 [(.sl false 5 (a0.map (al false))),(I a1)] (I r)):=by
 induction n with
 | zero=>exact fun _ _ _ h=>by simp[hFS_] at h
 | succ n ih=>
  refine fun a0 a1 r h=>?_
  obtain⟨h,cs⟩:=Ro_ h
  rw[hFS_] at h
  refine au (nt:=62) (rs:=[.tmp 4]) (n:=100000) Tryz.func62 rfl rfl rfl rfl (by simp) (S ?_)
  refine aN (b:=false) (sz:=5) (es:=a0.map (al false)) 0 SC fun hl0=>?_; rw[aC] at hl0
  replace h:=rl_ h
  refine aI h (fun i2 s2=>[(0,.val (.pv (.sl false 5 (a0.map (al false))))),(1,.val (.pv (I s2))),(5,.val (.pv (I (i2:Int))))]) (fun i2 s2=>[]) (Slm_ SC) (fun i2 s2 hi h=>?_) (fun s2 h=>?_)
  ·have w:=ws_ (i:=i2) (by omega)
   refine S ?_
   refine aG cs (by omega) (fun cs=>S ?_)
   obtain⟨v14,hv14,h⟩:=rb_ h
   refine ar (f:=(al false)) hv14 SC (S ?_)
   refine ai cs h (fun cs h=>S ?_) (fun cs h=>S ?_)
   ·obtain⟨v23,hv23,h⟩:=rb_ h
    refine ar (f:=(al false)) hv23 SC (S ?_)
    obtain⟨v28,hv28,h⟩:=rb_ h
    refine aj [false] (mTs_ hv28) SC (S ?_)
    refine ae (DHa_ [] []) (S ?_)
    refine ai cs h (fun cs h=>S ?_) (fun cs h=>S ?_)
    ·obtain⟨v34,hv34,h⟩:=rb_ h
     refine ar (f:=(al false)) hv34 SC (S ?_)
     obtain⟨v39,hv39,h⟩:=rb_ h
     refine aj [false,false] (hTS_3 hv39) SC (S ?_)
     refine ai cs h (fun cs h=>S ?_) (fun cs h=>S ?_)
     ·cases rs_ h
      exact ag SC
     ·obtain⟨v44,hv44,h⟩:=rb_ h
      refine ar (f:=(al false)) hv44 SC (S ?_)
      obtain⟨v48,hv48,h⟩:=rb_ h
      refine aj [false] (mTs_ hv48) SC (S ?_)
      refine ae (DHa_ [] []) (S ?_)
      refine ai cs h (fun cs h=>S ?_) (fun cs h=>S ?_)
      ·obtain⟨v54,hv54,h⟩:=rb_ h
       refine ar (f:=(al false)) hv54 SC (S ?_)
       obtain⟨v58,hv58,h⟩:=rb_ h
       refine aj [false,false] (ih _ _ _ hv58) SC (S ?_)
       refine ai cs h (fun cs h=>S ?_) (fun cs h=>S ?_)
       ·cases rs_ h
        exact ag SC
       ·have h:=rs_ h
        refine aA ⟨_,h,?_⟩
        exact Slm_ SW
      ·cases rs_ h
       exact ag SC
    ·cases rs_ h
     exact ag SC
   ·cases rs_ h
    exact ag SC
  ·refine S ?_
   refine aJ cs (by omega) (fun cs=>S ?_)
   cases rs_ h
   exact ag SC
theorem hFS_2{a0:List Ft}{a1:Int}{r:Int}(h:hFS_1 a0 a1=some r):Sat ah 62 [(.sl false 5 (a0.map (al false))),(I a1)] (I r):=by
 obtain⟨n,hn⟩:=ls_ h
 exact(hFS_3 n) _ _ _ hn

theorem hSS_1{a0:List Sa}{a1:Int}  {r:Int}(h:hSS_ a0 a1=some r):Sat ah 27 [(.sl false 2 (a0.map (ao false))),(I a1)] (I r):=by
 obtain⟨h,cs⟩:=Ro_ h
 unfold hSS_ at h
 refine au (nt:=31) (rs:=[.tmp 4]) (n:=100000) Tryz.func27 rfl rfl rfl rfl (by simp) (S ?_)
 refine aN (b:=false) (sz:=2) (es:=a0.map (ao false)) 0 SC fun hl0=>?_; rw[aC] at hl0
 replace h:=rl_ h
 refine aI h (fun i2 s2=>[(0,.val (.pv (.sl false 2 (a0.map (ao false))))),(1,.val (.pv (I s2))),(5,.val (.pv (I (i2:Int))))]) (fun i2 s2=>[]) (Slm_ SC) (fun i2 s2 hi h=>?_) (fun s2 h=>?_)
 ·have w:=ws_ (i:=i2) (by omega)
  refine S ?_
  refine aG cs (by omega) (fun cs=>S ?_)
  obtain⟨v14,hv14,h⟩:=rb_ h
  refine ar (f:=(ao false)) hv14 SC (S ?_)
  obtain⟨v18,hv18,h⟩:=rb_ h
  refine aj [false,false] (hFS_2 hv18) SC (S ?_)
  refine ai cs h (fun cs h=>S ?_) (fun cs h=>S ?_)
  ·cases rs_ h
   exact ag SC
  ·obtain⟨v23,hv23,h⟩:=rb_ h
   refine ar (f:=(ao false)) hv23 SC (S ?_)
   obtain⟨v27,hv27,h⟩:=rb_ h
   refine aj [false,false] (hFS_2 hv27) SC (S ?_)
   refine ai cs h (fun cs h=>S ?_) (fun cs h=>S ?_)
   ·cases rs_ h
    exact ag SC
   ·have h:=rs_ h
    refine aA ⟨_,h,?_⟩
    exact Slm_ SW
 ·refine S ?_
  refine aJ cs (by omega) (fun cs=>S ?_)
  cases rs_ h
  exact ag SC

theorem sCS_10{a0:Dt}  {r:(List Sa)×Bool}(h:sCS_5 a0=some r):Sat ah 23 [((av true) a0)] (.tup [(.sl false 2 (r.1.map (ao false))),(B r.2)]):=by
 obtain⟨h,cs⟩:=Ro_ h
 unfold sCS_5 at h
 refine au (nt:=29) (rs:=[.tmp 2,.tmp 3]) (n:=100000) Tryz.func23 rfl rfl rfl rfl (by simp) (S ?_)
 obtain⟨v7,hv7,h⟩:=rb_ h
 refine aj [false] (slV_5 hv7) SC (S ?_)
 refine ai cs h (fun cs h=>S ?_) (fun cs h=>S ?_)
 ·obtain⟨n16,hn16,h⟩:=rb_ h
  refine MknH.mk hn16 (S ?_)
  obtain⟨n21,hn21,h⟩:=rb_ h
  refine MknH.mk hn21 (S ?_)
  obtain⟨v22,hv22,h⟩:=rb_ h
  refine aj [true,true,true] (bA (args:=[(.agg [(I a0.Rule),(.agg [(.sl true 5 (a0.Sequent.Left.map (al true))),(.sl true 5 (a0.Sequent.Right.map (al true)))]),(I a0.Main),(.agg [(Sx a0.Term.Name),(.sl true 2 (a0.Term.Args.map (am true)))]),(.agg [(I a0.Cut.Op),(.agg [(Sx a0.Cut.Atom.Name),(.sl true 2 (a0.Cut.Atom.Args.map (am true)))]),(Sx a0.Cut.Var),(.sl true 5 (a0.Cut.Parts.map (al true)))]),(.sl true 12 (a0.Parts.map (av true)))]),(.sl true 1 ((List.replicate n16 false).map B)),(.sl true 1 ((List.replicate n21 false).map B))]) [true,true,true] (by have gg:=slL_2 hv22; simp only[gv_t,gv_f,gv_n,vs_,va_,vl_,vrB_,vrI_,aF,RB,RS] at gg ⊢; exact gg)) SC (S ?_)
  refine ae (DHa_ [] [256,336]) (S ?_)
  refine ai cs h (fun cs h=>S ?_) (fun cs h=>S ?_)
  ·cases rs_ h
   exact aL SC
  ·cases rs_ h
   exact aL SC
 ·cases rs_ h
  exact aL SC

theorem FnExactCharacteristicSequents_sat{a0:Dt}  {r:Bool}(h:FnExactCharacteristicSequents a0=some r):Sat ah 5 [((av false) a0)] (B r):=by
 obtain⟨h,cs⟩:=Ro_ h
 unfold FnExactCharacteristicSequents at h
 refine au (nt:=96) (rs:=[.tmp 2]) (n:=100000) Tryz.func5 rfl rfl rfl rfl (by simp) (S ?_)
 obtain⟨v16,hv16,h⟩:=rb_ h
 refine aj [false,false] (sDs_ hv16) SC (S ?_)
 refine ai cs h (fun cs h=>S ?_) (fun cs h=>S ?_)
 ·cases rs_ h
  exact ag SC
 ·obtain⟨v21,hv21,h⟩:=rb_ h
  refine aj [false] (tDs_ hv21) SC (S ?_)
  obtain⟨v22,hv22,h⟩:=rb_ h
  refine aj [true] (bA (args:=[(.agg [(I v21.Rule),(.agg [(.sl true 5 (v21.Sequent.Left.map (al true))),(.sl true 5 (v21.Sequent.Right.map (al true)))]),(I v21.Main),(.agg [(Sx v21.Term.Name),(.sl true 2 (v21.Term.Args.map (am true)))]),(.agg [(I v21.Cut.Op),(.agg [(Sx v21.Cut.Atom.Name),(.sl true 2 (v21.Cut.Atom.Args.map (am true)))]),(Sx v21.Cut.Var),(.sl true 5 (v21.Cut.Parts.map (al true)))]),(.sl true 12 (v21.Parts.map (av true)))])]) [true] (by have gg:=sCS_8 hv22; simp only[gv_t,gv_f,gv_n,vs_,va_,vl_,vrB_,vrI_,aF,RB,RS] at gg ⊢; exact gg)) SC (S ?_)
  obtain⟨v26,hv26,h⟩:=rb_ h
  refine aj [false] (tDs_ hv26) SC (S ?_)
  obtain⟨v29,hv29,h⟩:=rb_ h
  refine aj [false] (iCS_1 hv29) SC (S ?_)
  obtain⟨v34,hv34,h⟩:=rb_ h
  refine aj [false,false] (eSS_1 hv34) SC (S ?_)
  refine ai cs h (fun cs h=>S ?_) (fun cs h=>S ?_)
  ·refine ai cs h (fun cs h=>S ?_) (fun cs h=>S ?_)
   ·obtain⟨v43,hv43,h⟩:=rb_ h
    refine aj [false] (tDs_ hv43) SC (S ?_)
    obtain⟨v44,hv44,h⟩:=rb_ h
    refine aj [false,false] (eDs_ hv44) SC (S ?_)
    refine ae (DHa_ [] [688,689,690,691,692,693]) (S ?_)
    refine ai cs h (fun cs h=>S ?_) (fun cs h=>S ?_)
    ·obtain⟨v48,hv48,h⟩:=rb_ h
     refine CHi_ [(.node [(.pv (I v26.Rule)),(.node [(.own 416),(.own 417)]),(.pv (I v26.Main)),(.node [(.pv (Sx v26.Term.Name)),(.own 418)]),(.node [(.pv (I v26.Cut.Op)),(.node [(.pv (Sx v26.Cut.Atom.Name)),(.own 419)]),(.pv (Sx v26.Cut.Var)),(.own 420)]),(.own 421)]),(.pv (I (1:Int)))] [(416,(5,v48.2.1.map (al true))),(417,(5,v48.2.2.1.map (al true))),(418,(2,v48.2.2.2.1.map (am true))),(419,(2,v48.2.2.2.2.1.map (am true))),(420,(5,v48.2.2.2.2.2.1.map (al true))),(421,(12,v48.2.2.2.2.2.2.map (av true)))] (mDs_ hv48) SC (S ?_)
     refine ai cs h (fun cs h=>S ?_) (fun cs h=>S ?_)
     ·cases rs_ h
      exact ag SC
     ·obtain⟨v54,hv54,h⟩:=rb_ h
      refine aj [false,false] (eSS_1 hv54) SC (S ?_)
      refine ai cs h (fun cs h=>S ?_) (fun cs h=>S ?_)
      ·obtain⟨v64,hv64,h⟩:=rb_ h
       refine CHi_ [(.own 464),(.pv (I (1:Int)))] [(464,(2,v64.2.map (ao true)))] (mSS_2 hv64) SC (S ?_)
       obtain⟨v67,hv67,h⟩:=rb_ h
       refine aj [false,false] (hSS_1 hv67) SC (S ?_)
       refine ai cs h (fun cs h=>S ?_) (fun cs h=>S ?_)
       ·cases rs_ h
        exact ag SC
       ·refine ai cs h (fun cs h=>S ?_) (fun cs h=>S ?_)
        ·obtain⟨v75,hv75,h⟩:=rb_ h
         refine aj [false] (tDs_ hv75) SC (S ?_)
         obtain⟨v76,hv76,h⟩:=rb_ h
         refine aj [false] (iCS_1 hv76) SC (S ?_)
         obtain⟨v81,hv81,h⟩:=rb_ h
         refine aj [false,false] (eSS_1 hv81) SC (S ?_)
         refine ai cs h (fun cs h=>S ?_) (fun cs h=>S ?_)
         ·refine ai cs h (fun cs h=>S ?_) (fun cs h=>S ?_)
          ·obtain⟨v90,hv90,h⟩:=rb_ h
           refine aj [false,false] (hSS_1 hv90) SC (S ?_)
           refine ai cs h (fun cs h=>S ?_) (fun cs h=>S ?_)
           ·cases rs_ h
            exact ag SC
           ·refine ai cs h (fun cs h=>S ?_) (fun cs h=>S ?_)
            ·cases rs_ h
             exact ag SC
            ·cases rs_ h
             exact ag SC
          ·cases rs_ h
           exact ag SC
         ·cases rs_ h
          exact ag SC
        ·cases rs_ h
         exact ag SC
      ·cases rs_ h
       exact ag SC
    ·cases rs_ h
     exact ag SC
   ·cases rs_ h
    exact ag SC
  ·cases rs_ h
   exact ag SC

end Go.Proofs.YtkoghcphkdecoaaGreat
