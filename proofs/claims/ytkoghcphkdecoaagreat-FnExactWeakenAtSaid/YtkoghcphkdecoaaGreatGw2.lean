/- Lemmas of the proof; each says what it shows. -/
import Derived.Test.YtkoghcphkdecoaaGreatGw1
set_option linter.unusedSimpArgs false
set_option linter.unusedVariables false
set_option linter.defProp false
set_option maxRecDepth 4000
namespace Go.Proofs.YtkoghcphkdecoaaGreat
open Go.Av
open And renaming intro→ag
open CallH renaming mk→ai
open CondH renaming run→ak,t2→aD,f2→aE
open Dt renaming pv→al
open EldH renaming mk→bu
open FinH renaming l→ah,r→aL
open Ft renaming pv→ae
open IdxH renaming mk→ar
open List renaming length_map→aB
open Mg renaming know_sl→aR,forN→aF
open PV renaming views→aI
open RdH renaming mk→aA
open Sa renaming pv→aP
open Sat renaming of_m→av
open St renaming le_trans→aM
open Tryz renaming prog→aj
open Tt renaming pv→am
open VSeq renaming step→au,nil→aW
set_option maxHeartbeats 4000000
theorem isN_2(n:Nat):(∀ (a0:Ft) (a1:ByteArray) (a2:Tt) (r:Ft×Bool),isN_ n a0 a1 a2=some r→Sat aj 214 [((ae false) a0),(Sx a1),((am false) a2)] (.tup [((ae true) r.1),(B r.2)]))∧(∀ (a0:Ft) (b0:ByteArray) (b1:Tt) (b2:Bool) (r:Ft×Bool),is1_ n a0 b0 b1 b2=some r→SatH aj 219 [((ae false) a0),.ptr (Sx b0),.ptr ((am false) b1)] [] .ptr [] (.pv (B b2)) (.pv (B r.2)) ((ae true) r.1)):=by
 induction n with
 | zero=>exact⟨fun _ _ _ _ h=>by simp[isN_] at h,fun _ _ _ _ _ h=>by simp[is1_] at h⟩
 | succ n ih=>
  refine⟨fun a0 a1 a2 r h=>?_,fun a0 b0 b1 b2 r h=>?_⟩
  ·obtain⟨h,cs⟩:=Ro_ h
   rw[isN_] at h
   refine av (nt:=55) (rs:=[.cell 6 44,.tmp 7]) (n:=100000) Tryz.func214 rfl rfl rfl rfl (by simp) (S ?_)
   obtain⟨v12,hv12,h⟩:=rb_ h
   refine ai [false] (iiQ_ hv12) SC (S ?_)
   refine ak cs h (fun cs h=>S ?_) (fun cs h=>S ?_)
   ·refine ak cs h (fun cs h=>S ?_) (fun cs h=>S ?_)
    ·refine ag (DHa_ [] []) (S ?_)
     obtain⟨v27,hv27,h⟩:=rb_ h
     refine ai [false] (icF_2 hv27) SC (S ?_)
     cases rs_ h
     exact ah SC
    ·obtain⟨v20,hv20,h⟩:=rb_ h
     refine ai [false] (ifs_ hv20) SC (S ?_)
     obtain⟨v22,hv22,h⟩:=rb_ h
     refine ai [false,false] (sCS_2 hv22) SC (S ?_)
     refine ag (DHa_ [] [320]) (S ?_)
     refine ak cs h (fun cs h=>S ?_) (fun cs h=>S ?_)
     ·obtain⟨v30,hv30,h⟩:=rb_ h
      refine ai [false] (iiQ_ hv30) SC (S ?_)
      refine ak cs h (fun cs h=>S ?_) (fun cs h=>S ?_)
      ·obtain⟨v35,hv35,h⟩:=rb_ h
       refine ai [false,false] (ios_ hv35) SC (S ?_)
       refine ak cs h (fun cs h=>S ?_) (fun cs h=>S ?_)
       ·cases rs_ h
        exact ah SC
       ·refine MfH.hcl (r:=8) (x:=(.pv (B true))) [.tmp 4,.tmp 5] [] [(4,(Sx a1)),(5,((am false) a2))] [false,false,true] [(.ptr (Sx a1)),(.ptr ((am false) a2))] rfl rfl rfl SC (S ?_)
        obtain⟨v40,hv40,h⟩:=rb_ h
        refine HandH.call (r:=8) (hc:=.cv (.pv (B true))) 1 [_] [] [(.pv ((ae false) a0))] [] [false] (imP_1 (a1_id:=219) (a1_pat:=[false,false,true]) (a1_ps:=[(.ptr (Sx a1)),(.ptr ((am false) a2))]) (a1_p1:=[(.ptr (Sx a1)),(.ptr ((am false) a2))]) (a1_p2:=[]) (a1_ok:=fun _ _ _ hh=>ih.2 _ _ _ _ _ hh) (a1_sp:=rfl) (a1_cz:=by simp only[COn_,COc_]) hv40) rfl rfl rfl SC (S ?_)
        refine ak cs h (fun cs h=>S ?_) (fun cs h=>S ?_)
        ·obtain⟨v51,hv51,h⟩:=rb_ h
         refine ai [false,false] (iSa_2 hv51) SC (S ?_)
         refine ag (DHa_ [] []) (S ?_)
         cases rs_ h
         exact ah SC
        ·refine ag (DHa_ [] []) (S ?_)
         cases rs_ h
         exact ah SC
      ·refine MfH.hcl (r:=8) (x:=(.pv (B true))) [.tmp 4,.tmp 5] [] [(4,(Sx a1)),(5,((am false) a2))] [false,false,true] [(.ptr (Sx a1)),(.ptr ((am false) a2))] rfl rfl rfl SC (S ?_)
       obtain⟨v40,hv40,h⟩:=rb_ h
       refine HandH.call (r:=8) (hc:=.cv (.pv (B true))) 1 [_] [] [(.pv ((ae false) a0))] [] [false] (imP_1 (a1_id:=219) (a1_pat:=[false,false,true]) (a1_ps:=[(.ptr (Sx a1)),(.ptr ((am false) a2))]) (a1_p1:=[(.ptr (Sx a1)),(.ptr ((am false) a2))]) (a1_p2:=[]) (a1_ok:=fun _ _ _ hh=>ih.2 _ _ _ _ _ hh) (a1_sp:=rfl) (a1_cz:=by simp only[COn_,COc_]) hv40) rfl rfl rfl SC (S ?_)
       refine ak cs h (fun cs h=>S ?_) (fun cs h=>S ?_)
       ·obtain⟨v51,hv51,h⟩:=rb_ h
        refine ai [false,false] (iSa_2 hv51) SC (S ?_)
        refine ag (DHa_ [] []) (S ?_)
        cases rs_ h
        exact ah SC
       ·refine ag (DHa_ [] []) (S ?_)
        cases rs_ h
        exact ah SC
     ·obtain⟨v27,hv27,h⟩:=rb_ h
      refine ai [false] (icF_2 hv27) SC (S ?_)
      cases rs_ h
      exact ah SC
   ·refine ag (DHa_ [] []) (S ?_)
    obtain⟨v30,hv30,h⟩:=rb_ h
    refine ai [false] (iiQ_ hv30) SC (S ?_)
    refine ak cs h (fun cs h=>S ?_) (fun cs h=>S ?_)
    ·obtain⟨v35,hv35,h⟩:=rb_ h
     refine ai [false,false] (ios_ hv35) SC (S ?_)
     refine ak cs h (fun cs h=>S ?_) (fun cs h=>S ?_)
     ·cases rs_ h
      exact ah SC
     ·refine MfH.hcl (r:=8) (x:=(.pv (B true))) [.tmp 4,.tmp 5] [] [(4,(Sx a1)),(5,((am false) a2))] [false,false,true] [(.ptr (Sx a1)),(.ptr ((am false) a2))] rfl rfl rfl SC (S ?_)
      obtain⟨v40,hv40,h⟩:=rb_ h
      refine HandH.call (r:=8) (hc:=.cv (.pv (B true))) 1 [_] [] [(.pv ((ae false) a0))] [] [false] (imP_1 (a1_id:=219) (a1_pat:=[false,false,true]) (a1_ps:=[(.ptr (Sx a1)),(.ptr ((am false) a2))]) (a1_p1:=[(.ptr (Sx a1)),(.ptr ((am false) a2))]) (a1_p2:=[]) (a1_ok:=fun _ _ _ hh=>ih.2 _ _ _ _ _ hh) (a1_sp:=rfl) (a1_cz:=by simp only[COn_,COc_]) hv40) rfl rfl rfl SC (S ?_)
      refine ak cs h (fun cs h=>S ?_) (fun cs h=>S ?_)
      ·obtain⟨v51,hv51,h⟩:=rb_ h
       refine ai [false,false] (iSa_2 hv51) SC (S ?_)
       refine ag (DHa_ [] []) (S ?_)
       cases rs_ h
       exact ah SC
      ·refine ag (DHa_ [] []) (S ?_)
       cases rs_ h
       exact ah SC
    ·refine MfH.hcl (r:=8) (x:=(.pv (B true))) [.tmp 4,.tmp 5] [] [(4,(Sx a1)),(5,((am false) a2))] [false,false,true] [(.ptr (Sx a1)),(.ptr ((am false) a2))] rfl rfl rfl SC (S ?_)
     obtain⟨v40,hv40,h⟩:=rb_ h
     refine HandH.call (r:=8) (hc:=.cv (.pv (B true))) 1 [_] [] [(.pv ((ae false) a0))] [] [false] (imP_1 (a1_id:=219) (a1_pat:=[false,false,true]) (a1_ps:=[(.ptr (Sx a1)),(.ptr ((am false) a2))]) (a1_p1:=[(.ptr (Sx a1)),(.ptr ((am false) a2))]) (a1_p2:=[]) (a1_ok:=fun _ _ _ hh=>ih.2 _ _ _ _ _ hh) (a1_sp:=rfl) (a1_cz:=by simp only[COn_,COc_]) hv40) rfl rfl rfl SC (S ?_)
     refine ak cs h (fun cs h=>S ?_) (fun cs h=>S ?_)
     ·obtain⟨v51,hv51,h⟩:=rb_ h
      refine ai [false,false] (iSa_2 hv51) SC (S ?_)
      refine ag (DHa_ [] []) (S ?_)
      cases rs_ h
      exact ah SC
     ·refine ag (DHa_ [] []) (S ?_)
      cases rs_ h
      exact ah SC
  ·obtain⟨h,cs⟩:=Ro_ h
   rw[is1_] at h
   refine SHo_ (nt:=20) (rs:=[.cell 5 44]) (n:=100000) 3 Tryz.func219 rfl rfl rfl rfl rfl (Nat.le_of_ble_eq_true rfl) (by decide) (by first | exact Nat.le_of_ble_eq_true rfl | exact SC) (S ?_)
   obtain⟨v12,hv12,h⟩:=rb_ h
   refine ai [false,false,false] (ih.1 _ _ _ _ hv12) SC (S ?_)
   refine ak cs h (fun cs h=>S ?_) (fun cs h=>S ?_)
   ·cases rs_ h
    exact RetHB.l SC
   ·cases rs_ h
    exact RetHB.l SC
theorem iss_{a0:Ft}{a1:ByteArray}{a2:Tt}{r:Ft×Bool}(h:is_ a0 a1 a2=some r):Sat aj 214 [((ae false) a0),(Sx a1),((am false) a2)] (.tup [((ae true) r.1),(B r.2)]):=by
 obtain⟨n,hn⟩:=ls_ h
 exact(isN_2 n).1 _ _ _ _ hn
theorem is1_2{a0:Ft}{b0:ByteArray}{b1:Tt}{b2:Bool}{r:Ft×Bool}(h:is1_1 a0 b0 b1 b2=some r):SatH aj 219 [((ae false) a0),.ptr (Sx b0),.ptr ((am false) b1)] [] .ptr [] (.pv (B b2)) (.pv (B r.2)) ((ae true) r.1):=by
 obtain⟨n,hn⟩:=ls_ h
 exact(isN_2 n).2 _ _ _ _ _ hn

theorem iiF_6{a0:Ft}  {r:Ft×Bool}(h:iiF_1 a0=some r):Sat aj 215 [((ae false) a0)] (.tup [((ae false) r.1),(B r.2)]):=by
 obtain⟨h,cs⟩:=Ro_ h
 unfold iiF_1 at h
 refine av (nt:=9) (rs:=[.cell 2 44,.tmp 3]) (n:=100000) Tryz.func215 rfl rfl rfl rfl (by simp) (S ?_)
 obtain⟨v5,hv5,h⟩:=rb_ h
 refine ai [false] (iIV_4 hv5) SC (S ?_)
 refine ak cs h (fun cs h=>S ?_) (fun cs h=>S ?_)
 ·cases rs_ h
  exact aL SC
 ·cases rs_ h
  exact aL SC

theorem iiF_4{a0:Ft}  {r:Ft×Bool}(h:iiF_1 a0=some r):Sat aj 215 [((ae true) a0)] (.tup [((ae true) r.1),(B r.2)]):=by
 obtain⟨h,cs⟩:=Ro_ h
 unfold iiF_1 at h
 refine av (nt:=9) (rs:=[.cell 2 44,.tmp 3]) (n:=100000) Tryz.func215 rfl rfl rfl rfl (by simp) (S ?_)
 obtain⟨v5,hv5,h⟩:=rb_ h
 refine ai [false] (iIV_4 hv5) SC (S ?_)
 refine ak cs h (fun cs h=>S ?_) (fun cs h=>S ?_)
 ·cases rs_ h
  exact ah SC
 ·cases rs_ h
  exact ah SC

theorem iSF_1{a0:Ft}{a1:ByteArray}{a2:Tt}  {r:Ft×Bool}(h:iSF_ a0 a1 a2=some r):Sat aj 211 [((ae false) a0),(Sx a1),((am false) a2)] (.tup [((ae true) r.1),(B r.2)]):=by
 obtain⟨h,cs⟩:=Ro_ h
 unfold iSF_ at h
 refine av (nt:=38) (rs:=[.cell 6 44,.tmp 7]) (n:=100000) Tryz.func211 rfl rfl rfl rfl (by simp) (S ?_)
 obtain⟨v11,hv11,h⟩:=rb_ h
 refine ai [false] (iIV_4 hv11) SC (S ?_)
 refine ak cs h (fun cs h=>S ?_) (fun cs h=>S ?_)
 ·obtain⟨v15,hv15,h⟩:=rb_ h
  refine ai [false] (iiV_1 hv15) SC (S ?_)
  refine ak cs h (fun cs h=>S ?_) (fun cs h=>S ?_)
  ·obtain⟨v20,hv20,h⟩:=rb_ h
   refine ai [false] (iIV_11 hv20) SC (S ?_)
   refine ak cs h (fun cs h=>S ?_) (fun cs h=>S ?_)
   ·obtain⟨v28,hv28,h⟩:=rb_ h
    refine ai [false,false,false] (iss_ hv28) SC (S ?_)
    refine ak cs h (fun cs h=>S ?_) (fun cs h=>S ?_)
    ·obtain⟨v35,hv35,h⟩:=rb_ h
     refine ai [true] (iiF_4 hv35) SC (S ?_)
     cases rs_ h
     exact ah SC
    ·cases rs_ h
     exact ah SC
   ·cases rs_ h
    exact ah SC
  ·cases rs_ h
   exact ah SC
 ·cases rs_ h
  exact ah SC

theorem iis_{a0:Sa}{a1:Dt}{a2:Ft}  {r:(List Sa)×Bool}(h:ii_ a0 a1 a2=some r):Sat aj 204 [((aP false) a0),((al false) a1),((ae false) a2)] (.tup [(.sl true 2 (r.1.map (aP true))),(B r.2)]):=by
 obtain⟨h,cs⟩:=Ro_ h
 unfold ii_ at h
 refine av (nt:=59) (rs:=[.tmp 6,.tmp 7]) (n:=100000) Tryz.func204 rfl rfl rfl rfl (by simp) (S ?_)
 obtain⟨v14,hv14,h⟩:=rb_ h
 refine ai [false] (imR_1 hv14) SC (S ?_)
 refine ak cs h (fun cs h=>S ?_) (fun cs h=>S ?_)
 ·obtain⟨v33,hv33,h⟩:=rb_ h
  refine ar (f:=(ae false)) hv33 SC (S ?_)
  obtain⟨v39,hv39,h⟩:=rb_ h
  refine ai [false,false,false] (iSF_1 hv39) SC (S ?_)
  refine ag (DHa_ [8] [624,625]) (S ?_)
  refine ak cs h (fun cs h=>S ?_) (fun cs h=>S ?_)
  ·obtain⟨v47,hv47,h⟩:=rb_ h
   refine ai [false] (imO_1 hv47) SC (S ?_)
   refine ak cs h (fun cs h=>S ?_) (fun cs h=>S ?_)
   ·cases rs_ h
    exact ah SC
   ·cases rs_ h
    exact ah SC
  ·cases rs_ h
   exact ah SC
 ·obtain⟨v20,hv20,h⟩:=rb_ h
  refine ai [false] (iiV_1 hv20) SC (S ?_)
  refine ak cs h (fun cs h=>S ?_) (fun cs h=>S ?_)
  ·obtain⟨v27,hv27,h⟩:=rb_ h
   refine ai [false,false] (iiF_5 hv27) SC (S ?_)
   refine ak cs h (fun cs h=>S ?_) (fun cs h=>S ?_)
   ·cases rs_ h
    exact ah SC
   ·obtain⟨v33,hv33,h⟩:=rb_ h
    refine ar (f:=(ae false)) hv33 SC (S ?_)
    obtain⟨v39,hv39,h⟩:=rb_ h
    refine ai [false,false,false] (iSF_1 hv39) SC (S ?_)
    refine ag (DHa_ [8] [624,625]) (S ?_)
    refine ak cs h (fun cs h=>S ?_) (fun cs h=>S ?_)
    ·obtain⟨v47,hv47,h⟩:=rb_ h
     refine ai [false] (imO_1 hv47) SC (S ?_)
     refine ak cs h (fun cs h=>S ?_) (fun cs h=>S ?_)
     ·cases rs_ h
      exact ah SC
     ·cases rs_ h
      exact ah SC
    ·cases rs_ h
     exact ah SC
  ·cases rs_ h
   exact ah SC

theorem ia1_1{a0:Int}{b0:Ft}  {r:List Ft}(h:ia1_ a0 b0=some r):Sat aj 205 [(I a0),.ptr ((ae false) b0)] (.sl true 5 (r.map (ae false))):=by
 obtain⟨h,cs⟩:=Ro_ h
 unfold ia1_ at h
 refine av (nt:=10) (rs:=[.tmp 3]) (n:=100000) Tryz.func205 rfl rfl rfl rfl (by simp) (S ?_)
 obtain⟨v7,hv7,h⟩:=rb_ h
 refine ar (f:=(ae false)) hv7 SC (S ?_)
 cases rs_ h
 exact ah SC

theorem ia2_1{a0:Ft}{b0:Ft}  {r:Bool}(h:ia2_ a0 b0=some r):Sat aj 206 [((ae false) a0),.ptr ((ae false) b0)] (B r):=by
 obtain⟨h,cs⟩:=Ro_ h
 unfold ia2_ at h
 refine av (nt:=7) (rs:=[.tmp 3]) (n:=100000) Tryz.func206 rfl rfl rfl rfl (by simp) (S ?_)
 obtain⟨v6,hv6,h⟩:=rb_ h
 refine ai [false,false] (isF_3 hv6) SC (S ?_)
 cases rs_ h
 exact ah SC

theorem ias_{a0:Sa}{a1:Dt}  {r:(List Sa)×Bool}(h:ia_ a0 a1=some r):Sat aj 194 [((aP false) a0),((al false) a1)] (.tup [(.sl false 2 (r.1.map (aP false))),(B r.2)]):=by
 obtain⟨h,cs⟩:=Ro_ h
 unfold ia_ at h
 refine av (nt:=147) (rs:=[.tmp 4,.tmp 5]) (n:=100000) Tryz.func194 rfl rfl rfl rfl (by simp) (SB ?_)
 refine ak cs h (fun cs h=>SB ?_) (fun cs h=>SB ?_)
 ·refine ak cs h (fun cs h=>SB ?_) (fun cs h=>SB ?_)
  ·obtain⟨v18,hv18,h⟩:=rb_ h
   refine ai [false] (iiZ_ hv18) SC (SB ?_)
   refine ak cs h (fun cs h=>SB ?_) (fun cs h=>SB ?_)
   ·obtain⟨v24,hv24,h⟩:=rb_ h
    refine ai [false] (iIV_4 hv24) SC (SB ?_)
    refine ak cs h (fun cs h=>SB ?_) (fun cs h=>SB ?_)
    ·refine OrR.v [((ae false) a1.Cut)] (SB ?_)
     refine OrR.v [((ae false) a1.Cut)] (SB ?_)
     refine OrR.l (SB ?_)
     cases rs_ h
     exact aL SC
    ·cases rs_ h
     exact aL SC
   ·cases rs_ h
    exact aL SC
  ·cases rs_ h
   exact aL SC
 ·obtain⟨v38,hv38,h⟩:=rb_ h
  refine ai [false,false,false] (iws_ hv38) SC (SB ?_)
  refine ak cs h (fun cs h=>SB ?_) (fun cs h=>SB ?_)
  ·obtain⟨v44,hv44,h⟩:=rb_ h
   refine ai [false,false] (isF_3 hv44) SC (SB ?_)
   refine ak cs h (fun cs h=>SB ?_) (fun cs h=>SB ?_)
   ·obtain⟨v50,hv50,h⟩:=rb_ h
    refine ai [false] (iiQ_3 hv50) SC (SB ?_)
    obtain⟨v53,hv53,h⟩:=rb_ h
    refine ai [false] (iiZ_ hv53) SC (SB ?_)
    refine ag (DHa_ [] []) (SB ?_)
    refine ak cs h (fun cs h=>SB ?_) (fun cs h=>SB ?_)
    ·obtain⟨v60,hv60,h⟩:=rb_ h
     refine ai [false,false] (imF_1 hv60) SC (SB ?_)
     refine ak cs h (fun cs h=>SB ?_) (fun cs h=>SB ?_)
     ·obtain⟨v67,hv67,h⟩:=rb_ h
      refine ai [false] (iiQ_3 hv67) SC (SB ?_)
      refine ak cs h (fun cs h=>SB ?_) (fun cs h=>SB ?_)
      ·obtain⟨v71,hv71,h⟩:=rb_ h
       refine ai [false,false,false] (iis_ hv71) SC (SB ?_)
       cases rs_ h
       exact aL SC
      ·refine MfH.fr (SB ?_)
       refine ak cs h (fun cs h=>SB ?_) (fun cs h=>SB ?_)
       ·refine ak cs h (fun cs h=>SB ?_) (fun cs h=>SB ?_)
        ·cases rs_ h
         exact aL SC
        ·refine MfH.fr (SB ?_)
         obtain⟨v86,hv86,h⟩:=rb_ h
         refine ai [false,false] (sCF_1 (fun _ _ hh=>ia2_1 hh) (by simp only[COn_,COc_]) hv86) SC (SB ?_)
         cases rs_ h
         exact aL SC
       ·refine ak cs h (fun cs h=>SB ?_) (fun cs h=>SB ?_)
        ·cases rs_ h
         exact aL SC
        ·refine ak cs h (fun cs h=>SB ?_) (fun cs h=>SB ?_)
         ·obtain⟨v93,hv93,h⟩:=rb_ h
          refine ai [false] (SvO_ (res':=(.sl false 5 (v93.map (ae false)))) (ia1_1 hv93) (by simp only[vt_,vs_,va_,vl_,aI,RB,RS])) SC (SB ?_)
          refine OrR.l (SB ?_)
          cases rs_ h
          exact aL SC
         ·refine ak cs h (fun cs h=>SB ?_) (fun cs h=>SB ?_)
          ·obtain⟨v99,hv99,h⟩:=rb_ h
           refine ai [false] (SvO_ (res':=(.sl false 5 (v99.map (ae false)))) (ia1_1 hv99) (by simp only[vt_,vs_,va_,vl_,aI,RB,RS])) SC (SB ?_)
           refine OrR.l (SB ?_)
           cases rs_ h
           exact aL SC
          ·refine ak cs h (fun cs h=>SB ?_) (fun cs h=>SB ?_)
           ·refine OrR.l (SB ?_)
            cases rs_ h
            exact aL SC
           ·refine ak cs h (fun cs h=>SB ?_) (fun cs h=>SB ?_)
            ·obtain⟨v111,hv111,h⟩:=rb_ h
             refine ai [false] (SvO_ (res':=(.sl false 5 (v111.map (ae false)))) (ia1_1 hv111) (by simp only[vt_,vs_,va_,vl_,aI,RB,RS])) SC (SB ?_)
             obtain⟨v114,hv114,h⟩:=rb_ h
             refine ai [false] (SvO_ (res':=(.sl false 5 (v114.map (ae false)))) (ia1_1 hv114) (by simp only[vt_,vs_,va_,vl_,aI,RB,RS])) SC (SB ?_)
             refine OrR.l (SB ?_)
             cases rs_ h
             exact aL SC
            ·refine ak cs h (fun cs h=>SB ?_) (fun cs h=>SB ?_)
             ·obtain⟨v120,hv120,h⟩:=rb_ h
              refine ai [false] (SvO_ (res':=(.sl false 5 (v120.map (ae false)))) (ia1_1 hv120) (by simp only[vt_,vs_,va_,vl_,aI,RB,RS])) SC (SB ?_)
              obtain⟨v123,hv123,h⟩:=rb_ h
              refine ai [false] (SvO_ (res':=(.sl false 5 (v123.map (ae false)))) (ia1_1 hv123) (by simp only[vt_,vs_,va_,vl_,aI,RB,RS])) SC (SB ?_)
              refine OrR.l (SB ?_)
              cases rs_ h
              exact aL SC
             ·refine ak cs h (fun cs h=>SB ?_) (fun cs h=>SB ?_)
              ·refine OrR.l (SB ?_)
               cases rs_ h
               exact aL SC
              ·refine ak cs h (fun cs h=>SB ?_) (fun cs h=>SB ?_)
               ·obtain⟨v135,hv135,h⟩:=rb_ h
                refine ai [false] (SvO_ (res':=(.sl false 5 (v135.map (ae false)))) (ia1_1 hv135) (by simp only[vt_,vs_,va_,vl_,aI,RB,RS])) SC (SB ?_)
                obtain⟨v138,hv138,h⟩:=rb_ h
                refine ai [false] (SvO_ (res':=(.sl false 5 (v138.map (ae false)))) (ia1_1 hv138) (by simp only[vt_,vs_,va_,vl_,aI,RB,RS])) SC (SB ?_)
                refine OrR.l (SB ?_)
                cases rs_ h
                exact aL SC
               ·obtain⟨v142,hv142,h⟩:=rb_ h
                refine ai [false] (SvO_ (res':=(.sl false 5 (v142.map (ae false)))) (ia1_1 hv142) (by simp only[vt_,vs_,va_,vl_,aI,RB,RS])) SC (SB ?_)
                obtain⟨v144,hv144,h⟩:=rb_ h
                refine ai [false] (SvO_ (res':=(.sl false 5 (v144.map (ae false)))) (ia1_1 hv144) (by simp only[vt_,vs_,va_,vl_,aI,RB,RS])) SC (SB ?_)
                refine OrR.l (SB ?_)
                cases rs_ h
                exact aL SC
     ·cases rs_ h
      exact aL SC
    ·cases rs_ h
     exact aL SC
   ·refine ag (DHa_ [] []) (SB ?_)
    cases rs_ h
    exact aL SC
  ·refine ag (DHa_ [] []) (SB ?_)
   cases rs_ h
   exact aL SC

theorem iDr_2{a0:Dt}{a1:Bool}{a2:Int}  {r:Bool}(h:iDr_ a0 a1 a2=some r):Sat aj 114 [((al false) a0),(B a1),(I a2)] (B r):=by
 obtain⟨h,cs⟩:=Ro_ h
 unfold iDr_ at h
 refine av (nt:=32) (rs:=[.tmp 6]) (n:=100000) Tryz.func114 rfl rfl rfl rfl (by simp) (S ?_)
 refine ak cs h (fun cs h=>S ?_) (fun cs h=>S ?_)
 ·cases rs_ h
  exact ah SC
 ·obtain⟨v15,hv15,h⟩:=rb_ h
  refine ai [false] (imR_1 hv15) SC (S ?_)
  refine ak cs h (fun cs h=>S ?_) (fun cs h=>S ?_)
  ·cases rs_ h
   exact ah SC
  ·obtain⟨v20,hv20,h⟩:=rb_ h
   refine ai [false] (imO_1 hv20) SC (S ?_)
   refine ak cs h (fun cs h=>S ?_) (fun cs h=>S ?_)
   ·cases rs_ h
    exact ah SC
   ·cases rs_ h
    exact ah SC

theorem iDr_3{a0:Dt}{a1:List Ft}{a2:Bool}  {r:List Ft}(h:iDr_1 a0 a1 a2=some r):Sat aj 195 [((al false) a0),(.sl false 5 (a1.map (ae false))),(B a2)] (.sl true 5 (r.map (ae false))):=by
 obtain⟨h,cs⟩:=Ro_ h
 unfold iDr_1 at h
 refine av (nt:=29) (rs:=[.tmp 6]) (n:=100000) Tryz.func195 rfl rfl rfl rfl (by simp) (S ?_)
 refine aR (b:=false) (sz:=5) (es:=a1.map (ae false)) 1 SC fun hl1=>?_; rw[aB] at hl1
 replace h:=rl_ h
 refine aF h (fun i3 s3=>[(2,.val (.pv (B a2))),(3,.box (.pv ((al false) a0))),(7,.val (.own 160)),(11,.val (.pv (.sl false 5 (a1.map (ae false))))),(12,.val (.pv (I (a1.length:Int)))),(13,.val (.pv (I (i3:Int))))]) (fun i3 s3=>[(160,(5,s3.map (ae false)))]) (Slm_ SC) (fun i3 s3 hi h=>?_) (fun s3 h=>?_)
 ·have w:=ws_ (i:=i3) (by omega)
  refine S ?_
  refine aD cs (by omega) (fun cs=>S ?_)
  obtain⟨v16,hv16,h⟩:=rb_ h
  refine ar (f:=(ae false)) hv16 SC (S ?_)
  obtain⟨v21,hv21,h⟩:=rb_ h
  refine ai [false,false,false] (iDr_2 hv21) SC (S ?_)
  refine ak cs h (fun cs h=>S ?_) (fun cs h=>S ?_)
  ·have h:=rs_ h
   refine aA ⟨_,h,?_⟩
   exact Slm_ SW
  ·obtain⟨v26,hv26,h⟩:=rb_ h
   refine AppH.mk (f:=(ae false)) (fun a=>Ft.psize _ a) hv26 SC SC (S ?_)
   have h:=rs_ h
   refine aA ⟨_,h,?_⟩
   refine aM (Slm_1 (S:=[(2,.val (.pv (B a2))),(3,.box (.pv ((al false) a0))),(7,.val (.own 416)),(11,.val (.pv (.sl false 5 (a1.map (ae false))))),(12,.val (.pv (I (a1.length:Int)))),(13,.val (.pv (I (IntKind.i64.wrap ((i3:Int)+1)))))]) (O:=[(416,(5,v26.map (ae false)))]) SW SW) ?_
   refine Slr_ 416 160 (by decide) NM ?_
   exact Slm_ SW
 ·refine S ?_
  refine aE cs (by omega) (fun cs=>S ?_)
  cases rs_ h
  exact ah SC

theorem sGS_1{a1:Int}  {r:List Ft}(h:sGS_ a1=some r):Sat aj 129 [(.lit (.slice none 0 0)),(I a1)] (.sl true 5 (r.map (ae false))):=by
 obtain⟨h,cs⟩:=Ro_ h
 unfold sGS_ at h
 refine Son_ (sz:=5) (nt:=27) (rs:=[.tmp 4]) (n:=100000) Tryz.func129 rfl rfl rfl rfl (by simp) (S ?_)
 refine ak cs h (fun cs h=>S ?_) (fun cs h=>S ?_)
 ·exact rn_ h
 ·refine ak cs h (fun cs h=>S ?_) (fun cs h=>S ?_)
  ·obtain⟨n22,hn22,h⟩:=rb_ h
   refine AppzH.mk hn22 (S ?_)
   obtain⟨v25,hv25,h⟩:=rb_ h
   refine SlcOH.mk (f:=(ae true)) hv25 SC ?_
   obtain rfl:=sn_4 hv25
   refine S ?_
   refine S ?_
   cases rs_ h
   exact ah SC
  ·cases rs_ h
   exact ah SC

theorem sCS_4{a0:List (List Ft)}  {r:List Ft}(h:sCS_1 a0=some r):Sat aj 98 [(.sl false 1 (a0.map (Lv false 5 (ae false))))] (.sl true 5 (r.map (ae false))):=by
 obtain⟨h,cs⟩:=Ro_ h
 unfold sCS_1 at h
 refine av (nt:=36) (rs:=[.tmp 2]) (n:=100000) Tryz.func98 rfl rfl rfl rfl (by simp) (S ?_)
 refine aR (b:=false) (sz:=1) (es:=a0.map (Lv false 5 (ae false))) 0 SC fun hl0=>?_; rw[aB] at hl0
 replace h:=rl_ h
 refine aF h (fun i3 s3=>[(0,.val (.pv (.sl false 1 (a0.map (Lv false 5 (ae false)))))),(3,.val (.pv (I s3))),(9,.val (.pv (.sl false 1 (a0.map (Lv false 5 (ae false)))))),(10,.val (.pv (I (a0.length:Int)))),(11,.val (.pv (I (i3:Int))))]) (fun i3 s3=>[]) (Slm_ SC) (fun i3 s3 hi h=>?_) (fun s3 h=>?_)
 ·have w:=ws_ (i:=i3) (by omega)
  refine S ?_
  refine aD cs (by omega) (fun cs=>S ?_)
  obtain⟨v13,hv13,h⟩:=rb_ h
  refine ar (f:=(Lv false 5 (ae false))) hv13 SC (S ?_)
  refine ak cs h (fun cs h=>S ?_) (fun cs h=>S ?_)
  ·exact rn_ h
  ·have h:=rs_ h
   refine aA ⟨_,h,?_⟩
   exact Slm_ SW
 ·refine S ?_
  refine aE cs (by omega) (fun cs=>S ?_)
  obtain⟨v24,hv24,h⟩:=rb_ h
  refine CHn_ (h:=sGS_1 hv24) (by refine S ?_; exact NM) (S ?_)
  refine aR (b:=false) (sz:=1) (es:=a0.map (Lv false 5 (ae false))) 0 SC fun hl0=>?_; rw[aB] at hl0
  replace h:=rl_ h
  refine aF h (fun i11 s11=>[(6,.val (.own 384)),(25,.val (.pv (.sl false 1 (a0.map (Lv false 5 (ae false)))))),(26,.val (.pv (I (a0.length:Int)))),(27,.val (.pv (I (i11:Int))))]) (fun i11 s11=>[(384,(5,s11.map (ae false)))]) (Slm_ SC) (fun i11 s11 hi h=>?_) (fun s11 h=>?_)
  ·have w:=ws_ (i:=i11) (by omega)
   refine S ?_
   refine aD cs (by omega) (fun cs=>S ?_)
   obtain⟨v29,hv29,h⟩:=rb_ h
   refine ar (f:=(Lv false 5 (ae false))) hv29 SC (S ?_)
   obtain⟨v33,hv33,h⟩:=rb_ h
   refine AppH.mk (f:=(ae false)) (fun a=>Ft.psize _ a) hv33 SC SC (S ?_)
   have h:=rs_ h
   refine aA ⟨_,h,?_⟩
   refine aM (Slm_1 (S:=[(6,.val (.own 528)),(25,.val (.pv (.sl false 1 (a0.map (Lv false 5 (ae false)))))),(26,.val (.pv (I (a0.length:Int)))),(27,.val (.pv (I (IntKind.i64.wrap ((i11:Int)+1)))))]) (O:=[(528,(5,v33.map (ae false)))]) SW SW) ?_
   refine Slr_ 528 384 (by decide) NM ?_
   exact Slm_ SW
  ·refine S ?_
   cases rs_ h
   exact ah SC

theorem icF_4{a0:List Ft}  {r:List Ft}(h:icF_3 a0=some r):Sat aj 102 [(.sl false 5 (a0.map (ae false)))] (.sl true 5 (r.map (ae true))):=by
 obtain⟨h,cs⟩:=Ro_ h
 unfold icF_3 at h
 refine av (nt:=20) (rs:=[.tmp 2]) (n:=100000) Tryz.func102 rfl rfl rfl rfl (by simp) (S ?_)
 refine aR (b:=false) (sz:=5) (es:=a0.map (ae false)) 0 SC fun hl0=>?_; rw[aB] at hl0
 replace h:=rl_ h
 refine aF h (fun i3 s3=>[(3,.val (.own 96)),(7,.val (.pv (.sl false 5 (a0.map (ae false))))),(8,.val (.pv (I (a0.length:Int)))),(9,.val (.pv (I (i3:Int))))]) (fun i3 s3=>[(96,(5,s3.map (ae true)))]) (Slm_ SC) (fun i3 s3 hi h=>?_) (fun s3 h=>?_)
 ·have w:=ws_ (i:=i3) (by omega)
  refine S ?_
  refine aD cs (by omega) (fun cs=>S ?_)
  obtain⟨v11,hv11,h⟩:=rb_ h
  refine ar (f:=(ae false)) hv11 SC (S ?_)
  obtain⟨v15,hv15,h⟩:=rb_ h
  refine ai [false] (icF_2 hv15) SC (S ?_)
  obtain⟨v17,hv17,h⟩:=rb_ h
  refine AppH.mk (f:=(ae true)) (fun a=>Ft.psize _ a) hv17 SC SC (S ?_)
  have h:=rs_ h
  refine aA ⟨_,h,?_⟩
  refine aM (Slm_1 (S:=[(3,.val (.own 272)),(7,.val (.pv (.sl false 5 (a0.map (ae false))))),(8,.val (.pv (I (a0.length:Int)))),(9,.val (.pv (I (IntKind.i64.wrap ((i3:Int)+1)))))]) (O:=[(272,(5,v17.map (ae true)))]) SW SW) ?_
  refine Slr_ 272 96 (by decide) NM ?_
  exact Slm_ SW
 ·refine S ?_
  refine aE cs (by omega) (fun cs=>S ?_)
  cases rs_ h
  exact ah SC

theorem icS_1{a0:Sa}  {r:Sa}(h:icS_ a0=some r):Sat aj 60 [((aP false) a0)] ((aP true) r):=by
 obtain⟨h,cs⟩:=Ro_ h
 unfold icS_ at h
 refine av (nt:=10) (rs:=[.cell 2 39]) (n:=100000) Tryz.func60 rfl rfl rfl rfl (by simp) (S ?_)
 obtain⟨v5,hv5,h⟩:=rb_ h
 refine ai [false] (icF_4 hv5) SC (S ?_)
 obtain⟨v8,hv8,h⟩:=rb_ h
 refine ai [false] (icF_4 hv8) SC (S ?_)
 refine ag (DHa_ [] [80,128]) (S ?_)
 cases rs_ h
 exact ah SC

theorem ips_{a0:Sa}{a1:Dt}  {r:(List Sa)×Bool}(h:ip_ a0 a1=some r):Sat aj 186 [((aP false) a0),((al false) a1)] (.tup [(.sl true 2 (r.1.map (aP true))),(B r.2)]):=by
 obtain⟨h,cs⟩:=Ro_ h
 unfold ip_ at h
 refine av (nt:=54) (rs:=[.tmp 4,.tmp 5]) (n:=100000) Tryz.func186 rfl rfl rfl rfl (by simp) (S ?_)
 obtain⟨v15,hv15,h⟩:=rb_ h
 refine ai [false,false] (ias_ hv15) SC (S ?_)
 refine ak cs h (fun cs h=>S ?_) (fun cs h=>S ?_)
 ·refine aR (b:=false) (sz:=2) (es:=v15.1.map (aP false)) 6 SC fun hl6=>?_; rw[aB] at hl6
  replace h:=rl_ h
  refine aF h (fun i6 s6=>[(2,.box (.pv ((aP false) a0))),(3,.box (.pv ((al false) a1))),(8,.val (.own 320)),(21,.val (.pv (.sl false 2 (v15.1.map (aP false))))),(22,.val (.pv (I (v15.1.length:Int)))),(23,.val (.pv (I (i6:Int))))]) (fun i6 s6=>[(320,(2,s6.map (aP true)))]) (Slm_ SC) (fun i6 s6 hi h=>?_) (fun s6 h=>?_)
  ·have w:=ws_ (i:=i6) (by omega)
   refine S ?_
   refine aD cs (by omega) (fun cs=>S ?_)
   obtain⟨v25,hv25,h⟩:=rb_ h
   refine ar (f:=(aP false)) hv25 SC (S ?_)
   obtain⟨v30,hv30,h⟩:=rb_ h
   refine ai [false,false,false] (SvO_ (res':=(.sl false 5 (v30.map (ae false)))) (iDr_3 hv30) (by simp only[vt_,vs_,va_,vl_,aI,RB,RS])) SC (S ?_)
   obtain⟨v34,hv34,h⟩:=rb_ h
   refine ai [true] (Sat.give (args:=[(.sl true 1 (([v30,v25.Left]).map (Lv false 5 (ae false))))]) [true] (by have gg:=sCS_4 hv34; simp only[gv_t,gv_f,gv_n,vs_,va_,vl_,vrB_,vrI_,aI,RB,RS] at gg ⊢; exact gg)) SC (S ?_)
   obtain⟨v38,hv38,h⟩:=rb_ h
   refine ai [false,false,false] (SvO_ (res':=(.sl false 5 (v38.map (ae false)))) (iDr_3 hv38) (by simp only[vt_,vs_,va_,vl_,aI,RB,RS])) SC (S ?_)
   obtain⟨v42,hv42,h⟩:=rb_ h
   refine ai [true] (Sat.give (args:=[(.sl true 1 (([v38,v25.Right]).map (Lv false 5 (ae false))))]) [true] (by have gg:=sCS_4 hv42; simp only[gv_t,gv_f,gv_n,vs_,va_,vl_,vrB_,vrI_,aI,RB,RS] at gg ⊢; exact gg)) SC (S ?_)
   obtain⟨v44,hv44,h⟩:=rb_ h
   refine ai [false] (icS_1 hv44) SC (S ?_)
   refine ag (DHa_ [11] [528,544,656,672,704,705]) (S ?_)
   obtain⟨v46,hv46,h⟩:=rb_ h
   refine ai [false] (iIV_10 hv46) SC (S ?_)
   refine ak cs h (fun cs h=>S ?_) (fun cs h=>S ?_)
   ·obtain⟨v51,hv51,h⟩:=rb_ h
    refine AppH.mk (f:=(aP true)) (fun a=>Sa.psize _ a) hv51 SC SC (S ?_)
    have h:=rs_ h
    refine aA ⟨_,h,?_⟩
    refine aM (Slm_1 (S:=[(2,.box (.pv ((aP false) a0))),(3,.box (.pv ((al false) a1))),(8,.val (.own 816)),(21,.val (.pv (.sl false 2 (v15.1.map (aP false))))),(22,.val (.pv (I (v15.1.length:Int)))),(23,.val (.pv (I (IntKind.i64.wrap ((i6:Int)+1)))))]) (O:=[(816,(2,v51.map (aP true)))]) SW SW) ?_
    refine Slr_ 816 320 (by decide) NM ?_
    exact Slm_ SW
   ·cases rs_ h
    exact ah SC
  ·refine S ?_
   refine aE cs (by omega) (fun cs=>S ?_)
   cases rs_ h
   exact ah SC
 ·cases rs_ h
  exact ah SC

theorem iPO_1{a0:Sa}{a1:Dt}  {r:(List Sa)×Bool}(h:iPO_ a0 a1=some r):Sat aj 166 [((aP false) a0),((al false) a1)] (.tup [(.sl true 2 (r.1.map (aP true))),(B r.2)]):=by
 obtain⟨h,cs⟩:=Ro_ h
 unfold iPO_ at h
 refine av (nt:=14) (rs:=[.tmp 4,.tmp 5]) (n:=100000) Tryz.func166 rfl rfl rfl rfl (by simp) (S ?_)
 obtain⟨v7,hv7,h⟩:=rb_ h
 refine ai [false] (iIV_10 hv7) SC (S ?_)
 refine ak cs h (fun cs h=>S ?_) (fun cs h=>S ?_)
 ·obtain⟨v11,hv11,h⟩:=rb_ h
  refine ai [false,false] (ips_ hv11) SC (S ?_)
  cases rs_ h
  exact ah SC
 ·cases rs_ h
  exact ah SC

theorem isF_4{a0:List Ft}{a1:List Ft}  {r:Bool}(h:isF_1 a0 a1=some r):Sat aj 151 [(.sl false 5 (a0.map (ae false))),(.sl false 5 (a1.map (ae false)))] (B r):=by
 obtain⟨h,cs⟩:=Ro_ h
 unfold isF_1 at h
 refine av (nt:=8) (rs:=[.tmp 4]) (n:=100000) Tryz.func151 rfl rfl rfl rfl (by simp) (S ?_)
 obtain⟨v7,hv7,h⟩:=rb_ h
 refine ai [false,false,false] (sEF_3 (fun _ _ _ hh=>isF_3 hh) (by simp only[COn_,COc_]) hv7) SC (S ?_)
 cases rs_ h
 exact ah SC

theorem isS_1{a0:Sa}{a1:Sa}  {r:Bool}(h:isS_ a0 a1=some r):Sat aj 128 [((aP false) a0),((aP false) a1)] (B r):=by
 obtain⟨h,cs⟩:=Ro_ h
 unfold isS_ at h
 refine av (nt:=17) (rs:=[.tmp 4]) (n:=100000) Tryz.func128 rfl rfl rfl rfl (by simp) (S ?_)
 obtain⟨v9,hv9,h⟩:=rb_ h
 refine ai [false,false] (isF_4 hv9) SC (S ?_)
 refine ak cs h (fun cs h=>S ?_) (fun cs h=>S ?_)
 ·obtain⟨v15,hv15,h⟩:=rb_ h
  refine ai [false,false] (isF_4 hv15) SC (S ?_)
  cases rs_ h
  exact ah SC
 ·cases rs_ h
  exact ah SC

theorem iiR_2{a0:Sa}{a1:Dt}  {r:Bool}(h:iiR_ a0 a1=some r):Sat aj 168 [((aP false) a0),((al false) a1)] (B r):=by
 obtain⟨h,cs⟩:=Ro_ h
 unfold iiR_ at h
 refine av (nt:=9) (rs:=[.tmp 4]) (n:=100000) Tryz.func168 rfl rfl rfl rfl (by simp) (S ?_)
 obtain⟨v8,hv8,h⟩:=rb_ h
 refine ai [false,false] (isS_1 hv8) SC (S ?_)
 cases rs_ h
 exact ah SC

theorem sEF_4{a0:List Sa}{a1:List Dt}{a2:Sa→Dt→Option Bool}{a2_id:FuncId}{a2_cs:List PV}(a2_ok:∀ y0 y1 r,a2 y0 y1=some r→Sat aj a2_id (((aP false) y0)::((al false) y1)::a2_cs) (B r))(a2_cz:CO_ a2_cs=True){r:Bool}(h:sEF_1 a0 a1 a2=some r):Sat aj 167 [(.sl false 2 (a0.map (aP false))),(.sl false 12 (a1.map (al false))),.clo a2_id a2_cs] (B r):=by
 obtain⟨h,cs⟩:=Ro_ h
 unfold sEF_1 at h
 have cs:=ag a2_cz cs
 refine av (nt:=32) (rs:=[.tmp 6]) (n:=100000) Tryz.func167 rfl rfl rfl rfl (by simp) (S ?_)
 refine ak cs h (fun cs h=>S ?_) (fun cs h=>S ?_)
 ·refine aR (b:=false) (sz:=2) (es:=a0.map (aP false)) 0 SC fun hl0=>?_; rw[aB] at hl0
  replace h:=rl_ h
  refine aF h (fun i4 s4=>[(1,.val (.pv (.sl false 12 (a1.map (al false))))),(2,.val (.pv (.clo a2_id a2_cs))),(15,.val (.pv (.sl false 2 (a0.map (aP false))))),(16,.val (.pv (I (a0.length:Int)))),(17,.val (.pv (I (i4:Int))))]) (fun i4 s4=>[]) (Slm_ SC) (fun i4 s4 hi h=>?_) (fun s4 h=>?_)
  ·have w:=ws_ (i:=i4) (by omega)
   refine S ?_
   refine aD cs (by omega) (fun cs=>S ?_)
   obtain⟨v20,hv20,h⟩:=rb_ h
   refine ar (f:=(aP false)) hv20 SC (S ?_)
   obtain⟨v24,hv24,h⟩:=rb_ h
   refine ar (f:=(al false)) hv24 SC (S ?_)
   obtain⟨v29,hv29,h⟩:=rb_ h
   refine ai [false,false] (a2_ok _ _ _ hv29) SC (S ?_)
   refine ak cs h (fun cs h=>S ?_) (fun cs h=>S ?_)
   ·have h:=rs_ h
    refine aA ⟨_,h,?_⟩
    exact Slm_ SW
   ·cases rs_ h
    exact ah SC
  ·refine S ?_
   refine aE cs (by omega) (fun cs=>S ?_)
   cases rs_ h
   exact ah SC
 ·cases rs_ h
  exact ah SC

theorem iiR_3{a0:Dt}  {r:Bool}(h:iiR_1 a0=some r):Sat aj 146 [((al false) a0)] (B r):=by
 obtain⟨h,cs⟩:=Ro_ h
 unfold iiR_1 at h
 refine av (nt:=19) (rs:=[.tmp 2]) (n:=100000) Tryz.func146 rfl rfl rfl rfl (by simp) (S ?_)
 obtain⟨v9,hv9,h⟩:=rb_ h
 refine ai [false,false] (iPO_1 hv9) SC (S ?_)
 refine ak cs h (fun cs h=>S ?_) (fun cs h=>S ?_)
 ·obtain⟨v17,hv17,h⟩:=rb_ h
  refine ai [false,false,false] (sEF_4 (fun _ _ _ hh=>iiR_2 hh) (by simp only[COn_,COc_]) hv17) SC (S ?_)
  cases rs_ h
  exact ah SC
 ·cases rs_ h
  exact ah SC

theorem ifW_2(n:Nat):(∀ (a0:Dt) (r:(List Int)×Bool),ifW_ n a0=some r→Sat aj 119 [((al false) a0)] (.tup [(.sl true 1 (r.1.map I)),(B r.2)])):=by
 induction n with
 | zero=>exact fun _ _ h=>by simp[ifW_] at h
 | succ n ih=>
  refine fun a0 r h=>?_
  obtain⟨h,cs⟩:=Ro_ h
  rw[ifW_] at h
  refine av (nt:=31) (rs:=[.tmp 2,.tmp 3]) (n:=100000) Tryz.func119 rfl rfl rfl rfl (by simp) (S ?_)
  obtain⟨v9,hv9,h⟩:=rb_ h
  refine ai [false] (iiR_3 hv9) SC (S ?_)
  refine ak cs h (fun cs h=>S ?_) (fun cs h=>S ?_)
  ·refine aR (b:=false) (sz:=12) (es:=a0.Parts.map (al false)) 13 SC fun hl13=>?_; rw[aB] at hl13
   replace h:=rl_ h
   refine aF h (fun i4 s4=>[(13,.val (.pv (.sl false 12 (a0.Parts.map (al false))))),(14,.val (.pv (I (a0.Parts.length:Int)))),(15,.val (.pv (I (i4:Int))))]) (fun i4 s4=>[]) (Slm_ SC) (fun i4 s4 hi h=>?_) (fun s4 h=>?_)
   ·have w:=ws_ (i:=i4) (by omega)
    refine S ?_
    refine aD cs (by omega) (fun cs=>S ?_)
    obtain⟨v18,hv18,h⟩:=rb_ h
    refine ar (f:=(al false)) hv18 SC (S ?_)
    obtain⟨v22,hv22,h⟩:=rb_ h
    refine ai [false] (ih _ _ hv22) SC (S ?_)
    refine ak cs h (fun cs h=>S ?_) (fun cs h=>S ?_)
    ·obtain⟨v29,hv29,h⟩:=rb_ h
     refine AppH.mk (f:=I) (fun _=>rfl) hv29 SC SC (S ?_)
     cases rs_ h
     exact ah SC
    ·have h:=rs_ h
     refine aA ⟨_,h,?_⟩
     exact Slm_ SW
   ·refine S ?_
    refine aE cs (by omega) (fun cs=>S ?_)
    cases rs_ h
    exact ah SC
  ·cases rs_ h
   exact ah SC
theorem ifW_3{a0:Dt}{r:(List Int)×Bool}(h:ifW_1 a0=some r):Sat aj 119 [((al false) a0)] (.tup [(.sl true 1 (r.1.map I)),(B r.2)]):=by
 obtain⟨n,hn⟩:=ls_ h
 exact(ifW_2 n) _ _ hn

theorem iFW_1{a0:Dt}  {r:(List Int)×Bool×Bool}(h:iFW_ a0=some r):Sat aj 81 [((al false) a0)] (.tup [(.sl true 1 (r.1.map I)),(B r.2.1),(B r.2.2)]):=by
 obtain⟨h,cs⟩:=Ro_ h
 unfold iFW_ at h
 refine av (nt:=17) (rs:=[.tmp 2,.tmp 3,.tmp 4]) (n:=100000) Tryz.func81 rfl rfl rfl rfl (by simp) (S ?_)
 obtain⟨v8,hv8,h⟩:=rb_ h
 refine ai [false] (irN_3 hv8) SC (S ?_)
 refine ak cs h (fun cs h=>S ?_) (fun cs h=>S ?_)
 ·cases rs_ h
  exact ah SC
 ·obtain⟨v12,hv12,h⟩:=rb_ h
  refine ai [false] (ifW_3 hv12) SC (S ?_)
  cases rs_ h
  exact ah SC

theorem iIV_7{a0:Dt}  {r:Bool}(h:iIV_3 a0=some r):Sat aj 45 [((al false) a0)] (B r):=by
 obtain⟨h,cs⟩:=Ro_ h
 unfold iIV_3 at h
 refine av (nt:=17) (rs:=[.tmp 2]) (n:=100000) Tryz.func45 rfl rfl rfl rfl (by simp) (S ?_)
 obtain⟨v8,hv8,h⟩:=rb_ h
 refine ai [false] (iFW_1 hv8) SC (S ?_)
 refine ak cs h (fun cs h=>S ?_) (fun cs h=>S ?_)
 ·cases rs_ h
  exact ah SC
 ·cases rs_ h
  exact ah SC

theorem icD_2(n:Nat):(∀ (a0:Dt) (r:Dt),icD_ n a0=some r→Sat aj 111 [((al false) a0)] ((al true) r)):=by
 induction n with
 | zero=>exact fun _ _ h=>by simp[icD_] at h
 | succ n ih=>
  refine fun a0 r h=>?_
  obtain⟨h,cs⟩:=Ro_ h
  rw[icD_] at h
  refine av (nt:=36) (rs:=[.cell 2 47]) (n:=100000) Tryz.func111 rfl rfl rfl rfl (by simp) (S ?_)
  obtain⟨v10,hv10,h⟩:=rb_ h
  refine ai [false] (icS_1 hv10) SC (S ?_)
  obtain⟨v15,hv15,h⟩:=rb_ h
  refine ai [false] (icT_3 hv15) SC (S ?_)
  obtain⟨v18,hv18,h⟩:=rb_ h
  refine ai [false] (icF_2 hv18) SC (S ?_)
  refine ag (DHa_ [3] [160,161,240,288,289]) (S ?_)
  refine aR (b:=false) (sz:=12) (es:=a0.Parts.map (al false)) 21 SC fun hl21=>?_; rw[aB] at hl21
  replace h:=rl_ h
  refine aF h (fun i3 s3=>[(2,.box (.node [(.pv (I 0)),(.node [(.pv (.sl true 5 [])),(.pv (.sl true 5 []))]),(.pv (I 0)),(.node [(.pv (Sx ⟨#[]⟩)),(.pv (.sl true 2 []))]),(.node [(.pv (I 0)),(.node [(.pv (Sx ⟨#[]⟩)),(.pv (.sl true 2 []))]),(.pv (Sx ⟨#[]⟩)),(.pv (.sl true 5 []))]),(.pv (.sl true 12 []))])),(3,.box (.node [(.pv (I a0.Rule)),(.node [(.own 160),(.own 161)]),(.pv (I a0.Main)),(.node [(.pv (Sx v15.Name)),(.own 240)]),(.node [(.pv (I v18.Op)),(.node [(.pv (Sx v18.Atom.Name)),(.own 288)]),(.pv (Sx v18.Var)),(.own 289)]),(.own 9309)])),(21,.val (.pv (.sl false 12 (a0.Parts.map (al false))))),(22,.val (.pv (I (a0.Parts.length:Int)))),(23,.val (.pv (I (i3:Int))))]) (fun i3 s3=>[(160,(5,v10.Left.map (ae true))),(161,(5,v10.Right.map (ae true))),(240,(2,v15.Args.map (am true))),(288,(2,v18.Atom.Args.map (am true))),(289,(5,v18.Parts.map (ae true))),(9309,(12,s3.map (al true)))]) (aM (Sln_ (x:=(.node [(.pv (I a0.Rule)),(.node [(.own 160),(.own 161)]),(.pv (I a0.Main)),(.node [(.pv (Sx v15.Name)),(.own 240)]),(.node [(.pv (I v18.Op)),(.node [(.pv (Sx v18.Atom.Name)),(.own 288)]),(.pv (Sx v18.Var)),(.own 289)]),(.pv (.sl true 12 []))])) 3 [5] 9309 12 NM SC SC SC) (Slm_ SC)) (fun i3 s3 hi h=>?_) (fun s3 h=>?_)
  ·have w:=ws_ (i:=i3) (by omega)
   refine S ?_
   refine aD cs (by omega) (fun cs=>S ?_)
   obtain⟨v25,hv25,h⟩:=rb_ h
   refine ar (f:=(al false)) hv25 SC (S ?_)
   obtain⟨v30,hv30,h⟩:=rb_ h
   refine ai [false] (ih _ _ hv30) SC (S ?_)
   obtain⟨v32,hv32,h⟩:=rb_ h
   refine AppH.mk (f:=(al true)) (fun a=>Dt.psize _ a) hv32 SC SC (S ?_)
   refine ag (DHa_ [] [480,481,482,483,484,485,496,512]) (S ?_)
   have h:=rs_ h
   refine aA ⟨_,h,?_⟩
   refine aM (Slm_1 (S:=[(2,.box (.node [(.pv (I 0)),(.node [(.pv (.sl true 5 [])),(.pv (.sl true 5 []))]),(.pv (I 0)),(.node [(.pv (Sx ⟨#[]⟩)),(.pv (.sl true 2 []))]),(.node [(.pv (I 0)),(.node [(.pv (Sx ⟨#[]⟩)),(.pv (.sl true 2 []))]),(.pv (Sx ⟨#[]⟩)),(.pv (.sl true 5 []))]),(.pv (.sl true 12 []))])),(3,.box (.node [(.pv (I a0.Rule)),(.node [(.own 160),(.own 161)]),(.pv (I a0.Main)),(.node [(.pv (Sx v15.Name)),(.own 240)]),(.node [(.pv (I v18.Op)),(.node [(.pv (Sx v18.Atom.Name)),(.own 288)]),(.pv (Sx v18.Var)),(.own 289)]),(.own 512)])),(21,.val (.pv (.sl false 12 (a0.Parts.map (al false))))),(22,.val (.pv (I (a0.Parts.length:Int)))),(23,.val (.pv (I (IntKind.i64.wrap ((i3:Int)+1)))))]) (O:=[(160,(5,v10.Left.map (ae true))),(161,(5,v10.Right.map (ae true))),(240,(2,v15.Args.map (am true))),(288,(2,v18.Atom.Args.map (am true))),(289,(5,v18.Parts.map (ae true))),(512,(12,v32.map (al true)))]) SW SW) ?_
   refine Slr_ 512 9309 (by decide) NM ?_
   exact Slm_ SW
  ·refine S ?_
   refine aE cs (by omega) (fun cs=>S ?_)
   cases rs_ h
   exact ah SC
theorem icD_3{a0:Dt}{r:Dt}(h:icD_1 a0=some r):Sat aj 111 [((al false) a0)] ((al true) r):=by
 obtain⟨n,hn⟩:=ls_ h
 exact(icD_2 n) _ _ hn


theorem iwN_1(n:Nat):(∀ (a0:Dt) (a1:Ft) (a2:Bool) (a3:Int) (r:Dt),iwN_ n a0 a1 a2 a3=some r→Sat aj 75 [((al false) a0),((ae false) a1),(B a2),(I a3)] ((al true) r)):=by
 induction n with
 | zero=>exact fun _ _ _ _ _ h=>by simp[iwN_] at h
 | succ n ih=>
  refine fun a0 a1 a2 a3 r h=>?_
  obtain⟨h,cs⟩:=Ro_ h
  rw[iwN_] at h
  refine av (nt:=89) (rs:=[.cell 8 47]) (n:=100000) Tryz.func75 rfl rfl rfl rfl (by simp) (S ?_)
  obtain⟨v18,hv18,h⟩:=rb_ h
  refine ai [false] (icD_3 hv18) SC (S ?_)
  refine ak cs h (fun cs h=>S ?_) (fun cs h=>S ?_)
  ·obtain⟨v30,hv30,h⟩:=rb_ h
   refine ai [false] (icF_2 hv30) SC (S ?_)
   obtain⟨v32,hv32,h⟩:=rb_ h
   refine ai [true,false,true] (sIF_5 hv32) SC (S ?_)
   refine ag (DHa_ [] [480,481,496,512]) (S ?_)
   obtain⟨N8,hN8,h⟩:=rb_ h
   obtain⟨hN8a,hN8b⟩:=bs_ hN8
   replace h:=rl_ h
   refine aF h (fun i8 s8=>[(2,.val (.pv (B a2))),(3,.val (.pv (I a3))),(4,.box (.pv ((al false) a0))),(5,.box (.pv ((ae false) a1))),(8,.box (.node [(.pv (I 0)),(.node [(.pv (.sl true 5 [])),(.pv (.sl true 5 []))]),(.pv (I 0)),(.node [(.pv (Sx ⟨#[]⟩)),(.pv (.sl true 2 []))]),(.node [(.pv (I 0)),(.node [(.pv (Sx ⟨#[]⟩)),(.pv (.sl true 2 []))]),(.pv (Sx ⟨#[]⟩)),(.pv (.sl true 5 []))]),(.pv (.sl true 12 []))])),(9,.box (.node [(.pv (I v18.Rule)),(.node [(.own 512),(.own 289)]),(.pv (I v18.Main)),(.node [(.pv (Sx v18.Term.Name)),(.own 290)]),(.node [(.pv (I v18.Cut.Op)),(.node [(.pv (Sx v18.Cut.Atom.Name)),(.own 291)]),(.pv (Sx v18.Cut.Var)),(.own 292)]),(.own 293)])),(11,.val (.pv (I s8))),(35,.val (.pv (I a3))),(36,.val (.pv (I (i8:Int))))]) (fun i8 s8=>[(512,(5,v32.map (ae true))),(289,(5,v18.Sequent.Right.map (ae true))),(290,(2,v18.Term.Args.map (am true))),(291,(2,v18.Cut.Atom.Args.map (am true))),(292,(5,v18.Cut.Parts.map (ae true))),(293,(12,v18.Parts.map (al true)))]) (Slm_ SC) (fun i8 s8 hi h=>?_) (fun s8 h=>?_)
   ·have w:=ws_ (i:=i8) (by omega)
    refine S ?_
    refine aD cs (by omega) (fun cs=>S ?_)
    obtain⟨v42,hv42,h⟩:=rb_ h
    refine ai [false,false,false] (iDr_2 hv42) SC (S ?_)
    refine ak cs h (fun cs h=>S ?_) (fun cs h=>S ?_)
    ·have h:=rs_ h
     refine aA ⟨_,h,?_⟩
     exact Slm_ SW
    ·have h:=rs_ h
     refine aA ⟨_,h,?_⟩
     exact Slm_ SW
   ·refine S ?_
    refine aE cs (by omega) (fun cs=>S ?_)
    obtain⟨v49,hv49,h⟩:=rb_ h
    refine ai [false] (imO_1 hv49) SC (S ?_)
    refine ak cs h (fun cs h=>S ?_) (fun cs h=>S ?_)
    ·refine aR (b:=false) (sz:=12) (es:=a0.Parts.map (al false)) 71 SC fun hl71=>?_; rw[aB] at hl71
     replace h:=rl_ h
     refine aF h (fun i17 s17=>[(2,.val (.pv (B a2))),(5,.box (.pv ((ae false) a1))),(8,.box (.node [(.pv (I 0)),(.node [(.pv (.sl true 5 [])),(.pv (.sl true 5 []))]),(.pv (I 0)),(.node [(.pv (Sx ⟨#[]⟩)),(.pv (.sl true 2 []))]),(.node [(.pv (I 0)),(.node [(.pv (Sx ⟨#[]⟩)),(.pv (.sl true 2 []))]),(.pv (Sx ⟨#[]⟩)),(.pv (.sl true 5 []))]),(.pv (.sl true 12 []))])),(9,.box (.node [(.pv (I v18.Rule)),(.node [(.own 512),(.own 289)]),(.pv (I v18.Main)),(.node [(.pv (Sx v18.Term.Name)),(.own 290)]),(.node [(.pv (I v18.Cut.Op)),(.node [(.pv (Sx v18.Cut.Atom.Name)),(.own 291)]),(.pv (Sx v18.Cut.Var)),(.own 292)]),(.own 293)])),(11,.val (.pv (I s8))),(71,.val (.pv (.sl false 12 (a0.Parts.map (al false))))),(72,.val (.pv (I (a0.Parts.length:Int)))),(73,.val (.pv (I (i17:Int))))]) (fun i17 s17=>[(512,(5,v32.map (ae true))),(289,(5,v18.Sequent.Right.map (ae true))),(290,(2,v18.Term.Args.map (am true))),(291,(2,v18.Cut.Atom.Args.map (am true))),(292,(5,v18.Cut.Parts.map (ae true))),(293,(12,s17.map (al true)))]) (Slm_ SC) (fun i17 s17 hi h=>?_) (fun s17 h=>?_)
     ·have w:=ws_ (i:=i17) (by omega)
      refine S ?_
      refine aD cs (by omega) (fun cs=>S ?_)
      obtain⟨v76,hv76,h⟩:=rb_ h
      refine ar (f:=(al false)) hv76 SC (S ?_)
      obtain⟨v85,hv85,h⟩:=rb_ h
      refine ai [false,false,false,false] (ih _ _ _ _ _ hv85) SC (S ?_)
      obtain⟨v86,hv86,h⟩:=rb_ h
      refine ar (f:=(al true)) hv86 SC (S ?_)
      obtain⟨w7,hw7,h⟩:=rb_ h
      refine bu (f:=(al true)) hw7 rfl SC (S ?_)
      refine ag (DHa_ [] [1360,1361,1362,1363,1364,1365]) (S ?_)
      have h:=rs_ h
      refine aA ⟨_,h,?_⟩
      exact Slm_ SW
     ·refine S ?_
      refine aE cs (by omega) (fun cs=>S ?_)
      cases rs_ h
      exact ah SC
    ·refine ak cs h (fun cs h=>S ?_) (fun cs h=>S ?_)
     ·refine ak cs h (fun cs h=>S ?_) (fun cs h=>S ?_)
      ·refine aR (b:=false) (sz:=12) (es:=a0.Parts.map (al false)) 71 SC fun hl71=>?_; rw[aB] at hl71
       replace h:=rl_ h
       refine aF h (fun i17 s17=>[(2,.val (.pv (B a2))),(5,.box (.pv ((ae false) a1))),(8,.box (.node [(.pv (I 0)),(.node [(.pv (.sl true 5 [])),(.pv (.sl true 5 []))]),(.pv (I 0)),(.node [(.pv (Sx ⟨#[]⟩)),(.pv (.sl true 2 []))]),(.node [(.pv (I 0)),(.node [(.pv (Sx ⟨#[]⟩)),(.pv (.sl true 2 []))]),(.pv (Sx ⟨#[]⟩)),(.pv (.sl true 5 []))]),(.pv (.sl true 12 []))])),(9,.box (.node [(.pv (I v18.Rule)),(.node [(.own 512),(.own 289)]),(.pv (I (IntKind.i64.wrap (v18.Main+1)))),(.node [(.pv (Sx v18.Term.Name)),(.own 290)]),(.node [(.pv (I v18.Cut.Op)),(.node [(.pv (Sx v18.Cut.Atom.Name)),(.own 291)]),(.pv (Sx v18.Cut.Var)),(.own 292)]),(.own 293)])),(11,.val (.pv (I s8))),(71,.val (.pv (.sl false 12 (a0.Parts.map (al false))))),(72,.val (.pv (I (a0.Parts.length:Int)))),(73,.val (.pv (I (i17:Int))))]) (fun i17 s17=>[(512,(5,v32.map (ae true))),(289,(5,v18.Sequent.Right.map (ae true))),(290,(2,v18.Term.Args.map (am true))),(291,(2,v18.Cut.Atom.Args.map (am true))),(292,(5,v18.Cut.Parts.map (ae true))),(293,(12,s17.map (al true)))]) (Slm_ SC) (fun i17 s17 hi h=>?_) (fun s17 h=>?_)
       ·have w:=ws_ (i:=i17) (by omega)
        refine S ?_
        refine aD cs (by omega) (fun cs=>S ?_)
        obtain⟨v76,hv76,h⟩:=rb_ h
        refine ar (f:=(al false)) hv76 SC (S ?_)
        obtain⟨v85,hv85,h⟩:=rb_ h
        refine ai [false,false,false,false] (ih _ _ _ _ _ hv85) SC (S ?_)
        obtain⟨v86,hv86,h⟩:=rb_ h
        refine ar (f:=(al true)) hv86 SC (S ?_)
        obtain⟨w12,hw12,h⟩:=rb_ h
        refine bu (f:=(al true)) hw12 rfl SC (S ?_)
        refine ag (DHa_ [] [1360,1361,1362,1363,1364,1365]) (S ?_)
        have h:=rs_ h
        refine aA ⟨_,h,?_⟩
        exact Slm_ SW
       ·refine S ?_
        refine aE cs (by omega) (fun cs=>S ?_)
        cases rs_ h
        exact ah SC
      ·refine aR (b:=false) (sz:=12) (es:=a0.Parts.map (al false)) 71 SC fun hl71=>?_; rw[aB] at hl71
       replace h:=rl_ h
       refine aF h (fun i17 s17=>[(2,.val (.pv (B a2))),(5,.box (.pv ((ae false) a1))),(8,.box (.node [(.pv (I 0)),(.node [(.pv (.sl true 5 [])),(.pv (.sl true 5 []))]),(.pv (I 0)),(.node [(.pv (Sx ⟨#[]⟩)),(.pv (.sl true 2 []))]),(.node [(.pv (I 0)),(.node [(.pv (Sx ⟨#[]⟩)),(.pv (.sl true 2 []))]),(.pv (Sx ⟨#[]⟩)),(.pv (.sl true 5 []))]),(.pv (.sl true 12 []))])),(9,.box (.node [(.pv (I v18.Rule)),(.node [(.own 512),(.own 289)]),(.pv (I v18.Main)),(.node [(.pv (Sx v18.Term.Name)),(.own 290)]),(.node [(.pv (I v18.Cut.Op)),(.node [(.pv (Sx v18.Cut.Atom.Name)),(.own 291)]),(.pv (Sx v18.Cut.Var)),(.own 292)]),(.own 293)])),(11,.val (.pv (I s8))),(71,.val (.pv (.sl false 12 (a0.Parts.map (al false))))),(72,.val (.pv (I (a0.Parts.length:Int)))),(73,.val (.pv (I (i17:Int))))]) (fun i17 s17=>[(512,(5,v32.map (ae true))),(289,(5,v18.Sequent.Right.map (ae true))),(290,(2,v18.Term.Args.map (am true))),(291,(2,v18.Cut.Atom.Args.map (am true))),(292,(5,v18.Cut.Parts.map (ae true))),(293,(12,s17.map (al true)))]) (Slm_ SC) (fun i17 s17 hi h=>?_) (fun s17 h=>?_)
       ·have w:=ws_ (i:=i17) (by omega)
        refine S ?_
        refine aD cs (by omega) (fun cs=>S ?_)
        obtain⟨v76,hv76,h⟩:=rb_ h
        refine ar (f:=(al false)) hv76 SC (S ?_)
        obtain⟨v85,hv85,h⟩:=rb_ h
        refine ai [false,false,false,false] (ih _ _ _ _ _ hv85) SC (S ?_)
        obtain⟨v86,hv86,h⟩:=rb_ h
        refine ar (f:=(al true)) hv86 SC (S ?_)
        obtain⟨w15,hw15,h⟩:=rb_ h
        refine bu (f:=(al true)) hw15 rfl SC (S ?_)
        refine ag (DHa_ [] [1360,1361,1362,1363,1364,1365]) (S ?_)
        have h:=rs_ h
        refine aA ⟨_,h,?_⟩
        exact Slm_ SW
       ·refine S ?_
        refine aE cs (by omega) (fun cs=>S ?_)
        cases rs_ h
        exact ah SC
     ·refine aR (b:=false) (sz:=12) (es:=a0.Parts.map (al false)) 71 SC fun hl71=>?_; rw[aB] at hl71
      replace h:=rl_ h
      refine aF h (fun i17 s17=>[(2,.val (.pv (B a2))),(5,.box (.pv ((ae false) a1))),(8,.box (.node [(.pv (I 0)),(.node [(.pv (.sl true 5 [])),(.pv (.sl true 5 []))]),(.pv (I 0)),(.node [(.pv (Sx ⟨#[]⟩)),(.pv (.sl true 2 []))]),(.node [(.pv (I 0)),(.node [(.pv (Sx ⟨#[]⟩)),(.pv (.sl true 2 []))]),(.pv (Sx ⟨#[]⟩)),(.pv (.sl true 5 []))]),(.pv (.sl true 12 []))])),(9,.box (.node [(.pv (I v18.Rule)),(.node [(.own 512),(.own 289)]),(.pv (I v18.Main)),(.node [(.pv (Sx v18.Term.Name)),(.own 290)]),(.node [(.pv (I v18.Cut.Op)),(.node [(.pv (Sx v18.Cut.Atom.Name)),(.own 291)]),(.pv (Sx v18.Cut.Var)),(.own 292)]),(.own 293)])),(11,.val (.pv (I s8))),(71,.val (.pv (.sl false 12 (a0.Parts.map (al false))))),(72,.val (.pv (I (a0.Parts.length:Int)))),(73,.val (.pv (I (i17:Int))))]) (fun i17 s17=>[(512,(5,v32.map (ae true))),(289,(5,v18.Sequent.Right.map (ae true))),(290,(2,v18.Term.Args.map (am true))),(291,(2,v18.Cut.Atom.Args.map (am true))),(292,(5,v18.Cut.Parts.map (ae true))),(293,(12,s17.map (al true)))]) (Slm_ SC) (fun i17 s17 hi h=>?_) (fun s17 h=>?_)
      ·have w:=ws_ (i:=i17) (by omega)
       refine S ?_
       refine aD cs (by omega) (fun cs=>S ?_)
       obtain⟨v76,hv76,h⟩:=rb_ h
       refine ar (f:=(al false)) hv76 SC (S ?_)
       obtain⟨v85,hv85,h⟩:=rb_ h
       refine ai [false,false,false,false] (ih _ _ _ _ _ hv85) SC (S ?_)
       obtain⟨v86,hv86,h⟩:=rb_ h
       refine ar (f:=(al true)) hv86 SC (S ?_)
       obtain⟨w18,hw18,h⟩:=rb_ h
       refine bu (f:=(al true)) hw18 rfl SC (S ?_)
       refine ag (DHa_ [] [1360,1361,1362,1363,1364,1365]) (S ?_)
       have h:=rs_ h
       refine aA ⟨_,h,?_⟩
       exact Slm_ SW
      ·refine S ?_
       refine aE cs (by omega) (fun cs=>S ?_)
       cases rs_ h
       exact ah SC
  ·obtain⟨v30,hv30,h⟩:=rb_ h
   refine ai [false] (icF_2 hv30) SC (S ?_)
   obtain⟨v32,hv32,h⟩:=rb_ h
   refine ai [true,false,true] (sIF_5 hv32) SC (S ?_)
   refine ag (DHa_ [] [480,481,496,512]) (S ?_)
   obtain⟨N8,hN8,h⟩:=rb_ h
   obtain⟨hN8a,hN8b⟩:=bs_ hN8
   replace h:=rl_ h
   refine aF h (fun i8 s8=>[(2,.val (.pv (B a2))),(3,.val (.pv (I a3))),(4,.box (.pv ((al false) a0))),(5,.box (.pv ((ae false) a1))),(8,.box (.node [(.pv (I 0)),(.node [(.pv (.sl true 5 [])),(.pv (.sl true 5 []))]),(.pv (I 0)),(.node [(.pv (Sx ⟨#[]⟩)),(.pv (.sl true 2 []))]),(.node [(.pv (I 0)),(.node [(.pv (Sx ⟨#[]⟩)),(.pv (.sl true 2 []))]),(.pv (Sx ⟨#[]⟩)),(.pv (.sl true 5 []))]),(.pv (.sl true 12 []))])),(9,.box (.node [(.pv (I v18.Rule)),(.node [(.own 288),(.own 512)]),(.pv (I v18.Main)),(.node [(.pv (Sx v18.Term.Name)),(.own 290)]),(.node [(.pv (I v18.Cut.Op)),(.node [(.pv (Sx v18.Cut.Atom.Name)),(.own 291)]),(.pv (Sx v18.Cut.Var)),(.own 292)]),(.own 293)])),(11,.val (.pv (I s8))),(35,.val (.pv (I a3))),(36,.val (.pv (I (i8:Int))))]) (fun i8 s8=>[(288,(5,v18.Sequent.Left.map (ae true))),(512,(5,v32.map (ae true))),(290,(2,v18.Term.Args.map (am true))),(291,(2,v18.Cut.Atom.Args.map (am true))),(292,(5,v18.Cut.Parts.map (ae true))),(293,(12,v18.Parts.map (al true)))]) (Slm_ SC) (fun i8 s8 hi h=>?_) (fun s8 h=>?_)
   ·have w:=ws_ (i:=i8) (by omega)
    refine S ?_
    refine aD cs (by omega) (fun cs=>S ?_)
    obtain⟨v42,hv42,h⟩:=rb_ h
    refine ai [false,false,false] (iDr_2 hv42) SC (S ?_)
    refine ak cs h (fun cs h=>S ?_) (fun cs h=>S ?_)
    ·have h:=rs_ h
     refine aA ⟨_,h,?_⟩
     exact Slm_ SW
    ·have h:=rs_ h
     refine aA ⟨_,h,?_⟩
     exact Slm_ SW
   ·refine S ?_
    refine aE cs (by omega) (fun cs=>S ?_)
    obtain⟨v49,hv49,h⟩:=rb_ h
    refine ai [false] (imO_1 hv49) SC (S ?_)
    refine ak cs h (fun cs h=>S ?_) (fun cs h=>S ?_)
    ·refine aR (b:=false) (sz:=12) (es:=a0.Parts.map (al false)) 71 SC fun hl71=>?_; rw[aB] at hl71
     replace h:=rl_ h
     refine aF h (fun i17 s17=>[(2,.val (.pv (B a2))),(5,.box (.pv ((ae false) a1))),(8,.box (.node [(.pv (I 0)),(.node [(.pv (.sl true 5 [])),(.pv (.sl true 5 []))]),(.pv (I 0)),(.node [(.pv (Sx ⟨#[]⟩)),(.pv (.sl true 2 []))]),(.node [(.pv (I 0)),(.node [(.pv (Sx ⟨#[]⟩)),(.pv (.sl true 2 []))]),(.pv (Sx ⟨#[]⟩)),(.pv (.sl true 5 []))]),(.pv (.sl true 12 []))])),(9,.box (.node [(.pv (I v18.Rule)),(.node [(.own 288),(.own 512)]),(.pv (I v18.Main)),(.node [(.pv (Sx v18.Term.Name)),(.own 290)]),(.node [(.pv (I v18.Cut.Op)),(.node [(.pv (Sx v18.Cut.Atom.Name)),(.own 291)]),(.pv (Sx v18.Cut.Var)),(.own 292)]),(.own 293)])),(11,.val (.pv (I s8))),(71,.val (.pv (.sl false 12 (a0.Parts.map (al false))))),(72,.val (.pv (I (a0.Parts.length:Int)))),(73,.val (.pv (I (i17:Int))))]) (fun i17 s17=>[(288,(5,v18.Sequent.Left.map (ae true))),(512,(5,v32.map (ae true))),(290,(2,v18.Term.Args.map (am true))),(291,(2,v18.Cut.Atom.Args.map (am true))),(292,(5,v18.Cut.Parts.map (ae true))),(293,(12,s17.map (al true)))]) (Slm_ SC) (fun i17 s17 hi h=>?_) (fun s17 h=>?_)
     ·have w:=ws_ (i:=i17) (by omega)
      refine S ?_
      refine aD cs (by omega) (fun cs=>S ?_)
      obtain⟨v76,hv76,h⟩:=rb_ h
      refine ar (f:=(al false)) hv76 SC (S ?_)
      obtain⟨v85,hv85,h⟩:=rb_ h
      refine ai [false,false,false,false] (ih _ _ _ _ _ hv85) SC (S ?_)
      obtain⟨v86,hv86,h⟩:=rb_ h
      refine ar (f:=(al true)) hv86 SC (S ?_)
      obtain⟨w25,hw25,h⟩:=rb_ h
      refine bu (f:=(al true)) hw25 rfl SC (S ?_)
      refine ag (DHa_ [] [1360,1361,1362,1363,1364,1365]) (S ?_)
      have h:=rs_ h
      refine aA ⟨_,h,?_⟩
      exact Slm_ SW
     ·refine S ?_
      refine aE cs (by omega) (fun cs=>S ?_)
      cases rs_ h
      exact ah SC
    ·refine ak cs h (fun cs h=>S ?_) (fun cs h=>S ?_)
     ·refine ak cs h (fun cs h=>S ?_) (fun cs h=>S ?_)
      ·refine aR (b:=false) (sz:=12) (es:=a0.Parts.map (al false)) 71 SC fun hl71=>?_; rw[aB] at hl71
       replace h:=rl_ h
       refine aF h (fun i17 s17=>[(2,.val (.pv (B a2))),(5,.box (.pv ((ae false) a1))),(8,.box (.node [(.pv (I 0)),(.node [(.pv (.sl true 5 [])),(.pv (.sl true 5 []))]),(.pv (I 0)),(.node [(.pv (Sx ⟨#[]⟩)),(.pv (.sl true 2 []))]),(.node [(.pv (I 0)),(.node [(.pv (Sx ⟨#[]⟩)),(.pv (.sl true 2 []))]),(.pv (Sx ⟨#[]⟩)),(.pv (.sl true 5 []))]),(.pv (.sl true 12 []))])),(9,.box (.node [(.pv (I v18.Rule)),(.node [(.own 288),(.own 512)]),(.pv (I (IntKind.i64.wrap (v18.Main+1)))),(.node [(.pv (Sx v18.Term.Name)),(.own 290)]),(.node [(.pv (I v18.Cut.Op)),(.node [(.pv (Sx v18.Cut.Atom.Name)),(.own 291)]),(.pv (Sx v18.Cut.Var)),(.own 292)]),(.own 293)])),(11,.val (.pv (I s8))),(71,.val (.pv (.sl false 12 (a0.Parts.map (al false))))),(72,.val (.pv (I (a0.Parts.length:Int)))),(73,.val (.pv (I (i17:Int))))]) (fun i17 s17=>[(288,(5,v18.Sequent.Left.map (ae true))),(512,(5,v32.map (ae true))),(290,(2,v18.Term.Args.map (am true))),(291,(2,v18.Cut.Atom.Args.map (am true))),(292,(5,v18.Cut.Parts.map (ae true))),(293,(12,s17.map (al true)))]) (Slm_ SC) (fun i17 s17 hi h=>?_) (fun s17 h=>?_)
       ·have w:=ws_ (i:=i17) (by omega)
        refine S ?_
        refine aD cs (by omega) (fun cs=>S ?_)
        obtain⟨v76,hv76,h⟩:=rb_ h
        refine ar (f:=(al false)) hv76 SC (S ?_)
        obtain⟨v85,hv85,h⟩:=rb_ h
        refine ai [false,false,false,false] (ih _ _ _ _ _ hv85) SC (S ?_)
        obtain⟨v86,hv86,h⟩:=rb_ h
        refine ar (f:=(al true)) hv86 SC (S ?_)
        obtain⟨w30,hw30,h⟩:=rb_ h
        refine bu (f:=(al true)) hw30 rfl SC (S ?_)
        refine ag (DHa_ [] [1360,1361,1362,1363,1364,1365]) (S ?_)
        have h:=rs_ h
        refine aA ⟨_,h,?_⟩
        exact Slm_ SW
       ·refine S ?_
        refine aE cs (by omega) (fun cs=>S ?_)
        cases rs_ h
        exact ah SC
      ·refine aR (b:=false) (sz:=12) (es:=a0.Parts.map (al false)) 71 SC fun hl71=>?_; rw[aB] at hl71
       replace h:=rl_ h
       refine aF h (fun i17 s17=>[(2,.val (.pv (B a2))),(5,.box (.pv ((ae false) a1))),(8,.box (.node [(.pv (I 0)),(.node [(.pv (.sl true 5 [])),(.pv (.sl true 5 []))]),(.pv (I 0)),(.node [(.pv (Sx ⟨#[]⟩)),(.pv (.sl true 2 []))]),(.node [(.pv (I 0)),(.node [(.pv (Sx ⟨#[]⟩)),(.pv (.sl true 2 []))]),(.pv (Sx ⟨#[]⟩)),(.pv (.sl true 5 []))]),(.pv (.sl true 12 []))])),(9,.box (.node [(.pv (I v18.Rule)),(.node [(.own 288),(.own 512)]),(.pv (I v18.Main)),(.node [(.pv (Sx v18.Term.Name)),(.own 290)]),(.node [(.pv (I v18.Cut.Op)),(.node [(.pv (Sx v18.Cut.Atom.Name)),(.own 291)]),(.pv (Sx v18.Cut.Var)),(.own 292)]),(.own 293)])),(11,.val (.pv (I s8))),(71,.val (.pv (.sl false 12 (a0.Parts.map (al false))))),(72,.val (.pv (I (a0.Parts.length:Int)))),(73,.val (.pv (I (i17:Int))))]) (fun i17 s17=>[(288,(5,v18.Sequent.Left.map (ae true))),(512,(5,v32.map (ae true))),(290,(2,v18.Term.Args.map (am true))),(291,(2,v18.Cut.Atom.Args.map (am true))),(292,(5,v18.Cut.Parts.map (ae true))),(293,(12,s17.map (al true)))]) (Slm_ SC) (fun i17 s17 hi h=>?_) (fun s17 h=>?_)
       ·have w:=ws_ (i:=i17) (by omega)
        refine S ?_
        refine aD cs (by omega) (fun cs=>S ?_)
        obtain⟨v76,hv76,h⟩:=rb_ h
        refine ar (f:=(al false)) hv76 SC (S ?_)
        obtain⟨v85,hv85,h⟩:=rb_ h
        refine ai [false,false,false,false] (ih _ _ _ _ _ hv85) SC (S ?_)
        obtain⟨v86,hv86,h⟩:=rb_ h
        refine ar (f:=(al true)) hv86 SC (S ?_)
        obtain⟨w33,hw33,h⟩:=rb_ h
        refine bu (f:=(al true)) hw33 rfl SC (S ?_)
        refine ag (DHa_ [] [1360,1361,1362,1363,1364,1365]) (S ?_)
        have h:=rs_ h
        refine aA ⟨_,h,?_⟩
        exact Slm_ SW
       ·refine S ?_
        refine aE cs (by omega) (fun cs=>S ?_)
        cases rs_ h
        exact ah SC
     ·refine aR (b:=false) (sz:=12) (es:=a0.Parts.map (al false)) 71 SC fun hl71=>?_; rw[aB] at hl71
      replace h:=rl_ h
      refine aF h (fun i17 s17=>[(2,.val (.pv (B a2))),(5,.box (.pv ((ae false) a1))),(8,.box (.node [(.pv (I 0)),(.node [(.pv (.sl true 5 [])),(.pv (.sl true 5 []))]),(.pv (I 0)),(.node [(.pv (Sx ⟨#[]⟩)),(.pv (.sl true 2 []))]),(.node [(.pv (I 0)),(.node [(.pv (Sx ⟨#[]⟩)),(.pv (.sl true 2 []))]),(.pv (Sx ⟨#[]⟩)),(.pv (.sl true 5 []))]),(.pv (.sl true 12 []))])),(9,.box (.node [(.pv (I v18.Rule)),(.node [(.own 288),(.own 512)]),(.pv (I v18.Main)),(.node [(.pv (Sx v18.Term.Name)),(.own 290)]),(.node [(.pv (I v18.Cut.Op)),(.node [(.pv (Sx v18.Cut.Atom.Name)),(.own 291)]),(.pv (Sx v18.Cut.Var)),(.own 292)]),(.own 293)])),(11,.val (.pv (I s8))),(71,.val (.pv (.sl false 12 (a0.Parts.map (al false))))),(72,.val (.pv (I (a0.Parts.length:Int)))),(73,.val (.pv (I (i17:Int))))]) (fun i17 s17=>[(288,(5,v18.Sequent.Left.map (ae true))),(512,(5,v32.map (ae true))),(290,(2,v18.Term.Args.map (am true))),(291,(2,v18.Cut.Atom.Args.map (am true))),(292,(5,v18.Cut.Parts.map (ae true))),(293,(12,s17.map (al true)))]) (Slm_ SC) (fun i17 s17 hi h=>?_) (fun s17 h=>?_)
      ·have w:=ws_ (i:=i17) (by omega)
       refine S ?_
       refine aD cs (by omega) (fun cs=>S ?_)
       obtain⟨v76,hv76,h⟩:=rb_ h
       refine ar (f:=(al false)) hv76 SC (S ?_)
       obtain⟨v85,hv85,h⟩:=rb_ h
       refine ai [false,false,false,false] (ih _ _ _ _ _ hv85) SC (S ?_)
       obtain⟨v86,hv86,h⟩:=rb_ h
       refine ar (f:=(al true)) hv86 SC (S ?_)
       obtain⟨w36,hw36,h⟩:=rb_ h
       refine bu (f:=(al true)) hw36 rfl SC (S ?_)
       refine ag (DHa_ [] [1360,1361,1362,1363,1364,1365]) (S ?_)
       have h:=rs_ h
       refine aA ⟨_,h,?_⟩
       exact Slm_ SW
      ·refine S ?_
       refine aE cs (by omega) (fun cs=>S ?_)
       cases rs_ h
       exact ah SC
theorem iws_1{a0:Dt}{a1:Ft}{a2:Bool}{a3:Int}{r:Dt}(h:iw_1 a0 a1 a2 a3=some r):Sat aj 75 [((al false) a0),((ae false) a1),(B a2),(I a3)] ((al true) r):=by
 obtain⟨n,hn⟩:=ls_ h
 exact(iwN_1 n) _ _ _ _ _ hn

theorem iiD_4{a0:Dt}  {r:Dt×Bool}(h:iiD_ a0=some r):Sat aj 74 [((al false) a0)] (.tup [((al false) r.1),(B r.2)]):=by
 obtain⟨h,cs⟩:=Ro_ h
 unfold iiD_ at h
 refine av (nt:=9) (rs:=[.cell 2 47,.tmp 3]) (n:=100000) Tryz.func74 rfl rfl rfl rfl (by simp) (S ?_)
 obtain⟨v5,hv5,h⟩:=rb_ h
 refine ai [false] (iIV_7 hv5) SC (S ?_)
 refine ak cs h (fun cs h=>S ?_) (fun cs h=>S ?_)
 ·cases rs_ h
  exact aL SC
 ·cases rs_ h
  exact aL SC

theorem iiD_3{a0:Dt}  {r:Dt×Bool}(h:iiD_ a0=some r):Sat aj 74 [((al true) a0)] (.tup [((al true) r.1),(B r.2)]):=by
 obtain⟨h,cs⟩:=Ro_ h
 unfold iiD_ at h
 refine av (nt:=9) (rs:=[.cell 2 47,.tmp 3]) (n:=100000) Tryz.func74 rfl rfl rfl rfl (by simp) (S ?_)
 obtain⟨v5,hv5,h⟩:=rb_ h
 refine ai [false] (iIV_7 hv5) SC (S ?_)
 refine ak cs h (fun cs h=>S ?_) (fun cs h=>S ?_)
 ·cases rs_ h
  exact ah SC
 ·cases rs_ h
  exact ah SC

theorem iWA_1{a0:Dt}{a1:Ft}{a2:Bool}{a3:Int}  {r:Dt×Bool}(h:iWA_ a0 a1 a2 a3=some r):Sat aj 36 [((al false) a0),((ae false) a1),(B a2),(I a3)] (.tup [((al true) r.1),(B r.2)]):=by
 obtain⟨h,cs⟩:=Ro_ h
 unfold iWA_ at h
 refine av (nt:=42) (rs:=[.cell 8 47,.tmp 9]) (n:=100000) Tryz.func36 rfl rfl rfl rfl (by simp) (S ?_)
 refine ak cs h (fun cs h=>S ?_) (fun cs h=>S ?_)
 ·obtain⟨v19,hv19,h⟩:=rb_ h
  refine ai [false] (iIV_7 hv19) SC (S ?_)
  refine ak cs h (fun cs h=>S ?_) (fun cs h=>S ?_)
  ·obtain⟨v23,hv23,h⟩:=rb_ h
   refine ai [false] (iIV_4 hv23) SC (S ?_)
   refine ak cs h (fun cs h=>S ?_) (fun cs h=>S ?_)
   ·obtain⟨v30,hv30,h⟩:=rb_ h
    refine ai [false,false,false] (iws_ hv30) SC (S ?_)
    refine ak cs h (fun cs h=>S ?_) (fun cs h=>S ?_)
    ·obtain⟨v38,hv38,h⟩:=rb_ h
     refine ai [false,false,false,false] (iws_1 hv38) SC (S ?_)
     obtain⟨v39,hv39,h⟩:=rb_ h
     refine ai [true] (iiD_3 hv39) SC (S ?_)
     cases rs_ h
     exact ah SC
    ·cases rs_ h
     exact ah SC
   ·cases rs_ h
    exact ah SC
  ·cases rs_ h
   exact ah SC
 ·obtain⟨v19,hv19,h⟩:=rb_ h
  refine ai [false] (iIV_7 hv19) SC (S ?_)
  refine ak cs h (fun cs h=>S ?_) (fun cs h=>S ?_)
  ·obtain⟨v23,hv23,h⟩:=rb_ h
   refine ai [false] (iIV_4 hv23) SC (S ?_)
   refine ak cs h (fun cs h=>S ?_) (fun cs h=>S ?_)
   ·obtain⟨v30,hv30,h⟩:=rb_ h
    refine ai [false,false,false] (iws_ hv30) SC (S ?_)
    refine ak cs h (fun cs h=>S ?_) (fun cs h=>S ?_)
    ·obtain⟨v38,hv38,h⟩:=rb_ h
     refine ai [false,false,false,false] (iws_1 hv38) SC (S ?_)
     obtain⟨v39,hv39,h⟩:=rb_ h
     refine ai [true] (iiD_3 hv39) SC (S ?_)
     cases rs_ h
     exact ah SC
    ·cases rs_ h
     exact ah SC
   ·cases rs_ h
    exact ah SC
  ·cases rs_ h
   exact ah SC

theorem eTN_1(n:Nat):(∀ (a0:Tt) (a1:Tt) (r:Bool),eTN_ n a0 a1=some r→Sat aj 48 [((am false) a0),((am false) a1)] (B r))∧(∀ (a0:List Tt) (a1:List Tt) (r:Bool),eTS_ n a0 a1=some r→Sat aj 83 [(.sl false 2 (a0.map (am false))),(.sl false 2 (a1.map (am false)))] (B r)):=by
 induction n with
 | zero=>exact⟨fun _ _ _ h=>by simp[eTN_] at h,fun _ _ _ h=>by simp[eTS_] at h⟩
 | succ n ih=>
  refine⟨fun a0 a1 r h=>?_,fun a0 a1 r h=>?_⟩
  ·obtain⟨h,cs⟩:=Ro_ h
   rw[eTN_] at h
   refine av (nt:=16) (rs:=[.tmp 4]) (n:=100000) Tryz.func48 rfl rfl rfl rfl (by simp) (S ?_)
   refine ak cs h (fun cs h=>S ?_) (fun cs h=>S ?_)
   ·obtain⟨v14,hv14,h⟩:=rb_ h
    refine ai [false,false] (ih.2 _ _ _ hv14) SC (S ?_)
    refine ak cs h (fun cs h=>S ?_) (fun cs h=>S ?_)
    ·cases rs_ h
     exact ah SC
    ·cases rs_ h
     exact ah SC
   ·cases rs_ h
    exact ah SC
  ·obtain⟨h,cs⟩:=Ro_ h
   rw[eTS_] at h
   refine av (nt:=27) (rs:=[.tmp 4]) (n:=100000) Tryz.func83 rfl rfl rfl rfl (by simp) (S ?_)
   refine ak cs h (fun cs h=>S ?_) (fun cs h=>S ?_)
   ·refine aR (b:=false) (sz:=2) (es:=a0.map (am false)) 0 SC fun hl0=>?_; rw[aB] at hl0
    replace h:=rl_ h
    refine aF h (fun i4 s4=>[(0,.val (.pv (.sl false 2 (a0.map (am false))))),(1,.val (.pv (.sl false 2 (a1.map (am false))))),(5,.val (.pv (I (i4:Int))))]) (fun i4 s4=>[]) (Slm_ SC) (fun i4 s4 hi h=>?_) (fun s4 h=>?_)
    ·have w:=ws_ (i:=i4) (by omega)
     refine S ?_
     refine aD cs (by omega) (fun cs=>S ?_)
     obtain⟨v19,hv19,h⟩:=rb_ h
     refine ar (f:=(am false)) hv19 SC (S ?_)
     obtain⟨v23,hv23,h⟩:=rb_ h
     refine ar (f:=(am false)) hv23 SC (S ?_)
     obtain⟨v25,hv25,h⟩:=rb_ h
     refine ai [false,false] (ih.1 _ _ _ hv25) SC (S ?_)
     refine ag (DHa_ [] []) (S ?_)
     refine ak cs h (fun cs h=>S ?_) (fun cs h=>S ?_)
     ·have h:=rs_ h
      refine aA ⟨_,h,?_⟩
      exact Slm_ SW
     ·cases rs_ h
      exact ah SC
    ·refine S ?_
     refine aE cs (by omega) (fun cs=>S ?_)
     cases rs_ h
     exact ah SC
   ·cases rs_ h
    exact ah SC
theorem eTs_{a0:Tt}{a1:Tt}{r:Bool}(h:eT_ a0 a1=some r):Sat aj 48 [((am false) a0),((am false) a1)] (B r):=by
 obtain⟨n,hn⟩:=ls_ h
 exact(eTN_1 n).1 _ _ _ hn
theorem eTS_2{a0:List Tt}{a1:List Tt}{r:Bool}(h:eTS_1 a0 a1=some r):Sat aj 83 [(.sl false 2 (a0.map (am false))),(.sl false 2 (a1.map (am false)))] (B r):=by
 obtain⟨n,hn⟩:=ls_ h
 exact(eTN_1 n).2 _ _ _ hn

theorem eFN_2(n:Nat):(∀ (a0:Ft) (a1:Ft) (r:Bool),eFN_ n a0 a1=some r→Sat aj 32 [((ae false) a0),((ae false) a1)] (B r))∧(∀ (a0:List Ft) (a1:List Ft) (r:Bool),eFS_ n a0 a1=some r→Sat aj 67 [(.sl false 5 (a0.map (ae false))),(.sl false 5 (a1.map (ae false)))] (B r)):=by
 induction n with
 | zero=>exact⟨fun _ _ _ h=>by simp[eFN_] at h,fun _ _ _ h=>by simp[eFS_] at h⟩
 | succ n ih=>
  refine⟨fun a0 a1 r h=>?_,fun a0 a1 r h=>?_⟩
  ·obtain⟨h,cs⟩:=Ro_ h
   rw[eFN_] at h
   refine av (nt:=27) (rs:=[.tmp 4]) (n:=100000) Tryz.func32 rfl rfl rfl rfl (by simp) (S ?_)
   refine ak cs h (fun cs h=>S ?_) (fun cs h=>S ?_)
   ·obtain⟨v14,hv14,h⟩:=rb_ h
    refine ai [false,false] (eTs_ hv14) SC (S ?_)
    refine ak cs h (fun cs h=>S ?_) (fun cs h=>S ?_)
    ·refine ak cs h (fun cs h=>S ?_) (fun cs h=>S ?_)
     ·obtain⟨v25,hv25,h⟩:=rb_ h
      refine ai [false,false] (ih.2 _ _ _ hv25) SC (S ?_)
      refine ak cs h (fun cs h=>S ?_) (fun cs h=>S ?_)
      ·cases rs_ h
       exact ah SC
      ·cases rs_ h
       exact ah SC
     ·cases rs_ h
      exact ah SC
    ·cases rs_ h
     exact ah SC
   ·cases rs_ h
    exact ah SC
  ·obtain⟨h,cs⟩:=Ro_ h
   rw[eFS_] at h
   refine av (nt:=27) (rs:=[.tmp 4]) (n:=100000) Tryz.func67 rfl rfl rfl rfl (by simp) (S ?_)
   refine ak cs h (fun cs h=>S ?_) (fun cs h=>S ?_)
   ·refine aR (b:=false) (sz:=5) (es:=a0.map (ae false)) 0 SC fun hl0=>?_; rw[aB] at hl0
    replace h:=rl_ h
    refine aF h (fun i4 s4=>[(0,.val (.pv (.sl false 5 (a0.map (ae false))))),(1,.val (.pv (.sl false 5 (a1.map (ae false))))),(5,.val (.pv (I (i4:Int))))]) (fun i4 s4=>[]) (Slm_ SC) (fun i4 s4 hi h=>?_) (fun s4 h=>?_)
    ·have w:=ws_ (i:=i4) (by omega)
     refine S ?_
     refine aD cs (by omega) (fun cs=>S ?_)
     obtain⟨v19,hv19,h⟩:=rb_ h
     refine ar (f:=(ae false)) hv19 SC (S ?_)
     obtain⟨v23,hv23,h⟩:=rb_ h
     refine ar (f:=(ae false)) hv23 SC (S ?_)
     obtain⟨v25,hv25,h⟩:=rb_ h
     refine ai [false,false] (ih.1 _ _ _ hv25) SC (S ?_)
     refine ag (DHa_ [] []) (S ?_)
     refine ak cs h (fun cs h=>S ?_) (fun cs h=>S ?_)
     ·have h:=rs_ h
      refine aA ⟨_,h,?_⟩
      exact Slm_ SW
     ·cases rs_ h
      exact ah SC
    ·refine S ?_
     refine aE cs (by omega) (fun cs=>S ?_)
     cases rs_ h
     exact ah SC
   ·cases rs_ h
    exact ah SC
theorem eFs_{a0:Ft}{a1:Ft}{r:Bool}(h:eF_ a0 a1=some r):Sat aj 32 [((ae false) a0),((ae false) a1)] (B r):=by
 obtain⟨n,hn⟩:=ls_ h
 exact(eFN_2 n).1 _ _ _ hn
theorem eFS_3{a0:List Ft}{a1:List Ft}{r:Bool}(h:eFS_1 a0 a1=some r):Sat aj 67 [(.sl false 5 (a0.map (ae false))),(.sl false 5 (a1.map (ae false)))] (B r):=by
 obtain⟨n,hn⟩:=ls_ h
 exact(eFN_2 n).2 _ _ _ hn

theorem eSs_{a0:Sa}{a1:Sa}  {r:Bool}(h:eS_ a0 a1=some r):Sat aj 47 [((aP false) a0),((aP false) a1)] (B r):=by
 obtain⟨h,cs⟩:=Ro_ h
 unfold eS_ at h
 refine av (nt:=17) (rs:=[.tmp 4]) (n:=100000) Tryz.func47 rfl rfl rfl rfl (by simp) (S ?_)
 obtain⟨v9,hv9,h⟩:=rb_ h
 refine ai [false,false] (eFS_3 hv9) SC (S ?_)
 refine ak cs h (fun cs h=>S ?_) (fun cs h=>S ?_)
 ·obtain⟨v15,hv15,h⟩:=rb_ h
  refine ai [false,false] (eFS_3 hv15) SC (S ?_)
  refine ak cs h (fun cs h=>S ?_) (fun cs h=>S ?_)
  ·cases rs_ h
   exact ah SC
  ·cases rs_ h
   exact ah SC
 ·cases rs_ h
  exact ah SC

theorem eDN_1(n:Nat):(∀ (a0:Dt) (a1:Dt) (r:Bool),eDN_ n a0 a1=some r→Sat aj 13 [((al false) a0),((al false) a1)] (B r))∧(∀ (a0:List Dt) (a1:List Dt) (r:Bool),eDS_ n a0 a1=some r→Sat aj 49 [(.sl false 12 (a0.map (al false))),(.sl false 12 (a1.map (al false)))] (B r)):=by
 induction n with
 | zero=>exact⟨fun _ _ _ h=>by simp[eDN_] at h,fun _ _ _ h=>by simp[eDS_] at h⟩
 | succ n ih=>
  refine⟨fun a0 a1 r h=>?_,fun a0 a1 r h=>?_⟩
  ·obtain⟨h,cs⟩:=Ro_ h
   rw[eDN_] at h
   refine av (nt:=39) (rs:=[.tmp 4]) (n:=100000) Tryz.func13 rfl rfl rfl rfl (by simp) (S ?_)
   refine ak cs h (fun cs h=>S ?_) (fun cs h=>S ?_)
   ·obtain⟨v14,hv14,h⟩:=rb_ h
    refine ai [false,false] (eSs_ hv14) SC (S ?_)
    refine ak cs h (fun cs h=>S ?_) (fun cs h=>S ?_)
    ·refine ak cs h (fun cs h=>S ?_) (fun cs h=>S ?_)
     ·obtain⟨v25,hv25,h⟩:=rb_ h
      refine ai [false,false] (eTs_ hv25) SC (S ?_)
      refine ak cs h (fun cs h=>S ?_) (fun cs h=>S ?_)
      ·obtain⟨v31,hv31,h⟩:=rb_ h
       refine ai [false,false] (eFs_ hv31) SC (S ?_)
       refine ak cs h (fun cs h=>S ?_) (fun cs h=>S ?_)
       ·obtain⟨v37,hv37,h⟩:=rb_ h
        refine ai [false,false] (ih.2 _ _ _ hv37) SC (S ?_)
        refine ak cs h (fun cs h=>S ?_) (fun cs h=>S ?_)
        ·cases rs_ h
         exact ah SC
        ·cases rs_ h
         exact ah SC
       ·cases rs_ h
        exact ah SC
      ·cases rs_ h
       exact ah SC
     ·cases rs_ h
      exact ah SC
    ·cases rs_ h
     exact ah SC
   ·cases rs_ h
    exact ah SC
  ·obtain⟨h,cs⟩:=Ro_ h
   rw[eDS_] at h
   refine av (nt:=27) (rs:=[.tmp 4]) (n:=100000) Tryz.func49 rfl rfl rfl rfl (by simp) (S ?_)
   refine ak cs h (fun cs h=>S ?_) (fun cs h=>S ?_)
   ·refine aR (b:=false) (sz:=12) (es:=a0.map (al false)) 0 SC fun hl0=>?_; rw[aB] at hl0
    replace h:=rl_ h
    refine aF h (fun i4 s4=>[(0,.val (.pv (.sl false 12 (a0.map (al false))))),(1,.val (.pv (.sl false 12 (a1.map (al false))))),(5,.val (.pv (I (i4:Int))))]) (fun i4 s4=>[]) (Slm_ SC) (fun i4 s4 hi h=>?_) (fun s4 h=>?_)
    ·have w:=ws_ (i:=i4) (by omega)
     refine S ?_
     refine aD cs (by omega) (fun cs=>S ?_)
     obtain⟨v19,hv19,h⟩:=rb_ h
     refine ar (f:=(al false)) hv19 SC (S ?_)
     obtain⟨v23,hv23,h⟩:=rb_ h
     refine ar (f:=(al false)) hv23 SC (S ?_)
     obtain⟨v25,hv25,h⟩:=rb_ h
     refine ai [false,false] (ih.1 _ _ _ hv25) SC (S ?_)
     refine ag (DHa_ [] []) (S ?_)
     refine ak cs h (fun cs h=>S ?_) (fun cs h=>S ?_)
     ·have h:=rs_ h
      refine aA ⟨_,h,?_⟩
      exact Slm_ SW
     ·cases rs_ h
      exact ah SC
    ·refine S ?_
     refine aE cs (by omega) (fun cs=>S ?_)
     cases rs_ h
     exact ah SC
   ·cases rs_ h
    exact ah SC
theorem eDs_{a0:Dt}{a1:Dt}{r:Bool}(h:eD_ a0 a1=some r):Sat aj 13 [((al false) a0),((al false) a1)] (B r):=by
 obtain⟨n,hn⟩:=ls_ h
 exact(eDN_1 n).1 _ _ _ hn
theorem eDS_2{a0:List Dt}{a1:List Dt}{r:Bool}(h:eDS_1 a0 a1=some r):Sat aj 49 [(.sl false 12 (a0.map (al false))),(.sl false 12 (a1.map (al false)))] (B r):=by
 obtain⟨n,hn⟩:=ls_ h
 exact(eDN_1 n).2 _ _ _ hn

theorem mTs_{a0:Int}  {r:ByteArray}(h:mT_ a0=some r):Sat aj 85 [(I a0)] (Sx r):=by
 obtain⟨h,cs⟩:=Ro_ h
 unfold mT_ at h
 refine av (nt:=20) (rs:=[.tmp 2]) (n:=100000) Tryz.func85 rfl rfl rfl rfl (by simp) (S ?_)
 refine ak cs h (fun cs h=>S ?_) (fun cs h=>S ?_)
 ·cases rs_ h
  exact ah SC
 ·replace h:=rl_ h
  refine Mg.whileN h (fun s4=>[(0,.val (.pv (I s4.1))),(3,.val (.pv (Sx s4.2)))]) (fun s4=>[]) (Slm_ SC) (fun n4 s4 h=>?_)
  refine S ?_
  refine ak cs h (fun cs h=>S ?_) (fun cs h=>S ?_)
  ·obtain⟨v9,hv9,h⟩:=rb_ h
   refine remH.mk hv9 (S ?_)
   obtain⟨v13,hv13,h⟩:=rb_ h
   refine BstrH.mk hv13 SC (S ?_)
   obtain⟨v15,hv15,h⟩:=rb_ h
   refine SappH.mk hv15 (S ?_)
   obtain⟨v17,hv17,h⟩:=rb_ h
   refine quoH.mk hv17 (S ?_)
   have h:=rs_ h
   refine aA ⟨_,h,?_⟩
   exact Slm_ SC
  ·have h:=rs_ h
   obtain⟨v19,hv19,h⟩:=rb_ h
   refine SappH.mk hv19 (S ?_)
   cases rs_ h
   exact ah SC

theorem mTS_5(n:Nat):(∀ (a0:List Tt) (a1:Int) (r:Int×(List Tt)),mTS_1 n a0 a1=some r→SatIO aj 84 [(.sl true 2 (a0.map (am true))),(I a1)] [(.sl true 2 (r.2.map (am true))),(I a1)] (I r.1)):=by
 induction n with
 | zero=>exact fun _ _ _ h=>by simp[mTS_1] at h
 | succ n ih=>
  refine fun a0 a1 r h=>?_
  obtain⟨h,cs⟩:=Ro_ h
  rw[mTS_1] at h
  refine SIo_ (nt:=28) (rs:=[.tmp 4]) (n:=100000) Tryz.func84 rfl rfl rfl rfl (by simp) (S ?_)
  refine au (S ?_)
  refine aW (Nat.le_of_eq rfl) (S ?_)
  refine au (S ?_)
  refine aW (Nat.le_of_eq rfl) (S ?_)
  replace h:=rl_ h
  refine MgI.whileN h (fun s2=>[(0,.val (.own 10000)),(1,.val (.pv (I s2.2.1))),(5,.val (.pv (I s2.2.2)))]) (fun s2=>[(10000,(2,s2.1.map (am true)))]) (Slm_ SC) (fun n2 s2 h=>?_)
  refine S ?_
  refine au (S ?_)
  refine au (S ?_)
  refine au (S ?_)
  refine au (S ?_)
  refine aW (Nat.le_of_eq rfl) (S ?_)
  refine ak cs h (fun cs h=>S ?_) (fun cs h=>S ?_)
  ·refine au (S ?_)
   refine au (S ?_)
   refine au (S ?_)
   refine au (S ?_)
   obtain⟨v15,hv15,h⟩:=rb_ h
   refine ai [false] (mTs_ hv15) SC (S ?_)
   refine au (S ?_)
   obtain⟨v16,hv16,h⟩:=rb_ h
   refine ar (f:=(am true)) hv16 SC (S ?_)
   refine au (S ?_)
   refine au (S ?_)
   obtain⟨w2,hw2,h⟩:=rb_ h
   refine bu (f:=(am true)) hw2 rfl SC (S ?_)
   refine aW (Nat.le_of_eq rfl) (S ?_)
   refine au (S ?_)
   refine au (S ?_)
   refine au (S ?_)
   refine aW (Nat.le_of_eq rfl) (S ?_)
   refine au (S ?_)
   refine au (S ?_)
   refine au (S ?_)
   obtain⟨v22,hv22,h⟩:=rb_ h
   refine ar (f:=(am true)) hv22 SC (S ?_)
   refine au (S ?_)
   obtain⟨w3,hw3,h⟩:=rb_ h
   obtain⟨v26,hv26,h⟩:=rb_ h
   refine Vei_ (fx:=(am true)) (c:=10000) (sz:=2) (p:=[1]) (off:=1) (h1:=rfl) (h3:=rfl) (h2:=rfl) rfl rfl rfl rfl rfl rfl rfl rfl rfl hw3 (ih _ _ _ hv26) SC SC (S ?_)
   refine au (S ?_)
   refine aW (Nat.le_of_eq rfl) (S ?_)
   refine au (S ?_)
   refine au (S ?_)
   refine au (S ?_)
   refine aW (Nat.le_of_eq rfl) (S ?_)
   have h:=rs_ h
   refine aA ⟨_,h,?_⟩
   exact Slm_ SC
  ·have h:=rs_ h
   refine au (S ?_)
   refine au (S ?_)
   refine aW (Nat.le_of_eq rfl) (S ?_)
   cases rs_ h
   exact FinIO.mk SC
theorem mTS_2{a0:List Tt}{a1:Int}{r:Int×(List Tt)}(h:mTS_3 a0 a1=some r):SatIO aj 84 [(.sl true 2 (a0.map (am true))),(I a1)] [(.sl true 2 (r.2.map (am true))),(I a1)] (I r.1):=by
 obtain⟨n,hn⟩:=ls_ h
 exact(mTS_5 n) _ _ _ hn

theorem mFS_5(n:Nat):(∀ (a0:List Ft) (a1:Int) (r:Int×(List Ft)),mFS_1 n a0 a1=some r→SatIO aj 61 [(.sl true 5 (a0.map (ae true))),(I a1)] [(.sl true 5 (r.2.map (ae true))),(I a1)] (I r.1)):=by
 induction n with
 | zero=>exact fun _ _ _ h=>by simp[mFS_1] at h
 | succ n ih=>
  refine fun a0 a1 r h=>?_
  obtain⟨h,cs⟩:=Ro_ h
  rw[mFS_1] at h
  refine SIo_ (nt:=52) (rs:=[.tmp 4]) (n:=100000) Tryz.func61 rfl rfl rfl rfl (by simp) (S ?_)
  refine au (S ?_)
  refine aW (Nat.le_of_eq rfl) (S ?_)
  refine au (S ?_)
  refine aW (Nat.le_of_eq rfl) (S ?_)
  replace h:=rl_ h
  refine MgI.whileN h (fun s2=>[(0,.val (.own 10000)),(1,.val (.pv (I s2.2.1))),(5,.val (.pv (I s2.2.2)))]) (fun s2=>[(10000,(5,s2.1.map (ae true)))]) (Slm_ SC) (fun n2 s2 h=>?_)
  refine S ?_
  refine au (S ?_)
  refine au (S ?_)
  refine au (S ?_)
  refine au (S ?_)
  refine aW (Nat.le_of_eq rfl) (S ?_)
  refine ak cs h (fun cs h=>S ?_) (fun cs h=>S ?_)
  ·refine au (S ?_)
   refine au (S ?_)
   refine au (S ?_)
   refine au (S ?_)
   obtain⟨v15,hv15,h⟩:=rb_ h
   refine ar (f:=(ae true)) hv15 SC (S ?_)
   refine au (S ?_)
   refine au (S ?_)
   obtain⟨w2,hw2,h⟩:=rb_ h
   refine bu (f:=(ae true)) hw2 rfl SC (S ?_)
   refine aW (Nat.le_of_eq rfl) (S ?_)
   refine au (S ?_)
   refine au (S ?_)
   refine au (S ?_)
   refine aW (Nat.le_of_eq rfl) (S ?_)
   refine au (S ?_)
   refine au (S ?_)
   refine au (S ?_)
   refine au (S ?_)
   obtain⟨v22,hv22,h⟩:=rb_ h
   refine ai [false] (mTs_ hv22) SC (S ?_)
   refine au (S ?_)
   obtain⟨v23,hv23,h⟩:=rb_ h
   refine ar (f:=(ae true)) hv23 SC (S ?_)
   refine au (S ?_)
   refine au (S ?_)
   refine au (S ?_)
   obtain⟨w3,hw3,h⟩:=rb_ h
   refine bu (f:=(ae true)) hw3 rfl SC (S ?_)
   refine aW (Nat.le_of_eq rfl) (S ?_)
   refine au (S ?_)
   refine au (S ?_)
   refine au (S ?_)
   refine aW (Nat.le_of_eq rfl) (S ?_)
   refine au (S ?_)
   refine au (S ?_)
   refine au (S ?_)
   obtain⟨v30,hv30,h⟩:=rb_ h
   refine ar (f:=(ae true)) hv30 SC (S ?_)
   refine au (S ?_)
   refine au (S ?_)
   obtain⟨w4,hw4,h⟩:=rb_ h
   obtain⟨v35,hv35,h⟩:=rb_ h
   refine Vei_ (fx:=(ae true)) (c:=10000) (sz:=5) (p:=[1,1]) (off:=2) (h1:=rfl) (h3:=rfl) (h2:=rfl) rfl rfl rfl rfl rfl rfl rfl rfl rfl hw4 (mTS_2 hv35) SC SC (S ?_)
   refine au (S ?_)
   refine aW (Nat.le_of_eq rfl) (S ?_)
   refine au (S ?_)
   refine au (S ?_)
   refine au (S ?_)
   refine au (S ?_)
   obtain⟨v39,hv39,h⟩:=rb_ h
   refine ai [false] (mTs_ hv39) SC (S ?_)
   refine au (S ?_)
   obtain⟨v40,hv40,h⟩:=rb_ h
   refine ar (f:=(ae true)) hv40 SC (S ?_)
   refine au (S ?_)
   refine au (S ?_)
   obtain⟨w5,hw5,h⟩:=rb_ h
   refine bu (f:=(ae true)) hw5 rfl SC (S ?_)
   refine aW (Nat.le_of_eq rfl) (S ?_)
   refine au (S ?_)
   refine au (S ?_)
   refine au (S ?_)
   refine aW (Nat.le_of_eq rfl) (S ?_)
   refine au (S ?_)
   refine au (S ?_)
   refine au (S ?_)
   obtain⟨v46,hv46,h⟩:=rb_ h
   refine ar (f:=(ae true)) hv46 SC (S ?_)
   refine au (S ?_)
   obtain⟨w6,hw6,h⟩:=rb_ h
   obtain⟨v50,hv50,h⟩:=rb_ h
   refine Vei_ (fx:=(ae true)) (c:=10000) (sz:=5) (p:=[3]) (off:=4) (h1:=rfl) (h3:=rfl) (h2:=rfl) rfl rfl rfl rfl rfl rfl rfl rfl rfl hw6 (ih _ _ _ hv50) SC SC (S ?_)
   refine au (S ?_)
   refine aW (Nat.le_of_eq rfl) (S ?_)
   refine au (S ?_)
   refine au (S ?_)
   refine au (S ?_)
   refine aW (Nat.le_of_eq rfl) (S ?_)
   have h:=rs_ h
   refine aA ⟨_,h,?_⟩
   exact Slm_ SC
  ·have h:=rs_ h
   refine au (S ?_)
   refine au (S ?_)
   refine aW (Nat.le_of_eq rfl) (S ?_)
   cases rs_ h
   exact FinIO.mk SC
theorem mFS_2{a0:List Ft}{a1:Int}{r:Int×(List Ft)}(h:mFS_3 a0 a1=some r):SatIO aj 61 [(.sl true 5 (a0.map (ae true))),(I a1)] [(.sl true 5 (r.2.map (ae true))),(I a1)] (I r.1):=by
 obtain⟨n,hn⟩:=ls_ h
 exact(mFS_5 n) _ _ _ hn

theorem mSs_{a0:Sa}{a1:Int}  {r:Int×(List Ft)×(List Ft)}(h:mS_ a0 a1=some r):SatIO aj 50 [((aP true) a0),(I a1)] [((aP true) (Sa.mk r.2.1 r.2.2)),(I a1)] (I r.1):=by
 obtain⟨h,cs⟩:=Ro_ h
 unfold mS_ at h
 refine SatIO.of_m (nt:=14) (rs:=[.tmp 4]) (n:=100000) Tryz.func50 rfl rfl rfl rfl (by simp) (S ?_)
 obtain⟨v8,hv8,h⟩:=rb_ h
 refine CHi_ [(.own 10000),(.pv (I a1))] [(10000,(5,v8.2.map (ae true)))] (mFS_2 hv8) SC (S ?_)
 obtain⟨v12,hv12,h⟩:=rb_ h
 refine CHi_ [(.own 10001),(.pv (I v8.1))] [(10001,(5,v12.2.map (ae true)))] (mFS_2 hv12) SC (S ?_)
 cases rs_ h
 exact FinIO.mk SC

theorem mTs_1{a0:Tt}{a1:Int}  {r:Int×(List Tt)}(h:mT_1 a0 a1=some r):SatIO aj 51 [((am true) a0),(I a1)] [((am true) (Tt.mk a0.Name r.2)),(I a1)] (I r.1):=by
 obtain⟨h,cs⟩:=Ro_ h
 unfold mT_1 at h
 refine SatIO.of_m (nt:=10) (rs:=[.tmp 4]) (n:=100000) Tryz.func51 rfl rfl rfl rfl (by simp) (S ?_)
 obtain⟨v8,hv8,h⟩:=rb_ h
 refine CHi_ [(.own 10000),(.pv (I a1))] [(10000,(2,v8.2.map (am true)))] (mTS_2 hv8) SC (S ?_)
 cases rs_ h
 exact FinIO.mk SC

theorem mFs_{a0:Ft}{a1:Int}  {r:Int×(List Tt)×(List Ft)}(h:mF_ a0 a1=some r):SatIO aj 33 [((ae true) a0),(I a1)] [((ae true) (Ft.mk a0.Op (Tt.mk a0.Atom.Name r.2.1) a0.Var r.2.2)),(I a1)] (I r.1):=by
 obtain⟨h,cs⟩:=Ro_ h
 unfold mF_ at h
 refine SatIO.of_m (nt:=14) (rs:=[.tmp 4]) (n:=100000) Tryz.func33 rfl rfl rfl rfl (by simp) (S ?_)
 obtain⟨v8,hv8,h⟩:=rb_ h
 refine CHi_ [(.node [(.pv (Sx a0.Atom.Name)),(.own 10000)]),(.pv (I a1))] [(10000,(2,v8.2.map (am true)))] (mTs_1 hv8) SC (S ?_)
 obtain⟨v12,hv12,h⟩:=rb_ h
 refine CHi_ [(.own 10001),(.pv (I v8.1))] [(10001,(5,v12.2.map (ae true)))] (mFS_2 hv12) SC (S ?_)
 cases rs_ h
 exact FinIO.mk SC

theorem mDS_4(n:Nat):(∀ (a0:List Dt) (a1:Int) (r:Int×(List Dt)),mDS_ n a0 a1=some r→SatIO aj 52 [(.sl true 12 (a0.map (al true))),(I a1)] [(.sl true 12 (r.2.map (al true))),(I a1)] (I r.1)):=by
 induction n with
 | zero=>exact fun _ _ _ h=>by simp[mDS_] at h
 | succ n ih=>
  refine fun a0 a1 r h=>?_
  obtain⟨h,cs⟩:=Ro_ h
  rw[mDS_] at h
  refine SIo_ (nt:=111) (rs:=[.tmp 4]) (n:=100000) Tryz.func52 rfl rfl rfl rfl (by simp) (S ?_)
  refine au (S ?_)
  refine aW (Nat.le_of_eq rfl) (S ?_)
  refine au (S ?_)
  refine aW (Nat.le_of_eq rfl) (S ?_)
  replace h:=rl_ h
  refine MgI.whileN h (fun s2=>[(0,.val (.own 10000)),(1,.val (.pv (I s2.2.1))),(5,.val (.pv (I s2.2.2)))]) (fun s2=>[(10000,(12,s2.1.map (al true)))]) (Slm_ SC) (fun n2 s2 h=>?_)
  refine S ?_
  refine au (S ?_)
  refine au (S ?_)
  refine au (S ?_)
  refine au (S ?_)
  refine aW (Nat.le_of_eq rfl) (S ?_)
  refine ak cs h (fun cs h=>S ?_) (fun cs h=>S ?_)
  ·refine au (S ?_)
   refine au (S ?_)
   refine au (S ?_)
   refine au (S ?_)
   obtain⟨v15,hv15,h⟩:=rb_ h
   refine ar (f:=(al true)) hv15 SC (S ?_)
   refine au (S ?_)
   refine au (S ?_)
   obtain⟨w2,hw2,h⟩:=rb_ h
   refine bu (f:=(al true)) hw2 rfl SC (S ?_)
   refine aW (Nat.le_of_eq rfl) (S ?_)
   refine au (S ?_)
   refine au (S ?_)
   refine au (S ?_)
   refine aW (Nat.le_of_eq rfl) (S ?_)
   refine au (S ?_)
   refine au (S ?_)
   refine au (S ?_)
   obtain⟨v21,hv21,h⟩:=rb_ h
   refine ar (f:=(al true)) hv21 SC (S ?_)
   refine au (S ?_)
   refine au (S ?_)
   obtain⟨w3,hw3,h⟩:=rb_ h
   obtain⟨v26,hv26,h⟩:=rb_ h
   refine Vei_ (fx:=(al true)) (c:=10000) (sz:=12) (p:=[1,0]) (off:=1) (h1:=rfl) (h3:=rfl) (h2:=rfl) rfl rfl rfl rfl rfl rfl rfl rfl rfl hw3 (mFS_2 hv26) SC SC (S ?_)
   refine au (S ?_)
   refine aW (Nat.le_of_eq rfl) (S ?_)
   refine au (S ?_)
   refine au (S ?_)
   refine au (S ?_)
   obtain⟨v29,hv29,h⟩:=rb_ h
   refine ar (f:=(al true)) hv29 SC (S ?_)
   refine au (S ?_)
   refine au (S ?_)
   obtain⟨w4,hw4,h⟩:=rb_ h
   obtain⟨v34,hv34,h⟩:=rb_ h
   refine Vei_ (fx:=(al true)) (c:=10000) (sz:=12) (p:=[1,1]) (off:=2) (h1:=rfl) (h3:=rfl) (h2:=rfl) rfl rfl rfl rfl rfl rfl rfl rfl rfl hw4 (mFS_2 hv34) SC SC (S ?_)
   refine au (S ?_)
   refine aW (Nat.le_of_eq rfl) (S ?_)
   refine au (S ?_)
   refine au (S ?_)
   refine au (S ?_)
   refine au (S ?_)
   obtain⟨v38,hv38,h⟩:=rb_ h
   refine ar (f:=(al true)) hv38 SC (S ?_)
   refine au (S ?_)
   refine au (S ?_)
   obtain⟨w5,hw5,h⟩:=rb_ h
   refine bu (f:=(al true)) hw5 rfl SC (S ?_)
   refine aW (Nat.le_of_eq rfl) (S ?_)
   refine au (S ?_)
   refine au (S ?_)
   refine au (S ?_)
   refine aW (Nat.le_of_eq rfl) (S ?_)
   refine au (S ?_)
   refine au (S ?_)
   refine au (S ?_)
   refine au (S ?_)
   obtain⟨v45,hv45,h⟩:=rb_ h
   refine ai [false] (mTs_ hv45) SC (S ?_)
   refine au (S ?_)
   obtain⟨v46,hv46,h⟩:=rb_ h
   refine ar (f:=(al true)) hv46 SC (S ?_)
   refine au (S ?_)
   refine au (S ?_)
   refine au (S ?_)
   obtain⟨w6,hw6,h⟩:=rb_ h
   refine bu (f:=(al true)) hw6 rfl SC (S ?_)
   refine aW (Nat.le_of_eq rfl) (S ?_)
   refine au (S ?_)
   refine au (S ?_)
   refine au (S ?_)
   refine aW (Nat.le_of_eq rfl) (S ?_)
   refine au (S ?_)
   refine au (S ?_)
   refine au (S ?_)
   obtain⟨v53,hv53,h⟩:=rb_ h
   refine ar (f:=(al true)) hv53 SC (S ?_)
   refine au (S ?_)
   refine au (S ?_)
   obtain⟨w7,hw7,h⟩:=rb_ h
   obtain⟨v58,hv58,h⟩:=rb_ h
   refine Vei_ (fx:=(al true)) (c:=10000) (sz:=12) (p:=[3,1]) (off:=5) (h1:=rfl) (h3:=rfl) (h2:=rfl) rfl rfl rfl rfl rfl rfl rfl rfl rfl hw7 (mTS_2 hv58) SC SC (S ?_)
   refine au (S ?_)
   refine aW (Nat.le_of_eq rfl) (S ?_)
   refine au (S ?_)
   refine au (S ?_)
   refine au (S ?_)
   refine au (S ?_)
   obtain⟨v62,hv62,h⟩:=rb_ h
   refine ar (f:=(al true)) hv62 SC (S ?_)
   refine au (S ?_)
   refine au (S ?_)
   refine au (S ?_)
   obtain⟨w8,hw8,h⟩:=rb_ h
   refine bu (f:=(al true)) hw8 rfl SC (S ?_)
   refine aW (Nat.le_of_eq rfl) (S ?_)
   refine au (S ?_)
   refine au (S ?_)
   refine au (S ?_)
   refine aW (Nat.le_of_eq rfl) (S ?_)
   refine au (S ?_)
   refine au (S ?_)
   refine au (S ?_)
   refine au (S ?_)
   obtain⟨v70,hv70,h⟩:=rb_ h
   refine ai [false] (mTs_ hv70) SC (S ?_)
   refine au (S ?_)
   obtain⟨v71,hv71,h⟩:=rb_ h
   refine ar (f:=(al true)) hv71 SC (S ?_)
   refine au (S ?_)
   refine au (S ?_)
   refine au (S ?_)
   refine au (S ?_)
   obtain⟨w9,hw9,h⟩:=rb_ h
   refine bu (f:=(al true)) hw9 rfl SC (S ?_)
   refine aW (Nat.le_of_eq rfl) (S ?_)
   refine au (S ?_)
   refine au (S ?_)
   refine au (S ?_)
   refine aW (Nat.le_of_eq rfl) (S ?_)
   refine au (S ?_)
   refine au (S ?_)
   refine au (S ?_)
   obtain⟨v79,hv79,h⟩:=rb_ h
   refine ar (f:=(al true)) hv79 SC (S ?_)
   refine au (S ?_)
   refine au (S ?_)
   refine au (S ?_)
   obtain⟨w10,hw10,h⟩:=rb_ h
   obtain⟨v85,hv85,h⟩:=rb_ h
   refine Vei_ (fx:=(al true)) (c:=10000) (sz:=12) (p:=[4,1,1]) (off:=8) (h1:=rfl) (h3:=rfl) (h2:=rfl) rfl rfl rfl rfl rfl rfl rfl rfl rfl hw10 (mTS_2 hv85) SC SC (S ?_)
   refine au (S ?_)
   refine aW (Nat.le_of_eq rfl) (S ?_)
   refine au (S ?_)
   refine au (S ?_)
   refine au (S ?_)
   refine au (S ?_)
   obtain⟨v89,hv89,h⟩:=rb_ h
   refine ai [false] (mTs_ hv89) SC (S ?_)
   refine au (S ?_)
   obtain⟨v90,hv90,h⟩:=rb_ h
   refine ar (f:=(al true)) hv90 SC (S ?_)
   refine au (S ?_)
   refine au (S ?_)
   refine au (S ?_)
   obtain⟨w11,hw11,h⟩:=rb_ h
   refine bu (f:=(al true)) hw11 rfl SC (S ?_)
   refine aW (Nat.le_of_eq rfl) (S ?_)
   refine au (S ?_)
   refine au (S ?_)
   refine au (S ?_)
   refine aW (Nat.le_of_eq rfl) (S ?_)
   refine au (S ?_)
   refine au (S ?_)
   refine au (S ?_)
   obtain⟨v97,hv97,h⟩:=rb_ h
   refine ar (f:=(al true)) hv97 SC (S ?_)
   refine au (S ?_)
   refine au (S ?_)
   obtain⟨w12,hw12,h⟩:=rb_ h
   obtain⟨v102,hv102,h⟩:=rb_ h
   refine Vei_ (fx:=(al true)) (c:=10000) (sz:=12) (p:=[4,3]) (off:=10) (h1:=rfl) (h3:=rfl) (h2:=rfl) rfl rfl rfl rfl rfl rfl rfl rfl rfl hw12 (mFS_2 hv102) SC SC (S ?_)
   refine au (S ?_)
   refine aW (Nat.le_of_eq rfl) (S ?_)
   refine au (S ?_)
   refine au (S ?_)
   refine au (S ?_)
   obtain⟨v105,hv105,h⟩:=rb_ h
   refine ar (f:=(al true)) hv105 SC (S ?_)
   refine au (S ?_)
   obtain⟨w13,hw13,h⟩:=rb_ h
   obtain⟨v109,hv109,h⟩:=rb_ h
   refine Vei_ (fx:=(al true)) (c:=10000) (sz:=12) (p:=[5]) (off:=11) (h1:=rfl) (h3:=rfl) (h2:=rfl) rfl rfl rfl rfl rfl rfl rfl rfl rfl hw13 (ih _ _ _ hv109) SC SC (S ?_)
   refine au (S ?_)
   refine aW (Nat.le_of_eq rfl) (S ?_)
   refine au (S ?_)
   refine au (S ?_)
   refine au (S ?_)
   refine aW (Nat.le_of_eq rfl) (S ?_)
   have h:=rs_ h
   refine aA ⟨_,h,?_⟩
   exact Slm_ SC
  ·have h:=rs_ h
   refine au (S ?_)
   refine au (S ?_)
   refine aW (Nat.le_of_eq rfl) (S ?_)
   cases rs_ h
   exact FinIO.mk SC
theorem mDS_5{a0:List Dt}{a1:Int}{r:Int×(List Dt)}(h:mDS_2 a0 a1=some r):SatIO aj 52 [(.sl true 12 (a0.map (al true))),(I a1)] [(.sl true 12 (r.2.map (al true))),(I a1)] (I r.1):=by
 obtain⟨n,hn⟩:=ls_ h
 exact(mDS_4 n) _ _ _ hn

theorem mDs_{a0:Dt}{a1:Int}  {r:Int×(List Ft)×(List Ft)×(List Tt)×(List Tt)×(List Ft)×(List Dt)}(h:mD_ a0 a1=some r):SatIO aj 14 [((al true) a0),(I a1)] [((al true) (Dt.mk a0.Rule (Sa.mk r.2.1 r.2.2.1) a0.Main (Tt.mk a0.Term.Name r.2.2.2.1) (Ft.mk a0.Cut.Op (Tt.mk a0.Cut.Atom.Name r.2.2.2.2.1) a0.Cut.Var r.2.2.2.2.2.1) r.2.2.2.2.2.2)),(I a1)] (I r.1):=by
 obtain⟨h,cs⟩:=Ro_ h
 unfold mD_ at h
 refine SatIO.of_m (nt:=22) (rs:=[.tmp 4]) (n:=100000) Tryz.func14 rfl rfl rfl rfl (by simp) (S ?_)
 obtain⟨v8,hv8,h⟩:=rb_ h
 refine CHi_ [(.node [(.own 10000),(.own 10001)]),(.pv (I a1))] [(10000,(5,v8.2.1.map (ae true))),(10001,(5,v8.2.2.map (ae true)))] (mSs_ hv8) SC (S ?_)
 obtain⟨v12,hv12,h⟩:=rb_ h
 refine CHi_ [(.node [(.pv (Sx a0.Term.Name)),(.own 10002)]),(.pv (I v8.1))] [(10002,(2,v12.2.map (am true)))] (mTs_1 hv12) SC (S ?_)
 obtain⟨v16,hv16,h⟩:=rb_ h
 refine CHi_ [(.node [(.pv (I a0.Cut.Op)),(.node [(.pv (Sx a0.Cut.Atom.Name)),(.own 10003)]),(.pv (Sx a0.Cut.Var)),(.own 10004)]),(.pv (I v12.1))] [(10003,(2,v16.2.1.map (am true))),(10004,(5,v16.2.2.map (ae true)))] (mFs_ hv16) SC (S ?_)
 obtain⟨v20,hv20,h⟩:=rb_ h
 refine CHi_ [(.own 10005),(.pv (I v16.1))] [(10005,(12,v20.2.map (al true)))] (mDS_5 hv20) SC (S ?_)
 cases rs_ h
 exact FinIO.mk SC

theorem hTS_3(n:Nat):(∀ (a0:List Tt) (a1:Int) (r:Int),hTS_ n a0 a1=some r→Sat aj 103 [(.sl false 2 (a0.map (am false))),(I a1)] (I r)):=by
 induction n with
 | zero=>exact fun _ _ _ h=>by simp[hTS_] at h
 | succ n ih=>
  refine fun a0 a1 r h=>?_
  obtain⟨h,cs⟩:=Ro_ h
  rw[hTS_] at h
  refine av (nt:=32) (rs:=[.tmp 4]) (n:=100000) Tryz.func103 rfl rfl rfl rfl (by simp) (S ?_)
  refine aR (b:=false) (sz:=2) (es:=a0.map (am false)) 0 SC fun hl0=>?_; rw[aB] at hl0
  replace h:=rl_ h
  refine aF h (fun i2 s2=>[(0,.val (.pv (.sl false 2 (a0.map (am false))))),(1,.val (.pv (I s2))),(5,.val (.pv (I (i2:Int))))]) (fun i2 s2=>[]) (Slm_ SC) (fun i2 s2 hi h=>?_) (fun s2 h=>?_)
  ·have w:=ws_ (i:=i2) (by omega)
   refine S ?_
   refine aD cs (by omega) (fun cs=>S ?_)
   obtain⟨v14,hv14,h⟩:=rb_ h
   refine ar (f:=(am false)) hv14 SC (S ?_)
   obtain⟨v18,hv18,h⟩:=rb_ h
   refine ai [false] (mTs_ hv18) SC (S ?_)
   refine ag (DHa_ [] []) (S ?_)
   refine ak cs h (fun cs h=>S ?_) (fun cs h=>S ?_)
   ·obtain⟨v24,hv24,h⟩:=rb_ h
    refine ar (f:=(am false)) hv24 SC (S ?_)
    obtain⟨v28,hv28,h⟩:=rb_ h
    refine ai [false,false] (ih _ _ _ hv28) SC (S ?_)
    refine ak cs h (fun cs h=>S ?_) (fun cs h=>S ?_)
    ·cases rs_ h
     exact ah SC
    ·have h:=rs_ h
     refine aA ⟨_,h,?_⟩
     exact Slm_ SW
   ·cases rs_ h
    exact ah SC
  ·refine S ?_
   refine aE cs (by omega) (fun cs=>S ?_)
   cases rs_ h
   exact ah SC
theorem hTS_1{a0:List Tt}{a1:Int}{r:Int}(h:hTS_2 a0 a1=some r):Sat aj 103 [(.sl false 2 (a0.map (am false))),(I a1)] (I r):=by
 obtain⟨n,hn⟩:=ls_ h
 exact(hTS_3 n) _ _ _ hn

theorem hFS_3(n:Nat):(∀ (a0:List Ft) (a1:Int) (r:Int),hFS_ n a0 a1=some r→Sat aj 62 [(.sl false 5 (a0.map (ae false))),(I a1)] (I r)):=by
 induction n with
 | zero=>exact fun _ _ _ h=>by simp[hFS_] at h
 | succ n ih=>
  refine fun a0 a1 r h=>?_
  obtain⟨h,cs⟩:=Ro_ h
  rw[hFS_] at h
  refine av (nt:=62) (rs:=[.tmp 4]) (n:=100000) Tryz.func62 rfl rfl rfl rfl (by simp) (S ?_)
  refine aR (b:=false) (sz:=5) (es:=a0.map (ae false)) 0 SC fun hl0=>?_; rw[aB] at hl0
  replace h:=rl_ h
  refine aF h (fun i2 s2=>[(0,.val (.pv (.sl false 5 (a0.map (ae false))))),(1,.val (.pv (I s2))),(5,.val (.pv (I (i2:Int))))]) (fun i2 s2=>[]) (Slm_ SC) (fun i2 s2 hi h=>?_) (fun s2 h=>?_)
  ·have w:=ws_ (i:=i2) (by omega)
   refine S ?_
   refine aD cs (by omega) (fun cs=>S ?_)
   obtain⟨v14,hv14,h⟩:=rb_ h
   refine ar (f:=(ae false)) hv14 SC (S ?_)
   refine ak cs h (fun cs h=>S ?_) (fun cs h=>S ?_)
   ·obtain⟨v23,hv23,h⟩:=rb_ h
    refine ar (f:=(ae false)) hv23 SC (S ?_)
    obtain⟨v28,hv28,h⟩:=rb_ h
    refine ai [false] (mTs_ hv28) SC (S ?_)
    refine ag (DHa_ [] []) (S ?_)
    refine ak cs h (fun cs h=>S ?_) (fun cs h=>S ?_)
    ·obtain⟨v34,hv34,h⟩:=rb_ h
     refine ar (f:=(ae false)) hv34 SC (S ?_)
     obtain⟨v39,hv39,h⟩:=rb_ h
     refine ai [false,false] (hTS_1 hv39) SC (S ?_)
     refine ak cs h (fun cs h=>S ?_) (fun cs h=>S ?_)
     ·cases rs_ h
      exact ah SC
     ·obtain⟨v44,hv44,h⟩:=rb_ h
      refine ar (f:=(ae false)) hv44 SC (S ?_)
      obtain⟨v48,hv48,h⟩:=rb_ h
      refine ai [false] (mTs_ hv48) SC (S ?_)
      refine ag (DHa_ [] []) (S ?_)
      refine ak cs h (fun cs h=>S ?_) (fun cs h=>S ?_)
      ·obtain⟨v54,hv54,h⟩:=rb_ h
       refine ar (f:=(ae false)) hv54 SC (S ?_)
       obtain⟨v58,hv58,h⟩:=rb_ h
       refine ai [false,false] (ih _ _ _ hv58) SC (S ?_)
       refine ak cs h (fun cs h=>S ?_) (fun cs h=>S ?_)
       ·cases rs_ h
        exact ah SC
       ·have h:=rs_ h
        refine aA ⟨_,h,?_⟩
        exact Slm_ SW
      ·cases rs_ h
       exact ah SC
    ·cases rs_ h
     exact ah SC
   ·cases rs_ h
    exact ah SC
  ·refine S ?_
   refine aE cs (by omega) (fun cs=>S ?_)
   cases rs_ h
   exact ah SC
theorem hFS_1{a0:List Ft}{a1:Int}{r:Int}(h:hFS_2 a0 a1=some r):Sat aj 62 [(.sl false 5 (a0.map (ae false))),(I a1)] (I r):=by
 obtain⟨n,hn⟩:=ls_ h
 exact(hFS_3 n) _ _ _ hn

theorem hSs_{a0:Sa}{a1:Int}  {r:Int}(h:hS_ a0 a1=some r):Sat aj 68 [((aP false) a0),(I a1)] (I r):=by
 obtain⟨h,cs⟩:=Ro_ h
 unfold hS_ at h
 refine av (nt:=18) (rs:=[.tmp 4]) (n:=100000) Tryz.func68 rfl rfl rfl rfl (by simp) (S ?_)
 obtain⟨v8,hv8,h⟩:=rb_ h
 refine ai [false,false] (hFS_1 hv8) SC (S ?_)
 refine ak cs h (fun cs h=>S ?_) (fun cs h=>S ?_)
 ·cases rs_ h
  exact ah SC
 ·obtain⟨v14,hv14,h⟩:=rb_ h
  refine ai [false,false] (hFS_1 hv14) SC (S ?_)
  refine ak cs h (fun cs h=>S ?_) (fun cs h=>S ?_)
  ·cases rs_ h
   exact ah SC
  ·cases rs_ h
   exact ah SC

theorem hTs_{a0:Tt}{a1:Int}  {r:Int}(h:hT_ a0 a1=some r):Sat aj 69 [((am false) a0),(I a1)] (I r):=by
 obtain⟨h,cs⟩:=Ro_ h
 unfold hT_ at h
 refine av (nt:=12) (rs:=[.tmp 4]) (n:=100000) Tryz.func69 rfl rfl rfl rfl (by simp) (S ?_)
 obtain⟨v8,hv8,h⟩:=rb_ h
 refine ai [false,false] (hTS_1 hv8) SC (S ?_)
 refine ak cs h (fun cs h=>S ?_) (fun cs h=>S ?_)
 ·cases rs_ h
  exact ah SC
 ·cases rs_ h
  exact ah SC

theorem hFs_{a0:Ft}{a1:Int}  {r:Int}(h:hF_ a0 a1=some r):Sat aj 70 [((ae false) a0),(I a1)] (I r):=by
 obtain⟨h,cs⟩:=Ro_ h
 unfold hF_ at h
 refine av (nt:=18) (rs:=[.tmp 4]) (n:=100000) Tryz.func70 rfl rfl rfl rfl (by simp) (S ?_)
 obtain⟨v8,hv8,h⟩:=rb_ h
 refine ai [false,false] (hTs_ hv8) SC (S ?_)
 refine ak cs h (fun cs h=>S ?_) (fun cs h=>S ?_)
 ·cases rs_ h
  exact ah SC
 ·obtain⟨v14,hv14,h⟩:=rb_ h
  refine ai [false,false] (hFS_1 hv14) SC (S ?_)
  refine ak cs h (fun cs h=>S ?_) (fun cs h=>S ?_)
  ·cases rs_ h
   exact ah SC
  ·cases rs_ h
   exact ah SC

theorem hDS_2(n:Nat):(∀ (a0:List Dt) (a1:Int) (r:Int),hDS_ n a0 a1=some r→Sat aj 71 [(.sl false 12 (a0.map (al false))),(I a1)] (I r)):=by
 induction n with
 | zero=>exact fun _ _ _ h=>by simp[hDS_] at h
 | succ n ih=>
  refine fun a0 a1 r h=>?_
  obtain⟨h,cs⟩:=Ro_ h
  rw[hDS_] at h
  refine av (nt:=135) (rs:=[.tmp 4]) (n:=100000) Tryz.func71 rfl rfl rfl rfl (by simp) (S ?_)
  refine aR (b:=false) (sz:=12) (es:=a0.map (al false)) 0 SC fun hl0=>?_; rw[aB] at hl0
  replace h:=rl_ h
  refine aF h (fun i2 s2=>[(0,.val (.pv (.sl false 12 (a0.map (al false))))),(1,.val (.pv (I s2))),(5,.val (.pv (I (i2:Int))))]) (fun i2 s2=>[]) (Slm_ SC) (fun i2 s2 hi h=>?_) (fun s2 h=>?_)
  ·have w:=ws_ (i:=i2) (by omega)
   refine S ?_
   refine aD cs (by omega) (fun cs=>S ?_)
   obtain⟨v14,hv14,h⟩:=rb_ h
   refine ar (f:=(al false)) hv14 SC (S ?_)
   refine ak cs h (fun cs h=>S ?_) (fun cs h=>S ?_)
   ·obtain⟨v23,hv23,h⟩:=rb_ h
    refine ar (f:=(al false)) hv23 SC (S ?_)
    obtain⟨v28,hv28,h⟩:=rb_ h
    refine ai [false,false] (hFS_1 hv28) SC (S ?_)
    refine ak cs h (fun cs h=>S ?_) (fun cs h=>S ?_)
    ·cases rs_ h
     exact ah SC
    ·obtain⟨v33,hv33,h⟩:=rb_ h
     refine ar (f:=(al false)) hv33 SC (S ?_)
     obtain⟨v38,hv38,h⟩:=rb_ h
     refine ai [false,false] (hFS_1 hv38) SC (S ?_)
     refine ak cs h (fun cs h=>S ?_) (fun cs h=>S ?_)
     ·cases rs_ h
      exact ah SC
     ·obtain⟨v43,hv43,h⟩:=rb_ h
      refine ar (f:=(al false)) hv43 SC (S ?_)
      refine ak cs h (fun cs h=>S ?_) (fun cs h=>S ?_)
      ·obtain⟨v52,hv52,h⟩:=rb_ h
       refine ar (f:=(al false)) hv52 SC (S ?_)
       obtain⟨v57,hv57,h⟩:=rb_ h
       refine ai [false] (mTs_ hv57) SC (S ?_)
       refine ag (DHa_ [] []) (S ?_)
       refine ak cs h (fun cs h=>S ?_) (fun cs h=>S ?_)
       ·obtain⟨v63,hv63,h⟩:=rb_ h
        refine ar (f:=(al false)) hv63 SC (S ?_)
        obtain⟨v68,hv68,h⟩:=rb_ h
        refine ai [false,false] (hTS_1 hv68) SC (S ?_)
        refine ak cs h (fun cs h=>S ?_) (fun cs h=>S ?_)
        ·cases rs_ h
         exact ah SC
        ·obtain⟨v73,hv73,h⟩:=rb_ h
         refine ar (f:=(al false)) hv73 SC (S ?_)
         refine ak cs h (fun cs h=>S ?_) (fun cs h=>S ?_)
         ·obtain⟨v83,hv83,h⟩:=rb_ h
          refine ar (f:=(al false)) hv83 SC (S ?_)
          obtain⟨v89,hv89,h⟩:=rb_ h
          refine ai [false] (mTs_ hv89) SC (S ?_)
          refine ag (DHa_ [] []) (S ?_)
          refine ak cs h (fun cs h=>S ?_) (fun cs h=>S ?_)
          ·obtain⟨v95,hv95,h⟩:=rb_ h
           refine ar (f:=(al false)) hv95 SC (S ?_)
           obtain⟨v101,hv101,h⟩:=rb_ h
           refine ai [false,false] (hTS_1 hv101) SC (S ?_)
           refine ak cs h (fun cs h=>S ?_) (fun cs h=>S ?_)
           ·cases rs_ h
            exact ah SC
           ·obtain⟨v106,hv106,h⟩:=rb_ h
            refine ar (f:=(al false)) hv106 SC (S ?_)
            obtain⟨v111,hv111,h⟩:=rb_ h
            refine ai [false] (mTs_ hv111) SC (S ?_)
            refine ag (DHa_ [] []) (S ?_)
            refine ak cs h (fun cs h=>S ?_) (fun cs h=>S ?_)
            ·obtain⟨v117,hv117,h⟩:=rb_ h
             refine ar (f:=(al false)) hv117 SC (S ?_)
             obtain⟨v122,hv122,h⟩:=rb_ h
             refine ai [false,false] (hFS_1 hv122) SC (S ?_)
             refine ak cs h (fun cs h=>S ?_) (fun cs h=>S ?_)
             ·cases rs_ h
              exact ah SC
             ·obtain⟨v127,hv127,h⟩:=rb_ h
              refine ar (f:=(al false)) hv127 SC (S ?_)
              obtain⟨v131,hv131,h⟩:=rb_ h
              refine ai [false,false] (ih _ _ _ hv131) SC (S ?_)
              refine ak cs h (fun cs h=>S ?_) (fun cs h=>S ?_)
              ·cases rs_ h
               exact ah SC
              ·have h:=rs_ h
               refine aA ⟨_,h,?_⟩
               exact Slm_ SW
            ·cases rs_ h
             exact ah SC
          ·cases rs_ h
           exact ah SC
         ·cases rs_ h
          exact ah SC
       ·cases rs_ h
        exact ah SC
      ·cases rs_ h
       exact ah SC
   ·cases rs_ h
    exact ah SC
  ·refine S ?_
   refine aE cs (by omega) (fun cs=>S ?_)
   cases rs_ h
   exact ah SC
theorem hDS_3{a0:List Dt}{a1:Int}{r:Int}(h:hDS_1 a0 a1=some r):Sat aj 71 [(.sl false 12 (a0.map (al false))),(I a1)] (I r):=by
 obtain⟨n,hn⟩:=ls_ h
 exact(hDS_2 n) _ _ _ hn

theorem hDs_{a0:Dt}{a1:Int}  {r:Int}(h:hD_ a0 a1=some r):Sat aj 34 [((al false) a0),(I a1)] (I r):=by
 obtain⟨h,cs⟩:=Ro_ h
 unfold hD_ at h
 refine av (nt:=30) (rs:=[.tmp 4]) (n:=100000) Tryz.func34 rfl rfl rfl rfl (by simp) (S ?_)
 obtain⟨v8,hv8,h⟩:=rb_ h
 refine ai [false,false] (hSs_ hv8) SC (S ?_)
 refine ak cs h (fun cs h=>S ?_) (fun cs h=>S ?_)
 ·cases rs_ h
  exact ah SC
 ·obtain⟨v14,hv14,h⟩:=rb_ h
  refine ai [false,false] (hTs_ hv14) SC (S ?_)
  refine ak cs h (fun cs h=>S ?_) (fun cs h=>S ?_)
  ·cases rs_ h
   exact ah SC
  ·obtain⟨v20,hv20,h⟩:=rb_ h
   refine ai [false,false] (hFs_ hv20) SC (S ?_)
   refine ak cs h (fun cs h=>S ?_) (fun cs h=>S ?_)
   ·cases rs_ h
    exact ah SC
   ·obtain⟨v26,hv26,h⟩:=rb_ h
    refine ai [false,false] (hDS_3 hv26) SC (S ?_)
    refine ak cs h (fun cs h=>S ?_) (fun cs h=>S ?_)
    ·cases rs_ h
     exact ah SC
    ·cases rs_ h
     exact ah SC

theorem sWA_2{a0:Dt}{a1:Ft}{a2:Bool}{a3:Int}  {r:Dt×Bool}(h:sWA_ a0 a1 a2 a3=some r):Sat aj 35 [((al true) a0),((ae true) a1),(B a2),(I a3)] (.tup [((al false) r.1),(B r.2)]):=by
 obtain⟨h,cs⟩:=Ro_ h
 unfold sWA_ at h
 refine av (nt:=45) (rs:=[.cell 8 47,.tmp 9]) (n:=100000) Tryz.func35 rfl rfl rfl rfl (by simp) (S ?_)
 obtain⟨v13,hv13,h⟩:=rb_ h
 refine ai [false] (slV_1 hv13) SC (S ?_)
 refine ak cs h (fun cs h=>S ?_) (fun cs h=>S ?_)
 ·obtain⟨v17,hv17,h⟩:=rb_ h
  refine ai [false] (slG_2 hv17) SC (S ?_)
  refine ak cs h (fun cs h=>S ?_) (fun cs h=>S ?_)
  ·refine ak cs h (fun cs h=>S ?_) (fun cs h=>S ?_)
   ·obtain⟨v32,hv32,h⟩:=rb_ h
    refine ai [false,false,false] (slI_2 hv32) SC (S ?_)
    refine ak cs h (fun cs h=>S ?_) (fun cs h=>S ?_)
    ·obtain⟨v39,hv39,h⟩:=rb_ h
     refine ai [true,true,false,false] (Sat.give (args:=[(.agg [(I a0.Rule),(.agg [(.sl true 5 (a0.Sequent.Left.map (ae true))),(.sl true 5 (a0.Sequent.Right.map (ae true)))]),(I a0.Main),(.agg [(Sx a0.Term.Name),(.sl true 2 (a0.Term.Args.map (am true)))]),(.agg [(I a0.Cut.Op),(.agg [(Sx a0.Cut.Atom.Name),(.sl true 2 (a0.Cut.Atom.Args.map (am true)))]),(Sx a0.Cut.Var),(.sl true 5 (a0.Cut.Parts.map (ae true)))]),(.sl true 12 (a0.Parts.map (al true)))]),(.agg [(I a1.Op),(.agg [(Sx a1.Atom.Name),(.sl true 2 (a1.Atom.Args.map (am true)))]),(Sx a1.Var),(.sl true 5 (a1.Parts.map (ae true)))]),(B a2),(I a3)]) [true,true,false,false] (by have gg:=slI_5 hv39; simp only[gv_t,gv_f,gv_n,vs_,va_,vl_,vrB_,vrI_,aI,RB,RS] at gg ⊢; exact gg)) SC (S ?_)
     obtain⟨v41,hv41,h⟩:=rb_ h
     refine ai [false] (slV_1 hv41) SC (S ?_)
     refine ak cs h (fun cs h=>S ?_) (fun cs h=>S ?_)
     ·cases rs_ h
      exact aL SC
     ·cases rs_ h
      exact aL SC
    ·cases rs_ h
     exact aL SC
   ·obtain⟨v32,hv32,h⟩:=rb_ h
    refine ai [false,false,false] (slI_2 hv32) SC (S ?_)
    refine ak cs h (fun cs h=>S ?_) (fun cs h=>S ?_)
    ·obtain⟨v39,hv39,h⟩:=rb_ h
     refine ai [true,true,false,false] (Sat.give (args:=[(.agg [(I a0.Rule),(.agg [(.sl true 5 (a0.Sequent.Left.map (ae true))),(.sl true 5 (a0.Sequent.Right.map (ae true)))]),(I a0.Main),(.agg [(Sx a0.Term.Name),(.sl true 2 (a0.Term.Args.map (am true)))]),(.agg [(I a0.Cut.Op),(.agg [(Sx a0.Cut.Atom.Name),(.sl true 2 (a0.Cut.Atom.Args.map (am true)))]),(Sx a0.Cut.Var),(.sl true 5 (a0.Cut.Parts.map (ae true)))]),(.sl true 12 (a0.Parts.map (al true)))]),(.agg [(I a1.Op),(.agg [(Sx a1.Atom.Name),(.sl true 2 (a1.Atom.Args.map (am true)))]),(Sx a1.Var),(.sl true 5 (a1.Parts.map (ae true)))]),(B a2),(I a3)]) [true,true,false,false] (by have gg:=slI_5 hv39; simp only[gv_t,gv_f,gv_n,vs_,va_,vl_,vrB_,vrI_,aI,RB,RS] at gg ⊢; exact gg)) SC (S ?_)
     obtain⟨v41,hv41,h⟩:=rb_ h
     refine ai [false] (slV_1 hv41) SC (S ?_)
     refine ak cs h (fun cs h=>S ?_) (fun cs h=>S ?_)
     ·cases rs_ h
      exact aL SC
     ·cases rs_ h
      exact aL SC
    ·cases rs_ h
     exact aL SC
  ·cases rs_ h
   exact aL SC
 ·cases rs_ h
  exact aL SC

theorem FnExactWeakenAt_sat{a0:Dt}{a1:Ft}{a2:Bool}{a3:Int}  {r:Bool}(h:FnExactWeakenAt a0 a1 a2 a3=some r):Sat aj 7 [((al false) a0),((ae false) a1),(B a2),(I a3)] (B r):=by
 obtain⟨h,cs⟩:=Ro_ h
 unfold FnExactWeakenAt at h
 refine av (nt:=129) (rs:=[.tmp 8]) (n:=100000) Tryz.func7 rfl rfl rfl rfl (by simp) (S ?_)
 obtain⟨v23,hv23,h⟩:=rb_ h
 refine ai [false,false] (sDs_ hv23) SC (S ?_)
 refine ak cs h (fun cs h=>S ?_) (fun cs h=>S ?_)
 ·cases rs_ h
  exact ah SC
 ·obtain⟨v28,hv28,h⟩:=rb_ h
  refine ai [false,false] (sFs_ hv28) SC (S ?_)
  refine ak cs h (fun cs h=>S ?_) (fun cs h=>S ?_)
  ·cases rs_ h
   exact ah SC
  ·obtain⟨v33,hv33,h⟩:=rb_ h
   refine ai [false] (tDs_ hv33) SC (S ?_)
   obtain⟨v35,hv35,h⟩:=rb_ h
   refine ai [false] (tFs_ hv35) SC (S ?_)
   obtain⟨v38,hv38,h⟩:=rb_ h
   refine ai [true,true,false,false] (Sat.give (args:=[(.agg [(I v33.Rule),(.agg [(.sl true 5 (v33.Sequent.Left.map (ae true))),(.sl true 5 (v33.Sequent.Right.map (ae true)))]),(I v33.Main),(.agg [(Sx v33.Term.Name),(.sl true 2 (v33.Term.Args.map (am true)))]),(.agg [(I v33.Cut.Op),(.agg [(Sx v33.Cut.Atom.Name),(.sl true 2 (v33.Cut.Atom.Args.map (am true)))]),(Sx v33.Cut.Var),(.sl true 5 (v33.Cut.Parts.map (ae true)))]),(.sl true 12 (v33.Parts.map (al true)))]),(.agg [(I v35.Op),(.agg [(Sx v35.Atom.Name),(.sl true 2 (v35.Atom.Args.map (am true)))]),(Sx v35.Var),(.sl true 5 (v35.Parts.map (ae true)))]),(B a2),(I a3)]) [true,true,false,false] (by have gg:=sWA_1 hv38; simp only[gv_t,gv_f,gv_n,vs_,va_,vl_,vrB_,vrI_,aI,RB,RS] at gg ⊢; exact gg)) SC (S ?_)
   refine ag (DHa_ [10] [528,529,530,531,532,533,560,561]) (S ?_)
   obtain⟨v42,hv42,h⟩:=rb_ h
   refine ai [false] (tDs_ hv42) SC (S ?_)
   obtain⟨v44,hv44,h⟩:=rb_ h
   refine ai [false] (tFs_ hv44) SC (S ?_)
   obtain⟨v50,hv50,h⟩:=rb_ h
   refine ai [false,false,false,false] (iWA_1 hv50) SC (S ?_)
   obtain⟨v55,hv55,h⟩:=rb_ h
   refine ai [false,false] (eDs_ hv55) SC (S ?_)
   refine ak cs h (fun cs h=>S ?_) (fun cs h=>S ?_)
   ·refine ak cs h (fun cs h=>S ?_) (fun cs h=>S ?_)
    ·obtain⟨v64,hv64,h⟩:=rb_ h
     refine ai [false] (tDs_ hv64) SC (S ?_)
     obtain⟨v65,hv65,h⟩:=rb_ h
     refine ai [false,false] (eDs_ hv65) SC (S ?_)
     refine ag (DHa_ [] [1024,1025,1026,1027,1028,1029]) (S ?_)
     refine ak cs h (fun cs h=>S ?_) (fun cs h=>S ?_)
     ·obtain⟨v69,hv69,h⟩:=rb_ h
      refine ai [false] (tFs_ hv69) SC (S ?_)
      obtain⟨v70,hv70,h⟩:=rb_ h
      refine ai [false,false] (eFs_ hv70) SC (S ?_)
      refine ag (DHa_ [] [1104,1105]) (S ?_)
      refine ak cs h (fun cs h=>S ?_) (fun cs h=>S ?_)
      ·obtain⟨v74,hv74,h⟩:=rb_ h
       refine CHi_ [(.node [(.pv (I v42.Rule)),(.node [(.own 672),(.own 673)]),(.pv (I v42.Main)),(.node [(.pv (Sx v42.Term.Name)),(.own 674)]),(.node [(.pv (I v42.Cut.Op)),(.node [(.pv (Sx v42.Cut.Atom.Name)),(.own 675)]),(.pv (Sx v42.Cut.Var)),(.own 676)]),(.own 677)]),(.pv (I 1))] [(672,(5,v74.2.1.map (ae true))),(673,(5,v74.2.2.1.map (ae true))),(674,(2,v74.2.2.2.1.map (am true))),(675,(2,v74.2.2.2.2.1.map (am true))),(676,(5,v74.2.2.2.2.2.1.map (ae true))),(677,(12,v74.2.2.2.2.2.2.map (al true)))] (mDs_ hv74) SC (S ?_)
       obtain⟨v77,hv77,h⟩:=rb_ h
       refine CHi_ [(.node [(.pv (I v44.Op)),(.node [(.pv (Sx v44.Atom.Name)),(.own 704)]),(.pv (Sx v44.Var)),(.own 705)]),(.pv (I v74.1))] [(704,(2,v77.2.1.map (am true))),(705,(5,v77.2.2.map (ae true)))] (mFs_ hv77) SC (S ?_)
       refine ak cs h (fun cs h=>S ?_) (fun cs h=>S ?_)
       ·cases rs_ h
        exact ah SC
       ·obtain⟨v83,hv83,h⟩:=rb_ h
        refine ai [false,false] (eDs_ hv83) SC (S ?_)
        refine ak cs h (fun cs h=>S ?_) (fun cs h=>S ?_)
        ·obtain⟨v93,hv93,h⟩:=rb_ h
         refine CHi_ [(.node [(.pv (I v50.1.Rule)),(.node [(.own 800),(.own 801)]),(.pv (I v50.1.Main)),(.node [(.pv (Sx v50.1.Term.Name)),(.own 802)]),(.node [(.pv (I v50.1.Cut.Op)),(.node [(.pv (Sx v50.1.Cut.Atom.Name)),(.own 803)]),(.pv (Sx v50.1.Cut.Var)),(.own 804)]),(.own 805)]),(.pv (I 1))] [(800,(5,v93.2.1.map (ae true))),(801,(5,v93.2.2.1.map (ae true))),(802,(2,v93.2.2.2.1.map (am true))),(803,(2,v93.2.2.2.2.1.map (am true))),(804,(5,v93.2.2.2.2.2.1.map (ae true))),(805,(12,v93.2.2.2.2.2.2.map (al true)))] (mDs_ hv93) SC (S ?_)
         obtain⟨v96,hv96,h⟩:=rb_ h
         refine ai [false,false] (hDs_ hv96) SC (S ?_)
         refine ak cs h (fun cs h=>S ?_) (fun cs h=>S ?_)
         ·cases rs_ h
          exact ah SC
         ·refine ak cs h (fun cs h=>S ?_) (fun cs h=>S ?_)
          ·obtain⟨v104,hv104,h⟩:=rb_ h
           refine ai [false] (tDs_ hv104) SC (S ?_)
           obtain⟨v106,hv106,h⟩:=rb_ h
           refine ai [false] (tFs_ hv106) SC (S ?_)
           obtain⟨v109,hv109,h⟩:=rb_ h
           refine ai [false,false,false,false] (iWA_1 hv109) SC (S ?_)
           refine ag (DHa_ [19] [1664,1665,1666,1667,1668,1669,1696,1697,1744,1745,1746,1747,1748,1749]) (S ?_)
           obtain⟨v114,hv114,h⟩:=rb_ h
           refine ai [false,false] (eDs_ hv114) SC (S ?_)
           refine ak cs h (fun cs h=>S ?_) (fun cs h=>S ?_)
           ·refine ak cs h (fun cs h=>S ?_) (fun cs h=>S ?_)
            ·obtain⟨v123,hv123,h⟩:=rb_ h
             refine ai [false,false] (hDs_ hv123) SC (S ?_)
             refine ak cs h (fun cs h=>S ?_) (fun cs h=>S ?_)
             ·cases rs_ h
              exact ah SC
             ·refine ak cs h (fun cs h=>S ?_) (fun cs h=>S ?_)
              ·cases rs_ h
               exact ah SC
              ·cases rs_ h
               exact ah SC
            ·cases rs_ h
             exact ah SC
           ·cases rs_ h
            exact ah SC
          ·cases rs_ h
           exact ah SC
        ·cases rs_ h
         exact ah SC
      ·cases rs_ h
       exact ah SC
     ·cases rs_ h
      exact ah SC
    ·cases rs_ h
     exact ah SC
   ·cases rs_ h
    exact ah SC

end Go.Proofs.YtkoghcphkdecoaaGreat
