/- Lemmas of the proof; each says what it shows. -/
import Derived.Test.YtafdgbndcflghaaGreatGw0
set_option linter.unusedSimpArgs false
set_option linter.unusedVariables false
set_option linter.defProp false
set_option maxRecDepth 4000
namespace Go.Proofs.YtafdgbndcflghaaGreat
open Go.Av
open And renaming intro→ae
open AppH renaming c→aS
open CallH renaming c→ai
open CondH renaming run→ag,t3→aG,f3→aH
open Dt renaming pv→al
open Ft renaming pv→aj
open IdxH renaming c→aq
open List renaming length_map→aD
open Mg renaming forN→aI,know_sl→aN
open PV renaming views→aB
open RdH renaming z→aJ
open Sa renaming pv→aL
open Sat renaming go→au
open SidxH renaming mk→bw
open St renaming le_trans→bt
open Tryz renaming prog→ah
open Tt renaming pv→am
set_option maxHeartbeats 4000000
theorem slR_4{a0:Dt}  {r:Dt×Bool}(h:slR_3 a0=some r):Sat ah 67 [((al false) a0)] (.tup [((al false) r.1),(B r.2)]):=by
 obtain⟨h,cs⟩:=Ro_ h
 unfold slR_3 at h
 refine au 199 [.cell 2 44,.tmp 3] Tryz.func67 (h:=S ?_)
 refine rb_ h fun v19 q h=>ai [false] (slC_6 q) (S ?_)
 refine ag cs h (fun cs h=>S ?_) fun cs h=>S ?_
 rotate_left
 refine rb_ h fun v28 q h=>aq (al false) q (S ?_)
 refine rb_ h fun v32 q h=>aq (al false) q (S ?_)
 refine ae (DHa_ [6,7,8] []) (S ?_)
 refine rb_ h fun v43 q h=>ai [false,false,false] (slI_2 q) (S ?_)
 refine ag cs h (fun cs h=>S ?_) fun cs h=>S ?_
 refine ag cs h (fun cs h=>S ?_) fun cs h=>S ?_
 refine ag cs h (fun cs h=>S ?_) fun cs h=>S ?_
 refine ag cs h (fun cs h=>S ?_) fun cs h=>S ?_
 refine ag cs h (fun cs h=>S ?_) fun cs h=>S ?_
 refine rb_ h fun v78 q h=>aq (aj false) q (S ?_)
 refine ag cs h (fun cs h=>S ?_) fun cs h=>S ?_
 rotate_left
 refine rb_ h fun v100 q h=>aq (aj false) q (S ?_)
 refine ae (DHa_ [] [1632,1664]) (S ?_)
 refine ag cs h (fun cs h=>S ?_) fun cs h=>S ?_
 rotate_left
 refine ag cs h (fun cs h=>S ?_) fun cs h=>S ?_
 ·refine rb_ h fun v144 q h=>ai [false,false,false,false,false] (slN_ q) (S ?_)
  refine rb_ h fun v148 q h=>aq (al false) q (S ?_)
  refine rb_ h fun v150 q h=>ai [false] (slO_3 q) (S ?_)
  refine rb_ h fun v153 q h=>aq (al false) q (S ?_)
  refine rb_ h fun v159 q h=>ai [false,false,false,false] (slI_9 q) (S ?_)
  refine rb_ h fun v160 q h=>ai [true,false,true,false] (Sg_ (args:=[(.agg [(.sl true 5 (v144.Left.map (aj true))),(.sl true 5 (v144.Right.map (aj true)))]),((aj false) v100),(.agg [(I v150.Rule),(.agg [(.sl true 5 (v150.Sequent.Left.map (aj true))),(.sl true 5 (v150.Sequent.Right.map (aj true)))]),(I v150.Main),(.agg [(Sx v150.Term.Name),(.sl true 2 (v150.Term.Args.map (am true)))]),(.agg [(I v150.Cut.Op),(.agg [(Sx v150.Cut.Atom.Name),(.sl true 2 (v150.Cut.Atom.Args.map (am true)))]),(Sx v150.Cut.Var),(.sl true 5 (v150.Cut.Parts.map (aj true)))]),(.sl true 12 (v150.Parts.map (al true)))]),((al false) v159)]) [true,false,true,false] (by have gg:=slC_2 q; simp only[gv_t,gv_f,gv_n,vs_,va_,vl_,vrB_,vrI_,aB,RB,RS] at gg ⊢; exact gg)) (S ?_)
  refine ae (DHa_ [15] [2304,2305,2400,2401,2402,2403,2404,2405]) (S ?_)
  refine rb_ h fun v166 q h=>aq (al false) q (S ?_)
  refine rb_ h fun v168 q h=>ai [false] (slO_3 q) (S ?_)
  refine rb_ h fun v169 q h=>ai [false,false,false,true] (Sg_ (args:=[((aL false) a0.Sequent),((aj false) v78),((al false) v160),(.agg [(I v168.Rule),(.agg [(.sl true 5 (v168.Sequent.Left.map (aj true))),(.sl true 5 (v168.Sequent.Right.map (aj true)))]),(I v168.Main),(.agg [(Sx v168.Term.Name),(.sl true 2 (v168.Term.Args.map (am true)))]),(.agg [(I v168.Cut.Op),(.agg [(Sx v168.Cut.Atom.Name),(.sl true 2 (v168.Cut.Atom.Args.map (am true)))]),(Sx v168.Cut.Var),(.sl true 5 (v168.Cut.Parts.map (aj true)))]),(.sl true 12 (v168.Parts.map (al true)))])]) [false,false,false,true] (by have gg:=slC_2 q; simp only[gv_t,gv_f,gv_n,vs_,va_,vl_,vrB_,vrI_,aB,RB,RS] at gg ⊢; exact gg)) (S ?_)
  refine ae (DHa_ [] [2688,2689,2690,2691,2692,2693]) (S ?_)
  exact FHz_1 h
 ·refine rb_ h fun v173 q h=>ai [false,false,false,false,false] (slN_ q) (S ?_)
  refine rb_ h fun v177 q h=>aq (al false) q (S ?_)
  refine rb_ h fun v179 q h=>ai [false] (slO_3 q) (S ?_)
  refine rb_ h fun v182 q h=>aq (al false) q (S ?_)
  refine rb_ h fun v188 q h=>ai [false,false,false,false] (slI_9 q) (S ?_)
  refine rb_ h fun v189 q h=>ai [true,false,true,false] (Sg_ (args:=[(.agg [(.sl true 5 (v173.Left.map (aj true))),(.sl true 5 (v173.Right.map (aj true)))]),((aj false) v100),(.agg [(I v179.Rule),(.agg [(.sl true 5 (v179.Sequent.Left.map (aj true))),(.sl true 5 (v179.Sequent.Right.map (aj true)))]),(I v179.Main),(.agg [(Sx v179.Term.Name),(.sl true 2 (v179.Term.Args.map (am true)))]),(.agg [(I v179.Cut.Op),(.agg [(Sx v179.Cut.Atom.Name),(.sl true 2 (v179.Cut.Atom.Args.map (am true)))]),(Sx v179.Cut.Var),(.sl true 5 (v179.Cut.Parts.map (aj true)))]),(.sl true 12 (v179.Parts.map (al true)))]),((al false) v188)]) [true,false,true,false] (by have gg:=slC_2 q; simp only[gv_t,gv_f,gv_n,vs_,va_,vl_,vrB_,vrI_,aB,RB,RS] at gg ⊢; exact gg)) (S ?_)
  refine ae (DHa_ [16] [2768,2769,2864,2865,2866,2867,2868,2869]) (S ?_)
  refine rb_ h fun v194 q h=>aq (al false) q (S ?_)
  refine rb_ h fun v196 q h=>ai [false] (slO_3 q) (S ?_)
  refine rb_ h fun v198 q h=>ai [false,false,true,false] (Sg_ (args:=[((aL false) a0.Sequent),((aj false) v78),(.agg [(I v196.Rule),(.agg [(.sl true 5 (v196.Sequent.Left.map (aj true))),(.sl true 5 (v196.Sequent.Right.map (aj true)))]),(I v196.Main),(.agg [(Sx v196.Term.Name),(.sl true 2 (v196.Term.Args.map (am true)))]),(.agg [(I v196.Cut.Op),(.agg [(Sx v196.Cut.Atom.Name),(.sl true 2 (v196.Cut.Atom.Args.map (am true)))]),(Sx v196.Cut.Var),(.sl true 5 (v196.Cut.Parts.map (aj true)))]),(.sl true 12 (v196.Parts.map (al true)))]),((al false) v189)]) [false,false,true,false] (by have gg:=slC_2 q; simp only[gv_t,gv_f,gv_n,vs_,va_,vl_,vrB_,vrI_,aB,RB,RS] at gg ⊢; exact gg)) (S ?_)
  refine ae (DHa_ [] [3136,3137,3138,3139,3140,3141]) (S ?_)
  exact FHz_1 h
 rotate_left 6
 ·refine rb_ h fun v88 q h=>aq (al false) q (S ?_)
  refine rb_ h fun v90 q h=>ai [false] (slO_3 q) (S ?_)
  refine rb_ h fun v93 q h=>aq (al false) q (S ?_)
  refine rb_ h fun v95 q h=>ai [false] (slO_3 q) (S ?_)
  refine rb_ h fun v96 q h=>ai [false,false,true,true] (slC_5 q) (S ?_)
  refine ae (DHa_ [] [1440,1441,1442,1443,1444,1445,1520,1521,1522,1523,1524,1525,1536,1537,1538,1539,1540,1541]) (S ?_)
  exact FHz_1 h
 ·refine rb_ h fun v113 q h=>ai [false,false,false,false,false] (slN_ q) (S ?_)
  refine rb_ h fun v117 q h=>aq (al false) q (S ?_)
  refine rb_ h fun v123 q h=>ai [false,false,false,false] (slI_9 q) (S ?_)
  refine rb_ h fun v126 q h=>aq (al false) q (S ?_)
  refine rb_ h fun v128 q h=>ai [false] (slO_3 q) (S ?_)
  refine rb_ h fun v129 q h=>ai [true,false,false,true] (Sg_ (args:=[(.agg [(.sl true 5 (v113.Left.map (aj true))),(.sl true 5 (v113.Right.map (aj true)))]),((aj false) v100),((al false) v123),(.agg [(I v128.Rule),(.agg [(.sl true 5 (v128.Sequent.Left.map (aj true))),(.sl true 5 (v128.Sequent.Right.map (aj true)))]),(I v128.Main),(.agg [(Sx v128.Term.Name),(.sl true 2 (v128.Term.Args.map (am true)))]),(.agg [(I v128.Cut.Op),(.agg [(Sx v128.Cut.Atom.Name),(.sl true 2 (v128.Cut.Atom.Args.map (am true)))]),(Sx v128.Cut.Var),(.sl true 5 (v128.Cut.Parts.map (aj true)))]),(.sl true 12 (v128.Parts.map (al true)))])]) [true,false,false,true] (by have gg:=slC_2 q; simp only[gv_t,gv_f,gv_n,vs_,va_,vl_,vrB_,vrI_,aB,RB,RS] at gg ⊢; exact gg)) (S ?_)
  refine ae (DHa_ [14] [1808,1809,2048,2049,2050,2051,2052,2053]) (S ?_)
  refine rb_ h fun v134 q h=>aq (al false) q (S ?_)
  refine rb_ h fun v136 q h=>ai [false] (slO_3 q) (S ?_)
  refine rb_ h fun v138 q h=>ai [false,false,true,false] (Sg_ (args:=[((aL false) a0.Sequent),((aj false) v78),(.agg [(I v136.Rule),(.agg [(.sl true 5 (v136.Sequent.Left.map (aj true))),(.sl true 5 (v136.Sequent.Right.map (aj true)))]),(I v136.Main),(.agg [(Sx v136.Term.Name),(.sl true 2 (v136.Term.Args.map (am true)))]),(.agg [(I v136.Cut.Op),(.agg [(Sx v136.Cut.Atom.Name),(.sl true 2 (v136.Cut.Atom.Args.map (am true)))]),(Sx v136.Cut.Var),(.sl true 5 (v136.Cut.Parts.map (aj true)))]),(.sl true 12 (v136.Parts.map (al true)))]),((al false) v129)]) [false,false,true,false] (by have gg:=slC_2 q; simp only[gv_t,gv_f,gv_n,vs_,va_,vl_,vrB_,vrI_,aB,RB,RS] at gg ⊢; exact gg)) (S ?_)
  refine ae (DHa_ [] [2176,2177,2178,2179,2180,2181]) (S ?_)
  exact FHz_1 h
 all_goals
  exact FHz_1 h

theorem slF_10(n:Nat):(∀ (a0:Dt) (r:Dt×Bool),slF_ n a0=some r→Sat ah 47 [((al false) a0)] (.tup [((al false) r.1),(B r.2)])):=by
 induction n with
 | zero=>exact fun _ _ h=>by simp[slF_] at h
 | succ n ih=>
  refine fun a0 r h=>?_
  obtain⟨h,cs⟩:=Ro_ h
  rw[slF_] at h
  refine au 46 [.cell 2 44,.tmp 3] Tryz.func47 (h:=S ?_)
  refine ag cs h (fun cs h=>S ?_) fun cs h=>S ?_
  ·refine rb_ h fun v15 q h=>ai [false] (slR_4 q) (S ?_)
   refine ag cs h (fun cs h=>S ?_) fun cs h=>S ?_
   ·exact FHz_1 h
   ·refine Mkv_ (b:=false) (sz:=12) (es:=a0.Parts.map (al false)) (x:=(.pv ((al false) a0))) 0 [5] SC fun hl0=>?_; rw[aD] at hl0
    refine aI (rl_ h) (fun i6 s6=>[(1,.box (.pv ((al false) a0))),(2,.box zab0),(6,.val (.pv (I (i6:Int))))]) (fun i6 s6=>[]) (Slm_ SC) (fun i6 s6 hi h=>?_) (fun s6 h=>?_)
    ·have w:=ws_ i6
     refine S ?_
     refine aG cs fun cs=>S ?_
     refine rb_ h fun v31 q h=>aq (al false) q (S ?_)
     refine rb_ h fun v33 q h=>ai [false] (ih _ _ q) (S ?_)
     refine ag cs h (fun cs h=>S ?_) fun cs h=>S ?_
     ·refine rb_ h fun v38 q h=>ai [false] (StO_ (res':=(.agg [(I v38.Rule),(.agg [(.sl true 5 (v38.Sequent.Left.map (aj false))),(.sl true 5 (v38.Sequent.Right.map (aj false)))]),(I v38.Main),(.agg [(Sx v38.Term.Name),(.sl true 2 (v38.Term.Args.map (am false)))]),(.agg [(I v38.Cut.Op),(.agg [(Sx v38.Cut.Atom.Name),(.sl true 2 (v38.Cut.Atom.Args.map (am false)))]),(Sx v38.Cut.Var),(.sl true 5 (v38.Cut.Parts.map (aj false)))]),(.sl true 12 (v38.Parts.map (al false)))])) (slO_3 q) (by simp only[ta_1,ts_,tl_,tn_,tc_,I,Sx,B,RB,RS])) (S ?_)
      refine rb_ h fun v43 q h=>aq (al false) q (S ?_)
      refine rb_ h fun w5 q h=>EldH.c (al false) q (S ?_)
      exact FHz_1 h
     ·exact aJ h
    ·refine S ?_
     refine aH cs fun cs=>S ?_
     exact FHz_1 h
  ·refine Mkv_ (b:=false) (sz:=12) (es:=a0.Parts.map (al false)) (x:=(.pv ((al false) a0))) 0 [5] SC fun hl0=>?_; rw[aD] at hl0
   refine aI (rl_ h) (fun i6 s6=>[(1,.box (.pv ((al false) a0))),(2,.box zab0),(6,.val (.pv (I (i6:Int))))]) (fun i6 s6=>[]) (Slm_ SC) (fun i6 s6 hi h=>?_) (fun s6 h=>?_)
   ·have w:=ws_ i6
    refine S ?_
    refine aG cs fun cs=>S ?_
    refine rb_ h fun v31 q h=>aq (al false) q (S ?_)
    refine rb_ h fun v33 q h=>ai [false] (ih _ _ q) (S ?_)
    refine ag cs h (fun cs h=>S ?_) fun cs h=>S ?_
    ·refine rb_ h fun v38 q h=>ai [false] (StO_ (res':=(.agg [(I v38.Rule),(.agg [(.sl true 5 (v38.Sequent.Left.map (aj false))),(.sl true 5 (v38.Sequent.Right.map (aj false)))]),(I v38.Main),(.agg [(Sx v38.Term.Name),(.sl true 2 (v38.Term.Args.map (am false)))]),(.agg [(I v38.Cut.Op),(.agg [(Sx v38.Cut.Atom.Name),(.sl true 2 (v38.Cut.Atom.Args.map (am false)))]),(Sx v38.Cut.Var),(.sl true 5 (v38.Cut.Parts.map (aj false)))]),(.sl true 12 (v38.Parts.map (al false)))])) (slO_3 q) (by simp only[ta_1,ts_,tl_,tn_,tc_,I,Sx,B,RB,RS])) (S ?_)
     refine rb_ h fun v43 q h=>aq (al false) q (S ?_)
     refine rb_ h fun w9 q h=>EldH.c (al false) q (S ?_)
     exact FHz_1 h
    ·exact aJ h
   ·refine S ?_
    refine aH cs fun cs=>S ?_
    exact FHz_1 h
theorem slF_12{a0:Dt}{r:Dt×Bool}(h:slF_6 a0=some r):Sat ah 47 [((al false) a0)] (.tup [((al false) r.1),(B r.2)]):=by
 obtain⟨n,hn⟩:=ls_ h
 exact(slF_10 n) _ _ hn

theorem slN_13{a0:Dt}  {r:Dt×Bool}(h:slN_5 a0=some r):Sat ah 19 [((al false) a0)] (.tup [((al false) r.1),(B r.2)]):=by
 obtain⟨h,cs⟩:=Ro_ h
 unfold slN_5 at h
 refine au 20 [.cell 2 44,.tmp 3] Tryz.func19 (h:=S ?_)
 refine rb_ h fun v8 q h=>ai [false] (slF_12 q) (S ?_)
 refine ag cs h (fun cs h=>S ?_) fun cs h=>S ?_
 refine rb_ h fun v15 q h=>ai [false] (slV_5 q) (S ?_)
 refine ag cs h (fun cs h=>S ?_) fun cs h=>S ?_
 all_goals
  exact FHz_1 h

theorem sEC_1{a0:Dt}{a1:Int}  {r:Dt×Int×Bool}(h:sEC_ a0 a1=some r):Sat ah 12 [((al false) a0),(I a1)] (.tup [((al false) r.1),(I r.2.1),(B r.2.2)]):=by
 obtain⟨h,cs⟩:=Ro_ h
 unfold sEC_ at h
 refine au 37 [.cell 4 44,.tmp 5,.tmp 6] Tryz.func12 (h:=S ?_)
 refine rb_ h fun v12 q h=>ai [false] (slV_5 q) (S ?_)
 refine ag cs h (fun cs h=>S ?_) fun cs h=>S ?_
 refine rb_ h fun v16 q h=>ai [false,false,false] (slI_2 q) (S ?_)
 refine ag cs h (fun cs h=>S ?_) fun cs h=>S ?_
 ·refine rb_ h fun v21 q h=>ai [false] (slO_3 q) (S ?_)
  obtain⟨N5,hN5,h⟩:=rb_1 h
  obtain⟨hN5a,hN5b⟩:=bs_ hN5
  refine aI (rl_ h) (fun i5 s5=>[(1,.val (.pv (I a1))),(4,.box zab0),(7,.box (.pv ((al false) s5))),(8,.val (.pv (I (i5:Int))))]) (fun i5 s5=>[]) (bt (Sld_ (x:=(.node [(.pv (I v21.Rule)),(.node [(.own 336),(.own 337)]),(.pv (I v21.Main)),(.node [(.pv (Sx v21.Term.Name)),(.own 338)]),(.node [(.pv (I v21.Cut.Op)),(.node [(.pv (Sx v21.Cut.Atom.Name)),(.own 339)]),(.pv (Sx v21.Cut.Var)),(.own 340)]),(.own 341)])) (sz:=(5)) (es:=v21.Sequent.Left.map (aj true)) 7 [1,0] 336 SC) (bt (Sld_ (x:=(.node [(.pv (I v21.Rule)),(.node [(.pv (.sl false 5 (v21.Sequent.Left.map (aj false)))),(.own 337)]),(.pv (I v21.Main)),(.node [(.pv (Sx v21.Term.Name)),(.own 338)]),(.node [(.pv (I v21.Cut.Op)),(.node [(.pv (Sx v21.Cut.Atom.Name)),(.own 339)]),(.pv (Sx v21.Cut.Var)),(.own 340)]),(.own 341)])) (sz:=(5)) (es:=v21.Sequent.Right.map (aj true)) 7 [1,1] 337 SC) (bt (Sld_ (x:=(.node [(.pv (I v21.Rule)),(.node [(.pv (.sl false 5 (v21.Sequent.Left.map (aj false)))),(.pv (.sl false 5 (v21.Sequent.Right.map (aj false))))]),(.pv (I v21.Main)),(.node [(.pv (Sx v21.Term.Name)),(.own 338)]),(.node [(.pv (I v21.Cut.Op)),(.node [(.pv (Sx v21.Cut.Atom.Name)),(.own 339)]),(.pv (Sx v21.Cut.Var)),(.own 340)]),(.own 341)])) (sz:=(2)) (es:=v21.Term.Args.map (am true)) 7 [3,1] 338 SC) (bt (Sld_ (x:=(.node [(.pv (I v21.Rule)),(.node [(.pv (.sl false 5 (v21.Sequent.Left.map (aj false)))),(.pv (.sl false 5 (v21.Sequent.Right.map (aj false))))]),(.pv (I v21.Main)),(.node [(.pv (Sx v21.Term.Name)),(.pv (.sl false 2 (v21.Term.Args.map (am false))))]),(.node [(.pv (I v21.Cut.Op)),(.node [(.pv (Sx v21.Cut.Atom.Name)),(.own 339)]),(.pv (Sx v21.Cut.Var)),(.own 340)]),(.own 341)])) (sz:=(2)) (es:=v21.Cut.Atom.Args.map (am true)) 7 [4,1,1] 339 SC) (bt (Sld_ (x:=(.node [(.pv (I v21.Rule)),(.node [(.pv (.sl false 5 (v21.Sequent.Left.map (aj false)))),(.pv (.sl false 5 (v21.Sequent.Right.map (aj false))))]),(.pv (I v21.Main)),(.node [(.pv (Sx v21.Term.Name)),(.pv (.sl false 2 (v21.Term.Args.map (am false))))]),(.node [(.pv (I v21.Cut.Op)),(.node [(.pv (Sx v21.Cut.Atom.Name)),(.pv (.sl false 2 (v21.Cut.Atom.Args.map (am false))))]),(.pv (Sx v21.Cut.Var)),(.own 340)]),(.own 341)])) (sz:=(5)) (es:=v21.Cut.Parts.map (aj true)) 7 [4,3] 340 SC) (bt (Sld_ (x:=(.node [(.pv (I v21.Rule)),(.node [(.pv (.sl false 5 (v21.Sequent.Left.map (aj false)))),(.pv (.sl false 5 (v21.Sequent.Right.map (aj false))))]),(.pv (I v21.Main)),(.node [(.pv (Sx v21.Term.Name)),(.pv (.sl false 2 (v21.Term.Args.map (am false))))]),(.node [(.pv (I v21.Cut.Op)),(.node [(.pv (Sx v21.Cut.Atom.Name)),(.pv (.sl false 2 (v21.Cut.Atom.Args.map (am false))))]),(.pv (Sx v21.Cut.Var)),(.pv (.sl false 5 (v21.Cut.Parts.map (aj false))))]),(.own 341)])) (sz:=(12)) (es:=v21.Parts.map (al true)) 7 [5] 341 SC) (bt (Slp_ (x:=(.node [(.pv (I v21.Rule)),(.node [(.pv (.sl false 5 (v21.Sequent.Left.map (aj false)))),(.pv (.sl false 5 (v21.Sequent.Right.map (aj false))))]),(.pv (I v21.Main)),(.node [(.pv (Sx v21.Term.Name)),(.pv (.sl false 2 (v21.Term.Args.map (am false))))]),(.node [(.pv (I v21.Cut.Op)),(.node [(.pv (Sx v21.Cut.Atom.Name)),(.pv (.sl false 2 (v21.Cut.Atom.Args.map (am false))))]),(.pv (Sx v21.Cut.Var)),(.pv (.sl false 5 (v21.Cut.Parts.map (aj false))))]),(.pv (.sl false 12 (v21.Parts.map (al false))))])) 7 [] SC) (Slm_ SC)))))))) (fun i5 s5 hi h=>?_) (fun s5 h=>?_)
  ·have w:=ws_ i5
   refine S ?_
   refine aG cs fun cs=>S ?_
   refine rb_ h fun v27 q h=>ai [false] (slN_13 q) (S ?_)
   refine ag cs h (fun cs h=>S ?_) fun cs h=>S ?_
   ·exact aJ h
   ·exact FHz_1 h
  ·refine S ?_
   refine aH cs fun cs=>S ?_
   exact FHz_1 h
 all_goals
  exact FHz_1 h

theorem irN_2(n:Nat):(∀ (a0:Dt) (r:Int),irN_ n a0=some r→Sat ah 68 [((al false) a0)] (I r)):=by
 induction n with
 | zero=>exact fun _ _ h=>by simp[irN_] at h
 | succ n ih=>
  refine fun a0 r h=>?_
  obtain⟨h,cs⟩:=Ro_ h
  rw[irN_] at h
  refine au 22 [.tmp 2] Tryz.func68 (h:=S ?_)
  refine aN (b:=false) (sz:=12) (es:=a0.Parts.map (al false)) 7 SC fun hl7=>?_; rw[aD] at hl7
  refine aI (rl_ h) (fun i3 s3=>[(3,.val (.pv (I s3))),(7,.val (.pv (.sl false 12 (a0.Parts.map (al false))))),(8,.val (.pv (I (a0.Parts.length:Int)))),(9,.val (.pv (I (i3:Int))))]) (fun i3 s3=>[]) (Slm_ SC) (fun i3 s3 hi h=>?_) (fun s3 h=>?_)
  ·have w:=ws_ i3
   refine S ?_
   refine aG cs fun cs=>S ?_
   refine rb_ h fun v11 q h=>aq (al false) q (S ?_)
   refine ag cs h (fun cs h=>S ?_) fun cs h=>S ?_
   ·exact FHz_ h
   ·refine rb_ h fun v18 q h=>ai [false] (ih _ _ q) (S ?_)
    exact aJ h
  ·refine S ?_
   refine aH cs fun cs=>S ?_
   exact FHz_ h
theorem irN_3{a0:Dt}{r:Int}(h:irN_1 a0=some r):Sat ah 68 [((al false) a0)] (I r):=by
 obtain⟨n,hn⟩:=ls_ h
 exact(irN_2 n) _ _ hn

theorem isO_2(n:Nat):(∀ (a0:Ft) (r:Int),isO_ n a0=some r→Sat ah 104 [((aj false) a0)] (I r)):=by
 induction n with
 | zero=>exact fun _ _ h=>by simp[isO_] at h
 | succ n ih=>
  refine fun a0 r h=>?_
  obtain⟨h,cs⟩:=Ro_ h
  rw[isO_] at h
  refine au 22 [.tmp 2] Tryz.func104 (h:=S ?_)
  refine aN (b:=false) (sz:=5) (es:=a0.Parts.map (aj false)) 7 SC fun hl7=>?_; rw[aD] at hl7
  refine aI (rl_ h) (fun i3 s3=>[(3,.val (.pv (I s3))),(7,.val (.pv (.sl false 5 (a0.Parts.map (aj false))))),(8,.val (.pv (I (a0.Parts.length:Int)))),(9,.val (.pv (I (i3:Int))))]) (fun i3 s3=>[]) (Slm_ SC) (fun i3 s3 hi h=>?_) (fun s3 h=>?_)
  ·have w:=ws_ i3
   refine S ?_
   refine aG cs fun cs=>S ?_
   refine rb_ h fun v11 q h=>aq (aj false) q (S ?_)
   refine ag cs h (fun cs h=>S ?_) fun cs h=>S ?_
   ·exact FHz_ h
   ·refine rb_ h fun v18 q h=>ai [false] (ih _ _ q) (S ?_)
    exact aJ h
  ·refine S ?_
   refine aH cs fun cs=>S ?_
   exact FHz_ h
theorem isO_3{a0:Ft}{r:Int}(h:isO_1 a0=some r):Sat ah 104 [((aj false) a0)] (I r):=by
 obtain⟨n,hn⟩:=ls_ h
 exact(isO_2 n) _ _ hn

theorem iiQ_1{a0:Int}  {r:Bool}(h:iiQ_2 a0=some r):Sat ah 119 [(I a0)] (B r):=by
 obtain⟨h,cs⟩:=Ro_ h
 unfold iiQ_2 at h
 refine au 9 [.tmp 2] Tryz.func119 (h:=S ?_)
 refine ag cs h (fun cs h=>S ?_) fun cs h=>S ?_
 ·exact FHz_ h
 ·exact FHz_ h

theorem iiB_1{a0:Int}  {r:Bool}(h:iiB_ a0=some r):Sat ah 120 [(I a0)] (B r):=by
 obtain⟨h,cs⟩:=Ro_ h
 unfold iiB_ at h
 refine au 13 [.tmp 2] Tryz.func120 (h:=S ?_)
 refine ag cs h (fun cs h=>S ?_) fun cs h=>S ?_
 ·exact FHz_ h
 ·refine ag cs h (fun cs h=>S ?_) fun cs h=>S ?_
  ·exact FHz_ h
  ·exact FHz_ h

theorem iiU_1{a0:Int}  {r:Bool}(h:iiU_ a0=some r):Sat ah 139 [((Ik .u8) a0)] (B r):=by
 obtain⟨h,cs⟩:=Ro_ h
 unfold iiU_ at h
 refine au 9 [.tmp 2] Tryz.func139 (h:=S ?_)
 refine ag cs h (fun cs h=>S ?_) fun cs h=>S ?_
 ·exact FHz_ h
 ·exact FHz_ h

theorem iiL_1{a0:Int}  {r:Bool}(h:iiL_ a0=some r):Sat ah 140 [((Ik .u8) a0)] (B r):=by
 obtain⟨h,cs⟩:=Ro_ h
 unfold iiL_ at h
 refine au 9 [.tmp 2] Tryz.func140 (h:=S ?_)
 refine ag cs h (fun cs h=>S ?_) fun cs h=>S ?_
 ·exact FHz_ h
 ·exact FHz_ h

theorem iiD_2{a0:Int}  {r:Bool}(h:iiD_1 a0=some r):Sat ah 141 [((Ik .u8) a0)] (B r):=by
 obtain⟨h,cs⟩:=Ro_ h
 unfold iiD_1 at h
 refine au 9 [.tmp 2] Tryz.func141 (h:=S ?_)
 refine ag cs h (fun cs h=>S ?_) fun cs h=>S ?_
 ·exact FHz_ h
 ·exact FHz_ h

theorem iws_{a0:Int}{a1:Int}{a2:Int}  {r:Bool}(h:iw_ a0 a1 a2=some r):Sat ah 41 [(I a0),(I a1),(I a2)] (B r):=by
 obtain⟨h,cs⟩:=Ro_ h
 unfold iw_ at h
 refine au 15 [.tmp 6] Tryz.func41 (h:=S ?_)
 refine ag cs h (fun cs h=>S ?_) fun cs h=>S ?_
 ·exact FHz_ h
 ·exact FHz_ h

theorem iiV_1{a0:ByteArray}  {r:Bool}(h:iiV_ a0=some r):Sat ah 121 [(Sx a0)] (B r):=by
 obtain⟨h,cs⟩:=Ro_ h
 unfold iiV_ at h
 refine au 40 [.tmp 2] Tryz.func121 (h:=S ?_)
 obtain⟨N2,hN2,h⟩:=rb_1 h
 obtain⟨hN2a,hN2b⟩:=bs_ hN2
 refine aI (rl_ h) (fun i2 s2=>[(0,.val (.pv (Sx a0))),(5,.val (.pv (I (a0.size:Int)))),(6,.val (.pv (I (i2:Int))))]) (fun i2 s2=>[]) (Slm_ SC) (fun i2 s2 hi h=>?_) (fun s2 h=>?_)
 ·have w:=ws_ i2
  refine S ?_
  refine aG cs fun cs=>S ?_
  refine ag cs h (fun cs h=>S ?_) fun cs h=>S ?_
  refine rb_ h fun v14 q h=>bw q (S ?_)
  refine rb_ h fun v15 q h=>ai [false] (iiU_1 q) (S ?_)
  refine ag cs h (fun cs h=>S ?_) fun cs h=>S ?_
  refine ag cs h (fun cs h=>S ?_) fun cs h=>S ?_
  refine rb_ h fun v24 q h=>bw q (S ?_)
  refine rb_ h fun v25 q h=>ai [false] (iiL_1 q) (S ?_)
  refine ag cs h (fun cs h=>S ?_) fun cs h=>S ?_
  rotate_left
  refine rb_ h fun v31 q h=>bw q (S ?_)
  refine rb_ h fun v32 q h=>ai [false] (iiD_2 q) (S ?_)
  refine ag cs h (fun cs h=>S ?_) fun cs h=>S ?_
  rotate_left 4
  refine ag cs h (fun cs h=>S ?_) fun cs h=>S ?_
  refine rb_ h fun v24 q h=>bw q (S ?_)
  refine rb_ h fun v25 q h=>ai [false] (iiL_1 q) (S ?_)
  refine ag cs h (fun cs h=>S ?_) fun cs h=>S ?_
  rotate_left
  refine rb_ h fun v31 q h=>bw q (S ?_)
  refine rb_ h fun v32 q h=>ai [false] (iiD_2 q) (S ?_)
  refine ag cs h (fun cs h=>S ?_) fun cs h=>S ?_
  rotate_left
  ·exact FHz_ h
  rotate_left 3
  ·exact FHz_ h
  rotate_left
  ·exact FHz_ h
  all_goals
   exact aJ h
 ·refine S ?_
  refine aH cs fun cs=>S ?_
  refine rb_ h fun v39 q h=>ai [false,false,false] (iws_ q) (S ?_)
  exact FHz_ h

theorem iiE_1{a0:Tt}  {r:Bool}(h:iiE_ a0=some r):Sat ah 142 [((am false) a0)] (B r):=by
 obtain⟨h,cs⟩:=Ro_ h
 unfold iiE_ at h
 refine au 6 [.tmp 2] Tryz.func142 (h:=S ?_)
 exact FHz_ h

theorem isN_3(n:Nat):(∀ (a0:Tt) (r:Int),isN_1 n a0=some r→Sat ah 164 [((am false) a0)] (I r)):=by
 induction n with
 | zero=>exact fun _ _ h=>by simp[isN_1] at h
 | succ n ih=>
  refine fun a0 r h=>?_
  obtain⟨h,cs⟩:=Ro_ h
  rw[isN_1] at h
  refine au 22 [.tmp 2] Tryz.func164 (h:=S ?_)
  refine aN (b:=false) (sz:=2) (es:=a0.Args.map (am false)) 7 SC fun hl7=>?_; rw[aD] at hl7
  refine aI (rl_ h) (fun i3 s3=>[(3,.val (.pv (I s3))),(7,.val (.pv (.sl false 2 (a0.Args.map (am false))))),(8,.val (.pv (I (a0.Args.length:Int)))),(9,.val (.pv (I (i3:Int))))]) (fun i3 s3=>[]) (Slm_ SC) (fun i3 s3 hi h=>?_) (fun s3 h=>?_)
  ·have w:=ws_ i3
   refine S ?_
   refine aG cs fun cs=>S ?_
   refine rb_ h fun v11 q h=>aq (am false) q (S ?_)
   refine ag cs h (fun cs h=>S ?_) fun cs h=>S ?_
   ·exact FHz_ h
   ·refine rb_ h fun v18 q h=>ai [false] (ih _ _ q) (S ?_)
    exact aJ h
  ·refine S ?_
   refine aH cs fun cs=>S ?_
   exact FHz_ h
theorem iss_1{a0:Tt}{r:Int}(h:is_1 a0=some r):Sat ah 164 [((am false) a0)] (I r):=by
 obtain⟨n,hn⟩:=ls_ h
 exact(isN_3 n) _ _ hn

theorem idN_1(n:Nat):(∀ (a0:Tt) (r:Int),idN_ n a0=some r→Sat ah 165 [((am false) a0)] (I r)):=by
 induction n with
 | zero=>exact fun _ _ h=>by simp[idN_] at h
 | succ n ih=>
  refine fun a0 r h=>?_
  obtain⟨h,cs⟩:=Ro_ h
  rw[idN_] at h
  refine au 20 [.tmp 2] Tryz.func165 (h:=S ?_)
  refine aN (b:=false) (sz:=2) (es:=a0.Args.map (am false)) 7 SC fun hl7=>?_; rw[aD] at hl7
  refine aI (rl_ h) (fun i3 s3=>[(3,.val (.pv (I s3))),(7,.val (.pv (.sl false 2 (a0.Args.map (am false))))),(8,.val (.pv (I (a0.Args.length:Int)))),(9,.val (.pv (I (i3:Int))))]) (fun i3 s3=>[]) (Slm_ SC) (fun i3 s3 hi h=>?_) (fun s3 h=>?_)
  ·have w:=ws_ i3
   refine S ?_
   refine aG cs fun cs=>S ?_
   refine rb_ h fun v11 q h=>aq (am false) q (S ?_)
   refine rb_ h fun v15 q h=>ai [false] (ih _ _ q) (S ?_)
   exact aJ h
  ·refine S ?_
   refine aH cs fun cs=>S ?_
   exact FHz_ h
theorem ids_{a0:Tt}{r:Int}(h:id_ a0=some r):Sat ah 165 [((am false) a0)] (I r):=by
 obtain⟨n,hn⟩:=ls_ h
 exact(idN_1 n) _ _ hn

theorem iiS_3{a0:Tt}  {r:Bool}(h:iiS_1 a0=some r):Sat ah 143 [((am false) a0)] (B r):=by
 obtain⟨h,cs⟩:=Ro_ h
 unfold iiS_1 at h
 refine au 11 [.tmp 2] Tryz.func143 (h:=S ?_)
 refine rb_ h fun v4 q h=>ai [false] (iss_1 q) (S ?_)
 refine ag cs h (fun cs h=>S ?_) fun cs h=>S ?_
 ·refine rb_ h fun v8 q h=>ai [false] (ids_ q) (S ?_)
  exact FHz_ h
 ·exact FHz_ h

theorem irs_1   {r:List ByteArray}(h:ir_1  =some r):Sat ah 169 [] (.sl true 1 (r.map Sx)):=by
 obtain⟨h,cs⟩:=Ro_ h
 unfold ir_1 at h
 refine au 2 [.tmp 0] Tryz.func169 (h:=S ?_)
 exact FHz_ h

theorem sIS_1{a0:List ByteArray}{a1:ByteArray}  {r:Int}(h:sIS_ a0 a1=some r):Sat ah 181 [(.sl false 1 (a0.map Sx)),(Sx a1)] (I r):=by
 obtain⟨h,cs⟩:=Ro_ h
 unfold sIS_ at h
 refine au 19 [.tmp 4] Tryz.func181 (h:=S ?_)
 refine aN (b:=false) (sz:=1) (es:=a0.map Sx) 0 SC fun hl0=>?_; rw[aD] at hl0
 refine aI (rl_ h) (fun i2 s2=>[(0,.val (.pv (.sl false 1 (a0.map Sx)))),(1,.val (.pv (Sx a1))),(7,.val (.pv (I (a0.length:Int)))),(8,.val (.pv (I (i2:Int))))]) (fun i2 s2=>[]) (Slm_ SC) (fun i2 s2 hi h=>?_) (fun s2 h=>?_)
 ·have w:=ws_ i2
  refine S ?_
  refine aG cs fun cs=>S ?_
  refine rb_ h fun v14 q h=>aq Sx q (S ?_)
  refine ag cs h (fun cs h=>S ?_) fun cs h=>S ?_
  ·exact FHz_ h
  ·exact aJ h
 ·refine S ?_
  refine aH cs fun cs=>S ?_
  exact FHz_ h

theorem sCS_2{a0:List ByteArray}{a1:ByteArray}  {r:Bool}(h:sCS_ a0 a1=some r):Sat ah 168 [(.sl false 1 (a0.map Sx)),(Sx a1)] (B r):=by
 obtain⟨h,cs⟩:=Ro_ h
 unfold sCS_ at h
 refine au 9 [.tmp 4] Tryz.func168 (h:=S ?_)
 refine rb_ h fun v7 q h=>ai [false,false] (sIS_1 q) (S ?_)
 exact FHz_ h

theorem iiS_2{a0:ByteArray}  {r:Bool}(h:iiS_ a0=some r):Sat ah 145 [(Sx a0)] (B r):=by
 obtain⟨h,cs⟩:=Ro_ h
 unfold iiS_ at h
 refine au 48 [.tmp 2] Tryz.func145 (h:=S ?_)
 obtain⟨N2,hN2,h⟩:=rb_1 h
 obtain⟨hN2a,hN2b⟩:=bs_ hN2
 refine aI (rl_ h) (fun i2 s2=>[(0,.val (.pv (Sx a0))),(5,.val (.pv (I (a0.size:Int)))),(6,.val (.pv (I (i2:Int))))]) (fun i2 s2=>[]) (Slm_ SC) (fun i2 s2 hi h=>?_) (fun s2 h=>?_)
 ·have w:=ws_ i2
  refine S ?_
  refine aG cs fun cs=>S ?_
  refine ag cs h (fun cs h=>S ?_) fun cs h=>S ?_
  refine rb_ h fun v14 q h=>bw q (S ?_)
  refine rb_ h fun v15 q h=>ai [false] (iiL_1 q) (S ?_)
  refine ag cs h (fun cs h=>S ?_) fun cs h=>S ?_
  refine rb_ h fun v21 q h=>bw q (S ?_)
  refine rb_ h fun v22 q h=>ai [false] (iiL_1 q) (S ?_)
  refine ag cs h (fun cs h=>S ?_) fun cs h=>S ?_
  rotate_left
  refine rb_ h fun v27 q h=>bw q (S ?_)
  refine rb_ h fun v28 q h=>ai [false] (iiD_2 q) (S ?_)
  refine ag cs h (fun cs h=>S ?_) fun cs h=>S ?_
  rotate_left
  refine rb_ h fun v34 q h=>bw q (S ?_)
  refine ag cs h (fun cs h=>S ?_) fun cs h=>S ?_
  rotate_left 3
  refine rb_ h fun v21 q h=>bw q (S ?_)
  refine rb_ h fun v22 q h=>ai [false] (iiL_1 q) (S ?_)
  refine ag cs h (fun cs h=>S ?_) fun cs h=>S ?_
  rotate_left
  refine rb_ h fun v27 q h=>bw q (S ?_)
  refine rb_ h fun v28 q h=>ai [false] (iiD_2 q) (S ?_)
  refine ag cs h (fun cs h=>S ?_) fun cs h=>S ?_
  rotate_left
  refine rb_ h fun v34 q h=>bw q (S ?_)
  refine ag cs h (fun cs h=>S ?_) fun cs h=>S ?_
  rotate_left
  ·exact FHz_ h
  rotate_left 3
  ·exact FHz_ h
  ·exact FHz_ h
  all_goals
   exact aJ h
 ·refine S ?_
  refine aH cs fun cs=>S ?_
  refine rb_ h fun v41 q h=>ai [false,false,false] (iws_ q) (S ?_)
  refine ag cs h (fun cs h=>S ?_) fun cs h=>S ?_
  ·refine rb_ h fun v43 q h=>ai [] (irs_1 q) (S ?_)
   refine rb_ h fun v45 q h=>ai [false,false] (sCS_2 q) (S ?_)
   exact FHz_ h
  ·exact FHz_ h

theorem sIF_4{a0:List Tt}{a1:Tt→Option Bool}{a1_id:FuncId}{a1_cs:List PV}(a1_ok:∀ y0 r,a1 y0=some r→Sat ah a1_id (((am false) y0)::a1_cs) (B r))(a1_cz:CO_ a1_cs=True){r:Int}(h:sIF_1 a0 a1=some r):Sat ah 180 [(.sl false 2 (a0.map (am false))),.clo a1_id a1_cs] (I r):=by
 obtain⟨h,cs⟩:=Ro_ h
 unfold sIF_1 at h
 have cs:=ae a1_cz cs
 refine au 19 [.tmp 4] Tryz.func180 (h:=S ?_)
 refine aN (b:=false) (sz:=2) (es:=a0.map (am false)) 0 SC fun hl0=>?_; rw[aD] at hl0
 refine aI (rl_ h) (fun i2 s2=>[(0,.val (.pv (.sl false 2 (a0.map (am false))))),(1,.val (.pv (.clo a1_id a1_cs))),(7,.val (.pv (I (a0.length:Int)))),(8,.val (.pv (I (i2:Int))))]) (fun i2 s2=>[]) (Slm_ SC) (fun i2 s2 hi h=>?_) (fun s2 h=>?_)
 ·have w:=ws_ i2
  refine S ?_
  refine aG cs fun cs=>S ?_
  refine rb_ h fun v14 q h=>aq (am false) q (S ?_)
  refine rb_ h fun v16 q h=>ai [false] (a1_ok _ _ q) (S ?_)
  refine ag cs h (fun cs h=>S ?_) fun cs h=>S ?_
  ·exact FHz_ h
  ·exact aJ h
 ·refine S ?_
  refine aH cs fun cs=>S ?_
  exact FHz_ h

theorem sCF_3{a0:List Tt}{a1:Tt→Option Bool}{a1_id:FuncId}{a1_cs:List PV}(a1_ok:∀ y0 r,a1 y0=some r→Sat ah a1_id (((am false) y0)::a1_cs) (B r))(a1_cz:CO_ a1_cs=True){r:Bool}(h:sCF_2 a0 a1=some r):Sat ah 166 [(.sl false 2 (a0.map (am false))),.clo a1_id a1_cs] (B r):=by
 obtain⟨h,cs⟩:=Ro_ h
 unfold sCF_2 at h
 have cs:=ae a1_cz cs
 refine au 9 [.tmp 4] Tryz.func166 (h:=S ?_)
 refine rb_ h fun v7 q h=>ai [false,false] (sIF_4 a1_ok a1_cz q) (S ?_)
 exact FHz_ h

theorem ihN_4(n:Nat):(∀ (a0:Tt) (r:Bool),ihN_ n a0=some r→Sat ah 144 [((am false) a0)] (B r))∧(∀ (a0:Tt) (r:Bool),ihN_1 n a0=some r→Sat ah 167 [((am false) a0)] (B r)):=by
 induction n with
 | zero=>exact⟨fun _ _ h=>by simp[ihN_] at h,fun _ _ h=>by simp[ihN_1] at h⟩
 | succ n ih=>
  refine⟨fun a0 r h=>?_,fun a0 r h=>?_⟩
  ·obtain⟨h,cs⟩:=Ro_ h
   rw[ihN_] at h
   refine au 25 [.tmp 2] Tryz.func144 (h:=S ?_)
   refine rb_ h fun v5 q h=>ai [false] (iiV_1 q) (S ?_)
   refine ag cs h (fun cs h=>S ?_) fun cs h=>S ?_
   rotate_left
   refine rb_ h fun v12 q h=>ai [false] (iiS_2 q) (S ?_)
   refine ag cs h (fun cs h=>S ?_) fun cs h=>S ?_
   refine ag cs h (fun cs h=>S ?_) fun cs h=>S ?_
   ·refine rb_ h fun v22 q h=>ai [false,false] (sCF_3 (fun _ _ hh=>ih.2 _ _ hh) (by simp only[COn_,COc_]) q) (S ?_)
    exact FHz_ h
   all_goals
    exact FHz_ h
  ·obtain⟨h,cs⟩:=Ro_ h
   rw[ihN_1] at h
   refine au 6 [.tmp 2] Tryz.func167 (h:=S ?_)
   refine rb_ h fun v4 q h=>ai [false] (ih.1 _ _ q) (S ?_)
   exact FHz_ h
theorem ihN_3{a0:Tt}{r:Bool}(h:ihN_2 a0=some r):Sat ah 144 [((am false) a0)] (B r):=by
 obtain⟨n,hn⟩:=ls_ h
 exact(ihN_4 n).1 _ _ hn
theorem ihN_7{a0:Tt}{r:Bool}(h:ihN_6 a0=some r):Sat ah 167 [((am false) a0)] (B r):=by
 obtain⟨n,hn⟩:=ls_ h
 exact(ihN_4 n).2 _ _ hn

theorem iIV_11{a0:Tt}  {r:Bool}(h:iIV_8 a0=some r):Sat ah 146 [((am false) a0)] (B r):=by
 obtain⟨h,cs⟩:=Ro_ h
 unfold iIV_8 at h
 refine au 9 [.tmp 2] Tryz.func146 (h:=S ?_)
 refine rb_ h fun v4 q h=>ai [false] (iiS_3 q) (S ?_)
 refine ag cs h (fun cs h=>S ?_) fun cs h=>S ?_
 ·refine rb_ h fun v7 q h=>ai [false] (ihN_3 q) (S ?_)
  exact FHz_ h
 ·exact FHz_ h

theorem iIV_1{a0:Tt}  {r:Bool}(h:iIV_ a0=some r):Sat ah 122 [((am false) a0)] (B r):=by
 obtain⟨h,cs⟩:=Ro_ h
 unfold iIV_ at h
 refine au 34 [.tmp 2] Tryz.func122 (h:=S ?_)
 refine rb_ h fun v4 q h=>ai [false] (iiE_1 q) (S ?_)
 refine ag cs h (fun cs h=>S ?_) fun cs h=>S ?_
 ·refine ag cs h (fun cs h=>S ?_) fun cs h=>S ?_
  refine rb_ h fun v11 q h=>ai [false] (iiS_3 q) (S ?_)
  refine ag cs h (fun cs h=>S ?_) fun cs h=>S ?_
  refine rb_ h fun v16 q h=>aq (am false) q (S ?_)
  refine rb_ h fun v18 q h=>ai [false] (ihN_3 q) (S ?_)
  refine ag cs h (fun cs h=>S ?_) fun cs h=>S ?_
  ·refine rb_ h fun v23 q h=>aq (am false) q (S ?_)
   refine rb_ h fun v25 q h=>ai [false] (ihN_3 q) (S ?_)
   exact FHz_ h
  all_goals
   exact FHz_ h
 ·refine rb_ h fun v29 q h=>ai [false] (iiS_2 q) (S ?_)
  refine ag cs h (fun cs h=>S ?_) fun cs h=>S ?_
  ·refine rb_ h fun v32 q h=>ai [false] (iIV_11 q) (S ?_)
   exact FHz_ h
  ·exact FHz_ h

theorem iiZ_{a0:Tt}  {r:Bool}(h:iiZ_1 a0=some r):Sat ah 123 [((am false) a0)] (B r):=by
 obtain⟨h,cs⟩:=Ro_ h
 unfold iiZ_1 at h
 refine au 12 [.tmp 2] Tryz.func123 (h:=S ?_)
 refine ag cs h (fun cs h=>S ?_) fun cs h=>S ?_
 ·exact FHz_ h
 ·exact FHz_ h

theorem sIF_2{a0:List Ft}{a1:Ft→Option Bool}{a1_id:FuncId}{a1_cs:List PV}(a1_ok:∀ y0 r,a1 y0=some r→Sat ah a1_id (((aj false) y0)::a1_cs) (B r))(a1_cz:CO_ a1_cs=True){r:Int}(h:sIF_ a0 a1=some r):Sat ah 101 [(.sl false 5 (a0.map (aj false))),.clo a1_id a1_cs] (I r):=by
 obtain⟨h,cs⟩:=Ro_ h
 unfold sIF_ at h
 have cs:=ae a1_cz cs
 refine au 19 [.tmp 4] Tryz.func101 (h:=S ?_)
 refine aN (b:=false) (sz:=5) (es:=a0.map (aj false)) 0 SC fun hl0=>?_; rw[aD] at hl0
 refine aI (rl_ h) (fun i2 s2=>[(0,.val (.pv (.sl false 5 (a0.map (aj false))))),(1,.val (.pv (.clo a1_id a1_cs))),(7,.val (.pv (I (a0.length:Int)))),(8,.val (.pv (I (i2:Int))))]) (fun i2 s2=>[]) (Slm_ SC) (fun i2 s2 hi h=>?_) (fun s2 h=>?_)
 ·have w:=ws_ i2
  refine S ?_
  refine aG cs fun cs=>S ?_
  refine rb_ h fun v14 q h=>aq (aj false) q (S ?_)
  refine rb_ h fun v16 q h=>ai [false] (a1_ok _ _ q) (S ?_)
  refine ag cs h (fun cs h=>S ?_) fun cs h=>S ?_
  ·exact FHz_ h
  ·exact aJ h
 ·refine S ?_
  refine aH cs fun cs=>S ?_
  exact FHz_ h

theorem sCF_1{a0:List Ft}{a1:Ft→Option Bool}{a1_id:FuncId}{a1_cs:List PV}(a1_ok:∀ y0 r,a1 y0=some r→Sat ah a1_id (((aj false) y0)::a1_cs) (B r))(a1_cz:CO_ a1_cs=True){r:Bool}(h:sCF_ a0 a1=some r):Sat ah 86 [(.sl false 5 (a0.map (aj false))),.clo a1_id a1_cs] (B r):=by
 obtain⟨h,cs⟩:=Ro_ h
 unfold sCF_ at h
 have cs:=ae a1_cz cs
 refine au 9 [.tmp 4] Tryz.func86 (h:=S ?_)
 refine rb_ h fun v7 q h=>ai [false,false] (sIF_2 a1_ok a1_cz q) (S ?_)
 exact FHz_ h

theorem ihF_2(n:Nat):(∀ (a0:Ft) (r:Bool),ihF_1 n a0=some r→Sat ah 105 [((aj false) a0)] (B r))∧(∀ (a0:Ft) (r:Bool),ihF_ n a0=some r→Sat ah 124 [((aj false) a0)] (B r)):=by
 induction n with
 | zero=>exact⟨fun _ _ h=>by simp[ihF_1] at h,fun _ _ h=>by simp[ihF_] at h⟩
 | succ n ih=>
  refine⟨fun a0 r h=>?_,fun a0 r h=>?_⟩
  ·obtain⟨h,cs⟩:=Ro_ h
   rw[ihF_1] at h
   refine au 76 [.tmp 2] Tryz.func105 (h:=S ?_)
   refine ag cs h (fun cs h=>S ?_) fun cs h=>S ?_
   refine ag cs h (fun cs h=>S ?_) fun cs h=>S ?_
   refine rb_ h fun v33 q h=>ai [false] (iiQ_1 q) (S ?_)
   refine ag cs h (fun cs h=>S ?_) fun cs h=>S ?_
   refine rb_ h fun v37 q h=>ai [false] (iiV_1 q) (S ?_)
   refine ag cs h (fun cs h=>S ?_) fun cs h=>S ?_
   refine rb_ h fun v44 q h=>ai [false] (iiQ_1 q) (S ?_)
   refine ag cs h (fun cs h=>S ?_) fun cs h=>S ?_
   refine ag cs h (fun cs h=>S ?_) fun cs h=>S ?_
   refine rb_ h fun v58 q h=>ai [false] (iIV_1 q) (S ?_)
   refine ag cs h (fun cs h=>S ?_) fun cs h=>S ?_
   rotate_left 2
   refine rb_ h fun v68 q h=>ai [false] (iiZ_ q) (S ?_)
   refine ag cs h (fun cs h=>S ?_) fun cs h=>S ?_
   rotate_left 2
   refine ag cs h (fun cs h=>S ?_) fun cs h=>S ?_
   refine ag cs h (fun cs h=>S ?_) fun cs h=>S ?_
   refine rb_ h fun v58 q h=>ai [false] (iIV_1 q) (S ?_)
   refine ag cs h (fun cs h=>S ?_) fun cs h=>S ?_
   rotate_left 2
   refine rb_ h fun v68 q h=>ai [false] (iiZ_ q) (S ?_)
   refine ag cs h (fun cs h=>S ?_) fun cs h=>S ?_
   rotate_left 4
   refine rb_ h fun v44 q h=>ai [false] (iiQ_1 q) (S ?_)
   refine ag cs h (fun cs h=>S ?_) fun cs h=>S ?_
   refine ag cs h (fun cs h=>S ?_) fun cs h=>S ?_
   refine rb_ h fun v58 q h=>ai [false] (iIV_1 q) (S ?_)
   refine ag cs h (fun cs h=>S ?_) fun cs h=>S ?_
   rotate_left 2
   refine rb_ h fun v68 q h=>ai [false] (iiZ_ q) (S ?_)
   refine ag cs h (fun cs h=>S ?_) fun cs h=>S ?_
   rotate_left 2
   refine ag cs h (fun cs h=>S ?_) fun cs h=>S ?_
   refine ag cs h (fun cs h=>S ?_) fun cs h=>S ?_
   refine rb_ h fun v58 q h=>ai [false] (iIV_1 q) (S ?_)
   refine ag cs h (fun cs h=>S ?_) fun cs h=>S ?_
   rotate_left 2
   refine rb_ h fun v68 q h=>ai [false] (iiZ_ q) (S ?_)
   refine ag cs h (fun cs h=>S ?_) fun cs h=>S ?_
   rotate_left 4
   refine ag cs h (fun cs h=>S ?_) fun cs h=>S ?_
   refine ag cs h (fun cs h=>S ?_) fun cs h=>S ?_
   refine rb_ h fun v33 q h=>ai [false] (iiQ_1 q) (S ?_)
   refine ag cs h (fun cs h=>S ?_) fun cs h=>S ?_
   refine rb_ h fun v37 q h=>ai [false] (iiV_1 q) (S ?_)
   refine ag cs h (fun cs h=>S ?_) fun cs h=>S ?_
   refine rb_ h fun v44 q h=>ai [false] (iiQ_1 q) (S ?_)
   refine ag cs h (fun cs h=>S ?_) fun cs h=>S ?_
   refine ag cs h (fun cs h=>S ?_) fun cs h=>S ?_
   refine rb_ h fun v58 q h=>ai [false] (iIV_1 q) (S ?_)
   refine ag cs h (fun cs h=>S ?_) fun cs h=>S ?_
   rotate_left 2
   refine rb_ h fun v68 q h=>ai [false] (iiZ_ q) (S ?_)
   refine ag cs h (fun cs h=>S ?_) fun cs h=>S ?_
   rotate_left 2
   refine ag cs h (fun cs h=>S ?_) fun cs h=>S ?_
   refine ag cs h (fun cs h=>S ?_) fun cs h=>S ?_
   refine rb_ h fun v58 q h=>ai [false] (iIV_1 q) (S ?_)
   refine ag cs h (fun cs h=>S ?_) fun cs h=>S ?_
   rotate_left 2
   refine rb_ h fun v68 q h=>ai [false] (iiZ_ q) (S ?_)
   refine ag cs h (fun cs h=>S ?_) fun cs h=>S ?_
   rotate_left 4
   refine rb_ h fun v44 q h=>ai [false] (iiQ_1 q) (S ?_)
   refine ag cs h (fun cs h=>S ?_) fun cs h=>S ?_
   refine ag cs h (fun cs h=>S ?_) fun cs h=>S ?_
   refine rb_ h fun v58 q h=>ai [false] (iIV_1 q) (S ?_)
   refine ag cs h (fun cs h=>S ?_) fun cs h=>S ?_
   rotate_left 2
   refine rb_ h fun v68 q h=>ai [false] (iiZ_ q) (S ?_)
   refine ag cs h (fun cs h=>S ?_) fun cs h=>S ?_
   rotate_left 2
   refine ag cs h (fun cs h=>S ?_) fun cs h=>S ?_
   refine ag cs h (fun cs h=>S ?_) fun cs h=>S ?_
   refine rb_ h fun v58 q h=>ai [false] (iIV_1 q) (S ?_)
   refine ag cs h (fun cs h=>S ?_) fun cs h=>S ?_
   rotate_left 2
   refine rb_ h fun v68 q h=>ai [false] (iiZ_ q) (S ?_)
   refine ag cs h (fun cs h=>S ?_) fun cs h=>S ?_
   rotate_left 4
   refine ag cs h (fun cs h=>S ?_) fun cs h=>S ?_
   refine ag cs h (fun cs h=>S ?_) fun cs h=>S ?_
   refine rb_ h fun v33 q h=>ai [false] (iiQ_1 q) (S ?_)
   refine ag cs h (fun cs h=>S ?_) fun cs h=>S ?_
   refine rb_ h fun v37 q h=>ai [false] (iiV_1 q) (S ?_)
   refine ag cs h (fun cs h=>S ?_) fun cs h=>S ?_
   refine rb_ h fun v44 q h=>ai [false] (iiQ_1 q) (S ?_)
   refine ag cs h (fun cs h=>S ?_) fun cs h=>S ?_
   refine rb_ h fun v58 q h=>ai [false] (iIV_1 q) (S ?_)
   refine ag cs h (fun cs h=>S ?_) fun cs h=>S ?_
   rotate_left 2
   refine ag cs h (fun cs h=>S ?_) fun cs h=>S ?_
   refine rb_ h fun v58 q h=>ai [false] (iIV_1 q) (S ?_)
   refine ag cs h (fun cs h=>S ?_) fun cs h=>S ?_
   rotate_left 4
   refine rb_ h fun v44 q h=>ai [false] (iiQ_1 q) (S ?_)
   refine ag cs h (fun cs h=>S ?_) fun cs h=>S ?_
   refine rb_ h fun v58 q h=>ai [false] (iIV_1 q) (S ?_)
   refine ag cs h (fun cs h=>S ?_) fun cs h=>S ?_
   rotate_left 2
   refine ag cs h (fun cs h=>S ?_) fun cs h=>S ?_
   refine rb_ h fun v58 q h=>ai [false] (iIV_1 q) (S ?_)
   refine ag cs h (fun cs h=>S ?_) fun cs h=>S ?_
   rotate_left 4
   refine ag cs h (fun cs h=>S ?_) fun cs h=>S ?_
   refine ag cs h (fun cs h=>S ?_) fun cs h=>S ?_
   refine rb_ h fun v33 q h=>ai [false] (iiQ_1 q) (S ?_)
   refine ag cs h (fun cs h=>S ?_) fun cs h=>S ?_
   refine rb_ h fun v37 q h=>ai [false] (iiV_1 q) (S ?_)
   refine ag cs h (fun cs h=>S ?_) fun cs h=>S ?_
   refine rb_ h fun v44 q h=>ai [false] (iiQ_1 q) (S ?_)
   refine ag cs h (fun cs h=>S ?_) fun cs h=>S ?_
   refine rb_ h fun v68 q h=>ai [false] (iiZ_ q) (S ?_)
   refine ag cs h (fun cs h=>S ?_) fun cs h=>S ?_
   rotate_left 2
   refine ag cs h (fun cs h=>S ?_) fun cs h=>S ?_
   refine rb_ h fun v68 q h=>ai [false] (iiZ_ q) (S ?_)
   refine ag cs h (fun cs h=>S ?_) fun cs h=>S ?_
   rotate_left 4
   refine rb_ h fun v44 q h=>ai [false] (iiQ_1 q) (S ?_)
   refine ag cs h (fun cs h=>S ?_) fun cs h=>S ?_
   refine rb_ h fun v68 q h=>ai [false] (iiZ_ q) (S ?_)
   refine ag cs h (fun cs h=>S ?_) fun cs h=>S ?_
   rotate_left 2
   refine ag cs h (fun cs h=>S ?_) fun cs h=>S ?_
   refine rb_ h fun v68 q h=>ai [false] (iiZ_ q) (S ?_)
   refine ag cs h (fun cs h=>S ?_) fun cs h=>S ?_
   rotate_left 4
   refine rb_ h fun v20 q h=>ai [false] (iiQ_1 q) (S ?_)
   refine ag cs h (fun cs h=>S ?_) fun cs h=>S ?_
   refine ag cs h (fun cs h=>S ?_) fun cs h=>S ?_
   refine rb_ h fun v33 q h=>ai [false] (iiQ_1 q) (S ?_)
   refine ag cs h (fun cs h=>S ?_) fun cs h=>S ?_
   refine rb_ h fun v37 q h=>ai [false] (iiV_1 q) (S ?_)
   refine ag cs h (fun cs h=>S ?_) fun cs h=>S ?_
   refine rb_ h fun v44 q h=>ai [false] (iiQ_1 q) (S ?_)
   refine ag cs h (fun cs h=>S ?_) fun cs h=>S ?_
   refine rb_ h fun v68 q h=>ai [false] (iiZ_ q) (S ?_)
   refine ag cs h (fun cs h=>S ?_) fun cs h=>S ?_
   rotate_left 2
   refine ag cs h (fun cs h=>S ?_) fun cs h=>S ?_
   refine rb_ h fun v68 q h=>ai [false] (iiZ_ q) (S ?_)
   refine ag cs h (fun cs h=>S ?_) fun cs h=>S ?_
   rotate_left 4
   refine rb_ h fun v44 q h=>ai [false] (iiQ_1 q) (S ?_)
   refine ag cs h (fun cs h=>S ?_) fun cs h=>S ?_
   refine rb_ h fun v68 q h=>ai [false] (iiZ_ q) (S ?_)
   refine ag cs h (fun cs h=>S ?_) fun cs h=>S ?_
   rotate_left 2
   refine ag cs h (fun cs h=>S ?_) fun cs h=>S ?_
   refine rb_ h fun v68 q h=>ai [false] (iiZ_ q) (S ?_)
   refine ag cs h (fun cs h=>S ?_) fun cs h=>S ?_
   rotate_left 4
   refine rb_ h fun v24 q h=>ai [false] (iiB_1 q) (S ?_)
   refine ag cs h (fun cs h=>S ?_) fun cs h=>S ?_
   refine ag cs h (fun cs h=>S ?_) fun cs h=>S ?_
   refine rb_ h fun v33 q h=>ai [false] (iiQ_1 q) (S ?_)
   refine ag cs h (fun cs h=>S ?_) fun cs h=>S ?_
   refine rb_ h fun v37 q h=>ai [false] (iiV_1 q) (S ?_)
   refine ag cs h (fun cs h=>S ?_) fun cs h=>S ?_
   refine rb_ h fun v44 q h=>ai [false] (iiQ_1 q) (S ?_)
   refine ag cs h (fun cs h=>S ?_) fun cs h=>S ?_
   refine rb_ h fun v68 q h=>ai [false] (iiZ_ q) (S ?_)
   refine ag cs h (fun cs h=>S ?_) fun cs h=>S ?_
   rotate_left 2
   refine ag cs h (fun cs h=>S ?_) fun cs h=>S ?_
   refine rb_ h fun v68 q h=>ai [false] (iiZ_ q) (S ?_)
   refine ag cs h (fun cs h=>S ?_) fun cs h=>S ?_
   rotate_left 4
   refine rb_ h fun v44 q h=>ai [false] (iiQ_1 q) (S ?_)
   refine ag cs h (fun cs h=>S ?_) fun cs h=>S ?_
   refine rb_ h fun v68 q h=>ai [false] (iiZ_ q) (S ?_)
   refine ag cs h (fun cs h=>S ?_) fun cs h=>S ?_
   rotate_left 2
   refine ag cs h (fun cs h=>S ?_) fun cs h=>S ?_
   refine rb_ h fun v68 q h=>ai [false] (iiZ_ q) (S ?_)
   refine ag cs h (fun cs h=>S ?_) fun cs h=>S ?_
   rotate_left
   ·exact FHz_ h
   ·exact FHz_ h
   ·exact FHz_ h
   ·exact FHz_ h
   rotate_left
   ·exact FHz_ h
   rotate_left
   ·exact FHz_ h
   rotate_left
   ·exact FHz_ h
   rotate_left
   ·exact FHz_ h
   ·exact FHz_ h
   ·exact FHz_ h
   rotate_left
   ·exact FHz_ h
   rotate_left
   ·exact FHz_ h
   rotate_left
   ·exact FHz_ h
   rotate_left
   ·exact FHz_ h
   ·exact FHz_ h
   ·exact FHz_ h
   rotate_left
   ·exact FHz_ h
   rotate_left
   ·exact FHz_ h
   rotate_left
   ·exact FHz_ h
   rotate_left
   ·exact FHz_ h
   ·exact FHz_ h
   ·exact FHz_ h
   rotate_left
   ·exact FHz_ h
   rotate_left
   ·exact FHz_ h
   rotate_left
   ·exact FHz_ h
   rotate_left
   ·exact FHz_ h
   ·exact FHz_ h
   ·exact FHz_ h
   rotate_left
   ·exact FHz_ h
   rotate_left
   ·exact FHz_ h
   ·exact FHz_ h
   ·exact FHz_ h
   rotate_left
   ·exact FHz_ h
   rotate_left
   ·exact FHz_ h
   ·exact FHz_ h
   ·exact FHz_ h
   rotate_left
   ·exact FHz_ h
   rotate_left
   ·exact FHz_ h
   ·exact FHz_ h
   ·exact FHz_ h
   rotate_left
   ·exact FHz_ h
   rotate_left
   ·exact FHz_ h
   ·exact FHz_ h
   ·exact FHz_ h
   rotate_left
   ·exact FHz_ h
   rotate_left
   ·exact FHz_ h
   ·exact FHz_ h
   ·exact FHz_ h
   rotate_left
   ·exact FHz_ h
   rotate_left
   ·exact FHz_ h
   ·exact FHz_ h
   ·exact FHz_ h
   rotate_left
   ·exact FHz_ h
   rotate_left
   ·exact FHz_ h
   ·exact FHz_ h
   ·exact FHz_ h
   rotate_left
   ·exact FHz_ h
   all_goals
    refine rb_ h fun v74 q h=>ai [false,false] (sCF_1 (fun _ _ hh=>ih.2 _ _ hh) (by simp only[COn_,COc_]) q) (S ?_)
    exact FHz_ h
  ·obtain⟨h,cs⟩:=Ro_ h
   rw[ihF_] at h
   refine au 6 [.tmp 2] Tryz.func124 (h:=S ?_)
   refine rb_ h fun v4 q h=>ai [false] (ih.1 _ _ q) (S ?_)
   exact FHz_ h
theorem ihF_4{a0:Ft}{r:Bool}(h:ihF_3 a0=some r):Sat ah 105 [((aj false) a0)] (B r):=by
 obtain⟨n,hn⟩:=ls_ h
 exact(ihF_2 n).1 _ _ hn
theorem ihF_6{a0:Ft}{r:Bool}(h:ihF_5 a0=some r):Sat ah 124 [((aj false) a0)] (B r):=by
 obtain⟨n,hn⟩:=ls_ h
 exact(ihF_2 n).2 _ _ hn

theorem iIV_4{a0:Ft}  {r:Bool}(h:iIV_3 a0=some r):Sat ah 89 [((aj false) a0)] (B r):=by
 obtain⟨h,cs⟩:=Ro_ h
 unfold iIV_3 at h
 refine au 10 [.tmp 2] Tryz.func89 (h:=S ?_)
 refine rb_ h fun v4 q h=>ai [false] (isO_3 q) (S ?_)
 refine ag cs h (fun cs h=>S ?_) fun cs h=>S ?_
 ·refine rb_ h fun v8 q h=>ai [false] (ihF_4 q) (S ?_)
  exact FHz_ h
 ·exact FHz_ h

theorem iIV_9{a0:Ft}  {r:Bool}(h:iIV_7 a0=some r):Sat ah 135 [((aj false) a0)] (B r):=by
 obtain⟨h,cs⟩:=Ro_ h
 unfold iIV_7 at h
 refine au 6 [.tmp 2] Tryz.func135 (h:=S ?_)
 refine rb_ h fun v4 q h=>ai [false] (iIV_4 q) (S ?_)
 exact FHz_ h

theorem iIV_10{a0:Sa}  {r:Bool}(h:iIV_6 a0=some r):Sat ah 115 [((aL false) a0)] (B r):=by
 obtain⟨h,cs⟩:=Ro_ h
 unfold iIV_6 at h
 refine au 28 [.tmp 2] Tryz.func115 (h:=S ?_)
 refine ag cs h (fun cs h=>S ?_) fun cs h=>S ?_
 refine ag cs h (fun cs h=>S ?_) fun cs h=>S ?_
 refine rb_ h fun v18 q h=>ai [false,false] (sCF_1 (fun _ _ hh=>iIV_9 hh) (by simp only[COn_,COc_]) q) (S ?_)
 refine ag cs h (fun cs h=>S ?_) fun cs h=>S ?_
 rotate_left
 ·refine rb_ h fun v25 q h=>ai [false,false] (sCF_1 (fun _ _ hh=>iIV_9 hh) (by simp only[COn_,COc_]) q) (S ?_)
  exact FHz_ h
 all_goals
  exact FHz_ h

theorem sEF_5{a0:List Tt}{a1:List Tt}{a2:Tt→Tt→Option Bool}{a2_id:FuncId}{a2_cs:List PV}(a2_ok:∀ y0 y1 r,a2 y0 y1=some r→Sat ah a2_id (((am false) y0)::((am false) y1)::a2_cs) (B r))(a2_cz:CO_ a2_cs=True){r:Bool}(h:sEF_2 a0 a1 a2=some r):Sat ah 118 [(.sl false 2 (a0.map (am false))),(.sl false 2 (a1.map (am false))),.clo a2_id a2_cs] (B r):=by
 obtain⟨h,cs⟩:=Ro_ h
 unfold sEF_2 at h
 have cs:=ae a2_cz cs
 refine au 32 [.tmp 6] Tryz.func118 (h:=S ?_)
 refine ag cs h (fun cs h=>S ?_) fun cs h=>S ?_
 ·refine aN (b:=false) (sz:=2) (es:=a0.map (am false)) 0 SC fun hl0=>?_; rw[aD] at hl0
  refine aI (rl_ h) (fun i4 s4=>[(1,.val (.pv (.sl false 2 (a1.map (am false))))),(2,.val (.pv (.clo a2_id a2_cs))),(15,.val (.pv (.sl false 2 (a0.map (am false))))),(16,.val (.pv (I (a0.length:Int)))),(17,.val (.pv (I (i4:Int))))]) (fun i4 s4=>[]) (Slm_ SC) (fun i4 s4 hi h=>?_) (fun s4 h=>?_)
  ·have w:=ws_ i4
   refine S ?_
   refine aG cs fun cs=>S ?_
   refine rb_ h fun v20 q h=>aq (am false) q (S ?_)
   refine rb_ h fun v24 q h=>aq (am false) q (S ?_)
   refine rb_ h fun v29 q h=>ai [false,false] (a2_ok _ _ _ q) (S ?_)
   refine ag cs h (fun cs h=>S ?_) fun cs h=>S ?_
   ·exact aJ h
   ·exact FHz_ h
  ·refine S ?_
   refine aH cs fun cs=>S ?_
   exact FHz_ h
 ·exact FHz_ h

theorem iET_2(n:Nat):(∀ (a0:Tt) (a1:Tt) (r:Bool),iET_ n a0 a1=some r→Sat ah 102 [((am false) a0),((am false) a1)] (B r)):=by
 induction n with
 | zero=>exact fun _ _ _ h=>by simp[iET_] at h
 | succ n ih=>
  refine fun a0 a1 r h=>?_
  obtain⟨h,cs⟩:=Ro_ h
  rw[iET_] at h
  refine au 17 [.tmp 4] Tryz.func102 (h:=S ?_)
  refine ag cs h (fun cs h=>S ?_) fun cs h=>S ?_
  ·refine rb_ h fun v15 q h=>ai [false,false,false] (sEF_5 (fun _ _ _ hh=>ih _ _ _ hh) (by simp only[COn_,COc_]) q) (S ?_)
   exact FHz_ h
  ·exact FHz_ h
theorem iET_3{a0:Tt}{a1:Tt}{r:Bool}(h:iET_1 a0 a1=some r):Sat ah 102 [((am false) a0),((am false) a1)] (B r):=by
 obtain⟨n,hn⟩:=ls_ h
 exact(iET_2 n) _ _ _ hn

theorem sEF_3{a0:List Ft}{a1:List Ft}{a2:Ft→Ft→Option Bool}{a2_id:FuncId}{a2_cs:List PV}(a2_ok:∀ y0 y1 r,a2 y0 y1=some r→Sat ah a2_id (((aj false) y0)::((aj false) y1)::a2_cs) (B r))(a2_cz:CO_ a2_cs=True){r:Bool}(h:sEF_ a0 a1 a2=some r):Sat ah 103 [(.sl false 5 (a0.map (aj false))),(.sl false 5 (a1.map (aj false))),.clo a2_id a2_cs] (B r):=by
 obtain⟨h,cs⟩:=Ro_ h
 unfold sEF_ at h
 have cs:=ae a2_cz cs
 refine au 32 [.tmp 6] Tryz.func103 (h:=S ?_)
 refine ag cs h (fun cs h=>S ?_) fun cs h=>S ?_
 ·refine aN (b:=false) (sz:=5) (es:=a0.map (aj false)) 0 SC fun hl0=>?_; rw[aD] at hl0
  refine aI (rl_ h) (fun i4 s4=>[(1,.val (.pv (.sl false 5 (a1.map (aj false))))),(2,.val (.pv (.clo a2_id a2_cs))),(15,.val (.pv (.sl false 5 (a0.map (aj false))))),(16,.val (.pv (I (a0.length:Int)))),(17,.val (.pv (I (i4:Int))))]) (fun i4 s4=>[]) (Slm_ SC) (fun i4 s4 hi h=>?_) (fun s4 h=>?_)
  ·have w:=ws_ i4
   refine S ?_
   refine aG cs fun cs=>S ?_
   refine rb_ h fun v20 q h=>aq (aj false) q (S ?_)
   refine rb_ h fun v24 q h=>aq (aj false) q (S ?_)
   refine rb_ h fun v29 q h=>ai [false,false] (a2_ok _ _ _ q) (S ?_)
   refine ag cs h (fun cs h=>S ?_) fun cs h=>S ?_
   ·exact aJ h
   ·exact FHz_ h
  ·refine S ?_
   refine aH cs fun cs=>S ?_
   exact FHz_ h
 ·exact FHz_ h

theorem isF_5(n:Nat):(∀ (a0:Ft) (a1:Ft) (r:Bool),isF_ n a0 a1=some r→Sat ah 88 [((aj false) a0),((aj false) a1)] (B r)):=by
 induction n with
 | zero=>exact fun _ _ _ h=>by simp[isF_] at h
 | succ n ih=>
  refine fun a0 a1 r h=>?_
  obtain⟨h,cs⟩:=Ro_ h
  rw[isF_] at h
  refine au 31 [.tmp 4] Tryz.func88 (h:=S ?_)
  refine ag cs h (fun cs h=>S ?_) fun cs h=>S ?_
  refine rb_ h fun v15 q h=>ai [false,false] (iET_3 q) (S ?_)
  refine ag cs h (fun cs h=>S ?_) fun cs h=>S ?_
  refine ag cs h (fun cs h=>S ?_) fun cs h=>S ?_
  ·refine rb_ h fun v29 q h=>ai [false,false,false] (sEF_3 (fun _ _ _ hh=>ih _ _ _ hh) (by simp only[COn_,COc_]) q) (S ?_)
   exact FHz_ h
  all_goals
   exact FHz_ h
theorem isF_3{a0:Ft}{a1:Ft}{r:Bool}(h:isF_2 a0 a1=some r):Sat ah 88 [((aj false) a0),((aj false) a1)] (B r):=by
 obtain⟨n,hn⟩:=ls_ h
 exact(isF_5 n) _ _ _ hn

theorem iiQ_3{a0:Int}  {r:Bool}(h:iiQ_ a0=some r):Sat ah 158 [(I a0)] (B r):=by
 obtain⟨h,cs⟩:=Ro_ h
 unfold iiQ_ at h
 refine au 5 [.tmp 2] Tryz.func158 (h:=S ?_)
 refine rb_ h fun v4 q h=>ai [false,false,false] (iws_ q) (S ?_)
 exact FHz_ h

theorem imO_1{a0:Int}  {r:Bool×Int}(h:imO_ a0=some r):Sat ah 108 [(I a0)] (.tup [(B r.1),(I r.2)]):=by
 obtain⟨h,cs⟩:=Ro_ h
 unfold imO_ at h
 refine au 36 [.tmp 2,.tmp 3] Tryz.func108 (h:=S ?_)
 refine ag cs h (fun cs h=>S ?_) fun cs h=>S ?_
 rotate_left
 refine ag cs h (fun cs h=>S ?_) fun cs h=>S ?_
 rotate_left
 refine ag cs h (fun cs h=>S ?_) fun cs h=>S ?_
 rotate_left
 refine ag cs h (fun cs h=>S ?_) fun cs h=>S ?_
 rotate_left
 refine ag cs h (fun cs h=>S ?_) fun cs h=>S ?_
 rotate_left
 refine ag cs h (fun cs h=>S ?_) fun cs h=>S ?_
 rotate_left
 refine ag cs h (fun cs h=>S ?_) fun cs h=>S ?_
 rotate_left
 refine ag cs h (fun cs h=>S ?_) fun cs h=>S ?_
 rotate_left
 refine ag cs h (fun cs h=>S ?_) fun cs h=>S ?_
 rotate_left
 refine ag cs h (fun cs h=>S ?_) fun cs h=>S ?_
 rotate_left
 refine ag cs h (fun cs h=>S ?_) fun cs h=>S ?_
 rotate_left
 refine ag cs h (fun cs h=>S ?_) fun cs h=>S ?_
 all_goals
  exact FHz_ h

theorem imF_1{a0:Sa}{a1:Dt}  {r:Ft×Bool}(h:imF_ a0 a1=some r):Sat ah 159 [((aL false) a0),((al false) a1)] (.tup [((aj false) r.1),(B r.2)]):=by
 obtain⟨h,cs⟩:=Ro_ h
 unfold imF_ at h
 refine au 47 [.cell 4 41,.tmp 5] Tryz.func159 (h:=S ?_)
 refine rb_ h fun v12 q h=>ai [false] (imO_1 q) (S ?_)
 refine ag cs h (fun cs h=>S ?_) fun cs h=>S ?_
 refine rb_ h fun v25 q h=>ai [false,false,false] (iws_ q) (S ?_)
 refine ag cs h (fun cs h=>S ?_) fun cs h=>S ?_
 refine ag cs h (fun cs h=>S ?_) fun cs h=>S ?_
 rotate_left
 refine rb_ h fun v34 q h=>aq (aj false) q (S ?_)
 refine ag cs h (fun cs h=>S ?_) fun cs h=>S ?_
 rotate_left 3
 refine rb_ h fun v25 q h=>ai [false,false,false] (iws_ q) (S ?_)
 refine ag cs h (fun cs h=>S ?_) fun cs h=>S ?_
 refine ag cs h (fun cs h=>S ?_) fun cs h=>S ?_
 rotate_left
 refine rb_ h fun v34 q h=>aq (aj false) q (S ?_)
 refine ag cs h (fun cs h=>S ?_) fun cs h=>S ?_
 rotate_left
 ·exact FHz_1 h
 ·exact FHz_1 h
 rotate_left 2
 ·exact FHz_1 h
 ·exact FHz_1 h
 all_goals
  refine rb_ h fun v45 q h=>aq (aj false) q (S ?_)
  exact FHz_1 h

theorem imR_1{a0:Int}  {r:Bool}(h:imR_ a0=some r):Sat ah 127 [(I a0)] (B r):=by
 obtain⟨h,cs⟩:=Ro_ h
 unfold imR_ at h
 refine au 9 [.tmp 2] Tryz.func127 (h:=S ?_)
 refine ag cs h (fun cs h=>S ?_) fun cs h=>S ?_
 ·exact FHz_ h
 ·exact FHz_ h

theorem iiV_3{a0:Tt}  {r:Bool}(h:iiV_2 a0=some r):Sat ah 213 [((am false) a0)] (B r):=by
 obtain⟨h,cs⟩:=Ro_ h
 unfold iiV_2 at h
 refine au 7 [.tmp 2] Tryz.func213 (h:=S ?_)
 refine rb_ h fun v5 q h=>bw q (S ?_)
 refine rb_ h fun v6 q h=>ai [false] (iiU_1 q) (S ?_)
 exact FHz_ h

theorem icN_5(n:Nat):(∀ (a0:List ByteArray) (a1:Tt) (r:List ByteArray),icN_1 n a0 a1=some r→Sat ah 198 [(.sl true 1 (a0.map Sx)),((am false) a1)] (.sl true 1 (r.map Sx))):=by
 induction n with
 | zero=>exact fun _ _ _ h=>by simp[icN_1] at h
 | succ n ih=>
  refine fun a0 a1 r h=>?_
  obtain⟨h,cs⟩:=Ro_ h
  rw[icN_1] at h
  refine au 38 [.tmp 4] Tryz.func198 (h:=S ?_)
  refine ag cs h (fun cs h=>S ?_) fun cs h=>S ?_
  refine rb_ h fun v13 q h=>ai [false] (iiV_3 q) (S ?_)
  refine ag cs h (fun cs h=>S ?_) fun cs h=>S ?_
  refine rb_ h fun v18 q h=>ai [false,false] (sCS_2 q) (S ?_)
  refine ag cs h (fun cs h=>S ?_) fun cs h=>S ?_
  ·exact FHz_ h
  ·refine rb_ h fun v24 q h=>aS Sx (fun _=>rfl) q (S ?_)
   exact FHz_ h
  all_goals
   refine aN (b:=false) (sz:=2) (es:=a1.Args.map (am false)) 8 SC fun hl8=>?_; rw[aD] at hl8
   refine aI (rl_ h) (fun i6 s6=>[(0,.val (.own 9000)),(27,.val (.pv (.sl false 2 (a1.Args.map (am false))))),(28,.val (.pv (I (a1.Args.length:Int)))),(29,.val (.pv (I (i6:Int))))]) (fun i6 s6=>[(9000,(1,s6.map Sx))]) (Slm_ SC) (fun i6 s6 hi h=>?_) (fun s6 h=>?_)
   ·have w:=ws_ i6
    refine S ?_
    refine aG cs fun cs=>S ?_
    refine rb_ h fun v31 q h=>aq (am false) q (S ?_)
    refine rb_ h fun v35 q h=>ai [true,false] (ih _ _ _ q) (S ?_)
    have h:=rs_ h
    refine RdH.mk ⟨_,h,?_⟩
    refine Slr_ 560 9000 ?_
    exact Slm_ SWx
   ·refine S ?_
    refine aH cs fun cs=>S ?_
    exact FHz_ h
theorem ics_{a0:List ByteArray}{a1:Tt}{r:List ByteArray}(h:ic_1 a0 a1=some r):Sat ah 198 [(.sl true 1 (a0.map Sx)),((am false) a1)] (.sl true 1 (r.map Sx)):=by
 obtain⟨n,hn⟩:=ls_ h
 exact(icN_5 n) _ _ _ hn


theorem ivs_{a0:Tt}  {r:List ByteArray}(h:iv_ a0=some r):Sat ah 192 [((am false) a0)] (.sl true 1 (r.map Sx)):=by
 obtain⟨h,cs⟩:=Ro_ h
 unfold iv_ at h
 refine au 10 [.tmp 2] Tryz.func192 (h:=S ?_)
 refine rb_ h fun v6 q h=>ai [true,false] (ics_ q) (S ?_)
 obtain⟨v8,hv8,h⟩:=rb_1 h
 refine CHi_1 [(.own 96)] [(96,(1,v8.2.map Sx))] (sSS_1 hv8) SC (S ?_)
 exact FHz_ h

theorem sCS_5{a0:List ByteArray}  {r:List ByteArray}(h:sCS_3 a0=some r):Sat ah 193 [(.sl false 1 (a0.map Sx))] (.sl true 1 (r.map Sx)):=by
 obtain⟨h,cs⟩:=Ro_ h
 unfold sCS_3 at h
 refine au 8 [.tmp 2] Tryz.func193 (h:=S ?_)
 refine NilH.mk (fun e=>?_) ?_
 ·obtain rfl:a0=[]:=List.map_eq_nil_iff.1 e
  simp only[an_2,Option.bind_some] at h
  refine S ?_
  exact FHz_ h
 ·skip
  refine S ?_
  refine rb_ h fun v7 q h=>aS Sx (fun _=>rfl) q (S ?_)
  exact FHz_ h

theorem igN_1(n:Nat):(∀ (a0:List ByteArray) (a1:Ft) (a2:List ByteArray) (r:List ByteArray),igN_ n a0 a1 a2=some r→Sat ah 187 [(.sl true 1 (a0.map Sx)),((aj false) a1),(.sl false 1 (a2.map Sx))] (.sl true 1 (r.map Sx))):=by
 induction n with
 | zero=>exact fun _ _ _ _ h=>by simp[igN_] at h
 | succ n ih=>
  refine fun a0 a1 a2 r h=>?_
  obtain⟨h,cs⟩:=Ro_ h
  rw[igN_] at h
  refine au 60 [.tmp 6] Tryz.func187 (h:=S ?_)
  refine ag cs h (fun cs h=>S ?_) fun cs h=>S ?_
  ·refine rb_ h fun v16 q h=>ai [false] (ivs_ q) (S ?_)
   refine Mg.know_own (sz:=1) (es:=v16.map Sx) 256 SC fun hl256=>?_; rw[aD] at hl256
   refine aI (rl_ h) (fun i3 s3=>[(0,.val (.own 9000)),(2,.val (.pv (.sl false 1 (a2.map Sx)))),(16,.val (.own 256)),(17,.val (.pv (I (v16.length:Int)))),(18,.val (.pv (I (i3:Int))))]) (fun i3 s3=>[(9000,(1,s3.map Sx)),(256,(1,v16.map Sx))]) (Slm_ SC) (fun i3 s3 hi h=>?_) (fun s3 h=>?_)
   ·have w:=ws_ i3
    refine S ?_
    refine aG cs fun cs=>S ?_
    refine rb_ h fun v20 q h=>aq Sx q (S ?_)
    refine rb_ h fun v21 q h=>EldH.c Sx q (S ?_)
    refine rb_ h fun v24 q h=>ai [false,false] (sCS_2 q) (S ?_)
    refine ag cs h (fun cs h=>S ?_) fun cs h=>S ?_
    ·exact aJ h
    ·refine rb_ h fun v29 q h=>ai [false,false] (sCS_2 q) (S ?_)
     refine ag cs h (fun cs h=>S ?_) fun cs h=>S ?_
     ·exact aJ h
     ·refine rb_ h fun v35 q h=>aS Sx (fun _=>rfl) q (S ?_)
      have h:=rs_ h
      refine RdH.mk ⟨_,h,?_⟩
      refine Slr_ 560 9000 ?_
      exact Slm_ SWx
   ·refine S ?_
    refine aH cs fun cs=>S ?_
    exact FHz_ h
  ·refine rb_ h fun v40 q h=>ai [false] (iiQ_1 q) (S ?_)
   refine ag cs h (fun cs h=>S ?_) fun cs h=>S ?_
   ·refine rb_ h fun v42 q h=>ai [false] (sCS_5 q) (S ?_)
    refine rb_ h fun v46 q h=>aS Sx (fun _=>rfl) q (S ?_)
    refine ae (DHa_ [] [672,720,736]) (S ?_)
    refine aN (b:=false) (sz:=5) (es:=a1.Parts.map (aj false)) 48 SC fun hl48=>?_; rw[aD] at hl48
    refine aI (rl_ h) (fun i12 s12=>[(0,.val (.own 9000)),(2,.val (.own 736)),(48,.val (.pv (.sl false 5 (a1.Parts.map (aj false))))),(49,.val (.pv (I (a1.Parts.length:Int)))),(50,.val (.pv (I (i12:Int))))]) (fun i12 s12=>[(9000,(1,s12.map Sx)),(736,(1,v46.map Sx))]) (Slm_ SC) (fun i12 s12 hi h=>?_) (fun s12 h=>?_)
    ·have w:=ws_ i12
     refine S ?_
     refine aG cs fun cs=>S ?_
     refine rb_ h fun v52 q h=>aq (aj false) q (S ?_)
     refine rb_ h fun v57 q h=>ai [true,false,false] (ih _ _ _ _ q) (S ?_)
     have h:=rs_ h
     refine RdH.mk ⟨_,h,?_⟩
     refine Slr_ 912 9000 ?_
     exact Slm_ SWx
    ·refine S ?_
     refine aH cs fun cs=>S ?_
     exact FHz_ h
   ·refine aN (b:=false) (sz:=5) (es:=a1.Parts.map (aj false)) 48 SC fun hl48=>?_; rw[aD] at hl48
    refine aI (rl_ h) (fun i12 s12=>[(0,.val (.own 9000)),(2,.val (.pv (.sl false 1 (a2.map Sx)))),(48,.val (.pv (.sl false 5 (a1.Parts.map (aj false))))),(49,.val (.pv (I (a1.Parts.length:Int)))),(50,.val (.pv (I (i12:Int))))]) (fun i12 s12=>[(9000,(1,s12.map Sx))]) (Slm_ SC) (fun i12 s12 hi h=>?_) (fun s12 h=>?_)
    ·have w:=ws_ i12
     refine S ?_
     refine aG cs fun cs=>S ?_
     refine rb_ h fun v52 q h=>aq (aj false) q (S ?_)
     refine rb_ h fun v57 q h=>ai [true,false,false] (ih _ _ _ _ q) (S ?_)
     have h:=rs_ h
     refine RdH.mk ⟨_,h,?_⟩
     refine Slr_ 912 9000 ?_
     exact Slm_ SWx
    ·refine S ?_
     refine aH cs fun cs=>S ?_
     exact FHz_ h
theorem igs_{a0:List ByteArray}{a1:Ft}{a2:List ByteArray}{r:List ByteArray}(h:ig_ a0 a1 a2=some r):Sat ah 187 [(.sl true 1 (a0.map Sx)),((aj false) a1),(.sl false 1 (a2.map Sx))] (.sl true 1 (r.map Sx)):=by
 obtain⟨n,hn⟩:=ls_ h
 exact(igN_1 n) _ _ _ _ hn

theorem ifs_{a0:Ft}  {r:List ByteArray}(h:if_ a0=some r):Sat ah 184 [((aj false) a0)] (.sl true 1 (r.map Sx)):=by
 obtain⟨h,cs⟩:=Ro_ h
 unfold if_ at h
 refine au 10 [.tmp 2] Tryz.func184 (h:=S ?_)
 refine rb_ h fun v6 q h=>ai [true,false,false] (igs_ q) (S ?_)
 obtain⟨v8,hv8,h⟩:=rb_1 h
 refine CHi_1 [(.own 96)] [(96,(1,v8.2.map Sx))] (sSS_1 hv8) SC (S ?_)
 exact FHz_ h

theorem iiF_3{a0:Ft}{b0:ByteArray}  {r:Bool}(h:iiF_ a0 b0=some r):Sat ah 183 [((aj false) a0),.ptr (Sx b0)] (B r):=by
 obtain⟨h,cs⟩:=Ro_ h
 unfold iiF_ at h
 refine au 8 [.tmp 3] Tryz.func183 (h:=S ?_)
 refine rb_ h fun v5 q h=>ai [false] (ifs_ q) (S ?_)
 refine rb_ h fun v7 q h=>ai [false,false] (sCS_2 q) (S ?_)
 refine ae (DHa_ [] [80]) (S ?_)
 exact FHz_ h

theorem iiF_5{a0:Sa}{a1:ByteArray}  {r:Bool}(h:iiF_2 a0 a1=some r):Sat ah 178 [((aL false) a0),(Sx a1)] (B r):=by
 obtain⟨h,cs⟩:=Ro_ h
 unfold iiF_2 at h
 refine au 17 [.tmp 4] Tryz.func178 (h:=S ?_)
 refine MfH.fr (S ?_)
 refine rb_ h fun v10 q h=>ai [false,false] (sCF_1 (fun _ _ hh=>iiF_3 hh) (by simp only[COn_,COc_]) q) (S ?_)
 refine ag cs h (fun cs h=>S ?_) fun cs h=>S ?_
 ·exact FHz_ h
 ·refine rb_ h fun v15 q h=>ai [false,false] (sCF_1 (fun _ _ hh=>iiF_3 hh) (by simp only[COn_,COc_]) q) (S ?_)
  exact FHz_ h

theorem icT_4(n:Nat):(∀ (a0:Tt) (r:Tt),icT_ n a0=some r→Sat ah 63 [((am false) a0)] ((am true) r))∧(∀ (a0:List Tt) (r:List Tt),icT_1 n a0=some r→Sat ah 77 [(.sl false 2 (a0.map (am false)))] (.sl true 2 (r.map (am true)))):=by
 induction n with
 | zero=>exact⟨fun _ _ h=>by simp[icT_] at h,fun _ _ h=>by simp[icT_1] at h⟩
 | succ n ih=>
  refine⟨fun a0 r h=>?_,fun a0 r h=>?_⟩
  ·obtain⟨h,cs⟩:=Ro_ h
   rw[icT_] at h
   refine au 9 [.cell 2 39] Tryz.func63 (h:=S ?_)
   refine rb_ h fun v7 q h=>ai [false] (ih.2 _ _ q) (S ?_)
   refine ae (DHa_ [] [112]) (S ?_)
   exact FHz_ h
  ·obtain⟨h,cs⟩:=Ro_ h
   rw[icT_1] at h
   refine au 26 [.tmp 2] Tryz.func77 (h:=S ?_)
   refine ag cs h (fun cs h=>S ?_) fun cs h=>S ?_
   ·exact FHz_ h
   ·refine rb_ h fun n11 q h=>MknH.mk q (S ?_)
    refine aN (b:=false) (sz:=2) (es:=a0.map (am false)) 0 SC fun hl0=>?_; rw[aD] at hl0
    refine aI (rl_ h) (fun i5 s5=>[(3,.val (.own 176)),(12,.val (.pv (.sl false 2 (a0.map (am false))))),(13,.val (.pv (I (a0.length:Int)))),(14,.val (.pv (I (i5:Int))))]) (fun i5 s5=>[(176,(2,s5.map (am true)))]) (Slm_ SC) (fun i5 s5 hi h=>?_) (fun s5 h=>?_)
    ·have w:=ws_ i5
     refine S ?_
     refine aG cs fun cs=>S ?_
     refine rb_ h fun v17 q h=>aq (am false) q (S ?_)
     refine rb_ h fun v22 q h=>ai [false] (ih.1 _ _ q) (S ?_)
     refine rb_ h fun v23 q h=>aq (am true) q (S ?_)
     refine rb_ h fun w3 q h=>EldH.c (am true) q (S ?_)
     exact aJ h
    ·refine S ?_
     refine aH cs fun cs=>S ?_
     exact FHz_ h
theorem icT_3{a0:Tt}{r:Tt}(h:icT_2 a0=some r):Sat ah 63 [((am false) a0)] ((am true) r):=by
 obtain⟨n,hn⟩:=ls_ h
 exact(icT_4 n).1 _ _ hn
theorem icT_6{a0:List Tt}{r:List Tt}(h:icT_5 a0=some r):Sat ah 77 [(.sl false 2 (a0.map (am false)))] (.sl true 2 (r.map (am true))):=by
 obtain⟨n,hn⟩:=ls_ h
 exact(icT_4 n).2 _ _ hn

theorem imP_3{a0:Ft}{a1:Ft→Option Ft}{a1_id:FuncId}{a1_cs:List PV}(a1_ok:∀ y0 r,a1 y0=some r→Sat ah a1_id (((aj false) y0)::a1_cs) ((aj true) r))(a1_cz:CO_ a1_cs=True){r:Ft}(h:imP_2 a0 a1=some r):Sat ah 78 [((aj false) a0),.clo a1_id a1_cs] ((aj true) r):=by
 obtain⟨h,cs⟩:=Ro_ h
 unfold imP_2 at h
 have cs:=ae a1_cz cs
 refine au 33 [.cell 4 41] Tryz.func78 (h:=S ?_)
 refine rb_ h fun v12 q h=>ai [false] (icT_3 q) (S ?_)
 refine ae (DHa_ [5] [192]) (S ?_)
 refine aN (b:=false) (sz:=5) (es:=a0.Parts.map (aj false)) 17 SC fun hl17=>?_; rw[aD] at hl17
 refine aI (rl_ h) (fun i3 s3=>[(1,.val (.pv (.clo a1_id a1_cs))),(4,.box zab1),(5,.box (.node [(.pv (I a0.Op)),(.node [(.pv (Sx v12.Name)),(.own 192)]),(.pv (Sx a0.Var)),(.own 9309)])),(17,.val (.pv (.sl false 5 (a0.Parts.map (aj false))))),(18,.val (.pv (I (a0.Parts.length:Int)))),(19,.val (.pv (I (i3:Int))))]) (fun i3 s3=>[(192,(2,v12.Args.map (am true))),(9309,(5,s3.map (aj true)))]) (bt (Sln_ (x:=(.node [(.pv (I a0.Op)),(.node [(.pv (Sx v12.Name)),(.own 192)]),(.pv (Sx a0.Var)),(.pv (.sl true 5 []))])) 5 [3] 9309 5 NM SC SC SC) (Slm_ SC)) (fun i3 s3 hi h=>?_) (fun s3 h=>?_)
 ·have w:=ws_ i3
  refine S ?_
  refine aG cs fun cs=>S ?_
  refine rb_ h fun v21 q h=>aq (aj false) q (S ?_)
  refine rb_ h fun v27 q h=>ai [false] (a1_ok _ _ q) (S ?_)
  refine rb_ h fun v29 q h=>aS (aj true) (fun a=>Ft.psize _ a) q (S ?_)
  refine ae (DHa_ [] [432,433,448,464]) (S ?_)
  have h:=rs_ h
  refine RdH.mk ⟨_,h,?_⟩
  refine Slr_ 464 9309 ?_
  exact Slm_ SWx
 ·refine S ?_
  refine aH cs fun cs=>S ?_
  exact FHz_ h

theorem icF_5(n:Nat):(∀ (a0:Ft) (r:Ft),icF_2 n a0=some r→Sat ah 64 [((aj false) a0)] ((aj true) r)):=by
 induction n with
 | zero=>exact fun _ _ h=>by simp[icF_2] at h
 | succ n ih=>
  refine fun a0 r h=>?_
  obtain⟨h,cs⟩:=Ro_ h
  rw[icF_2] at h
  refine au 5 [.cell 2 41] Tryz.func64 (h:=S ?_)
  refine rb_ h fun v4 q h=>ai [false,false] (imP_3 (fun _ _ hh=>ih _ _ hh) (by simp only[COn_,COc_]) q) (S ?_)
  exact FHz_ h
theorem icF_1{a0:Ft}{r:Ft}(h:icF_ a0=some r):Sat ah 64 [((aj false) a0)] ((aj true) r):=by
 obtain⟨n,hn⟩:=ls_ h
 exact(icF_5 n) _ _ hn

theorem icN_3(n:Nat):(∀ (a0:Tt) (a1:ByteArray) (r:Int),icN_ n a0 a1=some r→Sat ah 196 [((am false) a0),(Sx a1)] (I r)):=by
 induction n with
 | zero=>exact fun _ _ _ h=>by simp[icN_] at h
 | succ n ih=>
  refine fun a0 a1 r h=>?_
  obtain⟨h,cs⟩:=Ro_ h
  rw[icN_] at h
  refine au 26 [.tmp 4] Tryz.func196 (h:=S ?_)
  refine ag cs h (fun cs h=>S ?_) fun cs h=>S ?_
  all_goals
   refine aN (b:=false) (sz:=2) (es:=a0.Args.map (am false)) 13 SC fun hl13=>?_; rw[aD] at hl13
   refine aI (rl_ h) (fun i5 s5=>[(1,.val (.pv (Sx a1))),(5,.val (.pv (I s5))),(13,.val (.pv (.sl false 2 (a0.Args.map (am false))))),(14,.val (.pv (I (a0.Args.length:Int)))),(15,.val (.pv (I (i5:Int))))]) (fun i5 s5=>[]) (Slm_ SC) (fun i5 s5 hi h=>?_) (fun s5 h=>?_)
   ·have w:=ws_ i5
    refine S ?_
    refine aG cs fun cs=>S ?_
    refine rb_ h fun v17 q h=>aq (am false) q (S ?_)
    refine rb_ h fun v22 q h=>ai [false,false] (ih _ _ _ q) (S ?_)
    exact aJ h
   ·refine S ?_
    refine aH cs fun cs=>S ?_
    exact FHz_ h
theorem icN_4{a0:Tt}{a1:ByteArray}{r:Int}(h:icN_2 a0 a1=some r):Sat ah 196 [((am false) a0),(Sx a1)] (I r):=by
 obtain⟨n,hn⟩:=ls_ h
 exact(icN_3 n) _ _ _ hn

theorem ios_{a0:ByteArray}{a1:Tt}  {r:Bool}(h:io_ a0 a1=some r):Sat ah 189 [(Sx a0),((am false) a1)] (B r):=by
 obtain⟨h,cs⟩:=Ro_ h
 unfold io_ at h
 refine au 9 [.tmp 4] Tryz.func189 (h:=S ?_)
 refine rb_ h fun v7 q h=>ai [false,false] (icN_4 q) (S ?_)
 exact FHz_ h

theorem ciN_1{a0:ByteArray}  {r:Bool}(h:ciN_ a0=some r):Sat ah 219 [(Sx a0)] (B r):=by
 obtain⟨h,cs⟩:=Ro_ h
 unfold ciN_ at h
 refine au 6 [.tmp 2] Tryz.func219 (h:=S ?_)
 exact FHz_ h

theorem cCs_1{a0:ByteArray}{a1:ByteArray}  {r:Int}(h:cCs_ a0 a1=some r):Sat ah 212 [(Sx a0),(Sx a1)] (I r):=by
 obtain⟨h,cs⟩:=Ro_ h
 unfold cCs_ at h
 refine au 20 [.tmp 4] Tryz.func212 (h:=S ?_)
 refine rb_ h fun v8 q h=>ai [false] (ciN_1 q) (S ?_)
 refine rb_ h fun v10 q h=>ai [false] (ciN_1 q) (S ?_)
 refine ag cs h (fun cs h=>S ?_) fun cs h=>S ?_
 refine ag cs h (fun cs h=>S ?_) fun cs h=>S ?_
 rotate_left 2
 refine ag cs h (fun cs h=>S ?_) fun cs h=>S ?_
 rotate_left
 refine ag cs h (fun cs h=>S ?_) fun cs h=>S ?_
 rotate_left
 refine ag cs h (fun cs h=>S ?_) fun cs h=>S ?_
 all_goals
  exact FHz_ h

theorem iSt_2{a0:Bt}{a1:ByteArray}  {r:Int}(h:iSt_ a0 a1=some r):Sat ah 211 [((Bt.pv false) a0),(Sx a1)] (I r):=by
 obtain⟨h,cs⟩:=Ro_ h
 unfold iSt_ at h
 refine au 9 [.tmp 4] Tryz.func211 (h:=S ?_)
 refine rb_ h fun v8 q h=>ai [false,false] (cCs_1 q) (S ?_)
 exact FHz_ h

theorem sBS_1{a0:List Bt}{a1:ByteArray}{a2:Bt→ByteArray→Option Int}{a2_id:FuncId}{a2_cs:List PV}(a2_ok:∀ y0 y1 r,a2 y0 y1=some r→Sat ah a2_id (((Bt.pv false) y0)::(Sx y1)::a2_cs) (I r))(a2_cz:CO_ a2_cs=True){r:Int×Bool}(h:sBS_ a0 a1 a2=some r):Sat ah 210 [(.sl false 3 (a0.map (Bt.pv false))),(Sx a1),.clo a2_id a2_cs] (.tup [(I r.1),(B r.2)]):=by
 obtain⟨h,cs⟩:=Ro_ h
 unfold sBS_ at h
 have cs:=ae a2_cz cs
 refine au 49 [.tmp 6,.tmp 7] Tryz.func210 (h:=S ?_)
 replace h:=rl_ h
 refine Mg.whileN h (fun s3=>[(0,.val (.pv (.sl false 3 (a0.map (Bt.pv false))))),(1,.val (.pv (Sx a1))),(2,.val (.pv (.clo a2_id a2_cs))),(8,.val (.pv (I (a0.length:Int)))),(9,.val (.pv (I s3.1))),(10,.val (.pv (I s3.2)))]) (fun s3=>[]) (Slm_ SC) (fun n3 s3 h=>?_)
 refine S ?_
 refine ag cs h (fun cs h=>S ?_) fun cs h=>S ?_
 ·refine rb_ h fun v22 q h=>ShrH.mk q (S ?_)
  refine rb_ h fun v27 q h=>aq (Bt.pv false) q (S ?_)
  refine rb_ h fun v30 q h=>ai [false,false] (a2_ok _ _ _ q) (S ?_)
  refine ag cs h (fun cs h=>S ?_) fun cs h=>S ?_
  all_goals
   have h:=rs_ h
   refine RdH.mk ⟨_,h,?_⟩
   exact Slm_ SC
 ·have h:=rs_ h
  refine ag cs h (fun cs h=>S ?_) fun cs h=>S ?_
  ·refine rb_ h fun v43 q h=>aq (Bt.pv false) q (S ?_)
   refine rb_ h fun v46 q h=>ai [false,false] (a2_ok _ _ _ q) (S ?_)
   exact FHz_ h
  ·exact FHz_ h

theorem iSt_3{a0:Sb}{a1:ByteArray}  {r:Tt×Bool}(h:iSt_1 a0 a1=some r):Sat ah 197 [((Sb.pv false) a0),(Sx a1)] (.tup [((am false) r.1),(B r.2)]):=by
 obtain⟨h,cs⟩:=Ro_ h
 unfold iSt_1 at h
 refine au 24 [.cell 4 39,.tmp 5] Tryz.func197 (h:=S ?_)
 refine rb_ h fun v12 q h=>ai [false,false,false] (sBS_1 (fun _ _ _ hh=>iSt_2 hh) (by simp only[COn_,COc_]) q) (S ?_)
 refine ag cs h (fun cs h=>S ?_) fun cs h=>S ?_
 ·refine rb_ h fun v21 q h=>aq (Bt.pv false) q (S ?_)
  exact FHz_1 h
 ·exact FHz_1 h

theorem iSa_2(n:Nat):(∀ (a0:Sb) (a1:Tt) (r:Tt),iSa_ n a0 a1=some r→Sat ah 191 [((Sb.pv false) a0),((am false) a1)] ((am true) r)):=by
 induction n with
 | zero=>exact fun _ _ _ h=>by simp[iSa_] at h
 | succ n ih=>
  refine fun a0 a1 r h=>?_
  obtain⟨h,cs⟩:=Ro_ h
  rw[iSa_] at h
  refine au 51 [.cell 4 39] Tryz.func191 (h:=S ?_)
  refine ag cs h (fun cs h=>S ?_) fun cs h=>S ?_
  ·refine rb_ h fun v18 q h=>ai [false,false] (iSt_3 q) (S ?_)
   refine ag cs h (fun cs h=>S ?_) fun cs h=>S ?_
   ·refine rb_ h fun v23 q h=>ai [false] (icT_3 q) (S ?_)
    exact FHz_ h
   ·exact FHz_ h
  ·refine rb_ h fun n32 q h=>MknH.mk q (S ?_)
   refine ae (DHa_ [7] [512]) (S ?_)
   refine aN (b:=false) (sz:=2) (es:=a1.Args.map (am false)) 11 SC fun hl11=>?_; rw[aD] at hl11
   refine aI (rl_ h) (fun i8 s8=>[(2,.box (.pv ((Sb.pv false) a0))),(4,.box zab2),(7,.box (.node [(.pv (Sx a1.Name)),(.own 512)])),(35,.val (.pv (.sl false 2 (a1.Args.map (am false))))),(36,.val (.pv (I (a1.Args.length:Int)))),(37,.val (.pv (I (i8:Int))))]) (fun i8 s8=>[(512,(2,s8.map (am true)))]) (Slm_ SC) (fun i8 s8 hi h=>?_) (fun s8 h=>?_)
   ·have w:=ws_ i8
    refine S ?_
    refine aG cs fun cs=>S ?_
    refine rb_ h fun v40 q h=>aq (am false) q (S ?_)
    refine rb_ h fun v47 q h=>ai [false,false] (ih _ _ _ q) (S ?_)
    refine rb_ h fun v48 q h=>aq (am true) q (S ?_)
    refine rb_ h fun w4 q h=>EldH.c (am true) q (S ?_)
    refine ae (DHa_ [] [752]) (S ?_)
    exact aJ h
   ·refine S ?_
    refine aH cs fun cs=>S ?_
    exact FHz_ h
theorem iSa_3{a0:Sb}{a1:Tt}{r:Tt}(h:iSa_1 a0 a1=some r):Sat ah 191 [((Sb.pv false) a0),((am false) a1)] ((am true) r):=by
 obtain⟨n,hn⟩:=ls_ h
 exact(iSa_2 n) _ _ _ hn

theorem imP_1{a0:Ft}{a1:Ft→Bool→Option (Ft×Bool)}{a1_s:Bool}{a1_id:FuncId}{a1_pat:List Bool}{a1_ps a1_p1 a1_p2:List PV}(a1_ok:∀ y0 s r,a1 y0 s=some r→SatH ah a1_id (((aj false) y0)::a1_p1) a1_p2 .ptr [] (.pv (B s)) (.pv (B r.2)) ((aj true) r.1))(a1_sp:sP_ a1_pat a1_ps=some (a1_p1,a1_p2))(a1_cz:CO_ a1_ps){r:Ft×Bool}(h:imP_ a0 a1 a1_s=some r):SatH ah 78 [((aj false) a0)] [] (.clo a1_id a1_pat) a1_ps (.pv (B a1_s)) (.pv (B r.2)) ((aj true) r.1):=by
 obtain⟨h,cs⟩:=Ro_ h
 unfold imP_ at h
 refine SHo_ (nt:=33) (rs:=[.cell 4 41]) (n:=100000) 1 Tryz.func78 rfl rfl rfl rfl rfl (Nat.le_of_ble_eq_true rfl) (by decide) (by first | exact Nat.le_of_ble_eq_true rfl | exact SC) (S ?_)
 refine rb_ h fun v12 q h=>ai [false] (icT_3 q) (S ?_)
 refine ae (DHa_ [5] [192]) (S ?_)
 refine aN (b:=false) (sz:=5) (es:=a0.Parts.map (aj false)) 17 SC fun hl17=>?_; rw[aD] at hl17
 refine aI (rl_ h) (fun i3 s3=>[(1,.hold (.clo a1_id a1_pat) a1_ps (.cv (.pv (B s3.1)))),(4,.box zab1),(5,.box (.node [(.pv (I a0.Op)),(.node [(.pv (Sx v12.Name)),(.own 192)]),(.pv (Sx a0.Var)),(.own 9309)])),(17,.val (.pv (.sl false 5 (a0.Parts.map (aj false))))),(18,.val (.pv (I (a0.Parts.length:Int)))),(19,.val (.pv (I (i3:Int)))),(20000,gh 1)]) (fun i3 s3=>[(192,(2,v12.Args.map (am true))),(9309,(5,s3.2.map (aj true)))]) (bt (Sln_ (x:=(.node [(.pv (I a0.Op)),(.node [(.pv (Sx v12.Name)),(.own 192)]),(.pv (Sx a0.Var)),(.pv (.sl true 5 []))])) 5 [3] 9309 5 NM SC SC SC) (Slm_ SC)) (fun i3 s3 hi h=>?_) (fun s3 h=>?_)
 ·have w:=ws_ i3
  refine S ?_
  refine aG cs fun cs=>S ?_
  refine rb_ h fun v21 q h=>aq (aj false) q (S ?_)
  obtain⟨v27,hv27,h⟩:=rb_1 h
  refine HHc_ (r:=1) (hc:=.cv (.pv (B s3.1))) (pre:=[((aj false) v21)]) a1_pat a1_ps a1_p1 a1_p2 [(.pv ((aj false) v21))] [false] (a1_ok _ _ _ hv27) a1_sp a1_cz SC (S ?_)
  refine rb_ h fun v29 q h=>aS (aj true) (fun a=>Ft.psize _ a) q (S ?_)
  refine ae (DHa_ [] [432,433,448,464]) (S ?_)
  have h:=rs_ h
  refine RdH.mk ⟨_,h,?_⟩
  refine Slr_ 464 9309 ?_
  exact Slm_ SWx
 ·refine S ?_
  refine aH cs fun cs=>S ?_
  cases rs_ h
  exact RetHB.l SC

theorem isN_2(n:Nat):(∀ (a0:Ft) (a1:ByteArray) (a2:Tt) (r:Ft×Bool),isN_ n a0 a1 a2=some r→Sat ah 185 [((aj false) a0),(Sx a1),((am false) a2)] (.tup [((aj true) r.1),(B r.2)]))∧(∀ (a0:Ft) (b0:ByteArray) (b1:Tt) (b2:Bool) (r:Ft×Bool),is1_ n a0 b0 b1 b2=some r→SatH ah 190 [((aj false) a0),.ptr (Sx b0),.ptr ((am false) b1)] [] .ptr [] (.pv (B b2)) (.pv (B r.2)) ((aj true) r.1)):=by
 induction n with
 | zero=>exact⟨fun _ _ _ _ h=>by simp[isN_] at h,fun _ _ _ _ _ h=>by simp[is1_] at h⟩
 | succ n ih=>
  refine⟨fun a0 a1 a2 r h=>?_,fun a0 b0 b1 b2 r h=>?_⟩
  ·obtain⟨h,cs⟩:=Ro_ h
   rw[isN_] at h
   refine au 55 [.cell 6 41,.tmp 7] Tryz.func185 (h:=S ?_)
   refine rb_ h fun v12 q h=>ai [false] (iiQ_1 q) (S ?_)
   refine ag cs h (fun cs h=>S ?_) fun cs h=>S ?_
   refine ag cs h (fun cs h=>S ?_) fun cs h=>S ?_
   rotate_left
   refine rb_ h fun v20 q h=>ai [false] (ifs_ q) (S ?_)
   refine rb_ h fun v22 q h=>ai [false,false] (sCS_2 q) (S ?_)
   refine ae (DHa_ [] [320]) (S ?_)
   refine ag cs h (fun cs h=>S ?_) fun cs h=>S ?_
   refine rb_ h fun v30 q h=>ai [false] (iiQ_1 q) (S ?_)
   refine ag cs h (fun cs h=>S ?_) fun cs h=>S ?_
   refine rb_ h fun v35 q h=>ai [false,false] (ios_ q) (S ?_)
   refine ag cs h (fun cs h=>S ?_) fun cs h=>S ?_
   rotate_left
   refine MfH.hcl (r:=8) (x:=(.pv (B true))) [.tmp 4,.tmp 5] [] [(4,(Sx a1)),(5,((am false) a2))] [false,false,true] [(.ptr (Sx a1)),(.ptr ((am false) a2))] rfl rfl rfl SC (S ?_)
   obtain⟨v40,hv40,h⟩:=rb_1 h
   refine HandH.call (r:=8) (hc:=.cv (.pv (B true))) 1 [_] [] [(.pv ((aj false) a0))] [] [false] (imP_1 (a1_id:=190) (a1_pat:=[false,false,true]) (a1_ps:=[(.ptr (Sx a1)),(.ptr ((am false) a2))]) (a1_p1:=[(.ptr (Sx a1)),(.ptr ((am false) a2))]) (a1_p2:=[]) (a1_ok:=fun _ _ _ hh=>ih.2 _ _ _ _ _ hh) (a1_sp:=rfl) (a1_cz:=by simp only[COn_,COc_]) hv40) rfl rfl rfl SC (S ?_)
   refine ag cs h (fun cs h=>S ?_) fun cs h=>S ?_
   rotate_left 2
   refine MfH.hcl (r:=8) (x:=(.pv (B true))) [.tmp 4,.tmp 5] [] [(4,(Sx a1)),(5,((am false) a2))] [false,false,true] [(.ptr (Sx a1)),(.ptr ((am false) a2))] rfl rfl rfl SC (S ?_)
   obtain⟨v40,hv40,h⟩:=rb_1 h
   refine HandH.call (r:=8) (hc:=.cv (.pv (B true))) 1 [_] [] [(.pv ((aj false) a0))] [] [false] (imP_1 (a1_id:=190) (a1_pat:=[false,false,true]) (a1_ps:=[(.ptr (Sx a1)),(.ptr ((am false) a2))]) (a1_p1:=[(.ptr (Sx a1)),(.ptr ((am false) a2))]) (a1_p2:=[]) (a1_ok:=fun _ _ _ hh=>ih.2 _ _ _ _ _ hh) (a1_sp:=rfl) (a1_cz:=by simp only[COn_,COc_]) hv40) rfl rfl rfl SC (S ?_)
   refine ag cs h (fun cs h=>S ?_) fun cs h=>S ?_
   rotate_left 3
   refine ae (DHa_ [] []) (S ?_)
   refine rb_ h fun v30 q h=>ai [false] (iiQ_1 q) (S ?_)
   refine ag cs h (fun cs h=>S ?_) fun cs h=>S ?_
   refine rb_ h fun v35 q h=>ai [false,false] (ios_ q) (S ?_)
   refine ag cs h (fun cs h=>S ?_) fun cs h=>S ?_
   rotate_left
   refine MfH.hcl (r:=8) (x:=(.pv (B true))) [.tmp 4,.tmp 5] [] [(4,(Sx a1)),(5,((am false) a2))] [false,false,true] [(.ptr (Sx a1)),(.ptr ((am false) a2))] rfl rfl rfl SC (S ?_)
   obtain⟨v40,hv40,h⟩:=rb_1 h
   refine HandH.call (r:=8) (hc:=.cv (.pv (B true))) 1 [_] [] [(.pv ((aj false) a0))] [] [false] (imP_1 (a1_id:=190) (a1_pat:=[false,false,true]) (a1_ps:=[(.ptr (Sx a1)),(.ptr ((am false) a2))]) (a1_p1:=[(.ptr (Sx a1)),(.ptr ((am false) a2))]) (a1_p2:=[]) (a1_ok:=fun _ _ _ hh=>ih.2 _ _ _ _ _ hh) (a1_sp:=rfl) (a1_cz:=by simp only[COn_,COc_]) hv40) rfl rfl rfl SC (S ?_)
   refine ag cs h (fun cs h=>S ?_) fun cs h=>S ?_
   rotate_left 2
   refine MfH.hcl (r:=8) (x:=(.pv (B true))) [.tmp 4,.tmp 5] [] [(4,(Sx a1)),(5,((am false) a2))] [false,false,true] [(.ptr (Sx a1)),(.ptr ((am false) a2))] rfl rfl rfl SC (S ?_)
   obtain⟨v40,hv40,h⟩:=rb_1 h
   refine HandH.call (r:=8) (hc:=.cv (.pv (B true))) 1 [_] [] [(.pv ((aj false) a0))] [] [false] (imP_1 (a1_id:=190) (a1_pat:=[false,false,true]) (a1_ps:=[(.ptr (Sx a1)),(.ptr ((am false) a2))]) (a1_p1:=[(.ptr (Sx a1)),(.ptr ((am false) a2))]) (a1_p2:=[]) (a1_ok:=fun _ _ _ hh=>ih.2 _ _ _ _ _ hh) (a1_sp:=rfl) (a1_cz:=by simp only[COn_,COc_]) hv40) rfl rfl rfl SC (S ?_)
   refine ag cs h (fun cs h=>S ?_) fun cs h=>S ?_
   rotate_left
   ·refine ae (DHa_ [] []) (S ?_)
    exact FHz_ h
   ·refine ae (DHa_ [] []) (S ?_)
    refine rb_ h fun v27 q h=>ai [false] (icF_1 q) (S ?_)
    exact FHz_ h
   ·exact FHz_ h
   rotate_left
   ·refine ae (DHa_ [] []) (S ?_)
    exact FHz_ h
   rotate_left
   ·refine ae (DHa_ [] []) (S ?_)
    exact FHz_ h
   ·refine rb_ h fun v27 q h=>ai [false] (icF_1 q) (S ?_)
    exact FHz_ h
   ·exact FHz_ h
   rotate_left
   ·refine ae (DHa_ [] []) (S ?_)
    exact FHz_ h
   all_goals
    refine rb_ h fun v51 q h=>ai [false,false] (iSa_3 q) (S ?_)
    refine ae (DHa_ [] []) (S ?_)
    exact FHz_ h
  ·obtain⟨h,cs⟩:=Ro_ h
   rw[is1_] at h
   refine SHo_ (nt:=20) (rs:=[.cell 5 41]) (n:=100000) 3 Tryz.func190 rfl rfl rfl rfl rfl (Nat.le_of_ble_eq_true rfl) (by decide) (by first | exact Nat.le_of_ble_eq_true rfl | exact SC) (S ?_)
   refine rb_ h fun v12 q h=>ai [false,false,false] (ih.1 _ _ _ _ q) (S ?_)
   refine ag cs h (fun cs h=>S ?_) fun cs h=>S ?_
   all_goals
    cases rs_ h
    exact RetHB.l SC
theorem iss_{a0:Ft}{a1:ByteArray}{a2:Tt}{r:Ft×Bool}(h:is_ a0 a1 a2=some r):Sat ah 185 [((aj false) a0),(Sx a1),((am false) a2)] (.tup [((aj true) r.1),(B r.2)]):=by
 obtain⟨n,hn⟩:=ls_ h
 exact(isN_2 n).1 _ _ _ _ hn
theorem is1_2{a0:Ft}{b0:ByteArray}{b1:Tt}{b2:Bool}{r:Ft×Bool}(h:is1_1 a0 b0 b1 b2=some r):SatH ah 190 [((aj false) a0),.ptr (Sx b0),.ptr ((am false) b1)] [] .ptr [] (.pv (B b2)) (.pv (B r.2)) ((aj true) r.1):=by
 obtain⟨n,hn⟩:=ls_ h
 exact(isN_2 n).2 _ _ _ _ _ hn

theorem iiF_6{a0:Ft}  {r:Ft×Bool}(h:iiF_1 a0=some r):Sat ah 186 [((aj false) a0)] (.tup [((aj false) r.1),(B r.2)]):=by
 obtain⟨h,cs⟩:=Ro_ h
 unfold iiF_1 at h
 refine au 9 [.cell 2 41,.tmp 3] Tryz.func186 (h:=S ?_)
 refine rb_ h fun v5 q h=>ai [false] (iIV_4 q) (S ?_)
 refine ag cs h (fun cs h=>S ?_) fun cs h=>S ?_
 ·exact FHz_1 h
 ·exact FHz_1 h

theorem iiF_4{a0:Ft}  {r:Ft×Bool}(h:iiF_1 a0=some r):Sat ah 186 [((aj true) a0)] (.tup [((aj true) r.1),(B r.2)]):=by
 obtain⟨h,cs⟩:=Ro_ h
 unfold iiF_1 at h
 refine au 9 [.cell 2 41,.tmp 3] Tryz.func186 (h:=S ?_)
 refine rb_ h fun v5 q h=>ai [false] (iIV_4 q) (S ?_)
 refine ag cs h (fun cs h=>S ?_) fun cs h=>S ?_
 ·exact FHz_ h
 ·exact FHz_ h

theorem iSF_1{a0:Ft}{a1:ByteArray}{a2:Tt}  {r:Ft×Bool}(h:iSF_ a0 a1 a2=some r):Sat ah 179 [((aj false) a0),(Sx a1),((am false) a2)] (.tup [((aj true) r.1),(B r.2)]):=by
 obtain⟨h,cs⟩:=Ro_ h
 unfold iSF_ at h
 refine au 38 [.cell 6 41,.tmp 7] Tryz.func179 (h:=S ?_)
 refine rb_ h fun v11 q h=>ai [false] (iIV_4 q) (S ?_)
 refine ag cs h (fun cs h=>S ?_) fun cs h=>S ?_
 refine rb_ h fun v15 q h=>ai [false] (iiV_1 q) (S ?_)
 refine ag cs h (fun cs h=>S ?_) fun cs h=>S ?_
 refine rb_ h fun v20 q h=>ai [false] (iIV_11 q) (S ?_)
 refine ag cs h (fun cs h=>S ?_) fun cs h=>S ?_
 refine rb_ h fun v28 q h=>ai [false,false,false] (iss_ q) (S ?_)
 refine ag cs h (fun cs h=>S ?_) fun cs h=>S ?_
 ·refine rb_ h fun v35 q h=>ai [true] (iiF_4 q) (S ?_)
  exact FHz_ h
 all_goals
  exact FHz_ h

theorem iis_{a0:Sa}{a1:Dt}{a2:Ft}  {r:(List Sa)×Bool}(h:ii_ a0 a1 a2=some r):Sat ah 160 [((aL false) a0),((al false) a1),((aj false) a2)] (.tup [(.sl true 2 (r.1.map (aL true))),(B r.2)]):=by
 obtain⟨h,cs⟩:=Ro_ h
 unfold ii_ at h
 refine au 59 [.tmp 6,.tmp 7] Tryz.func160 (h:=S ?_)
 refine rb_ h fun v14 q h=>ai [false] (imR_1 q) (S ?_)
 refine ag cs h (fun cs h=>S ?_) fun cs h=>S ?_
 refine rb_ h fun v33 q h=>aq (aj false) q (S ?_)
 refine rb_ h fun v39 q h=>ai [false,false,false] (iSF_1 q) (S ?_)
 refine ae (DHa_ [8] [624,625]) (S ?_)
 refine ag cs h (fun cs h=>S ?_) fun cs h=>S ?_
 refine rb_ h fun v47 q h=>ai [false] (imO_1 q) (S ?_)
 refine ag cs h (fun cs h=>S ?_) fun cs h=>S ?_
 rotate_left 3
 refine rb_ h fun v20 q h=>ai [false] (iiV_1 q) (S ?_)
 refine ag cs h (fun cs h=>S ?_) fun cs h=>S ?_
 refine rb_ h fun v27 q h=>ai [false,false] (iiF_5 q) (S ?_)
 refine ag cs h (fun cs h=>S ?_) fun cs h=>S ?_
 rotate_left
 refine rb_ h fun v33 q h=>aq (aj false) q (S ?_)
 refine rb_ h fun v39 q h=>ai [false,false,false] (iSF_1 q) (S ?_)
 refine ae (DHa_ [8] [624,625]) (S ?_)
 refine ag cs h (fun cs h=>S ?_) fun cs h=>S ?_
 refine rb_ h fun v47 q h=>ai [false] (imO_1 q) (S ?_)
 refine ag cs h (fun cs h=>S ?_) fun cs h=>S ?_
 all_goals
  exact FHz_ h

theorem ia1_1{a0:Int}{b0:Ft}  {r:List Ft}(h:ia1_ a0 b0=some r):Sat ah 161 [(I a0),.ptr ((aj false) b0)] (.sl true 5 (r.map (aj false))):=by
 obtain⟨h,cs⟩:=Ro_ h
 unfold ia1_ at h
 refine au 10 [.tmp 3] Tryz.func161 (h:=S ?_)
 refine rb_ h fun v7 q h=>aq (aj false) q (S ?_)
 exact FHz_ h

theorem ia2_1{a0:Ft}{b0:Ft}  {r:Bool}(h:ia2_ a0 b0=some r):Sat ah 162 [((aj false) a0),.ptr ((aj false) b0)] (B r):=by
 obtain⟨h,cs⟩:=Ro_ h
 unfold ia2_ at h
 refine au 7 [.tmp 3] Tryz.func162 (h:=S ?_)
 refine rb_ h fun v6 q h=>ai [false,false] (isF_3 q) (S ?_)
 exact FHz_ h

theorem ias_{a0:Sa}{a1:Dt}  {r:(List Sa)×Bool}(h:ia_ a0 a1=some r):Sat ah 136 [((aL false) a0),((al false) a1)] (.tup [(.sl false 2 (r.1.map (aL false))),(B r.2)]):=by
 obtain⟨h,cs⟩:=Ro_ h
 unfold ia_ at h
 refine au 147 [.tmp 4,.tmp 5] Tryz.func136 (h:=SB ?_)
 refine ag cs h (fun cs h=>SB ?_) fun cs h=>SB ?_
 refine ag cs h (fun cs h=>SB ?_) fun cs h=>SB ?_
 refine rb_ h fun v18 q h=>ai [false] (iiZ_ q) (SB ?_)
 refine ag cs h (fun cs h=>SB ?_) fun cs h=>SB ?_
 refine rb_ h fun v24 q h=>ai [false] (iIV_4 q) (SB ?_)
 refine ag cs h (fun cs h=>SB ?_) fun cs h=>SB ?_
 rotate_left 4
 refine rb_ h fun v38 q h=>ai [false,false,false] (iws_ q) (SB ?_)
 refine ag cs h (fun cs h=>SB ?_) fun cs h=>SB ?_
 refine rb_ h fun v44 q h=>ai [false,false] (isF_3 q) (SB ?_)
 refine ag cs h (fun cs h=>SB ?_) fun cs h=>SB ?_
 refine rb_ h fun v50 q h=>ai [false] (iiQ_3 q) (SB ?_)
 refine rb_ h fun v53 q h=>ai [false] (iiZ_ q) (SB ?_)
 refine ae (DHa_ [] []) (SB ?_)
 refine ag cs h (fun cs h=>SB ?_) fun cs h=>SB ?_
 refine rb_ h fun v60 q h=>ai [false,false] (imF_1 q) (SB ?_)
 refine ag cs h (fun cs h=>SB ?_) fun cs h=>SB ?_
 refine rb_ h fun v67 q h=>ai [false] (iiQ_3 q) (SB ?_)
 refine ag cs h (fun cs h=>SB ?_) fun cs h=>SB ?_
 rotate_left
 refine MfH.fr (SB ?_)
 refine ag cs h (fun cs h=>SB ?_) fun cs h=>SB ?_
 refine ag cs h (fun cs h=>SB ?_) fun cs h=>SB ?_
 rotate_left 2
 refine ag cs h (fun cs h=>SB ?_) fun cs h=>SB ?_
 rotate_left
 refine ag cs h (fun cs h=>SB ?_) fun cs h=>SB ?_
 rotate_left
 refine ag cs h (fun cs h=>SB ?_) fun cs h=>SB ?_
 rotate_left
 refine ag cs h (fun cs h=>SB ?_) fun cs h=>SB ?_
 rotate_left
 refine ag cs h (fun cs h=>SB ?_) fun cs h=>SB ?_
 rotate_left
 refine ag cs h (fun cs h=>SB ?_) fun cs h=>SB ?_
 rotate_left
 refine ag cs h (fun cs h=>SB ?_) fun cs h=>SB ?_
 rotate_left
 refine ag cs h (fun cs h=>SB ?_) fun cs h=>SB ?_
 ·refine rb_ h fun v135 q h=>ai [false] (SvO_ (res':=(.sl false 5 (v135.map (aj false)))) (ia1_1 q) (by simp only[vt_,vs_,va_,vl_,aB,RB,RS])) (SB ?_)
  refine rb_ h fun v138 q h=>ai [false] (SvO_ (res':=(.sl false 5 (v138.map (aj false)))) (ia1_1 q) (by simp only[vt_,vs_,va_,vl_,aB,RB,RS])) (SB ?_)
  refine OrR.l (SB ?_)
  exact FHz_1 h
 ·refine rb_ h fun v142 q h=>ai [false] (SvO_ (res':=(.sl false 5 (v142.map (aj false)))) (ia1_1 q) (by simp only[vt_,vs_,va_,vl_,aB,RB,RS])) (SB ?_)
  refine rb_ h fun v144 q h=>ai [false] (SvO_ (res':=(.sl false 5 (v144.map (aj false)))) (ia1_1 q) (by simp only[vt_,vs_,va_,vl_,aB,RB,RS])) (SB ?_)
  refine OrR.l (SB ?_)
  exact FHz_1 h
 rotate_left 2
 ·refine ae (DHa_ [] []) (SB ?_)
  exact FHz_1 h
 ·refine ae (DHa_ [] []) (SB ?_)
  exact FHz_1 h
 ·refine OrR.v [((aj false) a1.Cut)] (SB ?_)
  refine OrR.v [((aj false) a1.Cut)] (SB ?_)
  refine OrR.l (SB ?_)
  exact FHz_1 h
 rotate_left 3
 ·refine rb_ h fun v71 q h=>ai [false,false,false] (iis_ q) (SB ?_)
  exact FHz_1 h
 rotate_left
 ·refine MfH.fr (SB ?_)
  refine rb_ h fun v86 q h=>ai [false,false] (sCF_1 (fun _ _ hh=>ia2_1 hh) (by simp only[COn_,COc_]) q) (SB ?_)
  exact FHz_1 h
 rotate_left
 ·refine rb_ h fun v93 q h=>ai [false] (SvO_ (res':=(.sl false 5 (v93.map (aj false)))) (ia1_1 q) (by simp only[vt_,vs_,va_,vl_,aB,RB,RS])) (SB ?_)
  refine OrR.l (SB ?_)
  exact FHz_1 h
 ·refine rb_ h fun v99 q h=>ai [false] (SvO_ (res':=(.sl false 5 (v99.map (aj false)))) (ia1_1 q) (by simp only[vt_,vs_,va_,vl_,aB,RB,RS])) (SB ?_)
  refine OrR.l (SB ?_)
  exact FHz_1 h
 ·refine OrR.l (SB ?_)
  exact FHz_1 h
 ·refine rb_ h fun v111 q h=>ai [false] (SvO_ (res':=(.sl false 5 (v111.map (aj false)))) (ia1_1 q) (by simp only[vt_,vs_,va_,vl_,aB,RB,RS])) (SB ?_)
  refine rb_ h fun v114 q h=>ai [false] (SvO_ (res':=(.sl false 5 (v114.map (aj false)))) (ia1_1 q) (by simp only[vt_,vs_,va_,vl_,aB,RB,RS])) (SB ?_)
  refine OrR.l (SB ?_)
  exact FHz_1 h
 ·refine rb_ h fun v120 q h=>ai [false] (SvO_ (res':=(.sl false 5 (v120.map (aj false)))) (ia1_1 q) (by simp only[vt_,vs_,va_,vl_,aB,RB,RS])) (SB ?_)
  refine rb_ h fun v123 q h=>ai [false] (SvO_ (res':=(.sl false 5 (v123.map (aj false)))) (ia1_1 q) (by simp only[vt_,vs_,va_,vl_,aB,RB,RS])) (SB ?_)
  refine OrR.l (SB ?_)
  exact FHz_1 h
 ·refine OrR.l (SB ?_)
  exact FHz_1 h
 all_goals
  exact FHz_1 h

theorem iDr_2{a0:Dt}{a1:Bool}{a2:Int}  {r:Bool}(h:iDr_ a0 a1 a2=some r):Sat ah 107 [((al false) a0),(B a1),(I a2)] (B r):=by
 obtain⟨h,cs⟩:=Ro_ h
 unfold iDr_ at h
 refine au 32 [.tmp 6] Tryz.func107 (h:=S ?_)
 refine ag cs h (fun cs h=>S ?_) fun cs h=>S ?_
 rotate_left
 refine rb_ h fun v15 q h=>ai [false] (imR_1 q) (S ?_)
 refine ag cs h (fun cs h=>S ?_) fun cs h=>S ?_
 rotate_left
 refine rb_ h fun v20 q h=>ai [false] (imO_1 q) (S ?_)
 refine ag cs h (fun cs h=>S ?_) fun cs h=>S ?_
 all_goals
  exact FHz_ h

theorem iDr_3{a0:Dt}{a1:List Ft}{a2:Bool}  {r:List Ft}(h:iDr_1 a0 a1 a2=some r):Sat ah 138 [((al false) a0),(.sl false 5 (a1.map (aj false))),(B a2)] (.sl true 5 (r.map (aj false))):=by
 obtain⟨h,cs⟩:=Ro_ h
 unfold iDr_1 at h
 refine au 29 [.tmp 6] Tryz.func138 (h:=S ?_)
 refine aN (b:=false) (sz:=5) (es:=a1.map (aj false)) 1 SC fun hl1=>?_; rw[aD] at hl1
 refine aI (rl_ h) (fun i3 s3=>[(2,.val (.pv (B a2))),(3,.box (.pv ((al false) a0))),(7,.val (.own 160)),(11,.val (.pv (.sl false 5 (a1.map (aj false))))),(12,.val (.pv (I (a1.length:Int)))),(13,.val (.pv (I (i3:Int))))]) (fun i3 s3=>[(160,(5,s3.map (aj false)))]) (Slm_ SC) (fun i3 s3 hi h=>?_) (fun s3 h=>?_)
 ·have w:=ws_ i3
  refine S ?_
  refine aG cs fun cs=>S ?_
  refine rb_ h fun v16 q h=>aq (aj false) q (S ?_)
  refine rb_ h fun v21 q h=>ai [false,false,false] (iDr_2 q) (S ?_)
  refine ag cs h (fun cs h=>S ?_) fun cs h=>S ?_
  ·exact aJ h
  ·refine rb_ h fun v26 q h=>aS (aj false) (fun a=>Ft.psize _ a) q (S ?_)
   have h:=rs_ h
   refine RdH.mk ⟨_,h,?_⟩
   refine Slr_ 416 160 ?_
   exact Slm_ SWx
 ·refine S ?_
  refine aH cs fun cs=>S ?_
  exact FHz_ h

theorem sGS_1{a1:Int}  {r:List Ft}(h:sGS_ a1=some r):Sat ah 163 [(.lit (.slice none 0 0)),(I a1)] (.sl true 5 (r.map (aj false))):=by
 obtain⟨h,cs⟩:=Ro_ h
 unfold sGS_ at h
 refine Son_ (sz:=5) (nt:=27) (rs:=[.tmp 4]) (n:=100000) Tryz.func163 rfl rfl rfl rfl (by simp) (S ?_)
 refine ag cs h (fun cs h=>S ?_) fun cs h=>S ?_
 ·exact rn_ h
 ·refine ag cs h (fun cs h=>S ?_) fun cs h=>S ?_
  ·refine rb_ h fun n22 q h=>AppzH.mk q (S ?_)
   obtain⟨v25,hv25,h⟩:=rb_1 h
   refine SlcOH.mk (f:=(aj true)) hv25 SC ?_
   obtain rfl:=sn_4 hv25
   refine S ?_
   refine S ?_
   exact FHz_ h
  ·exact FHz_ h

theorem sCS_4{a0:List (List Ft)}  {r:List Ft}(h:sCS_1 a0=some r):Sat ah 137 [(.sl false 1 (a0.map (Lv false 5 (aj false))))] (.sl true 5 (r.map (aj false))):=by
 obtain⟨h,cs⟩:=Ro_ h
 unfold sCS_1 at h
 refine au 36 [.tmp 2] Tryz.func137 (h:=S ?_)
 refine aN (b:=false) (sz:=1) (es:=a0.map (Lv false 5 (aj false))) 0 SC fun hl0=>?_; rw[aD] at hl0
 refine aI (rl_ h) (fun i3 s3=>[(0,.val (.pv (.sl false 1 (a0.map (Lv false 5 (aj false)))))),(3,.val (.pv (I s3))),(9,.val (.pv (.sl false 1 (a0.map (Lv false 5 (aj false)))))),(10,.val (.pv (I (a0.length:Int)))),(11,.val (.pv (I (i3:Int))))]) (fun i3 s3=>[]) (Slm_ SC) (fun i3 s3 hi h=>?_) (fun s3 h=>?_)
 ·have w:=ws_ i3
  refine S ?_
  refine aG cs fun cs=>S ?_
  refine rb_ h fun v13 q h=>IdxH.mk (f:=(Lv false 5 (aj false))) q SC (S ?_)
  refine ag cs h (fun cs h=>S ?_) fun cs h=>S ?_
  ·exact rn_ h
  ·exact aJ h
 ·refine S ?_
  refine aH cs fun cs=>S ?_
  refine rb_ h fun v24 q h=>CHn_ (h:=sGS_1 q) (by refine S ?_; exact NM) (S ?_)
  refine aN (b:=false) (sz:=1) (es:=a0.map (Lv false 5 (aj false))) 0 SC fun hl0=>?_; rw[aD] at hl0
  refine aI (rl_ h) (fun i11 s11=>[(6,.val (.own 384)),(25,.val (.pv (.sl false 1 (a0.map (Lv false 5 (aj false)))))),(26,.val (.pv (I (a0.length:Int)))),(27,.val (.pv (I (i11:Int))))]) (fun i11 s11=>[(384,(5,s11.map (aj false)))]) (Slm_ SC) (fun i11 s11 hi h=>?_) (fun s11 h=>?_)
  ·have w:=ws_ i11
   refine S ?_
   refine aG cs fun cs=>S ?_
   refine rb_ h fun v29 q h=>IdxH.mk (f:=(Lv false 5 (aj false))) q SC (S ?_)
   refine rb_ h fun v33 q h=>aS (aj false) (fun a=>Ft.psize _ a) q (S ?_)
   have h:=rs_ h
   refine RdH.mk ⟨_,h,?_⟩
   refine Slr_ 528 384 ?_
   exact Slm_ SWx
  ·refine S ?_
   exact FHz_ h

theorem icF_4{a0:List Ft}  {r:List Ft}(h:icF_3 a0=some r):Sat ah 76 [(.sl false 5 (a0.map (aj false)))] (.sl true 5 (r.map (aj true))):=by
 obtain⟨h,cs⟩:=Ro_ h
 unfold icF_3 at h
 refine au 20 [.tmp 2] Tryz.func76 (h:=S ?_)
 refine aN (b:=false) (sz:=5) (es:=a0.map (aj false)) 0 SC fun hl0=>?_; rw[aD] at hl0
 refine aI (rl_ h) (fun i3 s3=>[(3,.val (.own 96)),(7,.val (.pv (.sl false 5 (a0.map (aj false))))),(8,.val (.pv (I (a0.length:Int)))),(9,.val (.pv (I (i3:Int))))]) (fun i3 s3=>[(96,(5,s3.map (aj true)))]) (Slm_ SC) (fun i3 s3 hi h=>?_) (fun s3 h=>?_)
 ·have w:=ws_ i3
  refine S ?_
  refine aG cs fun cs=>S ?_
  refine rb_ h fun v11 q h=>aq (aj false) q (S ?_)
  refine rb_ h fun v15 q h=>ai [false] (icF_1 q) (S ?_)
  refine rb_ h fun v17 q h=>aS (aj true) (fun a=>Ft.psize _ a) q (S ?_)
  have h:=rs_ h
  refine RdH.mk ⟨_,h,?_⟩
  refine Slr_ 272 96 ?_
  exact Slm_ SWx
 ·refine S ?_
  refine aH cs fun cs=>S ?_
  exact FHz_ h

theorem icS_1{a0:Sa}  {r:Sa}(h:icS_ a0=some r):Sat ah 62 [((aL false) a0)] ((aL true) r):=by
 obtain⟨h,cs⟩:=Ro_ h
 unfold icS_ at h
 refine au 10 [.cell 2 36] Tryz.func62 (h:=S ?_)
 refine rb_ h fun v5 q h=>ai [false] (icF_4 q) (S ?_)
 refine rb_ h fun v8 q h=>ai [false] (icF_4 q) (S ?_)
 refine ae (DHa_ [] [80,128]) (S ?_)
 exact FHz_ h

theorem ips_{a0:Sa}{a1:Dt}  {r:(List Sa)×Bool}(h:ip_ a0 a1=some r):Sat ah 116 [((aL false) a0),((al false) a1)] (.tup [(.sl true 2 (r.1.map (aL true))),(B r.2)]):=by
 obtain⟨h,cs⟩:=Ro_ h
 unfold ip_ at h
 refine au 54 [.tmp 4,.tmp 5] Tryz.func116 (h:=S ?_)
 refine rb_ h fun v15 q h=>ai [false,false] (ias_ q) (S ?_)
 refine ag cs h (fun cs h=>S ?_) fun cs h=>S ?_
 ·refine aN (b:=false) (sz:=2) (es:=v15.1.map (aL false)) 6 SC fun hl6=>?_; rw[aD] at hl6
  refine aI (rl_ h) (fun i6 s6=>[(2,.box (.pv ((aL false) a0))),(3,.box (.pv ((al false) a1))),(8,.val (.own 320)),(21,.val (.pv (.sl false 2 (v15.1.map (aL false))))),(22,.val (.pv (I (v15.1.length:Int)))),(23,.val (.pv (I (i6:Int))))]) (fun i6 s6=>[(320,(2,s6.map (aL true)))]) (Slm_ SC) (fun i6 s6 hi h=>?_) (fun s6 h=>?_)
  ·have w:=ws_ i6
   refine S ?_
   refine aG cs fun cs=>S ?_
   refine rb_ h fun v25 q h=>aq (aL false) q (S ?_)
   refine rb_ h fun v30 q h=>ai [false,false,false] (SvO_ (res':=(.sl false 5 (v30.map (aj false)))) (iDr_3 q) (by simp only[vt_,vs_,va_,vl_,aB,RB,RS])) (S ?_)
   refine rb_ h fun v34 q h=>ai [true] (Sg_ (args:=[(.sl true 1 (([v30,v25.Left]).map (Lv false 5 (aj false))))]) [true] (by have gg:=sCS_4 q; simp only[gv_t,gv_f,gv_n,vs_,va_,vl_,vrB_,vrI_,aB,RB,RS] at gg ⊢; exact gg)) (S ?_)
   refine rb_ h fun v38 q h=>ai [false,false,false] (SvO_ (res':=(.sl false 5 (v38.map (aj false)))) (iDr_3 q) (by simp only[vt_,vs_,va_,vl_,aB,RB,RS])) (S ?_)
   refine rb_ h fun v42 q h=>ai [true] (Sg_ (args:=[(.sl true 1 (([v38,v25.Right]).map (Lv false 5 (aj false))))]) [true] (by have gg:=sCS_4 q; simp only[gv_t,gv_f,gv_n,vs_,va_,vl_,vrB_,vrI_,aB,RB,RS] at gg ⊢; exact gg)) (S ?_)
   refine rb_ h fun v44 q h=>ai [false] (icS_1 q) (S ?_)
   refine ae (DHa_ [11] [528,544,656,672,704,705]) (S ?_)
   refine rb_ h fun v46 q h=>ai [false] (iIV_10 q) (S ?_)
   refine ag cs h (fun cs h=>S ?_) fun cs h=>S ?_
   ·refine rb_ h fun v51 q h=>aS (aL true) (fun a=>Sa.psize _ a) q (S ?_)
    have h:=rs_ h
    refine RdH.mk ⟨_,h,?_⟩
    refine Slr_ 816 320 ?_
    exact Slm_ SWx
   ·exact FHz_ h
  ·refine S ?_
   refine aH cs fun cs=>S ?_
   exact FHz_ h
 ·exact FHz_ h

theorem iPO_1{a0:Sa}{a1:Dt}  {r:(List Sa)×Bool}(h:iPO_ a0 a1=some r):Sat ah 97 [((aL false) a0),((al false) a1)] (.tup [(.sl true 2 (r.1.map (aL true))),(B r.2)]):=by
 obtain⟨h,cs⟩:=Ro_ h
 unfold iPO_ at h
 refine au 14 [.tmp 4,.tmp 5] Tryz.func97 (h:=S ?_)
 refine rb_ h fun v7 q h=>ai [false] (iIV_10 q) (S ?_)
 refine ag cs h (fun cs h=>S ?_) fun cs h=>S ?_
 ·refine rb_ h fun v11 q h=>ai [false,false] (ips_ q) (S ?_)
  exact FHz_ h
 ·exact FHz_ h

theorem isF_4{a0:List Ft}{a1:List Ft}  {r:Bool}(h:isF_1 a0 a1=some r):Sat ah 117 [(.sl false 5 (a0.map (aj false))),(.sl false 5 (a1.map (aj false)))] (B r):=by
 obtain⟨h,cs⟩:=Ro_ h
 unfold isF_1 at h
 refine au 8 [.tmp 4] Tryz.func117 (h:=S ?_)
 refine rb_ h fun v7 q h=>ai [false,false,false] (sEF_3 (fun _ _ _ hh=>isF_3 hh) (by simp only[COn_,COc_]) q) (S ?_)
 exact FHz_ h

theorem isS_1{a0:Sa}{a1:Sa}  {r:Bool}(h:isS_ a0 a1=some r):Sat ah 100 [((aL false) a0),((aL false) a1)] (B r):=by
 obtain⟨h,cs⟩:=Ro_ h
 unfold isS_ at h
 refine au 17 [.tmp 4] Tryz.func100 (h:=S ?_)
 refine rb_ h fun v9 q h=>ai [false,false] (isF_4 q) (S ?_)
 refine ag cs h (fun cs h=>S ?_) fun cs h=>S ?_
 ·refine rb_ h fun v15 q h=>ai [false,false] (isF_4 q) (S ?_)
  exact FHz_ h
 ·exact FHz_ h

theorem iiR_2{a0:Sa}{a1:Dt}  {r:Bool}(h:iiR_ a0 a1=some r):Sat ah 99 [((aL false) a0),((al false) a1)] (B r):=by
 obtain⟨h,cs⟩:=Ro_ h
 unfold iiR_ at h
 refine au 9 [.tmp 4] Tryz.func99 (h:=S ?_)
 refine rb_ h fun v8 q h=>ai [false,false] (isS_1 q) (S ?_)
 exact FHz_ h

theorem sEF_4{a0:List Sa}{a1:List Dt}{a2:Sa→Dt→Option Bool}{a2_id:FuncId}{a2_cs:List PV}(a2_ok:∀ y0 y1 r,a2 y0 y1=some r→Sat ah a2_id (((aL false) y0)::((al false) y1)::a2_cs) (B r))(a2_cz:CO_ a2_cs=True){r:Bool}(h:sEF_1 a0 a1 a2=some r):Sat ah 98 [(.sl false 2 (a0.map (aL false))),(.sl false 12 (a1.map (al false))),.clo a2_id a2_cs] (B r):=by
 obtain⟨h,cs⟩:=Ro_ h
 unfold sEF_1 at h
 have cs:=ae a2_cz cs
 refine au 32 [.tmp 6] Tryz.func98 (h:=S ?_)
 refine ag cs h (fun cs h=>S ?_) fun cs h=>S ?_
 ·refine aN (b:=false) (sz:=2) (es:=a0.map (aL false)) 0 SC fun hl0=>?_; rw[aD] at hl0
  refine aI (rl_ h) (fun i4 s4=>[(1,.val (.pv (.sl false 12 (a1.map (al false))))),(2,.val (.pv (.clo a2_id a2_cs))),(15,.val (.pv (.sl false 2 (a0.map (aL false))))),(16,.val (.pv (I (a0.length:Int)))),(17,.val (.pv (I (i4:Int))))]) (fun i4 s4=>[]) (Slm_ SC) (fun i4 s4 hi h=>?_) (fun s4 h=>?_)
  ·have w:=ws_ i4
   refine S ?_
   refine aG cs fun cs=>S ?_
   refine rb_ h fun v20 q h=>aq (aL false) q (S ?_)
   refine rb_ h fun v24 q h=>aq (al false) q (S ?_)
   refine rb_ h fun v29 q h=>ai [false,false] (a2_ok _ _ _ q) (S ?_)
   refine ag cs h (fun cs h=>S ?_) fun cs h=>S ?_
   ·exact aJ h
   ·exact FHz_ h
  ·refine S ?_
   refine aH cs fun cs=>S ?_
   exact FHz_ h
 ·exact FHz_ h

theorem iiR_3{a0:Dt}  {r:Bool}(h:iiR_1 a0=some r):Sat ah 85 [((al false) a0)] (B r):=by
 obtain⟨h,cs⟩:=Ro_ h
 unfold iiR_1 at h
 refine au 19 [.tmp 2] Tryz.func85 (h:=S ?_)
 refine rb_ h fun v9 q h=>ai [false,false] (iPO_1 q) (S ?_)
 refine ag cs h (fun cs h=>S ?_) fun cs h=>S ?_
 ·refine rb_ h fun v17 q h=>ai [false,false,false] (sEF_4 (fun _ _ _ hh=>iiR_2 hh) (by simp only[COn_,COc_]) q) (S ?_)
  exact FHz_ h
 ·exact FHz_ h

theorem ifW_2(n:Nat):(∀ (a0:Dt) (r:(List Int)×Bool),ifW_ n a0=some r→Sat ah 69 [((al false) a0)] (.tup [(.sl true 1 (r.1.map I)),(B r.2)])):=by
 induction n with
 | zero=>exact fun _ _ h=>by simp[ifW_] at h
 | succ n ih=>
  refine fun a0 r h=>?_
  obtain⟨h,cs⟩:=Ro_ h
  rw[ifW_] at h
  refine au 31 [.tmp 2,.tmp 3] Tryz.func69 (h:=S ?_)
  refine rb_ h fun v9 q h=>ai [false] (iiR_3 q) (S ?_)
  refine ag cs h (fun cs h=>S ?_) fun cs h=>S ?_
  ·refine aN (b:=false) (sz:=12) (es:=a0.Parts.map (al false)) 13 SC fun hl13=>?_; rw[aD] at hl13
   refine aI (rl_ h) (fun i4 s4=>[(13,.val (.pv (.sl false 12 (a0.Parts.map (al false))))),(14,.val (.pv (I (a0.Parts.length:Int)))),(15,.val (.pv (I (i4:Int))))]) (fun i4 s4=>[]) (Slm_ SC) (fun i4 s4 hi h=>?_) (fun s4 h=>?_)
   ·have w:=ws_ i4
    refine S ?_
    refine aG cs fun cs=>S ?_
    refine rb_ h fun v18 q h=>aq (al false) q (S ?_)
    refine rb_ h fun v22 q h=>ai [false] (ih _ _ q) (S ?_)
    refine ag cs h (fun cs h=>S ?_) fun cs h=>S ?_
    ·refine rb_ h fun v29 q h=>aS I (fun _=>rfl) q (S ?_)
     exact FHz_ h
    ·exact aJ h
   ·refine S ?_
    refine aH cs fun cs=>S ?_
    exact FHz_ h
  ·exact FHz_ h
theorem ifW_3{a0:Dt}{r:(List Int)×Bool}(h:ifW_1 a0=some r):Sat ah 69 [((al false) a0)] (.tup [(.sl true 1 (r.1.map I)),(B r.2)]):=by
 obtain⟨n,hn⟩:=ls_ h
 exact(ifW_2 n) _ _ hn

theorem iFW_1{a0:Dt}  {r:(List Int)×Bool×Bool}(h:iFW_ a0=some r):Sat ah 50 [((al false) a0)] (.tup [(.sl true 1 (r.1.map I)),(B r.2.1),(B r.2.2)]):=by
 obtain⟨h,cs⟩:=Ro_ h
 unfold iFW_ at h
 refine au 17 [.tmp 2,.tmp 3,.tmp 4] Tryz.func50 (h:=S ?_)
 refine rb_ h fun v8 q h=>ai [false] (irN_3 q) (S ?_)
 refine ag cs h (fun cs h=>S ?_) fun cs h=>S ?_
 ·exact FHz_ h
 ·refine rb_ h fun v12 q h=>ai [false] (ifW_3 q) (S ?_)
  exact FHz_ h

theorem iIV_5{a0:Dt}  {r:Bool}(h:iIV_2 a0=some r):Sat ah 24 [((al false) a0)] (B r):=by
 obtain⟨h,cs⟩:=Ro_ h
 unfold iIV_2 at h
 refine au 17 [.tmp 2] Tryz.func24 (h:=S ?_)
 refine rb_ h fun v8 q h=>ai [false] (iFW_1 q) (S ?_)
 refine ag cs h (fun cs h=>S ?_) fun cs h=>S ?_
 ·exact FHz_ h
 ·exact FHz_ h

theorem icD_3(n:Nat):(∀ (a0:Dt) (r:Dt),icD_1 n a0=some r→Sat ah 42 [((al false) a0)] ((al true) r)):=by
 induction n with
 | zero=>exact fun _ _ h=>by simp[icD_1] at h
 | succ n ih=>
  refine fun a0 r h=>?_
  obtain⟨h,cs⟩:=Ro_ h
  rw[icD_1] at h
  refine au 36 [.cell 2 44] Tryz.func42 (h:=S ?_)
  refine rb_ h fun v10 q h=>ai [false] (icS_1 q) (S ?_)
  refine rb_ h fun v15 q h=>ai [false] (icT_3 q) (S ?_)
  refine rb_ h fun v18 q h=>ai [false] (icF_1 q) (S ?_)
  refine ae (DHa_ [3] [160,161,240,288,289]) (S ?_)
  refine aN (b:=false) (sz:=12) (es:=a0.Parts.map (al false)) 21 SC fun hl21=>?_; rw[aD] at hl21
  refine aI (rl_ h) (fun i3 s3=>[(2,.box zab0),(3,.box (.node [(.pv (I a0.Rule)),(.node [(.own 160),(.own 161)]),(.pv (I a0.Main)),(.node [(.pv (Sx v15.Name)),(.own 240)]),(.node [(.pv (I v18.Op)),(.node [(.pv (Sx v18.Atom.Name)),(.own 288)]),(.pv (Sx v18.Var)),(.own 289)]),(.own 9309)])),(21,.val (.pv (.sl false 12 (a0.Parts.map (al false))))),(22,.val (.pv (I (a0.Parts.length:Int)))),(23,.val (.pv (I (i3:Int))))]) (fun i3 s3=>[(160,(5,v10.Left.map (aj true))),(161,(5,v10.Right.map (aj true))),(240,(2,v15.Args.map (am true))),(288,(2,v18.Atom.Args.map (am true))),(289,(5,v18.Parts.map (aj true))),(9309,(12,s3.map (al true)))]) (bt (Sln_ (x:=(.node [(.pv (I a0.Rule)),(.node [(.own 160),(.own 161)]),(.pv (I a0.Main)),(.node [(.pv (Sx v15.Name)),(.own 240)]),(.node [(.pv (I v18.Op)),(.node [(.pv (Sx v18.Atom.Name)),(.own 288)]),(.pv (Sx v18.Var)),(.own 289)]),(.pv (.sl true 12 []))])) 3 [5] 9309 12 NM SC SC SC) (Slm_ SC)) (fun i3 s3 hi h=>?_) (fun s3 h=>?_)
  ·have w:=ws_ i3
   refine S ?_
   refine aG cs fun cs=>S ?_
   refine rb_ h fun v25 q h=>aq (al false) q (S ?_)
   refine rb_ h fun v30 q h=>ai [false] (ih _ _ q) (S ?_)
   refine rb_ h fun v32 q h=>aS (al true) (fun a=>Dt.psize _ a) q (S ?_)
   refine ae (DHa_ [] [480,481,482,483,484,485,496,512]) (S ?_)
   have h:=rs_ h
   refine RdH.mk ⟨_,h,?_⟩
   refine Slr_ 512 9309 ?_
   exact Slm_ SWx
  ·refine S ?_
   refine aH cs fun cs=>S ?_
   exact FHz_ h
theorem icD_2{a0:Dt}{r:Dt}(h:icD_ a0=some r):Sat ah 42 [((al false) a0)] ((al true) r):=by
 obtain⟨n,hn⟩:=ls_ h
 exact(icD_3 n) _ _ hn

theorem ic1_1{a0:Ft}{b0:Ft}  {r:Bool}(h:ic1_ a0 b0=some r):Sat ah 87 [((aj false) a0),.ptr ((aj false) b0)] (B r):=by
 obtain⟨h,cs⟩:=Ro_ h
 unfold ic1_ at h
 refine au 7 [.tmp 3] Tryz.func87 (h:=S ?_)
 refine rb_ h fun v6 q h=>ai [false,false] (isF_3 q) (S ?_)
 exact FHz_ h

theorem ics_1{a0:Dt}{a1:Int}  {r:Bool}(h:ic_ a0 a1=some r):Sat ah 70 [((al false) a0),(I a1)] (B r):=by
 obtain⟨h,cs⟩:=Ro_ h
 unfold ic_ at h
 refine au 60 [.tmp 4] Tryz.func70 (h:=S ?_)
 refine rb_ h fun v11 q h=>aq (al false) q (S ?_)
 refine ag cs h (fun cs h=>S ?_) fun cs h=>S ?_
 refine ag cs h (fun cs h=>S ?_) fun cs h=>S ?_
 rotate_left 2
 refine ag cs h (fun cs h=>S ?_) fun cs h=>S ?_
 refine ag cs h (fun cs h=>S ?_) fun cs h=>S ?_
 rotate_left
 refine rb_ h fun v48 q h=>aq (aj false) q (S ?_)
 refine ag cs h (fun cs h=>S ?_) fun cs h=>S ?_
 rotate_left
 ·refine MfH.fr (S ?_)
  refine rb_ h fun v58 q h=>ai [false,false] (sCF_1 (fun _ _ hh=>ic1_1 hh) (by simp only[COn_,COc_]) q) (S ?_)
  exact FHz_ h
 all_goals
  exact FHz_ h

theorem ils_{a0:Dt}{a1:Dt}  {r:Dt}(h:il_ a0 a1=some r):Sat ah 71 [((al false) a0),((al false) a1)] ((al true) r):=by
 obtain⟨h,cs⟩:=Ro_ h
 unfold il_ at h
 refine au 13 [.cell 4 44] Tryz.func71 (h:=S ?_)
 refine rb_ h fun v9 q h=>ai [false] (icS_1 q) (S ?_)
 refine ae (DHa_ [] [144,145]) (S ?_)
 exact FHz_ h


theorem icO_1{a0:Ft}{a1:Dt}{a2:Dt}  {r:Dt}(h:icO_ a0 a1 a2=some r):Sat ah 73 [((aj false) a0),((al false) a1),((al false) a2)] ((al true) r):=by
 obtain⟨h,cs⟩:=Ro_ h
 unfold icO_ at h
 refine au 28 [.cell 6 44] Tryz.func73 (h:=S ?_)
 refine rb_ h fun v10 q h=>ai [false] (icS_1 q) (S ?_)
 refine rb_ h fun v17 q h=>SlcOH.mk (f:=(aj true)) q SC (S ?_)
 refine rb_ h fun v21 q h=>ai [false] (icF_1 q) (S ?_)
 refine rb_ h fun v23 q h=>ai [false] (icD_2 q) (S ?_)
 refine rb_ h fun v25 q h=>ai [false] (icD_2 q) (S ?_)
 refine ae (DHa_ [] [336,337,368,369,370,371,372,373,400,401,402,403,404,405,416]) (S ?_)
 exact FHz_ h


theorem iwN_1(n:Nat):(∀ (a0:Dt) (a1:Ft) (a2:Bool) (a3:Int) (r:Dt),iwN_ n a0 a1 a2 a3=some r→Sat ah 90 [((al false) a0),((aj false) a1),(B a2),(I a3)] ((al true) r)):=by
 induction n with
 | zero=>exact fun _ _ _ _ _ h=>by simp[iwN_] at h
 | succ n ih=>
  refine fun a0 a1 a2 a3 r h=>?_
  obtain⟨h,cs⟩:=Ro_ h
  rw[iwN_] at h
  refine au 89 [.cell 8 44] Tryz.func90 (h:=S ?_)
  refine rb_ h fun v18 q h=>ai [false] (icD_2 q) (S ?_)
  refine ag cs h (fun cs h=>S ?_) fun cs h=>S ?_
  ·refine rb_ h fun v30 q h=>ai [false] (icF_1 q) (S ?_)
   refine rb_ h fun v32 q h=>ai [true,false,true] (sIF_5 q) (S ?_)
   refine ae (DHa_ [] [480,481,496,512]) (S ?_)
   obtain⟨N8,hN8,h⟩:=rb_1 h
   obtain⟨hN8a,hN8b⟩:=bs_ hN8
   refine aI (rl_ h) (fun i8 s8=>[(2,.val (.pv (B a2))),(3,.val (.pv (I a3))),(4,.box (.pv ((al false) a0))),(5,.box (.pv ((aj false) a1))),(8,.box zab0),(9,.box (.node [(.pv (I v18.Rule)),(.node [(.own 512),(.own 289)]),(.pv (I v18.Main)),(.node [(.pv (Sx v18.Term.Name)),(.own 290)]),(.node [(.pv (I v18.Cut.Op)),(.node [(.pv (Sx v18.Cut.Atom.Name)),(.own 291)]),(.pv (Sx v18.Cut.Var)),(.own 292)]),(.own 293)])),(11,.val (.pv (I s8))),(35,.val (.pv (I a3))),(36,.val (.pv (I (i8:Int))))]) (fun i8 s8=>[(512,(5,v32.map (aj true))),(289,(5,v18.Sequent.Right.map (aj true))),(290,(2,v18.Term.Args.map (am true))),(291,(2,v18.Cut.Atom.Args.map (am true))),(292,(5,v18.Cut.Parts.map (aj true))),(293,(12,v18.Parts.map (al true)))]) (Slm_ SC) (fun i8 s8 hi h=>?_) (fun s8 h=>?_)
   ·have w:=ws_ i8
    refine S ?_
    refine aG cs fun cs=>S ?_
    refine rb_ h fun v42 q h=>ai [false,false,false] (iDr_2 q) (S ?_)
    refine ag cs h (fun cs h=>S ?_) fun cs h=>S ?_
    ·exact aJ h
    ·exact aJ h
   ·refine S ?_
    refine aH cs fun cs=>S ?_
    refine rb_ h fun v49 q h=>ai [false] (imO_1 q) (S ?_)
    refine ag cs h (fun cs h=>S ?_) fun cs h=>S ?_
    ·refine aN (b:=false) (sz:=12) (es:=a0.Parts.map (al false)) 71 SC fun hl71=>?_; rw[aD] at hl71
     refine aI (rl_ h) (fun i17 s17=>[(2,.val (.pv (B a2))),(5,.box (.pv ((aj false) a1))),(8,.box zab0),(9,.box (.node [(.pv (I v18.Rule)),(.node [(.own 512),(.own 289)]),(.pv (I v18.Main)),(.node [(.pv (Sx v18.Term.Name)),(.own 290)]),(.node [(.pv (I v18.Cut.Op)),(.node [(.pv (Sx v18.Cut.Atom.Name)),(.own 291)]),(.pv (Sx v18.Cut.Var)),(.own 292)]),(.own 293)])),(11,.val (.pv (I s8))),(71,.val (.pv (.sl false 12 (a0.Parts.map (al false))))),(72,.val (.pv (I (a0.Parts.length:Int)))),(73,.val (.pv (I (i17:Int))))]) (fun i17 s17=>[(512,(5,v32.map (aj true))),(289,(5,v18.Sequent.Right.map (aj true))),(290,(2,v18.Term.Args.map (am true))),(291,(2,v18.Cut.Atom.Args.map (am true))),(292,(5,v18.Cut.Parts.map (aj true))),(293,(12,s17.map (al true)))]) (Slm_ SC) (fun i17 s17 hi h=>?_) (fun s17 h=>?_)
     ·have w:=ws_ i17
      refine S ?_
      refine aG cs fun cs=>S ?_
      refine rb_ h fun v76 q h=>aq (al false) q (S ?_)
      refine rb_ h fun v85 q h=>ai [false,false,false,false] (ih _ _ _ _ _ q) (S ?_)
      refine rb_ h fun v86 q h=>aq (al true) q (S ?_)
      refine rb_ h fun w7 q h=>EldH.c (al true) q (S ?_)
      refine ae (DHa_ [] [1360,1361,1362,1363,1364,1365]) (S ?_)
      exact aJ h
     ·refine S ?_
      refine aH cs fun cs=>S ?_
      exact FHz_ h
    ·refine ag cs h (fun cs h=>S ?_) fun cs h=>S ?_
     ·refine ag cs h (fun cs h=>S ?_) fun cs h=>S ?_
      ·refine aN (b:=false) (sz:=12) (es:=a0.Parts.map (al false)) 71 SC fun hl71=>?_; rw[aD] at hl71
       refine aI (rl_ h) (fun i17 s17=>[(2,.val (.pv (B a2))),(5,.box (.pv ((aj false) a1))),(8,.box zab0),(9,.box (.node [(.pv (I v18.Rule)),(.node [(.own 512),(.own 289)]),(.pv (I (IntKind.i64.wrap (v18.Main+1)))),(.node [(.pv (Sx v18.Term.Name)),(.own 290)]),(.node [(.pv (I v18.Cut.Op)),(.node [(.pv (Sx v18.Cut.Atom.Name)),(.own 291)]),(.pv (Sx v18.Cut.Var)),(.own 292)]),(.own 293)])),(11,.val (.pv (I s8))),(71,.val (.pv (.sl false 12 (a0.Parts.map (al false))))),(72,.val (.pv (I (a0.Parts.length:Int)))),(73,.val (.pv (I (i17:Int))))]) (fun i17 s17=>[(512,(5,v32.map (aj true))),(289,(5,v18.Sequent.Right.map (aj true))),(290,(2,v18.Term.Args.map (am true))),(291,(2,v18.Cut.Atom.Args.map (am true))),(292,(5,v18.Cut.Parts.map (aj true))),(293,(12,s17.map (al true)))]) (Slm_ SC) (fun i17 s17 hi h=>?_) (fun s17 h=>?_)
       ·have w:=ws_ i17
        refine S ?_
        refine aG cs fun cs=>S ?_
        refine rb_ h fun v76 q h=>aq (al false) q (S ?_)
        refine rb_ h fun v85 q h=>ai [false,false,false,false] (ih _ _ _ _ _ q) (S ?_)
        refine rb_ h fun v86 q h=>aq (al true) q (S ?_)
        refine rb_ h fun w12 q h=>EldH.c (al true) q (S ?_)
        refine ae (DHa_ [] [1360,1361,1362,1363,1364,1365]) (S ?_)
        exact aJ h
       ·refine S ?_
        refine aH cs fun cs=>S ?_
        exact FHz_ h
      ·refine aN (b:=false) (sz:=12) (es:=a0.Parts.map (al false)) 71 SC fun hl71=>?_; rw[aD] at hl71
       refine aI (rl_ h) (fun i17 s17=>[(2,.val (.pv (B a2))),(5,.box (.pv ((aj false) a1))),(8,.box zab0),(9,.box (.node [(.pv (I v18.Rule)),(.node [(.own 512),(.own 289)]),(.pv (I v18.Main)),(.node [(.pv (Sx v18.Term.Name)),(.own 290)]),(.node [(.pv (I v18.Cut.Op)),(.node [(.pv (Sx v18.Cut.Atom.Name)),(.own 291)]),(.pv (Sx v18.Cut.Var)),(.own 292)]),(.own 293)])),(11,.val (.pv (I s8))),(71,.val (.pv (.sl false 12 (a0.Parts.map (al false))))),(72,.val (.pv (I (a0.Parts.length:Int)))),(73,.val (.pv (I (i17:Int))))]) (fun i17 s17=>[(512,(5,v32.map (aj true))),(289,(5,v18.Sequent.Right.map (aj true))),(290,(2,v18.Term.Args.map (am true))),(291,(2,v18.Cut.Atom.Args.map (am true))),(292,(5,v18.Cut.Parts.map (aj true))),(293,(12,s17.map (al true)))]) (Slm_ SC) (fun i17 s17 hi h=>?_) (fun s17 h=>?_)
       ·have w:=ws_ i17
        refine S ?_
        refine aG cs fun cs=>S ?_
        refine rb_ h fun v76 q h=>aq (al false) q (S ?_)
        refine rb_ h fun v85 q h=>ai [false,false,false,false] (ih _ _ _ _ _ q) (S ?_)
        refine rb_ h fun v86 q h=>aq (al true) q (S ?_)
        refine rb_ h fun w15 q h=>EldH.c (al true) q (S ?_)
        refine ae (DHa_ [] [1360,1361,1362,1363,1364,1365]) (S ?_)
        exact aJ h
       ·refine S ?_
        refine aH cs fun cs=>S ?_
        exact FHz_ h
     ·refine aN (b:=false) (sz:=12) (es:=a0.Parts.map (al false)) 71 SC fun hl71=>?_; rw[aD] at hl71
      refine aI (rl_ h) (fun i17 s17=>[(2,.val (.pv (B a2))),(5,.box (.pv ((aj false) a1))),(8,.box zab0),(9,.box (.node [(.pv (I v18.Rule)),(.node [(.own 512),(.own 289)]),(.pv (I v18.Main)),(.node [(.pv (Sx v18.Term.Name)),(.own 290)]),(.node [(.pv (I v18.Cut.Op)),(.node [(.pv (Sx v18.Cut.Atom.Name)),(.own 291)]),(.pv (Sx v18.Cut.Var)),(.own 292)]),(.own 293)])),(11,.val (.pv (I s8))),(71,.val (.pv (.sl false 12 (a0.Parts.map (al false))))),(72,.val (.pv (I (a0.Parts.length:Int)))),(73,.val (.pv (I (i17:Int))))]) (fun i17 s17=>[(512,(5,v32.map (aj true))),(289,(5,v18.Sequent.Right.map (aj true))),(290,(2,v18.Term.Args.map (am true))),(291,(2,v18.Cut.Atom.Args.map (am true))),(292,(5,v18.Cut.Parts.map (aj true))),(293,(12,s17.map (al true)))]) (Slm_ SC) (fun i17 s17 hi h=>?_) (fun s17 h=>?_)
      ·have w:=ws_ i17
       refine S ?_
       refine aG cs fun cs=>S ?_
       refine rb_ h fun v76 q h=>aq (al false) q (S ?_)
       refine rb_ h fun v85 q h=>ai [false,false,false,false] (ih _ _ _ _ _ q) (S ?_)
       refine rb_ h fun v86 q h=>aq (al true) q (S ?_)
       refine rb_ h fun w18 q h=>EldH.c (al true) q (S ?_)
       refine ae (DHa_ [] [1360,1361,1362,1363,1364,1365]) (S ?_)
       exact aJ h
      ·refine S ?_
       refine aH cs fun cs=>S ?_
       exact FHz_ h
  ·refine rb_ h fun v30 q h=>ai [false] (icF_1 q) (S ?_)
   refine rb_ h fun v32 q h=>ai [true,false,true] (sIF_5 q) (S ?_)
   refine ae (DHa_ [] [480,481,496,512]) (S ?_)
   obtain⟨N8,hN8,h⟩:=rb_1 h
   obtain⟨hN8a,hN8b⟩:=bs_ hN8
   refine aI (rl_ h) (fun i8 s8=>[(2,.val (.pv (B a2))),(3,.val (.pv (I a3))),(4,.box (.pv ((al false) a0))),(5,.box (.pv ((aj false) a1))),(8,.box zab0),(9,.box (.node [(.pv (I v18.Rule)),(.node [(.own 288),(.own 512)]),(.pv (I v18.Main)),(.node [(.pv (Sx v18.Term.Name)),(.own 290)]),(.node [(.pv (I v18.Cut.Op)),(.node [(.pv (Sx v18.Cut.Atom.Name)),(.own 291)]),(.pv (Sx v18.Cut.Var)),(.own 292)]),(.own 293)])),(11,.val (.pv (I s8))),(35,.val (.pv (I a3))),(36,.val (.pv (I (i8:Int))))]) (fun i8 s8=>[(288,(5,v18.Sequent.Left.map (aj true))),(512,(5,v32.map (aj true))),(290,(2,v18.Term.Args.map (am true))),(291,(2,v18.Cut.Atom.Args.map (am true))),(292,(5,v18.Cut.Parts.map (aj true))),(293,(12,v18.Parts.map (al true)))]) (Slm_ SC) (fun i8 s8 hi h=>?_) (fun s8 h=>?_)
   ·have w:=ws_ i8
    refine S ?_
    refine aG cs fun cs=>S ?_
    refine rb_ h fun v42 q h=>ai [false,false,false] (iDr_2 q) (S ?_)
    refine ag cs h (fun cs h=>S ?_) fun cs h=>S ?_
    ·exact aJ h
    ·exact aJ h
   ·refine S ?_
    refine aH cs fun cs=>S ?_
    refine rb_ h fun v49 q h=>ai [false] (imO_1 q) (S ?_)
    refine ag cs h (fun cs h=>S ?_) fun cs h=>S ?_
    ·refine aN (b:=false) (sz:=12) (es:=a0.Parts.map (al false)) 71 SC fun hl71=>?_; rw[aD] at hl71
     refine aI (rl_ h) (fun i17 s17=>[(2,.val (.pv (B a2))),(5,.box (.pv ((aj false) a1))),(8,.box zab0),(9,.box (.node [(.pv (I v18.Rule)),(.node [(.own 288),(.own 512)]),(.pv (I v18.Main)),(.node [(.pv (Sx v18.Term.Name)),(.own 290)]),(.node [(.pv (I v18.Cut.Op)),(.node [(.pv (Sx v18.Cut.Atom.Name)),(.own 291)]),(.pv (Sx v18.Cut.Var)),(.own 292)]),(.own 293)])),(11,.val (.pv (I s8))),(71,.val (.pv (.sl false 12 (a0.Parts.map (al false))))),(72,.val (.pv (I (a0.Parts.length:Int)))),(73,.val (.pv (I (i17:Int))))]) (fun i17 s17=>[(288,(5,v18.Sequent.Left.map (aj true))),(512,(5,v32.map (aj true))),(290,(2,v18.Term.Args.map (am true))),(291,(2,v18.Cut.Atom.Args.map (am true))),(292,(5,v18.Cut.Parts.map (aj true))),(293,(12,s17.map (al true)))]) (Slm_ SC) (fun i17 s17 hi h=>?_) (fun s17 h=>?_)
     ·have w:=ws_ i17
      refine S ?_
      refine aG cs fun cs=>S ?_
      refine rb_ h fun v76 q h=>aq (al false) q (S ?_)
      refine rb_ h fun v85 q h=>ai [false,false,false,false] (ih _ _ _ _ _ q) (S ?_)
      refine rb_ h fun v86 q h=>aq (al true) q (S ?_)
      refine rb_ h fun w25 q h=>EldH.c (al true) q (S ?_)
      refine ae (DHa_ [] [1360,1361,1362,1363,1364,1365]) (S ?_)
      exact aJ h
     ·refine S ?_
      refine aH cs fun cs=>S ?_
      exact FHz_ h
    ·refine ag cs h (fun cs h=>S ?_) fun cs h=>S ?_
     ·refine ag cs h (fun cs h=>S ?_) fun cs h=>S ?_
      ·refine aN (b:=false) (sz:=12) (es:=a0.Parts.map (al false)) 71 SC fun hl71=>?_; rw[aD] at hl71
       refine aI (rl_ h) (fun i17 s17=>[(2,.val (.pv (B a2))),(5,.box (.pv ((aj false) a1))),(8,.box zab0),(9,.box (.node [(.pv (I v18.Rule)),(.node [(.own 288),(.own 512)]),(.pv (I (IntKind.i64.wrap (v18.Main+1)))),(.node [(.pv (Sx v18.Term.Name)),(.own 290)]),(.node [(.pv (I v18.Cut.Op)),(.node [(.pv (Sx v18.Cut.Atom.Name)),(.own 291)]),(.pv (Sx v18.Cut.Var)),(.own 292)]),(.own 293)])),(11,.val (.pv (I s8))),(71,.val (.pv (.sl false 12 (a0.Parts.map (al false))))),(72,.val (.pv (I (a0.Parts.length:Int)))),(73,.val (.pv (I (i17:Int))))]) (fun i17 s17=>[(288,(5,v18.Sequent.Left.map (aj true))),(512,(5,v32.map (aj true))),(290,(2,v18.Term.Args.map (am true))),(291,(2,v18.Cut.Atom.Args.map (am true))),(292,(5,v18.Cut.Parts.map (aj true))),(293,(12,s17.map (al true)))]) (Slm_ SC) (fun i17 s17 hi h=>?_) (fun s17 h=>?_)
       ·have w:=ws_ i17
        refine S ?_
        refine aG cs fun cs=>S ?_
        refine rb_ h fun v76 q h=>aq (al false) q (S ?_)
        refine rb_ h fun v85 q h=>ai [false,false,false,false] (ih _ _ _ _ _ q) (S ?_)
        refine rb_ h fun v86 q h=>aq (al true) q (S ?_)
        refine rb_ h fun w30 q h=>EldH.c (al true) q (S ?_)
        refine ae (DHa_ [] [1360,1361,1362,1363,1364,1365]) (S ?_)
        exact aJ h
       ·refine S ?_
        refine aH cs fun cs=>S ?_
        exact FHz_ h
      ·refine aN (b:=false) (sz:=12) (es:=a0.Parts.map (al false)) 71 SC fun hl71=>?_; rw[aD] at hl71
       refine aI (rl_ h) (fun i17 s17=>[(2,.val (.pv (B a2))),(5,.box (.pv ((aj false) a1))),(8,.box zab0),(9,.box (.node [(.pv (I v18.Rule)),(.node [(.own 288),(.own 512)]),(.pv (I v18.Main)),(.node [(.pv (Sx v18.Term.Name)),(.own 290)]),(.node [(.pv (I v18.Cut.Op)),(.node [(.pv (Sx v18.Cut.Atom.Name)),(.own 291)]),(.pv (Sx v18.Cut.Var)),(.own 292)]),(.own 293)])),(11,.val (.pv (I s8))),(71,.val (.pv (.sl false 12 (a0.Parts.map (al false))))),(72,.val (.pv (I (a0.Parts.length:Int)))),(73,.val (.pv (I (i17:Int))))]) (fun i17 s17=>[(288,(5,v18.Sequent.Left.map (aj true))),(512,(5,v32.map (aj true))),(290,(2,v18.Term.Args.map (am true))),(291,(2,v18.Cut.Atom.Args.map (am true))),(292,(5,v18.Cut.Parts.map (aj true))),(293,(12,s17.map (al true)))]) (Slm_ SC) (fun i17 s17 hi h=>?_) (fun s17 h=>?_)
       ·have w:=ws_ i17
        refine S ?_
        refine aG cs fun cs=>S ?_
        refine rb_ h fun v76 q h=>aq (al false) q (S ?_)
        refine rb_ h fun v85 q h=>ai [false,false,false,false] (ih _ _ _ _ _ q) (S ?_)
        refine rb_ h fun v86 q h=>aq (al true) q (S ?_)
        refine rb_ h fun w33 q h=>EldH.c (al true) q (S ?_)
        refine ae (DHa_ [] [1360,1361,1362,1363,1364,1365]) (S ?_)
        exact aJ h
       ·refine S ?_
        refine aH cs fun cs=>S ?_
        exact FHz_ h
     ·refine aN (b:=false) (sz:=12) (es:=a0.Parts.map (al false)) 71 SC fun hl71=>?_; rw[aD] at hl71
      refine aI (rl_ h) (fun i17 s17=>[(2,.val (.pv (B a2))),(5,.box (.pv ((aj false) a1))),(8,.box zab0),(9,.box (.node [(.pv (I v18.Rule)),(.node [(.own 288),(.own 512)]),(.pv (I v18.Main)),(.node [(.pv (Sx v18.Term.Name)),(.own 290)]),(.node [(.pv (I v18.Cut.Op)),(.node [(.pv (Sx v18.Cut.Atom.Name)),(.own 291)]),(.pv (Sx v18.Cut.Var)),(.own 292)]),(.own 293)])),(11,.val (.pv (I s8))),(71,.val (.pv (.sl false 12 (a0.Parts.map (al false))))),(72,.val (.pv (I (a0.Parts.length:Int)))),(73,.val (.pv (I (i17:Int))))]) (fun i17 s17=>[(288,(5,v18.Sequent.Left.map (aj true))),(512,(5,v32.map (aj true))),(290,(2,v18.Term.Args.map (am true))),(291,(2,v18.Cut.Atom.Args.map (am true))),(292,(5,v18.Cut.Parts.map (aj true))),(293,(12,s17.map (al true)))]) (Slm_ SC) (fun i17 s17 hi h=>?_) (fun s17 h=>?_)
      ·have w:=ws_ i17
       refine S ?_
       refine aG cs fun cs=>S ?_
       refine rb_ h fun v76 q h=>aq (al false) q (S ?_)
       refine rb_ h fun v85 q h=>ai [false,false,false,false] (ih _ _ _ _ _ q) (S ?_)
       refine rb_ h fun v86 q h=>aq (al true) q (S ?_)
       refine rb_ h fun w36 q h=>EldH.c (al true) q (S ?_)
       refine ae (DHa_ [] [1360,1361,1362,1363,1364,1365]) (S ?_)
       exact aJ h
      ·refine S ?_
       refine aH cs fun cs=>S ?_
       exact FHz_ h
theorem iws_1{a0:Dt}{a1:Ft}{a2:Bool}{a3:Int}{r:Dt}(h:iw_1 a0 a1 a2 a3=some r):Sat ah 90 [((al false) a0),((aj false) a1),(B a2),(I a3)] ((al true) r):=by
 obtain⟨n,hn⟩:=ls_ h
 exact(iwN_1 n) _ _ _ _ _ hn

theorem iiD_4{a0:Dt}  {r:Dt×Bool}(h:iiD_ a0=some r):Sat ah 26 [((al false) a0)] (.tup [((al false) r.1),(B r.2)]):=by
 obtain⟨h,cs⟩:=Ro_ h
 unfold iiD_ at h
 refine au 9 [.cell 2 44,.tmp 3] Tryz.func26 (h:=S ?_)
 refine rb_ h fun v5 q h=>ai [false] (iIV_5 q) (S ?_)
 refine ag cs h (fun cs h=>S ?_) fun cs h=>S ?_
 ·exact FHz_1 h
 ·exact FHz_1 h

theorem iiD_3{a0:Dt}  {r:Dt×Bool}(h:iiD_ a0=some r):Sat ah 26 [((al true) a0)] (.tup [((al true) r.1),(B r.2)]):=by
 obtain⟨h,cs⟩:=Ro_ h
 unfold iiD_ at h
 refine au 9 [.cell 2 44,.tmp 3] Tryz.func26 (h:=S ?_)
 refine rb_ h fun v5 q h=>ai [false] (iIV_5 q) (S ?_)
 refine ag cs h (fun cs h=>S ?_) fun cs h=>S ?_
 ·exact FHz_ h
 ·exact FHz_ h

theorem iWA_1{a0:Dt}{a1:Ft}{a2:Bool}{a3:Int}  {r:Dt×Bool}(h:iWA_ a0 a1 a2 a3=some r):Sat ah 74 [((al false) a0),((aj false) a1),(B a2),(I a3)] (.tup [((al true) r.1),(B r.2)]):=by
 obtain⟨h,cs⟩:=Ro_ h
 unfold iWA_ at h
 refine au 42 [.cell 8 44,.tmp 9] Tryz.func74 (h:=S ?_)
 refine ag cs h (fun cs h=>S ?_) fun cs h=>S ?_
 refine rb_ h fun v19 q h=>ai [false] (iIV_5 q) (S ?_)
 refine ag cs h (fun cs h=>S ?_) fun cs h=>S ?_
 refine rb_ h fun v23 q h=>ai [false] (iIV_4 q) (S ?_)
 refine ag cs h (fun cs h=>S ?_) fun cs h=>S ?_
 refine rb_ h fun v30 q h=>ai [false,false,false] (iws_ q) (S ?_)
 refine ag cs h (fun cs h=>S ?_) fun cs h=>S ?_
 rotate_left 4
 refine rb_ h fun v19 q h=>ai [false] (iIV_5 q) (S ?_)
 refine ag cs h (fun cs h=>S ?_) fun cs h=>S ?_
 refine rb_ h fun v23 q h=>ai [false] (iIV_4 q) (S ?_)
 refine ag cs h (fun cs h=>S ?_) fun cs h=>S ?_
 refine rb_ h fun v30 q h=>ai [false,false,false] (iws_ q) (S ?_)
 refine ag cs h (fun cs h=>S ?_) fun cs h=>S ?_
 rotate_left
 ·exact FHz_ h
 ·exact FHz_ h
 ·exact FHz_ h
 rotate_left
 ·exact FHz_ h
 ·exact FHz_ h
 ·exact FHz_ h
 all_goals
  refine rb_ h fun v38 q h=>ai [false,false,false,false] (iws_1 q) (S ?_)
  refine rb_ h fun v39 q h=>ai [true] (iiD_3 q) (S ?_)
  exact FHz_ h

end Go.Proofs.YtafdgbndcflghaaGreat
