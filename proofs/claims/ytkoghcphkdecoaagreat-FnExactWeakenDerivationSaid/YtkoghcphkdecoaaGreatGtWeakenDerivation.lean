/- Lemmas of the proof; each says what it shows. -/
import Derived.Test.YtkoghcphkdecoaaGreatGwk
set_option linter.unusedSimpArgs false
set_option linter.unusedVariables false
set_option linter.defProp false
set_option maxRecDepth 4000
namespace Go.Proofs.YtkoghcphkdecoaaGreat
open Go.Av
open Bool renaming and_eq_true→aE
open Option renaming bind_some→al
section
variable{f:Ft}{left:Bool}
theorem iz_(d:Dt):inner d left 0=0:=by unfold inner; exact Nat.zero_sub _
theorem lWe_(hf:vF_ f=true)(d:Dt):d.Ok→d.bd→d.cnt≤100000→d.okD=true→∀ n,2*SizeOf.sizeOf d≤n→slW_ n d f left=some (wkD f left d 0):=by
 refine Dt.ind' (M:=fun d=>d.Ok→d.bd→d.cnt≤100000→d.okD=true→∀ n,2*SizeOf.sizeOf d≤n→slW_ n d f left=some (wkD f left d 0)) (fun d ih hok hb hc hd n hn=>?_) d
 have hp:=d.pos
 have hlen:=cl_3 d
 have hu:=(Dbu_ d).1 hb
 rw[DoD_,aE,List.all_eq_true] at hd
 obtain⟨np,nm,nl,nr⟩:=np_ hok hb hd.1
 have N:=nR_ hok hb hd.1
 have b1:=N.vl.len
 have b2:=N.vr.len
 obtain⟨ml,mr⟩:=bm_ hb
 have m0:Mod []:=(Vl.nil 0).mod (by omega)
 cases n with
 | zero=>omega
 | succ n=>
  have lp:forL (ρ:=Dt) (fun _ p (s:List Dt)=>(slW_ n p f left).bind fun v=>(app s [v]).bind fun w=>some (.nx w)) d.Parts 0 []=some (.inr (d.Parts.map fun p=>wkD f left p (inner d left 0))):=by
   rw[mapL (f:=fun p=>slW_ n p f left) (g:=fun p=>wkD f left p (inner d left 0)) d.Parts 0 [] (fun p hp=>by
    rw[iz_]
    exact ih p hp (Dpo_ hok hp) (Dpb_ hb hp) (by have:=Dpc_ hp; omega) (hd.2 p hp) n (by have:=Dt.lt hp; omega)) (by simp; omega),List.nil_append]
  have ap:∀ l:List Ft,l.length≤100→app [f] l=some (insL l 0 f):=fun l h=>by unfold app; rw[if_pos (by simp only[List.length_cons,List.length_nil]; omega)]; rfl
  have nx0:nx d.Sequent (-1) [] (-1) []=d.Sequent:=by
   unfold nx
   rw[dIn_ _ _ (by omega),dIn_ _ _ (by omega),List.append_nil,List.append_nil]
  have h0:d.Rule≠15→decide (((0:Nat):Int)≤d.Main)=true:=fun h=>decide_eq_true (by have:=(nm h).1; omega)
  rw[slW_,ownT _ (cot_ hu.2.1),ownF _ hu.2.2.1,sn_ (-1) (-1) ml mr m0 m0,nx0,oLe_,ownF f (by have:=vFt_ hf; omega),wkD_u]
  simp only[al,fNi_]
  cases left
  ·rw[cond_false,ap d.Sequent.Right (by omega),al]
   unfold insMn
   by_cases h15:d.Rule=15
   ·rw[decide_eq_true h15,cond_true,cond_true,lp]; rfl
   ·rw[decide_eq_false h15,cond_false,cond_false,iMw_ (left:=false) (k:=0) nm h15,h0 h15]
    cases (mOn d.Rule).1==false
    ·rw[cond_false,cond_false,lp]; rfl
    ·rw[cond_true,cond_true,cond_true,lp]; rfl
  ·rw[cond_true,ap d.Sequent.Left (by omega),al]
   unfold insMn
   by_cases h15:d.Rule=15
   ·rw[decide_eq_true h15,cond_true,cond_true,lp]; rfl
   ·rw[decide_eq_false h15,cond_false,cond_false,iMw_ (left:=true) (k:=0) nm h15,h0 h15]
    cases (mOn d.Rule).1==true
    ·rw[cond_false,cond_false,lp]; rfl
    ·rw[cond_true,cond_true,cond_true,lp]; rfl
end
theorem WDb_(d:Dt)(f:Ft)(left:Bool)(hok:d.Ok)(ht:d.tot≤1048576)(hof:f.Ok)(hft:f.tot≤1048576):
 ∃ r:Dt×Bool,iWD_ d f left=some r∧sWD_ d f left=some r∧r.1.tot≤13000000:=by
 unfold iWD_ iWA_ sWD_
 rw[vDi_1 d hok ht,vDs_1 d hok ht,vFi_1 f hft hof,vFs_ f hft hof]
 simp only[al,we_]
 cases hv:vD_ d
 ·cases left<;>exact⟨_,rfl,rfl,zDt_⟩
 cases hf:vF_ f
 ·cases left<;>exact⟨_,rfl,rfl,zDt_⟩
 unfold vD_ at hv
 rw[aE,decide_eq_true_eq] at hv
 have hb:=d.tot_bd ht
 have hi:∀ n:Nat,inR 0 0 (n:Int)=true:=fun n=>by unfold inR; simp only[aE,decide_eq_true_eq]; omega
 obtain⟨f1,f2,f3⟩:=wf_ (left:=left) hf d hok hb hv.2 0
 have hc:=wc_ (f:=f) (left:=left) d 0
 have e1:iw_1 d f left (0:Int)=some (wkD f left d 0):=le_ ⟨_,wi_1 hf d hok hb (by omega) hv.2 0 (Nat.zero_le _)⟩
 have e2:slW_2 d f left=some (wkD f left d 0):=le_ ⟨_,lWe_ hf d hok hb (by omega) hv.2⟩
 rw[e1,e2]
 unfold iiD_
 simp only[al,hi,cond_true]
 rw[vDi_ _ f1 f2 (by omega),vDs_ _ f1 f2 (by omega)]
 simp only[al]
 cases vD_ (wkD f left d 0)
 ·cases left<;>exact⟨_,rfl,rfl,zDt_⟩
 ·have:=Nat.mul_le_mul_left 210000 hv.1
  cases left
  ·exact⟨_,rfl,rfl,by show(wkD f false d 0).tot≤_; omega⟩
  ·exact⟨_,rfl,rfl,by show(wkD f true d 0).tot≤_; omega⟩
theorem FnExactWeakenDerivation_true(d:Dt)(f:Ft)(left:Bool)(hok:d.Ok)(hof:f.Ok)(_:True):FnExactWeakenDerivation d f left=some true:=by
 unfold FnExactWeakenDerivation
 rw[sDe_ d hok _ (by omega) (by omega),al]
 by_cases e:szR d.tot 1048576<0
 ·rw[decide_eq_true e]; rfl
 have ht:=sRo_ e
 have hl:szR d.tot 1048576=((1048576-d.tot:Nat):Int):=by unfold szR; rw[if_pos (by omega)]; omega
 rw[decide_eq_false e,cond_false,sFe_ f hof _ (by omega) (by omega),al]
 by_cases e2:szR f.tot (szR d.tot 1048576)<0
 ·rw[decide_eq_true e2]; rfl
 have hft:f.tot≤1048576:=by
  rw[hl] at e2
  unfold szR at e2
  split at e2<;>omega
 obtain⟨r,g1,g2,g3⟩:=WDb_ d f left hok ht hof hft
 have w1:=d.marks_tot
 have w2:=r.1.marks_tot
 have w3:=f.marks_tot
 obtain⟨y0,y1,y2,y3,y4,y5,m1,_⟩:=mDh_ d (k:=1) (by omega) (by omega)
 obtain⟨x0,x1,x2,x3,x4,x5,m2,m3⟩:=mDh_ r.1 (k:=1) (by omega) (by omega)
 generalize hA:lcn Ft.cn d.Sequent.Left+lcn Ft.cn d.Sequent.Right+lcn Tt.cn d.Term.Args+lcn Tt.cn d.Cut.Atom.Args+lcn Ft.cn d.Cut.Parts+lcn Dt.cn d.Parts=A at m1 w1
 generalize hB:lcn Ft.cn r.1.Sequent.Left+lcn Ft.cn r.1.Sequent.Right+lcn Tt.cn r.1.Term.Args+lcn Tt.cn r.1.Cut.Atom.Args+lcn Ft.cn r.1.Cut.Parts+lcn Dt.cn r.1.Parts=B at m2 m3 w2
 obtain⟨z0,z1,k1,_⟩:=mFh_ f (k:=1+(A:Int)) (by omega) (by omega)
 have d1:decide ((1:Int)+(A:Int)+((lcn Tt.cn f.Atom.Args+lcn Ft.cn f.Parts:Nat):Int)<0)=false:=decide_eq_false (by omega)
 have d2:decide ((1:Int)+(B:Int)<0)=false:=decide_eq_false (by omega)
 rw[decide_eq_false e2,cond_false]
 simp only[tDe_ d ht,tFe_ f hft,al,g1,g2,eDr_,eFr_,cond_true,beq_self_eq_true,m1,k1,d1,m2,m3,d2,cond_false,decide_true]
end Go.Proofs.YtkoghcphkdecoaaGreat
