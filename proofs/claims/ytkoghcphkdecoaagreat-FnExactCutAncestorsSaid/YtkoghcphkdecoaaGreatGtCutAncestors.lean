/- A part of the proof: lemmas only; nothing is claimed here beyond what each lemma says. -/
import Derived.Test.YtkoghcphkdecoaaGreatGad
set_option linter.unusedSimpArgs false
set_option linter.unusedVariables false
set_option linter.defProp false
set_option maxRecDepth 4000
namespace Go.Proofs.YtkoghcphkdecoaaGreat
open Go.Av
theorem fe_{ρ:Type}(N:Nat)(b:Bool)(f:List Bool→Option (Flow ρ (List Bool)))(hN:N≤1000)(hf:∀ s,f s=bif decide ((s.length:Int)<(N:Int)) then Option.bind (app s [b]) fun v=>some (.nx v) else some (.br s)):
  ∀ (k:Nat) (s:List Bool),s.length+k=N→Ev (fun n=>whileN f n s) (.inr (s++List.replicate k b))
 | 0,s,h=>by
  have:=ev_br (f:=f) (s:=s) (s':=s) (by rw[hf,decide_eq_false (by omega)]; rfl)
  simpa using this
 | k+1,s,h=>by
  have e:app s [b]=some (s++[b]):=by unfold app; rw[if_pos (by simp only[List.length_cons,List.length_nil]; omega)]
  have:=fe_ N b f hN hf k (s++[b]) (by simp only[List.length_append,List.length_cons,List.length_nil]; omega)
  rw[List.append_assoc] at this
  exact ev_nx (s':=s++[b]) (by rw[hf,decide_eq_true (by omega),cond_true,e]; rfl) this
theorem fill{ρ:Type}{N:Nat}{b:Bool}{f:List Bool→Option (Flow ρ (List Bool))}{s:List Bool}(hN:N≤1000)(hs:s.length≤N)(hf:∀ s,f s=bif decide ((s.length:Int)<(N:Int)) then Option.bind (app s [b]) fun v=>some (.nx v) else some (.br s)):
  (lim fun n=>whileN f n s)=some (.inr (s++List.replicate (N-s.length) b)):=lim_eq (fe_ N b f hN hf (N-s.length) s (by omega))
theorem rMe_(d:Derivation)(left:Bool){l:List Bool}(hl:l.length≤1000):iDr_ d l left=some (dropI l (remI d left)):=by
 unfold iDr_
 rw[kl_ l (remI d left) _ (fun j s hj hs=>?_),tLi_]
 rw[igD_ hj,Option.bind_some,re_ d left (by omega),Option.bind_some]
 by_cases h:(j:Int)=remI d left
 ·rw[decide_eq_true h,if_pos h]; rfl
 ·rw[decide_eq_false h,if_neg h,cond_false,app,if_pos (by simp; omega)]; rfl
theorem re_1{d:Derivation}(h:d.Rule≠1∧d.Rule≠2)(hr:inR d.Rule 1 15=true)(left:Bool):slR_1 d left=some (remI d left):=by
 unfold slR_1 remI stays
 rw[decide_eq_false h.1,decide_eq_false h.2,oLe_,cond_false,cond_false,Option.bind_some]
 cases decide (d.Rule=11)<;>cases decide (d.Rule=14)<;>cases decide (d.Rule=15)<;>cases (mOn d.Rule).1<;>cases left<;>rfl
theorem se_{l:List Bool}(i:Int){n:Nat}(b:Bool)(hn:n≤1000)(hl:l.length≤1000)(hd:(dropI l i).length≤n):
  slS_7 l i (n:Int) b=some (dropI l i++List.replicate (n-(dropI l i).length) b):=by
 unfold slS_7
 rw[kl_ l i _ (fun j s hj hs=>?_),tLi_,fill (N:=n) (b:=b) hn hd (fun s=>rfl),tLi_]
 by_cases h:(j:Int)=i
 ·rw[decide_eq_true h,if_pos h]; rfl
 ·rw[decide_eq_false h,if_neg h,cond_false,igD_ hj,Option.bind_some,app,if_pos (by simp; omega)]; rfl
structure Fit(d:Derivation)(l r:List Bool):Prop where
 ok:d.Ok
 tot:d.tot≤1048576
 good:d.okD=true
 left:l.length=d.Sequent.Left.length
 right:r.length=d.Sequent.Right.length
theorem ms_{d p:Derivation}{l r:List Bool}{i:Int}(F:Fit d l r)(hp:idx d.Parts i=some p):
  ∃ l' r',iDp_ d ⟨l,r⟩ i=some ⟨l',r'⟩∧slM_2 d i l r=some (l',r')∧Fit p l' r':=by
 obtain⟨hok,ht,hg,hl,hr⟩:=F
 rw[DoD_,Bool.and_eq_true,List.all_eq_true] at hg
 have hmem:p∈d.Parts:=by
  obtain⟨_,_,h⟩:=is_1 hp
  exact List.mem_of_getElem? h
 obtain⟨_,_,h3⟩:=nBe_ hok ht
 have N:=h3 hg.1
 obtain⟨xs,a1,a2,a3,a4⟩:=N.rule
 obtain⟨vl,vr⟩:=vSV_ N.valid
 have hmem2:p.Sequent∈xs.map (prem d.Sequent d):=by rw[← a4]; exact List.mem_map_of_mem hmem
 obtain⟨x,hx,ex⟩:=List.mem_map.1 hmem2
 have h12:d.Rule≠1∧d.Rule≠2:=by
  constructor
  ·intro e; rw[al_ a1 (.inl e)] at hx; cases hx
  ·intro e; rw[al_ a1 (.inr e)] at hx; cases hx
 have hrr:=ar_ a1
 have b1:=vl.len
 have b2:=vr.len
 have b3:=(a3 x hx).1.len
 have b4:=(a3 x hx).2.len
 have e1:p.Sequent.Left.length=(dropI l (remI d true)).length+x.Left.length:=by
  rw[← ex,dIl_1 l d.Sequent.Left _ hl]; exact List.length_append
 have e2:p.Sequent.Right.length=(dropI r (remI d false)).length+x.Right.length:=by
  rw[← ex,dIl_1 r d.Sequent.Right _ hr]; exact List.length_append
 have c1:=dIl_ l (remI d true)
 have c2:=dIl_ r (remI d false)
 have hmain:∃ b,iDm_ d ⟨l,r⟩=some b∧slM_4 d l r=some b:=by
  unfold iDm_ slM_4
  rw[mOe_,oLe_,Option.bind_some,Option.bind_some]
  by_cases h15:d.Rule=15
  ·rw[decide_eq_true h15]; exact⟨true,rfl,rfl⟩
  ·rw[decide_eq_false h15]
   simp only[cond_false]
   have hm:=am_ a1 h15 (by omega) (by omega)
   cases ho:(mOn d.Rule).1
   ·rw[ho,cond_false] at hm
    simp only[cond_false]
    rw[ii_1 (xs:=r) hm.1 (by omega)]
    exact⟨_,rfl,rfl⟩
   ·rw[ho,cond_true] at hm
    simp only[cond_true]
    rw[ii_1 (xs:=l) hm.1 (by omega)]
    exact⟨_,rfl,rfl⟩
 obtain⟨b,m1,m2⟩:=hmain
 refine⟨dropI l (remI d true)++List.replicate (p.Sequent.Left.length-(dropI l (remI d true)).length) b,dropI r (remI d false)++List.replicate (p.Sequent.Right.length-(dropI r (remI d false)).length) b,?_,?_,⟨Dpo_ hok hmem,by have:=Dpt_ hmem; omega,hg.2 p hmem,by rw[List.length_append,List.length_replicate]; omega,by rw[List.length_append,List.length_replicate]; omega⟩⟩
 ·unfold iDp_
  rw[rMe_ d true (show l.length≤1000 by omega),Option.bind_some,rMe_ d false (show r.length≤1000 by omega),Option.bind_some,m1,Option.bind_some]
  simp only[hp,Option.bind_some]
  rw[fill (N:=p.Sequent.Left.length) (b:=b) (by omega) (by omega) (fun s=>rfl),tLi_,fill (N:=p.Sequent.Right.length) (b:=b) (by omega) (by omega) (fun s=>rfl),tLi_]
 ·unfold slM_2
  rw[m2,Option.bind_some,hp,Option.bind_some,re_1 h12 hrr,Option.bind_some,se_ _ _ (by omega) (by omega) (by omega),Option.bind_some,re_1 h12 hrr,Option.bind_some,se_ _ _ (by omega) (by omega) (by omega),Option.bind_some]
theorem al_1(pos:List Int)(F G:Nat→Derivation×List Bool×List Bool→Option (Flow (List Bool×List Bool×Bool) (Derivation×List Bool×List Bool)))
  (hF:∀ j s,j<pos.length→Fit s.1 s.2.1 s.2.2→(F j s=some (.rt ([],[],false))∧G j s=some (.rt ([],[],false)))∨∃ s',F j s=some (.nx s')∧G j s=some (.nx s')∧Fit s'.1 s'.2.1 s'.2.2):
  ∀ (n k:Nat) (s:Derivation×List Bool×List Bool),k+n=pos.length→Fit s.1 s.2.1 s.2.2→
   ∃ r:List Bool×List Bool×Bool,thenL (forN F n k s) (fun s=>some (s.2.1,s.2.2,true))=some r∧thenL (forN G n k s) (fun s=>some (s.2.1,s.2.2,true))=some r∧r.1.length≤10∧r.2.1.length≤10:=by
 intro n
 induction n with
 | zero=>
  intro k s _ h
  have hg:=h.good
  rw[DoD_,Bool.and_eq_true] at hg
  obtain⟨_,_,h3⟩:=nBe_ h.ok h.tot
  obtain⟨vl,vr⟩:=vSV_ (h3 hg.1).valid
  exact⟨(s.2.1,s.2.2,true),rfl,rfl,by rw[h.left]; exact vl.len,by rw[h.right]; exact vr.len⟩
 | succ n ih=>
  intro k s hk h
  rcases hF k s (by omega) h with⟨h1,h2⟩ | ⟨s',h1,h2,h3⟩
  ·rw[fNr_ h1,fNr_ h2]; exact⟨_,rfl,rfl,by simp,by simp⟩
  ·rw[fNn_ h1,fNn_ h2]; exact ih (k+1) s' (by omega) h3
theorem CAb_(d:Derivation)(pos:List Int)(hok:d.Ok)(ht:d.tot≤1048576):∃ r:List Bool×List Bool×Bool,iCA_ d pos=some r∧sCA_ d pos=some r∧r.1.length≤10∧r.2.1.length≤10:=by
 unfold iCA_ sCA_
 rw[vDi_1 d hok ht,vDs_1 d hok ht,Option.bind_some,Option.bind_some]
 cases hv:validD d
 ·exact⟨_,rfl,rfl,by simp,by simp⟩
 unfold validD at hv
 rw[Bool.and_eq_true] at hv
 have hg:=hv.2
 rw[DoD_,Bool.and_eq_true] at hg
 obtain⟨_,_,h3⟩:=nBe_ hok ht
 obtain⟨vl,vr⟩:=vSV_ (h3 hg.1).valid
 have b1:=vl.len
 have b2:=vr.len
 rw[cond_true,cond_true]
 unfold inM_
 rw[ml_3 (by omega),ml_3 (by omega)]
 simp only[Option.bind_some]
 refine al_1 pos _ _ (fun j s hj h=>?_) pos.length 0 (d,List.replicate d.Sequent.Left.length false,List.replicate d.Sequent.Right.length false) (by omega) ⟨hok,ht,hv.2,List.length_replicate,List.length_replicate⟩
 rw[igD_ hj]
 simp only[Option.bind_some,we_,lIe_]
 have hlen:=(Derivation.cnt_tot s.1)
 have hpl:s.1.Parts.length≤1048576:=by
  have h5:=h.tot
  have:s.1.Parts.length≤ltot Derivation.tot s.1.Parts:=by unfold ltot; omega
  rw[Derivation.tot_u] at h5; omega
 have w:IntKind.i64.wrap ((s.1.Parts.length:Int)-1)=(s.1.Parts.length:Int)-1:=by rw[wrap64]<;>omega
 rw[w]
 cases hi:inR (pos.getD j default) 0 ((s.1.Parts.length:Int)-1)
 ·exact .inl ⟨rfl,rfl⟩
 ·have hi':=hi
  unfold inR at hi'
  simp only[Bool.and_eq_true,decide_eq_true_eq] at hi'
  have hp:=ii_1 (xs:=s.1.Parts) hi'.1 (by omega)
  obtain⟨l',r',s1,s2,s3⟩:=ms_ h hp
  refine .inr ⟨(_,l',r'),?_,?_,s3⟩
  ·rw[cond_true,s1,Option.bind_some,hp]; rfl
  ·rw[cond_true,s2,Option.bind_some,hp]; rfl
theorem lo_{α:Type}(l:List α):lcn (fun _:α=>1) l=l.length:=by
 induction l with
 | nil=>rfl
 | cons a l ih=>rw[lc_,ih,List.length_cons]; omega
theorem FnExactCutAncestors_true(d:Derivation)(pos:List Int)(hok:d.Ok)(hpos:LOk InR pos):FnExactCutAncestors d pos=some true:=by
 unfold FnExactCutAncestors
 by_cases hs:(1048576:Int)<(pos.length:Int)
 ·rw[decide_eq_true hs]; rfl
 rw[decide_eq_false hs,cond_false,sDe_ d hok _ (by omega) (by omega),Option.bind_some]
 by_cases e:szR d.tot 1048576<0
 ·rw[decide_eq_true e]; rfl
 have ht:=szR_ok e
 obtain⟨r,g1,g2,g3,g4⟩:=CAb_ d pos hok ht
 obtain⟨y,m1,m2,m3,m4⟩:=mDo_ d ht
 have c0:=lo_ pos
 have c1:=lo_ r.1
 have c2:=lo_ r.2.1
 obtain⟨z0,k0⟩:=(mIS_2 pos).unit (k:=y.1) (by omega) (by omega)
 obtain⟨z1,k1,k2⟩:=(mBS_1 r.1).unit (k:=1) (by omega) (by omega)
 obtain⟨z2,k3,k4⟩:=(mBS_1 r.2.1).unit (k:=1+((lcn (fun _:Bool=>1) r.1:Nat):Int)) (by omega) (by omega)
 have d0:decide (y.1+((lcn (fun _:Int=>1) pos:Nat):Int)<0)=false:=decide_eq_false (by omega)
 have d1:decide ((1:Int)+((lcn (fun _:Bool=>1) r.1:Nat):Int)<0)=false:=decide_eq_false (by omega)
 have d2:decide ((1:Int)+((lcn (fun _:Bool=>1) r.1:Nat):Int)+((lcn (fun _:Bool=>1) r.2.1:Nat):Int)<0)=false:=decide_eq_false (by omega)
 rw[decide_eq_false e,cond_false]
 simp only[tDe_ d ht,tIS_1 pos (by rw[ltot0]; omega),Option.bind_some,g1,g2,eIS_,eBS_2,eDr_,cond_true,beq_self_eq_true,m1,m2,cond_false,k0,k1,k2,k3,k4,d0,d1,d2,decide_true]
end Go.Proofs.YtkoghcphkdecoaaGreat
