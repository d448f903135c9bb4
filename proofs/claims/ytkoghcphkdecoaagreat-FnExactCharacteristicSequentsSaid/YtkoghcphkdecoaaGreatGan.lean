/- A part of the proof: lemmas only; nothing is claimed here beyond what each lemma says. -/
import Derived.Test.YtkoghcphkdecoaaGreatGad
set_option linter.unusedSimpArgs false
set_option linter.unusedVariables false
set_option linter.defProp false
set_option maxRecDepth 4000
namespace Go.Proofs.YtkoghcphkdecoaaGreat
open Go.Av
open Bool renaming and_eq_true→aD
open List renaming length_append→aY,all_eq_true→a8
open Option renaming bind_some→ak
theorem fe_{ρ:Type}(N:Nat)(b:Bool)(f:List Bool→Option (Flow ρ (List Bool)))(hN:N≤1000)(hf:∀ s,f s=bif decide ((s.length:Int)<(N:Int)) then Option.bind (app s [b]) fun v=>some (.nx v) else some (.br s)):
 ∀ (k:Nat) (s:List Bool),s.length+k=N→Ev (fun n=>whileN f n s) (.inr (s++List.replicate k b))
 | 0,s,h=>by
  have:=ev_br (f:=f) (s:=s) (s':=s) (by rw[hf,decide_eq_false (by omega)]; rfl)
  simpa using this
 | k+1,s,h=>by
  have e:app s [b]=some (s++[b]):=by unfold app; rw[if_pos (by simp only[List.length_cons,List.length_nil]; omega)]
  have:=fe_ N b f hN hf k (s++[b]) (by simp only[aY,List.length_cons,List.length_nil]; omega)
  rw[List.append_assoc] at this
  exact ev_nx (s':=s++[b]) (by rw[hf,decide_eq_true (by omega),cond_true,e]; rfl) this
theorem fill{ρ:Type}{N:Nat}{b:Bool}{f:List Bool→Option (Flow ρ (List Bool))}{s:List Bool}(hN:N≤1000)(hs:s.length≤N)(hf:∀ s,f s=bif decide ((s.length:Int)<(N:Int)) then Option.bind (app s [b]) fun v=>some (.nx v) else some (.br s)):
 (lim fun n=>whileN f n s)=some (.inr (s++List.replicate (N-s.length) b)):=lim_eq (fe_ N b f hN hf (N-s.length) s (by omega))
theorem rMe_(d:Dt)(left:Bool){l:List Bool}(hl:l.length≤1000):iDr_ d l left=some (dropI l (remI d left)):=by
 unfold iDr_
 rw[kl_ l (remI d left) _ (fun j s hj hs=>?_),tLi_]
 rw[igD_ hj,ak,re_1 d left (by omega),ak]
 by_cases h:(j:Int)=remI d left
 ·rw[decide_eq_true h,if_pos h]; rfl
 ·rw[decide_eq_false h,if_neg h,cond_false,app,if_pos (by simp; omega)]; rfl
theorem re_2{d:Dt}(h:d.Rule≠1∧d.Rule≠2)(hr:inR d.Rule 1 15=true)(left:Bool):slR_1 d left=some (remI d left):=by
 unfold slR_1 remI stays
 rw[decide_eq_false h.1,decide_eq_false h.2,oLe_,cond_false,cond_false,ak]
 cases decide (d.Rule=11)<;>cases decide (d.Rule=14)<;>cases decide (d.Rule=15)<;>cases (mOn d.Rule).1<;>cases left<;>rfl
theorem se_{l:List Bool}(i:Int){n:Nat}(b:Bool)(hn:n≤1000)(hl:l.length≤1000)(hd:(dropI l i).length≤n):
 slS_9 l i (n:Int) b=some (dropI l i++List.replicate (n-(dropI l i).length) b):=by
 unfold slS_9
 rw[kl_ l i _ (fun j s hj hs=>?_),tLi_,fill (N:=n) (b:=b) hn hd (fun s=>rfl),tLi_]
 by_cases h:(j:Int)=i
 ·rw[decide_eq_true h,if_pos h]; rfl
 ·rw[decide_eq_false h,if_neg h,cond_false,igD_ hj,ak,app,if_pos (by simp; omega)]; rfl
structure Fit(d:Dt)(l r:List Bool):Prop where
 ok:d.Ok
 tot:d.tot≤1048576
 good:d.okD=true
 left:l.length=d.Sequent.Left.length
 right:r.length=d.Sequent.Right.length
theorem mb_{d:Dt}{l r:List Bool}(F:Fit d l r):∃ b,iDm_ d ⟨l,r⟩=some b∧slM_3 d l r=some b:=by
 obtain⟨hok,ht,hg,hl,hr⟩:=F
 rw[DoD_,aD,a8] at hg
 obtain⟨_,_,h3⟩:=nBe_ hok ht
 have N:=h3 hg.1
 obtain⟨xs,a1,a2,a3,a4⟩:=N.rule
 obtain⟨vl,vr⟩:=vSV_ N.valid
 have b1:=vl.len
 have b2:=vr.len
 unfold iDm_ slM_3
 rw[mOe_,oLe_,ak,ak]
 by_cases h15:d.Rule=15
 ·rw[decide_eq_true h15]; exact⟨true,rfl,rfl⟩
 ·rw[decide_eq_false h15]
  simp only[cond_false]
  have hm:=am_ a1 h15 (by omega) (by omega)
  cases ho:(mOn d.Rule).1
  ·rw[ho,cond_false] at hm
   simp only[cond_false]
   rw[ii_1 (xs:=r) hm.1 (by omega)]
   exact⟨_,rfl,rfl⟩
  ·rw[ho,cond_true] at hm
   simp only[cond_true]
   rw[ii_1 (xs:=l) hm.1 (by omega)]
   exact⟨_,rfl,rfl⟩
theorem ms_{d p:Dt}{l r:List Bool}{i:Int}(F:Fit d l r)(hp:idx d.Parts i=some p):
 ∃ l' r',iDp_ d ⟨l,r⟩ i=some ⟨l',r'⟩∧slM_2 d i l r=some (l',r')∧Fit p l' r':=by
 obtain⟨hok,ht,hg,hl,hr⟩:=F
 rw[DoD_,aD,a8] at hg
 have hmem:p∈d.Parts:=by
  obtain⟨_,_,h⟩:=is_1 hp
  exact List.mem_of_getElem? h
 obtain⟨_,_,h3⟩:=nBe_ hok ht
 have N:=h3 hg.1
 obtain⟨xs,a1,a2,a3,a4⟩:=N.rule
 obtain⟨vl,vr⟩:=vSV_ N.valid
 have hmem2:p.Sequent∈xs.map (prem d.Sequent d):=by rw[← a4]; exact List.mem_map_of_mem hmem
 obtain⟨x,hx,ex⟩:=List.mem_map.1 hmem2
 have h12:d.Rule≠1∧d.Rule≠2:=by
  constructor
  ·intro e; rw[al_ a1 (.inl e)] at hx; cases hx
  ·intro e; rw[al_ a1 (.inr e)] at hx; cases hx
 have hrr:=ar_ a1
 have b1:=vl.len
 have b2:=vr.len
 have b3:=(a3 x hx).1.len
 have b4:=(a3 x hx).2.len
 have e1:p.Sequent.Left.length=(dropI l (remI d true)).length+x.Left.length:=by
  rw[← ex,dIl_1 l d.Sequent.Left _ hl]; exact aY
 have e2:p.Sequent.Right.length=(dropI r (remI d false)).length+x.Right.length:=by
  rw[← ex,dIl_1 r d.Sequent.Right _ hr]; exact aY
 have c1:=dIl_ l (remI d true)
 have c2:=dIl_ r (remI d false)
 have hmain:=mb_ (⟨hok,ht,by rw[DoD_,aD,a8]; exact hg,hl,hr⟩:Fit d l r)
 obtain⟨b,m1,m2⟩:=hmain
 refine⟨dropI l (remI d true)++List.replicate (p.Sequent.Left.length-(dropI l (remI d true)).length) b,dropI r (remI d false)++List.replicate (p.Sequent.Right.length-(dropI r (remI d false)).length) b,?_,?_,⟨Dpo_ hok hmem,by have:=Dpt_ hmem; omega,hg.2 p hmem,by rw[aY,List.length_replicate]; omega,by rw[aY,List.length_replicate]; omega⟩⟩
 ·unfold iDp_
  rw[rMe_ d true (show l.length≤1000 by omega),ak,rMe_ d false (show r.length≤1000 by omega),ak,m1,ak]
  simp only[hp,ak]
  rw[fill (N:=p.Sequent.Left.length) (b:=b) (by omega) (by omega) (fun s=>rfl),tLi_,fill (N:=p.Sequent.Right.length) (b:=b) (by omega) (by omega) (fun s=>rfl),tLi_]
 ·unfold slM_2
  rw[m2,ak,hp,ak,re_2 h12 hrr,ak,se_ _ _ (by omega) (by omega) (by omega),ak,re_2 h12 hrr,ak,se_ _ _ (by omega) (by omega) (by omega),ak]
end Go.Proofs.YtkoghcphkdecoaaGreat
