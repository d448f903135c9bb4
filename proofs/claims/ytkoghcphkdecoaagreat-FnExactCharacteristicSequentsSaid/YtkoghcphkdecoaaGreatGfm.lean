/- A part of the proof: lemmas only; nothing is claimed here beyond what each lemma says. -/
import Derived.Test.YtkoghcphkdecoaaGreatGxA
set_option linter.unusedSimpArgs false
set_option linter.unusedVariables false
set_option linter.defProp false
set_option maxRecDepth 4000
namespace Go.Proofs.YtkoghcphkdecoaaGreat
open Go.Av
open List renaming map_cons→aM,sum_cons→bx
open Option renaming bind_some→ak
open SizeOf renaming sizeOf→aw
def zeroT(t:Tt):Bool:=decide (t.Name=(⟨#[]⟩:ByteArray))&&t.Args.isEmpty
theorem zTi_(t:Tt):iiZ_1 t=some (zeroT t):=by
 unfold iiZ_1 zeroT
 rw[iEd_]
 cases decide (t.Name=(⟨#[]⟩:ByteArray))<;>rfl
theorem zTs_(t:Tt):slN_3 t=some (zeroT t):=zTi_ t
def atomT(t:Tt):Bool:=bif decide (t.Name=(⟨#[61]⟩:ByteArray)) then decide (t.Args.length=2)&&(smallT t&&t.Args.all Tt.good) else isSymS t.Name&&goodT t
theorem ta_{l:List Tt}(h:l.length=2):∃ x y,l=[x,y]:=by
 match l,h with
 | [x,y],_=>exact⟨x,y,rfl⟩
theorem hNo_(t:Tt)(hok:t.Ok):ihN_2 t=some t.good:=lim_eq ⟨_,ihN_5 t hok⟩
theorem lNo_(t:Tt)(hok:t.Ok):slN_6 t=some t.good:=lim_eq ⟨_,slN_9 t hok⟩
theorem ai_1(t:Tt)(h:t.tot≤1048576)(hok:t.Ok):iIV_1 t=some (atomT t):=by
 unfold iIV_1 atomT iiE_
 obtain⟨hx,hl,hall⟩:=hok.u
 rw[iSe_ _ hx,IVT_ t h hok,iSo_ t h]
 simp only[ak]
 cases decide (t.Name=(⟨#[61]⟩:ByteArray))
 ·simp only[cond_false]; cases isSymS t.Name<;>rfl
 ·by_cases h2:t.Args.length=2
  ·obtain⟨x,y,e⟩:=ta_ h2
   rw[decide_eq_true (show(t.Args.length:Int)=2 by omega),decide_eq_true h2]
   simp only[cond_true,Bool.true_and]
   cases smallT t
   ·rfl
   ·rw[e] at hall ⊢
    rw[show(0:Int)=((0:Nat):Int) from rfl,show(1:Int)=((1:Nat):Int) from rfl,in_,in_]
    simp only[List.getElem?_cons_zero,List.getElem?_cons_succ,ak,hNo_ x (hall x (by simp)),hNo_ y (hall y (by simp)),cond_true,Bool.true_and,List.all_cons,List.all_nil,Bool.and_true]
    cases x.good<;>rfl
  ·rw[decide_eq_false (show ¬ (t.Args.length:Int)=2 by omega),decide_eq_false h2]; rfl
theorem as_1(t:Tt)(h:t.tot≤1048576)(hok:t.Ok):slA_1 t=some (atomT t):=by
 unfold slA_1 atomT
 obtain⟨hx,hl,hall⟩:=hok.u
 rw[lSe_ _ hx,lGo_ t h hok,lFo_ t h]
 simp only[ak]
 cases decide (t.Name=(⟨#[61]⟩:ByteArray))
 ·simp only[cond_false]; cases isSymS t.Name<;>rfl
 ·by_cases h2:t.Args.length=2
  ·obtain⟨x,y,e⟩:=ta_ h2
   rw[decide_eq_true (show(t.Args.length:Int)=2 by omega),decide_eq_true h2]
   simp only[cond_true,Bool.true_and]
   cases smallT t
   ·rfl
   ·rw[e] at hall ⊢
    rw[show(0:Int)=((0:Nat):Int) from rfl,show(1:Int)=((1:Nat):Int) from rfl,in_,in_]
    simp only[List.getElem?_cons_zero,List.getElem?_cons_succ,ak,lNo_ x (hall x (by simp)),lNo_ y (hall y (by simp)),cond_true,Bool.true_and,List.all_cons,List.all_nil,Bool.and_true]
    cases x.good<;>rfl
  ·rw[decide_eq_false (show ¬ (t.Args.length:Int)=2 by omega),decide_eq_false h2]; rfl
mutual
def Ft.cnt:Ft→Nat
 | .mk _ _ _ l=>1+Ft.cnts l
def Ft.cnts:List Ft→Nat
 | []=>0
 | a::l=>a.cnt+Ft.cnts l
end
theorem Ft.cnts_eq(l:List Ft):Ft.cnts l=(l.map Ft.cnt).sum:=by
 induction l with
 | nil=>rfl
 | cons a l ih=>rw[Ft.cnts,ih,aM,bx]
theorem Ft.cnt_u(a:Ft):a.cnt=1+(a.Parts.map Ft.cnt).sum:=by cases a; rw[Ft.cnt,Ft.cnts_eq]; rfl
theorem sll_{α:Type}{c t:α→Nat}:∀ l:List α,(∀ a∈l,c a≤1+t a)→(l.map c).sum≤ltot t l
 | [],_=>by simp[ltot]
 | a::l,h=>by
  have h1:=h a (by simp)
  have h2:=sll_ l (fun b hb=>h b (by simp[hb]))
  simp only[ltot,aM,bx,List.length_cons] at h2 ⊢
  omega
theorem Ft.cnt_tot(t:Ft):t.cnt≤1+t.tot:=by
 refine Ft.ind' (M:=fun t=>t.cnt≤1+t.tot) (fun t ih=>?_) t
 rw[Ft.cnt_u,Ft.tot_u]
 have:=sll_ (c:=Ft.cnt) (t:=Ft.tot) t.Parts ih
 omega
theorem Ft.cnt_pos(t:Ft):1≤t.cnt:=by rw[Ft.cnt_u]; omega
theorem gl_1{α:Type}(cnt:α→Nat)(L:Nat)(hL:L≤1000)(f:α→Option Int):∀ (l:List α) (i:Nat) (s:Int) (c0:Nat),(∀ a∈l,∃ r,f a=some r∧Cap L (cnt a) r)→1≤s→s≤c0→(c0≤L→s=c0)→(L<c0→L<s)→c0+(l.map cnt).sum≤2097152→
 ∃ r,thenL (ρ:=Int) (forL (fun _ v s=>bif decide ((L:Int)<s) then some (.rt s) else(f v).bind fun w=>some (.nx (wr (s+w)))) l i s) (fun s=>some s)=some r∧Cap L (c0+(l.map cnt).sum) r
 | [],i,s,c0,_,h1,h2,h3,h4,_=>⟨s,rfl,by simpa using⟨h1,h2,h3,h4⟩⟩
 | a::l,i,s,c0,hf,h1,h2,h3,h4,hb=>by
  simp only[aM,bx] at hb ⊢
  by_cases e:(L:Int)<s
  ·rw[fLr_ (r:=s) (by rw[decide_eq_true e]; rfl),tLi_1]
   exact⟨s,rfl,h1,by omega,fun g=>by omega,fun _=>e⟩
  ·obtain⟨r,hr,c1,c2,c3,c4⟩:=hf a (by simp)
   have hs:s=c0:=h3 (by omega)
   rw[fLn_ (s':=wr (s+r)) (by rw[decide_eq_false e,cond_false,hr]; rfl),wr64 (by omega) (by omega)]
   have:=gl_1 cnt L hL f l (i+1) (s+r) (c0+cnt a) (fun b hb=>hf b (by simp[hb])) (by omega) (by omega) (fun g=>by have:=c3 (by omega); omega) (fun g=>by
    by_cases g2:cnt a≤L
    ·have:=c3 g2; omega
    ·have:=c4 (by omega); omega) (by omega)
   rwa [Nat.add_assoc] at this
theorem gl_2{α:Type}(cnt:α→Nat)(M:Nat)(hM:M≤1000)(f:α→Int→Option Int)(L:Nat)(hL:L≤M):∀ (l:List α) (i:Nat) (s:Int) (c0:Nat),(∀ a∈l,∀ L':Nat,L'≤M→∃ r,f a L'=some r∧Cap L' (cnt a) r)→1≤s→s≤c0→(c0≤L→s=c0)→(L<c0→L<s)→c0+(l.map cnt).sum≤2097152→
 ∃ r,thenL (ρ:=Int) (forL (fun _ v s=>bif decide (s≤(L:Int)) then(f v (wr ((L:Int)-s))).bind fun w=>some (.nx (wr (s+w))) else some (.rt s)) l i s) (fun s=>some s)=some r∧Cap L (c0+(l.map cnt).sum) r
 | [],i,s,c0,_,h1,h2,h3,h4,_=>⟨s,rfl,by simpa using⟨h1,h2,h3,h4⟩⟩
 | a::l,i,s,c0,hf,h1,h2,h3,h4,hb=>by
  simp only[aM,bx] at hb ⊢
  by_cases e:s≤(L:Int)
  ·have hs:s=c0:=h3 (by omega)
   have eL:wr ((L:Int)-s)=((L-c0:Nat):Int):=by rw[wr64 (by omega) (by omega)]; omega
   obtain⟨r,hr,c1,c2,c3,c4⟩:=hf a (by simp) (L-c0) (by omega)
   rw[fLn_ (s':=wr (s+r)) (by rw[decide_eq_true e,cond_true,eL,hr]; rfl),wr64 (by omega) (by omega)]
   have:=gl_2 cnt M hM f L hL l (i+1) (s+r) (c0+cnt a) (fun b hb=>hf b (by simp[hb])) (by omega) (by omega) (fun g=>by have:=c3 (by omega); omega) (fun g=>by
    by_cases g2:cnt a≤L-c0
    ·omega
    ·have:=c4 (by omega); omega) (by omega)
   rwa [Nat.add_assoc] at this
  ·rw[fLr_ (r:=s) (by rw[decide_eq_false e]; rfl),tLi_1]
   exact⟨s,rfl,h1,by omega,fun g=>by omega,fun _=>by omega⟩
theorem sOe_(t:Ft):t.cnt≤2097152→∃ r,(∀ n,2*aw t≤n→isO_ n t=some r)∧Cap 40 t.cnt r:=by
 refine Ft.ind' (M:=fun t=>t.cnt≤2097152→∃ r,(∀ n,2*aw t≤n→isO_ n t=some r)∧Cap 40 t.cnt r) (fun t ih hc=>?_) t
 rw[Ft.cnt_u] at hc ⊢
 have hp:=t.pos
 obtain⟨R,hR⟩:=mc_ (fun a ha=>ih a ha (by have:=lsm_ Ft.cnt ha; omega))
 obtain⟨r,h1,h2⟩:=gl_1 Ft.cnt 40 (by omega) (fun a=>some (R a)) t.Parts 0 1 1 (fun a ha=>⟨R a,rfl,(hR a ha).2⟩) (by omega) (by omega) (by omega) (by omega) hc
 refine⟨r,fun n hn=>?_,h2⟩
 cases n with
 | zero=>omega
 | succ n=>
  rw[isO_]
  simp only[fNi_]
  rw[← h1]
  congr 1
  refine fLc_ t.Parts 0 1 (fun j a s ha=>?_)
  have ha:=List.mem_of_getElem? ha
  have:=Ft.lt ha
  simp only[(hR a ha).1 n (by omega)]
  rfl
theorem sOo_4(t:Ft)(h:t.tot≤1048576):∃ r,isO_1 t=some r∧Cap 40 t.cnt r:=by
 obtain⟨r,h1,h2⟩:=sOe_ t (by have:=Ft.cnt_tot t; omega)
 exact⟨r,lim_eq ⟨_,h1⟩,h2⟩
theorem lMs_(t:Ft):∀ n m,2*aw t≤n→2*aw t≤m→∀ L,slM_ n t L=slM_ m t L:=by
 refine Ft.ind' (M:=fun t=>∀ n m,2*aw t≤n→2*aw t≤m→∀ L,slM_ n t L=slM_ m t L) (fun t ih n m hn hm L=>?_) t
 have hp:=t.pos
 cases n with
 | zero=>omega
 | succ n=>
  cases m with
  | zero=>omega
  | succ m=>
   rw[slM_,slM_]
   congr 1
   refine fNc_ _ _ _ (fun j s hj=>?_)
   simp only[Nat.zero_add] at hj ⊢
   rw[igD_ hj]
   simp only[ak]
   have hm':=gDm_ hj
   have:=Ft.lt hm'
   rw[ih _ hm' n m (by omega) (by omega)]
theorem lMe_(t:Ft):t.cnt≤2097152→∀ n,2*aw t≤n→∀ L:Nat,L≤40→∃ r,slM_ n t L=some r∧Cap L t.cnt r:=by
 refine Ft.ind' (M:=fun t=>t.cnt≤2097152→∀ n,2*aw t≤n→∀ L:Nat,L≤40→∃ r,slM_ n t L=some r∧Cap L t.cnt r) (fun t ih hc n hn L hL=>?_) t
 rw[Ft.cnt_u] at hc ⊢
 have hp:=t.pos
 cases n with
 | zero=>omega
 | succ n=>
  rw[slM_]
  obtain⟨r,h1,h2⟩:=gl_2 Ft.cnt 40 (by omega) (slM_ n) L hL t.Parts 0 1 1 (fun a ha L' hL'=>ih a ha (by have:=lsm_ Ft.cnt ha; omega) n (by have:=Ft.lt ha; omega) L' hL') (by omega) (by omega) (by omega) (by omega) hc
  refine⟨r,?_,h2⟩
  rw[← h1]
  congr 1
  refine fNf_ _ _ t.Parts 0 1 (fun j a s ha=>?_)
  simp only[Nat.zero_add,in_,ha,ak]
theorem lMo_(t:Ft)(h:t.tot≤1048576):∃ r,slM_7 t 40=some r∧Cap 40 t.cnt r:=by
 obtain⟨r,h1,h2⟩:=lMe_ t (by have:=Ft.cnt_tot t; omega) _ (Nat.le_refl _) 40 (by omega)
 exact⟨r,lim_st (fun n hn=>lMs_ t _ _ hn (Nat.le_refl _) _) h1,h2⟩
def formC(o:Int)(t:Tt)(v:ByteArray)(k:Nat):Bool:=
 bif decide (o=3) then decide (k=0)&&(atomT t&&decide (v=(⟨#[]⟩:ByteArray)))
 else bif decide (o=8)||decide (o=9) then decide (k=1)&&(zeroT t&&isVarS v)
 else(bif decide (o=1)||decide (o=2) then decide (k=0) else bif decide (o=4) then decide (k=1) else bif decide (o=5)||(decide (o=6)||decide (o=7)) then decide (k=2) else false)&&(zeroT t&&decide (v=(⟨#[]⟩:ByteArray)))
theorem oc_(o:Int):o=1∨o=2∨o=3∨o=4∨o=5∨o=6∨o=7∨o=8∨o=9∨(o≠1∧o≠2∧o≠3∧o≠4∧o≠5∧o≠6∧o≠7∧o≠8∧o≠9):=by omega
theorem lFo_1(a:Ft)(h:a.tot≤1048576)(hok:a.Ok):slF_3 a=some (formC a.Op a.Atom a.Var a.Parts.length):=by
 obtain⟨h1,h2,h3,h4⟩:=hok.u
 have ht:=a.tot_u
 unfold slF_3 formC
 have e0:decide ((a.Parts.length:Int)=0)=decide (a.Parts.length=0):=decide_eq_decide.2 (by omega)
 have e1:decide ((a.Parts.length:Int)=1)=decide (a.Parts.length=1):=decide_eq_decide.2 (by omega)
 have e2:decide ((a.Parts.length:Int)=2)=decide (a.Parts.length=2):=decide_eq_decide.2 (by omega)
 rw[zTs_,as_1 _ (by omega) h2,lVe_ _ h3,e0,e1,e2]
 simp only[ak]
 generalize zeroT a.Atom=z
 generalize atomT a.Atom=y
 generalize isVarS a.Var=x
 generalize decide (a.Parts.length=0)=k0
 generalize decide (a.Parts.length=1)=k1
 generalize decide (a.Parts.length=2)=k2
 generalize decide (a.Var=(⟨#[]⟩:ByteArray))=u
 rcases oc_ a.Op with e | e | e | e | e | e | e | e | e | ⟨g1,g2,g3,g4,g5,g6,g7,g8,g9⟩
 all_goals first | (simp only[e]; revert z y x k0 k1 k2 u; decide) | (simp only[g1,g2,g3,g4,g5,g6,g7,g8,g9]; rfl)
mutual
def Ft.good:Ft→Bool
 | .mk o t v l=>formC o t v l.length&&Ft.goods l
def Ft.goods:List Ft→Bool
 | []=>true
 | a::l=>a.good&&Ft.goods l
end
theorem Ft.goods_eq(l:List Ft):Ft.goods l=l.all Ft.good:=by
 induction l with
 | nil=>rfl
 | cons a l ih=>rw[Ft.goods,ih]; rfl
theorem Ft.good_u(a:Ft):a.good=(formC a.Op a.Atom a.Var a.Parts.length&&a.Parts.all Ft.good):=by cases a; rw[Ft.good,Ft.goods_eq]; rfl
theorem lm_{α:Type}{t:α→Nat}{l:List α}{a:α}(h:a∈l):t a≤ltot t l:=by have:=tm_ t h; omega
theorem lFe_(a:Ft):a.Ok→a.tot≤1048576→∀ n,3*aw a≤n→slF_ n a=some a.good:=by
 refine Ft.ind' (M:=fun a=>a.Ok→a.tot≤1048576→∀ n,3*aw a≤n→slF_ n a=some a.good) (fun a ih hok ht n hn=>?_) a
 obtain⟨h1,h2,h3,h4,hall⟩:=hok.u
 have hpos:=a.pos
 have htu:=a.tot_u
 cases n with
 | zero=>omega
 | succ n=>
  rw[slF_,lFo_1 a ht hok,Ft.good_u,ak]
  cases formC a.Op a.Atom a.Var a.Parts.length
  ·rfl
  ·rw[cond_true,Bool.true_and,fNa_ (fun j=>(a.Parts.getD j default).good) (fun j hj _=>?_),ral_ a.Parts Ft.good]
   ·cases a.Parts.all Ft.good<;>rfl
   ·have ha:=gDm_ hj
    have hs:=Ft.lt ha
    have hm:=lm_ (t:=Ft.tot) ha
    simp only[igD_ hj,ak,ih _ ha (hall _ ha) (by omega) n (by omega)]
    cases (a.Parts.getD j default).good<;>rfl
theorem isQ_eq(x:Int):iiQ_2 x=some (decide (x=8)||decide (x=9)):=by
 unfold iiQ_2
 cases decide (x=8)<;>rfl
theorem iBe_(x:Int):iiB_ x=some (decide (x=5)||(decide (x=6)||decide (x=7))):=by
 unfold iiB_
 cases decide (x=5)<;>cases decide (x=6)<;>rfl
theorem contFm{p:Ft→Bool}{f:Ft→Option Bool}(l:List Ft)(h:∀ a∈l,f a=some (p a)):sCF_ l f=some (l.any p):=by
 unfold sCF_ sIF_
 exact fl_1 (p:=p) l h
theorem hFe_(a:Ft):a.Ok→a.tot≤1048576→∀ n,3*aw a≤n→ihF_1 n a=some a.good:=by
 refine Ft.ind' (M:=fun a=>a.Ok→a.tot≤1048576→∀ n,3*aw a≤n→ihF_1 n a=some a.good) (fun a ih hok ht n hn=>?_) a
 obtain⟨h1,h2,h3,h4,hall⟩:=hok.u
 have hpos:=a.pos
 have htu:=a.tot_u
 cases n with
 | zero=>omega
 | succ n=>
  have hc:sCF_ a.Parts (fun y0=>ihF_ n y0)=some (!a.Parts.all Ft.good):=by
   rw[contFm (p:=fun x=>!x.good) a.Parts (fun x hx=>?_),List.all_eq_not_any_not,Bool.not_not]
   have hs:=Ft.lt hx
   have hm:=lm_ (t:=Ft.tot) hx
   cases n with
   | zero=>omega
   | succ n=>rw[ihF_,ih x hx (hall x hx) (by omega) n (by omega)]; rfl
  have e0:decide ((a.Parts.length:Int)=0)=decide (a.Parts.length=0):=decide_eq_decide.2 (by omega)
  have e1:decide ((a.Parts.length:Int)=1)=decide (a.Parts.length=1):=decide_eq_decide.2 (by omega)
  have e2:decide ((a.Parts.length:Int)=2)=decide (a.Parts.length=2):=decide_eq_decide.2 (by omega)
  rw[ihF_1,Ft.good_u]
  unfold formC
  simp only[hc,e0,e1,e2,isQ_eq,iBe_,iVe_ _ h3,zTi_,ai_1 _ (show a.Atom.tot≤1048576 by omega) h2,ak]
  clear hc e0 e1 e2 ih
  generalize zeroT a.Atom=z
  generalize atomT a.Atom=y
  generalize isVarS a.Var=x
  generalize decide (a.Parts.length=0)=k0
  generalize decide (a.Parts.length=1)=k1
  generalize decide (a.Parts.length=2)=k2
  generalize decide (a.Var=(⟨#[]⟩:ByteArray))=u
  generalize a.Parts.all Ft.good=w
  rcases oc_ a.Op with e | e | e | e | e | e | e | e | e | ⟨g1,g2,g3,g4,g5,g6,g7,g8,g9⟩
  all_goals first | (simp only[e]; clear e htu; revert z y x k0 k1 k2 u w; decide) | (simp only[g1,g2,g3,g4,g5,g6,g7,g8,g9]; rfl)
def validF(a:Ft):Bool:=decide (a.cnt≤40)&&a.good
theorem vFi_1(a:Ft)(h:a.tot≤1048576)(hok:a.Ok):iIV_2 a=some (validF a):=by
 obtain⟨r,h1,h2⟩:=sOo_4 a h
 unfold iIV_2 validF
 rw[h1,ak,show decide (r≤40)=decide (a.cnt≤40) from h2.le,show ihF_3 a=some a.good from lim_eq ⟨_,hFe_ a hok h⟩]
 cases decide (a.cnt≤40)<;>rfl
theorem vFs_(a:Ft)(h:a.tot≤1048576)(hok:a.Ok):slG_2 a=some (validF a):=by
 obtain⟨r,h1,h2⟩:=lMo_ a h
 unfold slG_2 validF
 rw[h1,ak,show decide (r≤40)=decide (a.cnt≤40) from h2.le,show slF_6 a=some a.good from lim_eq ⟨_,lFe_ a hok h⟩]
 cases decide (a.cnt≤40)<;>rfl
theorem ss_(l:List Ft)(hok:∀ a∈l,a.Ok)(ht:ltot Ft.tot l≤1048576):slS_10 l=some (decide (l.length≤10)&&l.all validF):=by
 unfold slS_10
 have hd:decide ((l.length:Int)≤10)=decide (l.length≤10):=decide_eq_decide.2 (by omega)
 rw[hd]
 rw[fNa_ (fun j=>decide (j≤10)&&validF (l.getD j default)) (r0:=false) (fun j hj _=>?_)]
 ·by_cases h:l.length≤10
  ·rw[decide_eq_true h,ral_2 l _ validF (fun i hi=>by rw[decide_eq_true (show i≤10 by omega)]; rfl)]
   cases l.all validF<;>rfl
  ·rw[decide_eq_false h]
   cases (List.range l.length).all fun j=>decide (j≤10)&&validF (l.getD j default)<;>rfl
 ·have hm:=gDm_ hj
  have:=lm_ (t:=Ft.tot) hm
  simp only[igD_ hj,ak,vFs_ _ (show(l.getD j default).tot≤1048576 by omega) (hok _ hm)]
  by_cases h:j≤10
  ·rw[decide_eq_true h,decide_eq_true (show(j:Int)≤10 by omega)]
   cases validF (l.getD j default)<;>rfl
  ·rw[decide_eq_false h,decide_eq_false (show ¬ (j:Int)≤10 by omega),decide_eq_false (show ¬ l.length≤10 by omega)]; rfl
def validS(s:Sa):Bool:=(decide (s.Left.length≤10)&&s.Left.all validF)&&(decide (s.Right.length≤10)&&s.Right.all validF)
theorem vSs_(s:Sa)(hok:s.Ok)(ht:s.tot≤1048576):slG_ s=some (validS s):=by
 unfold slG_ validS
 unfold Sa.tot at ht
 rw[ss_ s.Left hok.1.2 (by omega),ss_ s.Right hok.2.2 (by omega),ak,ak]
 cases decide (s.Left.length≤10)&&s.Left.all validF<;>rfl
theorem vSi_(s:Sa)(hok:s.Ok)(ht:s.tot≤1048576):iIV_3 s=some (validS s):=by
 unfold iIV_3 validS
 unfold Sa.tot at ht
 have key:∀ l:List Ft,(∀ a∈l,a.Ok)→ltot Ft.tot l≤1048576→sCF_ l (fun y0=>iIV_5 y0)=some (!l.all validF):=fun l hk hl=>by
  rw[contFm (p:=fun x=>!validF x) l (fun x hx=>?_),List.all_eq_not_any_not,Bool.not_not]
  have:=lm_ (t:=Ft.tot) hx
  unfold iIV_5
  rw[vFi_1 x (by omega) (hk x hx)]; rfl
 rw[key s.Left hok.1.2 (by omega),key s.Right hok.2.2 (by omega),show decide ((s.Left.length:Int)≤10)=decide (s.Left.length≤10) from decide_eq_decide.2 (by omega),show decide ((s.Right.length:Int)≤10)=decide (s.Right.length≤10) from decide_eq_decide.2 (by omega)]
 simp only[ak]
 generalize decide (s.Left.length≤10)=a
 generalize decide (s.Right.length≤10)=b
 generalize s.Left.all validF=c
 generalize s.Right.all validF=d
 revert a b c d; decide
end Go.Proofs.YtkoghcphkdecoaaGreat
