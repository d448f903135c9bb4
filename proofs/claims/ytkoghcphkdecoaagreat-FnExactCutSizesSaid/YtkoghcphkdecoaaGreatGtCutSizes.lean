/- A part of the proof: lemmas only; nothing is claimed here beyond what each lemma says. -/
import Derived.Test.YtkoghcphkdecoaaGreatGad
set_option linter.unusedSimpArgs false
set_option linter.unusedVariables false
set_option linter.defProp false
set_option maxRecDepth 4000
namespace Go.Proofs.YtkoghcphkdecoaaGreat
open Go.Av
theorem cl_3{ρ:Type}(cnt:Formula→Nat)(f:Formula→Option Int):∀ (l:List Formula) (i:Nat) (c0:Nat),(∀ a∈l,f a=some (cnt a:Int))→c0+(l.map cnt).sum≤2097152→
  forL (ρ:=ρ) (fun _ v (s:Int)=>(f v).bind fun w=>some (.nx (IntKind.i64.wrap (s+w)))) l i (c0:Int)=some (.inr ((c0+(l.map cnt).sum:Nat):Int))
 | [],i,c0,_,_=>by simp[forL]
 | a::l,i,c0,h,hb=>by
  simp only[List.map_cons,List.sum_cons] at hb ⊢
  have w:IntKind.i64.wrap ((c0:Int)+(cnt a:Int))=((c0+cnt a:Nat):Int):=by rw[wrap64]<;>omega
  rw[fLn_ (s':=((c0+cnt a:Nat):Int)) (by rw[h a (by simp),Option.bind_some,w]),cl_3 cnt f l (i+1) (c0+cnt a) (fun b hb=>h b (by simp[hb])) (by omega),Nat.add_assoc]
theorem lSe_5(t:Formula):t.cnt≤2097152→∀ n,2*SizeOf.sizeOf t≤n→slS_3 n t=some (t.cnt:Int):=by
 refine Formula.ind' (M:=fun t=>t.cnt≤2097152→∀ n,2*SizeOf.sizeOf t≤n→slS_3 n t=some (t.cnt:Int)) (fun t ih hc n hn=>?_) t
 rw[Formula.cnt_u] at hc ⊢
 have hp:=t.pos
 cases n with
 | zero=>omega
 | succ n=>
  rw[slS_3]
  simp only[fNi_]
  have:=cl_3 (ρ:=Int) Formula.cnt (slS_3 n) t.Parts 0 1 (fun a ha=>ih a ha (by have:=lsm_ Formula.cnt ha; omega) n (by have:=Formula.lt ha; omega)) hc
  rw[show(1:Int)=((1:Nat):Int) from rfl,this]; rfl
theorem sc_3{f:Formula}(h:validF f=true):isO_1 f=some (f.cnt:Int)∧slS_20 f=some (f.cnt:Int):=by
 have h1:=(vFi_ h).1
 obtain⟨r,h2,h3⟩:=sOo_3 f (by have:=vFt_ h; omega)
 have h4:=h3.2.2.1 h1
 exact⟨by rw[h2,h4],lim_eq ⟨_,lSe_5 f (by omega)⟩⟩
theorem fl_{ρ:Type}(R:Derivation→List Int):∀ (l:List Derivation) (i:Nat) (s:List Int),s.length+(l.map fun a=>(R a).length).sum≤1000000→
  forL (ρ:=ρ) (fun _ a (s:List Int)=>Option.bind (app s (R a)) fun v=>some (.nx v)) l i s=some (.inr (s++(l.map R).flatten))
 | [],i,s,_=>by simp[forL]
 | a::l,i,s,h=>by
  simp only[List.map_cons,List.sum_cons,List.flatten_cons] at h ⊢
  have e:app s (R a)=some (s++R a):=by unfold app; rw[if_pos (by omega)]
  rw[fLn_ (s':=s++R a) (by rw[e]; rfl),fl_ R l (i+1) (s++R a) (by rw[List.length_append]; omega),List.append_assoc]
theorem sls_{α:Type}{f g:α→Nat}:∀ l:List α,(∀ a∈l,f a≤g a)→(l.map f).sum≤(l.map g).sum
 | [],_=>Nat.le_refl _
 | a::l,h=>by
  have h1:=h a (by simp)
  have h2:=sls_ l (fun b hb=>h b (by simp[hb]))
  simp only[List.map_cons,List.sum_cons]; omega
theorem sb_(d:Derivation):d.Ok→d.tot≤1048576→d.cnt≤100000→d.okD=true→∃ l:List Int,(∀ n,2*SizeOf.sizeOf d≤n→icS_ n d=some l∧slS_1 n d=some l)∧l.length≤d.cnt:=by
 refine Derivation.ind' (M:=fun d=>d.Ok→d.tot≤1048576→d.cnt≤100000→d.okD=true→∃ l:List Int,(∀ n,2*SizeOf.sizeOf d≤n→icS_ n d=some l∧slS_1 n d=some l)∧l.length≤d.cnt) (fun d ih hok ht hc hd=>?_) d
 have hp:=d.pos
 rw[DoD_1,Bool.and_eq_true,List.all_eq_true] at hd
 rw[Derivation.cnt_u] at hc ⊢
 obtain⟨R,hR⟩:=mc_ (fun a ha=>ih a ha (Dpo_ hok ha) (by have:=Dpt_ ha; omega) (by have:=lsm_ Derivation.cnt ha; omega) (hd.2 a ha))
 have hs:=sls_ (f:=fun a=>(R a).length) (g:=Derivation.cnt) d.Parts (fun a ha=>(hR a ha).2)
 obtain⟨_,_,h3⟩:=nBe_ hok ht
 obtain⟨xs,a1,_,_,_⟩:=(h3 hd.1).rule
 have hlen:((d.Parts.map R).flatten).length≤(d.Parts.map Derivation.cnt).sum:=by
  rw[List.length_flatten,List.map_map]; exact hs
 have cI:∀ n,2*SizeOf.sizeOf d≤n+1→∀ s:List Int,s.length≤1→thenL (ρ:=(List Int)) (σ:=(List Int)) (forN (fun (i5:Nat) (s5:(List Int))=>
    Option.bind (idx d.Parts (i5:Int)) fun v21=>Option.bind (icS_ n v21) fun v25=>Option.bind (app s5 v25) fun v26=>some (.nx v26)) d.Parts.length 0 s) (fun s5=>some s5)=some (s++(d.Parts.map R).flatten):=fun n hn s hs1=>by
  simp only[fNi_]
  rw[fLc_ (g:=fun _ a (s:List Int)=>Option.bind (app s (R a)) fun v=>some (.nx v)) d.Parts 0 s (fun j a s ha=>by
   have ha:=List.mem_of_getElem? ha
   have:=Derivation.lt ha
   rw[((hR a ha).1 n (by omega)).1,Option.bind_some]),fl_ R d.Parts 0 s (by omega)]; rfl
 have cS:∀ n,2*SizeOf.sizeOf d≤n+1→∀ s:List Int,s.length≤1→thenL (ρ:=(List Int)) (σ:=(List Int)) (forN (fun (i5:Nat) (s5:(List Int))=>
    Option.bind (idx d.Parts (i5:Int)) fun v21=>Option.bind (slS_1 n v21) fun v25=>Option.bind (app s5 v25) fun v26=>some (.nx v26)) d.Parts.length 0 s) (fun s5=>some s5)=some (s++(d.Parts.map R).flatten):=fun n hn s hs1=>by
  simp only[fNi_]
  rw[fLc_ (g:=fun _ a (s:List Int)=>Option.bind (app s (R a)) fun v=>some (.nx v)) d.Parts 0 s (fun j a s ha=>by
   have ha:=List.mem_of_getElem? ha
   have:=Derivation.lt ha
   rw[((hR a ha).1 n (by omega)).2,Option.bind_some]),fl_ R d.Parts 0 s (by omega)]; rfl
 by_cases h15:d.Rule=15
 ·have hv:=ac_2 a1 h15 hok.u.2.2.2.2.1 (by rw[Derivation.tot_u] at ht; omega)
  obtain⟨e1,e2⟩:=sc_3 hv
  have e3:app ([]:List Int) [(d.Cut.cnt:Int)]=some [(d.Cut.cnt:Int)]:=rfl
  refine⟨[(d.Cut.cnt:Int)]++(d.Parts.map R).flatten,fun n hn=>?_,by simp only[List.length_append,List.length_cons,List.length_nil]; omega⟩
  cases n with
  | zero=>omega
  | succ n=>
   rw[icS_,slS_1,decide_eq_true h15,cond_true,cond_true,e1,e2,Option.bind_some,Option.bind_some,e3,Option.bind_some,Option.bind_some]
   exact⟨cI n hn _ (by simp),cS n hn _ (by simp)⟩
 ·refine⟨[]++(d.Parts.map R).flatten,fun n hn=>?_,by simp only[List.nil_append]; omega⟩
  cases n with
  | zero=>omega
  | succ n=>
   rw[icS_,slS_1,decide_eq_false h15,cond_false,cond_false]
   exact⟨cI n hn _ (by simp),cS n hn _ (by simp)⟩
theorem CSb_(d:Derivation)(hok:d.Ok)(ht:d.tot≤1048576):∃ r:List Int×Bool,iCS_ d=some r∧sCS_5 d=some r∧r.1.length≤1000000:=by
 unfold iCS_ sCS_5
 rw[vDi_1 d hok ht,vDs_1 d hok ht,Option.bind_some,Option.bind_some]
 cases hv:validD d
 ·exact⟨_,rfl,rfl,by simp⟩
 ·unfold validD at hv
  rw[Bool.and_eq_true,decide_eq_true_eq] at hv
  obtain⟨l,h1,h2⟩:=sb_ d hok ht (by omega) hv.2
  rw[cond_true,cond_true,show icS_2 d=some l from lim_eq ⟨_,fun n hn=>(h1 n hn).1⟩,show slS_15 d=some l from lim_eq ⟨_,fun n hn=>(h1 n hn).2⟩]
  exact⟨_,rfl,rfl,by simp only[]; omega⟩
theorem FnExactCutSizes_true(d:Derivation)(hok:d.Ok):FnExactCutSizes d=some true:=by
 unfold FnExactCutSizes
 rw[sDe_ d hok _ (by omega) (by omega),Option.bind_some]
 by_cases e:szR d.tot 1048576<0
 ·rw[decide_eq_true e]; rfl
 have ht:=szR_ok e
 obtain⟨r,g1,g2,g3⟩:=CSb_ d hok ht
 obtain⟨y,m1,m2,m3,m4⟩:=mDo_ d ht
 have hc:lcn (fun _:Int=>1) r.1=r.1.length:=by
  have:∀ l:List Int,lcn (fun _:Int=>1) l=l.length:=by
   intro l
   induction l with
   | nil=>rfl
   | cons a l ih=>rw[lc_,ih,List.length_cons]; omega
  exact this _
 obtain⟨z,k1,k2⟩:=(mIS_1 r.1).unit (k:=1) (by omega) (by omega)
 have d1:decide ((1:Int)+((lcn (fun _:Int=>1) r.1:Nat):Int)<0)=false:=decide_eq_false (by omega)
 rw[decide_eq_false e,cond_false]
 simp only[tDe_ d ht,Option.bind_some,g1,g2,eIS_1,eDr_,cond_true,beq_self_eq_true,m1,m2,cond_false,k1,k2,d1,decide_true]
end Go.Proofs.YtkoghcphkdecoaaGreat
