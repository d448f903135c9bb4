/- Lemmas of the proof; each says what it shows. -/
import Derived.Test.YtfchaodlnddkpaaGreatGwa5
import Derived.Test.YtfchaodlnddkpaaGreatGmk
import Derived.Test.YtfchaodlnddkpaaGreatAvZ
set_option linter.unusedSimpArgs false
set_option linter.unusedVariables false
set_option linter.defProp false
set_option maxRecDepth 4000
namespace Go.Proofs.YtfchaodlnddkpaaGreat
open Go.Av
open Option renaming bind_some→ap,bind→aa
open Tt renaming tot→aU
section
/-! ### true whatever the atoms are -/
theorem first_fail{c:Nat→Bool}:∀ N:Nat,(∃ j,j<N∧c j=false)→∃ j,j<N∧c j=false∧∀ k,k<j→c k=true
 | 0,h=>by obtain⟨j,h,_⟩:=h; omega
 | N+1,h=>by
  by_cases g:∃ j,j<N∧c j=false
  ·obtain⟨j,h1,h2,h3⟩:=first_fail N g
   exact⟨j,by omega,h2,h3⟩
  ·obtain⟨j,h1,h2⟩:=h
   have hj:j=N:=by
    rcases Nat.lt_or_ge j N with h | h
    ·exact absurd ⟨j,h,h2⟩ g
    ·omega
   subst hj
   refine⟨j,by omega,h2,fun k hk=>?_⟩
   cases e:c k with
   | true=>rfl
   | false=>exact absurd ⟨k,hk,e⟩ g
theorem while_all{ρ:Type}{f:Int→Option (Flow ρ Int)}{c:Nat→Bool}{r0:ρ}(N:Nat)(h1:∀ j:Nat,j<N→f (j:Int)=some (bif c j then .nx ((j+1:Nat):Int) else .rt r0))(h2:f (N:Int)=some (.br (N:Int))):
 lim (fun n=>whileN f n (0:Int))=some (bif (List.range N).all c then .inr (N:Int) else .inl r0):=by
 cases e:(List.range N).all c
 ·have hex:∃ j,j<N∧c j=false:=by
   rw[List.all_eq_false] at e
   obtain⟨j,hj,hc⟩:=e
   exact⟨j,List.mem_range.1 hj,by simpa using hc⟩
  obtain⟨j,a1,a2,a3⟩:=first_fail N hex
  exact lim_iterR (fun k=>(k:Int)) j (r:=r0) (fun k hk=>by rw[h1 k (by omega),a3 k hk]; rfl) (by rw[h1 j a1,a2]; rfl)
 ·rw[List.all_eq_true] at e
  exact lim_iter (fun k=>(k:Int)) N (s':=(N:Int)) (fun k hk=>by rw[h1 k hk,e k (List.mem_range.2 hk)]; rfl) h2
noncomputable def alwB(l:List Tt)(f:Ft):Bool:=(List.range (2 ^ l.length)).all (fun j=>f.tr (vm l j))
theorem mask_ex(g:Nat→Bool):∀ n:Nat,∃ m,m<2 ^ n∧∀ i,i<n→m.testBit i=g i
 | 0=>⟨0,by simp,fun i h=>by omega⟩
 | n+1=>by
  obtain⟨m,h1,h2⟩:=mask_ex g n
  have hp:2 ^ (n+1)=2 ^ n+2 ^ n:=by rw[Nat.pow_succ]; omega
  cases e:g n with
  | false=>
   refine⟨m,by omega,fun i hi=>?_⟩
   by_cases c:i=n
   ·subst c; rw[e]; exact Nat.testBit_lt_two_pow h1
   ·exact h2 i (by omega)
  | true=>
   refine⟨2 ^ n+m,by omega,fun i hi=>?_⟩
   by_cases c:i=n
   ·subst c; rw[e,Nat.testBit_two_pow_add_eq,Nat.testBit_lt_two_pow h1]; rfl
   ·rw[Nat.testBit_two_pow_add_gt (by omega)]; exact h2 i (by omega)
theorem alw_iff{l:List Tt}(hn:l.Nodup){f:Ft}(h:Pl f)(hm:∀ a∈f.ats,a∈l):alwB l f=true↔∀ v,f.tr v=true:=by
 unfold alwB
 rw[List.all_eq_true]
 constructor
 ·intro H v
  obtain⟨m,m1,m2⟩:=mask_ex (fun i=>v (l.getD i default)) l.length
  have:=H m (List.mem_range.2 m1)
  rw[← this]
  refine tr_congr h fun a ha=>?_
  have h1:=ixT_lt (hm a ha)
  unfold vm
  rw[m2 _ h1]
  have:l.getD (ixT l a) default=a:=by rw[List.getD_eq_getElem?_getD,List.getElem?_eq_getElem h1]; exact ixT_get (hm a ha)
  rw[this]
 ·exact fun H j _=>H _
theorem two_pow_le{n k:Nat}(h:n≤k):2 ^ n≤2 ^ k:=Nat.pow_le_pow_right (by omega) h
theorem shl_two{n:Nat}(h:n≤61):shl .i64 (1:Int) (n:Int)=some ((2 ^ n:Nat):Int):=by
 have:=shl_flag true h
 rw[cond_true] at this
 rw[this]
 show some ((1<<<n:Nat):Int)=_
 rw[Nat.shiftLeft_eq,Nat.one_mul]
theorem perm_D(D:Ft):(putAllT D.ats []).Perm (addAll D.ats []):=by
 rw[List.perm_ext_iff_of_nodup (SrtT_nodup (putAllT_srt D.ats [] List.Pairwise.nil)) (addAll_nodup D.ats [] List.nodup_nil)]
 intro a; rw[putAllT_mem,addAll_mem]
theorem in_put(D:Ft):∀ a∈D.ats,a∈putAllT D.ats []:=fun a ha=>(putAllT_mem a D.ats []).2 (.inl ha)
theorem in_add(D:Ft):∀ a∈D.ats,a∈addAll D.ats []:=fun a ha=>(addAll_mem a D.ats []).2 (.inl ha)
theorem alw_same{D:Ft}(h:Pl D):alwB (addAll D.ats []) D=alwB (putAllT D.ats []) D:=by
 rw[Bool.eq_iff_iff,alw_iff (addAll_nodup D.ats [] List.nodup_nil) h (in_add D),alw_iff (SrtT_nodup (putAllT_srt D.ats [] List.Pairwise.nil)) h (in_put D)]
noncomputable def alwR(D:Ft):Bool×Bool:=if 12<(putAllT D.ats []).length then(false,false) else(alwB (putAllT D.ats []) D,true)
section
variable{D:Ft}(h:Pl D)(hv:validF D=true)
include h hv
theorem atoms_D:D.ats.length≤40:=Nat.le_trans (ats_cnt h) (validF_iff hv).1
theorem into_D:spec_l16Into [] D=some (putAllT D.ats []):=lim_eq ⟨_,fun n hn=>(into_eq h (validF_iff hv).2 [] (fun a ha=>nomatch ha) (by have:=atoms_D h hv; simp; omega) n hn).1⟩
theorem diff_D:impl_differentAtoms D=some (addAll D.ats []):=diff_eq h (validF_iff hv).2 (by have:=atoms_D h hv; omega)
theorem always_impl:impl_alwaysTrue D=some (alwR D):=by
 have hl:=(perm_D D).length_eq
 unfold impl_alwaysTrue alwR
 rw[diff_D h hv,ap]
 by_cases c:12<(putAllT D.ats []).length
 ·rw[decide_eq_true (show(12:Int)<((addAll D.ats []).length:Int) by omega),if_pos c]; rfl
 ·have hp:=two_pow_le (show(addAll D.ats []).length≤12 by omega)
  rw[decide_eq_false (show ¬ (12:Int)<((addAll D.ats []).length:Int) by omega),if_neg c,cond_false,shl_two (by omega),ap,bnd_nat (by unfold Big; omega),ap,
   forN_all (fun j=>D.tr (vm (addAll D.ats []) j)) (r0:=(false,true)) (fun j hj _=>by
    rw[show impl_truthOf D (addAll D.ats []) (j:Int)=some (D.tr (vm (addAll D.ats []) j)) from lim_eq ⟨_,truth_impl (by omega) (by omega) h (in_add D)⟩,ap]
    cases D.tr (vm (addAll D.ats []) j)<;>rfl)]
  rw[← alw_same h]
  unfold alwB
  cases (List.range (2 ^ (addAll D.ats []).length)).all (fun j=>D.tr (vm (addAll D.ats []) j))<;>rfl
theorem always_spec:spec_l16Always D=some (alwR D):=by
 unfold spec_l16Always alwR
 rw[into_D h hv,ap]
 by_cases c:12<(putAllT D.ats []).length
 ·rw[decide_eq_true (show(12:Int)<((putAllT D.ats []).length:Int) by omega),if_pos c]; rfl
 ·have hp:=two_pow_le (show(putAllT D.ats []).length≤12 by omega)
  rw[decide_eq_false (show ¬ (12:Int)<((putAllT D.ats []).length:Int) by omega),if_neg c,cond_false,wrapU (by omega),shl_two (by omega)]
  have e:=while_all (ρ:=Bool×Bool) (f:=fun (s5:Int)=>
   aa (some ((2 ^ (putAllT D.ats []).length:Nat):Int)) fun v16=>
   bif decide (s5<v16) then
    aa (spec_l16Holds D (putAllT D.ats []) s5) fun v23=>
    bif v23 then
     some (.nx (IntKind.i64.wrap (s5+(1:Int))))
    else
     some (.rt (false,true))
   else
    some (.br s5)) (c:=fun j=>D.tr (vm (putAllT D.ats []) j)) (r0:=(false,true)) (2 ^ (putAllT D.ats []).length) (fun j hj=>by
    rw[ap,decide_eq_true (by omega),cond_true,show spec_l16Holds D (putAllT D.ats []) (j:Int)=some (D.tr (vm (putAllT D.ats []) j)) from lim_eq ⟨_,truth_spec (by omega) (by omega) h (in_put D)⟩,ap,wrap_succ (by omega)]
    cases D.tr (vm (putAllT D.ats []) j)<;>rfl) (by rw[ap,decide_eq_false (by omega)]; rfl)
  refine(congrArg (fun z=>thenL z _) e).trans ?_
  unfold alwB
  cases (List.range (2 ^ (putAllT D.ats []).length)).all (fun j=>D.tr (vm (putAllT D.ats []) j))<;>rfl
end
/-! ### what a disjunction says -/
theorem fold_tr(v:Tt→Bool):∀ (r:List Ft) (x:Ft),(r.foldl (fun a f=>fB 6 f a) x).tr v=(x.tr v||r.any (fun f=>f.tr v))
 | [],x=>by simp
 | f::r,x=>by
  rw[List.foldl_cons,fold_tr v r,tr_6,List.any_cons]
  cases f.tr v<;>cases x.tr v<;>simp
theorem join_tr(v:Tt→Bool)(l:List Ft):(joinF 6 l (fC 2)).tr v=l.any (fun f=>f.tr v):=by
 have h:l.any (fun f=>f.tr v)=l.reverse.any (fun f=>f.tr v):=by rw[List.any_reverse]
 unfold joinF
 rw[h]
 cases l.reverse with
 | nil=>rfl
 | cons x r=>exact fold_tr v r x
theorem fold_ats:∀ (r:List Ft) (x:Ft),(∀ a∈x.ats,a∈(r.foldl (fun a f=>fB 6 f a) x).ats)∧∀ f∈r,∀ a∈f.ats,a∈(r.foldl (fun a f=>fB 6 f a) x).ats
 | [],x=>⟨fun a ha=>ha,fun f hf=>nomatch hf⟩
 | f::r,x=>by
  obtain⟨h1,h2⟩:=fold_ats r (fB 6 f x)
  refine⟨fun a ha=>h1 a (by rw[ats_b (.inr (.inl rfl))]; simp[ha]),fun g hg a ha=>?_⟩
  rcases List.mem_cons.1 hg with rfl | hg
  ·exact h1 a (by rw[ats_b (.inr (.inl rfl))]; simp[ha])
  ·exact h2 g hg a ha
theorem join_ats{l:List Ft}{f:Ft}(hf:f∈l):∀ a∈f.ats,a∈(joinF 6 l (fC 2)).ats:=by
 unfold joinF
 have hr:f∈l.reverse:=List.mem_reverse.2 hf
 cases e:l.reverse with
 | nil=>rw[e] at hr; cases hr
 | cons x r=>
  rw[e] at hr
  obtain⟨h1,h2⟩:=fold_ats r x
  rcases List.mem_cons.1 hr with rfl | hr
  ·exact h1
  ·exact h2 f hr
theorem fold_pl:∀ (r:List Ft) (x:Ft),Pl x→(∀ f∈r,Pl f)→Pl (r.foldl (fun a f=>fB 6 f a) x)
 | [],x,h,_=>h
 | f::r,x,h,hr=>fold_pl r (fB 6 f x) (.b 6 f x (.inr (.inl rfl)) (hr f (by simp)) h) (fun g hg=>hr g (by simp[hg]))
theorem join_pl{l:List Ft}(h:∀ f∈l,Pl f):Pl (joinF 6 l (fC 2)):=by
 unfold joinF
 cases e:l.reverse with
 | nil=>exact .c 2 (.inr rfl)
 | cons x r=>
  have hm:∀ f∈x::r,Pl f:=fun f hf=>h f (by rw[← List.mem_reverse,e]; exact hf)
  exact fold_pl r x (hm x (by simp)) (fun f hf=>hm f (by simp[hf]))
/-! ### the table -/
noncomputable def firstI(G:List Ft)(L:List Tt)(m:Nat):Int:=(G.findIdx (fun g=>g.tr (vm L m)):Int)
noncomputable def tabL(G:List Ft)(L:List Tt):List Int:=(List.range (2 ^ L.length)).map (firstI G L)
section
variable{f:Ft}{ns:List ByteArray}{b:Ft}{l:List (List Tt)}
noncomputable def wtR(ns:List ByteArray)(b:Ft)(l:List (List Tt)):List Int×Bool:=
 if l.all (tupOk ns)=true∧validF (disD ns b l)=true∧alwB (putAllT (disD ns b l).ats []) (disD ns b l)=true∧(putAllT (disD ns b l).ats []).length≤6 then(tabL (l.map (insF ns b)) (putAllT (disD ns b l).ats []),true) else([],false)
theorem one_dis(ht:l.all (tupOk ns)=true)(hv:validF (disD ns b l)=true){ts:List Tt}(hts:ts∈l):disR ns b [ts]=(insF ns b ts,true):=by
 unfold disR
 have e:disD ns b [ts]=insF ns b ts:=rfl
 rw[e,join_valid hv _ (List.mem_map.2 ⟨ts,hts,rfl⟩)]
 show(bif ((tupOk ns ts&&true)&&true) then _ else _)=_
 rw[List.all_eq_true.1 ht ts hts]; rfl
theorem tab_ex(hA:alwB (putAllT (disD ns b l).ats []) (disD ns b l)=true){m:Nat}(hm:m<2 ^ (putAllT (disD ns b l).ats []).length):(l.map (insF ns b)).findIdx (fun g=>g.tr (vm (putAllT (disD ns b l).ats []) m))<(l.map (insF ns b)).length:=by
 unfold alwB at hA
 have h1:=List.all_eq_true.1 hA m (List.mem_range.2 hm)
 have h2:(disD ns b l).tr (vm (putAllT (disD ns b l).ats []) m)=(l.map (insF ns b)).any (fun f=>f.tr (vm (putAllT (disD ns b l).ats []) m)):=join_tr _ _
 simp only[h2] at h1
 exact List.findIdx_lt_length_of_exists (by simpa only[List.any_eq_true] using h1)
theorem wt_impl(h:Hb f ns b)(hd:∀ l:List (List Tt),l.length≤1048576→(∀ ts∈l,TOk ts)→impl_HerbrandDisjunction f l=some (disR ns b l))(hl:l.length≤1048576)(hT:∀ ts∈l,TOk ts):impl_WitnessTable f l=some (wtR ns b l):=by
 unfold impl_WitnessTable impl_IsHerbrandProof
 rw[hd l hl hT,ap]
 unfold disR wtR
 by_cases ht:l.all (tupOk ns)=true
 rotate_left
 ·have:l.all (tupOk ns)=false:=by simpa using ht
  rw[if_neg (fun q=>ht q.1),this]; rfl
 by_cases hv:validF (disD ns b l)=true
 rotate_left
 ·have:validF (disD ns b l)=false:=by simpa using hv
  rw[if_neg (fun q=>hv q.2.1),this,Bool.and_false]; rfl
 have hp:Pl (disD ns b l):=join_pl fun g hg=>by
  obtain⟨ts,hts,rfl⟩:=List.mem_map.1 hg
  exact pl_ms h.pl'
 rw[ht,hv]
 simp only[Bool.and_self,cond_true,always_impl hp hv,ap,diff_D hp hv]
 unfold alwR
 have hlen:=(perm_D (disD ns b l)).length_eq
 have hcnt:=atoms_D hp hv
 by_cases c12:12<(putAllT (disD ns b l).ats []).length
 ·rw[if_pos c12,if_neg (fun q=>by omega)]; rfl
 rw[if_neg c12]
 simp only[cond_true]
 by_cases hA:alwB (putAllT (disD ns b l).ats []) (disD ns b l)=true
 rotate_left
 ·have:alwB (putAllT (disD ns b l).ats []) (disD ns b l)=false:=by simpa using hA
  rw[if_neg (fun q=>hA q.2.2.1),this]; rfl
 rw[hA,cond_true]
 by_cases c6:(putAllT (disD ns b l).ats []).length≤6
 rotate_left
 ·rw[decide_eq_true (show(6:Int)<((addAll (disD ns b l).ats []).length:Int) by omega),if_neg (fun q=>c6 q.2.2.2)]; rfl
 have hg:Gd (disD ns b l).ats:=fun a ha=>ct_atom (ats_good hp (validF_iff hv).2 a ha)
 have hpow:=two_pow_le c6
 have hex:=fun m hm=>tab_ex (ns:=ns) (b:=b) (l:=l) hA (m:=m) hm
 have hin:∀ g∈l.map (insF ns b),Pl g∧∀ a∈g.ats,a∈putAllT (disD ns b l).ats []:=fun g hg=>by
  refine⟨?_,fun a ha=>in_put (disD ns b l) a (join_ats hg a ha)⟩
  obtain⟨ts,hts,rfl⟩:=List.mem_map.1 hg
  exact pl_ms h.pl'
 rw[decide_eq_false (show ¬ (6:Int)<((addAll (disD ns b l).ats []).length:Int) by omega),cond_false,sort_put hg (by omega),ap,if_pos (by refine⟨?_,?_,?_,c6⟩<;>trivial)]
 have e1:=(forN_idx (ρ:=List Int×Bool) l (fun _ ts (s:List Ft)=>aa (impl_HerbrandDisjunction f ([ts])) fun v54=>aa (app s ([v54.1])) fun v60=>some (.nx v60)) []).trans (gate_loop ([],false) (insF ns b) (fun _=>true) _ l 0 [] (fun ts hts i s hs=>by
  rw[hd [ts] (by simp) (fun t ht=>by rw[List.mem_singleton.1 ht]; exact hT ts hts),one_dis ht hv hts,ap]
  have:app s [insF ns b ts]=some (s++[insF ns b ts]):=by unfold app; rw[if_pos (by simp; omega)]
  show aa (app s [insF ns b ts]) _=_
  rw[this]; rfl) (by simp; omega))
 refine(congrArg (fun z=>thenL z _) e1).trans ?_
 rw[show(l.all fun _=>true)=true by simp,cond_true,thenL_inr,List.nil_append]
 generalize hL:putAllT (disD ns b l).ats []=L at*
 generalize hG:l.map (insF ns b)=G at*
 show aa (shl .i64 (1:Int) (L.length:Int)) _=_
 rw[shl_two (by omega),ap,bnd_nat (by unfold Big; omega),ap]
 have e2:=for_iter (ρ:=List Int×Bool) (f:=fun (i18:Nat) (s18:(List Int))=>
  aa (slices_IndexFunc_Simpl_Formula_impl_Formula G (fun y0=>impl_WitnessTable_1 y0 L (i18:Int))) fun v72=>
  aa (app s18 ([v72])) fun v74=>
  some (.nx v74)) (fun j=>(List.range j).map (firstI G L)) (2 ^ L.length) 0 (fun j _ hj=>by
  have hj:j<2 ^ L.length:=by omega
  unfold slices_IndexFunc_Simpl_Formula_impl_Formula
  rw[find_ix (F:=fun y0=>impl_WitnessTable_1 y0 L (j:Int)) (p:=fun g=>g.tr (vm L j)) G (fun g hg=>by
   unfold impl_WitnessTable_1
   obtain⟨g1,g2⟩:=hin g hg
   rw[show impl_truthOf g L (j:Int)=some (g.tr (vm L j)) from lim_eq ⟨_,truth_impl (by omega) (by omega) g1 g2⟩]; rfl),if_pos (hex j hj),ap]
  have:app ((List.range j).map (firstI G L)) [firstI G L j]=some ((List.range (j+1)).map (firstI G L)):=by
   unfold app; rw[if_pos (by simp; omega),List.range_succ,List.map_append]; rfl
  show aa (app _ [firstI G L j]) _=_
  rw[this]; rfl)
 rw[Nat.zero_add] at e2
 refine(congrArg (fun z=>thenL z _) e2).trans ?_
 rfl
end
end
section
section
variable{f:Ft}{ns:List ByteArray}{b:Ft}{l:List (List Tt)}
theorem wt_spec(h:Hb f ns b)(hd:∀ l:List (List Tt),l.length≤1048576→(∀ ts∈l,TOk ts)→spec_l16Disjunction f l=some (disR ns b l))(hl:l.length≤1048576)(hT:∀ ts∈l,TOk ts):spec_WitnessTable f l=some (wtR ns b l):=by
 unfold spec_WitnessTable spec_IsHerbrandProof
 rw[hd l hl hT,ap]
 unfold disR wtR
 by_cases ht:l.all (tupOk ns)=true
 rotate_left
 ·have:l.all (tupOk ns)=false:=by simpa using ht
  rw[if_neg (fun q=>ht q.1),this]; rfl
 by_cases hv:validF (disD ns b l)=true
 rotate_left
 ·have:validF (disD ns b l)=false:=by simpa using hv
  rw[if_neg (fun q=>hv q.2.1),this,Bool.and_false]; rfl
 have hp:Pl (disD ns b l):=join_pl fun g hg=>by
  obtain⟨ts,hts,rfl⟩:=List.mem_map.1 hg
  exact pl_ms h.pl'
 rw[ht,hv]
 simp only[Bool.and_self,cond_true,always_spec hp hv,ap,into_D hp hv]
 unfold alwR
 have hcnt:=atoms_D hp hv
 by_cases c12:12<(putAllT (disD ns b l).ats []).length
 ·rw[if_pos c12,if_neg (fun q=>by omega)]; rfl
 rw[if_neg c12]
 simp only[cond_true]
 by_cases hA:alwB (putAllT (disD ns b l).ats []) (disD ns b l)=true
 rotate_left
 ·have:alwB (putAllT (disD ns b l).ats []) (disD ns b l)=false:=by simpa using hA
  rw[if_neg (fun q=>hA q.2.2.1),this]; rfl
 rw[hA,cond_true]
 by_cases c6:(putAllT (disD ns b l).ats []).length≤6
 rotate_left
 ·rw[decide_eq_true (show(6:Int)<((putAllT (disD ns b l).ats []).length:Int) by omega),if_neg (fun q=>c6 q.2.2.2)]; rfl
 have hpow:=two_pow_le c6
 have hex:=fun m hm=>tab_ex (ns:=ns) (b:=b) (l:=l) hA (m:=m) hm
 have hin:∀ g∈l.map (insF ns b),Pl g∧∀ a∈g.ats,a∈putAllT (disD ns b l).ats []:=fun g hg=>by
  refine⟨?_,fun a ha=>in_put (disD ns b l) a (join_ats hg a ha)⟩
  obtain⟨ts,hts,rfl⟩:=List.mem_map.1 hg
  exact pl_ms h.pl'
 rw[decide_eq_false (show ¬ (6:Int)<((putAllT (disD ns b l).ats []).length:Int) by omega),cond_false,if_pos (by refine⟨?_,?_,?_,c6⟩<;>trivial)]
 have e1:=gate_forN (ρ:=List Int×Bool) ([],false) (insF ns b) (fun _=>true) l (fun i10 s10=>
  aa (slc l (i10:Int) (IntKind.i64.wrap ((i10:Int)+(1:Int)))) fun v57=>
  aa (spec_l16Disjunction f v57) fun v58=>
  aa (app s10 ([v58.1])) fun v64=>
  some (.nx v64)) (fun j hj ts hts s hs=>by
  have hm:=List.mem_of_getElem? hts
  have e:slc l (j:Int) (IntKind.i64.wrap ((j:Int)+(1:Int)))=some [ts]:=by
   rw[wrap_succ (by omega)]
   unfold slc
   rw[if_pos ⟨by omega,by omega,by omega⟩,Int.toNat_natCast,Int.toNat_natCast,List.drop_take,show j+1-j=1 by omega,List.take_one,List.head?_drop,hts]; rfl
  rw[e,ap,hd [ts] (by simp) (fun t ht=>by rw[List.mem_singleton.1 ht]; exact hT ts hm),one_dis ht hv hm,ap]
  have:app s [insF ns b ts]=some (s++[insF ns b ts]):=by unfold app; rw[if_pos (by simp; omega)]
  show aa (app s [insF ns b ts]) _=_
  rw[this]; rfl) l.length 0 [] (by omega) (by simp; omega)
 refine(congrArg (fun z=>thenL z _) e1).trans ?_
 rw[show((l.drop 0).all fun _=>true)=true by simp,cond_true,thenL_inr,List.nil_append,List.drop_zero]
 generalize hL:putAllT (disD ns b l).ats []=L at*
 generalize hG:l.map (insF ns b)=G at*
 have hgl:G.length=l.length:=by rw[← hG,List.length_map]
 have e2:=lim_iter (ρ:=List Int×Bool) (f:=fun (s16:(List Int)×Int)=>
  aa (shl .i64 (1:Int) (IntKind.u64.wrap (L.length:Int))) fun v70=>
  bif decide (s16.2<v70) then
   thenL (ρ:=(Flow ((List Int)×Bool) ((List Int)×Int))) (σ:=Int) (lim fun n19=>whileN (fun (s19:Int)=>
    aa (idx G s19) fun v76=>
    aa (idx G s19) fun v77=>
    aa (spec_l16Holds v77 L s16.2) fun v80=>
    bif v80 then
     some (.br s19)
    else
     some (.nx (IntKind.i64.wrap (s19+(1:Int))))) n19 (0:Int)) fun s19=>
   aa (app s16.1 ([s19])) fun v87=>
   some (.nx (v87,IntKind.i64.wrap (s16.2+(1:Int))))
  else
   some (.br s16)) (fun j=>((List.range j).map (firstI G L),(j:Int))) (2 ^ L.length) (s':=(tabL G L,((2 ^ L.length:Nat):Int))) (fun j hj=>by
  rw[wrapU (by omega),shl_two (by omega),ap]
  show(bif decide ((j:Int)<((2 ^ L.length:Nat):Int)) then _ else _)=_
  rw[decide_eq_true (by omega),cond_true]
  have hex':=hex j hj
  have hold:∀ k (hk:k<G.length),spec_l16Holds G[k] L (j:Int)=some (G[k].tr (vm L j)):=fun k hk=>by
   obtain⟨g1,g2⟩:=hin G[k] (List.getElem_mem hk)
   exact lim_eq ⟨_,truth_spec (by omega) (by omega) g1 g2⟩
  have e3:=lim_iter (ρ:=Flow ((List Int)×Bool) ((List Int)×Int)) (f:=fun (s19:Int)=>
   aa (idx G s19) fun v76=>
   aa (idx G s19) fun v77=>
   aa (spec_l16Holds v77 L (j:Int)) fun v80=>
   bif v80 then
    some (.br s19)
   else
    some (.nx (IntKind.i64.wrap (s19+(1:Int))))) (fun k=>(k:Int)) (G.findIdx (fun g:Ft=>g.tr (vm L j))) (s':=firstI G L j) (fun k hk=>by
   have hk':k<G.length:=by omega
   have hn:G[k].tr (vm L j)=false:=by simpa using List.not_of_lt_findIdx hk
   simp only[idx_nat,List.getElem?_eq_getElem hk',ap,hold k hk',hn,cond_false]
   rw[wrap_succ (by omega)]) (by
   have hy:(G[G.findIdx (fun g:Ft=>g.tr (vm L j))]).tr (vm L j)=true:=List.findIdx_getElem (p:=fun g:Ft=>g.tr (vm L j)) (w:=hex')
   simp only[idx_nat,List.getElem?_eq_getElem hex',ap,hold _ hex',hy,cond_true]; rfl)
  refine(congrArg (fun z=>thenL z _) e3).trans ?_
  have:app ((List.range j).map (firstI G L)) [firstI G L j]=some ((List.range (j+1)).map (firstI G L)):=by
   unfold app; rw[if_pos (by simp; omega),List.range_succ,List.map_append]; rfl
  rw[thenL_inr]
  show aa (app _ [firstI G L j]) _=_
  rw[this,ap]
  show some (Flow.nx (_,IntKind.i64.wrap ((j:Int)+1)))=_
  rw[wrap_succ (by omega)]) (by
  rw[wrapU (by omega),shl_two (by omega),ap]
  show(bif decide (((2 ^ L.length:Nat):Int)<((2 ^ L.length:Nat):Int)) then _ else _)=_
  rw[decide_eq_false (by omega)]; rfl)
 refine(congrArg (fun z=>thenL z _) e2).trans ?_
 rfl
end
/-- The two tables. -/
theorem wt_both{f:Ft}(hok:f.Ok)(ht:f.tot≤1048576){l:List (List Tt)}(hl:l.length≤1048576)(hT:∀ ts∈l,TOk ts):∃ r:List Int×Bool,spec_WitnessTable f l=some r∧impl_WitnessTable f l=some r∧r.1.length≤64:=by
 rcases dis_both hok ht hl hT with⟨ns,b,hb,hd⟩ | h0
 ·refine⟨wtR ns b l,wt_spec hb (fun l h1 h2=>(hd l h1 h2).1) hl hT,wt_impl hb (fun l h1 h2=>(hd l h1 h2).2) hl hT,?_⟩
  unfold wtR
  split
  ·rename_i c
   unfold tabL
   rw[List.length_map,List.length_range]
   exact two_pow_le c.2.2.2
  ·simp
 ·refine⟨([],false),?_,?_,by simp⟩
  ·unfold spec_WitnessTable spec_IsHerbrandProof
   rw[(h0 l).1]; rfl
  ·unfold impl_WitnessTable impl_IsHerbrandProof
   rw[(h0 l).2]; rfl
end
section
theorem lcn_leT{α:Type}{c t:α→Nat}{m:Nat}:∀ l:List α,(∀ a∈l,c a≤m+m*t a)→lcn c l≤m*ltot t l
 | [],_=>by simp[lcn_nil]
 | a::l,h=>by
  have h1:=h a (by simp)
  have h2:=lcn_leT l (fun x hx=>h x (by simp[hx]))
  rw[lcn_cons]
  simp only[ltot,List.length_cons,List.map_cons,List.sum_cons,Nat.mul_add,Nat.mul_one] at*
  omega
theorem Tt.cn_totT(t:Tt):Tt.cn t≤1+t.tot:=by
 refine Tt.ind' (M:=fun t=>Tt.cn t≤1+t.tot) (fun t ih=>?_) t
 have:=lcn_leT (c:=Tt.cn) (t:=aU) (m:=1) t.Args (fun a ha=>by have:=ih a ha; omega)
 rw[Tt.cn_u,t.tot_u]; omega
theorem lcn_tot(l:List Tt):lcn Tt.cn l≤ltot aU l:=by
 have:=lcn_leT (c:=Tt.cn) (t:=aU) (m:=1) l (fun a _=>by have:=Tt.cn_totT a; omega)
 omega
theorem Ft.cn_totF(f:Ft):Ft.cn f≤3+3*f.tot:=by
 refine Ft.ind' (M:=fun f=>Ft.cn f≤3+3*f.tot) (fun f ih=>?_) f
 have h1:=lcn_leT (c:=Ft.cn) (t:=Ft.tot) (m:=3) f.Parts (fun a ha=>ih a ha)
 have h2:=lcn_tot f.Atom.Args
 have h3:=f.Atom.tot_u
 rw[Ft.cn_u,f.tot_u]; omega
theorem ints_len:∀ l:List Int,lcn (fun _=>1) l=l.length
 | []=>by rw[lcn_nil]; rfl
 | e::l=>by rw[lcn_cons,ints_len l,List.length_cons]; omega
end
section
theorem markTermSS_mk(xs:List (List Tt))(hx:xs.length≤4611686018427387904):MK (fun _:Unit=>True) (fun _=>markTermSS) xs (lcn (lcn Tt.cn) xs):=by
 refine MK.of (cnt:=lcn Tt.cn) (fun _ _ _=>rfl) (fun _ l k=>by simp only[dec_end,cond_false]) (fun h=>hx) (fun x hx k h0 h1=>?_)
 obtain⟨y,m⟩:=(markTermS_mk x).unit h0 h1
 refine⟨y,fun p hp pre rest hpre=>?_⟩
 have wi:=wrap_succ (i:=pre.length) (by omega)
 simp only[dec_mid,cond_true,idx_mid,set_mid,ap,rem3,wi,m]
theorem tok_of{l:List (List Tt)}(hok:LOk (LOk Tt.Ok) l)(ht:ltot (ltot aU) l≤1048576):l.length≤1048576∧∀ ts∈l,TOk ts:=by
 have h1:=ltot_len (ltot aU) l
 refine⟨by omega,fun ts hts=>⟨hok.2 ts hts,fun a ha=>?_⟩⟩
 have h2:ltot aU ts≤ltot (ltot aU) l:=ltot_mem hts
 have h3:a.tot≤ltot aU ts:=ltot_mem ha
 omega
theorem FnExactWitnessTable_true(f:Ft)(l:List (List Tt))(hf:f.Ok)(hl:LOk (LOk Tt.Ok) l):FnExactWitnessTable f l=some true:=by
 unfold FnExactWitnessTable
 rw[szFormula_eq f hf _ (by omega) (by omega),ap]
 by_cases e:szR f.tot 1048576<0
 ·rw[decide_eq_true e]; rfl
 have h1:=szR_ok e
 have e1:szR f.tot 1048576=1048576-f.tot:=by unfold szR; rw[if_pos (by omega)]
 rw[decide_eq_false e,cond_false,e1,szTermSS_eq l hl _ (by omega) (by omega),ap]
 by_cases e2:szR (ltot (ltot aU) l) (1048576-f.tot)<0
 ·rw[decide_eq_true e2]; rfl
 have h2:((ltot (ltot aU) l:Nat):Int)≤1048576-f.tot:=Classical.byContradiction fun g=>e2 ((szR_neg (by omega)).2 g)
 rw[decide_eq_false e2,cond_false]
 have ht:ltot (ltot aU) l≤1048576:=by omega
 obtain⟨hlen,hT⟩:=tok_of hl ht
 obtain⟨r,g1,g2,g3⟩:=wt_both hf h1 hlen hT
 have n1:=lcn_leT (c:=Ft.cn) (t:=Ft.tot) (m:=3) f.Parts (fun a _=>Ft.cn_totF a)
 have n2:=lcn_tot f.Atom.Args
 have n3:=f.tot_u
 have n4:=f.Atom.tot_u
 have n5:=lcn_leT (c:=lcn Tt.cn) (t:=ltot aU) (m:=1) l (fun a _=>by have:=lcn_tot a; omega)
 have n6:=ints_len r.1
 obtain⟨y0,y1,m1⟩:=markFormula_mk f (k:=1) (by omega) (by omega)
 generalize hA:lcn Tt.cn f.Atom.Args+lcn Ft.cn f.Parts=A at m1
 obtain⟨y2,m2⟩:=(markTermSS_mk l (by omega)).unit (k:=1+(A:Int)) (by omega) (by omega)
 obtain⟨y3,m3,m4⟩:=(markIntS_held r.1).unit (k:=1) (by omega) (by omega)
 have d1:decide ((1:Int)+(A:Int)+((lcn (lcn Tt.cn) l:Nat):Int)<0)=false:=decide_eq_false (by omega)
 have d2:decide ((1:Int)+((lcn (fun _=>1) r.1:Nat):Int)<0)=false:=decide_eq_false (by omega)
 simp only[toFormula_eq f h1,toTermSS_eq l ht,ap,g1,g2,eqIntS_refl,eqFormula_refl,eqTermSS_refl,cond_true,beq_self_eq_true,m1,m2,m3,m4,d1,d2,cond_false,decide_true]
end
end Go.Proofs.YtfchaodlnddkpaaGreat
