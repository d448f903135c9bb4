/- Lemmas of the proof; each says what it shows. -/
import Derived.Test.YtmfpijomelhccaaGreatDoorGii
import Derived.Test.YtmfpijomelhccaaGreatDoorGm
import Derived.Test.YtmfpijomelhccaaGreatDoorAvZ
set_option linter.unusedSimpArgs false
set_option linter.unusedVariables false
set_option linter.defProp false
set_option maxRecDepth 4000
namespace Go.Proofs.YtmfpijomelhccaaGreatDoor
open Go.Av
open Bool renaming and_eq_true→aD
open Option renaming bind→aa,bind_some→ai
section
/-! ### the program's own tests -/
theorem truthI(p:Int→Bool)(ts:List Tt)(m:Int)(a:Ft):a.good=true→a.vf=true→
 (∀ t∈a.ats,(aa (impl_indexOfAtom ts t) fun v17=>aa (shr .i64 m v17) fun v18=>some (decide ((bitand .i64 v18 (1:Int))=(1:Int))))=some (p (varOf t)))→
 ∀ n,2*SizeOf.sizeOf a≤n→impl_truthOfN n a ts m=some (a.ev p):=by
 refine Ft.ind' (M:=fun a=>a.good=true→a.vf=true→
  (∀ t∈a.ats,(aa (impl_indexOfAtom ts t) fun v17=>aa (shr .i64 m v17) fun v18=>some (decide ((bitand .i64 v18 (1:Int))=(1:Int))))=some (p (varOf t)))→
  ∀ n,2*SizeOf.sizeOf a≤n→impl_truthOfN n a ts m=some (a.ev p)) (fun a ih hg hv ht n hn=>?_) a
 have hp:=a.pos
 cases n with
 | zero=>omega
 | succ n=>
  have sub:a.Op≠3→∀ x∈a.Parts,impl_truthOfN n x ts m=some (x.ev p):=fun h3 x hx=>
   ih x hx (good_parts hg x hx) (vf_parts hv h3 x hx) (fun t h=>ht t (ats_parts h3 hx h)) n (by have:=Ft.lt hx; omega)
  rw[impl_truthOfN,Ft.ev_u]
  rcases form_len hg hv with e | e | e | ⟨e,hl⟩ | ⟨e,hl⟩
  ·simp only[e]; rfl
  ·simp only[e]; rfl
  ·have h1:=ht a.Atom (by rw[Ft.ats_u,decide_eq_true e,cond_true]; simp)
   simp only[e]
   exact h1
  ·obtain⟨x,hx⟩:=one_part hl
   have k2:=sub (by omega) x (by rw[hx]; simp)
   simp only[e,hx,idx0,ai,k2]
   rfl
  ·obtain⟨x,y,hx⟩:=two_parts hl
   have k2:=sub (by omega) x (by rw[hx]; simp)
   have k4:=sub (by omega) y (by rw[hx]; simp)
   rcases e with e | e | e<;>simp only[e,hx,idx0,idx1,ai,k2,k4,List.map_cons,List.map_nil,List.getD_cons_zero,List.getD_cons_succ]<;>cases x.ev p<;>cases y.ev p<;>rfl
theorem evaluateI{a:Ft}{s:List Int}(hc:a.cnt≤40)(hg:a.good=true)(hv:a.vf=true):impl_evaluateOn a s=some (a.ev (hasI s)):=by
 obtain⟨D,h1,h2,h3⟩:=different_eq hc hg hv
 obtain⟨M,g1,g2,_,g4⟩:=bits_loop s D 0 0 (by omega) (by simp)
 have hM:M<2 ^ 62:=Nat.lt_of_lt_of_le g2 (Nat.pow_le_pow_right (by omega) (by omega))
 have ht:impl_truthOf a D (M:Int)=some (a.ev (hasI s)):=by
  refine lim_eq ⟨_,fun n hn=>truthI (hasI s) D (M:Int) a hg hv (fun t hm=>?_) n hn⟩
  obtain⟨k,e1,e2,e3⟩:=indexOf_mem ((h2 t).2 hm)
  rw[e1,ai,shr_eq (by omega),ai,bit_test hM,← e3,← g4 k e2,Nat.zero_add]
 unfold impl_evaluateOn
 rw[h1,ai,forN_idx (ρ:=Bool) D (fun i x (s4:Int)=>(impl_variableOf x).bind fun v21=>(slices_Contains_Sint_int s v21).bind fun v22=>(impl_flag v22).bind fun v23=>(shl .i64 v23 (i:Int)).bind fun v25=>some (.nx (bitor .i64 s4 v25))) 0,show(0:Int)=((0:Nat):Int) from rfl,g1,thenL_inr,ht]; rfl
theorem concatI(L R:List Int)(h1:L.length≤1000)(h2:R.length≤1000):slices_Concat_Sint_int [L,R]=some (L++R):=by
 unfold slices_Concat_Sint_int
 have w1:IntKind.i64.wrap ((0:Int)+(L.length:Int))=(L.length:Int):=by rw[wrap64]<;>omega
 have w2:IntKind.i64.wrap ((L.length:Int)+(R.length:Int))=((L.length+R.length:Nat):Int):=by rw[wrap64]<;>omega
 have e1:∀ i:Nat,idx [L,R] (i:Int)=[L,R][i]?:=fun i=>idx_nat _ i
 have g:∀ n:Nat,n≤2000→slices_Grow_Sint_int_nil0 (n:Int)=some []:=by
  intro n hn
  unfold slices_Grow_Sint_int_nil0
  rw[decide_eq_false (by omega),cond_false]
  have:IntKind.i64.wrap ((n:Int)-IntKind.i64.wrap ((0:Int)-(([]:List Nat).length:Int)))=(n:Int):=by
   rw[show(0:Int)-(([]:List Nat).length:Int)=0 from rfl,wrap64 (n:=0) (by omega) (by omega),wrap64]<;>omega
  rw[this]
  by_cases h:0<(n:Int)
  ·rw[decide_eq_true h,cond_true]
   have:appz (n:Int)=some n:=by unfold appz; rw[if_pos (by omega)]; rfl
   rw[this,ai]
   unfold slc
   rw[if_pos ⟨by omega,by simp,by simp⟩]; rfl
  ·rw[decide_eq_false h]; rfl
 have a1:app ([]:List Int) L=some L:=by unfold app; rw[if_pos (by simp only[List.length_nil]; omega)]; rfl
 have a2:app L R=some (L++R):=by unfold app; rw[if_pos (by omega)]
 have f1:forN (fun (i3:Nat) (s3:Int)=>aa (idx [L,R] (i3:Int)) fun v13=>bif decide ((IntKind.i64.wrap (s3+(v13.length:Int)))<(0:Int)) then(none:Option (Flow (List Int) Int)) else some (.nx (IntKind.i64.wrap (s3+(v13.length:Int))))) [L,R].length 0 (0:Int)=some (.inr ((L.length+R.length:Nat):Int)):=by
  rw[show [L,R].length=1+1 from rfl,forN_nx (s':=(L.length:Int)) (by rw[e1]; simp only[List.getElem?_cons_zero,ai,w1]; rw[decide_eq_false (by omega)]; rfl),
   forN_nx (n:=0) (s':=((L.length+R.length:Nat):Int)) (by rw[e1]; simp only[List.getElem?_cons_zero,List.getElem?_cons_succ,ai,w2]; rw[decide_eq_false (by omega)]; rfl)]
  rfl
 have f2:forN (ρ:=List Int) (fun (i11:Nat) (s11:(List Int))=>aa (idx [L,R] (i11:Int)) fun v29=>aa (app s11 v29) fun v33=>some (.nx v33)) [L,R].length 0 []=some (.inr (L++R)):=by
  rw[show [L,R].length=1+1 from rfl,forN_nx (s':=L) (by rw[e1]; simp only[List.getElem?_cons_zero,ai,a1]),
   forN_nx (n:=0) (s':=L++R) (by rw[e1]; simp only[List.getElem?_cons_zero,List.getElem?_cons_succ,ai,a2])]
  rfl
 rw[f1,thenL_inr,g _ (by omega),ai,f2]; rfl
theorem max_loop{ρ:Type}:∀ (l:List Int) (i:Nat) (s:Int),0≤s→s≤12→(∀ x∈l,x≤12)→∃ n:Int,forL (ρ:=ρ) (fun _ x (s7:Int)=>some (.nx (max s7 x))) l i s=some (.inr n)∧0≤n∧n≤12∧s≤n∧∀ x∈l,x≤n
 | [],i,s,h0,h1,_=>⟨s,rfl,h0,h1,Int.le_refl _,fun x hx=>by cases hx⟩
 | x::l,i,s,h0,h1,h=>by
  have hx:=h x (by simp)
  obtain⟨n,g1,g2,g3,g4,g5⟩:=max_loop (ρ:=ρ) l (i+1) (max s x) (by omega) (by omega) (fun y hy=>h y (by simp[hy]))
  refine⟨n,by rw[forL_nx (s':=max s x) rfl,g1],g2,g3,by omega,fun y hy=>?_⟩
  rcases List.mem_cons.1 hy with rfl | hy
  ·omega
  ·exact g5 y hy
theorem sh_le{s:List (List Int)}{p:List Pt}{k y n:Nat}{f:Ft}(h:Ran s p k y n f){x:Int}(hx:x∈f.ats.map varOf)(hxr:1≤x∧x≤12):x≤n:=by
 obtain⟨t,ht,rfl⟩:=List.mem_map.1 hx
 have ho:=(h.vs.2 t ht).1
 unfold occ at ho
 rw[List.any_eq_true] at ho
 obtain⟨c,hc,hc2⟩:=ho
 rw[Bool.or_eq_true,hasI_iff,hasI_iff] at hc2
 rcases hc2 with hc2 | hc2
 ·have:=h.inn.b c (List.mem_of_mem_take hc) _ hc2
  rw[absI_pos hxr.1] at this; exact this
 ·have:=h.inn.b c (List.mem_of_mem_take hc) _ hc2
  rw[absI_neg hxr.1 hxr.2] at this; exact this
theorem isint_ok{s:List (List Int)}{p:List Pt}{k y n:Nat}{f:Ft}(h:Ran s p k y n f)(hs:OkC s)(hb:LB 40 f):impl_IsInterpolant s (k:Int) f=some (true,true):=by
 have ho:=h.okF
 have hv:=h.valid
 have hin:=h.inn
 have hg:=hin.good
 have hn:=hin.nl
 have hk:=hin.kl
 obtain⟨hvF,va⟩:=(aD _ _).mp ho
 obtain⟨c0,ga⟩:=validF_cnt hvF
 unfold impl_IsInterpolant impl_isSplit
 rw[variablesOf_eq f (hb.t (by omega)) hb.ok,valid_impl s hs,within_eq,ho,hv,show inR (k:Int) 0 (s.length:Int)=true from inR_iff.2 ⟨by omega,by omega⟩]
 simp only[ai,cond_true]
 have s1:slc s (0:Int) (k:Int)=some (s.take k):=by unfold slc; rw[if_pos (by omega)]; rfl
 have s2:slc s (k:Int) (s.length:Int)=some (s.drop k):=by unfold slc; rw[if_pos (by omega),Int.toNat_natCast,Int.toNat_natCast,List.take_length]
 have ht1:∀ c∈s.take k,∀ x∈c,InR x∧1≤absI x∧absI x≤12:=fun c hc=>hin.rng c (List.mem_of_mem_take hc)
 have hd1:∀ c∈s.drop k,∀ x∈c,InR x∧1≤absI x∧absI x≤12:=fun c hc=>hin.rng c (List.mem_of_mem_drop hc)
 have h4:=two_le hn
 rw[colors_eq hg hin.mo hn hin.b,ai]
 have hclen:(cellsOf (fun j=>(s.take k).any (fun c=>tch c j)) (fun j=>(s.drop k).any (fun c=>tch c j)) n).length=n:=by unfold cellsOf; simp
 have hx0:∀ x∈f.ats.map varOf,1≤x∧x≤n∧occ (s.take k) x=true∧occ (s.drop k) x=true:=fun x hx=>by
  have hxr:=vars_rng ga va hx
  obtain⟨t,ht,rfl⟩:=List.mem_map.1 hx
  have hsh:=h.vs.2 t ht
  exact⟨hxr.1,sh_le h hx hxr,hsh.1,hsh.2⟩
 rw[ContainsFunc_int (p:=fun x=>false) _ (fun x hx=>by
  obtain⟨h1,h2,h3,h5⟩:=hx0 x hx
  unfold impl_IsInterpolant_1
  rw[hclen]
  obtain⟨j,hj⟩:∃ j:Nat,x=((j+1:Nat):Int):=⟨(x-1).toNat,by omega⟩
  subst hj
  have hw:IntKind.i64.wrap (((j+1:Nat):Int)-1)=(j:Int):=by rw[wrap64 (by omega) (by omega)]; omega
  rw[decide_eq_false (by omega),cond_false,hw,idx_nat,cellsOf_get (by omega),ai,cell_three,occ_tch ht1,occ_tch hd1,h3,h5]; rfl),ai]
 have hany:(f.ats.map varOf).any (fun _=>false)=false:=by rw[List.any_eq_false]; exact fun _ _=>by simp
 rw[hany,cond_false,hclen,shl_two hn,ai,bnd_nat (by unfold Big; omega),ai]
 rw[forN_all (fun m=>true) (r0:=(false,true)) (fun m hm _=>by
  have hbad:=h.bad (cons_asg n (fun j=>!m.testBit (n-1-j)))
  rw[assignmentOf_eq hn (by omega),ai,evaluateI c0 ga va,ai,s1,s2,ai,ai,isModel_eq,isModel_eq,ai,ai]
  unfold sat
  revert hbad
  cases f.ev (hasI (asg n (fun j=>!m.testBit (n-1-j))))
  ·intro hbad; rw[cond_false] at hbad; rw[hbad]; rfl
  ·intro hbad; rw[cond_true] at hbad; rw[hbad]; rfl)]
 rw[show(List.range (2 ^ n)).all (fun _=>true)=true by rw[List.all_eq_true]; exact fun _ _=>rfl]; rfl
theorem impF_ok{s:List (List Int)}{p:List Pt}{k n:Nat}{f g:Ft}(h:Ran s p k 1 n f)(h2:Ran s p k 2 n g)(hb:LB 40 f)(hb2:LB 40 g):impl_ImpliesFormula f g=some (true,true):=by
 obtain⟨hv0,va⟩:=(aD _ _).mp h.okF
 obtain⟨c0,ga⟩:=validF_cnt hv0
 obtain⟨hv1,vb⟩:=(aD _ _).mp h2.okF
 obtain⟨c1,gb⟩:=validF_cnt hv1
 have l0:=ats_cnt f
 have l1:=ats_cnt g
 have hrng:∀ x,x∈f.ats.map varOf∨x∈g.ats.map varOf→1≤x∧x≤12:=fun x hx=>hx.elim (vars_rng ga va) (vars_rng gb vb)
 unfold impl_ImpliesFormula
 rw[variablesOf_eq f (hb.t (by omega)) hb.ok,variablesOf_eq g (hb2.t (by omega)) hb2.ok,h.okF,h2.okF]
 simp only[ai,cond_true]
 rw[concatI _ _ (by simp; omega) (by simp; omega),ai]
 obtain⟨v,n1,n2,n3,_,n5⟩:=max_loop (ρ:=Bool×Bool) (f.ats.map varOf++g.ats.map varOf) 0 0 (by omega) (by omega) (fun x hx=>(hrng x (List.mem_append.1 hx)).2)
 obtain⟨m,rfl⟩:∃ m:Nat,v=(m:Int):=⟨v.toNat,by omega⟩
 have hk:m≤12:=by omega
 have h4:=two_le hk
 have him:forN (ρ:=Bool×Bool) (fun (i7:Nat) (s7:Int)=>
  aa (idx (f.ats.map varOf++g.ats.map varOf) (i7:Int)) fun v38=>
  aa (idx (f.ats.map varOf++g.ats.map varOf) (i7:Int)) fun v39=>
  some (.nx (max s7 v39))) (f.ats.map varOf++g.ats.map varOf).length 0 (0:Int)=some (.inr (m:Int)):=by
  have e:=forN_idx (ρ:=Bool×Bool) (f.ats.map varOf++g.ats.map varOf) (fun i x (s:Int)=>(idx (f.ats.map varOf++g.ats.map varOf) (i:Int)).bind fun v39=>some (.nx (max s v39))) 0
  rw[e,forL_congr (g:=fun _ x s=>some (.nx (max s x))) (f.ats.map varOf++g.ats.map varOf) 0 0 (fun j x s hx=>by
   rw[Nat.zero_add,idx_nat,hx,ai]),n1]
 rw[him,thenL_inr,shl_two hk,ai,bnd_nat (by unfold Big; omega),ai]
 rw[forN_all (fun _=>true) (r0:=(false,true)) (fun j hj _=>by
  rw[assignmentOf_eq hk (by omega),ai,evaluateI c0 ga va,ai,evaluateI c1 gb vb]
  have e1:f.ev (hasI (asg m (fun i=>!j.testBit (m-1-i))))=f.ev (hasI (asg n (fun i=>!j.testBit (m-1-i)))):=ev_congr f ga va fun x hx=>by
   have r:=hrng x (.inl hx)
   have r2:=n5 x (List.mem_append.2 (.inl hx))
   have r3:=sh_le h hx r
   rw[has_asg r.1 r2,has_asg r.1 r3]
  have e2:g.ev (hasI (asg m (fun i=>!j.testBit (m-1-i))))=g.ev (hasI (asg n (fun i=>!j.testBit (m-1-i)))):=ev_congr g gb vb fun x hx=>by
   have r:=hrng x (.inr hx)
   have r2:=n5 x (List.mem_append.2 (.inr hx))
   have r3:=sh_le h2 hx r
   rw[has_asg r.1 r2,has_asg r.1 r3]
  have hbad:=h.imp h2 (cons_asg n (fun i=>!j.testBit (m-1-i)))
  rw[e1,e2]
  revert hbad
  cases f.ev (hasI (asg n (fun i=>!j.testBit (m-1-i))))<;>cases g.ev (hasI (asg n (fun i=>!j.testBit (m-1-i))))<;>intro hbad<;>first | rfl | cases hbad)]
 rw[show(List.range (2 ^ m)).all (fun _=>true)=true by rw[List.all_eq_true]; exact fun _ _=>rfl]; rfl
end
section
/-- A cursor that has been moved at most n times, over bytes. -/
def CurOk(c:ld)(n:Nat):Prop:=0≤c.at_f∧c.at_f≤(n:Int)∧∀ x∈c.code,0≤x∧x≤255
theorem CurOk.mono{c:ld}{n m:Nat}(h:CurOk c n)(hm:n≤m):CurOk c m:=⟨h.1,by have:=h.2.1; omega,h.2.2⟩
theorem wrap_i64{x:Int}(h0:0≤x)(h1:x≤4611686018427387904):IntKind.i64.wrap x=x:=wrap64 (by omega) (by omega)
theorem bitand255(v:Int):0≤IntKind.i64.wrap (bitand .u64 v (255:Int))∧IntKind.i64.wrap (bitand .u64 v (255:Int))≤255:=by
 have h:∃ k:Nat,k≤255∧bitand .u64 v (255:Int)=(k:Int):=by
  refine⟨(BitVec.ofInt 64 v&&& BitVec.ofInt 64 255).toNat,?_,?_⟩
  ·rw[BitVec.toNat_and]
   exact Nat.le_trans Nat.and_le_right (by decide)
  ·have hk:(BitVec.ofInt 64 v&&& BitVec.ofInt 64 255).toNat≤255:=by
    rw[BitVec.toNat_and]; exact Nat.le_trans Nat.and_le_right (by decide)
   unfold bitand
   exact u64_nat (n:=(BitVec.ofInt 64 v&&& BitVec.ofInt 64 255).toNat) (by omega)
 obtain⟨k,hk,e⟩:=h
 rw[e,wrap_i64 (by omega) (by omega)]
 omega
theorem next_ok{c:ld}{n:Nat}(h:CurOk c n)(hn:n≤1000000000):∃ v c',spec_l1Cur__next c=some (v,c')∧0≤v∧v≤255∧CurOk c' (n+1):=by
 obtain⟨h0,h1,h2⟩:=h
 have ha:IntKind.i64.wrap (c.at_f+1)=c.at_f+1:=wrap_i64 (by omega) (by omega)
 unfold spec_l1Cur__next
 have hs:∀ x:Int,shr .u64 x 40=some (x.fdiv (2 ^ (min (40:Int).toNat IntKind.u64.bits))):=fun x=>by simp[shr]
 by_cases e:c.at_f<(c.code.length:Int)
 ·rw[decide_eq_true e,cond_true]
  obtain⟨b,hb⟩:∃ b,c.code[c.at_f.toNat]?=some b:=⟨_,List.getElem?_eq_getElem (by omega)⟩
  have hbr:=h2 b (List.mem_of_getElem? hb)
  have hi:idx c.code c.at_f=some b:=by simp[idx,h0,hb]
  rw[hi,ai,ha,wrap_i64 hbr.1 (by omega)]
  cases decide (c.at_f+1≤(c.code.length:Int)) with
  | true=>exact⟨_,_,rfl,hbr.1,hbr.2,by simp only; omega,by simp only; omega,h2⟩
  | false=>
   rw[cond_false,hs,ai]
   exact⟨_,_,rfl,(bitand255 _).1,(bitand255 _).2,by simp only; omega,by simp only; omega,h2⟩
 ·rw[decide_eq_false e,cond_false,ha]
  cases decide (c.at_f+1≤(c.code.length:Int)) with
  | true=>exact⟨_,_,rfl,by omega,by omega,by simp only; omega,by simp only; omega,h2⟩
  | false=>
   rw[cond_false,hs,ai]
   exact⟨_,_,rfl,(bitand255 _).1,(bitand255 _).2,by simp only; omega,by simp only; omega,h2⟩
theorem rem_lt{x m:Int}(h0:0≤x)(hm:0<m):∃ v,rem x m=some v∧0≤v∧v<m:=
 ⟨x.tmod m,by simp[rem,show m≠0 by omega],Int.tmod_nonneg _ h0,Int.tmod_lt_of_pos _ hm⟩
theorem pick_ok{c:ld}{n:Nat}(m:Int)(h:CurOk c n)(hn:n+2≤1000000000):∃ v c',spec_l1Cur__pick c m=some (v,c')∧0≤v∧(1≤m→v<m)∧CurOk c' (n+2):=by
 unfold spec_l1Cur__pick
 by_cases e:m≤1
 ·rw[decide_eq_true e,cond_true]
  exact⟨_,_,rfl,by omega,fun _=>by omega,h.mono (by omega)⟩
 ·rw[decide_eq_false e,cond_false]
  obtain⟨v,c',e1,hv0,hv1,hc⟩:=next_ok h (by omega)
  rw[e1,ai]
  by_cases e2:200<m
  ·rw[decide_eq_true e2,cond_true]
   obtain⟨u,c'',e3,hu0,hu1,hc'⟩:=next_ok hc (by omega)
   simp only[e3,ai]
   rw[wrap_i64 (x:=v*256) (by omega) (by omega),wrap_i64 (by omega) (by omega)]
   obtain⟨q,e4,hq0,hq1⟩:=rem_lt (x:=v*256+u) (m:=m) (by omega) (by omega)
   rw[e4]
   exact⟨_,_,rfl,hq0,fun _=>hq1,hc'⟩
  ·rw[decide_eq_false e2,cond_false]
   obtain⟨q,e4,hq0,hq1⟩:=rem_lt (x:=v) (m:=m) hv0 (by omega)
   simp only[e4]
   exact⟨_,_,rfl,hq0,fun _=>hq1,hc.mono (by omega)⟩
theorem among_ok{c:ld}{n:Nat}(l:List Int)(hl:l≠[])(h:CurOk c n)(hn:n+2≤1000000000):∃ v c',spec_l1Cur__among c l=some (v,c')∧v∈l∧CurOk c' (n+2):=by
 unfold spec_l1Cur__among
 have hp:0<l.length:=List.length_pos_iff.2 hl
 obtain⟨k,c',e,h0,h1,hc⟩:=pick_ok (l.length:Int) h hn
 have hk:=h1 (by omega)
 obtain⟨b,hb⟩:∃ b,l[k.toNat]?=some b:=⟨_,List.getElem?_eq_getElem (by omega)⟩
 have hi:idx l k=some b:=by simp[idx,h0,hb]
 simp only[e,ai,hi]
 exact⟨_,_,rfl,List.mem_of_getElem? hb,hc⟩
theorem one_ok{c:ld}{n:Nat}(m:Int)(h:CurOk c n)(hn:n+2≤1000000000):∃ b c',spec_l1Cur__one c m=some (b,c')∧CurOk c' (n+2):=by
 unfold spec_l1Cur__one
 obtain⟨k,c',e,_,_,hc⟩:=pick_ok m h hn
 simp only[e,ai]
 exact⟨_,_,rfl,hc⟩
theorem appc1{α:Type}{xs:List α}(x:α)(h:xs.length≤1000):app xs [x]=some (xs++[x]):=by
 unfold app; rw[if_pos (by simp; omega)]
end
section
/-! ### drawn clauses -/
theorem while_inv{ρ σ:Type}{f:σ→Option (Flow ρ σ)}{Q:ρ ⊕ σ→Prop}(I:Nat→σ→Prop):∀ (N i:Nat) (s:σ),I i s→(∀ j s,i≤j→j<i+N→I j s→(∃ s',f s=some (.nx s')∧I (j+1) s')∨∃ r,f s=some (.rt r)∧Q (.inl r))→(∀ s,I (i+N) s→∃ s',f s=some (.br s')∧Q (.inr s'))→
 ∃ z,(∀ m,N+1≤m→whileN f m s=some z)∧Q z
 | 0,i,s,h,_,h2=>by
  obtain⟨s',e,q⟩:=h2 s h
  refine⟨_,fun m hm=>?_,q⟩
  obtain⟨k,rfl⟩:∃ k,m=k+1:=⟨m-1,by omega⟩
  rw[whileN_br e]
 | N+1,i,s,h,h1,h2=>by
  rcases h1 i s (Nat.le_refl _) (by omega) h with⟨s',e,h'⟩ | ⟨r,e,q⟩
  ·obtain⟨z,g1,g2⟩:=while_inv (Q:=Q) I N (i+1) s' h' (fun j t a b=>h1 j t (by omega) (by omega)) (fun t ht=>h2 t (by rw[show i+(N+1)=i+1+N by omega]; exact ht))
   refine⟨z,fun m hm=>?_,g2⟩
   obtain⟨k,rfl⟩:∃ k,m=k+1:=⟨m-1,by omega⟩
   rw[whileN_nx e]; exact g1 k (by omega)
  ·refine⟨_,fun m hm=>?_,q⟩
   obtain⟨k,rfl⟩:∃ k,m=k+1:=⟨m-1,by omega⟩
   rw[whileN_rt e]
theorem lim_inv{ρ σ:Type}{f:σ→Option (Flow ρ σ)}{Q:ρ ⊕ σ→Prop}(I:Nat→σ→Prop)(N:Nat)(s:σ)(h:I 0 s)(h1:∀ j s,j<N→I j s→(∃ s',f s=some (.nx s')∧I (j+1) s')∨∃ r,f s=some (.rt r)∧Q (.inl r))(h2:∀ s,I N s→∃ s',f s=some (.br s')∧Q (.inr s')):
 ∃ z,lim (fun n=>whileN f n s)=some z∧Q z:=by
 obtain⟨z,g1,g2⟩:=while_inv (Q:=Q) I N 0 s h (fun j t _ b=>h1 j t (by omega)) (fun t ht=>h2 t (by rw[Nat.zero_add] at ht; exact ht))
 exact⟨z,lim_eq ⟨N+1,g1⟩,g2⟩
def PC(l:List Int):Prop:=l.length≤12∧∀ x∈l,-12≤x∧x≤12
theorem lit_rng{v p:Int}(h1:1≤v)(h2:v≤12)(p0:0≤p)(p1:p<2):-12≤IntKind.i64.wrap (v-IntKind.i64.wrap (IntKind.i64.wrap (2*v)*p))∧IntKind.i64.wrap (v-IntKind.i64.wrap (IntKind.i64.wrap (2*v)*p))≤12:=by
 rw[wrap64 (n:=2*v) (by omega) (by omega)]
 rcases (by omega:p=0∨p=1) with rfl | rfl
 ·rw[Int.mul_zero,wrap64 (n:=0) (by omega) (by omega),wrap64 (by omega) (by omega)]; omega
 ·rw[Int.mul_one,wrap64 (n:=2*v) (by omega) (by omega),wrap64 (by omega) (by omega)]; omega
theorem PC.add{l:List Int}{x:Int}(h:PC l)(hl:l.length<12)(hx:-12≤x∧x≤12):PC (l++[x]):=by
 refine⟨by simp; omega,fun y hy=>?_⟩
 rcases List.mem_append.1 hy with hy | hy
 ·exact h.2 y hy
 ·rw[List.mem_singleton.1 hy]; exact hx
theorem propClause_ok{c:ld}{m:Nat}(n:Nat)(hn:1≤n∧n≤12)(h:CurOk c m)(hm:m+60≤1000000000):∃ l c',spec_l1Cur__propClause c (n:Int)=some (l,c')∧PC l∧CurOk c' (m+60):=by
 unfold spec_l1Cur__propClause
 obtain⟨z,hz,hq⟩:=lim_inv (ρ:=List Int×ld) (f:=fun (s3:ld×(List Int)×Int)=>
  bif decide (s3.2.2≤(n:Int)) then
   aa (spec_l1Cur__one s3.1 (3:Int)) fun v15=>
   bif v15.1 then
    aa (spec_l1Cur__pick v15.2 (2:Int)) fun v21=>
    aa (app s3.2.1 ([IntKind.i64.wrap (s3.2.2-(IntKind.i64.wrap ((IntKind.i64.wrap ((2:Int)*s3.2.2))*v21.1)))])) fun v25=>
    some (.nx (v21.2,v25,IntKind.i64.wrap (s3.2.2+(1:Int))))
   else
    some (.nx (v15.2,s3.2.1,IntKind.i64.wrap (s3.2.2+(1:Int))))
  else
   some (.br s3)) (Q:=fun z=>∃ s:ld×(List Int)×Int,z=.inr s∧CurOk s.1 (m+48)∧PC s.2.1) (fun j s=>CurOk s.1 (m+4*j)∧s.2.2=((j+1:Nat):Int)∧s.2.1.length≤j∧PC s.2.1) n (c,[],(1:Int)) ⟨h,rfl,Nat.zero_le _,Nat.zero_le _,fun x hx=>(nomatch hx)⟩ (by
   rintro j ⟨c1,l1,v1⟩ hj ⟨k1,k2,k3,k4⟩
   simp only at k1 k2 k3 k4
   subst k2
   left
   obtain⟨b,c2,e1,g1⟩:=one_ok 3 k1 (by omega)
   simp only
   rw[decide_eq_true (by omega),cond_true,e1,ai]
   cases b
   ·exact⟨_,rfl,g1.mono (by omega),by simp only; rw[wrap64 (by omega) (by omega)]; omega,by simp only; omega,k4⟩
   ·obtain⟨p,c3,e2,p0,p1,g2⟩:=pick_ok 2 g1 (by omega)
    simp only[cond_true]
    rw[e2,ai]
    simp only
    rw[appc1 _ (by omega),ai]
    exact⟨_,rfl,g2.mono (by omega),by simp only; rw[wrap64 (by omega) (by omega)]; omega,by simp; omega,k4.add (by omega) (lit_rng (by omega) (by omega) p0 (p1 (by omega)))⟩) (by
   rintro ⟨c1,l1,v1⟩ ⟨k1,k2,k3,k4⟩
   simp only at k1 k2 k3 k4
   subst k2
   simp only
   rw[decide_eq_false (by omega)]
   exact⟨_,rfl,_,rfl,k1.mono (by omega),k4⟩)
 obtain⟨⟨c1,l1,v1⟩,rfl,k1,k4⟩:=hq
 simp only at k1 k4
 refine(congrArg (fun z=>∃ l c',thenL z _=some (l,c')∧PC l∧CurOk c' (m+60)) hz).mpr ?_
 rw[thenL_inr]
 have rest:∀ l:List Int,PC l→l.length≤3→∃ l' c',(bif decide ((l.length:Int)=(0:Int)) then
  aa (spec_l1Cur__one c1 (20:Int)) fun v36=>
  bif v36.1 then
   some (l,v36.2)
  else
   aa (spec_l1Cur__pick v36.2 (n:Int)) fun v41=>
   aa (spec_l1Cur__pick v41.2 (2:Int)) fun v48=>
   aa (app l ([IntKind.i64.wrap ((IntKind.i64.wrap ((1:Int)+v41.1))-(IntKind.i64.wrap ((IntKind.i64.wrap ((2:Int)*(IntKind.i64.wrap ((1:Int)+v41.1))))*v48.1)))])) fun v52=>
   some (v52,v48.2)
  else
   some (l,c1))=some (l',c')∧PC l'∧CurOk c' (m+60):=fun l hl hl3=>by
  by_cases e:(l.length:Int)=0
  ·rw[decide_eq_true e,cond_true]
   obtain⟨b,c2,e1,g1⟩:=one_ok 20 k1 (by omega)
   rw[e1,ai]
   cases b
   ·obtain⟨p,c3,e2,p0,p1,g2⟩:=pick_ok (n:Int) g1 (by omega)
    have p1:=p1 (by omega)
    simp only[cond_false]
    rw[e2,ai]
    obtain⟨q,c4,e3,q0,q1,g3⟩:=pick_ok 2 g2 (by omega)
    simp only
    rw[e3,ai]
    simp only
    rw[appc1 _ (by omega),ai,wrap64 (n:=1+p) (by omega) (by omega)]
    exact⟨_,_,rfl,hl.add (by omega) (lit_rng (by omega) (by omega) q0 (q1 (by omega))),g3.mono (by omega)⟩
   ·exact⟨_,_,rfl,hl,g1.mono (by omega)⟩
  ·rw[decide_eq_false e]
   exact⟨_,_,rfl,hl,k1.mono (by omega)⟩
 simp only
 by_cases e:(3:Int)<(l1.length:Int)
 ·rw[decide_eq_true e,cond_true,show slc l1 (0:Int) (3:Int)=some (l1.take 3) by unfold slc; rw[if_pos (by omega)]; rfl,ai]
  exact rest (l1.take 3) ⟨by rw[List.length_take]; omega,fun x hx=>k4.2 x (List.mem_of_mem_take hx)⟩ (by rw[List.length_take]; omega)
 ·rw[decide_eq_false e,cond_false]
  exact rest l1 k4 (by omega)
def PS(k:Nat)(s:List (List Int)):Prop:=s.length≤k∧∀ c∈s,PC c
theorem PS.add{k m:Nat}{s:List (List Int)}{c:List Int}(h:PS k s)(hc:PC c)(hk:k+1≤m):PS m (s++[c]):=by
 refine⟨by have:=h.1; simp; omega,fun y hy=>?_⟩
 rcases List.mem_append.1 hy with hy | hy
 ·exact h.2 y hy
 ·rw[List.mem_singleton.1 hy]; exact hc
theorem PS.mono{k m:Nat}{s:List (List Int)}(h:PS k s)(hk:k≤m):PS m s:=⟨Nat.le_trans h.1 hk,h.2⟩
theorem PS.okc{k:Nat}{s:List (List Int)}(h:PS k s):OkC s:=fun c hc=>⟨by have:=(h.2 c hc).1; omega,fun x hx=>by have:=(h.2 c hc).2 x hx; exact⟨by omega,by omega⟩⟩
theorem propSet_ok{c:ld}{m:Nat}(h:CurOk c m)(hm:m+2300≤1000000000):∃ s c',spec_l1Cur__propSet c=some (s,c')∧PS 40 s∧CurOk c' (m+2300):=by
 unfold spec_l1Cur__propSet
 obtain⟨a,c1,e1,a0,a1,g1⟩:=pick_ok 4 h (by omega)
 have a1:=a1 (by omega)
 rw[e1,ai]
 simp only
 obtain⟨b,c2,e2,b0,b1,g2⟩:=pick_ok 7 g1 (by omega)
 have b1:=b1 (by omega)
 rw[e2,ai]
 simp only
 obtain⟨n,hn⟩:∃ n:Nat,(2:Int)+a=(n:Int):=⟨(2+a).toNat,by omega⟩
 have hn2:1≤n∧n≤12:=by omega
 rw[wrap64 (n:=2+a) (by omega) (by omega),wrap64 (n:=1+b) (by omega) (by omega),hn]
 obtain⟨N,hN⟩:∃ N:Nat,(1:Int)+b=(N:Int):=⟨(1+b).toNat,by omega⟩
 rw[hN]
 obtain⟨z,hz,hq⟩:=lim_inv (ρ:=List (List Int)×ld) (f:=fun (s4:ld×(List (List Int))×Int)=>
  bif decide ((0:Int)<s4.2.2) then
   aa (spec_l1Cur__propClause s4.1 (n:Int)) fun v21=>
   aa (app s4.2.1 ([v21.1])) fun v23=>
   some (.nx (v21.2,v23,IntKind.i64.wrap (s4.2.2-(1:Int))))
  else
   some (.br s4)) (Q:=fun z=>∃ s:ld×(List (List Int))×Int,z=.inr s∧CurOk s.1 (m+424)∧PS 7 s.2.1) (fun j s=>CurOk s.1 (m+4+60*j)∧s.2.2=(N:Int)-j∧PS j s.2.1) N (c2,[],(N:Int)) ⟨g2.mono (by omega),by simp only; omega,Nat.zero_le _,fun x hx=>(nomatch hx)⟩ (by
   rintro j ⟨c3,s3,v3⟩ hj ⟨k1,k2,k3⟩
   simp only at k1 k2 k3
   subst k2
   left
   simp only
   obtain⟨l,c4,e3,g3,g4⟩:=propClause_ok n hn2 k1 (by omega)
   have:=k3.1
   rw[decide_eq_true (by omega),cond_true,e3,ai]
   simp only
   rw[appc1 _ (by omega),ai]
   exact⟨_,rfl,g4.mono (by omega),by simp only; rw[wrap64 (by omega) (by omega)]; omega,k3.add g3 (by omega)⟩) (by
   rintro ⟨c3,s3,v3⟩ ⟨k1,k2,k3⟩
   simp only at k1 k2 k3
   subst k2
   simp only
   rw[decide_eq_false (by omega)]
   exact⟨_,rfl,_,rfl,k1.mono (by omega),k3.mono (by omega)⟩)
 obtain⟨⟨c3,s3,v3⟩,rfl,k1,k2⟩:=hq
 simp only at k1 k2
 refine(congrArg (fun z=>∃ s c',thenL z _=some (s,c')∧PS 40 s∧CurOk c' (m+2300)) hz).mpr ?_
 rw[thenL_inr]
 simp only
 obtain⟨d,c4,e3,d0,d1,g3⟩:=pick_ok 14 k1 (by omega)
 have d1:=d1 (by omega)
 rw[e3,ai]
 simp only
 obtain⟨D,hD⟩:∃ D:Nat,d=(D:Int):=⟨d.toNat,by omega⟩
 rw[hD]
 obtain⟨z,hz,hq⟩:=lim_inv (ρ:=List (List Int)×ld) (f:=fun (s8:ld×(List (List Int))×Int)=>
  bif decide ((0:Int)<s8.2.2) then
   aa (spec_l1Cur__one s8.1 (2:Int)) fun v30=>
   bif v30.1 then
    aa (spec_l1Cur__propClause v30.2 (n:Int)) fun v37=>
    aa (app s8.2.1 ([v37.1])) fun v39=>
    aa (spec_l1Cur__propClause v37.2 (2:Int)) fun v42=>
    aa (app v39 ([v42.1])) fun v44=>
    some (.nx (v42.2,v44,IntKind.i64.wrap (s8.2.2-(1:Int))))
   else
    some (.rt (s8.2.1,v30.2))
  else
   some (.br s8)) (Q:=fun z=>∃ s c',thenL z (fun s8:ld×(List (List Int))×Int=>some (s8.2.1,s8.1))=some (s,c')∧PS 40 s∧CurOk c' (m+2300)) (fun j s=>CurOk s.1 (m+426+122*j)∧s.2.2=(D:Int)-j∧PS (7+2*j) s.2.1) D (c4,s3,(D:Int)) ⟨g3.mono (by omega),by simp only; omega,k2⟩ (by
   rintro j ⟨c5,s5,v5⟩ hj ⟨q1,q2,q3⟩
   simp only at q1 q2 q3
   subst q2
   simp only
   have:=q3.1
   obtain⟨b,c6,e4,g4⟩:=one_ok 2 q1 (by omega)
   rw[decide_eq_true (by omega),cond_true,e4,ai]
   cases b
   ·right
    exact⟨_,rfl,_,_,rfl,q3.mono (by omega),g4.mono (by omega)⟩
   ·left
    obtain⟨l,c7,e5,g5,g6⟩:=propClause_ok n hn2 g4 (by omega)
    obtain⟨l2,c8,e6,g7,g8⟩:=propClause_ok 2 (by omega) g6 (by omega)
    have e6':spec_l1Cur__propClause c7 2=some (l2,c8):=e6
    simp only[cond_true]
    rw[e5,ai]
    simp only
    rw[appc1 _ (by omega),ai,e6',ai]
    simp only
    rw[appc1 _ (by simp; omega),ai]
    exact⟨_,rfl,g8.mono (by omega),by simp only; rw[wrap64 (by omega) (by omega)]; omega,(q3.add g5 (Nat.le_refl _)).add g7 (by omega)⟩) (by
   rintro ⟨c5,s5,v5⟩ ⟨q1,q2,q3⟩
   simp only at q1 q2 q3
   subst q2
   simp only
   rw[decide_eq_false (by omega)]
   exact⟨_,rfl,_,_,rfl,q3.mono (by omega),q1.mono (by omega)⟩)
 exact(congrArg (fun z=>∃ s c',thenL z (fun s8:ld×(List (List Int))×Int=>some (s8.2.1,s8.1))=some (s,c')∧PS 40 s∧CurOk c' (m+2300)) hz).mpr hq
end
section
/-! ### the drawn search ends -/
theorem stat_loop(a:List Int):∀ (c:List Int) (i:Nat) (f o:Int),0≤f→f+c.length≤2000000→
 ∃ q:Int×Int,thenL (ρ:=Int×Int) (σ:=Int×Int) (forL (fun _ x (s3:Int×Int)=>aa (spec_l1Has a x) fun v20=>bif v20 then some (.rt ((-1:Int),(0:Int))) else aa (spec_l1Has a (IntKind.i64.wrap (0-x))) fun v27=>bif v27 then some (.nx (s3.1,s3.2)) else some (.nx (IntKind.i64.wrap (s3.1+(1:Int)),x))) c i (f,o)) (fun s3=>some (s3.1,s3.2))=some q∧(q.1=0→f=0∧∀ x∈c,hasI a (IntKind.i64.wrap (0-x))=true)∧(c=[]→q=(f,o))
 | [],i,f,o,h0,_=>⟨(f,o),rfl,fun e=>⟨e,fun x hx=>(nomatch hx)⟩,fun _=>rfl⟩
 | x::c,i,f,o,h0,h1=>by
  rw[List.length_cons] at h1
  cases e:hasI a x with
  | true=>exact⟨(-1,0),by rw[forL_rt (r:=(-1,0)) (by rw[Has_eq,e]; rfl)]; rfl,fun e=>(nomatch e),fun e=>(nomatch e)⟩
  | false=>
   cases e2:hasI a (IntKind.i64.wrap (0-x)) with
   | true=>
    rw[forL_nx (s':=(f,o)) (by rw[Has_eq,e,ai,cond_false,Has_eq,e2]; rfl)]
    obtain⟨q,q1,q2,_⟩:=stat_loop a c (i+1) f o h0 (by omega)
    refine⟨q,q1,fun e=>⟨(q2 e).1,fun y hy=>?_⟩,fun e=>(nomatch e)⟩
    rcases List.mem_cons.1 hy with rfl | hy
    ·exact e2
    ·exact(q2 e).2 y hy
   | false=>
    rw[forL_nx (s':=(f+1,x)) (by rw[Has_eq,e,ai,cond_false,Has_eq,e2,ai,cond_false,wrap64 (by omega) (by omega)])]
    obtain⟨q,q1,q2,_⟩:=stat_loop a c (i+1) (f+1) x (by omega) (by omega)
    exact⟨q,q1,fun e=>by have:=(q2 e).1; omega,fun e=>(nomatch e)⟩
theorem status_ok(c a:List Int)(h:c.length≤1048576):∃ q,spec_l15Status c a=some q∧(q.1=0→∀ x∈c,hasI a (IntKind.i64.wrap (0-x))=true)∧(c=[]→q.1=0):=by
 unfold spec_l15Status
 obtain⟨q,h1,h2,h3⟩:=stat_loop a c 0 0 0 (by omega) (by omega)
 have e:=forN_idx (ρ:=Int×Int) c (fun i3 x (s3:Int×Int)=>aa (spec_l1Has a x) fun v20=>bif v20 then some (.rt ((-1:Int),(0:Int))) else aa (idx c (i3:Int)) fun v24=>aa (spec_l1Has a (IntKind.i64.wrap (0-v24))) fun v27=>bif v27 then some (.nx (s3.1,s3.2)) else aa (idx c (i3:Int)) fun v33=>some (.nx (IntKind.i64.wrap (s3.1+(1:Int)),v33))) ((0:Int),(0:Int))
 rw[e,forL_congr (g:=fun _ x (s3:Int×Int)=>aa (spec_l1Has a x) fun v20=>bif v20 then some (.rt ((-1:Int),(0:Int))) else aa (spec_l1Has a (IntKind.i64.wrap (0-x))) fun v27=>bif v27 then some (.nx (s3.1,s3.2)) else some (.nx (IntKind.i64.wrap (s3.1+(1:Int)),x))) c 0 (0,0) (fun i x z hx=>by
  rw[Nat.zero_add,idx_nat,hx,ai,ai]),h1]
 exact⟨q,rfl,fun e=>(h2 e).2,fun e=>by rw[h3 e]⟩
noncomputable def stF(c a:List Int):Int×Int:=(spec_l15Status c a).getD (0,0)
theorem ffail_at{c:Nat→Bool}:∀ {n i j:Nat},ffail c n i=some j→c j=false
 | 0,i,j,h=>by cases h
 | n+1,i,j,h=>by
  rw[ffail] at h
  split at h
  ·exact ffail_at h
  ·rename_i e
   cases h
   simpa using e
theorem false_ok(s:List (List Int))(a:List Int)(h:∀ c∈s,c.length≤1048576):∃ v:Int,spec_l15False s a=some v∧-1≤v∧v<s.length∧(0≤v→∀ x∈s.getD v.toNat default,hasI a (IntKind.i64.wrap (0-x))=true)∧(v<0→∀ c∈s,c≠[]):=by
 have hst:∀ c∈s,spec_l15Status c a=some (stF c a)∧((stF c a).1=0→∀ x∈c,hasI a (IntKind.i64.wrap (0-x))=true)∧(c=[]→(stF c a).1=0):=fun c hc=>by
  obtain⟨q,q1,q2,q3⟩:=status_ok c a (h c hc)
  have:stF c a=q:=by unfold stF; rw[q1]; rfl
  rw[this]; exact⟨q1,q2,q3⟩
 unfold spec_l15False
 rw[forN_ffail (c:=fun j=>!decide ((stF (s.getD j default) a).1=0)) (g:=fun j=>(j:Int)) s.length 0 (fun k hk=>by omega) (fun j hj _=>by
  rw[idx_getD (by omega),ai,(hst _ (getD_mem (by omega))).1,ai]
  cases decide ((stF (s.getD j default) a).1=0)<;>rfl)]
 cases e:ffail (fun j=>!decide ((stF (s.getD j default) a).1=0)) s.length 0 with
 | none=>
  refine⟨-1,rfl,by omega,by omega,fun e=>by omega,fun _ c hc e0=>?_⟩
  obtain⟨i,hi,e1⟩:=List.getElem_of_mem hc
  have e2:s.getD i default=c:=by rw[List.getD_eq_getElem?_getD,List.getElem?_eq_getElem hi,Option.getD_some,e1]
  have e3:=ffail_none e i (Nat.zero_le _) (by omega)
  rw[e2,(hst c hc).2.2 e0] at e3
  cases e3
 | some j=>
  have hj:=ffail_lt e
  have e3:=ffail_at e
  simp only[Bool.not_eq_false',decide_eq_true_iff] at e3
  refine⟨(j:Int),rfl,by omega,by omega,fun _=>?_,fun e=>by omega⟩
  rw[Int.toNat_natCast]
  exact(hst _ (getD_mem (by omega))).2.1 e3
theorem own1_ok(a:List Int)(h:a.length≤1000):spec_l1Own a=some a:=by
 unfold spec_l1Own app; rw[if_pos (by simp; omega)]; rfl
theorem cls_ht{s:List (List Int)}{p:List Pt}{l:Nat}(h1:l<s.length+p.length)(b:s.length+p.length≤1000000):spec_l15Proof__clause_ht0 ⟨s,p⟩ (l:Int)=some (clsAt s p l,⟨s,p⟩):=by
 unfold spec_l15Proof__clause_ht0 clsAt
 show(bif decide ((l:Int)<(s.length:Int)) then aa (idx s (l:Int)) fun v17=>some (v17,(lc.mk s p)) else aa (idx p (IntKind.i64.wrap ((l:Int)-(s.length:Int)))) fun v30=>aa (idx p (IntKind.i64.wrap ((l:Int)-(s.length:Int)))) fun v32=>some (v32.Clause,(lc.mk s p)))=_
 by_cases g:l<s.length
 ·rw[decide_eq_true (by omega),cond_true,idx_getD g,if_pos g]; rfl
 ·rw[decide_eq_false (by omega),cond_false,if_neg g,wrap64 (by omega) (by omega),show(l:Int)-(s.length:Int)=((l-s.length:Nat):Int) by omega,idx_getD (by omega)]; rfl
theorem clsC{s:List (List Int)}{p:List Pt}(hs:∀ c∈s,Cl c)(hp:∀ t∈p,Cl t.Clause){l:Nat}(h1:l<s.length+p.length):Cl (clsAt s p l):=by
 unfold clsAt
 by_cases g:l<s.length
 ·rw[if_pos g]; exact hs _ (getD_mem g)
 ·rw[if_neg g]; exact hp _ (getD_mem (by omega))
theorem cl_nil:Cl []:=⟨rfl,fun x hx=>(nomatch hx)⟩
/-- What a search answers. -/
structure Sr(s:List (List Int))(a:List Int)(d:Nat)(p:List Pt)(k:Nat)(q:List Pt):Prop where
 cl:∀ t∈q,Cl t.Clause
 up:q.length+1≤p.length+2 ^ d
 lo:p.length≤q.length
 lt:k<s.length+q.length
 fal:k<s.length→∀ x∈s.getD k default,hasI a (IntKind.i64.wrap (0-x))=true
theorem hasI_app{a:List Int}{v x:Int}:hasI (a++[v]) x=true↔hasI a x=true∨x=v:=by
 rw[hasI_iff,hasI_iff,List.mem_append,List.mem_singleton]
theorem srch{s:List (List Int)}(hs:∀ c∈s,Cl c)(hl:s.length≤40)(n:Nat)(hn:n≤12):∀ (d:Nat) (a:List Int) (v:Nat),v+d=n+1→1≤v→a.length+d≤100→
 ∃ r,(∀ N,d+1≤N→spec_l15SearchN N s a (v:Int) (n:Int)=some r)∧(r.2=false→∀ p:List Pt,(∀ t∈p,Cl t.Clause)→p.length+2 ^ d≤10000→∃ (k:Nat) (q:List Pt),(∀ N,d+1≤N→spec_l15Proof__searchN N ⟨s,p⟩ a (v:Int)=some ((k:Int),⟨s,q⟩))∧Sr s a d p k q)
 | 0,a,v,hv,hv1,ha=>by
  obtain⟨f,f1,f2,f3,f4,_⟩:=false_ok s a (fun c hc=>by have:=(hs c hc).len; omega)
  by_cases g:0≤f
  ·refine⟨([],false),fun N hN=>?_,fun _ p hp hb=>⟨f.toNat,p,fun N hN=>?_,hp,by omega,by omega,by omega,fun _=>f4 g⟩⟩
   ·obtain⟨k,rfl⟩:∃ k,N=k+1:=⟨N-1,by omega⟩
    rw[spec_l15SearchN,f1,ai,decide_eq_true g]; rfl
   ·obtain⟨k,rfl⟩:∃ k,N=k+1:=⟨N-1,by omega⟩
    rw[spec_l15Proof__searchN,f1,ai,decide_eq_true g,cond_true,show((f.toNat:Nat):Int)=f by omega]
  ·refine⟨(a,true),fun N hN=>?_,fun e=>(nomatch e)⟩
   obtain⟨k,rfl⟩:∃ k,N=k+1:=⟨N-1,by omega⟩
   rw[spec_l15SearchN,f1,ai,decide_eq_false g,cond_false,decide_eq_true (by omega),cond_true,own1_ok a (by omega)]; rfl
 | d+1,a,v,hv,hv1,ha=>by
  have h2:2 ^ (d+1)=2 ^ d+2 ^ d:=by omega
  have hd:1≤2 ^ d:=Nat.one_le_two_pow
  obtain⟨f,f1,f2,f3,f4,_⟩:=false_ok s a (fun c hc=>by have:=(hs c hc).len; omega)
  by_cases g:0≤f
  ·refine⟨([],false),fun N hN=>?_,fun _ p hp hb=>⟨f.toNat,p,fun N hN=>?_,hp,by omega,by omega,by omega,fun _=>f4 g⟩⟩
   ·obtain⟨k,rfl⟩:∃ k,N=k+1:=⟨N-1,by omega⟩
    rw[spec_l15SearchN,f1,ai,decide_eq_true g]; rfl
   ·obtain⟨k,rfl⟩:∃ k,N=k+1:=⟨N-1,by omega⟩
    rw[spec_l15Proof__searchN,f1,ai,decide_eq_true g,cond_true,show((f.toNat:Nat):Int)=f by omega]
  ·obtain⟨r1,r2,r3⟩:=srch hs hl n hn d (a++[(v:Int)]) (v+1) (by omega) (by omega) (by simp; omega)
   obtain⟨u1,u2,u3⟩:=srch hs hl n hn d (a++[-(v:Int)]) (v+1) (by omega) (by omega) (by simp; omega)
   have w1:IntKind.i64.wrap ((v:Int)+1)=((v+1:Nat):Int):=by rw[wrap64 (by omega) (by omega)]; omega
   have w2:IntKind.i64.wrap (0-(v:Int))=-(v:Int):=by rw[wrap64 (by omega) (by omega)]; omega
   have ap:∀ x:Int,app a [x]=some (a++[x]):=fun x=>by unfold app; rw[if_pos (by simp; omega)]
   have nw:∀ {c:List Int},Cl c→∀ x∈c,IntKind.i64.wrap (0-x)=-x:=fun hc x hx=>(hc.lit x hx).neg
   refine⟨bif r1.2 then(r1.1,true) else(u1.1,u1.2),fun N hN=>?_,fun e p hp hb=>?_⟩
   ·obtain⟨k,rfl⟩:∃ k,N=k+1:=⟨N-1,by omega⟩
    rw[spec_l15SearchN,f1,ai,decide_eq_false g,cond_false,decide_eq_false (by omega),cond_false,own1_ok a (by omega),ai,ap,ai,w1,r2 k (by omega),ai]
    cases r1.2
    ·rw[cond_false,cond_false,ai,w2,ap,ai,u2 k (by omega)]; rfl
    ·rfl
   ·have e1:r1.2=false:=by
     cases e1:r1.2
     ·rfl
     ·rw[e1] at e; cases e
    have e2:u1.2=false:=by rw[e1] at e; exact e
    obtain⟨k1,q1,g1,s1⟩:=r3 e1 p hp (by omega)
    have b1:=s1.up
    obtain⟨k2,q2,g2,s2⟩:=u3 e2 q1 s1.cl (by omega)
    have b2:=s2.up
    have b3:=s1.lo
    have b4:=s2.lo
    have b5:=s1.lt
    have b6:=s2.lt
    have c1:=clsC hs s1.cl b5
    have hd':2 ^ d≤10000:=by omega
    cases t1:hasI (clsAt s q1 k1) (-(v:Int)) with
    | false=>
     refine⟨k1,q1,fun N hN=>?_,s1.cl,by omega,b3,b5,fun hk x hx=>?_⟩
     ·obtain⟨k,rfl⟩:∃ k,N=k+1:=⟨N-1,by omega⟩
      rw[spec_l15Proof__searchN,f1,ai,decide_eq_false g,cond_false,own1_ok a (by omega),ai,ap,ai,w1,g1 k (by omega),ai]
      simp only
      rw[cls_ht b5 (by omega),ai]
      simp only
      rw[w2,Has_eq,ai,t1]; rfl
     ·have h3:=s1.fal hk x hx
      rw[hasI_app] at h3
      rcases h3 with h3 | h3
      ·exact h3
      ·rw[nw (hs _ (getD_mem hk)) x hx] at h3
       have hx':-(v:Int)∈clsAt s q1 k1:=by unfold clsAt; rw[if_pos hk,show -(v:Int)=x by omega]; exact hx
       rw[← hasI_iff,t1] at hx'; cases hx'
    | true=>
     have c2:=clsC hs s2.cl b6
     cases t2:hasI (clsAt s q2 k2) (v:Int) with
     | false=>
      refine⟨k2,q2,fun N hN=>?_,s2.cl,by omega,by omega,b6,fun hk x hx=>?_⟩
      ·obtain⟨k,rfl⟩:∃ k,N=k+1:=⟨N-1,by omega⟩
       rw[spec_l15Proof__searchN,f1,ai,decide_eq_false g,cond_false,own1_ok a (by omega),ai,ap,ai,w1,g1 k (by omega),ai]
       simp only
       rw[cls_ht b5 (by omega),ai]
       simp only
       rw[w2,Has_eq,ai,t1,cond_true,ai,ap,ai,g2 k (by omega),ai]
       simp only
       rw[cls_ht b6 (by omega),ai]
       simp only
       rw[Has_eq,ai,t2]; rfl
      ·have h3:=s2.fal hk x hx
       rw[hasI_app] at h3
       rcases h3 with h3 | h3
       ·exact h3
       ·rw[nw (hs _ (getD_mem hk)) x hx] at h3
        have hx':(v:Int)∈clsAt s q2 k2:=by unfold clsAt; rw[if_pos hk,show(v:Int)=x by omega]; exact hx
        rw[← hasI_iff,t2] at hx'; cases hx'
     | true=>
      have b7:k1<s.length+q2.length:=by omega
      have c1':=clsC hs s2.cl b7
      refine⟨s.length+q2.length,q2++[Pt.mk (k2:Int) (k1:Int) (v:Int) (resP (resR (clsAt s q2 k2) (clsAt s q2 k1) (v:Int))).1],fun N hN=>?_,fun t ht=>?_,by simp; omega,by simp; omega,by simp,fun hk=>by omega⟩
      ·obtain⟨k,rfl⟩:∃ k,N=k+1:=⟨N-1,by omega⟩
       rw[spec_l15Proof__searchN,f1,ai,decide_eq_false g,cond_false,own1_ok a (by omega),ai,ap,ai,w1,g1 k (by omega),ai]
       simp only
       rw[cls_ht b5 (by omega),ai]
       simp only
       rw[w2,Has_eq,ai,t1,cond_true,ai,ap,ai,g2 k (by omega),ai]
       simp only
       rw[cls_ht b6 (by omega),ai]
       simp only
       rw[Has_eq,ai,t2,cond_true,cls_ht b6 (by omega),ai]
       simp only
       rw[cls_ht b7 (by omega),ai]
       simp only
       rw[resolve_spec c2 c1' ⟨by omega,by omega⟩,ai]
       show aa (app q2 _) _=_
       rw[show ∀ x,app q2 [x]=some (q2++[x]) from fun x=>by unfold app; rw[if_pos (by simp; omega)],ai]
       simp only[List.length_append,List.length_singleton]
       rw[wrap64 (n:=(s.length:Int)+((q2.length+1:Nat):Int)) (by omega) (by omega),wrap64 (by omega) (by omega),show(s.length:Int)+((q2.length+1:Nat):Int)-1=((s.length+q2.length:Nat):Int) by omega]
      ·rcases List.mem_append.1 ht with ht | ht
       ·exact s2.cl t ht
       ·rw[List.mem_singleton.1 ht]
        show Cl (resP (resR (clsAt s q2 k2) (clsAt s q2 k1) (v:Int))).1
        cases e3:resR (clsAt s q2 k2) (clsAt s q2 k1) (v:Int) with
        | none=>exact cl_nil
        | some r=>exact resR_cl c2 c1' ⟨by omega,by omega⟩ e3
theorem refute_ok{s:List (List Int)}(h:OkC s):∃ r,spec_RefuteClauses s=some r∧(r.2=true→1≤r.1.length∧r.1.length≤200):=by
 unfold spec_RefuteClauses
 rw[l15Set_eq s h,ai]
 cases hv:validC s
 ·exact⟨_,rfl,fun e=>(nomatch e)⟩
 have hcl:=valid_cl h hv
 have hlen:=valid_len hv
 have hg:=valid_good h hv
 obtain⟨n,hmost,hn,hb⟩:=most_ok hg
 obtain⟨f,f1,f2,f3,f4,f5⟩:=false_ok s [] (fun c hc=>(h c hc).1)
 rw[cond_true,f1,ai]
 by_cases g:0≤f
 ·rw[decide_eq_true g]; exact⟨_,rfl,fun e=>(nomatch e)⟩
 rw[decide_eq_false g,cond_false,l15Most_eq hg,ai,hmost]
 obtain⟨r,r1,r2⟩:=srch hcl hlen n hn n [] 1 (by omega) (by omega) (by simp; omega)
 rw[show spec_l15Search s [] (1:Int) (n:Int)=some r from lim_eq ⟨n+1,r1⟩,ai]
 cases e:r.2
 ·have h4:2 ^ n≤4096:=Nat.pow_le_pow_right (by omega) hn
  obtain⟨k,q,q1,q2⟩:=r2 e [] (fun t ht=>(nomatch ht)) (by simp; omega)
  rw[cond_false,show spec_l15Proof__search (lc.mk s ([])) ([]) (1:Int)=some ((k:Int),⟨s,q⟩) from lim_eq ⟨n+1,q1⟩,ai]
  simp only
  by_cases b:(200:Int)<(q.length:Int)
  ·rw[decide_eq_true b]; exact⟨_,rfl,fun e=>(nomatch e)⟩
  ·rw[decide_eq_false b]
   refine⟨_,rfl,fun _=>⟨?_,by simp only; omega⟩⟩
   show 1≤q.length
   by_cases hk:k<s.length
   ·have h5:=q2.fal hk
    have h6:=f5 (by omega) _ (getD_mem hk)
    cases h7:s.getD k default with
    | nil=>exact(h6 h7).elim
    | cons x l=>
     have:=h5 x (by rw[h7]; simp)
     unfold hasI at this
     simp at this
   ·have:=q2.lt; omega
 ·exact⟨_,rfl,fun e=>(nomatch e)⟩
end
section
theorem fall_ok:PS 100 [[(1:Int),(2:Int)],[(-1:Int),(2:Int)],[(1:Int),(-2:Int)],[(-1:Int),(-2:Int)]]:=by
 refine⟨by decide,fun c hc=>?_⟩
 simp only[List.mem_cons,List.not_mem_nil,or_false] at hc
 rcases hc with rfl | rfl | rfl | rfl<;>refine⟨by decide,fun x hx=>?_⟩<;>simp only[List.mem_cons,List.not_mem_nil,or_false] at hx<;>rcases hx with rfl | rfl<;>omega
theorem refutation_ok{c:ld}{m:Nat}(h:CurOk c m)(hm:m+3000≤1000000000):∃ s p c',spec_l1Cur__refutation c=some ((s,p),c')∧PS 100 s∧1≤p.length∧p.length≤200∧CurOk c' (m+3000):=by
 unfold spec_l1Cur__refutation
 obtain⟨s,c1,e1,g1,g2⟩:=propSet_ok h (by omega)
 rw[e1,ai]
 simp only
 obtain⟨r,r1,r2⟩:=refute_ok g1.okc
 rw[r1,ai]
 have fin:∀ (c2:ld) (s2:List (List Int)) (p2:List Pt) (b:Bool),CurOk c2 (m+2900)→PS 100 s2→(b=true→1≤p2.length∧p2.length≤200)→∃ s p c',(bif b then
  aa (spec_l1Cur__one c2 (8:Int)) fun v47=>
  bif v47.1 then
   some (([[(1:Int),(2:Int)],[(-1:Int),(2:Int)],[(1:Int),(-2:Int)],[(-1:Int),(-2:Int)]],[(Pt.mk (0:Int) (1:Int) (1:Int) ([(2:Int)])),(Pt.mk (2:Int) (3:Int) (1:Int) ([(-2:Int)])),(Pt.mk (0:Int) (2:Int) (2:Int) ([(1:Int)])),(Pt.mk (4:Int) (5:Int) (2:Int) ([]))]),v47.2)
  else
   some ((s2,p2),v47.2)
 else
  some (([[(1:Int),(2:Int)],[(-1:Int),(2:Int)],[(1:Int),(-2:Int)],[(-1:Int),(-2:Int)]],[(Pt.mk (0:Int) (1:Int) (1:Int) ([(2:Int)])),(Pt.mk (2:Int) (3:Int) (1:Int) ([(-2:Int)])),(Pt.mk (0:Int) (2:Int) (2:Int) ([(1:Int)])),(Pt.mk (4:Int) (5:Int) (2:Int) ([]))]),c2))=some ((s,p),c')∧PS 100 s∧1≤p.length∧p.length≤200∧CurOk c' (m+3000):=fun c2 s2 p2 b k1 k2 k3=>by
  cases b
  ·exact⟨_,_,_,rfl,fall_ok,by simp,by simp,k1.mono (by omega)⟩
  ·obtain⟨b,c3,e2,g3⟩:=one_ok 8 k1 (by omega)
   rw[cond_true,e2,ai]
   cases b
   ·exact⟨_,_,_,rfl,k2,(k3 rfl).1,(k3 rfl).2,g3.mono (by omega)⟩
   ·exact⟨_,_,_,rfl,fall_ok,by simp,by simp,g3.mono (by omega)⟩
 have loop:∀ (k i:Nat) (c2:ld) (s2:List (List Int)) (p2:List Pt) (b:Bool),i+k=3→CurOk c2 (m+2300+100*i)→PS (40+3*i) s2→(b=true→1≤p2.length∧p2.length≤200)→∃ s p c',thenL (ρ:=(((List (List Int))×(List Pt))×ld)) (σ:=ld×(List (List Int))×(List Pt)×Bool) (forN (fun (i4:Nat) (s4:ld×(List (List Int))×(List Pt)×Bool)=>
  bif s4.2.2.2 then
   aa (spec_l1Cur__one s4.1 (8:Int)) fun v47=>
   bif v47.1 then
    some (.rt (([[(1:Int),(2:Int)],[(-1:Int),(2:Int)],[(1:Int),(-2:Int)],[(-1:Int),(-2:Int)]],[(Pt.mk (0:Int) (1:Int) (1:Int) ([(2:Int)])),(Pt.mk (2:Int) (3:Int) (1:Int) ([(-2:Int)])),(Pt.mk (0:Int) (2:Int) (2:Int) ([(1:Int)])),(Pt.mk (4:Int) (5:Int) (2:Int) ([]))]),v47.2))
   else
    some (.rt ((s4.2.1,s4.2.2.1),v47.2))
  else
   aa (spec_l1Cur__propClause s4.1 (2:Int)) fun v25=>
   aa (spec_l1Cur__pick v25.2 (2:Int)) fun v27=>
   aa (spec_l1Cur__pick v27.2 (2:Int)) fun v32=>
   aa (app s4.2.1 ([v25.1,[IntKind.i64.wrap ((1:Int)-(IntKind.i64.wrap ((2:Int)*v27.1)))],[IntKind.i64.wrap ((2:Int)-(IntKind.i64.wrap ((4:Int)*v32.1)))]])) fun v37=>
   aa (spec_RefuteClauses v37) fun v40=>
   some (.nx (v32.2,v37,v40.1,v40.2))) k i (c2,s2,p2,b)) (fun s4=>
 bif s4.2.2.2 then
  aa (spec_l1Cur__one s4.1 (8:Int)) fun v47=>
  bif v47.1 then
   some (([[(1:Int),(2:Int)],[(-1:Int),(2:Int)],[(1:Int),(-2:Int)],[(-1:Int),(-2:Int)]],[(Pt.mk (0:Int) (1:Int) (1:Int) ([(2:Int)])),(Pt.mk (2:Int) (3:Int) (1:Int) ([(-2:Int)])),(Pt.mk (0:Int) (2:Int) (2:Int) ([(1:Int)])),(Pt.mk (4:Int) (5:Int) (2:Int) ([]))]),v47.2)
  else
   some ((s4.2.1,s4.2.2.1),v47.2)
 else
  some (([[(1:Int),(2:Int)],[(-1:Int),(2:Int)],[(1:Int),(-2:Int)],[(-1:Int),(-2:Int)]],[(Pt.mk (0:Int) (1:Int) (1:Int) ([(2:Int)])),(Pt.mk (2:Int) (3:Int) (1:Int) ([(-2:Int)])),(Pt.mk (0:Int) (2:Int) (2:Int) ([(1:Int)])),(Pt.mk (4:Int) (5:Int) (2:Int) ([]))]),s4.1))=some ((s,p),c')∧PS 100 s∧1≤p.length∧p.length≤200∧CurOk c' (m+3000):=by
  intro k
  induction k with
  | zero=>
   intro i c2 s2 p2 b hi k1 k2 k3
   exact fin c2 s2 p2 b (k1.mono (by omega)) (k2.mono (by omega)) k3
  | succ k ih=>
   intro i c2 s2 p2 b hi k1 k2 k3
   cases b
   ·obtain⟨l,c3,e3,g3,g4⟩:=propClause_ok 2 (by omega) k1 (by omega)
    have e3':spec_l1Cur__propClause c2 2=some (l,c3):=e3
    obtain⟨x,c4,e4,x0,x1,g5⟩:=pick_ok 2 g4 (by omega)
    obtain⟨y,c5,e5,y0,y1,g6⟩:=pick_ok 2 g5 (by omega)
    have x1:=x1 (by omega)
    have y1:=y1 (by omega)
    have hs2:=k2.1
    have k4:PS (40+3*(i+1)) (s2++[l,[IntKind.i64.wrap ((1:Int)-(IntKind.i64.wrap ((2:Int)*x)))],[IntKind.i64.wrap ((2:Int)-(IntKind.i64.wrap ((4:Int)*y)))]]):=by
     rw[wrap64 (n:=2*x) (by omega) (by omega),wrap64 (n:=4*y) (by omega) (by omega),wrap64 (n:=1-2*x) (by omega) (by omega),wrap64 (n:=2-4*y) (by omega) (by omega)]
     refine⟨by simp; omega,fun c hc=>?_⟩
     rcases List.mem_append.1 hc with hc | hc
     ·exact k2.2 c hc
     ·simp only[List.mem_cons,List.not_mem_nil,or_false] at hc
      rcases hc with rfl | rfl | rfl
      ·exact g3
      ·exact⟨by simp,fun z hz=>by rw[List.mem_singleton.1 hz]; omega⟩
      ·exact⟨by simp,fun z hz=>by rw[List.mem_singleton.1 hz]; omega⟩
    obtain⟨q,q1,q2⟩:=refute_ok k4.okc
    obtain⟨q3,q4⟩:=q
    obtain⟨s',p',c',f1,f2⟩:=ih (i+1) c5 _ q3 q4 (by omega) (g6.mono (by omega)) k4 q2
    refine⟨s',p',c',?_,f2⟩
    rw[← f1]
    congr 1
    refine forN_nx ?_
    simp only[cond_false]
    rw[e3',ai]
    simp only
    rw[e4,ai]
    simp only
    rw[e5,ai,show app s2 ([l,[IntKind.i64.wrap ((1:Int)-(IntKind.i64.wrap ((2:Int)*x)))],[IntKind.i64.wrap ((2:Int)-(IntKind.i64.wrap ((4:Int)*y)))]])=some (s2++[l,[IntKind.i64.wrap ((1:Int)-(IntKind.i64.wrap ((2:Int)*x)))],[IntKind.i64.wrap ((2:Int)-(IntKind.i64.wrap ((4:Int)*y)))]]) by unfold app; rw[if_pos (by simp; omega)],ai,q1]; rfl
   ·obtain⟨b,c3,e2,g3⟩:=one_ok 8 k1 (by omega)
    cases b
    ·refine⟨s2,p2,c3,?_,k2.mono (by omega),(k3 rfl).1,(k3 rfl).2,g3.mono (by omega)⟩
     rw[forN_rt (r:=((s2,p2),c3)) (by simp only[cond_true]; rw[e2]; rfl)]; rfl
    ·refine⟨_,[(Pt.mk (0:Int) (1:Int) (1:Int) ([(2:Int)])),(Pt.mk (2:Int) (3:Int) (1:Int) ([(-2:Int)])),(Pt.mk (0:Int) (2:Int) (2:Int) ([(1:Int)])),(Pt.mk (4:Int) (5:Int) (2:Int) ([]))],c3,?_,fall_ok,by simp,by simp,g3.mono (by omega)⟩
     rw[forN_rt (r:=(([[(1:Int),(2:Int)],[(-1:Int),(2:Int)],[(1:Int),(-2:Int)],[(-1:Int),(-2:Int)]],[(Pt.mk (0:Int) (1:Int) (1:Int) ([(2:Int)])),(Pt.mk (2:Int) (3:Int) (1:Int) ([(-2:Int)])),(Pt.mk (0:Int) (2:Int) (2:Int) ([(1:Int)])),(Pt.mk (4:Int) (5:Int) (2:Int) ([]))]),c3)) (by simp only[cond_true]; rw[e2]; rfl)]; rfl
 obtain⟨r3,r4⟩:=r
 exact loop 3 0 c1 s r3 r4 rfl (g2.mono (by omega)) (g1.mono (by omega)) r2
theorem quo4{x:Int}(h0:0≤x)(h1:x<9):∃ y,quo x 4=some y∧0≤y∧y≤2:=by
 rcases (by omega:x=0∨x=1∨x=2∨x=3∨x=4∨x=5∨x=6∨x=7∨x=8) with rfl | rfl | rfl | rfl | rfl | rfl | rfl | rfl | rfl<;>exact⟨_,rfl,by decide,by decide⟩
theorem drawI_ok(a:List Int)(h:∀ x∈a,0≤x∧x≤255):∃ s p k y,spec_DrawInterpolant a=some (s,p,k,y)∧OkC s:=by
 unfold spec_DrawInterpolant spec_DrawStepInterpolants
 obtain⟨s,p,c1,e1,g1,p1,p2,g2⟩:=refutation_ok (c:=ld.mk a 0 0) (m:=0) ⟨Int.le_refl _,Int.le_refl _,h⟩ (by omega)
 have hs:=g1.1
 rw[e1,ai]
 simp only
 obtain⟨k,c2,e2,k0,k1,g3⟩:=pick_ok (IntKind.i64.wrap ((s.length:Int)+(1:Int))) g2 (by omega)
 rw[e2,ai]
 simp only
 obtain⟨x,c3,e3,x0,x1,g4⟩:=pick_ok 20 g3 (by omega)
 rw[e3,ai]
 simp only
 have fin:∀ (c4:ld),CurOk c4 4000→∃ z,∀ (β:Type) (f:Int→β),(aa (spec_l1Cur__pick c4 (9:Int)) fun v46=>
  aa (quo v46.1 (4:Int)) fun v47=>
  aa (slc ([(1:Int),(2:Int),(1:Int),(2:Int),(0:Int),(3:Int)]) (0:Int) (IntKind.i64.wrap ((4:Int)+v47))) fun v49=>
  aa (spec_l1Cur__among v46.2 v49) fun v50=>
  some (f v50.1))=some (f z):=fun c4 hc=>by
  obtain⟨u,c5,e5,u0,u1,g5⟩:=pick_ok 9 hc (by omega)
  obtain⟨w,w1,w2,w3⟩:=quo4 u0 (u1 (by omega))
  obtain⟨l,l1,l2⟩:∃ l,slc ([(1:Int),(2:Int),(1:Int),(2:Int),(0:Int),(3:Int)]) (0:Int) (IntKind.i64.wrap ((4:Int)+w))=some l∧l≠[]:=by
   rcases (by omega:w=0∨w=1∨w=2) with rfl | rfl | rfl<;>exact⟨_,rfl,by decide⟩
  obtain⟨z,c6,e6,_,_⟩:=among_ok l l2 g5 (by omega)
  refine⟨z,fun β f=>?_⟩
  rw[e5,ai]
  simp only
  rw[w1,ai,l1,ai,e6,ai]
 by_cases a1:x=0
 ·rw[decide_eq_true a1,cond_true]
  obtain⟨t,c4,e4,_,g5⟩:=among_ok [(-1:Int),IntKind.i64.wrap ((s.length:Int)+(1:Int))] (by simp) g4 (by omega)
  obtain⟨z,hz⟩:=fin c4 (g5.mono (by omega))
  rw[e4,ai]
  simp only
  rw[hz _ (fun z=>(s,p,t,z))]
  exact⟨s,p,t,z,rfl,g1.okc⟩
 ·rw[decide_eq_false a1,cond_false]
  obtain⟨z,hz⟩:=fin c3 (g4.mono (by omega))
  by_cases a2:x=1
  ·rw[decide_eq_true a2,cond_true,wrap64 (by omega) (by omega),show(p.length:Int)-1=((p.length-1:Nat):Int) by omega,show slc p (0:Int) ((p.length-1:Nat):Int)=some (p.take (p.length-1)) by unfold slc; rw[if_pos (by omega)]; rfl,ai,hz _ (fun z=>(s,p.take (p.length-1),k,z))]
   exact⟨s,_,k,z,rfl,g1.okc⟩
  ·rw[decide_eq_false a2,cond_false,hz _ (fun z=>(s,p,k,z))]
   exact⟨s,p,k,z,rfl,g1.okc⟩
end
section
theorem FnInterpolants_true(a0:List Int)(h:LOk (fun x:Int=>0≤x∧x≤255) a0):FnInterpolants a0=some true:=by
 unfold FnInterpolants vBig
 rw[ai]
 by_cases hv:(65536:Int)<(a0.length:Int)
 ·rw[decide_eq_true hv]; rfl
 rw[decide_eq_false hv,cond_false]
 obtain⟨s,p,k,y,d1,hs⟩:=drawI_ok a0 h.2
 obtain⟨f,f1,f2,f3,f4⟩:=last_full s p k 1 hs
 obtain⟨g,g1,g2,g3,g4⟩:=last_full s p k 2 hs
 rw[d1,ai]
 simp only
 rw[f2,g2,f1,g1]
 simp only[ai,beq_self_eq_true,cond_true]
 cases ef:f.2
 ·cases eg:g.2
  ·rfl
  ·obtain⟨k2,y2,n2,rfl,hy2,r2⟩:=g4 eg
   simp only[cond_true,cond_false]
   rw[isint_ok r2 hs g3]; rfl
 ·obtain⟨k1,y1,n1,rfl,hy1,r1⟩:=f4 ef
  simp only[cond_true,cond_false]
  rw[isint_ok r1 hs f3]
  cases eg:g.2
  ·rfl
  ·obtain⟨k2,y2,n2,hk2,hy2,r2⟩:=g4 eg
   have:k2=k1:=by omega
   subst this
   simp only[cond_true,ai]
   rw[isint_ok r2 hs g3]
   have e1:y1=1:=by omega
   have e2:y2=2:=by omega
   subst e1 e2
   have e3:n2=n1:=by
    have h1:=r1.inn.mo
    have h2:=r2.inn.mo
    omega
   subst e3
   simp only[cond_true,ai]
   rw[impF_ok r1 r2 f3 g3]; rfl
end
end Go.Proofs.YtmfpijomelhccaaGreatDoor
