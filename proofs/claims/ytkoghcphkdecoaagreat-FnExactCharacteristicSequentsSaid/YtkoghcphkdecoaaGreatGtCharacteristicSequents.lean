/- A part of the proof: lemmas only; nothing is claimed here beyond what each lemma says. -/
import Derived.Test.YtkoghcphkdecoaaGreatGad
import Derived.Test.YtkoghcphkdecoaaGreatGch
set_option linter.unusedSimpArgs false
set_option linter.unusedVariables false
set_option linter.defProp false
set_option maxRecDepth 4000
namespace Go.Proofs.YtkoghcphkdecoaaGreat
open Go.Av
open Bool renaming and_eq_true→aD
open List renaming length_cons→aP,length_nil→aW,length_append→aY,all_eq_true→a8
open Option renaming bind_some→ak,bind→aa
open SizeOf renaming sizeOf→aw
noncomputable def sqPut(l:List Sa)(s:Sa):List Sa:=bif l.any (fun x=>same x s) then l else l++[s]
theorem contSq{p:Sa→Bool}{f:Sa→Option Bool}(l:List Sa)(h:∀ a∈l,f a=some (p a)):sCF_2 l f=some (l.any p):=by
 unfold sCF_2 sIF_1
 exact fl_1 (p:=p) l h
theorem sPl_(l:List Sa)(s:Sa):(sqPut l s).length≤l.length+1:=by
 unfold sqPut
 cases l.any fun x=>same x s<;>simp
theorem sPm_{l:List Sa}{s x:Sa}(h:x∈sqPut l s):x∈l∨x=s:=by
 unfold sqPut at h
 cases hh:l.any fun x=>same x s
 ·rw[hh,cond_false,List.mem_append,List.mem_singleton] at h; exact h
 ·rw[hh,cond_true] at h; exact .inl h
theorem sPi_{l:List Sa}(s:Sa)(h:l.length≤100000):iaS_ l s=some (sqPut l s):=by
 unfold iaS_ sqPut
 rw[contSq (p:=fun x=>same x s) l (fun a _=>by unfold iaS_1; rw[sSi_,ak]),ak]
 cases l.any fun x=>same x s
 ·rw[cond_false,cond_false,app,if_pos (by simp only[aP,aW]; omega)]; rfl
 ·rfl
theorem sPs_{l:List Sa}(s:Sa)(h:l.length≤100000):slP_2 l s=some (sqPut l s):=by
 unfold slP_2 sqPut
 cases ha:l.any fun x=>same x s
 ·have key:∀ (n k:Nat),k+n=l.length→forN (ρ:=List Sa) (fun (i2:Nat) (s2:Unit)=>
   aa (idx l (i2:Int)) fun v14=>aa (idx l (i2:Int)) fun v15=>aa (slS_6 v15 s) fun v17=>bif v17 then some (.rt l) else some (.nx ())) n k ()=some (.inr ()):=by
   intro n
   induction n with
   | zero=>intro k _; rfl
   | succ n ih=>
    intro k hk
    have:same (l.getD k default) s=false:=by
     rw[List.any_eq_false] at ha
     have:=ha _ (gDm_ (show k<l.length by omega))
     simpa using this
    rw[fNn_ (s':=()) (by rw[igD_ (by omega),ak,ak,sSs_,ak,this]; rfl)]
    exact ih (k+1) (by omega)
  rw[key l.length 0 (by omega),tLi_,app,if_pos (by simp only[aP,aW]; omega)]; rfl
 ·obtain⟨k,k1,k2,k3⟩:=af_ _ _ ha
  rw[fl_ (r:=l) k 0 _ k1 (fun j hj=>?_) ?_,tLi_1]
  ·rfl
  ·rw[Nat.zero_add,igD_ (by omega),ak,ak,sSs_,ak,k2]; rfl
  ·rw[Nat.zero_add,igD_ (by omega),ak,ak,sSs_,ak,k3 j hj]; rfl
theorem fl_3:∀ (L l:List Sa),(L.foldl sqPut l).length≤l.length+L.length
 | [],l=>by simp
 | a::L,l=>by
  have:=fl_3 L (sqPut l a)
  have:=sPl_ l a
  simp only[List.foldl_cons,aP]; omega
theorem fm_1{P:Sa→Prop}:∀ (L l:List Sa),(∀ x∈L,P x)→(∀ x∈l,P x)→∀ x∈L.foldl sqPut l,P x
 | [],l,_,h=>h
 | a::L,l,hL,h=>fm_1 L (sqPut l a) (fun x hx=>hL x (by simp[hx])) (fun x hx=>by
  rcases sPm_ hx with h1 | rfl
  ·exact h x h1
  ·exact hL x (by simp))
theorem foldL{ρ:Type}(f:List Sa→Sa→Option (List Sa))(hf:∀ l s,l.length≤100000→f l s=some (sqPut l s)):∀ (L:List Sa) (i:Nat) (l:List Sa),l.length+L.length≤100000→
 forL (ρ:=ρ) (fun _ a s=>(f s a).bind fun v=>some (.nx v)) L i l=some (.inr (L.foldl sqPut l))
 | [],i,l,_=>by simp[forL]
 | a::L,i,l,h=>by
  simp only[aP] at h
  have:=sPl_ l a
  rw[fLn_ (s':=sqPut l a) (by rw[hf _ _ (by omega)]; rfl),foldL f hf L (i+1) _ (by omega)]; rfl
noncomputable def cross(L M l:List Sa):List Sa:=L.foldl (fun l s=>(M.map fun t=>(⟨s.Left++t.Left,s.Right++t.Right⟩:Sa)).foldl sqPut l) l
theorem cm_1{P:Sa→Prop}(M:List Sa):∀ (L l:List Sa),(∀ s∈L,∀ t∈M,P ⟨s.Left++t.Left,s.Right++t.Right⟩)→(∀ x∈l,P x)→∀ x∈cross L M l,P x
 | [],l,_,h=>h
 | a::L,l,hL,h=>cm_1 M L _ (fun s hs=>hL s (by simp[hs])) (fm_1 _ l (fun x hx=>by
  obtain⟨t,ht,rfl⟩:=List.mem_map.1 hx
  exact hL a (by simp) t ht) h)
theorem cS_1(L R:List Sa)(h1:L.length≤100)(h2:R.length≤100):sCS_2 [L,R]=some (L++R):=by
 unfold sCS_2
 have w1:IntKind.i64.wrap ((0:Int)+(L.length:Int))=(L.length:Int):=by rw[wrap64]<;>omega
 have w2:IntKind.i64.wrap ((L.length:Int)+(R.length:Int))=((L.length+R.length:Nat):Int):=by rw[wrap64]<;>omega
 have e1:∀ i:Nat,idx [L,R] (i:Int)=[L,R][i]?:=fun i=>in_ _ i
 have g:∀ n:Nat,n≤200→sGS_ (n:Int)=some []:=by
  intro n hn
  unfold sGS_
  rw[decide_eq_false (by omega),cond_false]
  have:IntKind.i64.wrap ((n:Int)-IntKind.i64.wrap ((0:Int)-(([]:List Nat).length:Int)))=(n:Int):=by
   rw[show(0:Int)-(([]:List Nat).length:Int)=0 from rfl,wrap64 (n:=0) (by omega) (by omega),wrap64]<;>omega
  rw[this]
  by_cases h:0<(n:Int)
  ·rw[decide_eq_true h,cond_true]
   have:appz (n:Int)=some n:=by unfold appz; rw[if_pos (by omega)]; rfl
   rw[this,ak]
   unfold slc
   rw[if_pos ⟨by omega,by simp,by simp⟩]; rfl
  ·rw[decide_eq_false h]; rfl
 have a1:app ([]:List Sa) L=some L:=by unfold app; rw[if_pos (by simp only[aW]; omega)]; rfl
 have a2:app L R=some (L++R):=by unfold app; rw[if_pos (by omega)]
 have f1:forN (fun (i3:Nat) (s3:Int)=>aa (idx [L,R] (i3:Int)) fun v13=>bif decide ((IntKind.i64.wrap (s3+(v13.length:Int)))<(0:Int)) then(none:Option (Flow (List Sa) Int)) else some (.nx (IntKind.i64.wrap (s3+(v13.length:Int))))) [L,R].length 0 (0:Int)=some (.inr ((L.length+R.length:Nat):Int)):=by
  rw[show [L,R].length=1+1 from rfl,fNn_ (s':=(L.length:Int)) (by rw[e1]; simp only[List.getElem?_cons_zero,ak,w1]; rw[decide_eq_false (by omega)]; rfl),
   fNn_ (n:=0) (s':=((L.length+R.length:Nat):Int)) (by rw[e1]; simp only[List.getElem?_cons_zero,List.getElem?_cons_succ,ak,w2]; rw[decide_eq_false (by omega)]; rfl)]
  rfl
 have f2:forN (ρ:=List Sa) (fun (i11:Nat) (s11:(List Sa))=>aa (idx [L,R] (i11:Int)) fun v29=>aa (app s11 v29) fun v33=>some (.nx v33)) [L,R].length 0 []=some (.inr (L++R)):=by
  rw[show [L,R].length=1+1 from rfl,fNn_ (s':=L) (by rw[e1]; simp only[List.getElem?_cons_zero,ak,a1]),
   fNn_ (n:=0) (s':=L++R) (by rw[e1]; simp only[List.getElem?_cons_zero,List.getElem?_cons_succ,ak,a2])]
  rfl
 rw[f1,tLi_,g _ (by omega),ak,f2]; rfl
def Sm(x:Sa):Prop:=x.Ok∧x.tot≤1048576
theorem fi_{X:List Sa}(h:∀ x∈X,Sm x):(bif decide ((X.length:Int)≤(60:Int)) then
 aa (sCF_2 X (fun y0=>iDc_1 y0)) fun v121=>some (X,!v121) else some (X,false))=some (X,decide (X.length≤60)&&X.all validS):=by
 rw[contSq (p:=fun x=>!validS x) X (fun a ha=>by unfold iDc_1; rw[vSi_ a (h a ha).1 (h a ha).2,ak]),ak,show decide ((X.length:Int)≤(60:Int))=decide (X.length≤60) from decide_eq_decide.2 (by omega)]
 rw[List.all_eq_not_any_not]
 cases decide (X.length≤60)<;>rfl
theorem fs_{X:List Sa}(h:∀ x∈X,Sm x):thenL (ρ:=((List Sa)×Bool)) (σ:=Unit) (forN (fun (i29:Nat) (s29:Unit)=>
 aa (idx X (i29:Int)) fun v150=>
 aa (idx X (i29:Int)) fun v151=>
 aa (slG_ v151) fun v152=>
 bif v152 then some (.nx ()) else some (.rt (X,false))) X.length 0 ()) (fun s29=>some (X,decide ((X.length:Int)≤(60:Int))))=some (X,decide (X.length≤60)&&X.all validS):=by
 have key:∀ (n k:Nat),k+n=X.length→thenL (ρ:=((List Sa)×Bool)) (σ:=Unit) (forN (fun (i29:Nat) (s29:Unit)=>
  aa (idx X (i29:Int)) fun v150=>
  aa (idx X (i29:Int)) fun v151=>
  aa (slG_ v151) fun v152=>
  bif v152 then some (.nx ()) else some (.rt (X,false))) n k ()) (fun s29=>some (X,decide ((X.length:Int)≤(60:Int))))=some (X,decide (X.length≤60)&&(X.drop k).all validS):=by
  intro n
  induction n with
  | zero=>
   intro k hk
   rw[List.drop_eq_nil_of_le (by omega),List.all_nil,Bool.and_true,fNz_,tLi_,show decide ((X.length:Int)≤(60:Int))=decide (X.length≤60) from decide_eq_decide.2 (by omega)]
  | succ n ih=>
   intro k hk
   have hm:=h _ (gDm_ (show k<X.length by omega))
   rw[dgD_ (show k<X.length by omega),List.all_cons]
   have e:idx X (k:Int)=some (X.getD k default):=igD_ (by omega)
   cases hv:validS (X.getD k default)
   ·rw[fNr_ (r:=(X,false)) (by rw[e,ak,ak,vSs_ _ hm.1 hm.2,ak,hv]; rfl),tLi_1]
    simp
   ·rw[fNn_ (s':=()) (by rw[e,ak,ak,vSs_ _ hm.1 hm.2,ak,hv]; rfl),ih (k+1) (by omega),Bool.true_and]
 exact key X.length 0 (by omega)
theorem vSS_{x:Sa}(h:validS x=true):Sm x:=by
 obtain⟨vl,vr⟩:=vSV_ h
 have:=Vl.seq vl vr (by omega) (by omega)
 cases x; exact this
theorem cat_Sm{s t:Sa}(hs:validS s=true)(ht:validS t=true):Sm ⟨s.Left++t.Left,s.Right++t.Right⟩:=by
 obtain⟨a,b⟩:=vSV_ hs
 obtain⟨c,d⟩:=vSV_ ht
 exact Vl.seq (k:=20) (j:=20) ⟨fun f hf=>by
  rcases List.mem_append.1 hf with h | h
  ·exact a.val f h
  ·exact c.val f h,by have:=a.len; have:=c.len; rw[aY]; omega⟩ ⟨fun f hf=>by
  rcases List.mem_append.1 hf with h | h
  ·exact b.val f h
  ·exact d.val f h,by have:=b.len; have:=d.len; rw[aY]; omega⟩ (by omega) (by omega)
theorem VvS_{s:Sa}(vl:Vl s.Left 10)(vr:Vl s.Right 10):validS s=true:=by
 unfold validS
 simp only[aD,decide_eq_true_eq,a8]
 exact⟨⟨vl.len,vl.val⟩,⟨vr.len,vr.val⟩⟩
theorem pairL{ρ:Type}{a:Sa}(F:Sa→List Sa→Option (Flow ρ (List Sa))):∀ (M:List Sa) (i:Nat) (l:List Sa),(∀ t∈M,∀ s:List Sa,s.length≤100000→F t s=some (.nx (sqPut s ⟨a.Left++t.Left,a.Right++t.Right⟩)))→l.length+M.length≤100000→
 forL (fun _ t s=>F t s) M i l=some (.inr ((M.map fun t=>(⟨a.Left++t.Left,a.Right++t.Right⟩:Sa)).foldl sqPut l))
 | [],i,l,_,_=>by simp[forL]
 | t::M,i,l,h,hb=>by
  simp only[aP] at hb
  have:=sPl_ l ⟨a.Left++t.Left,a.Right++t.Right⟩
  rw[fLn_ (s':=sqPut l ⟨a.Left++t.Left,a.Right++t.Right⟩) (h t (by simp) l (by omega)),pairL F M (i+1) _ (fun x hx=>h x (by simp[hx])) (by omega)]; rfl
theorem crossL{ρ:Type}(F:Sa→Sa→List Sa→Option (Flow (Flow ρ (List Sa)) (List Sa)))(M:List Sa):∀ (L:List Sa) (i:Nat) (l:List Sa),(∀ a∈L,∀ t∈M,∀ s:List Sa,s.length≤100000→F a t s=some (.nx (sqPut s ⟨a.Left++t.Left,a.Right++t.Right⟩)))→
 l.length+L.length*M.length≤100000→
 forL (ρ:=ρ) (fun _ a s=>thenL (ρ:=Flow ρ (List Sa)) (σ:=List Sa) (forL (fun _ t s=>F a t s) M 0 s) fun s=>some (.nx s)) L i l=some (.inr (cross L M l))
 | [],i,l,_,_=>by simp[forL,cross]
 | a::L,i,l,h,hb=>by
  rw[aP,Nat.succ_mul] at hb
  have h2:=fl_3 (M.map fun t=>(⟨a.Left++t.Left,a.Right++t.Right⟩:Sa)) l
  rw[List.length_map] at h2
  rw[fLn_ (s':=(M.map fun t=>(⟨a.Left++t.Left,a.Right++t.Right⟩:Sa)).foldl sqPut l) (by rw[pairL (a:=a) (F a) M 0 l (h a (by simp)) (by omega),tLi_]),
   crossL F M L (i+1) _ (fun x hx=>h x (by simp[hx])) (by omega)]; rfl
theorem lb_1(d:Dt):∀ l r,Fit d l r→∃ (L M:List Sa) (b:Bool),(∀ n,2*aw d≤n→iDc_ n d ⟨l,r⟩=some (L,b)∧slL_ n d l r=some (M,b))∧
 (b=true→L=M∧L.length≤60∧∀ x∈L,validS x=true):=by
 refine Dt.ind' (M:=fun d=>∀ l r,Fit d l r→∃ (L M:List Sa) (b:Bool),(∀ n,2*aw d≤n→iDc_ n d ⟨l,r⟩=some (L,b)∧slL_ n d l r=some (M,b))∧
  (b=true→L=M∧L.length≤60∧∀ x∈L,validS x=true)) (fun d ih l r F=>?_) d
 have hpos:=d.pos
 have hg:=F.good
 rw[DoD_,aD] at hg
 obtain⟨_,_,h3⟩:=nBe_ F.ok F.tot
 obtain⟨xs,_,a2,_,a4⟩:=(h3 hg.1).rule
 have hlen:d.Parts.length≤2:=by
  have:=congrArg List.length a4
  rw[List.length_map,List.length_map] at this; omega
 have fl:∀ X:List Sa,X.length≤60→(∀ x∈X,validS x=true)→(decide (X.length≤60)&&X.all validS)=true:=fun X h1 h2=>by rw[decide_eq_true h1,Bool.true_and,a8]; exact h2
 have af:∀ {X:List Sa},(decide (X.length≤60)&&X.all validS)=true→X.length≤60∧∀ x∈X,validS x=true:=fun h=>by rw[aD,decide_eq_true_eq,a8] at h; exact h
 have ap1:∀ X:List Sa,app ([]:List (List Sa)) [X]=some [X]:=fun X=>rfl
 have ap2:∀ X Y:List Sa,app [X] [Y]=some [X,Y]:=fun X Y=>rfl
 cases hp:d.Parts with
 | nil=>
  obtain⟨s,s1,s2,s3,s4⟩:=lb_2 F hp
  have hv:validS s=true:=VvS_ ⟨s3.val,by have:=s3.len; omega⟩ ⟨s4.val,by have:=s4.len; omega⟩
  have hX:∀ x∈[s],validS x=true:=fun x hx=>by rw[List.mem_singleton.1 hx]; exact hv
  refine⟨[s],[s],true,fun n hn=>?_,fun _=>⟨rfl,by simp,hX⟩⟩
  cases n with
  | zero=>omega
  | succ n=>
   rw[iDc_,slL_,hp]
   refine⟨?_,?_⟩
   ·rw[aW,fNz_,tLi_,show decide ((([]:List (List Sa)).length:Int)=(0:Int))=true from rfl,cond_true,s1,ak,show app ([]:List Sa) [s]=some [s] from rfl,ak,fi_ (fun x hx=>vSS_ (hX x hx)),fl [s] (by simp) hX]
   ·rw[show decide ((([]:List Dt).length:Int)=(0:Int))=true from rfl,cond_true,s2]; rfl
 | cons p ps=>
  have i0:idx d.Parts (0:Int)=some p:=by rw[hp]; rfl
  have hpm:p∈d.Parts:=by rw[hp]; simp
  have hlp:=Dt.lt hpm
  obtain⟨l',r',m1,m2,F'⟩:=ms_ F i0
  obtain⟨L,M,b,e,eb⟩:=ih p hpm l' r' F'
  cases ps with
  | nil=>
   cases b with
   | false=>
    refine⟨[],M,false,fun n hn=>?_,fun h=>(nomatch h)⟩
    cases n with
    | zero=>omega
    | succ n=>
     obtain⟨e1,e2⟩:=e n (by omega)
     rw[iDc_,slL_]
     refine⟨?_,?_⟩
     ·rw[hp,show([p]:List Dt).length=0+1 from rfl,fNr_ (r:=([],false)) (by
       show aa (some p) _=_
       rw[ak,show iDp_ d ⟨l,r⟩ ((0:Nat):Int)=_ from m1,ak,e1]; rfl)]; rfl
     ·rw[hp,decide_eq_false (by simp),cond_false,m2,ak]
      show aa (some p) _=_
      rw[ak,e2]; rfl
   | true=>
    obtain⟨rfl,hL,hV⟩:=eb rfl
    refine⟨L,L,true,fun n hn=>?_,fun _=>⟨rfl,hL,hV⟩⟩
    cases n with
    | zero=>omega
    | succ n=>
     obtain⟨e1,e2⟩:=e n (by omega)
     rw[iDc_,slL_]
     refine⟨?_,?_⟩
     ·rw[hp,show([p]:List Dt).length=0+1 from rfl,fNn_ (s':=[L]) (by
       show aa (some p) _=_
       rw[ak,show iDp_ d ⟨l,r⟩ ((0:Nat):Int)=_ from m1,ak,e1]
       simp only[ak,cond_true,ap1]),fNz_,tLi_,show decide ((([L]:List (List Sa)).length:Int)=(0:Int))=false from rfl,cond_false,show decide ((([L]:List (List Sa)).length:Int)=(1:Int))=true from rfl,cond_true,show idx [L] (0:Int)=some L from rfl,ak,ak,fi_ (fun x hx=>vSS_ (hV x hx)),fl L hL hV]
     ·rw[hp,decide_eq_false (by simp),cond_false,m2,ak]
      show aa (some p) _=_
      rw[ak,e2]; rfl
  | cons q qs=>
   have hqs:qs=[]:=by
    rw[hp] at hlen
    cases qs with
    | nil=>rfl
    | cons a qs=>simp at hlen
   subst hqs
   have i1:idx d.Parts (1:Int)=some q:=by rw[hp]; rfl
   have hqm:q∈d.Parts:=by rw[hp]; simp
   have hlq:=Dt.lt hqm
   obtain⟨l2,r2,n1,n2,F2⟩:=ms_ F i1
   obtain⟨L2,M2,b2,f,fb⟩:=ih q hqm l2 r2 F2
   have j1:idx [p,q] (1:Int)=some q:=rfl
   have j0:idx [p,q] (0:Int)=some p:=rfl
   cases b with
   | false=>
    refine⟨[],M,false,fun n hn=>?_,fun h=>(nomatch h)⟩
    cases n with
    | zero=>omega
    | succ n=>
     obtain⟨e1,e2⟩:=e n (by omega)
     rw[iDc_,slL_]
     refine⟨?_,?_⟩
     ·rw[hp,show([p,q]:List Dt).length=1+1 from rfl,fNr_ (r:=([],false)) (by
       show aa (some p) _=_
       rw[ak,show iDp_ d ⟨l,r⟩ ((0:Nat):Int)=_ from m1,ak,e1]; rfl)]; rfl
     ·rw[hp,decide_eq_false (by simp),cond_false,m2,ak,j0,ak,e2]; rfl
   | true=>
    obtain⟨rfl,hL,hV⟩:=eb rfl
    have st0:∀ n,2*aw d≤n+1→aa (idx [p,q] ((0:Nat):Int)) (fun v25=>
     aa (iDp_ d ⟨l,r⟩ ((0:Nat):Int)) fun v32=>
     aa (iDc_ n v25 v32) fun v33=>
     bif v33.2 then aa (app ([]:List (List Sa)) ([v33.1])) fun v41=>(some (.nx v41):Option (Flow (List Sa×Bool) (List (List Sa)))) else some (.rt (([]:List Sa),false)))=some (.nx [L]):=fun n hn=>by
     show aa (some p) _=_
     rw[ak,show iDp_ d ⟨l,r⟩ ((0:Nat):Int)=_ from m1,ak,(e n (by omega)).1]
     simp only[ak,cond_true,ap1]
    cases b2 with
    | false=>
     refine⟨[],M2,false,fun n hn=>?_,fun h=>(nomatch h)⟩
     cases n with
     | zero=>omega
     | succ n=>
      obtain⟨e1,e2⟩:=e n (by omega)
      obtain⟨f1,f2⟩:=f n (by omega)
      rw[iDc_,slL_]
      refine⟨?_,?_⟩
      ·rw[hp,show([p,q]:List Dt).length=1+1 from rfl,fNn_ (s':=[L]) (st0 n hn),fNr_ (n:=0) (r:=([],false)) (by
        show aa (some q) _=_
        rw[ak,show iDp_ d ⟨l,r⟩ ((0+1:Nat):Int)=_ from n1,ak,f1]; rfl)]; rfl
      ·rw[hp,decide_eq_false (by simp),cond_false,m2,ak,j0,ak,e2,ak,cond_true,decide_eq_false (by simp),cond_false,n2,ak,j1,ak,f2]; rfl
    | true=>
     obtain⟨rfl,hL2,hV2⟩:=fb rfl
     obtain⟨m,g1,g2⟩:=mb_ F
     have k0:idx [L,L2] (0:Int)=some L:=rfl
     have k1:idx [L,L2] (1:Int)=some L2:=rfl
     have hpair:∀ n,2*aw d≤n+1→aa (idx [p,q] ((0+1:Nat):Int)) (fun v25=>
      aa (iDp_ d ⟨l,r⟩ ((0+1:Nat):Int)) fun v32=>
      aa (iDc_ n v25 v32) fun v33=>
      bif v33.2 then aa (app [L] ([v33.1])) fun v41=>(some (.nx v41):Option (Flow (List Sa×Bool) (List (List Sa)))) else some (.rt (([]:List Sa),false)))=some (.nx [L,L2]):=fun n hn=>by
      show aa (some q) _=_
      rw[ak,show iDp_ d ⟨l,r⟩ ((0+1:Nat):Int)=_ from n1,ak,(f n (by omega)).1]
      simp only[ak,cond_true,ap2]
     cases m with
     | true=>
      have hS:∀ x∈(L++L2).foldl sqPut [],validS x=true:=fm_1 _ [] (fun x hx=>by
       rcases List.mem_append.1 hx with h | h
       ·exact hV x h
       ·exact hV2 x h) (fun x hx=>by cases hx)
      have fx:(L++L2).foldl sqPut []=L2.foldl sqPut (L.foldl sqPut []):=List.foldl_append ..
      have c1:=fl_3 L []
      rw[aW] at c1
      refine⟨(L++L2).foldl sqPut [],(L++L2).foldl sqPut [],(decide (((L++L2).foldl sqPut []).length≤60)&&((L++L2).foldl sqPut []).all validS),fun n hn=>?_,fun h=>⟨rfl,af h⟩⟩
      cases n with
      | zero=>omega
      | succ n=>
       obtain⟨e1,e2⟩:=e n (by omega)
       obtain⟨f1,f2⟩:=f n (by omega)
       rw[iDc_,slL_]
       refine⟨?_,?_⟩
       ·rw[hp,show([p,q]:List Dt).length=1+1 from rfl,fNn_ (s':=[L]) (st0 n hn),fNn_ (n:=0) (s':=[L,L2]) (hpair n hn),fNz_,tLi_,
         decide_eq_false (by simp),decide_eq_false (by simp),cond_false,cond_false,g1]
        simp only[ak,cond_true,k0,k1,cS_1 L L2 (by omega) (by omega),fNi_]
        simp only[List.forall_mem_cons] at*
        rw[show(fun (i26:Nat) (v109:Sa) (s26:List Sa)=>aa (idx (L++L2) (i26:Int)) fun v110=>aa (iaS_ s26 v110) fun v113=>(some (.nx v113):Option (Flow (List Sa×Bool) (List Sa))))=_ from rfl]
        rw[fLc_ (g:=fun _ a s=>(iaS_ s a).bind fun v=>some (.nx v)) (L++L2) 0 [] (fun j a s ha=>by
         rw[Nat.zero_add,in_,ha,ak]),foldL iaS_ (fun l s h=>sPi_ s h) (L++L2) 0 [] (by rw[aY,aW]; omega),tLi_,fi_ (fun x hx=>vSS_ (hS x hx))]
       ·rw[hp,decide_eq_false (by simp),cond_false,m2,ak,j0,ak,e2,ak,cond_true,decide_eq_false (by simp),cond_false,n2,ak,j1,ak,f2,ak,cond_true,g2,ak,cond_true]
        simp only[fNi_]
        rw[foldL slP_2 (fun l s h=>sPs_ s h) L 0 [] (by rw[aW]; omega),tLi_,foldL slP_2 (fun l s h=>sPs_ s h) L2 0 _ (by omega),tLi_,← fx]
        have:=fs_ (X:=(L++L2).foldl sqPut []) (fun x hx=>vSS_ (hS x hx))
        simp only[fNi_] at this
        exact this
     | false=>
      have hS:∀ x∈cross L L2 [],Sm x:=cm_1 L2 L [] (fun s hs t ht=>cat_Sm (hV s hs) (hV2 t ht)) (fun x hx=>by cases hx)
      have hm:L.length*L2.length≤60*60:=Nat.mul_le_mul hL hL2
      refine⟨cross L L2 [],cross L L2 [],(decide ((cross L L2 []).length≤60)&&(cross L L2 []).all validS),fun n hn=>?_,fun h=>⟨rfl,af h⟩⟩
      cases n with
      | zero=>omega
      | succ n=>
       obtain⟨e1,e2⟩:=e n (by omega)
       obtain⟨f1,f2⟩:=f n (by omega)
       rw[iDc_,slL_]
       refine⟨?_,?_⟩
       ·rw[hp,show([p,q]:List Dt).length=1+1 from rfl,fNn_ (s':=[L]) (st0 n hn),fNn_ (n:=0) (s':=[L,L2]) (hpair n hn),fNz_,tLi_,
         decide_eq_false (by simp),decide_eq_false (by simp),cond_false,cond_false,g1]
        simp only[ak,cond_false,k0,k1,fNi_]
        rw[crossL (fun a t s=>aa (sCS_ [a.Left,t.Left]) fun v66=>aa (sCS_ [a.Right,t.Right]) fun v72=>aa (iaS_ s ⟨v66,v72⟩) fun v74=>some (.nx v74)) L2 L 0 [] (fun a ha t ht s hs=>by
         obtain⟨v1,v2⟩:=vSV_ (hV a ha)
         obtain⟨v3,v4⟩:=vSV_ (hV2 t ht)
         rw[cF_ _ _ v1.len v3.len,ak,cF_ _ _ v2.len v4.len,ak,sPi_ _ hs]; rfl) (by rw[aW]; omega),tLi_,fi_ hS]
       ·rw[hp,decide_eq_false (by simp),cond_false,m2,ak,j0,ak,e2,ak,cond_true,decide_eq_false (by simp),cond_false,n2,ak,j1,ak,f2,ak,cond_true,g2,ak,cond_false]
        rw[fNf_ _ (fun _ a s=>thenL (ρ:=Flow (List Sa×Bool) (List Sa)) (σ:=List Sa) (forL (fun _ t s=>aa (slC_ a.Left (-1) t.Left) fun v128=>aa (slC_ a.Right (-1) t.Right) fun v139=>aa (slP_2 s ⟨v128,v139⟩) fun v141=>some (.nx v141)) L2 0 s) fun s=>some (.nx s)) L 0 [] (fun j x s hx=>by
         have hx':idx L ((0+j:Nat):Int)=some x:=by rw[Nat.zero_add,in_,hx]
         simp only[hx',ak]
         congr 1
         refine fNf_ _ _ L2 0 s (fun j2 t s2 ht=>?_)
         have ht':idx L2 ((0+j2:Nat):Int)=some t:=by rw[Nat.zero_add,in_,ht]
         simp only[ht',ak]),
         crossL (fun a t s=>aa (slC_ a.Left (-1) t.Left) fun v128=>aa (slC_ a.Right (-1) t.Right) fun v139=>aa (slP_2 s ⟨v128,v139⟩) fun v141=>some (.nx v141)) L2 L 0 [] (fun a ha t ht s hs=>by
          obtain⟨v1,v2⟩:=vSV_ (hV a ha)
          obtain⟨v3,v4⟩:=vSV_ (hV2 t ht)
          rw[sc_ (-1) (v1.mod (by omega)) (v3.mod (by omega)),ak,sc_ (-1) (v2.mod (by omega)) (v4.mod (by omega)),ak,dIn_ _ _ (by omega),dIn_ _ _ (by omega),sPs_ _ hs]; rfl) (by rw[aW]; omega),tLi_]
        exact fs_ hS
theorem Cb_(d:Dt)(hok:d.Ok)(ht:d.tot≤1048576):∃ r:List Sa×Bool,iCS_ d=some r∧sCS_5 d=some r∧r.1.length≤60∧∀ x∈r.1,x.tot≤1048576:=by
 unfold iCS_ sCS_5
 rw[vDi_1 d hok ht,vDs_1 d hok ht,ak,ak]
 cases hv:validD d
 ·exact⟨_,rfl,rfl,by simp,fun x hx=>by cases hx⟩
 unfold validD at hv
 rw[aD] at hv
 have hg:=hv.2
 rw[DoD_,aD] at hg
 obtain⟨_,_,h3⟩:=nBe_ hok ht
 obtain⟨vl,vr⟩:=vSV_ (h3 hg.1).valid
 have b1:=vl.len
 have b2:=vr.len
 obtain⟨L,M,b,e,eb⟩:=lb_1 d (List.replicate d.Sequent.Left.length false) (List.replicate d.Sequent.Right.length false) ⟨hok,ht,hv.2,List.length_replicate,List.length_replicate⟩
 rw[cond_true,cond_true]
 unfold inM_
 rw[ml_3 (by omega),ml_3 (by omega)]
 simp only[ak]
 rw[show iDc_3 d ⟨List.replicate d.Sequent.Left.length false,List.replicate d.Sequent.Right.length false⟩=some (L,b) from lim_eq ⟨_,fun n hn=>(e n hn).1⟩,
  show slL_3 d (List.replicate d.Sequent.Left.length false) (List.replicate d.Sequent.Right.length false)=some (M,b) from lim_eq ⟨_,fun n hn=>(e n hn).2⟩]
 simp only[ak]
 cases b with
 | false=>exact⟨_,rfl,rfl,by simp,fun x hx=>by cases hx⟩
 | true=>
  obtain⟨rfl,hL,hV⟩:=eb rfl
  simp only[cond_true,fNi_]
  rw[mapL (f:=icS_) (g:=fun x=>x) L 0 [] (fun a ha=>by
   obtain⟨v1,v2⟩:=vSV_ (hV a ha)
   exact copyS (v1.mod (by omega)) (v2.mod (by omega))) (by rw[aW]; omega),tLi_]
  simp only[List.nil_append,List.map_id']
  exact⟨_,rfl,rfl,hL,fun x hx=>(vSS_ (hV x hx)).2⟩
theorem lb_{α:Type}{c:α→Nat}{B:Nat}:∀ l:List α,(∀ x∈l,c x≤B)→lcn c l≤l.length*B
 | [],_=>Nat.zero_le _
 | a::l,h=>by
  have h1:=h a (by simp)
  have h2:=lb_ l (fun x hx=>h x (by simp[hx]))
  rw[lc_,aP,Nat.succ_mul]; omega
theorem FnExactCharacteristicSequents_true(d:Dt)(hok:d.Ok):FnExactCharacteristicSequents d=some true:=by
 unfold FnExactCharacteristicSequents
 rw[sDe_ d hok _ (by omega) (by omega),ak]
 by_cases e:szR d.tot 1048576<0
 ·rw[decide_eq_true e]; rfl
 have ht:=szR_ok e
 obtain⟨r,g1,g2,g3,g4⟩:=Cb_ d hok ht
 obtain⟨y,m1,m2,m3,m4⟩:=mDo_ d ht
 have hc:=lb_ (c:=Sa.cn) (B:=3145728) r.1 (fun x hx=>by
  have h1:=x.marks_tot
  have h2:=g4 x hx
  rw[Sa.cn_u]; omega)
 have hc2:=Nat.mul_le_mul_right 3145728 g3
 obtain⟨z,k1,k2⟩:=(mSS_1 r.1 (by omega)).unit (k:=1) (by omega) (by omega)
 have d1:decide ((1:Int)+((lcn Sa.cn r.1:Nat):Int)<0)=false:=decide_eq_false (by omega)
 rw[decide_eq_false e,cond_false]
 simp only[tDe_ d ht,ak,g1,g2,eSS_2,eDr_,cond_true,beq_self_eq_true,m1,m2,cond_false,k1,k2,d1,decide_true]
end Go.Proofs.YtkoghcphkdecoaaGreat
