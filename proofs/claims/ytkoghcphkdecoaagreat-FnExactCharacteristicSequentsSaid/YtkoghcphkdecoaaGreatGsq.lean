/- A part of the proof: lemmas only; nothing is claimed here beyond what each lemma says. -/
import Derived.Test.YtkoghcphkdecoaaGreatGsv
set_option linter.unusedSimpArgs false
set_option linter.unusedVariables false
set_option linter.defProp false
set_option maxRecDepth 4000
namespace Go.Proofs.YtkoghcphkdecoaaGreat
open Go.Av
open List renaming length_cons→aP
open Option renaming bind_some→ak,bind→aa
def dropI{α:Type}:List α→Int→List α
 | [],_=>[]
 | f::l,i=>if i=0 then l else f::dropI l (i-1)
theorem dIn_{α:Type}:∀ (l:List α) (i:Int),i<0→dropI l i=l
 | [],_,_=>rfl
 | f::l,i,h=>by rw[dropI,if_neg (by omega),dIn_ l (i-1) (by omega)]
theorem dIm_{α:Type}{l:List α}{i:Int}{f:α}:f∈dropI l i→f∈l:=by
 induction l generalizing i with
 | nil=>exact fun h=>h
 | cons g l ih=>
  rw[dropI]
  split
  ·exact List.mem_cons_of_mem _
  ·rw[List.mem_cons,List.mem_cons]; exact fun h=>h.imp id ih
theorem dIl_{α:Type}(l:List α)(i:Int):(dropI l i).length≤l.length:=by
 induction l generalizing i with
 | nil=>exact Nat.le_refl _
 | cons g l ih=>
  rw[dropI]
  split
  ·simp
  ·simp only[aP]; have:=ih (i-1); omega
theorem dIl_1{α β:Type}:∀ (l:List α) (m:List β) (i:Int),l.length=m.length→(dropI l i).length=(dropI m i).length
 | [],[],_,_=>rfl
 | [],_::_,_,h=>(nomatch h)
 | _::_,[],_,h=>(nomatch h)
 | a::l,b::m,i,h=>by
  simp only[aP,Nat.add_right_cancel_iff] at h
  rw[dropI,dropI]
  by_cases e:i=0
  ·rw[if_pos e,if_pos e,h]
  ·rw[if_neg e,if_neg e,aP,aP,dIl_1 l m (i-1) h]
theorem kg_{α ρ:Type}[Inhabited α](l:List α)(i:Int)(F:Nat→List α→Option (Flow ρ (List α)))
 (hF:∀ j s,j<l.length→s.length≤j→F j s=some (.nx (if (j:Int)=i then s else s++[l.getD j default]))):
 ∀ (n k:Nat) (s:List α),k+n=l.length→s.length≤k→forN F n k s=some (.inr (s++dropI (l.drop k) (i-k))):=by
 intro n
 induction n with
 | zero=>
  intro k s hk _
  rw[List.drop_eq_nil_of_le (by omega),dropI,List.append_nil]; rfl
 | succ n ih=>
  intro k s hk hs
  rw[dgD_ (show k<l.length by omega),dropI]
  by_cases h:(k:Int)=i
  ·rw[fNn_ (s':=s) (by rw[hF k s (by omega) hs,if_pos h]),ih (k+1) s (by omega) (by omega),if_pos (by omega),dIn_ _ _ (by omega)]
  ·rw[fNn_ (s':=s++[l.getD k default]) (by rw[hF k s (by omega) hs,if_neg h]),ih (k+1) _ (by omega) (by simp; omega),if_neg (by omega),List.append_assoc]
   have:i-((k+1:Nat):Int)=i-k-1:=by omega
   rw[this]; rfl
theorem kl_{α ρ:Type}[Inhabited α](l:List α)(i:Int)(F:Nat→List α→Option (Flow ρ (List α)))
 (hF:∀ j s,j<l.length→s.length≤j→F j s=some (.nx (if (j:Int)=i then s else s++[l.getD j default]))):
 forN F l.length 0 []=some (.inr (dropI l i)):=by
 have:=kg_ l i F hF l.length 0 [] (by omega) (Nat.le_refl _)
 simpa using this
structure Mod(l:List Ft):Prop where
 tot:∀ f∈l,f.tot≤1048576
 len:l.length≤1048576
theorem sc_{l m:List Ft}(i:Int)(hl:Mod l)(hm:Mod m):slC_ l i m=some (dropI l i++m):=by
 unfold slC_
 rw[kl_ l i _ (fun j s hj hs=>?_),tLi_]
 ·simp only[fNi_]
  have:=dIl_ l i
  have h1:=hl.len
  have h2:=hm.len
  rw[mapL (f:=slO_3) (g:=fun x=>x) m 0 (dropI l i) (fun a ha=>ownF a (hm.tot a ha)) (by omega),tLi_]
  simp
 ·have h1:=hl.len
  by_cases h:(j:Int)=i
  ·rw[decide_eq_true h,if_pos h]; rfl
  ·rw[decide_eq_false h,if_neg h,cond_false,igD_ hj,ak,ownF _ (hl.tot _ (gDm_ hj)),ak,app,if_pos (by simp; omega)]; rfl
def nx(s:Sa)(i:Int)(m:List Ft)(j:Int)(k:List Ft):Sa:=⟨dropI s.Left i++m,dropI s.Right j++k⟩
theorem sn_{s:Sa}(i j:Int){m k:List Ft}(hl:Mod s.Left)(hr:Mod s.Right)(hm:Mod m)(hk:Mod k):slN_1 s i m j k=some (nx s i m j k):=by
 unfold slN_1
 rw[sc_ i hl hm,ak,sc_ j hr hk,ak]; rfl
def mOn(r:Int):Bool×Int:=
 bif decide (r=1) then(true,0) else bif decide (r=2) then(false,1) else bif decide (r=3) then(true,4) else bif decide (r=4) then(false,4) else
 bif decide (r=5) then(true,5) else bif decide (r=6) then(false,5) else bif decide (r=7) then(true,6) else bif decide (r=8) then(false,6) else
 bif decide (r=9) then(true,7) else bif decide (r=10) then(false,7) else bif decide (r=11) then(true,8) else bif decide (r=12) then(false,8) else(decide (r=13),9)
theorem mOe_(r:Int):imO_ r=some (mOn r):=by
 have hr:r=1∨r=2∨r=3∨r=4∨r=5∨r=6∨r=7∨r=8∨r=9∨r=10∨r=11∨r=12∨(r≠1∧r≠2∧r≠3∧r≠4∧r≠5∧r≠6∧r≠7∧r≠8∧r≠9∧r≠10∧r≠11∧r≠12):=by omega
 rcases hr with rfl | rfl | rfl | rfl | rfl | rfl | rfl | rfl | rfl | rfl | rfl | rfl | ⟨h1,h2,h3,h4,h5,h6,h7,h8,h9,h10,h11,h12⟩
 all_goals first | rfl | skip
 unfold imO_ mOn
 simp only[decide_eq_false h1,decide_eq_false h2,decide_eq_false h3,decide_eq_false h4,decide_eq_false h5,decide_eq_false h6,decide_eq_false h7,decide_eq_false h8,decide_eq_false h9,decide_eq_false h10,decide_eq_false h11,decide_eq_false h12,cond_false]
def stays(r:Int):Bool:=decide (r=11)||decide (r=14)
theorem re_(r:Int):imR_ r=some (stays r):=by
 unfold imR_ stays
 cases decide (r=11)<;>rfl
def remI(d:Dt)(left:Bool):Int:=bif decide (d.Rule=15)||stays d.Rule then -1 else bif (mOn d.Rule).1==left then d.Main else -1
theorem re_1(d:Dt)(left:Bool){i:Int}(hi:0≤i):iDr_1 d left i=some (decide (i=remI d left)):=by
 unfold iDr_1 remI
 have hn:decide (i=-1)=false:=decide_eq_false (by omega)
 rw[re_,mOe_]
 simp only[ak]
 cases decide (d.Rule=15)
 ·cases stays d.Rule
  ·cases h:(mOn d.Rule).1==left
   ·simp[hn]
   ·simp only[cond_false,cond_true,Bool.or_self]
    rw[decide_eq_decide.2 (eq_comm (a:=d.Main) (b:=i))]
  ·simp[hn]
 ·simp[hn]
theorem re_3(d:Dt)(left:Bool){l:List Ft}(hl:Mod l):iDr_2 d l left=some (dropI l (remI d left)):=by
 unfold iDr_2
 rw[kl_ l (remI d left) _ (fun j s hj hs=>?_),tLi_]
 have h1:=hl.len
 rw[igD_ hj,ak,re_1 d left (by omega),ak]
 by_cases h:(j:Int)=remI d left
 ·rw[decide_eq_true h,if_pos h]; rfl
 ·rw[decide_eq_false h,if_neg h,cond_false,app,if_pos (by simp; omega)]; rfl
theorem chk_go(xs:List Sa)(P:Sa→Sa)(F:Nat→List Sa→Option (Flow (List Sa×Bool) (List Sa)))
 (hF:∀ j s,j<xs.length→s.length≤j→F j s=some (bif validS (P (xs.getD j default)) then .nx (s++[P (xs.getD j default)]) else .rt ([],false))):
 ∀ (n k:Nat) (s:List Sa),k+n=xs.length→s.length≤k→
  thenL (forN F n k s) (fun s=>some (s,true))=some (bif ((xs.drop k).map P).all validS then(s++(xs.drop k).map P,true) else([],false)):=by
 intro n
 induction n with
 | zero=>
  intro k s hk _
  rw[List.drop_eq_nil_of_le (by omega),List.map_nil,List.append_nil]; rfl
 | succ n ih=>
  intro k s hk hs
  rw[dgD_ (show k<xs.length by omega),List.map_cons,List.all_cons]
  cases h:validS (P (xs.getD k default))
  ·rw[fNr_ (r:=([],false)) (by rw[hF k s (by omega) hs,h]; rfl)]; rfl
  ·rw[fNn_ (s':=s++[P (xs.getD k default)]) (by rw[hF k s (by omega) hs,h]; rfl),ih (k+1) _ (by omega) (by simp; omega),List.append_assoc]; rfl
theorem gg_(L:List Sa)(F:Nat→Bool→Option (Flow (List Sa×Bool) Bool))
 (hF:∀ j,j<L.length→F j true=some (.nx (validS (L.getD j default)))) (hN:∀ j,F j false=some (.nx false)):
 ∀ (n k:Nat) (b:Bool),k+n=L.length→forN F n k b=some (.inr (b&&(L.drop k).all validS)):=by
 intro n
 induction n with
 | zero=>
  intro k b hk
  rw[List.drop_eq_nil_of_le (by omega),List.all_nil,Bool.and_true]; rfl
 | succ n ih=>
  intro k b hk
  cases b
  ·rw[fNn_ (s':=false) (hN k),ih (k+1) false (by omega)]; rfl
  ·rw[fNn_ (s':=validS (L.getD k default)) (hF k (by omega)),ih (k+1) _ (by omega),dgD_ (show k<L.length by omega),List.all_cons,Bool.true_and]
structure Vl(l:List Ft)(k:Nat):Prop where
 val:∀ f∈l,validF f=true
 len:l.length≤k
theorem Vl.mod{l:List Ft}{k:Nat}(h:Vl l k)(hk:k≤1000):Mod l:=⟨fun f hf=>by have:=vFt_ (h.val f hf); omega,by have:=h.len; omega⟩
theorem Vl.sum{l:List Ft}{k:Nat}(h:Vl l k):ltot Ft.tot l≤8801*k:=by
 have:∀ l:List Ft,(∀ f∈l,validF f=true)→ltot Ft.tot l≤8801*l.length:=by
  intro l
  induction l with
  | nil=>intro _; exact Nat.zero_le _
  | cons a l ih=>
   intro h
   have h1:=vFt_ (h a (by simp))
   have h2:=ih (fun f hf=>h f (by simp[hf]))
   simp only[ltot,aP,List.map_cons,List.sum_cons] at h2 ⊢
   omega
 have h1:=this l h.val
 have h2:=Nat.mul_le_mul_left 8801 h.len
 omega
theorem Vl.drop{l m:List Ft}{k j:Nat}(h:Vl l k)(hm:Vl m j)(i:Int):Vl (dropI l i++m) (k+j):=⟨fun f hf=>by
 rcases List.mem_append.1 hf with h1 | h1
 ·exact h.val f (dIm_ h1)
 ·exact hm.val f h1,by have:=dIl_ l i; have:=h.len; have:=hm.len; rw[List.length_append]; omega⟩
theorem Vl.seq{l r:List Ft}{k j:Nat}(hl:Vl l k)(hr:Vl r j)(hk:k≤20)(hj:j≤20):Sa.Ok ⟨l,r⟩∧Sa.tot ⟨l,r⟩≤1048576:=by
 have h1:=hl.sum
 have h2:=hr.sum
 have h3:=Nat.mul_le_mul_left 8801 hk
 have h4:=Nat.mul_le_mul_left 8801 hj
 have g1:=hl.len
 have g2:=hr.len
 refine⟨⟨⟨by simp only[Big]; show l.length≤_; omega,fun f hf=>vFO_ (hl.val f hf)⟩,⟨by simp only[Big]; show r.length≤_; omega,fun f hf=>vFO_ (hr.val f hf)⟩⟩,?_⟩
 unfold Sa.tot
 show ltot Ft.tot l+ltot Ft.tot r≤_
 omega
theorem copyFs{l:List Ft}(h:Mod l):icF_1 l=some l:=by
 unfold icF_1
 simp only[fNi_]
 have:=h.len
 rw[mapL (f:=icF_2) (g:=fun x=>x) l 0 [] (fun a ha=>copyF a (h.tot a ha)) (by simp; omega),tLi_]
 simp
theorem cF_(L R:List Ft)(h1:L.length≤10)(h2:R.length≤10):sCS_ [L,R]=some (L++R):=by
 unfold sCS_
 have w1:IntKind.i64.wrap ((0:Int)+(L.length:Int))=(L.length:Int):=by rw[wrap64]<;>omega
 have w2:IntKind.i64.wrap ((L.length:Int)+(R.length:Int))=((L.length+R.length:Nat):Int):=by rw[wrap64]<;>omega
 have e1:∀ i:Nat,idx [L,R] (i:Int)=[L,R][i]?:=fun i=>in_ _ i
 have g:∀ n:Nat,n≤20→sGS_1 (n:Int)=some []:=by
  intro n hn
  unfold sGS_1
  rw[decide_eq_false (by omega),cond_false]
  have:IntKind.i64.wrap ((n:Int)-IntKind.i64.wrap ((0:Int)-(([]:List Nat).length:Int)))=(n:Int):=by
   rw[show(0:Int)-(([]:List Nat).length:Int)=0 from rfl,wrap64 (n:=0) (by omega) (by omega),wrap64]<;>omega
  rw[this]
  by_cases h:0<(n:Int)
  ·rw[decide_eq_true h,cond_true]
   have:appz (n:Int)=some n:=by unfold appz; rw[if_pos (by omega)]; rfl
   rw[this,ak]
   unfold slc
   rw[if_pos ⟨by omega,by simp,by simp⟩]; rfl
  ·rw[decide_eq_false h]; rfl
 have a1:app ([]:List Ft) L=some L:=by unfold app; rw[if_pos (by simp only[List.length_nil]; omega)]; rfl
 have a2:app L R=some (L++R):=by unfold app; rw[if_pos (by omega)]
 have f1:forN (fun (i3:Nat) (s3:Int)=>aa (idx [L,R] (i3:Int)) fun v13=>bif decide ((IntKind.i64.wrap (s3+(v13.length:Int)))<(0:Int)) then(none:Option (Flow (List Ft) Int)) else some (.nx (IntKind.i64.wrap (s3+(v13.length:Int))))) [L,R].length 0 (0:Int)=some (.inr ((L.length+R.length:Nat):Int)):=by
  rw[show [L,R].length=1+1 from rfl,fNn_ (s':=(L.length:Int)) (by rw[e1]; simp only[List.getElem?_cons_zero,ak,w1]; rw[decide_eq_false (by omega)]; rfl),
   fNn_ (n:=0) (s':=((L.length+R.length:Nat):Int)) (by rw[e1]; simp only[List.getElem?_cons_zero,List.getElem?_cons_succ,ak,w2]; rw[decide_eq_false (by omega)]; rfl)]
  rfl
 have f2:forN (ρ:=List Ft) (fun (i11:Nat) (s11:(List Ft))=>aa (idx [L,R] (i11:Int)) fun v29=>aa (app s11 v29) fun v33=>some (.nx v33)) [L,R].length 0 []=some (.inr (L++R)):=by
  rw[show [L,R].length=1+1 from rfl,fNn_ (s':=L) (by rw[e1]; simp only[List.getElem?_cons_zero,ak,a1]),
   fNn_ (n:=0) (s':=L++R) (by rw[e1]; simp only[List.getElem?_cons_zero,List.getElem?_cons_succ,ak,a2])]
  rfl
 rw[f1,tLi_,g _ (by omega),ak,f2]; rfl
theorem copyS{s:Sa}(hl:Mod s.Left)(hr:Mod s.Right):icS_ s=some s:=by
 unfold icS_
 rw[copyFs hl,ak,copyFs hr,ak]
def prem(s:Sa)(d:Dt)(x:Sa):Sa:=nx s (remI d true) x.Left (remI d false) x.Right
theorem po_{s x:Sa}{d:Dt}(hl:Vl s.Left 10)(hr:Vl s.Right 10)(xl:Vl x.Left 2)(xr:Vl x.Right 2):(prem s d x).Ok∧(prem s d x).tot≤1048576:=
 Vl.seq (k:=12) (j:=12) (hl.drop xl _) (hr.drop xr _) (by omega) (by omega)
theorem ip_1{s:Sa}{d:Dt}{xs:List Sa}{b:Bool}(hl:Vl s.Left 10)(hr:Vl s.Right 10)(ha:ia_ s d=some (xs,b))
 (hx:b=true→∀ x∈xs,Vl x.Left 2∧Vl x.Right 2) (hn:xs.length≤1000):
 ip_ s d=some (bif b&&(xs.map (prem s d)).all validS then(xs.map (prem s d),true) else([],false)):=by
 unfold ip_
 rw[ha,ak]
 cases b
 ·rfl
 have ml:=hl.mod (by omega)
 have mr:=hr.mod (by omega)
 show thenL _ _=_
 rw[chk_go xs (prem s d) _ (fun j t hj ht=>?_) xs.length 0 [] (by omega) (Nat.le_refl _)]
 ·rfl
 ·obtain⟨x1,x2⟩:=hx rfl _ (gDm_ hj)
  have e1:=dIl_ s.Left (remI d true)
  have e2:=dIl_ s.Right (remI d false)
  have e3:=hl.len
  have e4:=hr.len
  have e5:=x1.len
  have e6:=x2.len
  have g1:=hl.drop x1 (remI d true)
  have g2:=hr.drop x2 (remI d false)
  obtain⟨k1,k2⟩:=po_ (d:=d) hl hr x1 x2
  rw[igD_ hj,ak,re_3 d true ml,ak,cF_ _ _ (by omega) (by omega),ak,re_3 d false mr,ak,cF_ _ _ (by omega) (by omega),ak,
   copyS (s:=⟨_,_⟩) (g1.mod (by omega)) (g2.mod (by omega)),ak]
  show(iIV_3 (prem s d (xs.getD j default))).bind _=_
  rw[vSi_ _ k1 k2,ak]
  cases h:validS (prem s d (xs.getD j default))
  ·rfl
  ·rw[cond_true,cond_true,app,if_pos (by simp; omega)]; rfl
theorem sp_1{s:Sa}{d:Dt}{L:List Sa}{b:Bool}(h:slR_ s d=some (L,b))(hx:b=true→∀ x∈L,x.Ok∧x.tot≤1048576):
 slP_3 s d=some (bif b&&L.all validS then(L,true) else([],false)):=by
 unfold slP_3
 rw[h,ak]
 cases b
 ·have:∀ (n k:Nat),forN (ρ:=List Sa×Bool) (fun (i3:Nat) (s3:Bool)=>bif s3 then aa (idx L (i3:Int)) fun v25=>aa (slG_ v25) fun v27=>some (.nx v27) else some (.nx false)) n k false=some (.inr false):=by
   intro n
   induction n with
   | zero=>intro k; rfl
   | succ n ih=>intro k; rw[fNn_ (s':=false) rfl,ih]
  show thenL _ _=_
  rw[this,tLi_]; rfl
 ·show thenL _ _=_
  rw[gg_ L _ (fun j hj=>?_) (fun j=>rfl) L.length 0 true (by omega),tLi_]
  ·show(bif (true&&L.all validS) then _ else _)=_
   cases L.all validS<;>rfl
  ·obtain⟨k1,k2⟩:=hx rfl _ (gDm_ hj)
   rw[cond_true,igD_ hj,ak,vSs_ _ k1 k2,ak]
end Go.Proofs.YtkoghcphkdecoaaGreat
