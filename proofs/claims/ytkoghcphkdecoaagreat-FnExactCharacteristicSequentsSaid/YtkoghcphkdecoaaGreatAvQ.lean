/- A part of the proof: lemmas only; nothing is claimed here beyond what each lemma says. -/
import Derived.Test.YtkoghcphkdecoaaGreatAvN
import Derived.Test.YtkoghcphkdecoaaGreatAvH
import Derived.ProofKit
import Derived.Carry
import Derived.Below
import Derived.ChangeSame
import Derived.WideKeyArgs
set_option linter.unusedSimpArgs false
set_option linter.unusedVariables false
set_option linter.defProp false
namespace Go.Av
open Option renaming bind_some→ak
theorem tLi_1{ρ σ:Type}(r:ρ)(k:σ→Option ρ):thenL (some (.inl r)) k=some r:=rfl
theorem tLi_{ρ σ:Type}(s:σ)(k:σ→Option ρ):thenL (some (.inr s)) k=k s:=rfl
def forL{α ρ σ:Type}(g:Nat→α→σ→Option (Flow ρ σ)):List α→Nat→σ→Option (ρ ⊕ σ)
 | [],_,s=>some (.inr s)
 | x::xs,i,s=>(g i x s).bind fun
  | .nx s'=>forL g xs (i+1) s'
  | .br s'=>some (.inr s')
  | .rt r=>some (.inl r)
theorem fLn_{α ρ σ:Type}{g:Nat→α→σ→Option (Flow ρ σ)}{x:α}{xs:List α}{i:Nat}{s s':σ}(h:g i x s=some (.nx s')):forL g (x::xs) i s=forL g xs (i+1) s':=by simp[forL,h]
theorem fLr_{α ρ σ:Type}{g:Nat→α→σ→Option (Flow ρ σ)}{x:α}{xs:List α}{i:Nat}{s:σ}{r:ρ}(h:g i x s=some (.rt r)):forL g (x::xs) i s=some (.inl r):=by simp[forL,h]
theorem fNn_{ρ σ:Type}{f:Nat→σ→Option (Flow ρ σ)}{n i:Nat}{s s':σ}(h:f i s=some (.nx s')):forN f (n+1) i s=forN f n (i+1) s':=by simp[forN,h]
theorem fNr_{ρ σ:Type}{f:Nat→σ→Option (Flow ρ σ)}{n i:Nat}{s:σ}{r:ρ}(h:f i s=some (.rt r)):forN f (n+1) i s=some (.inl r):=by simp[forN,h]
theorem fNz_{ρ σ:Type}(f:Nat→σ→Option (Flow ρ σ))(i:Nat)(s:σ):forN f 0 i s=some (.inr s):=rfl
theorem in_{α:Type}(xs:List α)(i:Nat):idx xs (i:Int)=xs[i]?:=by simp[idx]
theorem fNf_{α ρ σ:Type}(f:Nat→σ→Option (Flow ρ σ))(g:Nat→α→σ→Option (Flow ρ σ)):∀ (xs:List α) (i:Nat) (s:σ),(∀ j x s,xs[j]?=some x→f (i+j) s=g (i+j) x s)→forN f xs.length i s=forL g xs i s
 | [],_,_,_=>rfl
 | x::xs,i,s,h=>by
  have h0:=h 0 x s (by simp)
  simp only[Nat.add_zero] at h0
  simp only[List.length_cons,forN,forL,h0]
  congr 1
  funext o
  cases o with
  | nx s'=>exact fNf_ f g xs (i+1) s' (fun j y t hy=>by have:=h (j+1) y t (by simpa using hy); simpa[Nat.add_assoc,Nat.add_comm 1 j] using this)
  | _=>rfl
theorem fNi_{α ρ σ:Type}(xs:List α)(body:Nat→α→σ→Option (Flow ρ σ))(s:σ):forN (fun i s=>(idx xs (i:Int)).bind fun v=>body i v s) xs.length 0 s=forL body xs 0 s:=by
 refine fNf_ _ _ xs 0 s (fun j x s h=>?_)
 simp only[Nat.zero_add,in_,h,ak]
theorem fNc_{ρ σ:Type}{f g:Nat→σ→Option (Flow ρ σ)}:∀ (n i:Nat) (s:σ),(∀ j s,j<n→f (i+j) s=g (i+j) s)→forN f n i s=forN g n i s
 | 0,_,_,_=>rfl
 | n+1,i,s,h=>by
  simp only[forN,show f i s=g i s from by have:=h 0 s (by omega); simpa using this]
  congr 1
  funext o
  cases o with
  | nx s'=>exact fNc_ n (i+1) s' (fun j t hj=>by have:=h (j+1) t (by omega); simpa[Nat.add_assoc,Nat.add_comm 1 j] using this)
  | _=>rfl
theorem fLc_{α ρ σ:Type}{f g:Nat→α→σ→Option (Flow ρ σ)}:∀ (xs:List α) (i:Nat) (s:σ),(∀ j x s,xs[j]?=some x→f (i+j) x s=g (i+j) x s)→forL f xs i s=forL g xs i s
 | [],_,_,_=>rfl
 | x::xs,i,s,h=>by
  simp only[forL,show f i x s=g i x s from by have:=h 0 x s (by simp); simpa using this]
  congr 1
  funext o
  cases o with
  | nx s'=>exact fLc_ xs (i+1) s' (fun j y t hy=>by have:=h (j+1) y t (by simpa using hy); simpa[Nat.add_assoc,Nat.add_comm 1 j] using this)
  | _=>rfl

def szR(t:Nat)(l:Int):Int:=if (t:Int)≤l then l-t else -1
abbrev wr(n:Int):Int:=IntKind.i64.wrap n
theorem wr64{n:Int}(h1:-9223372036854775808≤n)(h2:n<9223372036854775808):wr n=n:=wrap64 h1 h2
def Big(n:Nat):Prop:=n≤9223372036854775807
theorem sRn_{t:Nat}{l:Int}(h0:0≤l):szR t l<0↔¬ (t:Int)≤l:=by
 unfold szR; split<;>omega
theorem szStep{t1 t2:Nat}{l:Int}{k:Int→Option Int}(h0:0≤l)(h1:l≤1048576)(h:∀ l',0≤l'→l'≤1048576→k l'=some (szR t2 l')):(bif decide (szR t1 l<0) then some (-1) else k (szR t1 l))=some (szR (t1+t2) l):=by
 by_cases e:(t1:Int)≤l
 ·have:¬ szR t1 l<0:=by rw[sRn_ h0]; simpa using e
  have e1:szR t1 l=l-t1:=by simp[szR,e]
  rw[decide_eq_false this,cond_false,h _ (by omega) (by omega),e1]
  unfold szR
  congr 1
  by_cases g:(t2:Int)≤l-t1
  ·rw[if_pos g,if_pos (by omega)]; omega
  ·rw[if_neg g,if_neg (by omega)]
 ·have:szR t1 l<0:=by rw[sRn_ h0]; exact e
  rw[decide_eq_true this,cond_true]
  have g:¬ ((t1+t2:Nat):Int)≤l:=by omega
  simp only[szR,if_neg g]
theorem szLast{t1:Nat}{l:Int}(h0:0≤l):(bif decide (szR t1 l<0) then some (-1) else some (szR t1 l))=some (szR t1 l):=by
 by_cases e:szR t1 l<0
 ·rw[decide_eq_true e,cond_true]
  have:¬ (t1:Int)≤l:=(sRn_ h0).1 e
  simp[szR,this]
 ·rw[decide_eq_false e,cond_false]
theorem wr_szR{t:Nat}{l:Int}(h0:0≤l)(h1:l≤1048576)(hb:Big t):wr (l-t)=l-t:=wrap64 (by simp only[Big] at hb; omega) (by omega)
theorem sSS_3{t1 t2:Nat}{l:Int}{k:Int→Option Int}(h0:0≤l)(h1:l≤1048576)(hb:Big t1)(h:∀ l',0≤l'→l'≤1048576→k l'=some (szR t2 l')):(bif decide (wr (l-t1)<0) then some (-1) else k (wr (l-t1)))=some (szR (t1+t2) l):=by
 rw[wr_szR h0 h1 hb]
 by_cases e:l-t1<0
 ·rw[decide_eq_true e,cond_true]
  have g:¬ ((t1+t2:Nat):Int)≤l:=by omega
  simp only[szR,if_neg g]
 ·rw[decide_eq_false e,cond_false,h _ (by omega) (by omega)]
  unfold szR
  congr 1
  by_cases g:(t2:Int)≤l-t1
  ·rw[if_pos g,if_pos (by omega)]; omega
  ·rw[if_neg g,if_neg (by omega)]
theorem sSM_{t1 t2:Nat}{l:Int}{m:Option Int}(h0:0≤l)(h1:l≤1048576)(h:0≤szR t1 l→szR t1 l≤1048576→m=some (szR t2 (szR t1 l))):(bif decide (szR t1 l<0) then some (-1) else m)=some (szR (t1+t2) l):=by
 by_cases e:szR t1 l<0
 ·have:=szStep (t1:=t1) (t2:=t2) (k:=fun l=>some (szR t2 l)) h0 h1 (fun _ _ _=>rfl)
  rw[decide_eq_true e,cond_true] at this ⊢
  exact this
 ·have:=szStep (t1:=t1) (t2:=t2) (k:=fun l=>some (szR t2 l)) h0 h1 (fun _ _ _=>rfl)
  rw[decide_eq_false e,cond_false] at this ⊢
  rw[h (by omega) (by unfold szR at e ⊢; split<;>omega)]
  exact this
theorem sSS_2{t1 t2:Nat}{l:Int}{m:Option Int}(h0:0≤l)(h1:l≤1048576)(hb:Big t1)(h:0≤wr (l-t1)→wr (l-t1)≤1048576→m=some (szR t2 (wr (l-t1)))):(bif decide (wr (l-t1)<0) then some (-1) else m)=some (szR (t1+t2) l):=by
 have:=sSS_3 (t1:=t1) (t2:=t2) (k:=fun l=>some (szR t2 l)) h0 h1 hb (fun _ _ _=>rfl)
 by_cases e:wr (l-t1)<0
 ·rw[decide_eq_true e,cond_true] at this ⊢
  exact this
 ·rw[decide_eq_false e,cond_false] at this ⊢
  rw[h (by omega) (by rw[wr_szR h0 h1 hb]; omega)]
  exact this
theorem sLl_{α:Type}(f:α→Int→Option Int)(t:α→Nat):∀ (xs:List α) (i:Nat) (l:Int),(∀ x∈xs,∀ l,0≤l→l≤1048576→f x l=some (szR (t x) l))→0≤l→l≤1048576→
 thenL (ρ:=Int) (forL (fun _ v s=>(f v s).bind fun w=>bif decide (w<0) then some (.rt (-1)) else some (.nx w)) xs i l) (fun s=>some s)=some (szR (xs.map t).sum l)
 | [],i,l,_,h0,h1=>by simp[forL,tLi_,szR,h0]
 | x::xs,i,l,h,h0,h1=>by
  have hx:=h x (by simp) l h0 h1
  by_cases e:szR (t x) l<0
  ·rw[fLr_ (r:=-1) (by rw[hx,ak,decide_eq_true e]; rfl),tLi_1]
   have:¬ (t x:Int)≤l:=(sRn_ h0).1 e
   have g:¬ (((x::xs).map t).sum:Int)≤l:=by simp only[List.map_cons,List.sum_cons]; omega
   simp only[szR,if_neg g]
  ·rw[fLn_ (s':=szR (t x) l) (by rw[hx,ak,decide_eq_false e]; rfl)]
   have e2:(t x:Int)≤l:=Classical.byContradiction fun g=>e ((sRn_ h0).2 g)
   have e1:szR (t x) l=l-t x:=by simp[szR,e2]
   rw[sLl_ f t xs (i+1) _ (fun y hy=>h y (by simp[hy])) (by omega) (by omega),e1]
   unfold szR
   congr 1
   simp only[List.map_cons,List.sum_cons]
   by_cases g:((xs.map t).sum:Int)≤l-t x
   ·rw[if_pos g,if_pos (by omega)]; omega
   ·rw[if_neg g,if_neg (by omega)]
def ltot{α:Type}(t:α→Nat)(xs:List α):Nat:=xs.length+(xs.map t).sum
theorem szL{α:Type}{f:α→Int→Option Int}{t:α→Nat}{xs:List α}{l:Int}(hf:∀ x∈xs,∀ l,0≤l→l≤1048576→f x l=some (szR (t x) l))(hb:Big xs.length)(h0:0≤l)(h1:l≤1048576):
 (bif decide (wr (l-xs.length)<0) then some (-1) else thenL (ρ:=Int) (forN (fun i s=>(idx xs (i:Int)).bind fun v=>(f v s).bind fun w=>bif decide (w<0) then some (.rt (-1)) else some (.nx w)) xs.length 0 (wr (l-xs.length))) fun s=>some s)=some (szR (ltot t xs) l):=
 sSS_3 (k:=fun l=>thenL (ρ:=Int) (forN (fun i s=>(idx xs (i:Int)).bind fun v=>(f v s).bind fun w=>bif decide (w<0) then some (.rt (-1)) else some (.nx w)) xs.length 0 l) fun s=>some s) h0 h1 hb
  (fun l' g0 g1=>by simp only[fNi_]; exact sLl_ f t xs 0 l' hf g0 g1)
theorem tLl_{α β:Type}(f:α→Option β)(g:α→β)(z:β):∀ (xs:List α) (pre:List β),(∀ x∈xs,f x=some (g x))→
 thenL (ρ:=List β) (forL (fun i v s=>(f v).bind fun w=>(idx s (i:Int)).bind fun _=>(idx s (i:Int)).bind fun _=>some (.nx (s.set (i:Int).toNat w))) xs pre.length (pre++List.replicate xs.length z)) (fun s=>some s)=some (pre++xs.map g)
 | [],pre,_=>by simp[forL,tLi_]
 | x::xs,pre,h=>by
  have hx:=h x (by simp)
  have e:(pre++List.replicate (x::xs).length z)[pre.length]?=some z:=by simp[List.replicate_succ]
  rw[fLn_ (s':=(pre++[g x])++List.replicate xs.length z) (by
   rw[hx,ak,in_,e,ak,ak,Int.toNat_natCast]
   simp[List.replicate_succ])]
  have:=tLl_ f g z xs (pre++[g x]) (fun y hy=>h y (by simp[hy]))
  simp only[List.length_append,List.length_cons,List.length_nil,Nat.zero_add] at this
  rw[this]; simp
theorem toL{α β:Type}{f:α→Option β}{g:α→β}{z:β}{xs:List α}(h:∀ x∈xs,f x=some (g x))(hl:xs.length≤1073741824):
 ((mkn (xs.length:Int)).bind fun n=>thenL (ρ:=List β) (forN (fun i s=>(idx xs (i:Int)).bind fun v=>(f v).bind fun w=>(idx s (i:Int)).bind fun _=>(idx s (i:Int)).bind fun _=>some (.nx (s.set (i:Int).toNat w))) xs.length 0 (List.replicate n z)) fun s=>some s)=some (xs.map g):=by
 have e:mkn (xs.length:Int)=some xs.length:=by unfold mkn; rw[if_pos (by omega)]; simp
 rw[e,ak]
 simp only[fNi_]
 exact tLl_ f g z xs [] h
theorem eqL{α:Type}{f:α→α→Option Bool}{xs:List α}(h:∀ x∈xs,f x x=some true):
 (bif decide ((xs.length:Int)=(xs.length:Int)) then thenL (ρ:=Bool) (forN (fun i (_:Unit)=>(idx xs (i:Int)).bind fun v=>(idx xs (i:Int)).bind fun w=>(f v w).bind fun b=>bif b then some (.nx ()) else some (.rt false)) xs.length 0 ()) fun _=>some true else some false)=some true:=by
 rw[decide_eq_true rfl,cond_true]
 have key:∀ (n i:Nat),i+n=xs.length→thenL (ρ:=Bool) (forN (fun i (_:Unit)=>(idx xs (i:Int)).bind fun v=>(idx xs (i:Int)).bind fun w=>(f v w).bind fun b=>bif b then some (.nx ()) else some (.rt false)) n i ()) (fun _=>some true)=some true:=by
  intro n
  induction n with
  | zero=>intro i _; rfl
  | succ n ih=>
   intro i hi
   have hg:xs[i]?=some xs[i]:=List.getElem?_eq_getElem (by omega)
   rw[fNn_ (s':=()) (by rw[in_,hg,ak,ak,h _ (List.getElem_mem (by omega))]; rfl)]
   exact ih (i+1) (by omega)
 exact key xs.length 0 (by simp)
end Go.Av
namespace Go.Av
def InR(n:Int):Prop:=-9223372036854775808≤n∧n≤9223372036854775807
end Go.Av
namespace Go.Av
theorem igD_{α:Type}[Inhabited α]{xs:List α}{i:Nat}(h:i<xs.length):idx xs (i:Int)=some (xs.getD i default):=by
 rw[in_,List.getElem?_eq_getElem h]; simp[List.getD,h]
theorem fNa_1{ρ:Type}{c:Nat→Bool}{f:Nat→Unit→Option (Flow ρ Unit)}{r0:ρ}:∀ (n i:Nat),(∀ j,j<i→c j=true)→(∀ j,j<i+n→(∀ k,k<j→c k=true)→f j ()=some (bif c j then .nx () else .rt r0))→
 forN f n i ()=some (bif (List.range (i+n)).all c then .inr () else .inl r0)
 | 0,i,hc,_=>by
  have:(List.range (i+0)).all c=true:=List.all_eq_true.2 (fun x hx=>hc x (by simpa using hx))
  rw[this]; rfl
 | n+1,i,hc,h=>by
  have h0:=h i (by omega) hc
  by_cases e:c i=true
  ·rw[fNn_ (s':=()) (by rw[h0,e]; rfl)]
   rw[fNa_1 n (i+1) (fun j hj=>(Nat.lt_or_ge j i).elim (hc j) (fun g=>by rw[show j=i by omega]; exact e)) (fun j hj hk=>h j (by omega) hk)]
   have e2:i+(n+1)=i+1+n:=by omega
   rw[e2]
  ·have e1:c i=false:=by simpa using e
   rw[fNr_ (r:=r0) (by rw[h0,e1]; rfl)]
   have:(List.range (i+(n+1))).all c=false:=List.all_eq_false.2 ⟨i,by simp,by simp[e1]⟩
   rw[this]; rfl
theorem fNa_{ρ:Type}(c:Nat→Bool){f:Nat→Unit→Option (Flow ρ Unit)}{r0:ρ}{n:Nat}{k:Unit→Option ρ}(h:∀ j,j<n→(∀ k,k<j→c k=true)→f j ()=some (bif c j then .nx () else .rt r0)):
 thenL (forN f n 0 ()) k=bif (List.range n).all c then k () else some r0:=by
 rw[fNa_1 (c:=c) (r0:=r0) n 0 (fun j hj=>by omega) (fun j hj hk=>h j (by omega) hk),Nat.zero_add]
 cases (List.range n).all c<;>rfl
theorem ral_{α:Type}[Inhabited α](xs:List α)(p:α→Bool):(List.range xs.length).all (fun i=>p (xs.getD i default))=xs.all p:=by
 rw[Bool.eq_iff_iff,List.all_eq_true,List.all_eq_true]
 constructor
 ·intro h x hx
  obtain⟨i,hi,rfl⟩:=List.getElem_of_mem hx
  have:=h i (by simpa using hi)
  simpa[List.getD,hi] using this
 ·intro h i hi
  have hi:i<xs.length:=by simpa using hi
  have:xs.getD i default∈xs:=gDm_ hi
  exact h _ this
def inR(a lo hi:Int):Bool:=decide (lo≤a∧a≤hi)
theorem ciR_(a lo hi:Int):(bif decide (lo≤a) then some (decide (a≤hi)) else some false)=some (inR a lo hi):=by
 unfold inR
 by_cases h:lo≤a<;>simp[h]
theorem iRi_{a lo hi:Int}:inR a lo hi=true↔lo≤a∧a≤hi:=by simp[inR]
end Go.Av

namespace Go.Av
open Go.ChangeShapes Go.WideShapes Go.ChangeAt Go.RowKit
section
variable{H:Type}{enc:TypeId×Value→H}{P:Program}{W W':World}{base:Nat}{G:TypeId→Prop}
theorem cp_{v:Value}(h:∀ cs,v≠.agg cs):v.cells=#[v]:=by
 cases v with
 | agg cs=>exact absurd rfl (h cs)
 | _=>rfl
theorem rVo_1{t:TypeId}{p:PV}{v:Value}{N:Nat→Prop}(hty:HasTy P t p)(hok:Value.okWide P W .any base t v)(hrep:RepC N W p v.cells.toList []):RepV N W p v []:=by
 have plain:(∀ cs,v≠.agg cs)→RepC N W p [v] []:=by
  intro h
  rw[cp_ h] at hrep
  exact hrep
 cases hty with
 | bool h=>
  refine plain ?_
  rintro cs rfl
  simp[Value.okWide,Cell.okWide,Cell.ok,h] at hok
 | int h hw=>
  refine plain ?_
  rintro cs rfl
  simp[Value.okWide,Cell.okWide,Cell.ok,h] at hok
 | str h hs=>
  refine plain ?_
  rintro cs rfl
  simp[Value.okWide,Cell.okWide,Cell.ok,h] at hok
 | sl h hl hes=>
  refine plain ?_
  rintro cs rfl
  simp[Value.okWide,Cell.okWide,Cell.ok,h] at hok
 | struct h hps=>
  simp only[Value.okWide,h] at hok
  obtain⟨cs,rfl,_,_⟩:=hok
  exact⟨cs.toList,by simp,by simpa[RepC,Value.cells] using hrep⟩
theorem oa_(K:Kinds P G):∀ (ts:List TypeId) (vs:List Value) (ds:List (DataW H)) (p:List MemPlace),(∀ t∈ts,G t)→DataW.TrodAll enc P W 0 (fun _=>true) true ts vs ds p→
 (∀ (j:Nat) t v,ts[j]?=some t→vs[j]?=some v→Value.okWide P W .any base t v)→∃ ps,HasTys P ts ps∧RepVs (fun b=>b<W.heap.size) W ps vs []
 | [],vs,ds,p,_,hA,_=>by
  obtain⟨rfl,rfl,rfl⟩:=trodAll_nil hA
  exact⟨[],.nil,rfl,rfl⟩
 | t::ts,vs,ds,p,hG,hA,hok=>by
  obtain⟨v,vs',d,ds',p1,q,rfl,rfl,rfl,hd,hrest⟩:=trodAll_cons hA
  obtain⟨fuel,hf⟩:=hd
  obtain⟨pv,hty,hrep⟩:=op_1 K fuel t _ _ (hG t (by simp)) hf
  obtain⟨ps,h1,h2⟩:=oa_ K ts vs' ds' q (fun t ht=>hG t (by simp[ht])) hrest (fun j t' v' ht hv=>hok (j+1) t' v' (by simpa using ht) (by simpa using hv))
  exact⟨pv::ps,.cons hty h1,v,vs',[],[],rfl,rfl,rVo_1 hty (hok 0 t v (by simp) (by simp)) hrep,h2⟩
theorem tAl_{sp:Nat→Bool}{hd:Bool}{b:Nat}:∀ (ts:List TypeId) (vs:List Value) (ds:List (DataW H)) (p:List MemPlace),DataW.TrodAll enc P W b sp hd ts vs ds p→ds.length=ts.length
 | [],vs,ds,p,hA=>by
  obtain⟨rfl,rfl,rfl⟩:=trodAll_nil hA
  rfl
 | t::ts,vs,ds,p,hA=>by
  obtain⟨v,vs',d,ds',p1,q,rfl,rfl,rfl,hd,hrest⟩:=trodAll_cons hA
  simp[tAl_ ts vs' ds' q hrest]
theorem sa_(hl:laidOutB P=true){sp:Nat→Bool}:∀ (ts:List TypeId) (vs:List Value) (ds:List (DataW H)) (p:List MemPlace),(∀ t∈ts,P.readableRec t=true∧t<P.types.size)→DataW.TrodAll enc P W 0 (fun _=>true) true ts vs ds p→
 (∀ q∈p,W.sameAt W' q)→(∀ q∈p,sp q.block=true)→DataW.TrodAll enc P W' 0 sp true ts vs ds p
 | [],vs,ds,p,_,hA,_,_=>by
  obtain⟨rfl,rfl,rfl⟩:=trodAll_nil hA
  exact rfl
 | t::ts,vs,ds,p,hr,hA,hs,hp=>by
  obtain⟨v,vs',d,ds',p1,q,rfl,rfl,rfl,hd,hrest⟩:=trodAll_cons hA
  exact⟨p1,q,WideElems.Trod_stays hl (hr t (by simp)).1 (hr t (by simp)).2 hd (fun x hx=>hs x (by simp[hx])) (fun x hx=>hp x (by simp[hx])),
   sa_ hl ts vs' ds' q (fun t ht=>hr t (by simp[ht])) hrest (fun x hx=>hs x (by simp[hx])) (fun x hx=>hp x (by simp[hx])),rfl⟩
end
section
variable{H:Type}{enc:TypeId×Value→H}{P:Program}
theorem pob_{f:Func}{s:ChangeSpec}{apart fresh handsOn again:Bool}{W W':World}{args:Array Value}{v:Value}{ds gs:List (DataW H)}{before pa pv:List MemPlace}
 (hW:DataW.Whole enc P f.params.toList s.vars apart W args.toList ds gs before)
 (hres:∀ (b:Nat) (sp:Nat→Bool) (hd:Bool),DataW.TrodAll enc P W' b sp hd f.resultTypes.toList (v.resultList f.resultTypes.size) (s.fn H (ds++gs)).results [])
 (hargs:∀ sp:Nat→Bool,(∀ p∈before,sp p.block=true)→DataW.TrodAll enc P W' 0 sp true f.params.toList args.toList (s.fn H (ds++gs)).args pa)
 (hvars:∀ sp:Nat→Bool,(∀ p∈before,sp p.block=true)→DataW.TrodVars enc P W' sp s.vars (s.fn H (ds++gs)).vars pv)
 (hps:before=pa++pv) (hb:Below W.heap.size W W')
 (hok:∀ (j:Nat) (t:TypeId) (r:Value),f.resultTypes[j]?=some t→(v.resultList f.resultTypes.size)[j]?=some r→Value.okWide P W' .any 0 t r):
 s.post enc P f apart fresh handsOn again W args v W':=by
 have hlt:∀ p∈before,p.block<W.heap.size:=fun p hp=>hW.lt p hp
 have hold:∀ p∈before,(fun b=>decide (b<W.heap.size)) p.block=true:=fun p hp=>by simpa using hlt p hp
 refine⟨ds,gs,before,[],pa,pv,hW,hres _ _ _,hargs _ hold,hvars _ hold,World.keptBut_mono (fun p hp=>⟨hp,?_⟩) (hb.frame (· ∈before)),fun _=>?_⟩
 ·rw[hps,List.mem_append] at hp
  exact Or.inr hp
 ·obtain⟨_,_,_,_,_,hz,hn⟩:=hW
  refine⟨hok,_,_,([]++pa)++pv,⟨[]++pa,pv,trodAll_append (hargs _ (fun _ _=>rfl)) (hres _ _ _),hvars _ (fun _ _=>rfl),rfl,?_,?_⟩,?_⟩
  ·intro b off hp
   have hin:MemPlace.cell b off∈before:=by rw[hps]; simpa using hp
   rw[hb.frozen (hlt _ hin)]
   exact hz b off hin
  ·intro ha
   have:=hn ha
   rw[hps] at this
   simpa using this
  ·intro p hp _
   rw[hps]
   simpa using hp
theorem law_post{fid:FuncId}{f:Func}{s:ChangeSpec}{tb:TypeId}{apart handsOn again:Bool}{W:World}{base:Nat}{args:Array Value}{ds gs:List (DataW H)}{before:List MemPlace}{G:TypeId→Prop}
 (hlaid:laidOutB P=true) (hvars:s.vars=[]) (hr:f.resultTypes=#[tb]) (hb:P.underlying tb=some .bool) (hfn:∀ ds:List (DataW H),ds.length=f.params.toList.length→(s.fn H ds).results=[.lit (.bool true)]∧(s.fn H ds).args=ds∧(s.fn H ds).vars=[]) (htb:∀ W',Value.okWide P W' .any 0 tb (.bool true))
 (K:Kinds P G) (hG:∀ t∈f.params.toList,G t∧P.readableRec t=true∧t<P.types.size)
 (hval:∀ (j:Nat) t v,f.params[j]?=some t→args[j]?=some v→Value.okWide P W .any base t v) (hW:DataW.Whole enc P f.params.toList s.vars apart W args.toList ds gs before)
 (hsat:∀ ps,HasTys P f.params.toList ps→Sat P fid ps (.lit (.bool true))):
 Calls P fid args W (fun e W'=>∃ v,e=.returned v∧s.post enc P f apart true handsOn again W args v W'):=by
 have hW':=hW
 obtain⟨p,q,hA,hV,rfl,hfz,hnd⟩:=hW
 have hlen:=tAl_ _ _ _ _ hA
 rw[hvars] at hV
 obtain⟨rfl,rfl⟩:=trodVars_none hV
 obtain⟨ps,hty,hrep⟩:=oa_ K _ _ _ _ (fun t ht=>(hG t ht).1) hA (fun j t v ht hv=>hval j t v (by simpa using ht) (by simpa using hv))
 simp only[List.append_nil] at hW'
 have hlt:∀ x∈p,x.block<W.heap.size:=fun x hx=>hW'.lt x hx
 have hs:=(hsat ps hty).2 W (fun b=>b<W.heap.size) args.toList [] (by simp) List.nodup_nil (by simp) hrep
 simp only[Array.toArray_toList] at hs
 refine hs.mono fun e W' he=>?_
 obtain⟨v,F,rfl,hk,hrr,_,_⟩:=he
 have hbl:Below W.heap.size W W':=⟨hk.os,hk.tape,hk.output,hk.size,fun k h=>hk.block k h (by simp)⟩
 have hv:v=.bool true:=by
  simp only[RepR,RepV,RepC] at hrr
  simpa using hrr.1
 subst hv
 refine⟨_,rfl,pob_ (pa:=p) (pv:=[]) hW' ?_ ?_ ?_ (by simp) hbl ?_⟩
 ·intro b sp hd
  rw[hr,(hfn _ (by simpa using hlen)).1]
  exact trodAll_mk1 (shut_bool hb true)
 ·intro sp hsp
  rw[(hfn _ (by simpa using hlen)).2.1]
  simp only[List.append_nil]
  exact sa_ hlaid _ _ _ _ (fun t ht=>(hG t ht).2) hA (fun x hx=>hbl.same (hlt x hx)) hsp
 ·intro sp hsp
  rw[hvars,(hfn _ (by simpa using hlen)).2.2]
  rfl
 ·intro j t r hj hr'
  rw[hr] at hj hr'
  match j,hj,hr' with
  | 0,hj,hr'=>
   simp at hj; subst hj
   simp[Value.resultList] at hr'; subst hr'
   exact htb W'
  | j+1,hj,_=>simp at hj
end
end Go.Av
namespace Go.Av
def LOk{α:Type}(ok:α→Prop)(l:List α):Prop:=Big l.length∧∀ x∈l,ok x
theorem ll_{α:Type}(t:α→Nat)(l:List α):l.length≤ltot t l:=by simp[ltot]
theorem tm_{α:Type}(t:α→Nat){l:List α}{x:α}(h:x∈l):t x<ltot t l:=by
 induction l with
 | nil=>cases h
 | cons y l ih=>
  simp only[ltot,List.length_cons,List.map_cons,List.sum_cons] at ih ⊢
  rcases List.mem_cons.1 h with rfl | h
  ·omega
  ·have:=ih h; omega
theorem inR_wf{n:Int}(h:(Lit.int .i64 n).wf=true):InR n:=by
 simp[Lit.wf,IntKind.min,IntKind.max,IntKind.signed,IntKind.bits] at h
 exact⟨by omega,by omega⟩
theorem ol_{P:Program}{e:TypeId}{α:Type}{ok:α→Prop}{f:α→PV}(h:∀ {p:PV},HasTy P e p→∃ a,ok a∧p=f a):∀ l:List PV,(∀ x∈l,HasTy P e x)→∃ ts:List α,(∀ a∈ts,ok a)∧l=ts.map f
 | [],_=>⟨[],by simp,rfl⟩
 | x::l,hx=>by
  obtain⟨a,ha,rfl⟩:=h (hx x (by simp))
  obtain⟨ts,hts,rfl⟩:=ol_ h l (fun y hy=>hx y (by simp[hy]))
  exact⟨a::ts,by simpa using⟨ha,hts⟩,rfl⟩
end Go.Av
