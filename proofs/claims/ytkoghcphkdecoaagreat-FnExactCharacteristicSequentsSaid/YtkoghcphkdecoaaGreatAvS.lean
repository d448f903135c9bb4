/- A part of the proof: lemmas only; nothing is claimed here beyond what each lemma says. -/
/- Plain laws on strings; scans. -/
import Derived.Test.YtkoghcphkdecoaaGreatAvQ
set_option linter.unusedSimpArgs false
set_option linter.unusedVariables false
set_option linter.defProp false
namespace Go.Av
def byt(s:ByteArray)(i:Nat):Int:=((s.data.toList.getD i 0).toNat:Int)
theorem sn_1{s:ByteArray}{i:Nat}(h:i<s.size):sidx s (i:Int)=some (byt s i):=by
 unfold sidx byt
 rw[if_pos (by omega)]; simp
theorem sidx0{s:ByteArray}(h:0<s.size):sidx s 0=some (byt s 0):=sn_1 (i:=0) h
theorem bn_{n:Nat}(h:Big n):bnd (n:Int)=some n:=by
 unfold bnd
 simp only[Big] at h
 rw[if_pos (by omega)]; simp
theorem bLi_:∀ a:List UInt8,Op.bytesLess a a=false
 | []=>rfl
 | x::a=>by simp[Op.bytesLess,bLi_ a]
def slt(a b:ByteArray):Bool:=Op.bytesLess a.data.toList b.data.toList
theorem szR_ok{t:Nat}(e:¬ szR t 1048576<0):t≤1048576:=by
 have:=mt (sRn_ (t:=t) (l:=1048576) (by omega)).2 e
 simp only[Classical.not_not] at this; omega
theorem fNf_1{p:Nat→Bool}{f:Nat→Unit→Option (Flow Int Unit)}{n:Nat}(h:∀ j,j<n→f j ()=some (bif p j then .rt (j:Int) else .nx ())):
 ∃ r:Int,thenL (forN f n 0 ()) (fun _=>some (-1))=some r∧decide (0≤r)=(List.range n).any p:=by
 have key:∀ (m i:Nat),i+m=n→(∀ j,j<i→p j=false)→∃ r:Int,thenL (forN f m i ()) (fun _=>some (-1))=some r∧decide (0≤r)=(List.range n).any p:=by
  intro m
  induction m with
  | zero=>
   intro i hi hp
   refine⟨-1,rfl,?_⟩
   have:(List.range n).any p=false:=List.any_eq_false.2 (fun x hx=>by rw[hp x (by simp at hx; omega)]; simp)
   rw[this]; rfl
  | succ m ih=>
   intro i hi hp
   have h0:=h i (by omega)
   by_cases e:p i=true
   ·refine⟨i,by rw[fNr_ (r:=(i:Int)) (by rw[h0,e]; rfl),tLi_1],?_⟩
    have:(List.range n).any p=true:=List.any_eq_true.2 ⟨i,by simp; omega,e⟩
    rw[this]; simp
   ·have e1:p i=false:=by simpa using e
    rw[fNn_ (s':=()) (by rw[h0,e1]; rfl)]
    exact ih (i+1) (by omega) (fun j hj=>(Nat.lt_or_ge j i).elim (hp j) (fun g=>by rw[show j=i by omega]; exact e1))
 exact key n 0 (by omega) (fun j hj=>by omega)
theorem ral_1{α:Type}[Inhabited α](xs:List α)(p:α→Bool):(List.range xs.length).any (fun i=>p (xs.getD i default))=xs.any p:=by
 have:=ral_ xs (fun x=>!p x)
 rw[List.all_eq_not_any_not,List.all_eq_not_any_not] at this
 simpa using this
theorem fNa_2{ρ:Type}(c:Nat→Bool){f:Nat→Unit→Option (Flow ρ Unit)}{r0:ρ}{n:Nat}{k:Unit→Option ρ}(hn:0<n)(h0:c 0=true)(h:∀ j,0<j→j<n→(∀ k,k<j→c k=true)→f j ()=some (bif c j then .nx () else .rt r0)):
 thenL (forN f (n-1) 1 ()) k=bif (List.range n).all c then k () else some r0:=by
 have key:∀ (m i:Nat),0<i→(∀ j,j<i→c j=true)→i+m=n→forN f m i ()=some (bif (List.range n).all c then .inr () else .inl r0):=by
  intro m
  induction m with
  | zero=>
   intro i _ hc hi
   have:(List.range n).all c=true:=List.all_eq_true.2 (fun x hx=>hc x (by simp at hx; omega))
   rw[this]; rfl
  | succ m ih=>
   intro i hi0 hc hi
   have g:=h i hi0 (by omega) hc
   by_cases e:c i=true
   ·rw[fNn_ (s':=()) (by rw[g,e]; rfl)]
    exact ih (i+1) (by omega) (fun j hj=>(Nat.lt_or_ge j i).elim (hc j) (fun g=>by rw[show j=i by omega]; exact e)) (by omega)
   ·have e1:c i=false:=by simpa using e
    rw[fNr_ (r:=r0) (by rw[g,e1]; rfl)]
    have:(List.range n).all c=false:=List.all_eq_false.2 ⟨i,by simp; omega,by simp[e1]⟩
    rw[this]; rfl
 rw[key (n-1) 1 (by omega) (fun j hj=>by rw[show j=0 by omega]; exact h0) (by omega)]
 cases (List.range n).all c<;>rfl
end Go.Av
namespace Go.Av
end Go.Av
namespace Go.Av
theorem fl_1{α:Type}[Inhabited α]{f:α→Option Bool}{p:α→Bool}(xs:List α)(h:∀ x∈xs,f x=some (p x)):
 (thenL (forN (fun (i:Nat) (_:Unit)=>(idx xs (i:Int)).bind fun v=>(f v).bind fun b=>bif b then some (.rt (i:Int)) else some (.nx ())) xs.length 0 ()) fun _=>some (-1)).bind (fun r=>some (decide ((0:Int)≤r)))=some (xs.any p):=by
 obtain⟨r,h1,h2⟩:=fNf_1 (n:=xs.length) (p:=fun i=>p (xs.getD i default)) (f:=fun (i:Nat) (_:Unit)=>(idx xs (i:Int)).bind fun v=>(f v).bind fun b=>bif b then some (.rt (i:Int)) else some (.nx ())) (fun j hj=>by
  simp only[igD_ hj,Option.bind_some,h _ (gDm_ hj)]
  cases p (xs.getD j default)<;>rfl)
 rw[h1,Option.bind_some,h2,ral_1]
theorem ii_1{α:Type}[Inhabited α]{xs:List α}{e:Int}(h0:0≤e)(h1:e<xs.length):idx xs e=some (xs.getD e.toNat default):=by
 have:=igD_ (xs:=xs) (i:=e.toNat) (by omega)
 rwa [Int.toNat_of_nonneg h0] at this
theorem ral_2{α:Type}[Inhabited α](xs:List α)(c:Nat→Bool)(p:α→Bool)(h:∀ i,i<xs.length→c i=p (xs.getD i default)):(List.range xs.length).all c=xs.all p:=by
 rw[← ral_ xs p,Bool.eq_iff_iff,List.all_eq_true,List.all_eq_true]
 constructor
 ·intro g i hi; rw[← h i (by simpa using hi)]; exact g i hi
 ·intro g i hi; rw[h i (by simpa using hi)]; exact g i hi
end Go.Av
namespace Go.Av
theorem lsm_{α:Type}(f:α→Nat){l:List α}{a:α}(h:a∈l):f a≤(l.map f).sum:=by
 induction l with
 | nil=>cases h
 | cons b l ih=>
  simp only[List.map_cons,List.sum_cons]
  rcases List.mem_cons.1 h with rfl | h
  ·omega
  ·have:=ih h; omega
open Classical in
theorem mc_{α β:Type}[Inhabited β]{l:List α}{P:α→β→Prop}(h:∀ a∈l,∃ b,P a b):∃ R:α→β,∀ a∈l,P a (R a):=by
 refine⟨fun a=>if ha:a∈l then Classical.choose (h a ha) else default,fun a ha=>?_⟩
 simp only[ha,dif_pos]
 exact Classical.choose_spec (h a ha)
end Go.Av
namespace Go.Av
end Go.Av
