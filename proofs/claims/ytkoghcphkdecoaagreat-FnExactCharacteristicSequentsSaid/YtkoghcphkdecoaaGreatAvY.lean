/- A part of the proof: lemmas only; nothing is claimed here beyond what each lemma says. -/
/- Marks: lists that are written element by element, and read back. -/
import Derived.Test.YtkoghcphkdecoaaGreatAvS
set_option linter.unusedSimpArgs false
set_option linter.unusedVariables false
set_option linter.defProp false
namespace Go.Av
open List renaming length_cons→aP
def lcn{α:Type}(c:α→Nat)(xs:List α):Nat:=(xs.map c).sum
theorem ln_{α:Type}(c:α→Nat):lcn c []=0:=rfl
theorem lc_{α:Type}(c:α→Nat)(x:α)(xs:List α):lcn c (x::xs)=c x+lcn c xs:=by simp[lcn]
theorem ll_1{α:Type}{c:α→Nat}{xs:List α}(h:∀ x,1≤c x):xs.length≤lcn c xs:=by
 induction xs with
 | nil=>simp
 | cons x xs ih=>have:=h x; rw[lc_,aP]; omega
def MH{α ι:Type}(P:ι→Prop)(mk:ι→List α→Int→Option (Int×List α))(hd:ι→List α→Int→Option Int)(xs:List α)(c:Nat):Prop:=
 ∀ k:Int,1≤k→k+c≤2305843009213693952→∃ ys,∀ p,P p→mk p xs k=some (k+c,ys)∧hd p ys k=some (k+c)
theorem ev_nx{ρ σ:Type}{f:σ→Option (Flow ρ σ)}{s s':σ}{r:ρ ⊕ σ}(h:f s=some (.nx s'))(h':Ev (fun n=>whileN f n s') r):Ev (fun n=>whileN f n s) r:=by
 obtain⟨N,hN⟩:=h'
 refine⟨N+1,fun n hn=>?_⟩
 cases n with
 | zero=>omega
 | succ n=>simp only[whileN,h,Option.bind_some]; exact hN n (by omega)
theorem ev_br{ρ σ:Type}{f:σ→Option (Flow ρ σ)}{s s':σ}(h:f s=some (.br s')):Ev (fun n=>whileN f n s) (.inr s'):=by
 refine⟨1,fun n hn=>?_⟩
 cases n with
 | zero=>omega
 | succ n=>simp[whileN,h]
theorem im_{α:Type}(pre:List α)(x:α)(rest:List α):idx (pre++x::rest) (pre.length:Int)=some x:=by
 rw[in_]; simp
theorem sm_{α:Type}(pre:List α)(x y:α)(rest:List α):(pre++x::rest).set (pre.length:Int).toNat y=pre++y::rest:=by
 rw[Int.toNat_natCast]; simp
theorem dm_{α:Type}(pre:List α)(x:α)(rest:List α):decide ((pre.length:Int)<((pre++x::rest).length:Int))=true:=by
 refine decide_eq_true ?_; simp; omega
theorem de_{n:Nat}:decide ((n:Int)<(n:Int))=false:=decide_eq_false (by omega)
theorem rem3(k:Int):rem k 3=some (k.tmod 3):=by simp[rem]
theorem ml_1{α ρ ι:Type}{P:ι→Prop}{fm:ι→List α×Int×Int→Option (Flow ρ (List α×Int×Int))}{fh:ι→List α→Nat→Int→Option (Flow Int Int)}{cnt:α→Nat}
 (hend:∀ p (l:List α) (k:Int),fm p (l,k,(l.length:Int))=some (.br (l,k,(l.length:Int)))):
 ∀ (xs pre:List α) (k:Int),1≤k→k+lcn cnt xs≤2305843009213693952→pre.length+xs.length≤4611686018427387904→
 (∀ x∈xs,∀ k:Int,1≤k→k+cnt x≤2305843009213693952→∃ y,∀ p,P p→(∀ pre rest:List α,pre.length<4611686018427387904→fm p (pre++x::rest,k,(pre.length:Int))=some (.nx (pre++y::rest,k+cnt x,((pre.length+1:Nat):Int))))∧
  ∀ (ys:List α) (i:Nat),ys[i]?=some y→fh p ys i k=some (.nx (k+cnt x)))→
 ∃ ys,∀ p,P p→Ev (fun n=>whileN (fm p) n (pre++xs,k,(pre.length:Int))) (.inr (pre++ys,k+lcn cnt xs,((pre++ys).length:Int)))∧
  ∀ pre':List α,forN (fh p (pre'++ys)) ys.length pre'.length k=some (.inr (k+lcn cnt xs))
 | [],pre,k,_,_,_,_=>by
  refine⟨[],fun p _=>⟨?_,fun pre'=>by simp[forN,lcn]⟩⟩
  have:=ev_br (hend p pre k)
  simpa[lcn] using this
 | x::xs,pre,k,h0,h1,h2,hel=>by
  rw[lc_] at h1
  obtain⟨y,g⟩:=hel x (by simp) k h0 (by omega)
  simp only[aP] at h2
  obtain⟨ys,e⟩:=ml_1 hend xs (pre++[y]) (k+cnt x) (by omega) (by omega) (by simp; omega) (fun z hz=>hel z (by simp[hz]))
  have e3:k+((lcn cnt (x::xs):Nat):Int)=k+cnt x+lcn cnt xs:=by rw[lc_]; omega
  refine⟨y::ys,fun p hp=>⟨ev_nx ((g p hp).1 pre xs (by omega)) ?_,fun pre'=>?_⟩⟩
  ·rw[e3]
   simpa using (e p hp).1
  ·rw[aP,fNn_ ((g p hp).2 _ _ (by simp))]
   have:=(e p hp).2 (pre'++[y])
   rw[e3]
   simpa using this
theorem MH.of{α ι:Type}{P:ι→Prop}{mk:ι→List α→Int→Option (Int×List α)}{hd:ι→List α→Int→Option Int}{fm:ι→List α×Int×Int→Option (Flow (Int×List α) (List α×Int×Int))}{fh:ι→List α→Nat→Int→Option (Flow Int Int)}{cnt:α→Nat}{xs:List α}
 (hmk:∀ p,P p→∀ k,mk p xs k=thenL (lim fun n=>whileN (fm p) n (xs,k,0)) fun s=>some (s.2.1,s.1)) (hhd:∀ p,P p→∀ ys k,hd p ys k=thenL (forN (fh p ys) ys.length 0 k) fun s=>some s)
 (hend:∀ p (l:List α) (k:Int),fm p (l,k,(l.length:Int))=some (.br (l,k,(l.length:Int)))) (hlen:(lcn cnt xs:Int)≤2305843009213693952→xs.length≤4611686018427387904)
 (hel:∀ x∈xs,∀ k:Int,1≤k→k+cnt x≤2305843009213693952→∃ y,∀ p,P p→(∀ pre rest:List α,pre.length<4611686018427387904→fm p (pre++x::rest,k,(pre.length:Int))=some (.nx (pre++y::rest,k+cnt x,((pre.length+1:Nat):Int))))∧
  ∀ (ys:List α) (i:Nat),ys[i]?=some y→fh p ys i k=some (.nx (k+cnt x))):MH P mk hd xs (lcn cnt xs):=by
 intro k h0 h1
 obtain⟨ys,e⟩:=ml_1 hend xs [] k h0 h1 (by simpa using hlen (by omega)) hel
 refine⟨ys,fun p hp=>⟨?_,?_⟩⟩
 ·rw[hmk p hp,show((0:Int))=(([]:List α).length:Int) from rfl,show xs=[]++xs from rfl,lim_eq (e p hp).1]; rfl
 ·rw[hhd p hp]
  have:=(e p hp).2 []
  simp only[List.nil_append,List.length_nil] at this
  rw[this]; rfl
theorem MH.lim{α:Type}{mk:Nat→List α→Int→Option (Int×List α)}{hd:Nat→List α→Int→Option Int}{xs:List α}{c N:Nat}(h:MH (fun n=>N≤n) mk hd xs c):MH (fun _:Unit=>True) (fun _ xs k=>Av.lim fun n=>mk n xs k) (fun _ xs k=>Av.lim fun n=>hd n xs k) xs c:=by
 intro k h0 h1
 obtain⟨ys,e⟩:=h k h0 h1
 exact⟨ys,fun _ _=>⟨lim_eq ⟨N,fun n hn=>(e n hn).1⟩,lim_eq ⟨N,fun n hn=>(e n hn).2⟩⟩⟩
theorem MH.sub{α ι:Type}{P Q:ι→Prop}{mk:ι→List α→Int→Option (Int×List α)}{hd:ι→List α→Int→Option Int}{xs:List α}{c:Nat}(h:MH P mk hd xs c)(hs:∀ p,Q p→P p):MH Q mk hd xs c:=by
 intro k h0 h1
 obtain⟨ys,e⟩:=h k h0 h1
 exact⟨ys,fun p hp=>e p (hs p hp)⟩
theorem MH.shift{α:Type}{mk:Nat→List α→Int→Option (Int×List α)}{hd:Nat→List α→Int→Option Int}{xs:List α}{c N:Nat}(hN:0<N)(h:MH (fun m=>N≤m+1) (fun m=>mk (m+1)) (fun m=>hd (m+1)) xs c):MH (fun n=>N≤n) mk hd xs c:=by
 intro k h0 h1
 obtain⟨ys,e⟩:=h k h0 h1
 refine⟨ys,fun n hn=>?_⟩
 cases n with
 | zero=>omega
 | succ m=>exact e m hn
def MK{α ι:Type}(P:ι→Prop)(mk:ι→List α→Int→Option (Int×List α))(xs:List α)(c:Nat):Prop:=
 ∀ k:Int,1≤k→k+c≤2305843009213693952→∃ ys,∀ p,P p→mk p xs k=some (k+c,ys)
theorem ml_{α ρ ι:Type}{P:ι→Prop}{fm:ι→List α×Int×Int→Option (Flow ρ (List α×Int×Int))}{cnt:α→Nat}
 (hend:∀ p (l:List α) (k:Int),fm p (l,k,(l.length:Int))=some (.br (l,k,(l.length:Int)))):
 ∀ (xs pre:List α) (k:Int),1≤k→k+lcn cnt xs≤2305843009213693952→pre.length+xs.length≤4611686018427387904→
 (∀ x∈xs,∀ k:Int,1≤k→k+cnt x≤2305843009213693952→∃ y,∀ p,P p→∀ pre rest:List α,pre.length<4611686018427387904→fm p (pre++x::rest,k,(pre.length:Int))=some (.nx (pre++y::rest,k+cnt x,((pre.length+1:Nat):Int))))→
 ∃ ys,∀ p,P p→Ev (fun n=>whileN (fm p) n (pre++xs,k,(pre.length:Int))) (.inr (pre++ys,k+lcn cnt xs,((pre++ys).length:Int)))
 | [],pre,k,_,_,_,_=>by
  refine⟨[],fun p _=>?_⟩
  have:=ev_br (hend p pre k)
  simpa[lcn] using this
 | x::xs,pre,k,h0,h1,h2,hel=>by
  rw[lc_] at h1
  obtain⟨y,g⟩:=hel x (by simp) k h0 (by omega)
  simp only[aP] at h2
  obtain⟨ys,e⟩:=ml_ hend xs (pre++[y]) (k+cnt x) (by omega) (by omega) (by simp; omega) (fun z hz=>hel z (by simp[hz]))
  have e3:k+((lcn cnt (x::xs):Nat):Int)=k+cnt x+lcn cnt xs:=by rw[lc_]; omega
  refine⟨y::ys,fun p hp=>ev_nx (g p hp pre xs (by omega)) ?_⟩
  rw[e3]
  simpa using e p hp
theorem MK.of{α ι:Type}{P:ι→Prop}{mk:ι→List α→Int→Option (Int×List α)}{fm:ι→List α×Int×Int→Option (Flow (Int×List α) (List α×Int×Int))}{cnt:α→Nat}{xs:List α}
 (hmk:∀ p,P p→∀ k,mk p xs k=thenL (lim fun n=>whileN (fm p) n (xs,k,0)) fun s=>some (s.2.1,s.1))
 (hend:∀ p (l:List α) (k:Int),fm p (l,k,(l.length:Int))=some (.br (l,k,(l.length:Int)))) (hlen:(lcn cnt xs:Int)≤2305843009213693952→xs.length≤4611686018427387904)
 (hel:∀ x∈xs,∀ k:Int,1≤k→k+cnt x≤2305843009213693952→∃ y,∀ p,P p→∀ pre rest:List α,pre.length<4611686018427387904→fm p (pre++x::rest,k,(pre.length:Int))=some (.nx (pre++y::rest,k+cnt x,((pre.length+1:Nat):Int)))):MK P mk xs (lcn cnt xs):=by
 intro k h0 h1
 obtain⟨ys,e⟩:=ml_ hend xs [] k h0 h1 (by simpa using hlen (by omega)) hel
 refine⟨ys,fun p hp=>?_⟩
 rw[hmk p hp,show((0:Int))=(([]:List α).length:Int) from rfl,show xs=[]++xs from rfl,lim_eq (e p hp)]; rfl
theorem MK.lim{α:Type}{mk:Nat→List α→Int→Option (Int×List α)}{xs:List α}{c N:Nat}(h:MK (fun n=>N≤n) mk xs c):MK (fun _:Unit=>True) (fun _ xs k=>Av.lim fun n=>mk n xs k) xs c:=by
 intro k h0 h1
 obtain⟨ys,e⟩:=h k h0 h1
 exact⟨ys,fun _ _=>lim_eq ⟨N,fun n hn=>e n hn⟩⟩
theorem MK.sub{α ι:Type}{P Q:ι→Prop}{mk:ι→List α→Int→Option (Int×List α)}{xs:List α}{c:Nat}(h:MK P mk xs c)(hs:∀ p,Q p→P p):MK Q mk xs c:=by
 intro k h0 h1
 obtain⟨ys,e⟩:=h k h0 h1
 exact⟨ys,fun p hp=>e p (hs p hp)⟩
theorem MK.shift{α:Type}{mk:Nat→List α→Int→Option (Int×List α)}{xs:List α}{c N:Nat}(hN:0<N)(h:MK (fun m=>N≤m+1) (fun m=>mk (m+1)) xs c):MK (fun n=>N≤n) mk xs c:=by
 intro k h0 h1
 obtain⟨ys,e⟩:=h k h0 h1
 refine⟨ys,fun n hn=>?_⟩
 cases n with
 | zero=>omega
 | succ m=>exact e m hn
theorem MK.unit{α:Type}{mk:List α→Int→Option (Int×List α)}{xs:List α}{c:Nat}(h:MK (fun _:Unit=>True) (fun _=>mk) xs c){k:Int}(h0:1≤k)(h1:k+c≤2305843009213693952):∃ ys,mk xs k=some (k+c,ys):=by
 obtain⟨ys,e⟩:=h k h0 h1
 exact⟨ys,e () trivial⟩
theorem wrapK{k:Int}(h0:0≤k)(h1:k<9223372036854775808):IntKind.i64.wrap k=k:=wrap64 (by omega) (by omega)
theorem quo10{k:Int}(h0:0<k)(h1:k≤2305843009213693952):quo k 10=some (k / 10):=by
 unfold quo
 rw[if_neg (by decide),Int.tdiv_eq_ediv_of_nonneg (by omega),wrapK (by omega) (by omega)]
theorem MH.unit{α:Type}{mk:List α→Int→Option (Int×List α)}{hd:List α→Int→Option Int}{xs:List α}{c:Nat}(h:MH (fun _:Unit=>True) (fun _=>mk) (fun _=>hd) xs c){k:Int}(h0:1≤k)(h1:k+c≤2305843009213693952):∃ ys,mk xs k=some (k+c,ys)∧hd ys k=some (k+c):=by
 obtain⟨ys,e⟩:=h k h0 h1
 exact⟨ys,e () trivial⟩
theorem digits{ρ:Type}{f:Int×ByteArray→Option (Flow ρ (Int×ByteArray))}{d:Int→ByteArray}(hd:∀ k,(d k).size≤1)
 (hf:∀ k b,k≤2305843009213693952→f (k,b)=bif decide (0<k) then Option.bind (sapp (d k) b) fun v=>some (.nx (k / 10,v)) else some (.br (k,b))):
 ∀ (n:Nat) (k:Int) (b:ByteArray),k≤n→k≤2305843009213693952→b.size+n≤4611686018427387904→∃ b',Ev (fun m=>whileN f m (k,b)) (.inr ((if 0<k then 0 else k),b'))∧b'.size≤b.size+n
 | 0,k,b,hk,hk2,hb=>by
  have e:f (k,b)=some (.br (k,b)):=by rw[hf _ _ (by omega),decide_eq_false (by omega)]; rfl
  exact⟨b,by rw[if_neg (by omega)]; exact ev_br e,by omega⟩
 | n+1,k,b,hk,hk2,hb=>by
  by_cases h:0<k
  ·have hs:sapp (d k) b=some (d k++b):=by
    unfold sapp
    have:=hd k
    rw[if_pos (by omega)]
   have e:f (k,b)=some (.nx (k / 10,d k++b)):=by rw[hf _ _ (by omega),decide_eq_true h,hs]; rfl
   have hsz:(d k++b).size≤b.size+1:=by have:=hd k; rw[ByteArray.size_append]; omega
   obtain⟨b',g1,g2⟩:=digits hd hf n (k / 10) (d k++b) (by omega) (by omega) (by omega)
   refine⟨b',?_,by omega⟩
   rw[if_pos h]
   have:(if 0<k / 10 then 0 else k / 10)=(0:Int):=by split<;>omega
   rw[this] at g1
   exact ev_nx e g1
  ·have e:f (k,b)=some (.br (k,b)):=by rw[hf _ _ (by omega),decide_eq_false h]; rfl
   exact⟨b,by rw[if_neg h]; exact ev_br e,by omega⟩
end Go.Av
