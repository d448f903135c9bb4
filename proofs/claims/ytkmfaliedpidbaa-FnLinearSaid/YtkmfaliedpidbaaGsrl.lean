/- Lemmas of the proof; each says what it shows. -/
import Derived.Test.YtkmfaliedpidbaaGsrt
import Derived.Test.YtkmfaliedpidbaaAvZ
set_option linter.unusedSimpArgs false
set_option linter.unusedVariables false
set_option linter.defProp false
set_option maxRecDepth 4000
namespace Go.Proofs.Ytkmfaliedpidbaa
open Go.Av
open GMap renaming get→aw
open List renaming mem_cons→aV,map_cons→aC
theorem lb_1:∀ a b:List UInt8,a<b↔Op.bytesLess a b=true
 | [],[]=>by simp[Op.bytesLess]
 | [],_::_=>by simp[Op.bytesLess]
 | _::_,[]=>by simp[Op.bytesLess]
 | x::a,y::b=>by
  rw[List.cons_lt_cons_iff,lb_1 a b]
  simp only[Op.bytesLess,Bool.or_eq_true,decide_eq_true_eq,Bool.and_eq_true,beq_iff_eq]
theorem lb_(a b:List UInt8):a≤b↔Op.bytesLess b a=false:=by
 rw[← List.not_lt,lb_1]; simp
def Srt(l:List ByteArray):Prop:=l.Pairwise fun a b=>slt a b=true
theorem si_1(a:ByteArray):slt a a=false:=bLi_ _
theorem sa_3{a b:ByteArray}(h:slt a b=true):slt b a=false:=bLa_ h
theorem st_1{a b c:ByteArray}(h:slt a b=true)(h':slt b c=true):slt a c=true:=bLt_ h h'
theorem st_2{a b:ByteArray}(h:slt a b=false)(h':slt b a=false):a=b:=be_ (bLt_1 h h')
theorem Se_{a b:List ByteArray}(ha:Srt a)(hb:Srt b)(h:∀ x,x∈a↔x∈b):a=b:=by
 have nd:∀ {l:List ByteArray},Srt l→l.Nodup:=fun hl=>hl.imp (fun {x y} h e=>by subst e; rw[si_1] at h; cases h)
 have hp:a.Perm b:=(List.perm_ext_iff_of_nodup (nd ha) (nd hb)).2 h
 exact List.Perm.eq_of_pairwise (le:=fun a b=>slt a b=true) (fun x y _ _ h1 h2=>by rw[sa_3 h1] at h2; cases h2) ha hb hp
theorem Srt.nodup{l:List ByteArray}(hl:Srt l):l.Nodup:=hl.imp (fun {x y} h e=>by subst e; rw[si_1] at h; cases h)
def leB(x y:List UInt8):Bool:=decide (x≤y)
theorem lBt_(a b c:List UInt8)(h1:leB a b=true)(h2:leB b c=true):leB a c=true:=by
 simp only[leB,decide_eq_true_eq,lb_] at h1 h2 ⊢
 cases h:Op.bytesLess c a with
 | false=>rfl
 | true=>
  cases h3:Op.bytesLess a b with
  | true=>rw[bLt_ h h3] at h2; cases h2
  | false=>
   have:=bLt_1 (a:=a) (b:=b) h3 h1
   subst this
   rw[h] at h2; cases h2
theorem lBt_1(a b:List UInt8):(leB a b||leB b a)=true:=by
 cases h:leB a b with
 | true=>rfl
 | false=>
  simp only[leB,decide_eq_false_iff_not,lb_,Bool.false_or] at h ⊢
  simp only[leB,decide_eq_true_eq,lb_]
  exact bLa_ (by simpa using h)
theorem lBa_{a b:List UInt8}(h1:leB a b=true)(h2:leB b a=true):a=b:=by
 simp only[leB,decide_eq_true_eq,lb_] at h1 h2
 exact bLt_1 h2 h1
theorem sBp_(a:List ByteArray):(sortB a).Perm a:=by
 have h1:((a.map fun x=>x.data.toList).mergeSort leB).Perm (a.map fun x=>x.data.toList):=List.mergeSort_perm _ _
 have h2:=h1.map (fun l:List UInt8=>(⟨l.toArray⟩:ByteArray))
 rw[List.map_map] at h2
 have e:((fun l:List UInt8=>(⟨l.toArray⟩:ByteArray))∘fun x:ByteArray=>x.data.toList)=id:=by funext x; cases x; rfl
 rw[e,List.map_id] at h2
 exact h2
theorem sBc_{a b:List ByteArray}(h:a.Perm b):sortB a=sortB b:=by
 unfold sortB
 congr 1
 refine List.Perm.eq_of_pairwise (le:=fun x y=>leB x y=true) (fun x y _ _ h1 h2=>lBa_ h1 h2) (List.pairwise_mergeSort lBt_ lBt_1 _) (List.pairwise_mergeSort lBt_ lBt_1 _) ?_
 exact(List.mergeSort_perm _ _).trans ((h.map _).trans (List.mergeSort_perm _ _).symm)
theorem sBs_{a:List ByteArray}(h:a.Nodup):Srt (sortB a):=by
 have hn:(sortB a).Nodup:=(sBp_ a).nodup_iff.2 h
 have hs:((a.map fun x=>x.data.toList).mergeSort leB).Pairwise (fun x y=>leB x y=true):=List.pairwise_mergeSort lBt_ lBt_1 _
 have hs2:(sortB a).Pairwise (fun x y=>leB x.data.toList y.data.toList=true):=by
  show(((a.map fun x=>x.data.toList).mergeSort leB).map fun l=>(⟨l.toArray⟩:ByteArray)).Pairwise _
  rw[List.pairwise_map]
  exact hs.imp (fun {x y} h=>by simpa using h)
 refine(hs2.and hn).imp (fun {x y} ⟨h1,h2⟩=>?_)
 cases h3:slt x y with
 | true=>rfl
 | false=>
  simp only[leB,decide_eq_true_eq,lb_] at h1
  exact absurd (st_2 h3 h1) h2
def putS(x:ByteArray):List ByteArray→List ByteArray
 | []=>[x]
 | y::l=>if slt y x=true then y::putS x l else if y=x then y::l else x::y::l
theorem pSm_(x z:ByteArray):∀ l,z∈putS x l↔z=x∨z∈l
 | []=>by simp[putS]
 | y::l=>by
  simp only[putS]
  split
  ·simp only[aV,pSm_ x z l]
   constructor
   ·rintro (h | h | h)<;>simp[h]
   ·rintro (h | h | h)<;>simp[h]
  ·split
   ·rename_i h; subst h; simp
   ·simp
theorem pSl_(x:ByteArray):∀ l,(putS x l).length≤l.length+1
 | []=>by simp[putS]
 | y::l=>by
  have:=pSl_ x l
  simp only[putS]
  split
  ·simp only[List.length_cons]; omega
  ·split<;>simp
theorem pSs_(x:ByteArray):∀ l,Srt l→Srt (putS x l)
 | [],_=>by simp[putS,Srt]
 | y::l,h=>by
  obtain⟨h1,h2⟩:=List.pairwise_cons.1 h
  simp only[putS]
  split
  ·rename_i hy
   refine List.pairwise_cons.2 ⟨fun z hz=>?_,pSs_ x l h2⟩
   rcases (pSm_ x z l).1 hz with rfl | hz
   ·exact hy
   ·exact h1 z hz
  ·rename_i hy
   split
   ·exact h
   ·rename_i hne
    have hxy:slt x y=true:=by
     cases h3:slt x y with
     | true=>rfl
     | false=>exact absurd (st_2 (by simpa using hy) h3) hne
    exact List.pairwise_cons.2 ⟨fun z hz=>by
     rcases List.mem_cons.1 hz with rfl | hz
     ·exact hxy
     ·exact st_1 hxy (h1 z hz),h⟩
theorem gp_1(k z:ByteArray)(v d:Int)(ck:Nat):∀ l:List (ByteArray×Int×Nat),gget d z (gput k v ck l)=if k=z then v else gget d z l
 | []=>rfl
 | e::es=>by
  simp only[gput]
  by_cases h:e.1=k
  ·rw[if_pos h]
   simp only[gget]
   by_cases h2:k=z
   ·simp[h2]
   ·have:e.1≠z:=by rw[h]; exact h2
    simp[h2,this]
  ·rw[if_neg h]
   simp only[gget]
   by_cases h2:e.1=z
   ·have:k≠z:=fun e'=>h (h2.trans e'.symm)
    simp[h2,this]
   ·simp only[h2,if_false]; exact gp_1 k z v d ck es
theorem gm_(d:Int):∀ (l:List (ByteArray×Int×Nat)),(l.map (·.1)).Nodup→∀ e∈l,gget d e.1 l=e.2.1
 | [],_,e,he=>by simp at he
 | x::l,hn,e,he=>by
  simp only[aC,List.nodup_cons] at hn
  simp only[gget]
  rcases List.mem_cons.1 he with rfl | he
  ·simp
  ·have:x.1≠e.1:=fun h=>hn.1 (h▸List.mem_map.2 ⟨e,he,rfl⟩)
   rw[if_neg this]; exact gm_ d l hn.2 e he
theorem gn_(d:Int)(z:ByteArray):∀ (l:List (ByteArray×Int×Nat)),z∉l.map (·.1)→gget d z l=d
 | [],_=>rfl
 | x::l,h=>by
  simp only[aC,aV,not_or] at h
  simp only[gget]
  rw[if_neg (Ne.symm h.1)]; exact gn_ d z l h.2
theorem gd_1(k z:ByteArray)(d:Int):∀ l:List (ByteArray×Int×Nat),(l.map (·.1)).Nodup→gget d z (gdel k l)=if k=z then d else gget d z l
 | [],_=>by simp[gdel,gget]
 | e::es,hn=>by
  simp only[aC,List.nodup_cons] at hn
  simp only[gdel]
  by_cases h:e.1=k
  ·rw[if_pos h]
   by_cases h2:k=z
   ·subst h2; rw[if_pos rfl,gn_ d k es (h▸hn.1)]
   ·have:e.1≠z:=by rw[h]; exact h2
    simp[gget,h2,this]
  ·rw[if_neg h]
   simp only[gget]
   by_cases h2:e.1=z
   ·have:k≠z:=fun e'=>h (h2.trans e'.symm)
    simp[h2,this]
   ·simp only[h2,if_false]; exact gd_1 k z d es hn.2
theorem gm_1(k z:ByteArray):∀ l:List (ByteArray×Int×Nat),(l.map (·.1)).Nodup→(z∈(gdel k l).map (·.1)↔z≠k∧z∈l.map (·.1))
 | [],_=>by simp[gdel]
 | e::es,hn=>by
  simp only[aC,List.nodup_cons] at hn
  simp only[gdel]
  by_cases h:e.1=k
  ·rw[if_pos h]
   subst h
   simp only[aC,aV]
   constructor
   ·intro hz; exact⟨fun e'=>hn.1 (e'▸hz),.inr hz⟩
   ·rintro ⟨h1,h2 | h2⟩
    ·exact absurd h2 h1
    ·exact h2
  ·rw[if_neg h]
   simp only[aC,aV,gm_1 k z es hn.2]
   constructor
   ·rintro (rfl | ⟨h1,h2⟩)
    ·exact⟨h,.inl rfl⟩
    ·exact⟨h1,.inr h2⟩
   ·rintro ⟨h1,h2 | h2⟩
    ·exact .inl h2
    ·exact .inr ⟨h1,h2⟩
structure GOk(m:GMap Int):Prop where
 nd:(m.es.map (·.1)).Nodup
def Gak_(m:GMap Int):List ByteArray:=m.es.map (·.1)
theorem GOk.empty:GOk (GMap.empty:GMap Int):=⟨by simp[GMap.empty]⟩
theorem pk_(m:GMap Int)(k z:ByteArray)(v:Int):z∈Gak_ (GMap.put m k v)↔z=k∨z∈Gak_ m:=by
 unfold Gak_ GMap.put
 simp only[gk_]
 cases hh:ghas k m.es with
 | true=>
  simp only[if_true]
  constructor
  ·exact .inr
  ·rintro (rfl | h)
   ·exact(gi_ _ _).1 hh
   ·exact h
 | false=>simp[or_comm]
theorem GOk.put{m:GMap Int}(h:GOk m)(k:ByteArray)(v:Int):GOk (GMap.put m k v):=⟨by
 unfold GMap.put
 simp only[gk_]
 cases hh:ghas k m.es with
 | true=>simpa using h.nd
 | false=>
  have:k∉m.es.map (·.1):=fun hm=>by rw[(gi_ k _).2 hm] at hh; cases hh
  simp only[Bool.false_eq_true,if_false]
  exact List.nodup_append.2 ⟨h.nd,by simp,fun a ha b hb=>by simp at hb; subst hb; exact fun e=>this (e▸ha)⟩⟩
theorem GOk.del{m:GMap Int}(h:GOk m)(k:ByteArray):GOk (GMap.del m k):=⟨h.nd.sublist ((gs_1 k m.es).map _)⟩
theorem pg_(m:GMap Int)(k z:ByteArray)(v:Int):aw (GMap.put m k v) z 0=if k=z then v else aw m z 0:=gp_1 k z v 0 _ _
theorem dg_{m:GMap Int}(h:GOk m)(k z:ByteArray):aw (GMap.del m k) z 0=if k=z then 0 else aw m z 0:=gd_1 k z 0 _ h.nd
theorem dk_{m:GMap Int}(h:GOk m)(k z:ByteArray):z∈Gak_ (GMap.del m k)↔z≠k∧z∈Gak_ m:=gm_1 k z _ h.nd
theorem eg_(z:ByteArray):aw (GMap.empty:GMap Int) z 0=0:=rfl
theorem gn_1{m:GMap Int}{z:ByteArray}(h:z∉Gak_ m):aw m z 0=0:=gn_ 0 z _ h
theorem pl_3(m:GMap Int)(k:ByteArray)(v:Int):(GMap.put m k v).es.length≤m.es.length+1:=by
 have:=congrArg List.length (gk_ k v m.clock m.es)
 simp only[List.length_map] at this
 unfold GMap.put
 simp only
 rw[this]
 split<;>simp
theorem dl_1(m:GMap Int)(k:ByteArray):(GMap.del m k).es.length≤m.es.length:=(gs_1 k m.es).length_le
def nzk(m:GMap Int):List ByteArray:=sortB ((m.es.filter fun e=>!decide (e.2.1=0)).map fun e=>e.1)
theorem nm_{m:GMap Int}(h:GOk m)(z:ByteArray):z∈nzk m↔aw m z 0≠0:=by
 unfold nzk
 rw[(sBp_ _).mem_iff]
 simp only[List.mem_map,List.mem_filter,Bool.not_eq_true',decide_eq_false_iff_not]
 constructor
 ·rintro ⟨e,⟨h1,h2⟩,rfl⟩
  unfold aw
  rw[gm_ 0 _ h.nd e h1]; exact h2
 ·intro hz
  have hk:z∈m.es.map (·.1):=Classical.byContradiction fun hn=>hz (gn_ 0 z _ hn)
  obtain⟨e,he,rfl⟩:=List.mem_map.1 hk
  exact⟨e,⟨he,by unfold aw at hz; rw[gm_ 0 _ h.nd e he] at hz; exact hz⟩,rfl⟩
theorem ns_{m:GMap Int}(h:GOk m):Srt (nzk m):=sBs_ (h.nd.sublist (List.filter_sublist.map _))
theorem ne_{m:GMap Int}(h:GOk m){s:List ByteArray}(hs:Srt s)(hm:∀ z,z∈s↔aw m z 0≠0):nzk m=s:=
 Se_ (ns_ h) hs (fun z=>by rw[nm_ h,hm])
end Go.Proofs.Ytkmfaliedpidbaa
