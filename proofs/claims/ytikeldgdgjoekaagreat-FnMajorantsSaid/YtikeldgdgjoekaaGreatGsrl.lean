/- Lemmas of the proof; each says what it shows. -/
import Derived.Test.YtikeldgdgjoekaaGreatGsrt
import Derived.Test.YtikeldgdgjoekaaGreatAvS
import Derived.Test.YtikeldgdgjoekaaGreatAvFs
set_option linter.unusedSimpArgs false
set_option linter.unusedVariables false
set_option linter.defProp false
set_option maxRecDepth 4000
namespace Go.Proofs.YtikeldgdgjoekaaGreat
open Go.Av
open List renaming mem_cons→bd,map_cons→aE
/-! Strings in order. -/
theorem lt_bytes:∀ a b:List UInt8,a<b↔Op.bytesLess a b=true
 | [],[]=>by simp[Op.bytesLess]
 | [],_::_=>by simp[Op.bytesLess]
 | _::_,[]=>by simp[Op.bytesLess]
 | x::a,y::b=>by
  rw[List.cons_lt_cons_iff,lt_bytes a b]
  simp only[Op.bytesLess,Bool.or_eq_true,decide_eq_true_eq,Bool.and_eq_true,beq_iff_eq]
theorem le_bytes(a b:List UInt8):a≤b↔Op.bytesLess b a=false:=by
 rw[← List.not_lt,lt_bytes]; simp
def Srt(l:List ByteArray):Prop:=l.Pairwise fun a b=>slt a b=true
theorem slt_irrefl(a:ByteArray):slt a a=false:=bytesLess_irrefl _
theorem slt_asymm{a b:ByteArray}(h:slt a b=true):slt b a=false:=bytesLess_asymm h
theorem slt_trans{a b c:ByteArray}(h:slt a b=true)(h':slt b c=true):slt a c=true:=bytesLess_trans h h'
theorem slt_total{a b:ByteArray}(h:slt a b=false)(h':slt b a=false):a=b:=ba_ext (bytesLess_total h h')
theorem Srt.ext{a b:List ByteArray}(ha:Srt a)(hb:Srt b)(h:∀ x,x∈a↔x∈b):a=b:=by
 have nd:∀ {l:List ByteArray},Srt l→l.Nodup:=fun hl=>hl.imp (fun {x y} h e=>by subst e; rw[slt_irrefl] at h; cases h)
 have hp:a.Perm b:=(List.perm_ext_iff_of_nodup (nd ha) (nd hb)).2 h
 exact List.Perm.eq_of_pairwise (le:=fun a b=>slt a b=true) (fun x y _ _ h1 h2=>by rw[slt_asymm h1] at h2; cases h2) ha hb hp
theorem Srt.nodup{l:List ByteArray}(hl:Srt l):l.Nodup:=hl.imp (fun {x y} h e=>by subst e; rw[slt_irrefl] at h; cases h)
def leB(x y:List UInt8):Bool:=decide (x≤y)
theorem leB_trans(a b c:List UInt8)(h1:leB a b=true)(h2:leB b c=true):leB a c=true:=by
 simp only[leB,decide_eq_true_eq,le_bytes] at h1 h2 ⊢
 cases h:Op.bytesLess c a with
 | false=>rfl
 | true=>
  cases h3:Op.bytesLess a b with
  | true=>rw[bytesLess_trans h h3] at h2; cases h2
  | false=>
   have:=bytesLess_total (a:=a) (b:=b) h3 h1
   subst this
   rw[h] at h2; cases h2
theorem leB_total(a b:List UInt8):(leB a b||leB b a)=true:=by
 cases h:leB a b with
 | true=>rfl
 | false=>
  simp only[leB,decide_eq_false_iff_not,le_bytes,Bool.false_or] at h ⊢
  simp only[leB,decide_eq_true_eq,le_bytes]
  exact bytesLess_asymm (by simpa using h)
theorem leB_antisymm{a b:List UInt8}(h1:leB a b=true)(h2:leB b a=true):a=b:=by
 simp only[leB,decide_eq_true_eq,le_bytes] at h1 h2
 exact bytesLess_total h2 h1
theorem sortB_perm(a:List ByteArray):(sortB a).Perm a:=by
 have h1:((a.map fun x=>x.data.toList).mergeSort leB).Perm (a.map fun x=>x.data.toList):=List.mergeSort_perm _ _
 have h2:=h1.map (fun l:List UInt8=>(⟨l.toArray⟩:ByteArray))
 rw[List.map_map] at h2
 have e:((fun l:List UInt8=>(⟨l.toArray⟩:ByteArray))∘fun x:ByteArray=>x.data.toList)=id:=by funext x; cases x; rfl
 rw[e,List.map_id] at h2
 exact h2
theorem sortB_congr{a b:List ByteArray}(h:a.Perm b):sortB a=sortB b:=by
 unfold sortB
 congr 1
 refine List.Perm.eq_of_pairwise (le:=fun x y=>leB x y=true) (fun x y _ _ h1 h2=>leB_antisymm h1 h2) (List.pairwise_mergeSort leB_trans leB_total _) (List.pairwise_mergeSort leB_trans leB_total _) ?_
 exact(List.mergeSort_perm _ _).trans ((h.map _).trans (List.mergeSort_perm _ _).symm)
theorem sortB_srt{a:List ByteArray}(h:a.Nodup):Srt (sortB a):=by
 have hn:(sortB a).Nodup:=(sortB_perm a).nodup_iff.2 h
 have hs:((a.map fun x=>x.data.toList).mergeSort leB).Pairwise (fun x y=>leB x y=true):=List.pairwise_mergeSort leB_trans leB_total _
 have hs2:(sortB a).Pairwise (fun x y=>leB x.data.toList y.data.toList=true):=by
  show(((a.map fun x=>x.data.toList).mergeSort leB).map fun l=>(⟨l.toArray⟩:ByteArray)).Pairwise _
  rw[List.pairwise_map]
  exact hs.imp (fun {x y} h=>by simpa using h)
 refine(hs2.and hn).imp (fun {x y} ⟨h1,h2⟩=>?_)
 cases h3:slt x y with
 | true=>rfl
 | false=>
  simp only[leB,decide_eq_true_eq,le_bytes] at h1
  exact absurd (slt_total h3 h1) h2
theorem sortB_eq{a s:List ByteArray}(ha:a.Nodup)(hs:Srt s)(h:∀ x,x∈a↔x∈s):sortB a=s:=
 Srt.ext (sortB_srt ha) hs (fun x=>by rw[(sortB_perm a).mem_iff]; exact h x)
/-! Inserting one. -/
def putS(x:ByteArray):List ByteArray→List ByteArray
 | []=>[x]
 | y::l=>if slt y x=true then y::putS x l else if y=x then y::l else x::y::l
theorem putS_mem(x z:ByteArray):∀ l,z∈putS x l↔z=x∨z∈l
 | []=>by simp[putS]
 | y::l=>by
  simp only[putS]
  split
  ·simp only[bd,putS_mem x z l]
   constructor
   ·rintro (h | h | h)<;>simp[h]
   ·rintro (h | h | h)<;>simp[h]
  ·split
   ·rename_i h; subst h; simp
   ·simp
theorem putS_len(x:ByteArray):∀ l,(putS x l).length≤l.length+1
 | []=>by simp[putS]
 | y::l=>by
  have:=putS_len x l
  simp only[putS]
  split
  ·simp only[List.length_cons]; omega
  ·split<;>simp
theorem putS_srt(x:ByteArray):∀ l,Srt l→Srt (putS x l)
 | [],_=>by simp[putS,Srt]
 | y::l,h=>by
  obtain⟨h1,h2⟩:=List.pairwise_cons.1 h
  simp only[putS]
  split
  ·rename_i hy
   refine List.pairwise_cons.2 ⟨fun z hz=>?_,putS_srt x l h2⟩
   rcases (putS_mem x z l).1 hz with rfl | hz
   ·exact hy
   ·exact h1 z hz
  ·rename_i hy
   split
   ·exact h
   ·rename_i hne
    have hxy:slt x y=true:=by
     cases h3:slt x y with
     | true=>rfl
     | false=>exact absurd (slt_total (by simpa using hy) h3) hne
    exact List.pairwise_cons.2 ⟨fun z hz=>by
     rcases List.mem_cons.1 hz with rfl | hz
     ·exact hxy
     ·exact slt_trans hxy (h1 z hz),h⟩
/-! Entries. -/
theorem gget_put(k z:ByteArray)(v d:Int)(ck:Nat):∀ l:List (ByteArray×Int×Nat),gget d z (gput k v ck l)=if k=z then v else gget d z l
 | []=>rfl
 | e::es=>by
  simp only[gput]
  by_cases h:e.1=k
  ·rw[if_pos h]
   simp only[gget]
   by_cases h2:k=z
   ·simp[h2]
   ·have:e.1≠z:=by rw[h]; exact h2
    simp[h2,this]
  ·rw[if_neg h]
   simp only[gget]
   by_cases h2:e.1=z
   ·have:k≠z:=fun e'=>h (h2.trans e'.symm)
    simp[h2,this]
   ·simp only[h2,if_false]; exact gget_put k z v d ck es
theorem gget_mem(d:Int):∀ (l:List (ByteArray×Int×Nat)),(l.map (·.1)).Nodup→∀ e∈l,gget d e.1 l=e.2.1
 | [],_,e,he=>by simp at he
 | x::l,hn,e,he=>by
  simp only[aE,List.nodup_cons] at hn
  simp only[gget]
  rcases List.mem_cons.1 he with rfl | he
  ·simp
  ·have:x.1≠e.1:=fun h=>hn.1 (h▸List.mem_map.2 ⟨e,he,rfl⟩)
   rw[if_neg this]; exact gget_mem d l hn.2 e he
theorem gget_none(d:Int)(z:ByteArray):∀ (l:List (ByteArray×Int×Nat)),z∉l.map (·.1)→gget d z l=d
 | [],_=>rfl
 | x::l,h=>by
  simp only[aE,bd,not_or] at h
  simp only[gget]
  rw[if_neg (Ne.symm h.1)]; exact gget_none d z l h.2
theorem gget_del(k z:ByteArray)(d:Int):∀ l:List (ByteArray×Int×Nat),(l.map (·.1)).Nodup→gget d z (gdel k l)=if k=z then d else gget d z l
 | [],_=>by simp[gdel,gget]
 | e::es,hn=>by
  simp only[aE,List.nodup_cons] at hn
  simp only[gdel]
  by_cases h:e.1=k
  ·rw[if_pos h]
   by_cases h2:k=z
   ·subst h2; rw[if_pos rfl,gget_none d k es (h▸hn.1)]
   ·have:e.1≠z:=by rw[h]; exact h2
    simp[gget,h2,this]
  ·rw[if_neg h]
   simp only[gget]
   by_cases h2:e.1=z
   ·have:k≠z:=fun e'=>h (h2.trans e'.symm)
    simp[h2,this]
   ·simp only[h2,if_false]; exact gget_del k z d es hn.2
theorem gdel_mem(k z:ByteArray):∀ l:List (ByteArray×Int×Nat),(l.map (·.1)).Nodup→(z∈(gdel k l).map (·.1)↔z≠k∧z∈l.map (·.1))
 | [],_=>by simp[gdel]
 | e::es,hn=>by
  simp only[aE,List.nodup_cons] at hn
  simp only[gdel]
  by_cases h:e.1=k
  ·rw[if_pos h]
   subst h
   simp only[aE,bd]
   constructor
   ·intro hz; exact⟨fun e'=>hn.1 (e'▸hz),.inr hz⟩
   ·rintro ⟨h1,h2 | h2⟩
    ·exact absurd h2 h1
    ·exact h2
  ·rw[if_neg h]
   simp only[aE,bd,gdel_mem k z es hn.2]
   constructor
   ·rintro (rfl | ⟨h1,h2⟩)
    ·exact⟨h,.inl rfl⟩
    ·exact⟨h1,.inr h2⟩
   ·rintro ⟨h1,h2 | h2⟩
    ·exact .inl h2
    ·exact .inr ⟨h1,h2⟩
/-- What a map says: its keys once each. -/
structure GOk(m:GMap Int):Prop where
 nd:(m.es.map (·.1)).Nodup
def GMap.keys(m:GMap Int):List ByteArray:=m.es.map (·.1)
theorem GOk.empty:GOk (GMap.empty:GMap Int):=⟨by simp[GMap.empty]⟩
theorem put_keys(m:GMap Int)(k z:ByteArray)(v:Int):z∈GMap.keys (GMap.put m k v)↔z=k∨z∈GMap.keys m:=by
 unfold GMap.keys GMap.put
 simp only[gput_keys]
 cases hh:ghas k m.es with
 | true=>
  simp only[if_true]
  constructor
  ·exact .inr
  ·rintro (rfl | h)
   ·exact(ghas_iff _ _).1 hh
   ·exact h
 | false=>simp[or_comm]
theorem GOk.put{m:GMap Int}(h:GOk m)(k:ByteArray)(v:Int):GOk (GMap.put m k v):=⟨by
 unfold GMap.put
 simp only[gput_keys]
 cases hh:ghas k m.es with
 | true=>simpa using h.nd
 | false=>
  have:k∉m.es.map (·.1):=fun hm=>by rw[(ghas_iff k _).2 hm] at hh; cases hh
  simp only[Bool.false_eq_true,if_false]
  exact List.nodup_append.2 ⟨h.nd,by simp,fun a ha b hb=>by simp at hb; subst hb; exact fun e=>this (e▸ha)⟩⟩
theorem GOk.del{m:GMap Int}(h:GOk m)(k:ByteArray):GOk (GMap.del m k):=⟨h.nd.sublist ((gdel_sub k m.es).map _)⟩
theorem put_get(m:GMap Int)(k z:ByteArray)(v:Int):GMap.get (GMap.put m k v) z 0=if k=z then v else GMap.get m z 0:=gget_put k z v 0 _ _
theorem del_get{m:GMap Int}(h:GOk m)(k z:ByteArray):GMap.get (GMap.del m k) z 0=if k=z then 0 else GMap.get m z 0:=gget_del k z 0 _ h.nd
theorem del_keys{m:GMap Int}(h:GOk m)(k z:ByteArray):z∈GMap.keys (GMap.del m k)↔z≠k∧z∈GMap.keys m:=gdel_mem k z _ h.nd
theorem empty_get(z:ByteArray):GMap.get (GMap.empty:GMap Int) z 0=0:=rfl
theorem get_notin{m:GMap Int}{z:ByteArray}(h:z∉GMap.keys m):GMap.get m z 0=0:=gget_none 0 z _ h
theorem put_len(m:GMap Int)(k:ByteArray)(v:Int):(GMap.put m k v).es.length≤m.es.length+1:=by
 have:=congrArg List.length (gput_keys k v m.clock m.es)
 simp only[List.length_map] at this
 unfold GMap.put
 simp only
 rw[this]
 split<;>simp
theorem del_len(m:GMap Int)(k:ByteArray):(GMap.del m k).es.length≤m.es.length:=(gdel_sub k m.es).length_le
/-- The keys that count, in order. -/
def nzk(m:GMap Int):List ByteArray:=sortB ((m.es.filter fun e=>!decide (e.2.1=0)).map fun e=>e.1)
theorem nzk_mem{m:GMap Int}(h:GOk m)(z:ByteArray):z∈nzk m↔GMap.get m z 0≠0:=by
 unfold nzk
 rw[(sortB_perm _).mem_iff]
 simp only[List.mem_map,List.mem_filter,Bool.not_eq_true',decide_eq_false_iff_not]
 constructor
 ·rintro ⟨e,⟨h1,h2⟩,rfl⟩
  unfold GMap.get
  rw[gget_mem 0 _ h.nd e h1]; exact h2
 ·intro hz
  have hk:z∈m.es.map (·.1):=Classical.byContradiction fun hn=>hz (gget_none 0 z _ hn)
  obtain⟨e,he,rfl⟩:=List.mem_map.1 hk
  exact⟨e,⟨he,by unfold GMap.get at hz; rw[gget_mem 0 _ h.nd e he] at hz; exact hz⟩,rfl⟩
theorem nzk_srt{m:GMap Int}(h:GOk m):Srt (nzk m):=sortB_srt (h.nd.sublist (List.filter_sublist.map _))
theorem nzk_eq{m:GMap Int}(h:GOk m){s:List ByteArray}(hs:Srt s)(hm:∀ z,z∈s↔GMap.get m z 0≠0):nzk m=s:=
 Srt.ext (nzk_srt h) hs (fun z=>by rw[nzk_mem h,hm])
end Go.Proofs.YtikeldgdgjoekaaGreat
