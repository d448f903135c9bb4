/- Lemmas of the proof; each says what it shows. -/
import Derived.Test.YtmfpijomelhccaaGreatDoorGm
import Derived.Test.YtmfpijomelhccaaGreatDoorGf
import Derived.Shelf.SlSortCmp.NoneTotal
set_option linter.unusedSimpArgs false
set_option linter.unusedVariables false
set_option linter.defProp false
set_option maxRecDepth 4000
namespace Go.Proofs.YtmfpijomelhccaaGreatDoor
open Go.Shelf Go.RowKit Go.Lib Go.Sort Go.Av
open List renaming length_map→aF
open Tryz renaming prog→ag
def sti_ren:Go.Shelf.Ren:=⟨fun | 6=>143 | 14=>171 | 15=>172 | 20=>192 | 21=>193 | 22=>194 | 23=>195 | 24=>196 | 25=>197 | 26=>198 | 27=>199 | 28=>200 | 29=>201 | 46=>210 | 47=>211 | 48=>212 | 49=>213 | 50=>214 | 57=>219 | n=>n,fun | 0=>0 | 3=>3 | 4=>4 | 5=>5 | 9=>9 | 22=>55 | 25=>140 | 39=>116 | 45=>163 | 46=>164 | 50=>98 | 53=>170 | 55=>106 | 66=>177 | 70=>181 | 76=>185 | 77=>159 | 24=>3 | n=>n,fun n=>n⟩
theorem sti_lays:SlLaysF.n6 ag sti_ren:={
 mixed:=by kernel_rfl
 f6:=⟨Tryz.f143.name,by kernel_rfl,Tryz.func143.trans (congrArg some (by kernel_rfl))⟩
 f14:=⟨Tryz.f171.name,by kernel_rfl,Tryz.func171.trans (congrArg some (by kernel_rfl))⟩
 f15:=Tryz.func172.trans (congrArg some (by kernel_rfl))
 f20:=⟨Tryz.f192.name,by kernel_rfl,Tryz.func192.trans (congrArg some (by kernel_rfl))⟩
 f21:=⟨Tryz.f193.name,by kernel_rfl,Tryz.func193.trans (congrArg some (by kernel_rfl))⟩
 f22:=⟨Tryz.f194.name,by kernel_rfl,Tryz.func194.trans (congrArg some (by kernel_rfl))⟩
 f23:=⟨Tryz.f195.name,by kernel_rfl,Tryz.func195.trans (congrArg some (by kernel_rfl))⟩
 f24:=⟨Tryz.f196.name,by kernel_rfl,Tryz.func196.trans (congrArg some (by kernel_rfl))⟩
 f25:=⟨Tryz.f197.name,by kernel_rfl,Tryz.func197.trans (congrArg some (by kernel_rfl))⟩
 f26:=⟨Tryz.f198.name,by kernel_rfl,Tryz.func198.trans (congrArg some (by kernel_rfl))⟩
 f27:=⟨Tryz.f199.name,by kernel_rfl,Tryz.func199.trans (congrArg some (by kernel_rfl))⟩
 f28:=Tryz.func200.trans (congrArg some (by kernel_rfl))
 f29:=Tryz.func201.trans (congrArg some (by kernel_rfl))
 f46:=⟨Tryz.f210.name,by kernel_rfl,Tryz.func210.trans (congrArg some (by kernel_rfl))⟩
 f47:=Tryz.func211.trans (congrArg some (by kernel_rfl))
 f48:=Tryz.func212.trans (congrArg some (by kernel_rfl))
 f49:=⟨Tryz.f213.name,by kernel_rfl,Tryz.func213.trans (congrArg some (by kernel_rfl))⟩
 f50:=⟨Tryz.f214.name,by kernel_rfl,Tryz.func214.trans (congrArg some (by kernel_rfl))⟩
 f57:=⟨Tryz.f219.name,by kernel_rfl,Tryz.func219.trans (congrArg some (by kernel_rfl))⟩
 t0:=Tryz.underlying0
 a0:=Tryz.isAgg0
 z0:=Tryz.sizeOf0
 v0:=Tryz.zeroValue0
 t3:=Tryz.underlying3
 a3:=Tryz.isAgg3
 z3:=Tryz.sizeOf3
 v3:=Tryz.zeroValue3
 t4:=Tryz.underlying4
 a4:=Tryz.isAgg4
 z4:=Tryz.sizeOf4
 v4:=Tryz.zeroValue4
 t5:=Tryz.underlying5
 a5:=Tryz.isAgg5
 z5:=Tryz.sizeOf5
 v5:=Tryz.zeroValue5
 t9:=Tryz.underlying9
 a9:=Tryz.isAgg9
 z9:=Tryz.sizeOf9
 v9:=Tryz.zeroValue9
 t22:=Tryz.underlying55
 a22:=Tryz.isAgg55
 z22:=Tryz.sizeOf55
 v22:=Tryz.zeroValue55
 t25:=Tryz.underlying140
 a25:=Tryz.isAgg140
 z25:=Tryz.sizeOf140
 v25:=Tryz.zeroValue140
 t39:=Tryz.underlying116
 a39:=Tryz.isAgg116
 z39:=Tryz.sizeOf116
 v39:=Tryz.zeroValue116
 t45:=Tryz.underlying163
 a45:=Tryz.isAgg163
 z45:=Tryz.sizeOf163
 v45:=Tryz.zeroValue163
 t46:=Tryz.underlying164
 a46:=Tryz.isAgg164
 z46:=Tryz.sizeOf164
 v46:=Tryz.zeroValue164
 t50:=Tryz.underlying98
 a50:=Tryz.isAgg98
 z50:=Tryz.sizeOf98
 v50:=Tryz.zeroValue98
 t53:=Tryz.underlying170
 a53:=Tryz.isAgg170
 z53:=Tryz.sizeOf170
 v53:=Tryz.zeroValue170
 t55:=Tryz.underlying106
 a55:=Tryz.isAgg106
 z55:=Tryz.sizeOf106
 v55:=Tryz.zeroValue106
 t66:=Tryz.underlying177
 a66:=Tryz.isAgg177
 z66:=Tryz.sizeOf177
 v66:=Tryz.zeroValue177
 t70:=Tryz.underlying181
 a70:=Tryz.isAgg181
 z70:=Tryz.sizeOf181
 v70:=Tryz.zeroValue181
 t76:=Tryz.underlying185
 a76:=Tryz.isAgg185
 z76:=Tryz.sizeOf185
 v76:=Tryz.zeroValue185
 t77:=Tryz.underlying159
 a77:=Tryz.isAgg159
 z77:=Tryz.sizeOf159
 v77:=Tryz.zeroValue159
 a24:=Tryz.isAgg3
 z24:=Tryz.sizeOf3 }

theorem repI_inv{N:Nat→Prop}{w:World}:∀ (xs:List Int) (cs:List Value) (F:List Nat),RepCs N w (xs.map I) cs F→cs=xs.map (Value.int .i64)∧F=[]
 | [],cs,F,h=>by simpa only[List.map_nil,RepCs] using h
 | x::xs,cs,F,h=>by
  simp only[List.map_cons,RepCs,I,RepC] at h
  obtain⟨c1,c2,F1,F2,rfl,rfl,⟨rfl,_,rfl⟩,h4⟩:=h
  obtain⟨rfl,rfl⟩:=repI_inv xs _ _ h4
  exact⟨rfl,rfl⟩
theorem repI_mk{N:Nat→Prop}{w:World}:∀ (xs:List Int),RepCs N w (xs.map I) (xs.map (Value.int .i64)) []
 | []=>by simp[RepCs]
 | x::xs=>by
  simp only[List.map_cons,RepCs,I,RepC]
  exact⟨[.int .i64 x],_,[],[],rfl,rfl,⟨rfl,rfl,rfl⟩,repI_mk xs⟩
theorem swi_heap{α:Type}[Inhabited α]{enc:α→Value}{w:World}{b n:Nat}{dk:Array α}{os:Array Obj}{cur:Array Value}{e:TypeId}(hb:w.heap[b]?=some (.cells cur e (0,0))):
 (sortWorld enc w b 0 n dk os).heap[b]?=some (.cells (putCells enc 0 dk cur) e (0,0))∧(∀ k,k<w.heap.size→k≠b→(sortWorld enc w b 0 n dk os).heap[k]?=w.heap[k]?)∧w.heap.size≤(sortWorld enc w b 0 n dk os).heap.size:=by
 have hbl:=(Array.getElem?_eq_some_iff.1 hb).1
 unfold sortWorld putRow mapBlock grow Sort.ahead
 refine⟨?_,fun k hk hne=>?_,by simp⟩
 ·simp only
  rw[Array.getElem?_append_left (by simpa using hbl),Array.getElem?_modify,if_pos rfl,hb]
  rfl
 ·simp only
  rw[Array.getElem?_append_left (by simpa using hk),Array.getElem?_modify,if_neg (Ne.symm hne)]
theorem puti_one{α:Type}[Inhabited α]{enc:α→Value}{dk:Array α}{cur:Array Value}(h:dk.size≤cur.size):
 (putCells enc 0 dk cur).size=cur.size∧(putCells enc 0 dk cur).toList.take dk.size=dk.toList.map enc:=by
 refine⟨by simp[putCells],?_⟩
 refine List.ext_getElem? fun t=>?_
 by_cases ht:t<dk.size
 ·rw[List.getElem?_take,if_pos ht]
  simp only[Array.getElem?_toList,putCells,Array.getElem?_mapIdx]
  rw[Array.getElem?_eq_getElem (by omega)]
  simp only[Option.map_some,Nat.zero_le,Nat.zero_add,ht,and_self,if_true,Nat.sub_zero]
  rw[getElem!_pos _ t ht]
  simp[ht]
 ·rw[List.getElem?_take,if_neg ht,List.getElem?_eq_none (by simpa using ht)]
theorem wrap_neg(x:Int):RowKit.wrap64 (-x)=IntKind.i64.wrap (0-x):=by
 rw[IntKind.wrap_i64]; unfold RowKit.wrap64; omega
theorem abs_calls(x:Int)(w:World):Calls ag 76 #[.int .i64 x] w fun e w'=>e=.returned (.int .i64 (max x (IntKind.i64.wrap (0-x))))∧w'=w:=by
 go_enter Tryz.func76,Tryz.ntmps76
 go_wp2
 go_ret
 rw[← wrap_neg]
 exact⟨rfl,rfl⟩
theorem nan_calls(x:Int)(w:World):Calls ag 202 #[.int .i64 x] w fun e w'=>e=.returned (.bool false)∧w'=w:=by
 go_enter Tryz.func202,Tryz.ntmps202
 go_wp2
 go_ret
 exact⟨rfl,rfl⟩
theorem cmp_calls(x y:Int)(w:World):Calls ag 173 #[.int .i64 x,.int .i64 y] w fun e w'=>e=.returned (.int .i64 (if x<y then -1 else if y<x then 1 else 0))∧w'=w:=by
 go_enter Tryz.func173,Tryz.ntmps173
 go_wp2_with (go_at_call 202; refine(nan_calls _ _).mono ?_; rintro e w' ⟨rfl,rfl⟩)
 all_goals (go_ret; exact⟨rfl,rfl⟩)
theorem cmpI_eq(x y:Int):cmpI x y=if max x (RowKit.wrap64 (-x))<max y (RowKit.wrap64 (-y)) then -1 else if max y (RowKit.wrap64 (-y))<max x (RowKit.wrap64 (-x)) then 1 else 0:=by
 rw[wrap_neg,wrap_neg]
 unfold cmpI impl_byVariable impl_absolute cmp_Compare_int cmp_isNaN_int
 simp only[Option.bind_some,decide_true,Bool.not_true,cond_false]
 by_cases h1:max x (IntKind.i64.wrap (0-x))<max y (IntKind.i64.wrap (0-y))
 ·rw[decide_eq_true h1,if_pos h1]; rfl
 ·rw[decide_eq_false h1,if_neg h1,cond_false]
  by_cases h2:max y (IntKind.i64.wrap (0-y))<max x (IntKind.i64.wrap (0-x))
  ·rw[decide_eq_true h2,if_pos h2]; rfl
  ·rw[decide_eq_false h2,if_neg h2]; rfl
theorem by_calls(x y:Int)(w:World):Calls ag 144 #[.int .i64 x,.int .i64 y] w fun e w'=>e=.returned (.int .i64 (cmpI x y))∧w'=w:=by
 go_enter Tryz.func144,Tryz.ntmps144
 go_wp2_with (first | (go_at_call 76; refine(abs_calls _ _).mono ?_; rintro e w' ⟨rfl,rfl⟩) | (go_at_call 173; refine(cmp_calls _ _ _).mono ?_; rintro e w' ⟨rfl,rfl⟩))
 ·have hc:cmpI x y=-1:=by rw[cmpI_eq,if_pos (by assumption)]
  rw[hc]
  go_ret
  exact⟨rfl,rfl⟩
 ·have hc:cmpI x y=1:=by rw[cmpI_eq,if_neg (by omega),if_pos (by assumption)]
  rw[hc]
  go_ret
  exact⟨rfl,rfl⟩
 ·have hc:cmpI x y=0:=by rw[cmpI_eq,if_neg (by omega),if_neg (by omega)]
  rw[hc]
  go_ret
  exact⟨rfl,rfl⟩
theorem sortIs_perm(l:List Int):(sortIs l).Perm l:=by
 unfold sortIs
 have h:=(List.mergeSort_perm l.attach fun x y=>!decide (cmpI y.1 x.1<0)).map (·.1)
 rwa [List.attach_map_subtype_val] at h
theorem sortIs_sorted{l:List Int}(h:SortOkI l):(sortIs l).Pairwise fun x y=>¬ cmpI y x<0:=by
 unfold sortIs
 rw[List.pairwise_map]
 refine(List.pairwise_mergeSort (le:=fun x y:{ x // x∈l }=>!decide (cmpI y.1 x.1<0)) ?_ ?_ l.attach).imp ?_
 ·intro a b c h1 h2
  simp only[Bool.not_eq_true',decide_eq_false_iff_not] at h1 h2 ⊢
  exact h.ntr c.1 c.2 b.1 b.2 a.1 a.2 h2 h1
 ·intro a b
  by_cases h1:cmpI b.1 a.1<0
  ·by_cases h2:cmpI a.1 b.1<0
   ·exact absurd (h.tr a.1 a.2 b.1 b.2 a.1 a.2 h2 h1) (h.irr a.1 a.2)
   ·simp[h2]
  ·simp[h1]
 ·intro a b h1
  simpa using h1
theorem sortedI_one{l m:List Int}(h:SortOkI l)(hp:m.Perm l)(hs:m.Pairwise fun x y=>¬ cmpI y x<0):m=sortIs l:=
 List.Perm.eq_of_pairwise (fun a b ha hb h1 h2=>h.anti a (hp.mem_iff.1 ha) b ((sortIs_perm l).mem_iff.1 hb) h2 h1) hs (sortIs_sorted h) (hp.trans (sortIs_perm l).symm)
theorem sortIs_length(l:List Int):(sortIs l).length=l.length:=(sortIs_perm l).length_eq
set_option maxHeartbeats 1000000 in
theorem sortI_sat{a0:List Int}{r:Unit×List Int}(h:slices_SortFuncI a0=some r):
 SatIO ag 143 [.sl true 1 (a0.map I),.clo 144 []] [.sl true 1 (r.2.map I),.clo 144 []] (.tup []):=by
 unfold slices_SortFuncI at h
 split at h
 case isFalse=>cases h
 case isTrue hok=>
 cases h
 refine⟨⟨_,Tryz.func143,by kernel_rfl,by kernel_rfl⟩,fun w N vs Fs hN hFn hFl hvs=>?_⟩
 simp only[RepVs,RepV] at hvs
 obtain⟨v0,_,F0,_,rfl,rfl,g0,v1,_,F1,_,rfl,rfl,g1,rfl,rfl⟩:=hvs
 simp only[RepC] at g0 g1
 obtain⟨vals,e1,rfl,g2,_⟩:=g1
 simp only[RepCs] at g2
 obtain⟨rfl,_⟩:=g2
 obtain rfl:v1=.func (.func 144) #[] #[]:=by simpa using e1
 simp only[List.append_nil] at*
 by_cases h0:a0=[]
 ·subst h0
  have hsl:∃ p cap,v0=.slice p 0 cap:=by
   rcases g0 with⟨e,_,_⟩ | ⟨b,cap,c,e,F',ccs,e1,_⟩
   ·exact⟨none,0,by simpa using e⟩
   ·exact⟨_,cap,by simpa using e1⟩
  obtain⟨p,cap,rfl⟩:=hsl
  refine(AnyF.slices_SortFunc_none { sti_lays with } p cap (.func (.func 144) #[] #[]) w).mono ?_
  rintro e w' ⟨rfl,rfl⟩
  refine⟨.tuple #[],F0,rfl,KeepX.refl _ _ _,?_,hFn,fun k hk=>⟨.inr hk,hFl k hk⟩,⟨[],rfl,by simp[RepVs]⟩⟩
  simp only[RepVs,RepV]
  refine⟨_,_,F0,[],rfl,by simp,?_,_,_,[],[],rfl,rfl,?_,rfl,rfl⟩
  ·have hs0:sortIs []=[]:=by have:=sortIs_length []; simpa using this
   rw[hs0]
   simp only[RepC]
   exact g0
  ·simp only[RepC]; exact⟨[],rfl,trivial,by simp[RepCs],by simp⟩
 rcases g0 with⟨_,e,_⟩ | ⟨b,cap,c,e,F',ccs,e1,m1,m2,m3,m4,m5,m6,m7,rfl⟩
 ·exact absurd (List.map_eq_nil_iff.1 e) h0
 obtain rfl:v0=.slice (some ⟨b,0,none⟩) (a0.map I).length cap:=by simpa using e1
 obtain⟨rfl,rfl⟩:=repI_inv a0 ccs F' m7
 rw[aF] at m1 m6 ⊢
 rw[Nat.mul_one] at m5 m6
 have hb:b<w.heap.size:=hFl b (by simp)
 obtain⟨z0,hz0⟩:=List.exists_mem_of_ne_nil a0 h0
 haveI:Inhabited { z:Int // z∈a0 }:=⟨⟨z0,hz0⟩⟩
 have hds:a0.attach.toArray.size=a0.length:=by simp
 have hH:Holds (fun x:{ z:Int // z∈a0 }=>Value.int .i64 x.1) w b 0 a0.attach.toArray:=by
  intro j hj
  rw[hds] at hj
  have hjc:j<c.size:=by rw[m5]; omega
  refine⟨?_,by simp[World.frozen?,m4]⟩
  have h1:=congrArg (fun l=>l[j]?) m6
  simp only[List.getElem?_take,if_pos hj,List.getElem?_map,Array.getElem?_toList] at h1
  rw[Array.getElem?_eq_getElem hjc,List.getElem?_eq_getElem hj] at h1
  simp only[Option.map_some,Option.some.injEq] at h1
  rw[getElem!_pos _ j (by rw[hds]; exact hj)]
  simp only[World.cell?,m4,Nat.zero_add]
  rw[Array.getElem?_eq_getElem hjc,h1]
  simp
 have hcl:CmpLays1 ag 144 #[] (fun x:{ z:Int // z∈a0 }=>Value.int .i64 x.1) (fun x y=>cmpI x.1 y.1) b 0 a0.attach.toArray.size w:=by
  intro m os dk hdk x y
  generalize sortWorld (fun x:{ z:Int // z∈a0 }=>Value.int .i64 x.1) w b 0 m dk os=W
  refine(by_calls x.1 y.1 W).mono ?_
  rintro e w' ⟨rfl,rfl⟩
  exact⟨rfl,0,#[],by rw[grow_empty]; rfl⟩
 have hswo:SWO (ltOf fun x y:{ z:Int // z∈a0 }=>cmpI x.1 y.1):=
  ⟨fun x=>decide_eq_false (hok.irr _ x.2),fun x y z h1 h2=>decide_eq_true (hok.tr _ x.2 _ y.2 _ z.2 (of_decide_eq_true h1) (of_decide_eq_true h2)),
   fun x y z h1 h2=>decide_eq_false (hok.ntr _ x.2 _ y.2 _ z.2 (of_decide_eq_false h1) (of_decide_eq_false h2))⟩
 have hlen:=hok.len
 have key:=Any.slices_SortFunc sti_lays (fun x:{ z:Int // z∈a0 }=>Value.int .i64 x.1) (fun _=>rfl) (fun x y=>cmpI x.1 y.1) hswo 144 #[] b 0 cap a0.attach.toArray w
  (enters_of Tryz.func144 (by kernel_rfl) rfl) hcl hH hb (by rw[hds]; omega)
 rw[hds] at key
 refine Calls.mono key ?_
 rintro e' w' ⟨rfl,d',n,os,⟨p1,_,p3⟩,hsd,rfl⟩
 obtain⟨s1,s2,s3⟩:=swi_heap (enc:=fun x:{ z:Int // z∈a0 }=>Value.int .i64 x.1) (n:=n) (dk:=d') (os:=os) m4
 have hpm:d'.toList.Perm a0.attach:=by
  have h1:d'.extract 0 a0.length=d':=by rw[← hds,← p1]; simp
  have h2:a0.attach.toArray.extract 0 a0.length=a0.attach.toArray:=by rw[← hds]; simp; exact List.take_of_length_le (by simp)
  rw[h1,h2] at p3; simpa using p3
 have hpz:(d'.toList.map (·.1)).Perm a0:=by
  have:=hpm.map (·.1)
  rwa [List.attach_map_subtype_val] at this
 have hls:d'.toList.map (·.1)=sortIs a0:=by
  refine sortedI_one hok hpz ?_
  rw[List.pairwise_map,List.pairwise_iff_getElem]
  intro i j hi hj hij
  have hi':i<d'.size:=by simpa using hi
  have hj':j<d'.size:=by simpa using hj
  have:=hsd i j (Nat.zero_le _) hij (by rw[← hds,← p1]; exact hj')
  rw[getElem!_pos _ i hi',getElem!_pos _ j hj'] at this
  simpa[ltOf] using this
 have hdz:d'.size=a0.length:=p1.trans hds
 obtain⟨t1,t2⟩:=puti_one (enc:=fun x:{ z:Int // z∈a0 }=>Value.int .i64 x.1) (dk:=d') (cur:=c) (by rw[hdz,m5]; omega)
 generalize hW:sortWorld (fun x:{ z:Int // z∈a0 }=>Value.int .i64 x.1) w b 0 n d' os=W at s1 s2 s3 ⊢
 refine⟨.tuple #[],[b],rfl,⟨by rw[← hW]; rfl,by rw[← hW]; rfl,by rw[← hW]; rfl,s3,fun k hk1 hk2=>s2 k hk1 (fun e=>hk2 (by simp[e])),fun _=>by rw[← hW]; exact Nat.le_add_right _ _⟩,?_,hFn,fun k hk1=>⟨.inr hk1,Nat.lt_of_lt_of_le (hFl k hk1) s3⟩,⟨[],rfl,by simp[RepVs]⟩⟩
 simp only[RepVs,RepV]
 refine⟨_,_,[b],[],rfl,by simp,?_,_,_,[],[],rfl,rfl,?_,rfl,rfl⟩
 ·simp only[RepC]
  refine .inr ⟨b,cap,_,e,[],(sortIs a0).map (Value.int .i64),?_,?_,m2,?_,s1,?_,?_,repI_mk _,rfl⟩
  ·rw[aF,sortIs_length]
  ·rw[aF,sortIs_length]; exact m1
  ·intro q hq; obtain⟨y,_,rfl⟩:=List.mem_map.1 hq; rfl
  ·rw[t1,Nat.mul_one]; exact m5
  ·rw[aF,sortIs_length,Nat.mul_one,← hdz,t2,← hls,List.map_map]; rfl
 ·simp only[RepC]; exact⟨[],rfl,trivial,by simp[RepCs],by simp⟩
end Go.Proofs.YtmfpijomelhccaaGreatDoor
