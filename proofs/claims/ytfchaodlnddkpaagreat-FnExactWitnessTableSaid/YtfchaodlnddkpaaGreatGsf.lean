/- Lemmas of the proof; each says what it shows. -/
import Derived.Test.YtfchaodlnddkpaaGreatGm
import Derived.Test.YtfchaodlnddkpaaGreatGf
import Derived.Shelf.SlSortCmp.NoneTotal
set_option linter.unusedSimpArgs false
set_option linter.unusedVariables false
set_option linter.defProp false
set_option maxRecDepth 4000
namespace Go.Proofs.YtfchaodlnddkpaaGreat
open Go.Shelf Go.RowKit Go.Lib Go.Sort Go.Av
open List renaming map_cons→aF,length_cons→aG,length_map→aC
open Tt renaming pv→ah
def stf_ren:Go.Shelf.Ren:=⟨fun | 6=>30 | 14=>61 | 15=>62 | 20=>102 | 21=>103 | 22=>104 | 23=>105 | 24=>106 | 25=>107 | 26=>108 | 27=>109 | 28=>110 | 29=>111 | 46=>139 | 47=>140 | 48=>141 | 49=>142 | 50=>143 | 57=>172 | n=>n,fun | 0=>0 | 3=>3 | 4=>4 | 5=>5 | 9=>9 | 22=>34 | 24=>36 | 25=>65 | 39=>58 | 45=>119 | 46=>120 | 50=>124 | 53=>127 | 55=>129 | 66=>146 | 70=>150 | 76=>162 | 77=>163 | n=>n,fun n=>n⟩
theorem stf_lays:SlLaysF0.n6 Tryz.prog stf_ren:={
 mixed:=by kernel_rfl
 f6:=⟨Tryz.f30.name,by kernel_rfl,Tryz.func30.trans (congrArg some (by kernel_rfl))⟩
 f14:=⟨Tryz.f61.name,by kernel_rfl,Tryz.func61.trans (congrArg some (by kernel_rfl))⟩
 f15:=Tryz.func62.trans (congrArg some (by kernel_rfl))
 f20:=⟨Tryz.f102.name,by kernel_rfl,Tryz.func102.trans (congrArg some (by kernel_rfl))⟩
 f21:=⟨Tryz.f103.name,by kernel_rfl,Tryz.func103.trans (congrArg some (by kernel_rfl))⟩
 f22:=⟨Tryz.f104.name,by kernel_rfl,Tryz.func104.trans (congrArg some (by kernel_rfl))⟩
 f23:=⟨Tryz.f105.name,by kernel_rfl,Tryz.func105.trans (congrArg some (by kernel_rfl))⟩
 f24:=⟨Tryz.f106.name,by kernel_rfl,Tryz.func106.trans (congrArg some (by kernel_rfl))⟩
 f25:=⟨Tryz.f107.name,by kernel_rfl,Tryz.func107.trans (congrArg some (by kernel_rfl))⟩
 f26:=⟨Tryz.f108.name,by kernel_rfl,Tryz.func108.trans (congrArg some (by kernel_rfl))⟩
 f27:=⟨Tryz.f109.name,by kernel_rfl,Tryz.func109.trans (congrArg some (by kernel_rfl))⟩
 f28:=Tryz.func110.trans (congrArg some (by kernel_rfl))
 f29:=Tryz.func111.trans (congrArg some (by kernel_rfl))
 f46:=⟨Tryz.f139.name,by kernel_rfl,Tryz.func139.trans (congrArg some (by kernel_rfl))⟩
 f47:=Tryz.func140.trans (congrArg some (by kernel_rfl))
 f48:=Tryz.func141.trans (congrArg some (by kernel_rfl))
 f49:=⟨Tryz.f142.name,by kernel_rfl,Tryz.func142.trans (congrArg some (by kernel_rfl))⟩
 f50:=⟨Tryz.f143.name,by kernel_rfl,Tryz.func143.trans (congrArg some (by kernel_rfl))⟩
 f57:=⟨Tryz.f172.name,by kernel_rfl,Tryz.func172.trans (congrArg some (by kernel_rfl))⟩
 t0:=Tryz.underlying0
 a0:=Tryz.isAgg0
 z0:=Tryz.sizeOf0
 v0:=Tryz.zeroValue0
 t3:=Tryz.underlying3
 a3:=Tryz.isAgg3
 z3:=Tryz.sizeOf3
 v3:=Tryz.zeroValue3
 t4:=Tryz.underlying4
 a4:=Tryz.isAgg4
 z4:=Tryz.sizeOf4
 v4:=Tryz.zeroValue4
 t5:=Tryz.underlying5
 a5:=Tryz.isAgg5
 z5:=Tryz.sizeOf5
 v5:=Tryz.zeroValue5
 t9:=Tryz.underlying9
 a9:=Tryz.isAgg9
 z9:=Tryz.sizeOf9
 v9:=Tryz.zeroValue9
 t22:=Tryz.underlying34
 a22:=Tryz.isAgg34
 z22:=Tryz.sizeOf34
 v22:=Tryz.zeroValue34
 t25:=Tryz.underlying65
 a25:=Tryz.isAgg65
 z25:=Tryz.sizeOf65
 v25:=Tryz.zeroValue65
 t39:=Tryz.underlying58
 a39:=Tryz.isAgg58
 z39:=Tryz.sizeOf58
 v39:=Tryz.zeroValue58
 t45:=Tryz.underlying119
 a45:=Tryz.isAgg119
 z45:=Tryz.sizeOf119
 v45:=Tryz.zeroValue119
 t46:=Tryz.underlying120
 a46:=Tryz.isAgg120
 z46:=Tryz.sizeOf120
 v46:=Tryz.zeroValue120
 t50:=Tryz.underlying124
 a50:=Tryz.isAgg124
 z50:=Tryz.sizeOf124
 v50:=Tryz.zeroValue124
 t53:=Tryz.underlying127
 a53:=Tryz.isAgg127
 z53:=Tryz.sizeOf127
 v53:=Tryz.zeroValue127
 t55:=Tryz.underlying129
 a55:=Tryz.isAgg129
 z55:=Tryz.sizeOf129
 v55:=Tryz.zeroValue129
 t66:=Tryz.underlying146
 a66:=Tryz.isAgg146
 z66:=Tryz.sizeOf146
 v66:=Tryz.zeroValue146
 t70:=Tryz.underlying150
 a70:=Tryz.isAgg150
 z70:=Tryz.sizeOf150
 v70:=Tryz.zeroValue150
 t76:=Tryz.underlying162
 a76:=Tryz.isAgg162
 z76:=Tryz.sizeOf162
 v76:=Tryz.zeroValue162
 t77:=Tryz.underlying163
 a77:=Tryz.isAgg163
 z77:=Tryz.sizeOf163
 v77:=Tryz.zeroValue163 }

/-- A row's elements, each with its cells and the blocks that it owns. -/
theorem T_split{N:Nat→Prop}{w:World}:∀ (l:List Tt) (cs:List Value) (F:List Nat),RepCs N w (l.map (ah true)) cs F→
 ∃ zs:List (Tt×(List Value×List Nat)),zs.map (·.1)=l∧cs=(zs.map (·.2.1)).flatten∧F=(zs.map (·.2.2)).flatten∧∀ z∈zs,RepC N w (ah true z.1) z.2.1 z.2.2
 | [],cs,F,h=>by
  simp only[List.map_nil,RepCs] at h
  exact⟨[],rfl,by simp[h.1],by simp[h.2],by simp⟩
 | x::l,cs,F,h=>by
  simp only[aF,RepCs] at h
  obtain⟨c1,c2,F1,F2,rfl,rfl,h1,h2⟩:=h
  obtain⟨zs,rfl,rfl,rfl,h3⟩:=T_split l c2 F2 h2
  exact⟨(x,(c1,F1))::zs,rfl,by simp,by simp,by simpa using⟨h1,fun a b c hm=>h3 _ hm⟩⟩
theorem T_join{N:Nat→Prop}{w:World}:∀ (zs:List (Tt×(List Value×List Nat))),(∀ z∈zs,RepC N w (ah true z.1) z.2.1 z.2.2)→RepCs N w ((zs.map (·.1)).map (ah true)) (zs.map (·.2.1)).flatten (zs.map (·.2.2)).flatten
 | [],_=>by simp[RepCs]
 | z::zs,h=>by
  simp only[aF,RepCs,List.flatten_cons]
  exact⟨_,_,_,_,rfl,rfl,h z (by simp),T_join zs fun y hy=>h y (by simp[hy])⟩
theorem T_size(x:Tt):PV.size (ah true x)=2:=by rw[Tt.pv_u]; rfl
theorem T_flat(zs:List (Tt×(List Value×List Nat)))(h:∀ z∈zs,z.2.1.length=2):(zs.map (·.2.1)).flatten.length=zs.length*2:=by
 induction zs with
 | nil=>rfl
 | cons z zs ih=>
  have:=h z (by simp)
  have:=ih fun y hy=>h y (by simp[hy])
  simp only[aF,List.flatten_cons,List.length_append,aG]; omega
/-- The flat row of a list of elements of two cells. -/
theorem flat_two{α:Type}[Inhabited α](enc:α→List Value)(hk:∀ x,(enc x).length=2)(d:Array α):(flatK enc 2 d).toList=(d.toList.map enc).flatten:=by
 have hl:∀ l:List α,((l.map enc).flatten).length=l.length*2:=by
  intro l
  induction l with
  | nil=>rfl
  | cons x l ih=>simp only[aF,List.flatten_cons,List.length_append,aG,hk,ih]; omega
 have key:∀ (l:List α) (t:Nat),t<l.length*2→((l.map enc).flatten)[t]?=some ((enc (l.getD (t / 2) default))[t % 2]!):=by
  intro l
  induction l with
  | nil=>intro t h; simp at h
  | cons x l ih=>
   intro t h
   simp only[aG] at h
   simp only[aF,List.flatten_cons]
   by_cases h2:t<2
   ·rw[List.getElem?_append_left (by rw[hk]; exact h2),show t / 2=0 by omega,show t % 2=t by omega]
    rw[List.getElem?_eq_getElem (by rw[hk]; exact h2)]
    simp[List.getD,List.getElem!_eq_getElem?_getD,show t<(enc x).length by rw[hk]; exact h2]
   ·rw[List.getElem?_append_right (by rw[hk]; omega),hk,ih (t-2) (by omega),show(t-2) / 2=t / 2-1 by omega,show(t-2) % 2=t % 2 by omega]
    obtain⟨q,hq⟩:∃ q,t / 2=q+1:=⟨t / 2-1,by omega⟩
    rw[hq]; rfl
 refine List.ext_getElem? fun t=>?_
 by_cases h:t<d.size*2
 ·rw[key d.toList t (by simpa using h)]
  rw[List.getElem?_eq_getElem (by simpa using h)]
  have:=get_flatK enc 2 d t h
  rw[getElem!_pos _ t (by simpa using h)] at this
  simp only[Array.getElem_toList]
  rw[this]
  congr 2
  have:t / 2<d.size:=by omega
  simp[List.getD,this]
 ·rw[List.getElem?_eq_none (by simpa using h),List.getElem?_eq_none (by rw[hl]; simpa using h)]
/-- The worlds of a sort: one block's cells, draws, new blocks. -/
theorem sw_heap{α:Type}[Inhabited α]{enc:α→List Value}{w:World}{b n:Nat}{dk:Array α}{os:Array Obj}{cur:Array Value}{e:TypeId}(hb:w.heap[b]?=some (.cells cur e (0,0))):
 (sortWorldK enc 2 w b 0 n dk os).heap[b]?=some (.cells (putCells id 0 (flatK enc 2 dk) cur) e (0,0))∧(∀ k,k<w.heap.size→k≠b→(sortWorldK enc 2 w b 0 n dk os).heap[k]?=w.heap[k]?)∧w.heap.size≤(sortWorldK enc 2 w b 0 n dk os).heap.size:=by
 have hbl:=(Array.getElem?_eq_some_iff.1 hb).1
 have hbv:=(Array.getElem?_eq_some_iff.1 hb).2
 unfold sortWorldK putRowK putRow mapBlock grow Sort.ahead
 refine⟨?_,fun k hk hne=>?_,by simp⟩
 ·simp only
  rw[Array.getElem?_append_left (by simpa using hbl),Array.getElem?_modify,if_pos rfl,hb]
  rfl
 ·simp only
  rw[Array.getElem?_append_left (by simpa using hk),Array.getElem?_modify,if_neg (Ne.symm hne)]
theorem put_two{α:Type}[Inhabited α]{enc:α→List Value}(hk:∀ x,(enc x).length=2){dk:Array α}{cur:Array Value}(h:dk.size*2≤cur.size):
 (putCells id 0 (flatK enc 2 dk) cur).size=cur.size∧(putCells id 0 (flatK enc 2 dk) cur).toList.take (dk.size*2)=(dk.toList.map enc).flatten:=by
 refine⟨by simp[putCells],?_⟩
 rw[← flat_two enc hk]
 refine List.ext_getElem? fun t=>?_
 by_cases ht:t<dk.size*2
 ·rw[List.getElem?_take,if_pos ht]
  simp only[Array.getElem?_toList,putCells,Array.getElem?_mapIdx]
  rw[Array.getElem?_eq_getElem (by omega)]
  simp only[Option.map_some,Nat.zero_le,Nat.zero_add,size_flatK,ht,and_self,if_true,id,Nat.sub_zero]
  rw[getElem!_pos _ t (by simpa using ht),Array.getElem?_eq_getElem (by simpa using ht)]
 ·rw[List.getElem?_take,if_neg ht,List.getElem?_eq_none (by simpa using ht)]
theorem grow_of{w w':World}(h:KeepX [] w.heap.size w w'):∃ q os,w'=grow (w.drewN q) os:=by
 have hd:=h.drawn rfl
 refine⟨w'.drawn-w.drawn,w'.heap.extract w.heap.size w'.heap.size,?_⟩
 obtain⟨heap',tape',drawn',os',output'⟩:=w'
 obtain⟨heap,tape,drawn,os,output⟩:=w
 obtain⟨h1,h2,h3,h4,h5,_⟩:=h
 simp only at h1 h2 h3 h4 h5 hd
 subst h1 h2 h3
 simp only[grow,World.drewN]
 congr 1
 ·refine Array.ext_getElem? fun k=>?_
  by_cases hk:k<heap.size
  ·rw[Array.getElem?_append_left hk]; exact h5 k hk (by simp)
  ·rw[Array.getElem?_append_right (by omega),Array.getElem?_extract]
   by_cases h6:k<heap'.size
   ·rw[if_pos (by omega)]; congr 1; omega
   ·rw[if_neg (by omega),Array.getElem?_eq_none (by omega)]
 ·omega
theorem sortTs_perm(l:List Tt):(sortTs l).Perm l:=by
 unfold sortTs
 have h:=(List.mergeSort_perm l.attach fun x y=>!decide (cmpT y.1 x.1<0)).map (·.1)
 rwa [List.attach_map_subtype_val] at h
theorem sortTs_sorted{l:List Tt}(h:SortOk l):(sortTs l).Pairwise fun x y=>¬ cmpT y x<0:=by
 unfold sortTs
 rw[List.pairwise_map]
 refine(List.pairwise_mergeSort (le:=fun x y:{ x // x∈l }=>!decide (cmpT y.1 x.1<0)) ?_ ?_ l.attach).imp ?_
 ·intro a b c h1 h2
  simp only[Bool.not_eq_true',decide_eq_false_iff_not] at h1 h2 ⊢
  exact h.ntr c.1 c.2 b.1 b.2 a.1 a.2 h2 h1
 ·intro a b
  by_cases h1:cmpT b.1 a.1<0
  ·by_cases h2:cmpT a.1 b.1<0
   ·exact absurd (h.tr a.1 a.2 b.1 b.2 a.1 a.2 h2 h1) (h.irr a.1 a.2)
   ·simp[h2]
  ·simp[h1]
 ·intro a b h1
  simpa using h1
/-- One list alone is sorted so. -/
theorem sorted_one{l m:List Tt}(h:SortOk l)(hp:m.Perm l)(hs:m.Pairwise fun x y=>¬ cmpT y x<0):m=sortTs l:=
 List.Perm.eq_of_pairwise (fun a b ha hb h1 h2=>h.anti a (hp.mem_iff.1 ha) b ((sortTs_perm l).mem_iff.1 hb) h2 h1) hs (sortTs_sorted h) (hp.trans (sortTs_perm l).symm)
theorem sortTs_length(l:List Tt):(sortTs l).length=l.length:=(sortTs_perm l).length_eq
theorem RepC_T_one{N:Nat→Prop}{w:World}{x:Tt}{cs:List Value}{F:List Nat}(h:RepC N w (ah true x) cs F):cs.length=2∧∀ v∈cs,v.oneCell'=true:=⟨(RepC.length _ _ _ h).trans (T_size x),RepC.one _ _ _ h⟩
theorem T_repV{N:Nat→Prop}{w:World}{x:Tt}{cs:List Value}{o:Bool}{F:List Nat}(h:RepC N w (ah o x) cs F):RepV N w (ah o x) (.agg cs.toArray) F:=by
 rw[Tt.pv_u] at h ⊢
 exact⟨cs,rfl,by simpa only[RepC] using h⟩
set_option maxHeartbeats 1000000 in
theorem sortT_sat(hcmp:∀ {x y:Tt} {c:Int},impl_compareTerms x y=some c→Sat Tryz.prog 31 [ah false x,ah false y] (I c)){a0:List Tt}{r:Unit×List Tt}(h:slices_SortFuncT a0=some r):
 SatIO Tryz.prog 30 [.sl true 2 (a0.map (ah true)),.clo 31 []] [.sl true 2 (r.2.map (ah true)),.clo 31 []] (.tup []):=by
 unfold slices_SortFuncT at h
 split at h
 case isFalse=>cases h
 case isTrue hok=>
 cases h
 refine⟨⟨_,Tryz.func30,by kernel_rfl,by kernel_rfl⟩,fun w N vs Fs hN hFn hFl hvs=>?_⟩
 simp only[RepVs,RepV] at hvs
 obtain⟨v0,_,F0,_,rfl,rfl,g0,v1,_,F1,_,rfl,rfl,g1,rfl,rfl⟩:=hvs
 simp only[RepC] at g0 g1
 obtain⟨vals,e1,rfl,g2,_⟩:=g1
 simp only[RepCs] at g2
 obtain⟨rfl,_⟩:=g2
 obtain rfl:v1=.func (.func 31) #[] #[]:=by simpa using e1
 simp only[List.append_nil] at*
 -- no element
 by_cases h0:a0=[]
 ·subst h0
  have hsl:∃ p cap,v0=.slice p 0 cap:=by
   rcases g0 with⟨e,_,_⟩ | ⟨b,cap,c,e,F',ccs,e1,_⟩
   ·exact⟨none,0,by simpa using e⟩
   ·exact⟨_,cap,by simpa using e1⟩
  obtain⟨p,cap,rfl⟩:=hsl
  refine(AnyF.slices_SortFunc_none stf_lays p cap (.func (.func 31) #[] #[]) w).mono ?_
  rintro e w' ⟨rfl,rfl⟩
  refine⟨.tuple #[],F0,rfl,KeepX.refl _ _ _,?_,hFn,fun k hk=>⟨.inr hk,hFl k hk⟩,⟨[],rfl,by simp[RepVs]⟩⟩
  simp only[RepVs,RepV]
  refine⟨_,_,F0,[],rfl,by simp,?_,_,_,[],[],rfl,rfl,?_,rfl,rfl⟩
  ·have hs0:sortTs []=[]:=by have:=sortTs_length []; simpa using this
   rw[hs0]
   simp only[RepC]
   rcases g0 with g | ⟨b,cap',c,e,F',ccs,q1,q2,q3,q4,q5,q6,q7,q8,q9⟩
   ·exact .inl g
   ·simp only[List.map_nil,RepCs] at q8
    refine .inr ⟨b,cap',c,e,F',ccs,q1,q2,q3,q4,q5,q6,q7,?_,q9⟩
    simp only[List.map_nil,RepCs]; exact q8
  ·simp only[RepC]; exact⟨[],rfl,trivial,by simp[RepCs],by simp⟩
 rcases g0 with⟨_,e,_⟩ | ⟨b,cap,c,e,F',ccs,e1,m1,m2,m3,m4,m5,m6,m7,rfl⟩
 ·exact absurd (List.map_eq_nil_iff.1 e) h0
 obtain rfl:v0=.slice (some ⟨b,0,none⟩) (a0.map (ah true)).length cap:=by simpa using e1
 obtain⟨zs,hz1,hz2,hz3,hz4⟩:=T_split a0 ccs F' m7
 rw[aC] at m1 m6 ⊢
 have hb:b<w.heap.size:=hFl b (by simp)
 have hz2':∀ z∈zs,z.2.1.length=2:=fun z hz=>(RepC_T_one (hz4 z hz)).1
 have hzl:zs.length=a0.length:=by rw[← hz1,aC]
 have hne:zs≠[]:=fun e=>h0 (by rw[← hz1,e]; rfl)
 obtain⟨z0,hz0⟩:=List.exists_mem_of_ne_nil zs hne
 haveI:Inhabited { z:Tt×(List Value×List Nat) // z∈zs }:=⟨⟨z0,hz0⟩⟩
 have hin:∀ x:{ z:Tt×(List Value×List Nat) // z∈zs },x.1.1∈a0:=fun x=>by rw[← hz1]; exact List.mem_map_of_mem x.2
 have hFz:∀ x:{ z:Tt×(List Value×List Nat) // z∈zs },∀ k∈x.1.2.2,k∈F':=fun x k hk=>by
  rw[hz3]; exact List.mem_flatten.2 ⟨_,List.mem_map_of_mem x.2,hk⟩
 have hbF:b∉F':=(List.nodup_cons.1 hFn).1
 have hds:zs.attach.toArray.size=a0.length:=by simp[hzl]
 have hk:∀ x:{ z:Tt×(List Value×List Nat) // z∈zs },x.1.2.1.length=2:=fun x=>hz2' _ x.2
 have hcc:c.toList.take (a0.length*2)=((zs.attach.toArray.toList).map fun x=>x.1.2.1).flatten:=by
  have h1:(zs.attach.map fun x=>x.1.2.1)=zs.map (·.2.1):=by
   have:=List.attach_map_subtype_val zs
   calc (zs.attach.map fun x=>x.1.2.1)=(zs.attach.map (·.1)).map (·.2.1):=by rw[List.map_map]; rfl
    _=_:=by rw[this]
  rw[m6,hz2,← h1]
 have hH:HoldsK (fun x:{ z:Tt×(List Value×List Nat) // z∈zs }=>x.1.2.1) 2 w b 0 zs.attach.toArray:=by
  intro j hj
  rw[size_flatK,hds] at hj
  have hf:=flat_two (fun x:{ z:Tt×(List Value×List Nat) // z∈zs }=>x.1.2.1) hk zs.attach.toArray
  rw[← hcc] at hf
  have h1:(flatK (fun x:{ z:Tt×(List Value×List Nat) // z∈zs }=>x.1.2.1) 2 zs.attach.toArray)[j]?=c[j]?:=by
   rw[← Array.getElem?_toList,hf,List.getElem?_take,if_pos hj,Array.getElem?_toList]
  have hjc:j<c.size:=by rw[m5]; omega
  refine⟨?_,by simp[World.frozen?,m4]⟩
  rw[getElem!_pos _ j (by rw[size_flatK,hds]; exact hj)]
  rw[Array.getElem?_eq_getElem (by rw[size_flatK,hds]; exact hj)] at h1
  simp only[World.cell?,m4,id,Nat.zero_add]
  simpa using h1.symm
 have hcl:CmpLays Tryz.prog 31 #[] (fun x:{ z:Tt×(List Value×List Nat) // z∈zs }=>x.1.2.1) 2 (fun x y=>cmpT x.1.1 y.1.1) b 0 zs.attach.toArray.size w:=by
  intro m os dk hdk x y
  obtain⟨s1,s2,s3⟩:=sw_heap (enc:=fun x:{ z:Tt×(List Value×List Nat) // z∈zs }=>x.1.2.1) (n:=m) (dk:=dk) (os:=os) m4
  generalize sortWorldK (fun x:{ z:Tt×(List Value×List Nat) // z∈zs }=>x.1.2.1) 2 w b 0 m dk os=W at s1 s2 s3 ⊢
  have hrep:∀ x:{ z:Tt×(List Value×List Nat) // z∈zs },RepV (fun k=>N k∨k∈F') W (ah false x.1.1) (.agg x.1.2.1.toArray) []:=by
   intro x
   have h1:=RepC.demote (N':=fun k=>N k∨k∈F') (fun k hk=>.inl hk) _ _ _ (fun k hk=>.inr (hFz x k hk)) (hz4 _ x.2)
   rw[Tt.view] at h1
   refine T_repV (RepC.frame (fun k hk=>hk) (fun k hk=>s2 k ?_ ?_) _ _ _ (by simp) h1)
   ·rcases hk with hk | hk
    ·exact(hN k hk).1
    ·exact hFl k (by simp[hk])
   ·rintro rfl
    rcases hk with hk | hk
    ·exact(hN _ hk).2 (by simp)
    ·exact hbF hk
  have hs:=(hcmp (hok.ex _ (hin x) _ (hin y))).2 W (fun k=>N k∨k∈F') [.agg x.1.2.1.toArray,.agg y.1.2.1.toArray] [] (fun k hk=>⟨by
   rcases hk with hk | hk
   ·have:=(hN k hk).1; omega
   ·have:=hFl k (by simp[hk]); omega,by simp⟩) List.nodup_nil (by simp) ⟨_,_,[],[],rfl,rfl,hrep x,_,_,[],[],rfl,rfl,hrep y,rfl,rfl⟩
  refine Calls.mono hs ?_
  rintro e w' ⟨v,F,rfl,hk,hr,_⟩
  have hv:v=.int .i64 (cmpT x.1.1 y.1.1):=by
   simp only[RepR,RepV,RepC,I] at hr
   simpa using hr.1
  exact⟨by rw[hv],grow_of hk⟩
 have hswo:SWO (ltOf fun x y:{ z:Tt×(List Value×List Nat) // z∈zs }=>cmpT x.1.1 y.1.1):=
  ⟨fun x=>decide_eq_false (hok.irr _ (hin x)),fun x y z h1 h2=>decide_eq_true (hok.tr _ (hin x) _ (hin y) _ (hin z) (of_decide_eq_true h1) (of_decide_eq_true h2)),
   fun x y z h1 h2=>decide_eq_false (hok.ntr _ (hin x) _ (hin y) _ (hin z) (of_decide_eq_false h1) (of_decide_eq_false h2))⟩
 have hlen:=hok.len
 have key:=AnyQ.slices_SortFunc stf_lays 2 Tryz.isAgg36 Tryz.sizeOf36 (fun x:{ z:Tt×(List Value×List Nat) // z∈zs }=>x.1.2.1) hk (fun x v hv=>(RepC_T_one (hz4 _ x.2)).2 v hv) (fun x y=>cmpT x.1.1 y.1.1) hswo 31 #[] b 0 cap zs.attach.toArray w
  (enters_of Tryz.func31 (by kernel_rfl) rfl) hcl hH hb (by rw[hds]; omega)
 rw[hds] at key
 refine Calls.mono key ?_
 rintro e' w' ⟨rfl,d',n,os,⟨p1,_,p3⟩,hsd,rfl⟩
 obtain⟨s1,s2,s3⟩:=sw_heap (enc:=fun x:{ z:Tt×(List Value×List Nat) // z∈zs }=>x.1.2.1) (n:=n) (dk:=d') (os:=os) m4
 have hpm:d'.toList.Perm zs.attach:=by
  have h1:d'.extract 0 a0.length=d':=by rw[← hds,← p1]; simp
  have h2:zs.attach.toArray.extract 0 a0.length=zs.attach.toArray:=by rw[← hds]; simp; exact List.take_of_length_le (by simp)
  rw[h1,h2] at p3; simpa using p3
 have hpz:(d'.toList.map (·.1)).Perm zs:=by
  have:=hpm.map (·.1)
  rwa [List.attach_map_subtype_val] at this
 have hls:(d'.toList.map (·.1)).map (·.1)=sortTs a0:=by
  refine sorted_one hok ?_ ?_
  ·rw[← hz1]; exact hpz.map _
  ·rw[List.map_map,List.pairwise_map,List.pairwise_iff_getElem]
   intro i j hi hj hij
   have hi':i<d'.size:=by simpa using hi
   have hj':j<d'.size:=by simpa using hj
   have:=hsd i j (Nat.zero_le _) hij (by rw[← hds,← p1]; exact hj')
   rw[getElem!_pos _ i hi',getElem!_pos _ j hj'] at this
   simpa[ltOf] using this
 have hdz:d'.size=a0.length:=p1.trans hds
 obtain⟨t1,t2⟩:=put_two (enc:=fun x:{ z:Tt×(List Value×List Nat) // z∈zs }=>x.1.2.1) hk (dk:=d') (cur:=c) (by rw[hdz,m5]; omega)
 generalize hW:sortWorldK (fun x:{ z:Tt×(List Value×List Nat) // z∈zs }=>x.1.2.1) 2 w b 0 n d' os=W at s1 s2 s3 ⊢
 have hfp:(((d'.toList.map (·.1)).map (·.2.2)).flatten).Perm F':=by rw[hz3]; exact(hpz.map _).flatten
 have hnd:(b::((d'.toList.map (·.1)).map (·.2.2)).flatten).Nodup:=(hfp.cons b).nodup_iff.2 hFn
 refine⟨.tuple #[],b::((d'.toList.map (·.1)).map (·.2.2)).flatten,rfl,⟨by rw[← hW]; rfl,by rw[← hW]; rfl,by rw[← hW]; rfl,s3,fun k hk1 hk2=>s2 k hk1 (fun e=>hk2 (by simp[e])),fun _=>by rw[← hW]; exact Nat.le_add_right _ _⟩,?_,hnd,fun k hk1=>?_,⟨[],rfl,by simp[RepVs]⟩⟩
 ·simp only[RepVs,RepV]
  refine⟨_,_,b::((d'.toList.map (·.1)).map (·.2.2)).flatten,[],rfl,by simp,?_,_,_,[],[],rfl,rfl,?_,rfl,rfl⟩
  ·simp only[RepC]
   refine .inr ⟨b,cap,_,e,_,(((d'.toList.map (·.1)).map (·.2.1)).flatten),?_,?_,m2,?_,s1,?_,?_,?_,rfl⟩
   ·rw[aC,sortTs_length]
   ·rw[aC,sortTs_length]; exact m1
   ·intro q hq; obtain⟨y,_,rfl⟩:=List.mem_map.1 hq; exact T_size y
   ·rw[t1]; exact m5
   ·rw[aC,sortTs_length,← hdz,t2,List.map_map]; rfl
   ·rw[← hls]
    refine T_join _ fun z hz=>?_
    have hzm:=hpz.mem_iff.1 hz
    refine RepC.noView _ _ _ (by rw[Tt.pv_u]; simp[PV.noView,PV.noViews,Tt.noViews,Sx]) (RepC.frame (N':=N) (fun k hk=>hk) (fun k hk=>s2 k (hN k hk).1 (fun e=>(hN k hk).2 (by simp[e]))) _ _ _ (fun k hk1=>?_) (hz4 z hzm))
    have hkF:=hFz ⟨z,hzm⟩ k hk1
    exact s2 k (hFl k (by simp[hkF])) (fun e=>hbF (e▸hkF))
  ·simp only[RepC]; exact⟨[],rfl,trivial,by simp[RepCs],by simp⟩
 ·have hk2:k∈b::F':=((hfp.cons b).mem_iff).1 hk1
  exact⟨.inr hk2,Nat.lt_of_lt_of_le (hFl k hk2) s3⟩
end Go.Proofs.YtfchaodlnddkpaaGreat
