/- Lemmas of the proof; each says what it shows. -/
import Derived.Test.YtfchaodlnddkpaaGreatGsrt
import Derived.Shelf.Slices.CompactS
set_option linter.unusedSimpArgs false
set_option linter.unusedVariables false
set_option linter.defProp false
set_option maxRecDepth 4000
namespace Go.Proofs.YtfchaodlnddkpaaGreat
open Go.Shelf Go.Av
open List renaming length_map→aC
def cpt_ren:Go.Shelf.Ren:=⟨fun | 194=>87 | n=>n,fun | 0=>0 | 3=>3 | 4=>4 | 9=>9 | 31=>75 | n=>n,fun n=>n⟩
theorem cpt_lays:Lays.n194 Tryz.prog cpt_ren:={
 mixed:=by kernel_rfl
 f194:=Tryz.func87.trans (congrArg some (by kernel_rfl))
 t0:=Tryz.underlying0
 a0:=Tryz.isAgg0
 z0:=Tryz.sizeOf0
 v0:=Tryz.zeroValue0
 t3:=Tryz.underlying3
 a3:=Tryz.isAgg3
 z3:=Tryz.sizeOf3
 v3:=Tryz.zeroValue3
 t4:=Tryz.underlying4
 a4:=Tryz.isAgg4
 z4:=Tryz.sizeOf4
 v4:=Tryz.zeroValue4
 t9:=Tryz.underlying9
 a9:=Tryz.isAgg9
 z9:=Tryz.sizeOf9
 v9:=Tryz.zeroValue9
 t31:=Tryz.underlying75
 a31:=Tryz.isAgg75
 z31:=Tryz.sizeOf75
 v31:=Tryz.zeroValue75 }
theorem cpt_get{a:List ByteArray}{j:Nat}(h:j<a.length):(a.map fun x=>x.data.toList).toArray[j]! =(a.getD j default).data.toList:=by
 rw[getElem!_pos _ _ (by simpa using h)]
 simp[List.getD,h]
theorem cpt_inj{x y:ByteArray}:x.data.toList=y.data.toList↔x=y:=
 ⟨fun h=>by cases x; cases y; simpa using h,fun h=>h▸rfl⟩
theorem cpt_eq(a:List ByteArray):Go.Lib.compact (a.map fun x=>x.data.toList)=(compB a).map fun x=>x.data.toList:=by
 unfold Go.Lib.compact Go.Lib.compactUpTo compB
 rw[aC,List.map_map]
 have e:(List.range a.length).filter (Go.Lib.keeps (a.map fun x=>x.data.toList).toArray)=(List.range a.length).filter (cmpK a):=by
  refine List.filter_congr fun j hj=>?_
  have hj:j<a.length:=List.mem_range.1 hj
  unfold Go.Lib.keeps cmpK
  rw[cpt_get hj,cpt_get (show j-1<a.length by omega),Bool.eq_iff_iff]
  simp only[decide_eq_true_eq,Bool.or_eq_true,Bool.not_eq_true',decide_eq_false_iff_not,ne_eq,cpt_inj]
 rw[e]
 refine List.map_congr_left fun j hj=>?_
 exact cpt_get (List.mem_range.1 (List.mem_filter.1 hj).1)
theorem cpt_len(a:List ByteArray):(compB a).length≤a.length:=by
 unfold compB
 rw[aC]
 exact Nat.le_trans (List.length_filter_le _ _) (by rw[List.length_range]; exact Nat.le_refl _)
theorem grow_none(w:World):Go.Sort.grow w #[]=w:=by simp[Go.Sort.grow]
theorem slices_CompactS_sat{a0 r:List ByteArray}(h:slices_CompactS a0=some r):Sat Tryz.prog 87 [.sl true 1 (a0.map Sx)] (.sl true 1 (r.map Sx)):=by
 unfold slices_CompactS at h
 split at h
 case isFalse=>cases h
 case isTrue hlen=>
 cases h
 refine⟨⟨_,Tryz.func87,by kernel_rfl,by kernel_rfl⟩,fun w N vs Fs hN hFn hFl hvs=>?_⟩
 simp only[RepVs,RepV] at hvs
 obtain⟨v0,_,F0,_,rfl,rfl,g0,rfl,rfl⟩:=hvs
 rw[List.append_nil] at*
 simp only[RepC] at g0
 rcases g0 with⟨e1,e2,rfl⟩ | ⟨b,cap,c,e,F',ccs,e1,m1,m2,m3,m4,m5,m6,m7,rfl⟩
 ·simp only[List.cons.injEq,and_true] at e1
  subst e1
  obtain rfl:a0=[]:=List.map_eq_nil_iff.1 e2
  refine(Any.slices_Compact_string_empty cpt_lays none 0 w).mono ?_
  rintro e w' ⟨rfl,rfl⟩
  refine⟨_,[],rfl,KeepX.refl _ _ _,?_,List.nodup_nil,by simp⟩
  simp only[RepR,RepV,RepC]
  exact .inl (by simp[compB])
 ·simp only[List.cons.injEq,and_true] at e1
  subst e1
  obtain⟨rfl,rfl⟩:=repS_inv a0 _ _ m7
  rw[aC,Nat.mul_one] at m6
  rw[aC] at m1
  have hb:b<w.heap.size:=hFl b (by simp)
  have hcs:a0.length≤c.size:=by rw[m5]; omega
  have hH:Go.Sort.Holds encStr w b 0 (a0.map fun x=>x.data.toList).toArray:=holds_of_block m4 (by rw[aC,m6,List.map_map]; exact List.map_congr_left fun x _=>(encS x).symm)
  have:=Any.slices_Compact_string cpt_lays b 0 cap (a0.map fun x=>x.data.toList) w hH (by rw[aC]; omega) (by rw[aC]; exact m1)
  rw[aC,cpt_eq,aC] at this
  rw[aC]
  refine this.mono ?_
  rintro e' w' ⟨rfl,n,rfl⟩
  generalize hL:((compB a0).map fun x=>x.data.toList)++List.replicate (a0.length-(compB a0).length) ([]:List UInt8)=L
  have hll:=cpt_len a0
  have hl:L.length=a0.length:=by rw[← hL,List.length_append,aC,List.length_replicate]; omega
  rw[← grow_none (Go.Sort.putRow encStr (Go.Sort.ahead w n) b 0 L.toArray)]
  have hgb:=grownBy_sorted (w:=w) (g:=b) (n:=n) (os:=#[]) L.toArray
  have hblk:=heap_sorted (n:=n) (os:=#[]) L.toArray m4
  refine⟨_,[b],rfl,⟨hgb.os,hgb.tape,hgb.output,hgb.size,fun k hk hkb=>hgb.block k hk (fun e=>hkb (by cases e; simp)),fun _=>Nat.le_add_right _ _⟩,?_,by simp,fun x hx=>?_⟩
  ·simp only[RepR,RepV,RepC]
   refine .inr ⟨b,cap,_,e,[],(compB a0).map Value.string,?_,?_,m2,?_,hblk,?_,?_,repS_mk _,rfl⟩
   ·rw[aC]
   ·rw[aC]; omega
   ·intro q hq; obtain⟨y,_,rfl⟩:=List.mem_map.1 hq; rfl
   ·simp only[Go.Sort.putCells,Array.size_mapIdx]; exact m5
   ·have:=take_putCells c L (by rw[hl]; exact hcs)
    rw[aC,Nat.mul_one]
    have t:=congrArg (List.take (compB a0).length) this
    rw[List.take_take,Nat.min_eq_left (by omega)] at t
    rw[t,← List.map_take,← hL,List.take_append_of_le_length (by rw[aC]; exact Nat.le_refl _),List.take_of_length_le (by rw[aC]; exact Nat.le_refl _),List.map_map]
    exact List.map_congr_left fun x _=>encS x
  ·simp only[List.mem_singleton] at hx; subst hx
   exact⟨.inr (by simp),Nat.lt_of_lt_of_le hb hgb.size⟩
end Go.Proofs.YtfchaodlnddkpaaGreat
