/- Lemmas of the proof; each says what it shows. -/
import Derived.Test.YtfchaodlnddkpaaGreatGm
import Derived.Test.YtfchaodlnddkpaaGreatGf
import Derived.Test.YtfchaodlnddkpaaGreatAvMv
import Derived.Shelf.Sort.Plain
import Derived.Shelf.Slices.In.SortNone
import Derived.Sort.OwnSorted
set_option linter.unusedSimpArgs false
set_option linter.unusedVariables false
set_option linter.defProp false
set_option maxRecDepth 4000
namespace Go.Proofs.YtfchaodlnddkpaaGreat
open Go.Shelf Go.Av
open List renaming length_map→aC
def srt_ren:Go.Shelf.Ren:=⟨fun | 125=>62 | 128=>110 | 129=>111 | 190=>86 | 258=>129 | 302=>157 | 303=>158 | 304=>159 | 305=>160 | 306=>161 | 307=>162 | 308=>163 | 309=>164 | 310=>165 | 329=>140 | 330=>141 | 333=>178 | 334=>179 | 335=>180 | 336=>113 | 344=>182 | n=>n,fun | 0=>0 | 3=>3 | 4=>4 | 5=>5 | 9=>9 | 31=>75 | 46=>58 | 51=>127 | 53=>129 | 131=>124 | 182=>119 | 183=>120 | 218=>146 | 222=>150 | 228=>162 | 229=>163 | n=>n,fun n=>n⟩
theorem srt_lays:Lays.n190 Tryz.prog srt_ren:={
 mixed:=by kernel_rfl
 f125:=Tryz.func62.trans (congrArg some (by kernel_rfl))
 f128:=Tryz.func110.trans (congrArg some (by kernel_rfl))
 f129:=Tryz.func111.trans (congrArg some (by kernel_rfl))
 f190:=Tryz.func86.trans (congrArg some (by kernel_rfl))
 f258:=Tryz.func129.trans (congrArg some (by kernel_rfl))
 f302:=Tryz.func157.trans (congrArg some (by kernel_rfl))
 f303:=Tryz.func158.trans (congrArg some (by kernel_rfl))
 f304:=Tryz.func159.trans (congrArg some (by kernel_rfl))
 f305:=Tryz.func160.trans (congrArg some (by kernel_rfl))
 f306:=Tryz.func161.trans (congrArg some (by kernel_rfl))
 f307:=Tryz.func162.trans (congrArg some (by kernel_rfl))
 f308:=Tryz.func163.trans (congrArg some (by kernel_rfl))
 f309:=Tryz.func164.trans (congrArg some (by kernel_rfl))
 f310:=Tryz.func165.trans (congrArg some (by kernel_rfl))
 f329:=Tryz.func140.trans (congrArg some (by kernel_rfl))
 f330:=Tryz.func141.trans (congrArg some (by kernel_rfl))
 f333:=Tryz.func178.trans (congrArg some (by kernel_rfl))
 f334:=Tryz.func179.trans (congrArg some (by kernel_rfl))
 f335:=Tryz.func180.trans (congrArg some (by kernel_rfl))
 f336:=Tryz.func113.trans (congrArg some (by kernel_rfl))
 f344:=Tryz.func182.trans (congrArg some (by kernel_rfl))
 t0:=Tryz.underlying0
 a0:=Tryz.isAgg0
 z0:=Tryz.sizeOf0
 v0:=Tryz.zeroValue0
 t3:=Tryz.underlying3
 a3:=Tryz.isAgg3
 z3:=Tryz.sizeOf3
 v3:=Tryz.zeroValue3
 t4:=Tryz.underlying4
 a4:=Tryz.isAgg4
 z4:=Tryz.sizeOf4
 v4:=Tryz.zeroValue4
 t5:=Tryz.underlying5
 a5:=Tryz.isAgg5
 z5:=Tryz.sizeOf5
 v5:=Tryz.zeroValue5
 t9:=Tryz.underlying9
 a9:=Tryz.isAgg9
 z9:=Tryz.sizeOf9
 v9:=Tryz.zeroValue9
 t31:=Tryz.underlying75
 a31:=Tryz.isAgg75
 z31:=Tryz.sizeOf75
 v31:=Tryz.zeroValue75
 t46:=Tryz.underlying58
 a46:=Tryz.isAgg58
 z46:=Tryz.sizeOf58
 v46:=Tryz.zeroValue58
 t51:=Tryz.underlying127
 a51:=Tryz.isAgg127
 z51:=Tryz.sizeOf127
 v51:=Tryz.zeroValue127
 t53:=Tryz.underlying129
 a53:=Tryz.isAgg129
 z53:=Tryz.sizeOf129
 v53:=Tryz.zeroValue129
 t131:=Tryz.underlying124
 a131:=Tryz.isAgg124
 z131:=Tryz.sizeOf124
 v131:=Tryz.zeroValue124
 t182:=Tryz.underlying119
 a182:=Tryz.isAgg119
 z182:=Tryz.sizeOf119
 v182:=Tryz.zeroValue119
 t183:=Tryz.underlying120
 a183:=Tryz.isAgg120
 z183:=Tryz.sizeOf120
 v183:=Tryz.zeroValue120
 t218:=Tryz.underlying146
 a218:=Tryz.isAgg146
 z218:=Tryz.sizeOf146
 v218:=Tryz.zeroValue146
 t222:=Tryz.underlying150
 a222:=Tryz.isAgg150
 z222:=Tryz.sizeOf150
 v222:=Tryz.zeroValue150
 t228:=Tryz.underlying162
 a228:=Tryz.isAgg162
 z228:=Tryz.sizeOf162
 v228:=Tryz.zeroValue162
 t229:=Tryz.underlying163
 a229:=Tryz.isAgg163
 z229:=Tryz.sizeOf163
 v229:=Tryz.zeroValue163 }
theorem repS_inv{N:Nat→Prop}{w:World}:∀ (xs:List ByteArray) (cs:List Value) (F:List Nat),RepCs N w (xs.map Sx) cs F→cs=xs.map Value.string∧F=[]
 | [],cs,F,h=>by simpa only[List.map_nil,RepCs] using h
 | x::xs,cs,F,h=>by
  simp only[List.map_cons,RepCs,Sx,RepC] at h
  obtain⟨c1,c2,F1,F2,rfl,rfl,⟨rfl,_,rfl⟩,h4⟩:=h
  obtain⟨rfl,rfl⟩:=repS_inv xs _ _ h4
  exact⟨rfl,rfl⟩
theorem repS_mk{N:Nat→Prop}{w:World}:∀ (xs:List ByteArray),RepCs N w (xs.map Sx) (xs.map Value.string) []
 | []=>by simp[RepCs]
 | x::xs=>by
  simp only[List.map_cons,RepCs,Sx,RepC]
  exact⟨[.string x],_,[],[],rfl,rfl,⟨rfl,rfl,rfl⟩,repS_mk xs⟩
theorem encS(x:ByteArray):encStr x.data.toList=.string x:=by cases x; rfl
theorem sortB_length(a:List ByteArray):(sortB a).length=a.length:=by simp[sortB,List.length_mergeSort]
theorem sortB_enc(a:List ByteArray):(((a.map fun x=>x.data.toList).mergeSort fun x y=>decide (x≤y)).map encStr)=(sortB a).map Value.string:=by
 simp only[sortB,List.map_map]; rfl
theorem slices_SortS_sat{a0:List ByteArray}{r:Unit×List ByteArray}(h:slices_SortS a0=some r):SatIO Tryz.prog 86 [.sl true 1 (a0.map Sx)] [.sl true 1 (r.2.map Sx)] (.tup []):=by
 unfold slices_SortS at h
 split at h
 case isFalse=>cases h
 case isTrue hlen=>
 cases h
 refine⟨⟨_,Tryz.func86,by kernel_rfl,by kernel_rfl⟩,fun w N vs Fs hN hFn hFl hvs=>?_⟩
 simp only[RepVs,RepV] at hvs
 obtain⟨v0,_,F0,_,rfl,rfl,g0,rfl,rfl⟩:=hvs
 rw[List.append_nil] at*
 simp only[RepC] at g0
 rcases g0 with⟨e1,e2,rfl⟩ | ⟨b,cap,c,e,F',ccs,e1,m1,m2,m3,m4,m5,m6,m7,rfl⟩
 ·simp only[List.cons.injEq,and_true] at e1
  subst e1
  obtain rfl:a0=[]:=List.map_eq_nil_iff.1 e2
  refine(Any.slices_Sort_string_none srt_lays none 0 w).mono ?_
  rintro e w' ⟨rfl,rfl⟩
  refine⟨.tuple #[],[],rfl,KeepX.refl _ _ _,?_,List.nodup_nil,by simp,⟨[],rfl,by simp[RepVs]⟩⟩
  simp only[RepVs,RepV,RepC]
  exact⟨_,[],[],[],rfl,rfl,.inl ⟨rfl,by simp[sortB],rfl⟩,rfl,rfl⟩
 ·simp only[List.cons.injEq,and_true] at e1
  subst e1
  obtain⟨rfl,rfl⟩:=repS_inv a0 _ _ m7
  rw[aC,Nat.mul_one] at m6
  rw[aC] at m1 
  have hb:b<w.heap.size:=hFl b (by simp)
  have hcs:a0.length≤c.size:=by rw[m5]; omega
  have hH:Go.Sort.Holds encStr w b 0 (a0.map fun x=>x.data.toList).toArray:=holds_of_block m4 (by rw[aC,m6,List.map_map]; exact List.map_congr_left fun x _=>(encS x).symm)
  have:=Any.slices_Sort_string srt_lays b 0 cap (a0.map fun x=>x.data.toList) w hH hb (by simpa using hlen)
  rw[aC] at this
  rw[aC]
  refine this.mono ?_
  rintro e' w' ⟨rfl,n,os,rfl⟩
  have hgb:=grownBy_sorted (w:=w) (g:=b) (n:=n) (os:=os) ((a0.map fun x=>x.data.toList).mergeSort fun x y=>decide (x≤y)).toArray
  have hblk:=heap_sorted (n:=n) (os:=os) ((a0.map fun x=>x.data.toList).mergeSort fun x y=>decide (x≤y)).toArray m4
  refine⟨.tuple #[],[b],rfl,⟨hgb.os,hgb.tape,hgb.output,hgb.size,fun k hk hkb=>hgb.block k hk (fun e=>hkb (by cases e; simp)),fun _=>Nat.le_add_right _ _⟩,?_,by simp,fun x hx=>?_,⟨[],rfl,by simp[RepVs]⟩⟩
  ·simp only[RepVs,RepV]
   refine⟨_,[],[b],[],rfl,rfl,?_,rfl,rfl⟩
   simp only[RepC]
   refine .inr ⟨b,cap,_,e,[],(sortB a0).map Value.string,?_,?_,m2,?_,hblk,?_,?_,repS_mk _,rfl⟩
   ·rw[aC,sortB_length]
   ·rw[aC,sortB_length]; exact m1
   ·intro q hq; obtain⟨y,_,rfl⟩:=List.mem_map.1 hq; rfl
   ·simp only[Go.Sort.putCells,Array.size_mapIdx]; exact m5
   ·have hl:((a0.map fun x=>x.data.toList).mergeSort fun x y=>decide (x≤y)).length=a0.length:=by simp[List.length_mergeSort]
    have:=take_putCells c ((a0.map fun x=>x.data.toList).mergeSort fun x y=>decide (x≤y)) (by rw[hl]; exact hcs)
    rw[hl] at this
    rw[aC,sortB_length,Nat.mul_one,this,sortB_enc]
  ·simp only[List.mem_singleton] at hx; subst hx
   exact⟨.inr (by simp),Nat.lt_of_lt_of_le hb hgb.size⟩
end Go.Proofs.YtfchaodlnddkpaaGreat
