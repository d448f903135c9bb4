/- Lemmas of the proof; each says what it shows. -/
import Derived.Test.YtikeldgdgjoekaaGreatGm
import Derived.Test.YtikeldgdgjoekaaGreatGf
import Derived.Test.YtikeldgdgjoekaaGreatAvFs
import Derived.Shelf.Sort.Plain
import Derived.Shelf.Slices.In.SortNone
import Derived.Sort.OwnSorted
set_option linter.unusedSimpArgs false
set_option linter.unusedVariables false
set_option linter.defProp false
set_option maxRecDepth 4000
namespace Go.Proofs.YtikeldgdgjoekaaGreat
open Go.Shelf Go.Av
open List renaming length_map→aG
def srt_ren:Go.Shelf.Ren:=⟨fun | 125=>85 | 128=>96 | 129=>97 | 190=>73 | 258=>84 | 302=>88 | 303=>89 | 304=>90 | 305=>91 | 306=>92 | 307=>93 | 308=>82 | 309=>94 | 310=>95 | 329=>99 | 330=>100 | 333=>98 | 334=>101 | 335=>102 | 336=>79 | 344=>103 | n=>n,fun | 0=>0 | 3=>3 | 4=>4 | 5=>5 | 9=>9 | 31=>29 | 46=>84 | 51=>99 | 53=>40 | 131=>34 | 182=>92 | 183=>93 | 218=>101 | 222=>105 | 228=>107 | 229=>108 | n=>n,fun n=>n⟩
theorem srt_lays:Lays.n190 Tryz.prog srt_ren:={
 mixed:=by kernel_rfl
 f125:=Tryz.func85.trans (congrArg some (by kernel_rfl))
 f128:=Tryz.func96.trans (congrArg some (by kernel_rfl))
 f129:=Tryz.func97.trans (congrArg some (by kernel_rfl))
 f190:=Tryz.func73.trans (congrArg some (by kernel_rfl))
 f258:=Tryz.func84.trans (congrArg some (by kernel_rfl))
 f302:=Tryz.func88.trans (congrArg some (by kernel_rfl))
 f303:=Tryz.func89.trans (congrArg some (by kernel_rfl))
 f304:=Tryz.func90.trans (congrArg some (by kernel_rfl))
 f305:=Tryz.func91.trans (congrArg some (by kernel_rfl))
 f306:=Tryz.func92.trans (congrArg some (by kernel_rfl))
 f307:=Tryz.func93.trans (congrArg some (by kernel_rfl))
 f308:=Tryz.func82.trans (congrArg some (by kernel_rfl))
 f309:=Tryz.func94.trans (congrArg some (by kernel_rfl))
 f310:=Tryz.func95.trans (congrArg some (by kernel_rfl))
 f329:=Tryz.func99.trans (congrArg some (by kernel_rfl))
 f330:=Tryz.func100.trans (congrArg some (by kernel_rfl))
 f333:=Tryz.func98.trans (congrArg some (by kernel_rfl))
 f334:=Tryz.func101.trans (congrArg some (by kernel_rfl))
 f335:=Tryz.func102.trans (congrArg some (by kernel_rfl))
 f336:=Tryz.func79.trans (congrArg some (by kernel_rfl))
 f344:=Tryz.func103.trans (congrArg some (by kernel_rfl))
 t0:=Tryz.underlying0
 a0:=Tryz.isAgg0
 z0:=Tryz.sizeOf0
 v0:=Tryz.zeroValue0
 t3:=Tryz.underlying3
 a3:=Tryz.isAgg3
 z3:=Tryz.sizeOf3
 v3:=Tryz.zeroValue3
 t4:=Tryz.underlying4
 a4:=Tryz.isAgg4
 z4:=Tryz.sizeOf4
 v4:=Tryz.zeroValue4
 t5:=Tryz.underlying5
 a5:=Tryz.isAgg5
 z5:=Tryz.sizeOf5
 v5:=Tryz.zeroValue5
 t9:=Tryz.underlying9
 a9:=Tryz.isAgg9
 z9:=Tryz.sizeOf9
 v9:=Tryz.zeroValue9
 t31:=Tryz.underlying29
 a31:=Tryz.isAgg29
 z31:=Tryz.sizeOf29
 v31:=Tryz.zeroValue29
 t46:=Tryz.underlying84
 a46:=Tryz.isAgg84
 z46:=Tryz.sizeOf84
 v46:=Tryz.zeroValue84
 t51:=Tryz.underlying99
 a51:=Tryz.isAgg99
 z51:=Tryz.sizeOf99
 v51:=Tryz.zeroValue99
 t53:=Tryz.underlying40
 a53:=Tryz.isAgg40
 z53:=Tryz.sizeOf40
 v53:=Tryz.zeroValue40
 t131:=Tryz.underlying34
 a131:=Tryz.isAgg34
 z131:=Tryz.sizeOf34
 v131:=Tryz.zeroValue34
 t182:=Tryz.underlying92
 a182:=Tryz.isAgg92
 z182:=Tryz.sizeOf92
 v182:=Tryz.zeroValue92
 t183:=Tryz.underlying93
 a183:=Tryz.isAgg93
 z183:=Tryz.sizeOf93
 v183:=Tryz.zeroValue93
 t218:=Tryz.underlying101
 a218:=Tryz.isAgg101
 z218:=Tryz.sizeOf101
 v218:=Tryz.zeroValue101
 t222:=Tryz.underlying105
 a222:=Tryz.isAgg105
 z222:=Tryz.sizeOf105
 v222:=Tryz.zeroValue105
 t228:=Tryz.underlying107
 a228:=Tryz.isAgg107
 z228:=Tryz.sizeOf107
 v228:=Tryz.zeroValue107
 t229:=Tryz.underlying108
 a229:=Tryz.isAgg108
 z229:=Tryz.sizeOf108
 v229:=Tryz.zeroValue108 }
theorem repS_inv{N:Nat→Prop}{w:World}:∀ (xs:List ByteArray) (cs:List Value) (F:List Nat),RepCs N w (xs.map Sx) cs F→cs=xs.map Value.string∧F=[]
 | [],cs,F,h=>by simpa only[List.map_nil,RepCs] using h
 | x::xs,cs,F,h=>by
  simp only[List.map_cons,RepCs,Sx,RepC] at h
  obtain⟨c1,c2,F1,F2,rfl,rfl,⟨rfl,_,rfl⟩,h4⟩:=h
  obtain⟨rfl,rfl⟩:=repS_inv xs _ _ h4
  exact⟨rfl,rfl⟩
theorem repS_mk{N:Nat→Prop}{w:World}:∀ (xs:List ByteArray),RepCs N w (xs.map Sx) (xs.map Value.string) []
 | []=>by simp[RepCs]
 | x::xs=>by
  simp only[List.map_cons,RepCs,Sx,RepC]
  exact⟨[.string x],_,[],[],rfl,rfl,⟨rfl,rfl,rfl⟩,repS_mk xs⟩
theorem encS(x:ByteArray):encStr x.data.toList=.string x:=by cases x; rfl
theorem sortB_length(a:List ByteArray):(sortB a).length=a.length:=by simp[sortB,List.length_mergeSort]
theorem sortB_enc(a:List ByteArray):(((a.map fun x=>x.data.toList).mergeSort fun x y=>decide (x≤y)).map encStr)=(sortB a).map Value.string:=by
 simp only[sortB,List.map_map]; rfl
theorem slices_SortS_sat{a0:List ByteArray}{r:Unit×List ByteArray}(h:slices_SortS a0=some r):SatIO Tryz.prog 73 [.sl true 1 (a0.map Sx)] [.sl true 1 (r.2.map Sx)] (.tup []):=by
 unfold slices_SortS at h
 split at h
 case isFalse=>cases h
 case isTrue hlen=>
 cases h
 refine⟨⟨_,Tryz.func73,by kernel_rfl,by kernel_rfl⟩,fun w N vs Fs hN hFn hFl hvs=>?_⟩
 simp only[RepVs,RepV] at hvs
 obtain⟨v0,_,F0,_,rfl,rfl,g0,rfl,rfl⟩:=hvs
 rw[List.append_nil] at*
 simp only[RepC] at g0
 rcases g0 with⟨e1,e2,rfl⟩ | ⟨b,cap,c,e,F',ccs,e1,m1,m2,m3,m4,m5,m6,m7,rfl⟩
 ·simp only[List.cons.injEq,and_true] at e1
  subst e1
  obtain rfl:a0=[]:=List.map_eq_nil_iff.1 e2
  refine(Any.slices_Sort_string_none srt_lays none 0 w).mono ?_
  rintro e w' ⟨rfl,rfl⟩
  refine⟨.tuple #[],[],rfl,KeepX.refl _ _ _,?_,List.nodup_nil,by simp,⟨[],rfl,by simp[RepVs]⟩⟩
  simp only[RepVs,RepV,RepC]
  exact⟨_,[],[],[],rfl,rfl,.inl ⟨rfl,by simp[sortB],rfl⟩,rfl,rfl⟩
 ·simp only[List.cons.injEq,and_true] at e1
  subst e1
  obtain⟨rfl,rfl⟩:=repS_inv a0 _ _ m7
  rw[aG,Nat.mul_one] at m6
  rw[aG] at m1 
  have hb:b<w.heap.size:=hFl b (by simp)
  have hcs:a0.length≤c.size:=by rw[m5]; omega
  have hH:Go.Sort.Holds encStr w b 0 (a0.map fun x=>x.data.toList).toArray:=holds_of_block m4 (by rw[aG,m6,List.map_map]; exact List.map_congr_left fun x _=>(encS x).symm)
  have:=Any.slices_Sort_string srt_lays b 0 cap (a0.map fun x=>x.data.toList) w hH hb (by simpa using hlen)
  rw[aG] at this
  rw[aG]
  refine this.mono ?_
  rintro e' w' ⟨rfl,n,os,rfl⟩
  have hgb:=grownBy_sorted (w:=w) (g:=b) (n:=n) (os:=os) ((a0.map fun x=>x.data.toList).mergeSort fun x y=>decide (x≤y)).toArray
  have hblk:=heap_sorted (n:=n) (os:=os) ((a0.map fun x=>x.data.toList).mergeSort fun x y=>decide (x≤y)).toArray m4
  refine⟨.tuple #[],[b],rfl,⟨hgb.os,hgb.tape,hgb.output,hgb.size,fun k hk hkb=>hgb.block k hk (fun e=>hkb (by cases e; simp)),fun _=>Nat.le_add_right _ _⟩,?_,by simp,fun x hx=>?_,⟨[],rfl,by simp[RepVs]⟩⟩
  ·simp only[RepVs,RepV]
   refine⟨_,[],[b],[],rfl,rfl,?_,rfl,rfl⟩
   simp only[RepC]
   refine .inr ⟨b,cap,_,e,[],(sortB a0).map Value.string,?_,?_,m2,?_,hblk,?_,?_,repS_mk _,rfl⟩
   ·rw[aG,sortB_length]
   ·rw[aG,sortB_length]; exact m1
   ·intro q hq; obtain⟨y,_,rfl⟩:=List.mem_map.1 hq; rfl
   ·simp only[Go.Sort.putCells,Array.size_mapIdx]; exact m5
   ·have hl:((a0.map fun x=>x.data.toList).mergeSort fun x y=>decide (x≤y)).length=a0.length:=by simp[List.length_mergeSort]
    have:=take_putCells c ((a0.map fun x=>x.data.toList).mergeSort fun x y=>decide (x≤y)) (by rw[hl]; exact hcs)
    rw[hl] at this
    rw[aG,sortB_length,Nat.mul_one,this,sortB_enc]
  ·simp only[List.mem_singleton] at hx; subst hx
   exact⟨.inr (by simp),Nat.lt_of_lt_of_le hb hgb.size⟩
end Go.Proofs.YtikeldgdgjoekaaGreat
