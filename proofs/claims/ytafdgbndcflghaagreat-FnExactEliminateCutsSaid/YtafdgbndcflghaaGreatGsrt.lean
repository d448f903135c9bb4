/- Lemmas of the proof; each says what it shows. -/
import Derived.Test.YtafdgbndcflghaaGreatGm
import Derived.Test.YtafdgbndcflghaaGreatGf
import Derived.Test.YtafdgbndcflghaaGreatAvTn
import Derived.Shelf.Sort.Plain
import Derived.Shelf.Slices.In.SortNone
import Derived.Sort.OwnSorted
set_option linter.unusedSimpArgs false
set_option linter.unusedVariables false
set_option linter.defProp false
set_option maxRecDepth 4000
namespace Go.Proofs.YtafdgbndcflghaaGreat
open Go.Shelf Go.Av
open List renaming length_map→aD
def sr_:Go.Shelf.Ren:=⟨fun | 125=>195 | 128=>208 | 129=>209 | 190=>188 | 258=>194 | 302=>199 | 303=>200 | 304=>201 | 305=>202 | 306=>203 | 307=>204 | 308=>205 | 309=>206 | 310=>207 | 329=>215 | 330=>216 | 333=>214 | 334=>217 | 335=>218 | 336=>219 | 344=>220 | n=>n,fun | 0=>0 | 3=>3 | 4=>4 | 5=>5 | 9=>9 | 31=>140 | 46=>177 | 51=>190 | 53=>192 | 131=>115 | 182=>182 | 183=>183 | 218=>196 | 222=>200 | 228=>202 | 229=>203 | n=>n,fun n=>n⟩
theorem sl_5:Lays.n190 Tryz.prog sr_:={
 mixed:=by kernel_rfl
 f125:=Tryz.func195.trans (congrArg some (by kernel_rfl))
 f128:=Tryz.func208.trans (congrArg some (by kernel_rfl))
 f129:=Tryz.func209.trans (congrArg some (by kernel_rfl))
 f190:=Tryz.func188.trans (congrArg some (by kernel_rfl))
 f258:=Tryz.func194.trans (congrArg some (by kernel_rfl))
 f302:=Tryz.func199.trans (congrArg some (by kernel_rfl))
 f303:=Tryz.func200.trans (congrArg some (by kernel_rfl))
 f304:=Tryz.func201.trans (congrArg some (by kernel_rfl))
 f305:=Tryz.func202.trans (congrArg some (by kernel_rfl))
 f306:=Tryz.func203.trans (congrArg some (by kernel_rfl))
 f307:=Tryz.func204.trans (congrArg some (by kernel_rfl))
 f308:=Tryz.func205.trans (congrArg some (by kernel_rfl))
 f309:=Tryz.func206.trans (congrArg some (by kernel_rfl))
 f310:=Tryz.func207.trans (congrArg some (by kernel_rfl))
 f329:=Tryz.func215.trans (congrArg some (by kernel_rfl))
 f330:=Tryz.func216.trans (congrArg some (by kernel_rfl))
 f333:=Tryz.func214.trans (congrArg some (by kernel_rfl))
 f334:=Tryz.func217.trans (congrArg some (by kernel_rfl))
 f335:=Tryz.func218.trans (congrArg some (by kernel_rfl))
 f336:=Tryz.func219.trans (congrArg some (by kernel_rfl))
 f344:=Tryz.func220.trans (congrArg some (by kernel_rfl))
 t0:=Tryz.underlying0
 a0:=Tryz.isAgg0
 z0:=Tryz.sizeOf0
 v0:=Tryz.zeroValue0
 t3:=Tryz.underlying3
 a3:=Tryz.isAgg3
 z3:=Tryz.sizeOf3
 v3:=Tryz.zeroValue3
 t4:=Tryz.underlying4
 a4:=Tryz.isAgg4
 z4:=Tryz.sizeOf4
 v4:=Tryz.zeroValue4
 t5:=Tryz.underlying5
 a5:=Tryz.isAgg5
 z5:=Tryz.sizeOf5
 v5:=Tryz.zeroValue5
 t9:=Tryz.underlying9
 a9:=Tryz.isAgg9
 z9:=Tryz.sizeOf9
 v9:=Tryz.zeroValue9
 t31:=Tryz.underlying140
 a31:=Tryz.isAgg140
 z31:=Tryz.sizeOf140
 v31:=Tryz.zeroValue140
 t46:=Tryz.underlying177
 a46:=Tryz.isAgg177
 z46:=Tryz.sizeOf177
 v46:=Tryz.zeroValue177
 t51:=Tryz.underlying190
 a51:=Tryz.isAgg190
 z51:=Tryz.sizeOf190
 v51:=Tryz.zeroValue190
 t53:=Tryz.underlying192
 a53:=Tryz.isAgg192
 z53:=Tryz.sizeOf192
 v53:=Tryz.zeroValue192
 t131:=Tryz.underlying115
 a131:=Tryz.isAgg115
 z131:=Tryz.sizeOf115
 v131:=Tryz.zeroValue115
 t182:=Tryz.underlying182
 a182:=Tryz.isAgg182
 z182:=Tryz.sizeOf182
 v182:=Tryz.zeroValue182
 t183:=Tryz.underlying183
 a183:=Tryz.isAgg183
 z183:=Tryz.sizeOf183
 v183:=Tryz.zeroValue183
 t218:=Tryz.underlying196
 a218:=Tryz.isAgg196
 z218:=Tryz.sizeOf196
 v218:=Tryz.zeroValue196
 t222:=Tryz.underlying200
 a222:=Tryz.isAgg200
 z222:=Tryz.sizeOf200
 v222:=Tryz.zeroValue200
 t228:=Tryz.underlying202
 a228:=Tryz.isAgg202
 z228:=Tryz.sizeOf202
 v228:=Tryz.zeroValue202
 t229:=Tryz.underlying203
 a229:=Tryz.isAgg203
 z229:=Tryz.sizeOf203
 v229:=Tryz.zeroValue203 }
theorem rSi_{N:Nat→Prop}{w:World}:∀ (xs:List ByteArray) (cs:List Value) (F:List Nat),RepCs N w (xs.map Sx) cs F→cs=xs.map Value.string∧F=[]
 | [],cs,F,h=>by simpa only[List.map_nil,RepCs] using h
 | x::xs,cs,F,h=>by
  simp only[List.map_cons,RepCs,Sx,RepC] at h
  obtain⟨c1,c2,F1,F2,rfl,rfl,⟨rfl,_,rfl⟩,h4⟩:=h
  obtain⟨rfl,rfl⟩:=rSi_ xs _ _ h4
  exact⟨rfl,rfl⟩
theorem rSm_{N:Nat→Prop}{w:World}:∀ (xs:List ByteArray),RepCs N w (xs.map Sx) (xs.map Value.string) []
 | []=>by simp[RepCs]
 | x::xs=>by
  simp only[List.map_cons,RepCs,Sx,RepC]
  exact⟨[.string x],_,[],[],rfl,rfl,⟨rfl,rfl,rfl⟩,rSm_ xs⟩
theorem encS(x:ByteArray):encStr x.data.toList=.string x:=by cases x; rfl
theorem sBl_(a:List ByteArray):(sB_ a).length=a.length:=by simp[sB_,List.length_mergeSort]
theorem sBe_(a:List ByteArray):(((a.map fun x=>x.data.toList).mergeSort fun x y=>decide (x≤y)).map encStr)=(sB_ a).map Value.string:=by
 simp only[sB_,List.map_map]; rfl
theorem sSS_1{a0:List ByteArray}{r:Unit×List ByteArray}(h:sSS_ a0=some r):SatIO Tryz.prog 188 [.sl true 1 (a0.map Sx)] [.sl true 1 (r.2.map Sx)] (.tup []):=by
 unfold sSS_ at h
 split at h
 case isFalse=>cases h
 case isTrue hlen=>
 cases h
 refine⟨⟨_,Tryz.func188,by kernel_rfl,by kernel_rfl⟩,fun w N vs Fs hN hFn hFl hvs=>?_⟩
 simp only[RepVs,RepV] at hvs
 obtain⟨v0,_,F0,_,rfl,rfl,g0,rfl,rfl⟩:=hvs
 rw[List.append_nil] at*
 simp only[RepC] at g0
 rcases g0 with⟨e1,e2,rfl⟩ | ⟨b,cap,c,e,F',ccs,e1,m1,m2,m3,m4,m5,m6,m7,rfl⟩
 ·simp only[List.cons.injEq,and_true] at e1
  subst e1
  obtain rfl:a0=[]:=List.map_eq_nil_iff.1 e2
  refine(Any.slices_Sort_string_none sl_5 none 0 w).mono ?_
  rintro e w' ⟨rfl,rfl⟩
  refine⟨.tuple #[],[],rfl,KeepX.refl _ _ _,?_,List.nodup_nil,by simp,⟨[],rfl,by simp[RepVs]⟩⟩
  simp only[RepVs,RepV,RepC]
  exact⟨_,[],[],[],rfl,rfl,.inl ⟨rfl,by simp[sB_],rfl⟩,rfl,rfl⟩
 ·simp only[List.cons.injEq,and_true] at e1
  subst e1
  obtain⟨rfl,rfl⟩:=rSi_ a0 _ _ m7
  rw[aD,Nat.mul_one] at m6
  rw[aD] at m1 
  have hb:b<w.heap.size:=hFl b (by simp)
  have hcs:a0.length≤c.size:=by rw[m5]; omega
  have hH:Go.Sort.Holds encStr w b 0 (a0.map fun x=>x.data.toList).toArray:=holds_of_block m4 (by rw[aD,m6,List.map_map]; exact List.map_congr_left fun x _=>(encS x).symm)
  have:=Any.slices_Sort_string sl_5 b 0 cap (a0.map fun x=>x.data.toList) w hH hb (by simpa using hlen)
  rw[aD] at this
  rw[aD]
  refine this.mono ?_
  rintro e' w' ⟨rfl,n,os,rfl⟩
  have hgb:=grownBy_sorted (w:=w) (g:=b) (n:=n) (os:=os) ((a0.map fun x=>x.data.toList).mergeSort fun x y=>decide (x≤y)).toArray
  have hblk:=heap_sorted (n:=n) (os:=os) ((a0.map fun x=>x.data.toList).mergeSort fun x y=>decide (x≤y)).toArray m4
  refine⟨.tuple #[],[b],rfl,⟨hgb.os,hgb.tape,hgb.output,hgb.size,fun k hk hkb=>hgb.block k hk (fun e=>hkb (by cases e; simp)),fun _=>Nat.le_add_right _ _⟩,?_,by simp,fun x hx=>?_,⟨[],rfl,by simp[RepVs]⟩⟩
  ·simp only[RepVs,RepV]
   refine⟨_,[],[b],[],rfl,rfl,?_,rfl,rfl⟩
   simp only[RepC]
   refine .inr ⟨b,cap,_,e,[],(sB_ a0).map Value.string,?_,?_,m2,?_,hblk,?_,?_,rSm_ _,rfl⟩
   ·rw[aD,sBl_]
   ·rw[aD,sBl_]; exact m1
   ·intro q hq; obtain⟨y,_,rfl⟩:=List.mem_map.1 hq; rfl
   ·simp only[Go.Sort.putCells,Array.size_mapIdx]; exact m5
   ·have hl:((a0.map fun x=>x.data.toList).mergeSort fun x y=>decide (x≤y)).length=a0.length:=by simp[List.length_mergeSort]
    have:=take_putCells c ((a0.map fun x=>x.data.toList).mergeSort fun x y=>decide (x≤y)) (by rw[hl]; exact hcs)
    rw[hl] at this
    rw[aD,sBl_,Nat.mul_one,this,sBe_]
  ·simp only[List.mem_singleton] at hx; subst hx
   exact⟨.inr (by simp),Nat.lt_of_lt_of_le hb hgb.size⟩
end Go.Proofs.YtafdgbndcflghaaGreat
