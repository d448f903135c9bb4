/- Lemmas of the proof; each says what it shows. -/
import Derived.Test.YtkmfaliedpidbaaGm
import Derived.Test.YtkmfaliedpidbaaGf
import Derived.Test.YtkmfaliedpidbaaAvF5
import Derived.Shelf.Sort.Plain
import Derived.Shelf.Slices.In.SortNone
import Derived.Sort.OwnSorted
set_option linter.unusedSimpArgs false
set_option linter.unusedVariables false
set_option linter.defProp false
set_option maxRecDepth 4000
namespace Go.Proofs.Ytkmfaliedpidbaa
open Go.Shelf Go.Av
open List renaming length_map→aB
def sr_:Go.Shelf.Ren:=⟨fun | 125=>45 | 128=>55 | 129=>56 | 190=>39 | 258=>44 | 302=>47 | 303=>48 | 304=>49 | 305=>50 | 306=>51 | 307=>52 | 308=>42 | 309=>53 | 310=>54 | 329=>58 | 330=>59 | 333=>57 | 334=>60 | 335=>61 | 336=>46 | 344=>62 | n=>n,fun | 0=>0 | 3=>3 | 4=>4 | 5=>5 | 9=>9 | 31=>24 | 46=>66 | 51=>78 | 53=>38 | 131=>62 | 182=>71 | 183=>72 | 218=>80 | 222=>84 | 228=>86 | 229=>87 | n=>n,fun n=>n⟩
theorem sl_:Lays.n190 Try.prog sr_:={
 mixed:=by kernel_rfl
 f125:=Try.func45.trans (congrArg some (by kernel_rfl))
 f128:=Try.func55.trans (congrArg some (by kernel_rfl))
 f129:=Try.func56.trans (congrArg some (by kernel_rfl))
 f190:=Try.func39.trans (congrArg some (by kernel_rfl))
 f258:=Try.func44.trans (congrArg some (by kernel_rfl))
 f302:=Try.func47.trans (congrArg some (by kernel_rfl))
 f303:=Try.func48.trans (congrArg some (by kernel_rfl))
 f304:=Try.func49.trans (congrArg some (by kernel_rfl))
 f305:=Try.func50.trans (congrArg some (by kernel_rfl))
 f306:=Try.func51.trans (congrArg some (by kernel_rfl))
 f307:=Try.func52.trans (congrArg some (by kernel_rfl))
 f308:=Try.func42.trans (congrArg some (by kernel_rfl))
 f309:=Try.func53.trans (congrArg some (by kernel_rfl))
 f310:=Try.func54.trans (congrArg some (by kernel_rfl))
 f329:=Try.func58.trans (congrArg some (by kernel_rfl))
 f330:=Try.func59.trans (congrArg some (by kernel_rfl))
 f333:=Try.func57.trans (congrArg some (by kernel_rfl))
 f334:=Try.func60.trans (congrArg some (by kernel_rfl))
 f335:=Try.func61.trans (congrArg some (by kernel_rfl))
 f336:=Try.func46.trans (congrArg some (by kernel_rfl))
 f344:=Try.func62.trans (congrArg some (by kernel_rfl))
 t0:=Try.underlying0
 a0:=Try.isAgg0
 z0:=Try.sizeOf0
 v0:=Try.zeroValue0
 t3:=Try.underlying3
 a3:=Try.isAgg3
 z3:=Try.sizeOf3
 v3:=Try.zeroValue3
 t4:=Try.underlying4
 a4:=Try.isAgg4
 z4:=Try.sizeOf4
 v4:=Try.zeroValue4
 t5:=Try.underlying5
 a5:=Try.isAgg5
 z5:=Try.sizeOf5
 v5:=Try.zeroValue5
 t9:=Try.underlying9
 a9:=Try.isAgg9
 z9:=Try.sizeOf9
 v9:=Try.zeroValue9
 t31:=Try.underlying24
 a31:=Try.isAgg24
 z31:=Try.sizeOf24
 v31:=Try.zeroValue24
 t46:=Try.underlying66
 a46:=Try.isAgg66
 z46:=Try.sizeOf66
 v46:=Try.zeroValue66
 t51:=Try.underlying78
 a51:=Try.isAgg78
 z51:=Try.sizeOf78
 v51:=Try.zeroValue78
 t53:=Try.underlying38
 a53:=Try.isAgg38
 z53:=Try.sizeOf38
 v53:=Try.zeroValue38
 t131:=Try.underlying62
 a131:=Try.isAgg62
 z131:=Try.sizeOf62
 v131:=Try.zeroValue62
 t182:=Try.underlying71
 a182:=Try.isAgg71
 z182:=Try.sizeOf71
 v182:=Try.zeroValue71
 t183:=Try.underlying72
 a183:=Try.isAgg72
 z183:=Try.sizeOf72
 v183:=Try.zeroValue72
 t218:=Try.underlying80
 a218:=Try.isAgg80
 z218:=Try.sizeOf80
 v218:=Try.zeroValue80
 t222:=Try.underlying84
 a222:=Try.isAgg84
 z222:=Try.sizeOf84
 v222:=Try.zeroValue84
 t228:=Try.underlying86
 a228:=Try.isAgg86
 z228:=Try.sizeOf86
 v228:=Try.zeroValue86
 t229:=Try.underlying87
 a229:=Try.isAgg87
 z229:=Try.sizeOf87
 v229:=Try.zeroValue87 }
theorem rSi_{N:Nat→Prop}{w:World}:∀ (xs:List ByteArray) (cs:List Value) (F:List Nat),RepCs N w (xs.map Sx) cs F→cs=xs.map Value.string∧F=[]
 | [],cs,F,h=>by simpa only[List.map_nil,RepCs] using h
 | x::xs,cs,F,h=>by
  simp only[List.map_cons,RepCs,Sx,RepC] at h
  obtain⟨c1,c2,F1,F2,rfl,rfl,⟨rfl,_,rfl⟩,h4⟩:=h
  obtain⟨rfl,rfl⟩:=rSi_ xs _ _ h4
  exact⟨rfl,rfl⟩
theorem rSm_{N:Nat→Prop}{w:World}:∀ (xs:List ByteArray),RepCs N w (xs.map Sx) (xs.map Value.string) []
 | []=>by simp[RepCs]
 | x::xs=>by
  simp only[List.map_cons,RepCs,Sx,RepC]
  exact⟨[.string x],_,[],[],rfl,rfl,⟨rfl,rfl,rfl⟩,rSm_ xs⟩
theorem encS(x:ByteArray):encStr x.data.toList=.string x:=by cases x; rfl
theorem sBl_(a:List ByteArray):(sortB a).length=a.length:=by simp[sortB,List.length_mergeSort]
theorem sBe_(a:List ByteArray):(((a.map fun x=>x.data.toList).mergeSort fun x y=>decide (x≤y)).map encStr)=(sortB a).map Value.string:=by
 simp only[sortB,List.map_map]; rfl
theorem sSS_1{a0:List ByteArray}{r:Unit×List ByteArray}(h:sSS_ a0=some r):SatIO Try.prog 39 [.sl true 1 (a0.map Sx)] [.sl true 1 (r.2.map Sx)] (.tup []):=by
 unfold sSS_ at h
 split at h
 case isFalse=>cases h
 case isTrue hlen=>
 cases h
 refine⟨⟨_,Try.func39,by kernel_rfl,by kernel_rfl⟩,fun w N vs Fs hN hFn hFl hvs=>?_⟩
 simp only[RepVs,RepV] at hvs
 obtain⟨v0,_,F0,_,rfl,rfl,g0,rfl,rfl⟩:=hvs
 rw[List.append_nil] at*
 simp only[RepC] at g0
 rcases g0 with⟨e1,e2,rfl⟩ | ⟨b,cap,c,e,F',ccs,e1,m1,m2,m3,m4,m5,m6,m7,rfl⟩
 ·simp only[List.cons.injEq,and_true] at e1
  subst e1
  obtain rfl:a0=[]:=List.map_eq_nil_iff.1 e2
  refine(Any.slices_Sort_string_none sl_ none 0 w).mono ?_
  rintro e w' ⟨rfl,rfl⟩
  refine⟨.tuple #[],[],rfl,KeepX.refl _ _ _,?_,List.nodup_nil,by simp,⟨[],rfl,by simp[RepVs]⟩⟩
  simp only[RepVs,RepV,RepC]
  exact⟨_,[],[],[],rfl,rfl,.inl ⟨rfl,by simp[sortB],rfl⟩,rfl,rfl⟩
 ·simp only[List.cons.injEq,and_true] at e1
  subst e1
  obtain⟨rfl,rfl⟩:=rSi_ a0 _ _ m7
  rw[aB,Nat.mul_one] at m6
  rw[aB] at m1 
  have hb:b<w.heap.size:=hFl b (by simp)
  have hcs:a0.length≤c.size:=by rw[m5]; omega
  have hH:Go.Sort.Holds encStr w b 0 (a0.map fun x=>x.data.toList).toArray:=holds_of_block m4 (by rw[aB,m6,List.map_map]; exact List.map_congr_left fun x _=>(encS x).symm)
  have:=Any.slices_Sort_string sl_ b 0 cap (a0.map fun x=>x.data.toList) w hH hb (by simpa using hlen)
  rw[aB] at this
  rw[aB]
  refine this.mono ?_
  rintro e' w' ⟨rfl,n,os,rfl⟩
  have hgb:=grownBy_sorted (w:=w) (g:=b) (n:=n) (os:=os) ((a0.map fun x=>x.data.toList).mergeSort fun x y=>decide (x≤y)).toArray
  have hblk:=heap_sorted (n:=n) (os:=os) ((a0.map fun x=>x.data.toList).mergeSort fun x y=>decide (x≤y)).toArray m4
  refine⟨.tuple #[],[b],rfl,⟨hgb.os,hgb.tape,hgb.output,hgb.size,fun k hk hkb=>hgb.block k hk (fun e=>hkb (by cases e; simp))⟩,?_,by simp,fun x hx=>?_,⟨[],rfl,by simp[RepVs]⟩⟩
  ·simp only[RepVs,RepV]
   refine⟨_,[],[b],[],rfl,rfl,?_,rfl,rfl⟩
   simp only[RepC]
   refine .inr ⟨b,cap,_,e,[],(sortB a0).map Value.string,?_,?_,m2,?_,hblk,?_,?_,rSm_ _,rfl⟩
   ·rw[aB,sBl_]
   ·rw[aB,sBl_]; exact m1
   ·intro q hq; obtain⟨y,_,rfl⟩:=List.mem_map.1 hq; rfl
   ·simp only[Go.Sort.putCells,Array.size_mapIdx]; exact m5
   ·have hl:((a0.map fun x=>x.data.toList).mergeSort fun x y=>decide (x≤y)).length=a0.length:=by simp[List.length_mergeSort]
    have:=take_putCells c ((a0.map fun x=>x.data.toList).mergeSort fun x y=>decide (x≤y)) (by rw[hl]; exact hcs)
    rw[hl] at this
    rw[aB,sBl_,Nat.mul_one,this,sBe_]
  ·simp only[List.mem_singleton] at hx; subst hx
   exact⟨.inr (by simp),Nat.lt_of_lt_of_le hb hgb.size⟩
end Go.Proofs.Ytkmfaliedpidbaa
