/- Lemmas of the proof; each says what it shows. -/
import Derived.Test.YtejbpjegkfbncaaGreatGm
import Derived.Test.YtejbpjegkfbncaaGreatGf
import Derived.Test.YtejbpjegkfbncaaGreatAvF5
import Derived.Shelf.Sort.Plain
import Derived.Shelf.Slices.In.SortNone
import Derived.Sort.OwnSorted
set_option linter.unusedSimpArgs false
set_option linter.unusedVariables false
set_option linter.defProp false
set_option maxRecDepth 4000
namespace Go.Proofs.YtejbpjegkfbncaaGreat
open Go.Shelf Go.Av
open List renaming length_map→aB
def sr_:Go.Shelf.Ren:=⟨fun | 125=>168 | 128=>196 | 129=>197 | 190=>144 | 258=>167 | 302=>187 | 303=>188 | 304=>189 | 305=>190 | 306=>191 | 307=>192 | 308=>193 | 309=>194 | 310=>195 | 329=>211 | 330=>212 | 333=>210 | 334=>213 | 335=>214 | 336=>215 | 344=>221 | n=>n,fun | 0=>0 | 3=>3 | 4=>4 | 5=>5 | 9=>9 | 31=>85 | 46=>166 | 51=>187 | 53=>189 | 131=>184 | 182=>178 | 183=>179 | 218=>198 | 222=>202 | 228=>207 | 229=>208 | n=>n,fun n=>n⟩
theorem sl_5:Lays.n190 Tryz.prog sr_:={
 mixed:=by kernel_rfl
 f125:=Tryz.func168.trans (congrArg some (by kernel_rfl))
 f128:=Tryz.func196.trans (congrArg some (by kernel_rfl))
 f129:=Tryz.func197.trans (congrArg some (by kernel_rfl))
 f190:=Tryz.func144.trans (congrArg some (by kernel_rfl))
 f258:=Tryz.func167.trans (congrArg some (by kernel_rfl))
 f302:=Tryz.func187.trans (congrArg some (by kernel_rfl))
 f303:=Tryz.func188.trans (congrArg some (by kernel_rfl))
 f304:=Tryz.func189.trans (congrArg some (by kernel_rfl))
 f305:=Tryz.func190.trans (congrArg some (by kernel_rfl))
 f306:=Tryz.func191.trans (congrArg some (by kernel_rfl))
 f307:=Tryz.func192.trans (congrArg some (by kernel_rfl))
 f308:=Tryz.func193.trans (congrArg some (by kernel_rfl))
 f309:=Tryz.func194.trans (congrArg some (by kernel_rfl))
 f310:=Tryz.func195.trans (congrArg some (by kernel_rfl))
 f329:=Tryz.func211.trans (congrArg some (by kernel_rfl))
 f330:=Tryz.func212.trans (congrArg some (by kernel_rfl))
 f333:=Tryz.func210.trans (congrArg some (by kernel_rfl))
 f334:=Tryz.func213.trans (congrArg some (by kernel_rfl))
 f335:=Tryz.func214.trans (congrArg some (by kernel_rfl))
 f336:=Tryz.func215.trans (congrArg some (by kernel_rfl))
 f344:=Tryz.func221.trans (congrArg some (by kernel_rfl))
 t0:=Tryz.underlying0
 a0:=Tryz.isAgg0
 z0:=Tryz.sizeOf0
 v0:=Tryz.zeroValue0
 t3:=Tryz.underlying3
 a3:=Tryz.isAgg3
 z3:=Tryz.sizeOf3
 v3:=Tryz.zeroValue3
 t4:=Tryz.underlying4
 a4:=Tryz.isAgg4
 z4:=Tryz.sizeOf4
 v4:=Tryz.zeroValue4
 t5:=Tryz.underlying5
 a5:=Tryz.isAgg5
 z5:=Tryz.sizeOf5
 v5:=Tryz.zeroValue5
 t9:=Tryz.underlying9
 a9:=Tryz.isAgg9
 z9:=Tryz.sizeOf9
 v9:=Tryz.zeroValue9
 t31:=Tryz.underlying85
 a31:=Tryz.isAgg85
 z31:=Tryz.sizeOf85
 v31:=Tryz.zeroValue85
 t46:=Tryz.underlying166
 a46:=Tryz.isAgg166
 z46:=Tryz.sizeOf166
 v46:=Tryz.zeroValue166
 t51:=Tryz.underlying187
 a51:=Tryz.isAgg187
 z51:=Tryz.sizeOf187
 v51:=Tryz.zeroValue187
 t53:=Tryz.underlying189
 a53:=Tryz.isAgg189
 z53:=Tryz.sizeOf189
 v53:=Tryz.zeroValue189
 t131:=Tryz.underlying184
 a131:=Tryz.isAgg184
 z131:=Tryz.sizeOf184
 v131:=Tryz.zeroValue184
 t182:=Tryz.underlying178
 a182:=Tryz.isAgg178
 z182:=Tryz.sizeOf178
 v182:=Tryz.zeroValue178
 t183:=Tryz.underlying179
 a183:=Tryz.isAgg179
 z183:=Tryz.sizeOf179
 v183:=Tryz.zeroValue179
 t218:=Tryz.underlying198
 a218:=Tryz.isAgg198
 z218:=Tryz.sizeOf198
 v218:=Tryz.zeroValue198
 t222:=Tryz.underlying202
 a222:=Tryz.isAgg202
 z222:=Tryz.sizeOf202
 v222:=Tryz.zeroValue202
 t228:=Tryz.underlying207
 a228:=Tryz.isAgg207
 z228:=Tryz.sizeOf207
 v228:=Tryz.zeroValue207
 t229:=Tryz.underlying208
 a229:=Tryz.isAgg208
 z229:=Tryz.sizeOf208
 v229:=Tryz.zeroValue208 }
theorem rSi_{N:Nat→Prop}{w:World}:∀ (xs:List ByteArray) (cs:List Value) (F:List Nat),RepCs N w (xs.map Sx) cs F→cs=xs.map Value.string∧F=[]
 | [],cs,F,h=>by simpa only[List.map_nil,RepCs] using h
 | x::xs,cs,F,h=>by
  simp only[List.map_cons,RepCs,Sx,RepC] at h
  obtain⟨c1,c2,F1,F2,rfl,rfl,⟨rfl,_,rfl⟩,h4⟩:=h
  obtain⟨rfl,rfl⟩:=rSi_ xs _ _ h4
  exact⟨rfl,rfl⟩
theorem rSm_{N:Nat→Prop}{w:World}:∀ (xs:List ByteArray),RepCs N w (xs.map Sx) (xs.map Value.string) []
 | []=>by simp[RepCs]
 | x::xs=>by
  simp only[List.map_cons,RepCs,Sx,RepC]
  exact⟨[.string x],_,[],[],rfl,rfl,⟨rfl,rfl,rfl⟩,rSm_ xs⟩
theorem encS(x:ByteArray):encStr x.data.toList=.string x:=by cases x; rfl
theorem sBl_(a:List ByteArray):(sB_ a).length=a.length:=by simp[sB_,List.length_mergeSort]
theorem sBe_(a:List ByteArray):(((a.map fun x=>x.data.toList).mergeSort fun x y=>decide (x≤y)).map encStr)=(sB_ a).map Value.string:=by
 simp only[sB_,List.map_map]; rfl
theorem sSS_1{a0:List ByteArray}{r:Unit×List ByteArray}(h:sSS_ a0=some r):SatIO Tryz.prog 144 [.sl true 1 (a0.map Sx)] [.sl true 1 (r.2.map Sx)] (.tup []):=by
 unfold sSS_ at h
 split at h
 case isFalse=>cases h
 case isTrue hlen=>
 cases h
 refine⟨⟨_,Tryz.func144,by kernel_rfl,by kernel_rfl⟩,fun w N vs Fs hN hFn hFl hvs=>?_⟩
 simp only[RepVs,RepV] at hvs
 obtain⟨v0,_,F0,_,rfl,rfl,g0,rfl,rfl⟩:=hvs
 rw[List.append_nil] at*
 simp only[RepC] at g0
 rcases g0 with⟨e1,e2,rfl⟩ | ⟨b,cap,c,e,F',ccs,e1,m1,m2,m3,m4,m5,m6,m7,rfl⟩
 ·simp only[List.cons.injEq,and_true] at e1
  subst e1
  obtain rfl:a0=[]:=List.map_eq_nil_iff.1 e2
  refine(Any.slices_Sort_string_none sl_5 none 0 w).mono ?_
  rintro e w' ⟨rfl,rfl⟩
  refine⟨.tuple #[],[],rfl,KeepX.refl _ _ _,?_,List.nodup_nil,by simp,⟨[],rfl,by simp[RepVs]⟩⟩
  simp only[RepVs,RepV,RepC]
  exact⟨_,[],[],[],rfl,rfl,.inl ⟨rfl,by simp[sB_],rfl⟩,rfl,rfl⟩
 ·simp only[List.cons.injEq,and_true] at e1
  subst e1
  obtain⟨rfl,rfl⟩:=rSi_ a0 _ _ m7
  rw[aB,Nat.mul_one] at m6
  rw[aB] at m1 
  have hb:b<w.heap.size:=hFl b (by simp)
  have hcs:a0.length≤c.size:=by rw[m5]; omega
  have hH:Go.Sort.Holds encStr w b 0 (a0.map fun x=>x.data.toList).toArray:=holds_of_block m4 (by rw[aB,m6,List.map_map]; exact List.map_congr_left fun x _=>(encS x).symm)
  have:=Any.slices_Sort_string sl_5 b 0 cap (a0.map fun x=>x.data.toList) w hH hb (by simpa using hlen)
  rw[aB] at this
  rw[aB]
  refine this.mono ?_
  rintro e' w' ⟨rfl,n,os,rfl⟩
  have hgb:=grownBy_sorted (w:=w) (g:=b) (n:=n) (os:=os) ((a0.map fun x=>x.data.toList).mergeSort fun x y=>decide (x≤y)).toArray
  have hblk:=heap_sorted (n:=n) (os:=os) ((a0.map fun x=>x.data.toList).mergeSort fun x y=>decide (x≤y)).toArray m4
  refine⟨.tuple #[],[b],rfl,⟨hgb.os,hgb.tape,hgb.output,hgb.size,fun k hk hkb=>hgb.block k hk (fun e=>hkb (by cases e; simp)),fun _=>Nat.le_add_right _ _⟩,?_,by simp,fun x hx=>?_,⟨[],rfl,by simp[RepVs]⟩⟩
  ·simp only[RepVs,RepV]
   refine⟨_,[],[b],[],rfl,rfl,?_,rfl,rfl⟩
   simp only[RepC]
   refine .inr ⟨b,cap,_,e,[],(sB_ a0).map Value.string,?_,?_,m2,?_,hblk,?_,?_,rSm_ _,rfl⟩
   ·rw[aB,sBl_]
   ·rw[aB,sBl_]; exact m1
   ·intro q hq; obtain⟨y,_,rfl⟩:=List.mem_map.1 hq; rfl
   ·simp only[Go.Sort.putCells,Array.size_mapIdx]; exact m5
   ·have hl:((a0.map fun x=>x.data.toList).mergeSort fun x y=>decide (x≤y)).length=a0.length:=by simp[List.length_mergeSort]
    have:=take_putCells c ((a0.map fun x=>x.data.toList).mergeSort fun x y=>decide (x≤y)) (by rw[hl]; exact hcs)
    rw[hl] at this
    rw[aB,sBl_,Nat.mul_one,this,sBe_]
  ·simp only[List.mem_singleton] at hx; subst hx
   exact⟨.inr (by simp),Nat.lt_of_lt_of_le hb hgb.size⟩
end Go.Proofs.YtejbpjegkfbncaaGreat
