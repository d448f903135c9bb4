/- Lemmas of the proof; each says what it shows. -/
import Derived.Test.YtafdgbndcflghaaGreatAvZ
import Derived.Test.YtafdgbndcflghaaGreatGm
import Derived.Test.YtafdgbndcflghaaGreatChecked
import Derived.KernelRfl
import Derived.WalkKit
import Derived.Lib.Walk
import Derived.MapKept
import Derived.ChangeMaps4
set_option linter.unusedSimpArgs false
set_option linter.unusedVariables false
set_option linter.defProp false
namespace Go.Proofs.YtafdgbndcflghaaGreat
open Go.RowKit Go.Lib Go.Av
open Tryz renaming prog→ah
open Go.ChangeMaps (setBlock)
theorem riI_{P:Program}{T E K:TypeId}(hT:P.underlying T=some (.map K E))(hK:P.underlying K=some (.int .i64)){w:World}{b ck:Nat}{es:List MapEntry}(hb:w.heap[b]?=some (.map es.toArray ck)){k:Int}{v:Value}
 (hn:Instr.findNow (.int .i64) (.int .i64 k) es 0=some none):(Instr.mapUpdate T (.map (some b)) (.int .i64 k) v).run P w=.ok () (setBlock w b (.map (es++[(MapEntry.mk (.int .i64 k) v ck:MapEntry)]).toArray (ck+1))):=by
 have h1:(Instr.checkKey true 10000 K (.int .i64 k)).run P w=.ok () w:=MapKept.run_checkKey (d:=.int .i64) (k:=.int .i64 k) hK rfl true 9999
 have h1':(Instr.checkKey false 10000 K (.int .i64 k)).run P w=.ok () w:=MapKept.run_checkKey (d:=.int .i64) (k:=.int .i64 k) hK rfl false 9999
 have h2:(Instr.findKey K (.int .i64 k) es).run P w=.ok none w:=by simp[Instr.findKey,run_underlying hK,hn]
 simp[Instr.mapUpdate,run_underlying hT,MapKept.run_getObj_map hb,h1,h1',h2,MapKept.run_setObj_map _ hb,setBlock]
set_option maxHeartbeats 1000000 in
set_option maxRecDepth 100000 in
theorem rw_1(op v:Int)(hs left:Bool)(s1 s2:ByteArray)(a1 a2:Option Addr)(n1 c1 n2 c2 b:Nat)(w W1 W2 W3 W4 W5 W6:World)
 (e0:w.alloc (.cells #[.int .i64 op,.string s1,.slice a1 n1 c1,.string s2,.slice a2 n2 c2] 41)=W1)
 (e1:(Instr.makeMap 114 none).run ah W1=.ok (.map (some b)) W2)
 (e2:(Instr.mapUpdate 114 (.map (some b)) (.int .i64 4) (.int .i64 3)).run ah W2=.ok () W3)
 (e3:(Instr.mapUpdate 114 (.map (some b)) (.int .i64 5) (.int .i64 5)).run ah W3=.ok () W4)
 (e4:(Instr.mapUpdate 114 (.map (some b)) (.int .i64 6) (.int .i64 7)).run ah W4=.ok () W5)
 (e5:(Instr.mapUpdate 114 (.map (some b)) (.int .i64 7) (.int .i64 9)).run ah W5=.ok () W6)
 (e6:(Instr.lookup 114 (.map (some b)) (.int .i64 op) true).run ah W6=.ok (.tuple #[.int .i64 v,.bool hs]) W6)
 (e7:W6.cell? ⟨w.heap.size,0,none⟩=some (.int .i64 op)):
 Calls ah 72 #[.agg #[.int .i64 op,.string s1,.slice a1 n1 c1,.string s2,.slice a2 n2 c2],.bool left] w fun e w'=>e=.returned (.int .i64 (if hs&&!left then RowKit.wrap64 (v+1) else v))∧w'=W6:=by
 go_enter Tryz.func72,Tryz.ntmps72
 go_wp2
 all_goals (go_ret; exact⟨rfl,rfl⟩)
def lkV:Option (Nat×Value)→Value
 | some x=>x.2
 | none=>.int .i64 0
theorem rlI_{P:Program}{T E K:TypeId}(hT:P.underlying T=some (.map K E))(hK:P.underlying K=some (.int .i64))(hz:∀ w,(zeroValue E).run P w=.ok (.int .i64 0) w){w:World}{b ck:Nat}{es:List MapEntry}(hb:w.heap[b]?=some (.map es.toArray ck)){k:Int}{r:Option (Nat×Value)}
 (hn:Instr.findNow (.int .i64) (.int .i64 k) es 0=some r):(Instr.lookup T (.map (some b)) (.int .i64 k) true).run P w=.ok (.tuple #[lkV r,.bool r.isSome]) w:=by
 have h1:∀ q,(Instr.checkKey q 10000 K (.int .i64 k)).run P w=.ok () w:=fun q=>MapKept.run_checkKey (d:=.int .i64) (k:=.int .i64 k) hK rfl q 9999
 have h2:(Instr.findKey K (.int .i64 k) es).run P w=.ok r w:=by simp[Instr.findKey,run_underlying hK,hn]
 cases r with
 | none=>simp[Instr.lookup,run_underlying hT,MapKept.run_getObj_map hb,h1,h2,hz,lkV]
 | some x=>simp[Instr.lookup,run_underlying hT,MapKept.run_getObj_map hb,h1,h2,lkV]
theorem alH(w:World)(o:Obj):(w.alloc o).heap=w.heap.push o:=rfl
theorem sbH(w:World)(b:Nat)(o:Obj):(setBlock w b o).heap=w.heap.setIfInBounds b o:=rfl
def mE(k v:Int)(n:Nat):MapEntry:=MapEntry.mk (.int .i64 k) (.int .i64 v) n
def rlv(op:Int):Int:=if op=4 then 3 else if op=5 then 5 else if op=6 then 7 else if op=7 then 9 else 0
def rlh(op:Int):Bool:=decide (op=4)||(decide (op=5)||(decide (op=6)||decide (op=7)))
theorem rc_(op:Int)(left:Bool)(s1 s2:ByteArray)(a1 a2:Option Addr)(n1 c1 n2 c2:Nat)(w:World):
 Calls ah 72 #[.agg #[.int .i64 op,.string s1,.slice a1 n1 c1,.string s2,.slice a2 n2 c2],.bool left] w fun e w'=>e=.returned (.int .i64 (if rlh op&&!left then rlv op+1 else rlv op))∧KeepX [] w.heap.size w w':=by
 have hT:=Tryz.underlying114
 have hK:=Tryz.underlying3
 have hz:∀ w,(zeroValue 3).run ah w=.ok (.int .i64 0) w:=fun w=>by kernel_rfl
 generalize e0:w.alloc (.cells #[.int .i64 op,.string s1,.slice a1 n1 c1,.string s2,.slice a2 n2 c2] 41)=W1
 have z1:W1.heap.size=w.heap.size+1:=by rw[← e0]; simp[alH]
 generalize f2:W1.alloc (.map #[] 0)=W2
 have b2:W2.heap[w.heap.size+1]?=some (.map ([]:List MapEntry).toArray 0):=by rw[← f2,← z1]; simp[alH]
 have i1:=riI_ hT hK b2 (k:=4) (v:=.int .i64 3) rfl
 generalize f3:setBlock W2 (w.heap.size+1) _=W3 at i1
 have hs2:w.heap.size+1<W2.heap.size:=(Array.getElem?_eq_some_iff.1 b2).1
 have b3:W3.heap[w.heap.size+1]?=some (.map [mE 4 3 0].toArray 1):=by rw[← f3]; simp[sbH,hs2,mE]
 have i2:=riI_ hT hK b3 (k:=5) (v:=.int .i64 5) rfl
 generalize f4:setBlock W3 (w.heap.size+1) _=W4 at i2
 have hs3:w.heap.size+1<W3.heap.size:=(Array.getElem?_eq_some_iff.1 b3).1
 have b4:W4.heap[w.heap.size+1]?=some (.map [mE 4 3 0,mE 5 5 1].toArray 2):=by rw[← f4]; simp[sbH,hs3,mE]
 have i3:=riI_ hT hK b4 (k:=6) (v:=.int .i64 7) rfl
 generalize f5:setBlock W4 (w.heap.size+1) _=W5 at i3
 have hs4:w.heap.size+1<W4.heap.size:=(Array.getElem?_eq_some_iff.1 b4).1
 have b5:W5.heap[w.heap.size+1]?=some (.map [mE 4 3 0,mE 5 5 1,mE 6 7 2].toArray 3):=by rw[← f5]; simp[sbH,hs4,mE]
 have i4:=riI_ hT hK b5 (k:=7) (v:=.int .i64 9) rfl
 generalize f6:setBlock W5 (w.heap.size+1) _=W6 at i4
 have hs5:w.heap.size+1<W5.heap.size:=(Array.getElem?_eq_some_iff.1 b5).1
 have b6:W6.heap[w.heap.size+1]?=some (.map [mE 4 3 0,mE 5 5 1,mE 6 7 2,mE 7 9 3].toArray 4):=by rw[← f6]; simp[sbH,hs5,mE]
 have hf:∃ r,Instr.findNow (.int .i64) (.int .i64 op) [mE 4 3 0,mE 5 5 1,mE 6 7 2,mE 7 9 3] 0=some r∧lkV r=.int .i64 (rlv op)∧r.isSome=rlh op:=by
  by_cases h4:op=4
  ·subst h4; exact⟨_,rfl,rfl,rfl⟩
  by_cases h5:op=5
  ·subst h5; exact⟨_,rfl,rfl,rfl⟩
  by_cases h6:op=6
  ·subst h6; exact⟨_,rfl,rfl,rfl⟩
  by_cases h7:op=7
  ·subst h7; exact⟨_,rfl,rfl,rfl⟩
  ·refine⟨none,?_,?_,?_⟩
   ·simp[Instr.findNow,Instr.sameNow,mE,beq_eq_false_iff_ne.2 h4,beq_eq_false_iff_ne.2 h5,beq_eq_false_iff_ne.2 h6,beq_eq_false_iff_ne.2 h7]
   ·simp[lkV,rlv,h4,h5,h6,h7]
   ·simp[rlh,h4,h5,h6,h7]
 obtain⟨r,hr,hv,hh⟩:=hf
 have i5:=rlI_ hT hK hz b6 hr
 rw[hv,hh] at i5
 have old:∀ k,k≤w.heap.size→W6.heap[k]?=W1.heap[k]?:=fun k hk=>by
  have hne:k≠w.heap.size+1:=by omega
  rw[← f6,← f5,← f4,← f3,← f2]
  simp[sbH,alH,Array.getElem?_setIfInBounds,Array.getElem?_push,Ne.symm hne,show k≠W1.heap.size by omega]
 have hc:W6.cell? ⟨w.heap.size,0,none⟩=some (.int .i64 op):=by
  have:W6.heap[w.heap.size]?=some (.cells #[.int .i64 op,.string s1,.slice a1 n1 c1,.string s2,.slice a2 n2 c2] 41):=by
   rw[old _ (Nat.le_refl _),← e0]; simp[alH]
  simp[World.cell?,this]
 refine(rw_1 op (rlv op) (rlh op) left s1 s2 a1 a2 n1 c1 n2 c2 (w.heap.size+1) w W1 W2 W3 W4 W5 W6 e0 (by rw[run_makeMap,z1,f2]) i1 i2 i3 i4 i5 hc).mono ?_
 rintro e w' ⟨rfl,rfl⟩
 have hw:RowKit.wrap64 (rlv op+1)=rlv op+1:=by
  unfold RowKit.wrap64 rlv
  split<;>(try split)<;>(try split)<;>(try split)<;>rfl
 rw[hw]
 refine⟨rfl,?_,?_,?_,?_,fun k hk _=>?_,fun _=>?_⟩
 ·rw[← f6,← f5,← f4,← f3,← f2,← e0]; rfl
 ·rw[← f6,← f5,← f4,← f3,← f2,← e0]; rfl
 ·rw[← f6,← f5,← f4,← f3,← f2,← e0]; rfl
 ·have:=(Array.getElem?_eq_some_iff.1 b6).1; omega
 ·rw[old k (by omega),← e0]; simp[alH,Array.getElem?_push,show k≠w.heap.size by omega]
 ·rw[← f6,← f5,← f4,← f3,← f2,← e0]; exact Nat.le_refl _
theorem irF_5{a0:Ft}{a1:Bool}{r:Int}(h:irF_2 a0 a1=some r):Sat ah 72 [Ft.pv false a0,B a1] (I r):=by
 refine⟨⟨_,Tryz.func72,by rfl,by rfl⟩,fun w N vs Fs hN hFn hFl hvs=>?_⟩
 simp only[Ft.pv_u,Tt.pv_u,RepVs,RepV,RepCs,RepC,I,Sx,B,Ik] at hvs
 obtain⟨v,vs',F1,F2,rfl,rfl,⟨cs,rfl,c1,r1,G1,H1,rfl,rfl,⟨rfl,_,rfl⟩,c2,r2,G2,H2,rfl,rfl,⟨t1,t2,K1,L1,rfl,rfl,⟨rfl,_,rfl⟩,t3,t4,K2,L2,rfl,rfl,⟨a1',cap1,rfl,rfl,_⟩,rfl,rfl⟩,c3,r3,G3,H3,rfl,rfl,⟨rfl,_,rfl⟩,c4,r4,G4,H4,rfl,rfl,⟨a2',cap2,rfl,rfl,_⟩,rfl,rfl⟩,v2,vs2,F3,F4,rfl,rfl,⟨e,_,rfl⟩,rfl,rfl⟩:=hvs
 cases e
 refine(rc_ a0.Op a1 a0.Atom.Name a0.Var a1' a2' _ cap1 _ cap2 w).mono ?_
 rintro e w' ⟨rfl,hk⟩
 unfold irF_2 at h
 have h:=Option.some.inj h
 have hr:(if rlh a0.Op&&!a1 then rlv a0.Op+1 else rlv a0.Op)=r:=by
  rw[← h]
  unfold rlh rlv
  by_cases h4:a0.Op=4
  ·rw[h4]; cases a1<;>rfl
  by_cases h5:a0.Op=5
  ·rw[h5]; cases a1<;>rfl
  by_cases h6:a0.Op=6
  ·rw[h6]; cases a1<;>rfl
  by_cases h7:a0.Op=7
  ·rw[h7]; cases a1<;>rfl
  ·rw[if_neg (show ¬ (4≤a0.Op∧a0.Op≤7) by omega)]
   simp[h4,h5,h6,h7]
 exact⟨_,[],rfl,hk,by rw[hr]; exact⟨rfl,rfl,rfl⟩,List.nodup_nil,by simp⟩
end Go.Proofs.YtafdgbndcflghaaGreat
