/- Lemmas of the proof; each says what it shows. -/
import Derived.Test.YtfchaodlnddkpaaGreatAvZ
import Derived.Test.YtfchaodlnddkpaaGreatGty
import Derived.Test.YtfchaodlnddkpaaGreatChecked
import Derived.KernelRfl
import Derived.RangeFuncBound
import Derived.RangeFuncNested
import Derived.Shelf.Abstract
import Derived.Shelf.RegionOpen
import Derived.WalkKit
import Derived.OwnWalkIn
import Derived.TacticsInMore
import Derived.LoopNIn
import Derived.LoopIn
set_option linter.unusedSimpArgs false
set_option linter.unusedVariables false
set_option linter.defProp false
namespace Go.Av
section
theorem RowAt.monoC{w w':World}{a:Addr}{cs:List Value}(hw:∀ o:Obj,w.heap[a.block]?=some o→o.isCells=true→w'.heap[a.block]?=w.heap[a.block]?)(h:RowAt w a cs):RowAt w' a cs:=by
 intro j u hu
 have h1:=h j u hu
 obtain⟨o,ho,hc⟩:=cells_of_cell h1
 rw[World.cell?_of_block (w:=w) (w':=w') (a:=⟨a.block,a.off+j,none⟩) (hw o ho hc)]
 exact h1
mutual
def PV.noMp:PV→Bool
 | .lit _=>true
 | .agg fs=>PV.noMps fs
 | .sl _ _ es=>PV.noMps es
 | .clo _ cs=>PV.noMps cs
 | .ptr v=>v.noMp
 | .tup _=>true
 | .mpv _ _ _=>false
def PV.noMps:List PV→Bool
 | []=>true
 | p::ps=>p.noMp&&PV.noMps ps
end
theorem noMps_map{α:Type}{f:α→PV}:∀ {l:List α},(∀ a∈l,(f a).noMp=true)→PV.noMps (l.map f)=true
 | [],_=>rfl
 | a::l,h=>by simp only[List.map_cons,PV.noMps,h a (by simp),noMps_map (fun b hb=>h b (List.mem_cons_of_mem _ hb)),Bool.and_true]
mutual
theorem RepC.frameC{N N':Nat→Prop}{w w':World}(hN:∀ b,N b→N' b)(hw:∀ b (o:Obj),N b→w.heap[b]?=some o→o.isCells=true→w'.heap[b]?=w.heap[b]?):
 ∀ (p:PV) (cs:List Value),p.noMp=true→RepC N w p cs []→RepC N' w' p cs []
 | .lit v,cs,_,h=>by simpa only[RepC] using h
 | .agg fs,cs,hp,h=>by simp only[RepC] at h ⊢; exact RepCs.frameC hN hw fs cs hp h
 | .sl false sz es,cs,hp,h=>by
  simp only[RepC] at h ⊢
  obtain⟨a,cap,h1,h2,h3,h4,h5,h6⟩:=h
  refine⟨a,cap,h1,h2,h3,h4,h5,?_⟩
  rcases h6 with h6 | ⟨ad,ccs,g1,g2,g3,g4,g5⟩
  ·exact .inl h6
  ·exact .inr ⟨ad,ccs,g1,g2,hN _ g3,g4.monoC (fun o=>hw _ o g3),RepCs.frameC hN hw es ccs hp g5⟩
 | .sl true sz es,cs,hp,h=>by
  simp only[RepC] at h ⊢
  rcases h with h | ⟨b,cap,c,e,F',ccs,h1,h2,h3,h4,h5,h6,h7,h8,h9⟩
  ·exact .inl h
  ·cases h9
 | .clo f caps,cs,hp,h=>by
  simp only[RepC] at h ⊢
  obtain⟨vals,h1,h2,h3,h4⟩:=h
  exact⟨vals,h1,h2,RepCs.frameC hN hw caps vals hp h3,h4⟩
 | .ptr v,cs,hp,h=>by
  simp only[RepC] at h ⊢
  obtain⟨ad,ccs,h1,h2,h3,h4,h5,h6⟩:=h
  exact⟨ad,ccs,h1,h2,h3,hN _ h4,h5.monoC (fun o=>hw _ o h4),RepC.frameC hN hw v ccs hp h6⟩
 | .tup _,cs,_,h=>by simp only[RepC] at h
 | .mpv _ _ _,cs,hp,h=>by cases hp
theorem RepCs.frameC{N N':Nat→Prop}{w w':World}(hN:∀ b,N b→N' b)(hw:∀ b (o:Obj),N b→w.heap[b]?=some o→o.isCells=true→w'.heap[b]?=w.heap[b]?):
 ∀ (ps:List PV) (cs:List Value),PV.noMps ps=true→RepCs N w ps cs []→RepCs N' w' ps cs []
 | [],cs,_,h=>by simpa only[RepCs] using h
 | p::ps,cs,hp,h=>by
  simp only[PV.noMps,Bool.and_eq_true] at hp
  simp only[RepCs] at h ⊢
  obtain⟨c1,c2,F1,F2,h1,h2,h3,h4⟩:=h
  obtain⟨rfl,rfl⟩:F1=[]∧F2=[]:=List.append_eq_nil_iff.1 h2.symm
  exact⟨c1,c2,[],[],h1,rfl,RepC.frameC hN hw p c1 hp.1 h3,RepCs.frameC hN hw ps c2 hp.2 h4⟩
end
end
end Go.Av
namespace Go.Proofs.YtfchaodlnddkpaaGreat
open Go.Shelf Go.RowKit Go.Av
open Ft renaming pv→ao
open List renaming length_cons→aG,length_nil→a6,nil_append→bA
open Nat renaming le_refl→aM
open Tryz renaming prog→ag
section
attribute [local go_sem] Oper.semAt_some
set_option maxHeartbeats 1000000 in
set_option maxRecDepth 100000 in
theorem back_in(F:Fence)(n:Nat)(h5:F.fn 97)(hro:F.round=none)(a:Option Addr)(len cap:Nat)(w:World):
 CallsIn F n ag 97 #[.slice a len cap] w fun e w'=>e=.returned (.func (.func 136) #[] #[.pointer (some ⟨w.heap.size,0,none⟩)])∧w'=w.alloc (.cells #[.slice a len cap] 37):=by
 refine callsIn_of_wp Tryz.func97 rfl h5 ?_ hro
 simp only[Tryz.ntmps97,List.size_toArray,aG,a6,Nat.reduceAdd,Nat.reduceSub,Array.replicate_succ,Array.replicate_zero,List.push_toArray,List.append_toArray,bA,List.cons_append]
 gi_wp2
 go_ret
 exact⟨rfl,rfl⟩
set_option maxRecDepth 100000 in
set_option maxHeartbeats 2000000 in
theorem back1_in(F:Fence)(n:Nat)(h7:F.fn 136)(hro:F.round=none)(hn:1≤n)(l Bs b off len cap:Nat)(cs:Nat→Nat→Value)(hlen:len≤9223372036854775806)(J Jx:Nat→World→Prop)
 (hY:∀ k W,J k W→k<len→YieldAt F (n-1) ag l #[.int .i64 ((len:Int)-1-k),.agg #[cs (len-1-k) 0,cs (len-1-k) 1,cs (len-1-k) 2,cs (len-1-k) 3,cs (len-1-k) 4]] W fun e W'=>(e=.returned (.bool true)∧J (k+1) W')∨(e=.returned (.bool false)∧Jx (k+1) W'))
 (hB:∀ k W,J k W→W.cell? ⟨Bs,0,none⟩=some (.slice (some ⟨b,off,none⟩) len cap)∧∀ j,j<len→∀ i,i<5→W.cell? ⟨b,off+j*5+i,none⟩=some (cs j i))
 (W:World) (h0:J 0 W):
 CallsIn F n ag 136 #[.func (.yield l) #[] #[],.pointer (some ⟨Bs,0,none⟩)] W fun e W'=>(∃ v,e=.returned v)∧(J len W'∨∃ k,Jx k W'):=by
 refine callsIn_of_wp Tryz.func136 rfl h7 ?_ hro
 simp only[Tryz.ntmps136,List.size_toArray,aG,a6,Nat.reduceAdd,Nat.reduceSub,Array.replicate_succ,Array.replicate_zero,List.push_toArray,List.append_toArray,bA,List.cons_append]
 have hB0:=(hB 0 W h0).1
 gi_wp2
 gi_loopw [3] (fun i wr=>∃ k:Nat,k≤len∧i=.int .i64 ((len:Int)-1-k)∧J k wr)
  (fun i _=>(intOf i+1).toNat)
 case atStart=>exact⟨0,Nat.zero_le _,by simp,h0⟩
 case round=>
  obtain⟨k,hk,rfl,hJs⟩:=hrel
  obtain⟨hBx,hE⟩:=hB k wr hJs
  by_cases hlt:k<len
  ·obtain⟨fn,tmps,assign,body,hy,hR⟩:=hY _ wr hJs hlt
   have hx0:wr.cell? ⟨b,off+(len-1-k)*5,none⟩=some (cs (len-1-k) 0):=hE (len-1-k) (by omega) 0 (by omega)
   have hx1:=hE (len-1-k) (by omega) 1 (by omega)
   have hx2:=hE (len-1-k) (by omega) 2 (by omega)
   have hx3:=hE (len-1-k) (by omega) 3 (by omega)
   have hx4:=hE (len-1-k) (by omega) 4 (by omega)
   gi_wp2
   refine hR.mono ?_
   rintro e W3 (⟨rfl,hJ3⟩ | ⟨rfl,hJ3⟩)
   ·gi_wp2
    go_roundw
    case rel=>exact⟨k+1,by omega,by congr 1; omega,hJ3⟩
    case measure=>simp[intOf]; omega
   ·gi_wp2
    refine bodyPost_ret (results_none rfl _ _ _) rfl ?_
    exact⟨⟨_,rfl⟩,.inr ⟨_,hJ3⟩⟩
  ·obtain rfl:k=len:=by omega
   gi_wp2
   go_end0
   exact⟨⟨_,rfl⟩,.inl hJs⟩
/-- The places, from the last one on. -/
def downs(len:Nat)(k:Nat)(hk:k≤len):List { j:Nat // j<len }:=match k,hk with
 | 0,_=>[]
 | k+1,hk=>downs len k (by omega)++[⟨len-1-k,by omega⟩]
theorem downs_length(len:Nat):∀ (k:Nat) (hk:k≤len),(downs len k hk).length=k
 | 0,_=>rfl
 | k+1,hk=>by simp[downs,downs_length len k]
def Fct(Bs b off len cap:Nat)(cs:Nat→Nat→Value)(W:World):Prop:=
 W.cell? ⟨Bs,0,none⟩=some (.slice (some ⟨b,off,none⟩) len cap)∧∀ j,j<len→∀ i,i<5→W.cell? ⟨b,off+j*5+i,none⟩=some (cs j i)
/-- A loop over the places from the last one on: the record of the loop and the block of its deferred calls lie above what the invariant speaks of. -/
theorem rf_down(F:Fence)(n:Nat)(hn:2≤n)(h7:F.fn 136)(hro:F.round=none)(eg:∀ args w,(callFunc 136 args).run ag w=.ok (.enter 136 args) w){g:Operand}{ps:Array Tmp}{assign body:Code}{Q:Exit→Act→World→Prop}{a:Act}{w:World}{Bs b off len cap:Nat}{cs:Nat→Nat→Value}(hlen:len≤9223372036854775806)
 (hg:a.eval g=.func (.func 136) #[] #[.pointer (some ⟨Bs,0,none⟩)]) (hps:ps.size=2) (I:Nat→World→Prop)
 (hI:∀ k W l o o',I k W→w.heap.size≤l→W.heap[l]?=some o→o.isCells=false→I k (W.putObj l o')) (hB:∀ k W,I k W→Fct Bs b off len cap cs W) (h0:∀ r,I 0 ((w.alloc (.deferred (some []))).alloc (.loop r)))
 (A:Nat→Act→World→Prop) (hA:∀ k a' W l o o',A k a' W→w.heap.size≤l→W.heap[l]?=some o→o.isCells=false→A k a' (W.putObj l o'))
 (hassign:∀ (l k:Nat) (W:World) (K:Act→World→Prop),I k W→k<len→(∀ a' W',KeepsFrom w.heap.size W W'→I k W'→A k a' W'→K a' W')→
  assign.wpIn (F.inRound l) (n-1-1) ag (Exit.then K (fun _ _ _=>False)) { tmps:=(ps.zip #[.int .i64 ((len:Int)-1-k),.agg #[cs (len-1-k) 0,cs (len-1-k) 1,cs (len-1-k) 2,cs (len-1-k) 3,cs (len-1-k) 4]]).foldl (fun t (p,v)=>t.setIfInBounds p v) a.tmps,defers:=[] } W)
 (hbody:∀ (l k:Nat) (a':Act) (W:World),w.heap.size≤l→I k W→A k a' W→k<len→body.wpIn (F.inRound l) (n-1-1) ag (fun e _ W'=>e=.normal∧KeepsFrom w.heap.size W W'∧I (k+1) W') a' W)
 (hdone:∀ (D:Nat) (W:World),w.heap.size≤D→I len W→W.heap[D]?=some (.deferred (some []))→Q .normal { a with defers:={ target:=.collected D,args:=#[] }::a.defers } W):
 (Code.rangeFunc g ps assign body).wpIn F n ag Q a w:=by
 refine wpIn_rangeFunc fun fn hfn=>?_
 rw[hro]
 obtain⟨R,hR⟩:∃ R:LoopState→Loop,R=fun st=>{ state:=st,pending:=none,fn,tmps:=a.tmps,params:=ps,assign,body,defers:=w.heap.size }:=⟨_,rfl⟩
 obtain⟨V,hV⟩:∃ V,(w.alloc (.deferred (some []))).alloc (.loop (R .ready))=V:=⟨_,rfl⟩
 have v1:V.heap[w.heap.size+1]?=some (.loop (R .ready)):=by
  have:=World.alloc_heap_new (w.alloc (.deferred (some []))) (.loop (R .ready))
  rw[World.size_alloc,hV] at this; exact this
 have v2:V.heap[w.heap.size]?=some (.deferred (some [])):=by
  rw[← hV]; exact(Below.heap_alloc _ _ _ (by simp)).trans (World.alloc_heap_new w _)
 have v3:I 0 V:=by rw[← hV]; exact h0 _
 have en:=run_enterLoop_outer (P:=ag) (w:=w) fn a.tmps ps assign body
 refine⟨w.heap.size+1,[{ target:=.collected w.heap.size,args:=#[] }],V,{ target:=.fn (.func 136) #[.pointer (some ⟨Bs,0,none⟩)],args:=#[.func (.yield (w.heap.size+1)) #[] #[]] },V,136,
  #[.func (.yield (w.heap.size+1)) #[] #[],.pointer (some ⟨Bs,0,none⟩)],V,?_,?_,?_,?_,fun _=>by omega,?_⟩
 ·rw[← hV,hR]; exact en
 ·simp only[resolve,hg]
  simp[go_sem]
 ·intro f hf
  simp[Target.leads] at hf; subst hf; exact h7
 ·simp[invoke,go_sem,eg]
 refine(back1_in F (n-1) h7 hro (by omega) (w.heap.size+1) Bs b off len cap cs hlen (fun k W=>I k W∧W.heap[w.heap.size+1]?=some (.loop (R .ready))∧W.heap[w.heap.size]?=some (.deferred (some []))) (fun _ _=>False) ?_ (fun k W h=>hB k W h.1) V ⟨v3,v1,v2⟩).mono ?_
 ·rintro k W ⟨i1,i2,i3⟩ hk
  have y:=run_yield (P:=ag) (args:=#[.int .i64 ((len:Int)-1-k),.agg #[cs (len-1-k) 0,cs (len-1-k) 1,cs (len-1-k) 2,cs (len-1-k) 3,cs (len-1-k) 4]]) i2 (by rw[hR]; exact hps.symm)
  rw[hR] at y
  refine⟨fn,_,assign,body,y,roundIn_of_wpIn hfn (hassign _ k W _ i1 hk ?_)⟩
  intro a' U u1 u2 u3
  have j2:=u1.same _ _ (by omega) i2 rfl
  have j3:=u1.same _ _ (aM _) i3 rfl
  have lt:w.heap.size+1<U.heap.size:=(Array.getElem?_eq_some_iff.1 j2).1
  refine⟨_,run_beginRound j2 (by rw[hR]),?_⟩
  have b2:(U.putObj (w.heap.size+1) (.loop { R .ready with state:=.busy })).heap[w.heap.size+1]?=some (.loop { R .ready with state:=.busy }):=World.putObj_heap_same lt
  have b3:(U.putObj (w.heap.size+1) (.loop { R .ready with state:=.busy })).heap[w.heap.size]?=some (.deferred (some [])):=(World.putObj_heap_other (by omega)).trans j3
  refine wpIn_mono (hbody _ k a' _ (by omega) (hI _ _ _ _ _ u2 (by omega) j2 rfl) (hA _ _ _ _ _ _ u3 (by omega) j2 rfl) hk) ?_
  rintro e a3 X ⟨rfl,x1,x2⟩
  have c2:=x1.same _ _ (by omega) b2 rfl
  have c3:=x1.same _ _ (aM _) b3 rfl
  have r:=run_endRound (P:=ag) none c2
  have clt:w.heap.size+1<X.heap.size:=(Array.getElem?_eq_some_iff.1 c2).1
  rw[hR] at r c2 ⊢
  refine⟨_,_,r,.inl ⟨rfl,hI _ _ _ _ _ x2 (by omega) c2 rfl,?_,(World.putObj_heap_other (by omega)).trans c3⟩⟩
  exact World.putObj_heap_same clt
 ·rintro e X ⟨⟨v,rfl⟩,(⟨i1,i2,i3⟩ | ⟨k,h⟩)⟩
  ·have r:=run_endLoop (P:=ag) i2 (by rw[hR]; simp)
   rw[hR] at r i2
   exact⟨none,_,r,hdone _ _ (aM _) (hI _ _ _ _ _ i1 (by omega) i2 rfl) ((World.putObj_heap_other (by omega)).trans i3)⟩
  ·exact h.elim
theorem F_size(x:Ft):PV.size (ao false x)=5:=by
 rw[Ft.pv_u]
 simp only[PV.size,PV.sizes]
 rw[Tt.pv_u]; rfl
theorem cell_alloc_l{W:World}{a:Addr}{v:Value}(o:Obj)(h:W.cell? a=some v):(W.alloc o).cell? a=some v:=cell_kept h (World.grownBy_alloc W o none) (fun r e=>by cases e)
theorem cell_new_l'(W:World)(v:Value)(t:TypeId):(W.alloc (.cells #[v] t)).cell? ⟨W.heap.size,0,none⟩=some v:=by
 have:=World.alloc_heap_new W (.cells #[v] t)
 unfold World.cell?
 rw[this]; rfl
/-- A formula's cells. -/
def FC(x:Ft)(q:(Option Addr×Nat)×(Option Addr×Nat)):List Value:=[.int .i64 x.Op,.string x.Atom.Name,.slice q.1.1 x.Atom.Args.length q.1.2,.string x.Var,.slice q.2.1 x.Parts.length q.2.2]
theorem F_cells{N:Nat→Prop}{w:World}{x:Ft}{cs:List Value}{F:List Nat}(h:RepC N w (ao false x) cs F):∃ q,cs=FC x q:=by
 rw[Ft.pv_u,Tt.pv_u] at h
 simp only[RepC,RepCs] at h
 obtain⟨c1,c2,F1,F2,rfl,_,⟨rfl,_⟩,c3,c4,F3,F4,rfl,_,⟨d1,d2,G1,G2,rfl,_,⟨rfl,_⟩,d3,d4,G3,G4,rfl,_,⟨a1,cap1,rfl,_⟩,rfl,_⟩,c5,c6,F5,F6,rfl,_,⟨rfl,_⟩,c7,c8,F7,F8,rfl,_,⟨a2,cap2,rfl,_⟩,rfl,_⟩:=h
 exact⟨((a1,cap1),(a2,cap2)),by simp[FC]⟩
theorem F_val{N:Nat→Prop}{w:World}{x:Ft}{v:Value}{F:List Nat}(h:RepV N w (ao false x) v F):∃ q,v=.agg (FC x q).toArray∧RepC N w (ao false x) (FC x q) F:=by
 have h':=h
 rw[Ft.pv_u] at h'
 obtain⟨cs,rfl,h1⟩:=h'
 have h2:RepC N w (ao false x) cs F:=by rw[Ft.pv_u]; simpa only[RepC] using h1
 obtain⟨q,rfl⟩:=F_cells h2
 exact⟨q,rfl,h2⟩
theorem F_repV{N:Nat→Prop}{w:World}{x:Ft}{cs:List Value}{F:List Nat}(h:RepC N w (ao false x) cs F):RepV N w (ao false x) (.agg cs.toArray) F:=by
 rw[Ft.pv_u] at h ⊢
 exact⟨cs,rfl,by simpa only[RepC] using h⟩
theorem five_cells{W:World}{B:Nat}{e:TypeId}{a0 a1 a2 a3 a4:Value}(h:W.heap[B]?=some (.cells #[a0,a1,a2,a3,a4] e (0,0))):
 (W.cell? ⟨B,0,none⟩=some a0∧W.cell? ⟨B,1,none⟩=some a1∧W.cell? ⟨B,2,none⟩=some a2∧W.cell? ⟨B,3,none⟩=some a3∧W.cell? ⟨B,4,none⟩=some a4)∧
 (W.frozen? ⟨B,0,none⟩=false∧W.frozen? ⟨B,1,none⟩=false∧W.frozen? ⟨B,2,none⟩=false∧W.frozen? ⟨B,3,none⟩=false∧W.frozen? ⟨B,4,none⟩=false):=by
 simp[World.cell?,World.frozen?,h]
theorem five_set{W:World}{B:Nat}{e:TypeId}{a0 a1 a2 a3 a4:Value}(b0 b1 b2 b3 b4:Value)(h:W.heap[B]?=some (.cells #[a0,a1,a2,a3,a4] e (0,0))):
 (((((W.setCell ⟨B,0,none⟩ b0).setCell ⟨B,1,none⟩ b1).setCell ⟨B,2,none⟩ b2).setCell ⟨B,3,none⟩ b3).setCell ⟨B,4,none⟩ b4).heap[B]?=some (.cells #[b0,b1,b2,b3,b4] e (0,0)):=by
 simp[World.setCell,Array.getElem?_modify,h]
theorem gb_one(W:World)(B i:Nat)(u:Value):W.grownBy (W.setCell ⟨B,i,none⟩ u) (some B):=
 ⟨rfl,rfl,rfl,by simp[World.setCell],fun k _ hne=>Below.heap_setCell W ⟨B,i,none⟩ u k (fun h=>hne (by rw[h]))⟩
theorem gb_trans{A B C:World}{r:Option Nat}(h:A.grownBy B r)(k:B.grownBy C r):A.grownBy C r:=
 ⟨k.os.trans h.os,k.tape.trans h.tape,k.output.trans h.output,Nat.le_trans h.size k.size,fun i hi hr=>(k.block i (Nat.lt_of_lt_of_le hi h.size) hr).trans (h.block i hi hr)⟩
theorem five_other(W:World)(B:Nat)(b0 b1 b2 b3 b4:Value):W.grownBy (((((W.setCell ⟨B,0,none⟩ b0).setCell ⟨B,1,none⟩ b1).setCell ⟨B,2,none⟩ b2).setCell ⟨B,3,none⟩ b3).setCell ⟨B,4,none⟩ b4) (some B):=
 gb_trans (gb_trans (gb_trans (gb_trans (gb_one _ _ _ _) (gb_one _ _ _ _)) (gb_one _ _ _ _)) (gb_one _ _ _ _)) (gb_one _ _ _ _)
theorem T_noMp(t:Tt):(Tt.pv false t).noMp=true:=
 Tt.ind' (M:=fun t=>(Tt.pv false t).noMp=true) (fun t ih=>by rw[Tt.pv_u]; simp only[PV.noMp,PV.noMps,Sx,noMps_map ih,Bool.and_true]) t
theorem F_noMp(t:Ft):(ao false t).noMp=true:=
 Ft.ind' (M:=fun t=>(ao false t).noMp=true) (fun t ih=>by rw[Ft.pv_u]; simp only[PV.noMp,PV.noMps,Sx,I,T_noMp,noMps_map ih,Bool.and_true]) t
theorem F_repR{N:Nat→Prop}{w:World}{x:Ft}{v:Value}{F:List Nat}(h:RepR N w (ao false x) v F):RepV N w (ao false x) v F:=by
 rw[Ft.pv_u] at h ⊢; exact h
mutual
theorem T_noOwn:∀ t:Tt,(Tt.pv false t).noOwn=true:=fun t=>by rw[Tt.pv_u]; rfl
theorem F_noOwn:∀ t:Ft,(ao false t).noOwn=true:=fun t=>by rw[Ft.pv_u]; simp[PV.noOwn,PV.noOwns,T_noOwn]
end
theorem F_noF{N:Nat→Prop}{w:World}{x:Ft}{cs:List Value}{F:List Nat}(h:RepC N w (ao false x) cs F):F=[]:=RepC.noOwn _ _ _ (F_noOwn x) h
def foldF(bin:Ft→Ft→Ft)(xs:List Ft)(len:Nat)(pre:List { j:Nat // j<len }):Ft:=pre.foldl (fun o j=>bin (xs.getD j.1 default) o) (xs.getD len default)
def NC(w:World)(N:Nat→Prop)(W:World)(b:Nat):Prop:=N b∨(w.heap.size+5≤b∧b<W.heap.size)
/-- Between two rounds. -/
def CI(bin:Ft→Ft→Ft)(xs:List Ft)(len:Nat)(op:Int)(w:World)(N:Nat→Prop)(pre:List { j:Nat // j<len })(W:World):Prop:=
 (∃ q,W.heap[w.heap.size+1+1+1]?=some (.cells (FC (foldF bin xs len pre) q).toArray 39 (0,0))∧RepC (NC w N W) W (ao false (foldF bin xs len pre)) (FC (foldF bin xs len pre) q) [])∧
 W.heap[w.heap.size]?=some (.cells #[Value.int IntKind.i64 op] 3 (0,0))∧W.heap[w.heap.size+1+1]?=some (.cells #[Value.int IntKind.i64 0,Value.string { data:=#[] },Value.slice none 0 0,Value.string { data:=#[] },Value.slice none 0 0] 39 (0,0))∧
 KeepX [] w.heap.size w W∧w.heap.size+5≤W.heap.size
theorem keepX_grown{w W W':World}{row:Option Nat}(h:KeepX [] w.heap.size w W)(hg:W.grownBy W' row)(hd:W.drawn≤W'.drawn)(hr:∀ r,row=some r→w.heap.size≤r):KeepX [] w.heap.size w W':=
 h.trans ⟨hg.os,hg.tape,hg.output,hg.size,fun k hk _=>hg.block k (Nat.lt_of_lt_of_le hk h.size) (fun e=>by have:=hr k e.symm; omega),fun _=>hd⟩
theorem CI_own{bin:Ft→Ft→Ft}{xs:List Ft}{len:Nat}{op:Int}{w:World}{N:Nat→Prop}{B:Nat}(hB:w.heap.size+5≤B)  {pre:List { j:Nat // j<len }}{W W':World}{row:Option Nat}(h:CI bin xs len op w N pre W)(hg:W.grownBy W' row)(hd:W.drawn≤W'.drawn)(hr:∀ r,row=some r→B≤r∧∃ o:Obj,W.heap[r]?=some o∧o.isCells=false):CI bin xs len op w N pre W':=by
 obtain⟨⟨q,h1,h2⟩,h3,h4,h5,h6⟩:=h
 have hc:∀ {k:Nat} {o:Obj},W.heap[k]?=some o→o.isCells=true→W'.heap[k]?=W.heap[k]?:=fun hk ho=>grownBy_keeps_cells hg (fun r e=>(hr r e).2) hk ho
 refine⟨⟨q,(hc h1 rfl).trans h1,RepC.frameC ?_ ?_ _ _ (F_noMp _) h2⟩,(hc h3 rfl).trans h3,(hc h4 rfl).trans h4,keepX_grown h5 hg hd (fun r e=>by have:=(hr r e).1; omega),Nat.le_trans h6 hg.size⟩
 ·rintro b (hb | hb)
  ·exact .inl hb
  ·exact .inr ⟨hb.1,Nat.lt_of_lt_of_le hb.2 hg.size⟩
 ·intro b o _ ho hc'
  exact hc ho hc'
set_option maxRecDepth 100000 in
set_option maxHeartbeats 4000000 in
theorem comb_in(bin:Ft→Ft→Ft)(op:Int)(hbin:∀ f o,Sat ag 98 [I op,ao false f,ao false o] (ao false (bin f o)))(xs:List Ft)(len:Nat)(hlen:xs.length=len+1)
 (w:World) (N:Nat→Prop) (hN:∀ b,N b→b<w.heap.size) (b off cap:Nat) (ccs:List Value) (hcap:len+1≤cap) (hmax:cap≤maxLen) (hNb:N b) (hra:RowAt w ⟨b,off,none⟩ ccs) (hrs:RepCs N w (xs.map (ao false)) ccs []) (nn:Ft) (qn:(Option Addr×Nat)×(Option Addr×Nat)):
 Calls ag 58 #[.int .i64 op,.slice (some ⟨b,off,none⟩) (len+1) cap,.agg (FC nn qn).toArray] w fun e w'=>∃ v,e=.returned v∧KeepX [] w.heap.size w w'∧
  RepV (fun b=>N b∨(w.heap.size≤b∧b<w'.heap.size)) w' (ao false (foldF bin xs len (downs len len (aM _)))) v []:=by
 have hmx:maxLen=9223372036854775807:=rfl
 have hcl:ccs.length=(len+1)*5:=by
  have:=RepCs.length _ _ _ hrs
  rw[this]
  have key:∀ l:List Ft,PV.sizes (l.map (ao false))=l.length*5:=by
   intro l
   induction l with
   | nil=>rfl
   | cons x l ih=>simp only[List.map_cons,PV.sizes,ih,F_size,aG]; omega
  rw[key,hlen]
 -- every element's cells
 have hq0:∀ j,∃ q:(Option Addr×Nat)×(Option Addr×Nat),j<len+1→RepC N w (ao false (xs.getD j default)) (FC (xs.getD j default) q) []∧∀ i v,(FC (xs.getD j default) q)[i]?=some v→w.cell? ⟨b,off+j*5+i,none⟩=some v:=by
  intro j
  by_cases hj:j<len+1
  ·obtain⟨c1,c2,c3,F1,F2,F3,e1,e2,e3,e4,_⟩:=RepCs.at' (xs.map (ao false)) j ccs [] (by rw[List.length_map]; omega) hrs
   obtain⟨rfl,rfl,rfl⟩:F1=[]∧F2=[]∧F3=[]:=by simpa using e2.symm
   have hg:(xs.map (ao false)).getD j default=ao false (xs.getD j default):=by
    simp[List.getD,show j<xs.length by omega]
   rw[hg] at e4
   obtain⟨q,rfl⟩:=F_cells e4
   refine⟨q,fun _=>⟨e4,fun i v hv=>?_⟩⟩
   have hi:i<5:=(List.getElem?_eq_some_iff.1 hv).1
   have hc1:c1.length=j*5:=by
    rw[e3,← List.map_take]
    have key:∀ l:List Ft,PV.sizes (l.map (ao false))=l.length*5:=by
     intro l
     induction l with
     | nil=>rfl
     | cons x l ih=>simp only[List.map_cons,PV.sizes,ih,F_size,aG]; omega
    rw[key,List.length_take]; omega
   have:=hra (j*5+i) v (by rw[e1,List.append_assoc,List.getElem?_append_right (by omega),hc1,Nat.add_sub_cancel_left,List.getElem?_append_left (by simpa[FC] using hi)]; exact hv)
   rw[← Nat.add_assoc] at this
   exact this
  ·exact⟨default,fun h=>absurd h hj⟩
 obtain⟨q,hq⟩:=Classical.axiomOfChoice hq0
 have hbw:=hN b hNb
 have up:∀ (o1 o2 o3:Obj) i v,(FC (xs.getD len default) (q len))[i]?=some v→(((w.alloc o1).alloc o2).alloc o3).cell? ⟨b,off+len*5+i,none⟩=some v:=fun o1 o2 o3 i v hv=>cell_alloc_l _ (cell_alloc_l _ (cell_alloc_l _ ((hq len (by omega)).2 i v hv)))
 obtain⟨o1,ho1⟩:∃ o1:Obj,o1=.cells #[Value.int IntKind.i64 op] 3:=⟨_,rfl⟩
 obtain⟨o2,ho2⟩:∃ o2:Obj,o2=.cells (FC nn qn).toArray 39:=⟨_,rfl⟩
 obtain⟨o3,ho3⟩:∃ o3:Obj,o3=.cells #[Value.int IntKind.i64 0,Value.string { data:=#[] },Value.slice none 0 0,Value.string { data:=#[] },Value.slice none 0 0] 39:=⟨_,rfl⟩
 have hx0:=up o1 o2 o3 0 _ rfl
 have hx1:=up o1 o2 o3 1 _ rfl
 have hx2:=up o1 o2 o3 2 _ rfl
 have hx3:=up o1 o2 o3 3 _ rfl
 have hx4:=up o1 o2 o3 4 _ rfl
 rw[Nat.add_zero] at hx0
 rw[ho1,ho2,ho3] at hx0 hx1 hx2 hx3 hx4
 clear ho1 ho2 ho3 up
 simp only[FC] at hx0 hx1 hx2 hx3 hx4 ⊢
 generalize hxl:(xs.getD len default)=xl at hx0 hx1 hx2 hx3 hx4
 refine(callsIn_wide (n:=5)).1 ?_
 refine callsIn_of_wp_marks Tryz.func58 rfl trivial ?_ rfl
 simp only[Tryz.ntmps58,List.size_toArray,aG,a6,Nat.reduceAdd,Nat.reduceSub,Array.replicate_succ,Array.replicate_zero,List.push_toArray,List.append_toArray,bA,List.cons_append]
 gi_wp2_with (refine⟨trivial,?_⟩; gi_at_call 97; refine(back_in Fence.wide _ trivial rfl _ _ _ _).mono ?_; rintro e w' ⟨rfl,rfl⟩)
 generalize hw1:(((((w.alloc (Obj.cells #[Value.int IntKind.i64 op] 3)).alloc (Obj.cells #[Value.int IntKind.i64 nn.Op,Value.string nn.Atom.Name,Value.slice qn.fst.fst nn.Atom.Args.length qn.fst.snd,Value.string nn.Var,Value.slice qn.snd.fst nn.Parts.length qn.snd.snd] 39)).alloc (Obj.cells #[Value.int IntKind.i64 0,Value.string { data:=#[] },Value.slice none 0 0,Value.string { data:=#[] },Value.slice none 0 0] 39)).alloc (Obj.cells #[Value.int IntKind.i64 xl.Op,Value.string xl.Atom.Name,Value.slice (q len).fst.fst xl.Atom.Args.length (q len).fst.snd,Value.string xl.Var,Value.slice (q len).snd.fst xl.Parts.length (q len).snd.snd] 39)).alloc (Obj.cells #[Value.slice (some { block:=b,off:=off }) len cap] 37))=w1
 have hs1:w1.heap.size=w.heap.size+5:=by rw[← hw1]; simp only[World.size_alloc]
 have hB3:w1.heap[w.heap.size]?=some (.cells #[Value.int IntKind.i64 op] 3 (0,0)):=by
  rw[← hw1,Below.heap_alloc _ _ _ (by simp only[World.size_alloc]; omega),Below.heap_alloc _ _ _ (by simp only[World.size_alloc]; omega),Below.heap_alloc _ _ _ (by simp only[World.size_alloc]; omega),Below.heap_alloc _ _ _ (by simp only[World.size_alloc]; omega),World.alloc_heap_new]
 have hB6:w1.heap[w.heap.size+1+1]?=some (.cells #[Value.int IntKind.i64 0,Value.string { data:=#[] },Value.slice none 0 0,Value.string { data:=#[] },Value.slice none 0 0] 39 (0,0)):=by
  rw[← hw1,Below.heap_alloc _ _ _ (by simp only[World.size_alloc]; omega),Below.heap_alloc _ _ _ (by simp only[World.size_alloc]; omega)]
  have:=World.alloc_heap_new ((w.alloc (Obj.cells #[Value.int IntKind.i64 op] 3)).alloc (Obj.cells #[Value.int IntKind.i64 nn.Op,Value.string nn.Atom.Name,Value.slice qn.fst.fst nn.Atom.Args.length qn.fst.snd,Value.string nn.Var,Value.slice qn.snd.fst nn.Parts.length qn.snd.snd] 39)) (Obj.cells #[Value.int IntKind.i64 0,Value.string { data:=#[] },Value.slice none 0 0,Value.string { data:=#[] },Value.slice none 0 0] 39)
  rwa [World.size_alloc,World.size_alloc] at this
 have hB7:w1.heap[w.heap.size+1+1+1]?=some (.cells #[Value.int IntKind.i64 xl.Op,Value.string xl.Atom.Name,Value.slice (q len).fst.fst xl.Atom.Args.length (q len).fst.snd,Value.string xl.Var,Value.slice (q len).snd.fst xl.Parts.length (q len).snd.snd] 39 (0,0)):=by
  rw[← hw1,Below.heap_alloc _ _ _ (by simp only[World.size_alloc]; omega)]
  have:=World.alloc_heap_new (((w.alloc (Obj.cells #[Value.int IntKind.i64 op] 3)).alloc (Obj.cells #[Value.int IntKind.i64 nn.Op,Value.string nn.Atom.Name,Value.slice qn.fst.fst nn.Atom.Args.length qn.fst.snd,Value.string nn.Var,Value.slice qn.snd.fst nn.Parts.length qn.snd.snd] 39)).alloc (Obj.cells #[Value.int IntKind.i64 0,Value.string { data:=#[] },Value.slice none 0 0,Value.string { data:=#[] },Value.slice none 0 0] 39)) (Obj.cells #[Value.int IntKind.i64 xl.Op,Value.string xl.Atom.Name,Value.slice (q len).fst.fst xl.Atom.Args.length (q len).fst.snd,Value.string xl.Var,Value.slice (q len).snd.fst xl.Parts.length (q len).snd.snd] 39)
  rwa [World.size_alloc,World.size_alloc,World.size_alloc] at this
 have hBk:w1.cell? ⟨w.heap.size+1+1+1+1,0,none⟩=some (Value.slice (some { block:=b,off:=off }) len cap):=by
  rw[← hw1]
  have:=(cell_new_l' ((((w.alloc (Obj.cells #[Value.int IntKind.i64 op] 3)).alloc (Obj.cells #[Value.int IntKind.i64 nn.Op,Value.string nn.Atom.Name,Value.slice qn.fst.fst nn.Atom.Args.length qn.fst.snd,Value.string nn.Var,Value.slice qn.snd.fst nn.Parts.length qn.snd.snd] 39)).alloc (Obj.cells #[Value.int IntKind.i64 0,Value.string { data:=#[] },Value.slice none 0 0,Value.string { data:=#[] },Value.slice none 0 0] 39)).alloc (Obj.cells #[Value.int IntKind.i64 xl.Op,Value.string xl.Atom.Name,Value.slice (q len).fst.fst xl.Atom.Args.length (q len).fst.snd,Value.string xl.Var,Value.slice (q len).snd.fst xl.Parts.length (q len).snd.snd] 39)) (Value.slice (some { block:=b,off:=off }) len cap) 37)
  rwa [World.size_alloc,World.size_alloc,World.size_alloc,World.size_alloc] at this
 have hK1:KeepX [] w.heap.size w w1:=by
  refine⟨by rw[← hw1]; rfl,by rw[← hw1]; rfl,by rw[← hw1]; rfl,by omega,fun k hk _=>?_,fun _=>by rw[← hw1]; exact aM _⟩
  rw[← hw1,Below.heap_alloc _ _ _ (by simp only[World.size_alloc]; omega),Below.heap_alloc _ _ _ (by simp only[World.size_alloc]; omega),Below.heap_alloc _ _ _ (by simp only[World.size_alloc]; omega),Below.heap_alloc _ _ _ (by simp only[World.size_alloc]; omega),Below.heap_alloc _ _ _ hk]
 clear hw1 hx0 hx1 hx2 hx3 hx4
 have hW:∀ k W,(∃ hk:k≤len,CI bin xs len op w N (downs len k hk) W∧Fct (w.heap.size+1+1+1+1) b off len cap (fun j i=>(FC (xs.getD j default) (q j)).getD i default) W)→Fct (w.heap.size+1+1+1+1) b off len cap (fun j i=>(FC (xs.getD j default) (q j)).getD i default) W:=fun k W h=>h.2.2
 have fct:∀ {W W':World},(∀ k,k<w.heap.size+5→k≠w.heap.size+1+1+1→W'.heap[k]?=W.heap[k]?)→Fct (w.heap.size+1+1+1+1) b off len cap (fun j i=>(FC (xs.getD j default) (q j)).getD i default) W→Fct (w.heap.size+1+1+1+1) b off len cap (fun j i=>(FC (xs.getD j default) (q j)).getD i default) W':=fun {W W'} h2 h=>⟨(World.cell?_of_block (w:=W) (a:=⟨w.heap.size+1+1+1+1,0,none⟩) (h2 _ (by simp only; omega) (by simp only; omega))).trans h.1,fun j hj i hi=>(World.cell?_of_block (w:=W) (a:=⟨b,off+j*5+i,none⟩) (h2 b (by omega) (by omega))).trans (h.2 j hj i hi)⟩
 have fct1:Fct (w.heap.size+1+1+1+1) b off len cap (fun j i=>(FC (xs.getD j default) (q j)).getD i default) w1:=by
  refine⟨hBk,fun j hj i hi=>?_⟩
  have h1:=(hq j (by omega)).2 i ((FC (xs.getD j default) (q j)).getD i default) (by simp only[List.getD]; rw[List.getElem?_eq_getElem (by simpa[FC] using hi)]; rfl)
  refine(World.cell?_of_block (w:=w) (a:=⟨b,off+j*5+i,none⟩) ?_).trans h1
  exact hK1.block b hbw (by simp)
 refine rf_down Fence.wide _ (by omega) trivial rfl (enters_of Tryz.func136 (by kernel_rfl) rfl) (Bs:=w.heap.size+1+1+1+1) (b:=b) (off:=off) (len:=len) (cap:=cap) (cs:=fun j i=>(FC (xs.getD j default) (q j)).getD i default) (by omega) rfl rfl
  (fun k W=>∃ hk:k≤len,CI bin xs len op w N (downs len k hk) W∧Fct (w.heap.size+1+1+1+1) b off len cap (fun j i=>(FC (xs.getD j default) (q j)).getD i default) W) ?hI hW ?h0 ?A ?hA ?assign ?body ?done
 case hI=>
  rintro k W l o o' ⟨hk,hi,hf⟩ hl ho hc
  have hg:=grownBy_putObj' W l o'
  have hlt:=(Array.getElem?_eq_some_iff.1 ho).1
  exact⟨hk,CI_own (B:=w1.heap.size) (by omega) hi hg (aM _) (fun r e=>by cases e; exact⟨hl,o,ho,hc⟩),fct (fun j hj hne=>hg.block j (by have:=hi.2.2.2.2; omega) (fun e=>by cases e; omega)) hf⟩
 case h0=>
  have hf:foldF bin xs len []=xl:=by rw[← hxl]; rfl
  have h1:=(hq len (by omega)).1
  rw[hxl] at h1
  have hc:CI bin xs len op w N [] w1:=by
   refine⟨⟨q len,by rw[hf]; exact hB7,?_⟩,hB3,hB6,hK1,by omega⟩
   rw[hf]
   exact RepC.frame (N:=N) (fun b hb=>.inl hb) (fun b hb=>hK1.block b (hN b hb) (by simp)) _ _ _ (by simp) h1
  intro r
  have g1:=World.grownBy_alloc w1 (.deferred (some [])) none
  have g2:=World.grownBy_alloc (w1.alloc (.deferred (some []))) (.loop r) none
  exact⟨Nat.zero_le _,CI_own (B:=w1.heap.size) (by omega) (CI_own (B:=w1.heap.size) (by omega) hc g1 (aM _) (fun r e=>by cases e)) g2 (aM _) (fun r e=>by cases e),fct (fun j hj _=>(Below.heap_alloc _ _ _ (by simp only[World.size_alloc]; omega)).trans (Below.heap_alloc _ _ _ (by omega))) fct1⟩
 case A=>exact fun k a' W=>∃ B9,w.heap.size+5≤B9∧W.heap[B9]?=some (.cells (FC (xs.getD (len-1-k) default) (q (len-1-k))).toArray 39 (0,0))∧a'={ tmps:=#[Value.int IntKind.i64 op,Value.slice (some { block:=b,off:=off }) (len+1) cap,
  Value.agg #[Value.int IntKind.i64 nn.Op,Value.string nn.Atom.Name,Value.slice qn.fst.fst nn.Atom.Args.length qn.fst.snd,Value.string nn.Var,Value.slice qn.snd.fst nn.Parts.length qn.snd.snd],
  Value.pointer (some { block:=w.heap.size,off:=0 }),undef,Value.pointer (some { block:=w.heap.size+1,off:=0 }),Value.pointer (some { block:=w.heap.size+1+1,off:=0 }),Value.pointer (some { block:=w.heap.size+1+1+1,off:=0 }),undef,Value.pointer (some { block:=B9,off:=0 }),
  Value.slice (some { block:=b,off:=off }) (len+1) cap,Value.int IntKind.i64 (↑len+1),Value.bool false,undef,Value.slice (some { block:=b,off:=off }) (len+1) cap,
  Value.slice (some { block:=b,off:=off }) (len+1) cap,Value.int IntKind.i64 (↑len+1),Value.int IntKind.i64 ↑len,Value.pointer (some { block:=b,off:=off+len*5 }),
  Value.agg #[Value.int IntKind.i64 xl.Op,Value.string xl.Atom.Name,Value.slice (q len).fst.fst xl.Atom.Args.length (q len).fst.snd,Value.string xl.Var,Value.slice (q len).snd.fst xl.Parts.length (q len).snd.snd],
  Value.slice (some { block:=b,off:=off }) (len+1) cap,Value.slice (some { block:=b,off:=off }) (len+1) cap,Value.int IntKind.i64 (↑len+1),Value.int IntKind.i64 ↑len,Value.slice (some { block:=b,off:=off }) len cap,
  Value.func (Fn.func 136) #[] #[Value.pointer (some { block:=w.heap.size+1+1+1+1,off:=0 })],Value.int IntKind.i64 ((len:Int)-1-k),Value.agg (FC (xs.getD (len-1-k) default) (q (len-1-k))).toArray,undef,undef,undef,undef,undef],defers:=[] }
 case hA=>
  rintro k a' W l o o' ⟨B9,h1,h2,h3⟩ hl ho hc
  exact⟨B9,h1,((grownBy_putObj' W l o').block B9 (Array.getElem?_eq_some_iff.1 h2).1 (fun e=>by cases e; rw[ho] at h2; cases h2; cases hc)).trans h2,h3⟩
 case assign=>
  intro l k W K ⟨hk,hi,hf⟩ hlt hK
  dsimp only[FC,List.getD,List.getElem?_cons_zero,List.getElem?_cons_succ,Option.getD_some]
  gi_wp2
  have hs:=hi.2.2.2.2
  exact hK _ _ (KeepsFrom.of_grownBy (World.grownBy_alloc W _ none) (fun j e=>by cases e)) ⟨hk,CI_own (B:=w1.heap.size) (by omega) hi (World.grownBy_alloc W _ none) (aM _) (fun r e=>by cases e),fct (fun j hj _=>Below.heap_alloc _ _ _ (by omega)) hf⟩ ⟨W.heap.size,hs,World.alloc_heap_new W _,rfl⟩
 case body=>
  rintro l k a' W hl ⟨hk,⟨⟨qo,hb7,hrep⟩,hb3,hb6,hkx,hsz⟩,hf⟩ ⟨B9,h91,h92,rfl⟩ hlt
  have hF:=(hq (len-1-k) (by omega)).1
  have hsat:=(hbin (xs.getD (len-1-k) default) (foldF bin xs len (downs len k hk))).2 W (NC w N W) [.int .i64 op,.agg (FC (xs.getD (len-1-k) default) (q (len-1-k))).toArray,.agg (FC (foldF bin xs len (downs len k hk)) qo).toArray] []
   (fun c hc=>hc.elim (fun hc=>⟨Nat.lt_of_lt_of_le (hN c hc) hkx.size,by simp⟩) (fun hc=>⟨hc.2,by simp⟩)) List.nodup_nil (by simp)
   (by
    simp only[RepVs]
    exact⟨_,_,[],[],rfl,rfl,by simp[RepV,RepC,Value.oneCell'],_,_,[],[],rfl,rfl,F_repV (RepC.frame (N:=N) (fun b hb=>.inl hb) (fun b hb=>hkx.block b (hN b hb) (by simp)) _ _ _ (by simp) hF),_,_,[],[],rfl,rfl,F_repV hrep,rfl,rfl⟩)
  have hfold:foldF bin xs len (downs len (k+1) hlt)=bin (xs.getD (len-1-k) default) (foldF bin xs len (downs len k hk)):=by simp only[downs,foldF,List.foldl_append,List.foldl_cons,List.foldl_nil]
  generalize foldF bin xs len (downs len k hk)=o at hb7 hrep hsat hfold
  generalize xs.getD (len-1-k) default=f at hF h92 hsat hfold
  obtain⟨⟨g0,g1,g2,g3,g4⟩,⟨f0,f1,f2,f3,f4⟩⟩:=five_cells hb7
  obtain⟨⟨k0,k1,k2,k3,k4⟩,_⟩:=five_cells h92
  have m0:W.cell? ⟨w.heap.size,0,none⟩=some (.int .i64 op):=by simp[World.cell?,hb3]
  simp only[FC] at hsat ⊢
  gi_wp2_with (refine⟨trivial,?_⟩; gi_at_call 98; refine(CallsIn.inRound l (callsIn_wide.2 hsat)).mono ?_; rintro e W3 ⟨v,F,rfl,hk3,hr3,_⟩; obtain⟨q3,rfl,hrep3⟩:=F_val (F_repR hr3); obtain rfl:=F_noF hrep3; have h73:=(hk3.block _ (by omega) (by simp)).trans hb7; obtain⟨⟨g0',g1',g2',g3',g4'⟩,⟨f0',f1',f2',f3',f4'⟩⟩:=five_cells h73; simp only[FC])
  have hg:=five_other W3 (w.heap.size+1+1+1) (Value.int IntKind.i64 (bin f o).Op) (Value.string (bin f o).Atom.Name) (Value.slice q3.fst.fst (bin f o).Atom.Args.length q3.fst.snd) (Value.string (bin f o).Var) (Value.slice q3.snd.fst (bin f o).Parts.length q3.snd.snd)
  have hs:=five_set (Value.int IntKind.i64 (bin f o).Op) (Value.string (bin f o).Atom.Name) (Value.slice q3.fst.fst (bin f o).Atom.Args.length q3.fst.snd) (Value.string (bin f o).Var) (Value.slice q3.snd.fst (bin f o).Parts.length q3.snd.snd) h73
  have hd4:(((((W3.setCell { block:=w.heap.size+1+1+1,off:=0 } (Value.int IntKind.i64 (bin f o).Op)).setCell { block:=w.heap.size+1+1+1,off:=1 } (Value.string (bin f o).Atom.Name)).setCell { block:=w.heap.size+1+1+1,off:=2 } (Value.slice q3.fst.fst (bin f o).Atom.Args.length q3.fst.snd)).setCell { block:=w.heap.size+1+1+1,off:=3 } (Value.string (bin f o).Var)).setCell { block:=w.heap.size+1+1+1,off:=4 } (Value.slice q3.snd.fst (bin f o).Parts.length q3.snd.snd)).drawn=W3.drawn:=rfl
  generalize (((((W3.setCell { block:=w.heap.size+1+1+1,off:=0 } (Value.int IntKind.i64 (bin f o).Op)).setCell { block:=w.heap.size+1+1+1,off:=1 } (Value.string (bin f o).Atom.Name)).setCell { block:=w.heap.size+1+1+1,off:=2 } (Value.slice q3.fst.fst (bin f o).Atom.Args.length q3.fst.snd)).setCell { block:=w.heap.size+1+1+1,off:=3 } (Value.string (bin f o).Var)).setCell { block:=w.heap.size+1+1+1,off:=4 } (Value.slice q3.snd.fst (bin f o).Parts.length q3.snd.snd))=W4 at hg hs hd4
  have hz:=hk3.size
  have hz2:=hg.size
  have old:∀ k,k<W.heap.size→k≠w.heap.size+1+1+1→W4.heap[k]?=W.heap[k]?:=fun k hk hne=>(hg.block k (by omega) (fun e=>hne (by cases e; rfl))).trans (hk3.block k hk (by simp))
  refine⟨⟨by omega,fun k o hk ho _=>(old k (Array.getElem?_eq_some_iff.1 ho).1 (by omega)).trans ho⟩,⟨hlt,⟨q3,by rw[hfold]; exact hs,?_⟩,(old _ (by omega) (by omega)).trans hb3,(old _ (by omega) (by omega)).trans hb6,hkx.trans ⟨hg.os.trans hk3.os,hg.tape.trans hk3.tape,hg.output.trans hk3.output,by omega,fun k hk _=>old k (by omega) (by omega),fun q=>by rw[hd4]; exact hk3.drawn q⟩,by omega⟩,fct (fun j hj hne=>old j (by omega) hne) hf⟩
  rw[hfold]
  refine RepC.frame ?_ ?_ _ _ _ (by simp) hrep3
  ·rintro c (hc | ⟨hc,hc2,_⟩)
   ·exact hc.elim .inl (fun h=>.inr ⟨h.1,by omega⟩)
   ·exact .inr ⟨by have:=hc.resolve_right (by simp); omega,by omega⟩
  ·rintro c hc
   refine hg.block c ?_ ?_
   ·rcases hc with (hc | hc) | hc
    ·have:=hN c hc; omega
    ·have:=hc.2; omega
    ·exact hc.2.1
   ·intro e
    cases e
    rcases hc with (hc | hc) | hc
    ·have:=hN _ hc; omega
    ·have:=hc.1; omega
    ·have:=hc.1.resolve_right (by simp); omega
 case done=>
  rintro D W hD ⟨_,⟨⟨qo,hb7,hrep⟩,hb3,hb6,hkx,hsz⟩,hf⟩ hK
  generalize ho:foldF bin xs len (downs len len (aM _))=o at hb7 hrep
  obtain⟨⟨g0,g1,g2,g3,g4⟩,⟨f0,f1,f2,f3,f4⟩⟩:=five_cells hb7
  obtain⟨⟨k0,k1,k2,k3,k4⟩,⟨j0,j1,j2,j3,j4⟩⟩:=five_cells hb6
  gi_wp2
  have hg:=five_other W (w.heap.size+1+1) (Value.int IntKind.i64 o.Op) (Value.string o.Atom.Name) (Value.slice qo.fst.fst o.Atom.Args.length qo.fst.snd) (Value.string o.Var) (Value.slice qo.snd.fst o.Parts.length qo.snd.snd)
  have hs:=five_set (Value.int IntKind.i64 o.Op) (Value.string o.Atom.Name) (Value.slice qo.fst.fst o.Atom.Args.length qo.fst.snd) (Value.string o.Var) (Value.slice qo.snd.fst o.Parts.length qo.snd.snd) hb6
  have hd4:(((((W.setCell { block:=w.heap.size+1+1,off:=0 } (Value.int IntKind.i64 o.Op)).setCell { block:=w.heap.size+1+1,off:=1 } (Value.string o.Atom.Name)).setCell { block:=w.heap.size+1+1,off:=2 } (Value.slice qo.fst.fst o.Atom.Args.length qo.fst.snd)).setCell { block:=w.heap.size+1+1,off:=3 } (Value.string o.Var)).setCell { block:=w.heap.size+1+1,off:=4 } (Value.slice qo.snd.fst o.Parts.length qo.snd.snd)).drawn=W.drawn:=rfl
  generalize (((((W.setCell { block:=w.heap.size+1+1,off:=0 } (Value.int IntKind.i64 o.Op)).setCell { block:=w.heap.size+1+1,off:=1 } (Value.string o.Atom.Name)).setCell { block:=w.heap.size+1+1,off:=2 } (Value.slice qo.fst.fst o.Atom.Args.length qo.fst.snd)).setCell { block:=w.heap.size+1+1,off:=3 } (Value.string o.Var)).setCell { block:=w.heap.size+1+1,off:=4 } (Value.slice qo.snd.fst o.Parts.length qo.snd.snd))=W4 at hg hs hd4
  have hz2:=hg.size
  have hDl:=(Array.getElem?_eq_some_iff.1 hK).1
  have hK4:W4.heap[D]?=some (.deferred (some [])):=(hg.block D hDl (fun e=>by cases e; omega)).trans hK
  have hg2:=grownBy_putObj' W4 D (.deferred none)
  have hs2:(W4.putObj D (.deferred none)).heap[w.heap.size+1+1]?=_:=(hg2.block _ (by omega) (fun e=>by cases e; omega)).trans hs
  have old:∀ k,k<W.heap.size→k≠w.heap.size+1+1→k≠D→(W4.putObj D (.deferred none)).heap[k]?=W.heap[k]?:=fun k hk h1 h2=>(hg2.block k (by omega) (fun e=>h2 (by cases e; rfl))).trans (hg.block k hk (fun e=>h1 (by cases e; rfl)))
  refine⟨by simp,.inl ⟨_,_,rfl,run_takeDeferred hK4,?_⟩⟩
  refine⟨_,results_cell_row rfl _ _ _ _ _ _ _ rfl hs2 Tryz.underlying39 rfl (by kernel_rfl),_,rfl,hkx.trans ⟨hg2.os.trans hg.os,hg2.tape.trans hg.tape,hg2.output.trans hg.output,Nat.le_trans hz2 hg2.size,fun k hk _=>old k (by omega) (by omega) (by omega),fun _=>Nat.le_of_eq hd4.symm⟩,?_⟩
  rw[ho]
  refine F_repV (RepC.frameC (N:=NC w N W) ?_ ?_ _ _ (F_noMp _) hrep)
  ·rintro c (hc | hc)
   ·exact .inl hc
   ·exact .inr ⟨by omega,by have:=hg2.size; omega⟩
  ·intro c o' hc ho' hcc
   refine old c ?_ ?_ ?_
   ·rcases hc with hc | hc
    ·have:=hN c hc; omega
    ·exact hc.2
   ·rintro rfl
    rcases hc with hc | hc
    ·have:=hN _ hc; omega
    ·omega
   ·rintro rfl
    rw[hK] at ho'; cases ho'; cases hcc
set_option maxRecDepth 100000 in
set_option maxHeartbeats 4000000 in
theorem comb_nil(op:Int)(w:World)(a:Option Addr)(cap:Nat)(nn:Ft)(qn:(Option Addr×Nat)×(Option Addr×Nat)):
 Calls ag 58 #[.int .i64 op,.slice a 0 cap,.agg (FC nn qn).toArray] w fun e w'=>e=.returned (.agg (FC nn qn).toArray)∧KeepX [] w.heap.size w w':=by
 refine(callsIn_wide (n:=5)).1 ?_
 refine callsIn_of_wp Tryz.func58 rfl trivial ?_ rfl
 simp only[FC]
 simp only[Tryz.ntmps58,List.size_toArray,aG,a6,Nat.reduceAdd,Nat.reduceSub,Array.replicate_succ,Array.replicate_zero,List.push_toArray,List.append_toArray,bA,List.cons_append]
 gi_wp2
 have hnew:=World.alloc_heap_new ((w.alloc (Obj.cells #[Value.int IntKind.i64 op] 3)).alloc (Obj.cells #[Value.int IntKind.i64 nn.Op,Value.string nn.Atom.Name,Value.slice qn.fst.fst nn.Atom.Args.length qn.fst.snd,Value.string nn.Var,Value.slice qn.snd.fst nn.Parts.length qn.snd.snd] 39)) (Obj.cells #[Value.int IntKind.i64 nn.Op,Value.string nn.Atom.Name,Value.slice qn.fst.fst nn.Atom.Args.length qn.fst.snd,Value.string nn.Var,Value.slice qn.snd.fst nn.Parts.length qn.snd.snd] 39)
 rw[World.size_alloc,World.size_alloc] at hnew
 refine bodyPost_ret (results_cell_row rfl _ _ _ _ _ _ _ rfl hnew Tryz.underlying39 rfl (by kernel_rfl)) rfl ⟨rfl,rfl,rfl,rfl,by simp only[World.size_alloc]; omega,fun k hk _=>?_,fun _=>aM _⟩
 rw[Below.heap_alloc _ _ _ (by simp only[World.size_alloc]; omega),Below.heap_alloc _ _ _ (by simp only[World.size_alloc]; omega),Below.heap_alloc _ _ _ hk]
theorem downs_fold(bin:Ft→Ft→Ft)(xs:List Ft)(len:Nat)(hlen:xs.length=len+1):∀ (k:Nat) (hk:k≤len),
 foldF bin xs len (downs len k hk)=((xs.reverse.drop 1).take k).foldl (fun o f=>bin f o) (xs.getD len default)
 | 0,_=>by simp[downs,foldF]
 | k+1,hk=>by
  have h1:(xs.reverse.drop 1).take (k+1)=(xs.reverse.drop 1).take k++[xs.getD (len-1-k) default]:=by
   rw[List.take_add_one]
   congr 1
   rw[List.getElem?_drop,List.getElem?_reverse (by omega),hlen]
   have:len+1-1-(1+k)=len-1-k:=by omega
   rw[this,List.getElem?_eq_getElem (by omega)]
   simp[List.getD,show len-1-k<xs.length by omega]
  rw[h1,List.foldl_append,← downs_fold bin xs len hlen k (by omega)]
  simp only[downs,foldF,List.foldl_append,List.foldl_cons,List.foldl_nil]
def combF(bin:Ft→Ft→Ft)(xs:List Ft)(nn:Ft):Ft:=
 match xs.reverse with
 | []=>nn
 | x::r=>r.foldl (fun o f=>bin f o) x
theorem comb_sat(bin:Ft→Ft→Ft)(op:Int)(hbin:∀ f o,Sat ag 98 [I op,ao false f,ao false o] (ao false (bin f o)))(xs:List Ft)(nn:Ft):
 Sat ag 58 [I op,.sl false 5 (xs.map (ao false)),ao false nn] (ao false (combF bin xs nn)):=by
 refine⟨⟨_,Tryz.func58,rfl,rfl⟩,fun w N vs Fs hN hFn hFl hvs=>?_⟩
 simp only[RepVs] at hvs
 obtain⟨v0,vs1,F0,F0',rfl,rfl,k0,v1,vs2,F1,F1',rfl,rfl,k1,v2,vs3,F2,F2',rfl,rfl,k2,rfl,rfl⟩:=hvs
 simp only[RepV,RepC] at k0 k1
 obtain⟨k0,_,rfl⟩:=k0
 obtain rfl:v0=.int .i64 op:=by simpa using k0
 obtain⟨a,cap,k1,rfl,hcap,hmax,_,hrow⟩:=k1
 obtain rfl:v1=.slice a (xs.map (ao false)).length cap:=by simpa using k1
 obtain⟨qn,rfl,k3⟩:=F_val k2
 obtain rfl:=F_noF k3
 rw[List.length_map] at hcap ⊢
 have fin:∀ (o:Ft),(Calls ag 58 #[.int .i64 op,.slice a xs.length cap,.agg (FC nn qn).toArray] w fun e w'=>∃ v,e=.returned v∧KeepX [] w.heap.size w w'∧RepV (fun b=>N b∨(w.heap.size≤b∧b<w'.heap.size)) w' (ao false o) v [])→
  Calls ag 58 [Value.int .i64 op,.slice a xs.length cap,.agg (FC nn qn).toArray].toArray w fun e w'=>∃ v F,e=.returned v∧KeepX ([]++([]++([]++[]))) w.heap.size w w'∧
   RepR (fun b=>N b∨((w.heap.size≤b∨b∈([]++([]++([]++[])):List Nat))∧b<w'.heap.size∧b∉F)) w' (ao false o) v F∧F.Nodup∧∀ b∈F,(w.heap.size≤b∨b∈([]++([]++([]++[])):List Nat))∧b<w'.heap.size:=by
  intro o h
  refine h.mono ?_
  rintro e w' ⟨v,rfl,h1,h2⟩
  refine⟨v,[],rfl,h1,?_,List.nodup_nil,by simp⟩
  obtain⟨q,rfl,h3⟩:=F_val h2
  have h4:=F_repV (RepC.frame (N':=fun b=>N b∨((w.heap.size≤b∨b∈([]++([]++([]++[])):List Nat))∧b<w'.heap.size∧b∉([]:List Nat))) (fun b hb=>hb.imp id (fun h=>⟨.inl h.1,h.2,by simp⟩)) (fun _ _=>rfl) _ _ _ (by simp) h3)
  rw[Ft.pv_u] at h4 ⊢
  exact h4
 cases hx:xs.reverse with
 | nil=>
  have:xs=[]:=by simpa using hx
  subst this
  refine fin _ ((comb_nil op w a cap nn qn).mono ?_)
  rintro e w' ⟨rfl,h⟩
  exact⟨_,rfl,h,F_repV (RepC.frame (N:=N) (fun b hb=>.inl hb) (fun b hb=>h.block b (hN b hb).1 (by simp)) _ _ _ (by simp) k3)⟩
 | cons x r=>
  have hlx:xs.length=r.length+1:=by rw[← List.length_reverse,hx]; rfl
  have hc:combF bin xs nn=foldF bin xs r.length (downs r.length r.length (aM _)):=by
   rw[downs_fold bin xs r.length hlx,hx]
   have hl:xs.getD r.length default=x:=by
    have:=List.getElem?_reverse (l:=xs) (i:=0) (by omega)
    rw[hx,hlx] at this
    have h2:xs[r.length]?=some x:=by simpa using this.symm
    simp[List.getD,h2]
   rw[hl]
   simp[combF,hx]
  rw[hc]
  refine fin _ ?_
  rcases hrow with hrow | ⟨⟨b,off,sp⟩,ccs,rfl,hsp,hNb,hra,hrs⟩
  ·rw[List.map_eq_nil_iff] at hrow; rw[hrow] at hlx; simp at hlx
  simp only at hsp hNb
  subst hsp
  rw[hlx] at hcap ⊢
  exact comb_in bin op hbin xs r.length hlx w N (fun b hb=>(hN b hb).1) b off cap ccs hcap hmax hNb hra hrs nn qn
end
end Go.Proofs.YtfchaodlnddkpaaGreat
