/- Lemmas of the proof; each says what it shows. -/
import Derived.Test.YtafdgbndcflghaaGreatAvK
import Derived.Test.YtafdgbndcflghaaGreatChecked
import Derived.KernelRfl
import Derived.WalkKit
import Derived.Lib.Walk
import Derived.Lib.SliceRun
import Derived.Lib.JoinLaws
import Derived.Lib.AppendZeros
import Derived.Lib.AppendZerosOnto
import Derived.Lib.Overlaps
import Derived.Laws.Externs
import Derived.Shelf.Spec.SlicesInsert
import Derived.Test.YtafdgbndcflghaaGreatGm
set_option linter.unusedSimpArgs false
set_option linter.unusedVariables false
set_option linter.defProp false
namespace Go.Proofs.YtafdgbndcflghaaGreat
open Go.Shelf Go.RowKit Go.Lib Go.Av
open List renaming length_append→aP,mem_append→aT,append_assoc→aV,nil_append→bC,append_nil→aZ
open Nat renaming le_refl→a6
open Tryz renaming prog→ah
section
theorem insI:(Tryz.prog.info? 41).map (fun i=>(i.zero,i.size,i.bytes))=some (some (.agg #[.int .i64 0,.string ⟨#[]⟩,.slice none 0 0,.string ⟨#[]⟩,.slice none 0 0]),5,88):=by kernel_rfl
theorem insM:Tryz.prog.follows .mixedOrders=true:=by kernel_rfl
set_option maxHeartbeats 4000000 in
set_option maxRecDepth 100000 in
theorem ier_(b n c vb voff vc:Nat)(vs:List Value)(w:World)(hroom:n+1≤c)(hc63:c≤9223372036854775807)
 (hvl:vs.length=5) (hsp:∀ j,j<5→(w.cell? ⟨b,n*5+j,none⟩).isSome=true) (hfz:∀ j,j<5→w.frozen? ⟨b,n*5+j,none⟩=false)
 (hvs:∀ j v,vs[j]?=some v→w.cell? ⟨vb,voff+j,none⟩=some v) (h1v:∀ v∈vs,v.oneCell'=true):
 Calls ah 106 #[.slice (some ⟨b,0,none⟩) n c,.int .i64 n,.slice (some ⟨vb,voff,none⟩) 1 vc] w fun e w'=>
  e=.returned (.slice (some ⟨b,0,none⟩) (n+1) c)∧w'=w.setCells b (n*5) vs:=by
 have u3:=run_underlying (P:=ah) Tryz.underlying3
 have u4:=run_underlying (P:=ah) Tryz.underlying4
 have uT:=run_underlying (P:=ah) Tryz.underlying34
 have zE:∀ w,(Go.sizeOf 41).run ah w=.ok 5 w:=fun w=>by
  obtain⟨i0,hi0,h0,h1,h2⟩:=info_parts insI
  simp[Go.sizeOf,typeInfo,hi0,h1]
 have mixed:=insM
 obtain⟨i0,hi0,hz0,hzs,hzb⟩:=info_parts insI
 have hsrc:Src ah i0.size 34 (.slice (some ⟨vb,voff,none⟩) 1 vc) 1 vs w:=by
  rw[hzs]
  exact Src.ofSlice w Tryz.underlying34 ⟨vb,voff,none⟩ 1 vc vs (by omega) (fun j u hj=>by rw[Addr.add_lit]; exact hvs j u hj) h1v
 go_enter Tryz.func106,Tryz.ntmps106
 go_wp2_with (at_builtin; refine wpList_append_room_src _ rfl _ _ 34 34 rfl 41 i0 Tryz.underlying34 hi0 b 0 n c rfl _ rfl 1 vs hsrc hroom (by rw[hvl,hzs,Nat.zero_add]; exact hsp) (by rw[hvl,hzs,Nat.zero_add]; exact hfz) ?_)
 go_ret
 exact⟨rfl,rfl⟩
set_option maxHeartbeats 4000000 in
set_option maxRecDepth 100000 in
theorem ieg_(base:Option Addr)(n c vb voff vc:Nat)(cs vs:List Value)(w:World)(hnc:n≤c)(hroom:c<n+1)(hbig:(n+1)*88≤140737488355328)
 (hcl:cs.length=n*5) (hvl:vs.length=5) (hnil:base=none→n=0)
 (hcs:∀ a,base=some a→∀ j v,cs[j]?=some v→w.cell? (a.add j)=some v)
 (hvs:∀ j v,vs[j]?=some v→w.cell? ⟨vb,voff+j,none⟩=some v) (h1v:∀ v∈vs,v.oneCell'=true):
 Calls ah 106 #[.slice base n c,.int .i64 n,.slice (some ⟨vb,voff,none⟩) 1 vc] w fun e w'=>
  e=.returned (.slice (some ⟨w.heap.size,0,none⟩) (n+1) (grownCap w (n+1) c 41))∧
  w'=w.drew.alloc (.cells ((cs++vs).toArray++Builtin.zeroCells (Value.agg #[.int .i64 0,.string ⟨#[]⟩,.slice none 0 0,.string ⟨#[]⟩,.slice none 0 0]).cells (grownCap w (n+1) c 41-(n+1))) 41):=by
 have u3:=run_underlying (P:=ah) Tryz.underlying3
 have u4:=run_underlying (P:=ah) Tryz.underlying4
 have uT:=run_underlying (P:=ah) Tryz.underlying34
 have zE:∀ w,(Go.sizeOf 41).run ah w=.ok 5 w:=fun w=>by
  obtain⟨i0,hi0,h0,h1,h2⟩:=info_parts insI
  simp[Go.sizeOf,typeInfo,hi0,h1]
 have mixed:=insM
 obtain⟨i0,hi0,hz0,hzs,hzb⟩:=info_parts insI
 have hsrc:Src ah i0.size 34 (.slice (some ⟨vb,voff,none⟩) 1 vc) 1 vs w:=by
  rw[hzs]
  exact Src.ofSlice w Tryz.underlying34 ⟨vb,voff,none⟩ 1 vc vs (by omega) (fun j u hj=>by rw[Addr.add_lit]; exact hvs j u hj) h1v
 have hold:(Builtin.firstCells i0.size n (.slice base n c)).run ah w.drew=.ok cs.toArray w.drew:=by
  rw[hzs]
  cases base with
  | none=>
   have h0:=hnil rfl
   subst h0
   rw[List.length_eq_zero_iff.1 (by omega:cs.length=0)]
   exact run_firstCells_none w.drew 5 0 0 c
  | some a=>exact run_firstCells_some w.drew 5 n a n c cs (by omega) (fun j v hj=>hcs a rfl j v hj)
 have hrun:∀ ty,(Builtin.append_ #[34,34] ty #[.slice base n c,.slice (some ⟨vb,voff,none⟩) 1 vc]).run ah w=_:=fun ty=>
  run_append_grow_src w 34 34 ty 41 i0 _ Tryz.underlying34 hi0 hz0 base n c cs hold _ 1 vs hsrc hroom (by omega) (by rw[hzb]; exact growslice_fits hroom hbig)
 go_enter Tryz.func106,Tryz.ntmps106
 cases base with
 | none=>
  have h0:=hnil rfl
  subst h0
  go_wp2_with (at_builtin; refine Lib.wpList_append_run _ rfl _ _ _ _ rfl _ _ rfl rfl _ _ (hrun _) ?_)
  go_ret
  exact⟨rfl,rfl⟩
 | some a=>
  obtain⟨ab,ao,asp⟩:=a
  go_wp2_with (at_builtin; refine Lib.wpList_append_run _ rfl _ _ _ _ rfl _ _ rfl rfl _ _ (hrun _) ?_)
  all_goals (go_ret; exact⟨rfl,rfl⟩)
set_option maxHeartbeats 4000000 in
set_option maxRecDepth 100000 in
theorem is_3(b n c i vb voff vc:Nat)(cs vs:List Value)(w:World)(hi:i<n)(hroom:n+1≤c)(hc63:c≤9223372036854775807)(hvb:vb≠b)
 (hcl:cs.length=n*5) (hvl:vs.length=5)
 (hcs:∀ j v,cs[j]?=some v→w.cell? ⟨b,j,none⟩=some v) (hsp:∀ j,j<(n+1)*5→(w.cell? ⟨b,j,none⟩).isSome=true) (hfz:∀ j,j<(n+1)*5→w.frozen? ⟨b,j,none⟩=false)
 (hvs:∀ j v,vs[j]?=some v→w.cell? ⟨vb,voff+j,none⟩=some v) (h1c:∀ v∈cs,v.oneCell'=true) (h1v:∀ v∈vs,v.oneCell'=true)
 (tA tB:TypeId) (kA kB:Nat) (hsa:w.shape? vb=some (tA,kA)) (hsb:w.shape? b=some (tB,kB)) (hkB:kB≠0) (hfa:w.frozen? ⟨vb,voff,none⟩=false) (hfe:w.frozen? ⟨vb,kA,none⟩=false):
 Calls ah 106 #[.slice (some ⟨b,0,none⟩) n c,.int .i64 i,.slice (some ⟨vb,voff,none⟩) 1 vc] w fun e w'=>
  e=.returned (.slice (some ⟨b,0,none⟩) (n+1) c)∧w'=(w.drew.setCells b ((i+1)*5) (cs.drop (i*5))).setCells b (i*5) vs:=by
 have u3:=run_underlying (P:=ah) Tryz.underlying3
 have u4:=run_underlying (P:=ah) Tryz.underlying4
 have uT:=run_underlying (P:=ah) Tryz.underlying34
 have zE:∀ w,(Go.sizeOf 41).run ah w=.ok 5 w:=fun w=>by
  obtain⟨i0,hi0,h0,h1,h2⟩:=info_parts insI
  simp[Go.sizeOf,typeInfo,hi0,h1]
 have mixed:=insM
 obtain⟨i0,hi0,hz0,hzs,hzb⟩:=info_parts insI
 have hsz:(Tryz.prog.info? 41).map (·.size)=some 5:=by rw[hi0]; simp[hzs]
 have hz2:¬ ((i:Int)=(n:Int)):=by omega
 have hov:∀ lb cb,(callFunc 125 #[.slice (some ⟨vb,voff,none⟩) 1 vc,.slice (some ⟨b,(i+1)*5,none⟩) lb cb]).run ah w=.ok (.value (.bool false)) w:=fun lb cb=>by
  rw[run_callFunc_extern Tryz.func125 (by kernel_rfl) (by kernel_rfl) (by kernel_rfl) (e:=Extern.SlicesOverlaps.overlaps #[34,34] #[4]) (by kernel_rfl),
   Lib.run_overlaps_apart w 34 4 41 Tryz.underlying34 5 zE ⟨vb,voff,none⟩ ⟨b,(i+1)*5,none⟩ 1 vc lb cb hvb tA tB kA kB hsa hsb hkB hfa hfe]
  rfl
 have hdl:(cs.drop (i*5)).length=(n-i)*5:=by rw[List.length_drop,hcl]; omega
 have hw1:IntKind.i64.wrap ((i:Int)+(1:Int))=(i:Int)+(1:Int):=by rw[IntKind.wrap_i64]; omega
 have hb1:(0:Int)≤(i:Int)+(1:Int):=by omega
 have hin:i≤n:=by omega
 have htn:((i:Int)+(1:Int)).toNat=i+1:=by omega
 have hb2:¬ (c=i+1):=by omega
 have hb3:(i:Int)≤(n:Int)+(1:Int):=by omega
 have hb4:¬ (c=i):=by omega
 have hcp1:∀ ty dc sc,(Builtin.copy_ #[34,34] ty #[.slice (some ⟨b,(i+1)*5,none⟩) (n-i) dc,.slice (some ⟨b,i*5,none⟩) (n+1-i) sc]).run ah w.drew=.ok (goInt (Nat.min (n+1-i) (n-i))) (w.drew.setCells b ((i+1)*5) (cs.drop (i*5))):=fun ty dc sc=>
  rcc_ w.drew _ _ ty 41 b ((i+1)*5) (n-i) dc ⟨b,i*5,none⟩ (n+1-i) sc 5 (cs.drop (i*5)) Tryz.underlying34 hsz (by rw[hdl]; simp only[Nat.min_def]; split<;>omega)
   (fun j v hj=>by rw[Addr.add_lit]; exact hcs (i*5+j) v (by rwa [List.getElem?_drop] at hj))
   (fun j hj=>hsp _ (by omega)) (fun j hj=>hfz _ (by omega)) (fun v hv=>h1c v (List.mem_of_mem_drop hv))
 obtain⟨W1,hW1⟩:∃ W1,W1=w.drew.setCells b ((i+1)*5) (cs.drop (i*5)):=⟨_,rfl⟩
 have hsp1:∀ k,k<(n+1)*5→(W1.cell? ⟨b,k,none⟩).isSome=true:=fun k hk=>by
  rw[hW1]
  exact isSome_setCells b (cs.drop (i*5)) ((i+1)*5) w.drew (fun j hj=>hsp _ (by omega)) k (hsp k hk)
 have hcp2:∀ (W:World),(∀ x,W.cell? x=W1.cell? x)→(∀ x,W.frozen? x=W1.frozen? x)→∀ ty dc,(Builtin.copy_ #[34,34] ty #[.slice (some ⟨b,i*5,none⟩) (n+1-i) dc,.slice (some ⟨vb,voff,none⟩) 1 vc]).run ah W=.ok (goInt (Nat.min 1 (n+1-i))) (W.setCells b (i*5) vs):=fun W hWc hWf ty dc=>
  rcc_ W _ _ ty 41 b (i*5) (n+1-i) dc ⟨vb,voff,none⟩ 1 vc 5 vs Tryz.underlying34 hsz (by rw[hvl]; simp only[Nat.min_def]; split<;>omega)
   (fun j v hj=>by
    rw[Addr.add_lit,hWc,hW1,World.cell?_setCells_out b _ _ _ _ (fun h _=>absurd h hvb)]
    exact hvs j v hj)
   (fun j hj=>by rw[hWc]; exact hsp1 _ (by omega)) (fun j hj=>by rw[hWf,hW1,World.frozen?_setCells]; exact hfz _ (by omega)) h1v
 rw[← hW1] at hcp1
 go_enter Tryz.func106,Tryz.ntmps106
 go_wp2_with (simp only[hov])
 go_region_law_o (refine step_copy_runI rfl _ _ 34 34 rfl _ _ (by simp[Act.eval,Act.put]) (by simp[Act.eval,Act.put]) (hcp1 _ _ _) ?_)
 go_wp2_with (at_builtin; refine wpList_copy_runI _ rfl _ _ 34 34 rfl _ _ rfl rfl (hcp2 _ (fun _=>rfl) (fun _=>rfl) _ _) ?_)
 go_ret
 first | exact⟨rfl,rfl⟩ | exact⟨rfl,by rw[hW1]⟩
set_option maxHeartbeats 4000000 in
set_option maxRecDepth 100000 in
theorem ig_2(b n c i vb voff vc:Nat)(cs vs:List Value)(w:World)(hi:i<n)(hnc:n≤c)(hroom:c<n+1)(hbig:(n+1)*88≤140737488355328)
 (hcl:cs.length=n*5) (hvl:vs.length=5)
 (hcs:∀ j v,cs[j]?=some v→w.cell? ⟨b,j,none⟩=some v)
 (hvs:∀ j v,vs[j]?=some v→w.cell? ⟨vb,voff+j,none⟩=some v) (h1c:∀ v∈cs,v.oneCell'=true) (h1v:∀ v∈vs,v.oneCell'=true):
 Calls ah 106 #[.slice (some ⟨b,0,none⟩) n c,.int .i64 i,.slice (some ⟨vb,voff,none⟩) 1 vc] w fun e w'=>
  e=.returned (.slice (some ⟨w.heap.size,0,none⟩) (n+1) (grownCap w (n+1) c 41))∧
  w'=(((w.alloc (.cells ((cs.take (i*5)).toArray++Builtin.zeroCells (Value.agg #[.int .i64 0,.string ⟨#[]⟩,.slice none 0 0,.string ⟨#[]⟩,.slice none 0 0]).cells (n+1-i)++Builtin.zeroCells (Value.agg #[.int .i64 0,.string ⟨#[]⟩,.slice none 0 0,.string ⟨#[]⟩,.slice none 0 0]).cells (grownCap w (n+1) c 41-(n+1))) 41)).drew.setCells w.heap.size (i*5) vs).drew).setCells w.heap.size ((i+1)*5) (cs.drop (i*5)):=by
 have u3:=run_underlying (P:=ah) Tryz.underlying3
 have u4:=run_underlying (P:=ah) Tryz.underlying4
 have uT:=run_underlying (P:=ah) Tryz.underlying34
 have zE:∀ w,(Go.sizeOf 41).run ah w=.ok 5 w:=fun w=>by
  obtain⟨i0,hi0,h0,h1,h2⟩:=info_parts insI
  simp[Go.sizeOf,typeInfo,hi0,h1]
 have mixed:=insM
 obtain⟨i0,hi0,hz0,hzs,hzb⟩:=info_parts insI
 have hz2:¬ ((i:Int)=(n:Int)):=by omega
 have hz3:(c:Int)<(n:Int)+(1:Int):=by omega
 have hsz:(Tryz.prog.info? 41).map (·.size)=some 5:=by rw[hi0]; simp[hzs]
 have hbw:b<w.heap.size:=block_lt_of_cell (hcs 0 _ (List.getElem?_eq_getElem (by omega)))
 have hvw:vb<w.heap.size:=block_lt_of_cell (hvs 0 _ (List.getElem?_eq_getElem (by omega)))
 have hkk:(n:Int)+(1:Int)-(i:Int)=((n+1-i:Nat):Int):=by omega
 have hik:i+(n+1-i)=n+1:=by omega
 have hold:(Builtin.firstCells i0.size i (.slice (some ⟨b,0,none⟩) i c)).run ah w.drew=.ok (cs.take (i*5)).toArray w.drew:=by
  rw[hzs]
  exact run_firstCells_some w.drew 5 i ⟨b,0,none⟩ i c (cs.take (i*5)) (by rw[List.length_take]; omega) (fun j v hj=>by
   rw[Addr.add_lit,Nat.zero_add]
   rw[List.getElem?_take] at hj
   split at hj
   ·exact hcs j v hj
   ·cases hj)
 have hrz:∀ ty,(Builtin.append_ #[34,3] ty #[.slice (some ⟨b,0,none⟩) i c,.int .i64 ((n:Int)+(1:Int)-(i:Int))]).run ah w=
  .ok (.slice (some ⟨w.heap.size,0,none⟩) (n+1) (grownCap w (n+1) c 41)) (w.drew.alloc (.cells ((cs.take (i*5)).toArray++Builtin.zeroCells (Value.agg #[.int .i64 0,.string ⟨#[]⟩,.slice none 0 0,.string ⟨#[]⟩,.slice none 0 0]).cells (n+1-i)++Builtin.zeroCells (Value.agg #[.int .i64 0,.string ⟨#[]⟩,.slice none 0 0,.string ⟨#[]⟩,.slice none 0 0]).cells (grownCap w (n+1) c 41-(n+1))) 41)):=fun ty=>by
  have h:=Lib.run_append_grow_zeros w 34 3 ty 41 i0 _ .i64 .i64 Tryz.underlying34 Tryz.underlying3 hi0 hz0 (some ⟨b,0,none⟩) i c (cs.take (i*5)) hold (n+1-i) (by omega) (by omega) (by omega) (by omega) (by rw[hzb]; omega) (by rw[hzb,hik]; exact growslice_fits hroom hbig)
  rw[hik] at h
  rw[hkk]
  exact h
 obtain⟨G,hG⟩:∃ G,G=grownCap w (n+1) c 41:=⟨_,rfl⟩
 obtain⟨ROW,hROW⟩:∃ ROW:Array Value,ROW=(cs.take (i*5)).toArray++Builtin.zeroCells (Value.agg #[.int .i64 0,.string ⟨#[]⟩,.slice none 0 0,.string ⟨#[]⟩,.slice none 0 0]).cells (n+1-i)++Builtin.zeroCells (Value.agg #[.int .i64 0,.string ⟨#[]⟩,.slice none 0 0,.string ⟨#[]⟩,.slice none 0 0]).cells (G-(n+1)):=⟨_,rfl⟩
 rw[← hG] at hrz ⊢
 rw[← hROW] at hrz ⊢
 have hRl:(n+1)*5≤ROW.size:=by
  rw[hROW]
  simp[Builtin.zeroCells,Value.cells]
  omega
 obtain⟨W1,hW1⟩:∃ W1,W1=w.drew.alloc (.cells ROW 41):=⟨_,rfl⟩
 rw[← hW1] at hrz
 have hN:∀ j,j<(n+1)*5→(W1.cell? ⟨w.heap.size,j,none⟩).isSome=true:=fun j hj=>by
  rw[hW1,World.cell?_alloc_at (w:=w.drew) ROW _ w.heap.size j rfl,Array.getElem?_eq_getElem (by omega)]; rfl
 have hNf:∀ j,W1.frozen? ⟨w.heap.size,j,none⟩=false:=fun j=>by rw[hW1]; exact World.frozen?_alloc_at (w:=w.drew) ROW _ w.heap.size j rfl
 have hOb:∀ j v,w.cell? ⟨b,j,none⟩=some v→W1.cell? ⟨b,j,none⟩=some v:=fun j v h=>by rw[hW1,World.cell?_alloc_past (w:=w.drew) _ b j hbw]; exact h
 have hOv:∀ j v,w.cell? ⟨vb,j,none⟩=some v→W1.cell? ⟨vb,j,none⟩=some v:=fun j v h=>by rw[hW1,World.cell?_alloc_past (w:=w.drew) _ vb j hvw]; exact h
 have hcpA:∀ (W:World),(∀ x,W.cell? x=W1.cell? x)→(∀ x,W.frozen? x=W1.frozen? x)→∀ ty dc,(Builtin.copy_ #[34,34] ty #[.slice (some ⟨w.heap.size,i*5,none⟩) (n+1-i) dc,.slice (some ⟨vb,voff,none⟩) 1 vc]).run ah W=.ok (goInt (Nat.min 1 (n+1-i))) (W.setCells w.heap.size (i*5) vs):=fun W hWc hWf ty dc=>
  rcc_ W _ _ ty 41 w.heap.size (i*5) (n+1-i) dc ⟨vb,voff,none⟩ 1 vc 5 vs Tryz.underlying34 hsz (by rw[hvl]; simp only[Nat.min_def]; split<;>omega)
   (fun j v hj=>by rw[Addr.add_lit,hWc]; exact hOv _ v (hvs j v hj))
   (fun j hj=>by rw[hWc]; exact hN _ (by omega)) (fun j hj=>by rw[hWf]; exact hNf _) h1v
 have hGn:n+1≤G:=by rw[hG]; exact grownCap_ge w _ _ _
 have hG63:G≤9223372036854775807:=by
  have:=grownCap_le_maxLen w (n+1) c 41 (by unfold maxLen; omega)
  rw[← hG] at this
  unfold maxLen at this
  omega
 have hGi:¬ (G=i):=by omega
 have hGim:¬ (G=i+1):=by omega
 have hci:¬ (c=i):=by omega
 have hbN:b≠w.heap.size:=by omega
 have hdl:(cs.drop (i*5)).length=(n-i)*5:=by rw[List.length_drop,hcl]; omega
 have hcpB:∀ (W:World),(∀ x,W.cell? x=(W1.setCells w.heap.size (i*5) vs).cell? x)→(∀ x,W.frozen? x=(W1.setCells w.heap.size (i*5) vs).frozen? x)→∀ ty dc sc,(Builtin.copy_ #[34,34] ty #[.slice (some ⟨w.heap.size,(i+1)*5,none⟩) (n-i) dc,.slice (some ⟨b,i*5,none⟩) (n-i) sc]).run ah W=.ok (goInt (Nat.min (n-i) (n-i))) (W.setCells w.heap.size ((i+1)*5) (cs.drop (i*5))):=fun W hWc hWf ty dc sc=>
  rcc_ W _ _ ty 41 w.heap.size ((i+1)*5) (n-i) dc ⟨b,i*5,none⟩ (n-i) sc 5 (cs.drop (i*5)) Tryz.underlying34 hsz (by rw[hdl]; simp only[Nat.min_def]; split<;>omega)
   (fun j v hj=>by
    rw[Addr.add_lit,hWc,World.cell?_setCells_out _ _ _ _ _ (fun h _=>absurd h hbN)]
    exact hOb _ v (hcs (i*5+j) v (by rwa [List.getElem?_drop] at hj)))
   (fun j hj=>by rw[hWc]; exact isSome_setCells w.heap.size vs (i*5) W1 (fun t ht=>hN _ (by omega)) _ (hN _ (by omega)))
   (fun j hj=>by rw[hWf,World.frozen?_setCells]; exact hNf _) (fun v hv=>h1c v (List.mem_of_mem_drop hv))
 subst hW1
 have hE1:∀ x,((w.alloc (.cells ROW 41)).drew).cell? x=(w.drew.alloc (.cells ROW 41)).cell? x:=fun x=>rfl
 have hE2:∀ x,((w.alloc (.cells ROW 41)).drew).frozen? x=(w.drew.alloc (.cells ROW 41)).frozen? x:=fun x=>rfl
 have hF1:∀ x,(((w.alloc (.cells ROW 41)).drew.setCells w.heap.size (i*5) vs).drew).cell? x=((w.drew.alloc (.cells ROW 41)).setCells w.heap.size (i*5) vs).cell? x:=fun x=>rfl
 have hF2:∀ x,(((w.alloc (.cells ROW 41)).drew.setCells w.heap.size (i*5) vs).drew).frozen? x=((w.drew.alloc (.cells ROW 41)).setCells w.heap.size (i*5) vs).frozen? x:=fun x=>rfl
 have hw1:IntKind.i64.wrap ((i:Int)+(1:Int))=(i:Int)+(1:Int):=by rw[IntKind.wrap_i64]; omega
 have hb1:(0:Int)≤(i:Int)+(1:Int):=by omega
 have hin:i≤n:=by omega
 have htn:((i:Int)+(1:Int)).toNat=i+1:=by omega
 have hb3:(i:Int)≤(n:Int):=by omega
 clear hkk hik hold hROW hG hRl
 go_enter Tryz.func106,Tryz.ntmps106
 go_wp2_with (first
  | (at_builtin; refine Lib.wpList_append_run _ rfl _ _ _ _ rfl _ _ rfl rfl _ _ (hrz _) ?_)
  | (at_builtin; refine wpList_copy_runI _ rfl _ _ 34 34 rfl _ _ rfl rfl (hcpA _ hE1 hE2 _ _) ?_)
  | (at_builtin; refine wpList_copy_runI _ rfl _ _ 34 34 rfl _ _ rfl rfl (hcpB _ (fun _=>rfl) (fun _=>rfl) _ _ _) ?_))
 go_region_law_o (refine step_copy_runI rfl _ _ 34 34 rfl (.slice (some ⟨w.heap.size,(i+1)*5,none⟩) (n-i) (G-(i+1))) (.slice (some ⟨b,i*5,none⟩) (n-i) (c-i)) (by simp[Act.eval,Act.put]) (by simp[Act.eval,Act.put]) (hcpB _ hF1 hF2 3 (G-(i+1)) (c-i)) ?_)
 go_wp2
 go_ret
 exact⟨rfl,rfl⟩
end
section
theorem sCe_(w:World)(g o:Nat)(e:TypeId)(cur:Array Value)(vs:List Value)(hg:w.heap[g]?=some (.cells cur e (0,0)))(hfit:o+vs.length≤cur.size)(h1:∀ v∈vs,v.oneCell'=true):
 w.setCells g o vs=w.setRow g (cur.toList.take o++vs++cur.toList.drop (o+vs.length)).toArray:=by
 have e1:=run_storeCells_at ah g o e vs 0 cur w hg (by simpa using hfit) h1
 have e2:=run_storeCells_cells (P:=ah) g o vs 0 w (fun j hj=>by
  rw[cell_of_heap hg,Array.getElem?_eq_getElem (by omega)]; rfl) (fun j hj=>frozen_of_heap hg _) h1
 rw[e1] at e2
 simp only[Nat.add_zero] at e2
 injection e2 with _ e3
 exact e3.symm
theorem sIP_{es:List PV}{y:PV}{i:Nat}(h1:i≤es.length)(h3:es.length≤1073741824):
 Sat ah 106 [.sl true 5 es,.lit (.int .i64 (i:Int)),.sl true 5 [y]] (.sl true 5 (es.take i++[y]++es.drop i)):=by
 refine⟨⟨_,Tryz.func106,by kernel_rfl,by kernel_rfl⟩,fun w N vs Fs hN hFn hFl hvs=>?_⟩
 simp only[RepVs,RepV] at hvs
 obtain⟨v0,_,F0,_,rfl,rfl,g0,v1,_,F1,_,rfl,rfl,g1,v2,_,F2,_,rfl,rfl,g2,rfl,rfl⟩:=hvs
 simp only[RepC,List.cons.injEq,and_true] at g1
 obtain⟨rfl,_,rfl⟩:=g1
 simp only[RepC] at g2
 rcases g2 with⟨_,e,_⟩ | ⟨vb,vcap,vc,ve,Fy,vccs,e2,m1,m2,m3,m4,m5,m6,m7,rfl⟩
 ·simp at e
 simp only[List.cons.injEq,and_true] at e2
 subst e2
 have hysz:PV.size y=5:=m3 y (by simp)
 have hvl:vccs.length=5:=by rw[RepCs.length _ _ _ m7]; simp only[PV.sizes,hysz]
 have hvs:∀ j v,vccs[j]?=some v→w.cell? ⟨vb,0+j,none⟩=some v:=fun j v hj=>by
  rw[Nat.zero_add,cell_of_heap m4]
  rw[← m6,List.getElem?_take] at hj
  split at hj
  ·simpa using hj
  ·cases hj
 have h1v:=RepCs.one _ _ _ m7
 have hvb:vb<w.heap.size:=hFl vb (by simp)
 have hlen:(es.take i++[y]++es.drop i).length=es.length+1:=by
  simp only[aP,List.length_take,List.length_drop,List.length_cons,List.length_nil]; omega
 -- the row's cells, whether there is a block or not
 obtain⟨ccs,Fe,hes,hFe,p7,hes2⟩:∃ ccs Fe,(∀ p∈es,PV.size p=5)∧(∀ k∈Fe,k∈F0)∧RepCs N w es ccs Fe∧
  ((v0=.slice none 0 0∧es=[]∧F0=[]∧Fe=[])∨∃ b cap c ce,v0=.slice (some ⟨b,0,none⟩) es.length cap∧es.length≤cap∧cap≤maxLen∧w.heap[b]?=some (.cells c ce (0,0))∧c.size=cap*5∧c.toList.take (es.length*5)=ccs∧F0=b::Fe):=by
  simp only[RepC] at g0
  rcases g0 with⟨g0,gn,rfl⟩ | ⟨b,cap,c,ce,Fe,ccs,g0,p1,p2,p3,p4,p5,p6,p7,rfl⟩
  ·simp only[List.cons.injEq,and_true] at g0
   subst gn
   exact⟨[],[],by simp,by simp,by simp[RepCs],.inl ⟨g0,rfl,rfl,rfl⟩⟩
  ·simp only[List.cons.injEq,and_true] at g0
   exact⟨ccs,Fe,p3,fun k hk=>by simp[hk],p7,.inr ⟨b,cap,c,ce,g0,p1,p2,p4,p5,p6,rfl⟩⟩
 have hcsl:ccs.length=es.length*5:=by rw[RepCs.length _ _ _ p7,Psc_ hes]
 have h1c:=RepCs.one _ _ _ p7
 have hpsz:∀ p∈es.take i++[y]++es.drop i,PV.size p=5:=fun p hp=>by
  simp only[aT,List.mem_singleton] at hp
  rcases hp with (hp | rfl) | hp
  ·exact hes p (List.mem_of_mem_take hp)
  ·exact hysz
  ·exact hes p (List.mem_of_mem_drop hp)
 have hdl:(ccs.drop (i*5)).length=(es.length-i)*5:=by rw[List.length_drop,hcsl]; omega
 have htl:(ccs.take (i*5)).length=i*5:=by rw[List.length_take,hcsl]; omega
 obtain⟨F',hperm,hnew⟩:∃ F',(∀ k,k∈F'↔k∈Fe∨k∈Fy)∧((Fe++Fy).Nodup→F'.Nodup)∧∀ {N':Nat→Prop} {w':World},(∀ k,N k→N' k)→(∀ k,N k∨k∈Fe∨k∈Fy→w'.heap[k]?=w.heap[k]?)→
  RepCs N' w' (es.take i++[y]++es.drop i) (ccs.take (i*5)++vccs++ccs.drop (i*5)) F':=by
  have q:=p7
  rw[← List.take_append_drop i es] at q
  obtain⟨c1,c2,Fa,Fb,hc,rfl,q1,q2⟩:=RepCs.split _ _ _ _ q
  have l1:c1.length=i*5:=by rw[RepCs.length _ _ _ q1,Psc_ (fun p hp=>hes p (List.mem_of_mem_take hp)),List.length_take]; congr 1; omega
  have e1:ccs.take (i*5)=c1:=by rw[hc,← l1]; exact List.take_left
  have e2:ccs.drop (i*5)=c2:=by rw[hc,← l1]; exact List.drop_left
  have hpm:(Fa++Fy++Fb).Perm ((Fa++Fb)++Fy):=by
   rw[aV,aV]
   exact List.Perm.append_left Fa List.perm_append_comm
  refine⟨Fa++Fy++Fb,fun k=>?_,fun h=>hpm.nodup_iff.2 h,fun {N' w'} hNN hw=>?_⟩
  ·simp only[aT]
   constructor
   ·rintro ((h | h) | h)
    ·exact .inl (.inl h)
    ·exact .inr h
    ·exact .inl (.inr h)
   ·rintro ((h | h) | h)
    ·exact .inl (.inl h)
    ·exact .inr h
    ·exact .inl (.inr h)
  ·rw[e1,e2]
   have k:=RepCs.append _ _ _ _ _ _ (RepCs.append _ _ _ _ _ _ q1 m7) q2
   refine RepCs.frame (w:=w) hNN (fun b hb=>hw b (.inl hb)) _ _ _ (fun b hb=>?_) k
   simp only[aT] at hb
   rcases hb with (h | h) | h
   ·exact hw b (.inr (.inl (by simp[h])))
   ·exact hw b (.inr (.inr h))
   ·exact hw b (.inr (.inl (by simp[h])))
 obtain⟨hnd,hnew⟩:=hnew
 have hFeN:∀ k,k∈Fe→k∈F0++([]++(vb::Fy++[])):=fun k hk=>by simp[hFe k hk]
 have hFyN:∀ k,k∈Fy→k∈F0++([]++(vb::Fy++[])):=fun k hk=>by simp[hk]
 have hF'l:∀ k∈F',k∈F0++([]++(vb::Fy++[]))∧k<w.heap.size:=fun k hk=>by
  have:k∈F0++([]++(vb::Fy++[])):=by
   rcases (hperm k).1 hk with h | h
   ·exact hFeN k h
   ·exact hFyN k h
  exact⟨this,hFl k this⟩
 have hF'n:F'.Nodup:=hnd (by
  rcases hes2 with⟨_,_,_,rfl⟩ | ⟨b,_,_,_,_,_,_,_,_,_,rfl⟩
  ·rw[bC]
   have:=(List.nodup_append.1 hFn).2.1
   simp only[bC,aZ,List.nodup_cons] at this
   exact this.2
  ·simp only[bC,aZ,List.cons_append,List.nodup_cons] at hFn
   have:=List.nodup_append.1 hFn.2
   exact List.nodup_append.2 ⟨this.1,(List.nodup_cons.1 this.2.1).2,fun a ha c hc=>this.2.2 a ha c (by simp[hc])⟩)
 -- what is handed back, once the row stands
 have out:∀ (w':World) (blk cap:Nat) (c':Array Value) (e':TypeId),blk∉F'→blk∉Fe→blk∉Fy→¬ N blk→(w.heap.size≤blk∨blk∈F0++([]++(vb::Fy++[])))→blk<w'.heap.size→KeepX (F0++([]++(vb::Fy++[]))) w.heap.size w w'→
  (∀ k,k≠blk→k<w.heap.size→w'.heap[k]?=w.heap[k]?)→es.length+1≤cap→cap≤maxLen→w'.heap[blk]?=some (.cells c' e' (0,0))→c'.size=cap*5→
  c'.toList.take ((es.length+1)*5)=ccs.take (i*5)++vccs++ccs.drop (i*5)→
  ∃ v F,Ending.returned (.slice (some ⟨blk,0,none⟩) (es.length+1) cap)=.returned v∧KeepX (F0++([]++(vb::Fy++[]))) w.heap.size w w'∧
   RepR (fun k=>N k∨((w.heap.size≤k∨k∈F0++([]++(vb::Fy++[])))∧k<w'.heap.size∧k∉F)) w' (.sl true 5 (es.take i++[y]++es.drop i)) v F∧F.Nodup∧∀ k∈F,(w.heap.size≤k∨k∈F0++([]++(vb::Fy++[])))∧k<w'.heap.size:=by
  intro w' blk cap c' e' b1 b2 b3 b4 b5 b6 kx hold q1 q2 q3 q4 q5
  refine⟨_,blk::F',rfl,kx,?_,List.nodup_cons.2 ⟨b1,hF'n⟩,fun k hk=>?_⟩
  ·refine rRs_ ?_
   simp only[RepC]
   refine .inr ⟨blk,cap,c',e',F',_,by rw[hlen],by rw[hlen]; exact q1,q2,hpsz,q3,q4,by rw[hlen]; exact q5,hnew (fun k hk=>.inl hk) (fun k hk=>?_),rfl⟩
   rcases hk with h | h | h
   ·exact hold k (fun e=>b4 (e▸h)) (hN k h).1
   ·exact hold k (fun e=>b2 (e▸h)) (hFl k (hFeN k h))
   ·exact hold k (fun e=>b3 (e▸h)) (hFl k (hFyN k h))
  ·rcases List.mem_cons.1 hk with rfl | hk
   ·exact⟨b5,b6⟩
   ·have:=hF'l k hk
    have hs:=kx.size
    exact⟨.inr this.1,by omega⟩
 have newblk:∀ k,k=w.heap.size→k∉F'∧k∉Fe∧k∉Fy∧¬ N k:=fun k hk=>by
  subst hk
  refine⟨fun h=>?_,fun h=>?_,fun h=>?_,fun h=>?_⟩
  ·have:=(hF'l _ h).2; omega
  ·have:=hFl _ (hFeN _ h); omega
  ·have:=hFl _ (hFyN _ h); omega
  ·have:=(hN _ h).1; omega
 have hgl:∀ G:Nat,es.length+1≤G→∀ z:Array Value,z.size=5→((ccs++vccs).toArray++Builtin.zeroCells z (G-(es.length+1))).size=G*5:=fun G hG z hz=>by
  simp only[Array.size_append,List.size_toArray,aP,hcsl,hvl,szC_,hz]
  omega
 have endgrow:∀ (base:Option Addr) (c:Nat),i=es.length→es.length≤c→c<es.length+1→(base=none→es.length=0)→(∀ a,base=some a→∀ j v,ccs[j]?=some v→w.cell? (a.add j)=some v)→
  Calls ah 106 #[.slice base es.length c,.int .i64 i,.slice (some ⟨vb,0,none⟩) 1 vcap] w fun e w'=>∃ v F,e=.returned v∧KeepX (F0++([]++(vb::Fy++[]))) w.heap.size w w'∧
   RepR (fun b=>N b∨((w.heap.size≤b∨b∈F0++([]++(vb::Fy++[])))∧b<w'.heap.size∧b∉F)) w' (.sl true 5 (es.take i++[y]++es.drop i)) v F∧F.Nodup∧∀ b∈F,(w.heap.size≤b∨b∈F0++([]++(vb::Fy++[])))∧b<w'.heap.size:=by
  intro base c hi hnc hc hnil hcs
  subst hi
  have:=ieg_ base es.length c vb 0 vcap ccs vccs w hnc hc (by omega) hcsl hvl hnil hcs hvs h1v
  refine this.mono ?_
  rintro e w' ⟨rfl,rfl⟩
  obtain⟨n1,n2,n3,n4⟩:=newblk _ rfl
  refine out _ w.heap.size _ _ 41 n1 n2 n3 n4 (.inl (a6 _)) (by simp) ⟨rfl,rfl,rfl,by simp,fun k hk _=>hpl_ (w:=w.drew) hk,fun _=>(by first | exact a6 _ | exact Nat.le_succ _ | exact Nat.le_succ_of_le (Nat.le_succ _) | exact Nat.le_succ_of_le (Nat.le_succ_of_le (Nat.le_succ _)))⟩ (fun k _ hk=>hpl_ (w:=w.drew) hk)
   (grownCap_ge w _ _ _) (grownCap_le_maxLen w _ c 41 (by unfold maxLen; omega)) (hpe_ (w:=w.drew)) (hgl _ (grownCap_ge w _ _ _) (Value.agg #[.int .i64 0,.string ⟨#[]⟩,.slice none 0 0,.string ⟨#[]⟩,.slice none 0 0]).cells rfl) ?_
  have e1:ccs.take (es.length*5)=ccs:=List.take_of_length_le (by omega)
  have e2:ccs.drop (es.length*5)=[]:=List.drop_of_length_le (by omega)
  rw[e1,e2,aZ,show(es.length+1)*5=(ccs++vccs).length by rw[aP,hcsl,hvl]; omega]
  simp only[Array.toList_append,List.toList_toArray]
  exact List.take_left
 rcases hes2 with⟨rfl,rfl,rfl,rfl⟩ | ⟨b,cap,c,ce,rfl,p1,p2,p4,p5,p6,rfl⟩
 ·have hi:i=0:=by simpa using h1
  exact endgrow none 0 hi (by simp) (by simp) (fun _=>rfl) (fun a h=>by cases h)
 ·have hcs:∀ j v,ccs[j]?=some v→c[j]?=some v:=fun j v h=>by
   rw[← p6,List.getElem?_take] at h
   split at h
   ·simpa using h
   ·cases h
  have hcw:∀ j v,ccs[j]?=some v→w.cell? ⟨b,j,none⟩=some v:=fun j v h=>by rw[cell_of_heap p4]; exact hcs j v h
  have hbb:b<w.heap.size:=hFl b (by simp)
  have hnd2:=hFn
  simp only[bC,aZ,List.cons_append,List.nodup_cons,aT,List.mem_cons,not_or] at hnd2
  have hne:vb≠b:=fun e=>hnd2.1.2.1 e.symm
  have hbe:b∉Fe:=hnd2.1.1
  have hby:b∉Fy:=hnd2.1.2.2
  have hbF:b∉F':=fun h=>by
   rcases (hperm b).1 h with h | h
   ·exact hbe h
   ·exact hby h
  have hbN:¬ N b:=fun h=>(hN b h).2 (by simp)
  have hmax:cap≤9223372036854775807:=by unfold maxLen at p2; omega
  have hct:c.toList.take (i*5)=ccs.take (i*5):=by rw[← p6,List.take_take]; congr 1; omega
  have fin:∀ (w1:World) (row:Array Value),w1.os=w.os→w1.tape=w.tape→w1.output=w.output→w1.heap.size=w.heap.size→w.drawn≤w1.drawn→(∀ k,k≠b→w1.heap[k]?=w.heap[k]?)→w1.heap[b]?=some (.cells row ce (0,0))→row.size=cap*5→es.length+1≤cap→
   row.toList.take ((es.length+1)*5)=ccs.take (i*5)++vccs++ccs.drop (i*5)→
   ∃ v F,Ending.returned (.slice (some ⟨b,0,none⟩) (es.length+1) cap)=.returned v∧KeepX (b::Fe++([]++(vb::Fy++[]))) w.heap.size w w1∧
    RepR (fun k=>N k∨((w.heap.size≤k∨k∈b::Fe++([]++(vb::Fy++[])))∧k<w1.heap.size∧k∉F)) w1 (.sl true 5 (es.take i++[y]++es.drop i)) v F∧F.Nodup∧∀ k∈F,(w.heap.size≤k∨k∈b::Fe++([]++(vb::Fy++[])))∧k<w1.heap.size:=by
   intro w1 row q1 q2 q3 q4 qd q5 q6 q7 q8 q9
   exact out w1 b cap row ce hbF hbe hby hbN (.inr (by simp)) (by omega) ⟨q1,q2,q3,by omega,fun k _ hk=>q5 k (fun e=>hk (by simp[e])),fun _=>qd⟩ (fun k hk _=>q5 k hk) q8 p2 q6 q7 q9
  by_cases hroom:es.length+1≤cap
  ·have hsp:∀ j,j<(es.length+1)*5→(w.cell? ⟨b,j,none⟩).isSome=true:=fun j hj=>by
    rw[cell_of_heap p4,Array.getElem?_eq_getElem (by omega)]; rfl
   by_cases hi:i=es.length
   ·have:=ier_ b es.length cap vb 0 vcap vccs w hroom hmax hvl (fun j hj=>hsp _ (by omega)) (fun j hj=>frozen_of_heap p4 _) hvs h1v
    rw[← hi] at this
    rw[← hi] at fin ⊢
    refine this.mono ?_
    rintro e w' ⟨rfl,rfl⟩
    rw[sCe_ w b (i*5) ce c _ p4 (by rw[hvl]; omega) h1v]
    refine fin _ _ rfl rfl rfl (by simp[World.setRow]) (by first | exact a6 _ | exact Nat.le_succ _ | exact Nat.le_succ_of_le (Nat.le_succ _) | exact Nat.le_succ_of_le (Nat.le_succ_of_le (Nat.le_succ _))) (fun k hk=>setRow_other w _ _ _ hk) (setRow_heap w _ _ _ _ _ p4) ?_ (by omega) ?_
    ·simp only[List.size_toArray,aP,List.length_take,List.length_drop,Array.length_toList,hvl]; omega
    ·simp only[List.toList_toArray]
     rw[hct,List.drop_of_length_le (show ccs.length≤i*5 by omega),aZ,show(i+1)*5=(ccs.take (i*5)++vccs).length by rw[aP,htl,hvl]; omega]
     exact List.take_left
   ·have:=is_3 b es.length cap i vb 0 vcap ccs vccs w (by omega) hroom hmax hne hcsl hvl hcw hsp (fun j hj=>frozen_of_heap p4 _) hvs h1c h1v ve ce vc.size c.size (by simp[World.shape?,m4]) (by simp[World.shape?,p4]) (by omega) (frozen_of_heap m4 _) (frozen_of_heap m4 _)
    refine this.mono ?_
    rintro e w' ⟨rfl,rfl⟩
    have p4':w.drew.heap[b]?=some (.cells c ce (0,0)):=p4
    have e1:=sCe_ w.drew b ((i+1)*5) ce c (ccs.drop (i*5)) p4' (by rw[hdl]; omega) (fun v hv=>h1c v (List.mem_of_mem_drop hv))
    rw[e1]
    have p5':=setRow_heap w.drew b _ (c.toList.take ((i+1)*5)++ccs.drop (i*5)++c.toList.drop ((i+1)*5+(ccs.drop (i*5)).length)).toArray _ _ p4'
    have s1:(c.toList.take ((i+1)*5)++ccs.drop (i*5)++c.toList.drop ((i+1)*5+(ccs.drop (i*5)).length)).length=cap*5:=by
     simp only[aP,List.length_take,List.length_drop,Array.length_toList,hcsl]; omega
    have e2:=sCe_ _ b (i*5) ce _ vccs p5' (by rw[List.size_toArray,s1,hvl]; omega) h1v
    rw[e2]
    refine fin _ _ rfl rfl rfl (by simp[World.setRow]) (by first | exact a6 _ | exact Nat.le_succ _ | exact Nat.le_succ_of_le (Nat.le_succ _) | exact Nat.le_succ_of_le (Nat.le_succ_of_le (Nat.le_succ _))) (fun k hk=>(setRow_other _ _ _ _ hk).trans (setRow_other w.drew _ _ _ hk)) (setRow_heap _ _ _ _ _ _ p5') ?_ hroom ?_
    ·simp only[List.size_toArray,aP,List.length_take,List.length_drop,Array.length_toList,hcsl,hvl]; omega
    ·simp only[List.toList_toArray]
     have tA:(c.toList.take ((i+1)*5)++ccs.drop (i*5)++c.toList.drop ((i+1)*5+(ccs.drop (i*5)).length)).take (i*5)=ccs.take (i*5):=by
      rw[aV,List.take_append_of_le_length (by rw[List.length_take,Array.length_toList]; omega),List.take_take,← hct]; congr 1; omega
     have tB:(c.toList.take ((i+1)*5)++ccs.drop (i*5)++c.toList.drop ((i+1)*5+(ccs.drop (i*5)).length)).drop (i*5+vccs.length)=ccs.drop (i*5)++c.toList.drop ((i+1)*5+(ccs.drop (i*5)).length):=by
      rw[aV,hvl,show i*5+5=(c.toList.take ((i+1)*5)).length by rw[List.length_take,Array.length_toList]; omega]
      exact List.drop_left
     rw[tA,tB,← aV,show(es.length+1)*5=(ccs.take (i*5)++vccs++ccs.drop (i*5)).length by rw[aP,aP,htl,hvl,hdl]; omega]
     exact List.take_left
  ·by_cases hi:i=es.length
   ·exact endgrow (some ⟨b,0,none⟩) cap hi p1 (by omega) (fun e=>by cases e) (fun a ha j v h=>by cases ha; rw[Addr.add_lit,Nat.zero_add]; exact hcw j v h)
   ·have:=ig_2 b es.length cap i vb 0 vcap ccs vccs w (by omega) p1 (by omega) (by omega) hcsl hvl hcw hvs h1c h1v
    refine this.mono ?_
    rintro e w' ⟨rfl,rfl⟩
    have hGn:es.length+1≤grownCap w (es.length+1) cap 41:=grownCap_ge w _ _ _
    have hGm:=grownCap_le_maxLen w (es.length+1) cap 41 (by unfold maxLen; omega)
    generalize grownCap w (es.length+1) cap 41=G at hGn hGm ⊢
    generalize hz:(Value.agg #[.int .i64 0,.string ⟨#[]⟩,.slice none 0 0,.string ⟨#[]⟩,.slice none 0 0]).cells=z
    have hz3:z.size=5:=by rw[← hz]; rfl
    generalize hR:(ccs.take (i*5)).toArray++Builtin.zeroCells z (es.length+1-i)++Builtin.zeroCells z (G-(es.length+1))=ROW
    have hRs:ROW.size=G*5:=by
     rw[← hR]
     simp only[Array.size_append,List.size_toArray,htl,szC_,hz3]; omega
    have hRt:ROW.toList.take (i*5)=ccs.take (i*5):=by
     rw[← hR]
     simp only[Array.toList_append,List.toList_toArray,aV]
     rw[List.take_append_of_le_length (by omega),List.take_of_length_le (by omega)]
    have q0:((w.alloc (.cells ROW 41)).drew).heap[w.heap.size]?=some (.cells ROW 41 (0,0)):=hpe_ (w:=w)
    have e1:=sCe_ ((w.alloc (.cells ROW 41)).drew) w.heap.size (i*5) 41 ROW vccs q0 (by rw[hRs,hvl]; omega) h1v
    rw[e1]
    have q1:=setRow_heap ((w.alloc (.cells ROW 41)).drew) w.heap.size _ (ROW.toList.take (i*5)++vccs++ROW.toList.drop (i*5+vccs.length)).toArray _ _ q0
    have s1:(ROW.toList.take (i*5)++vccs++ROW.toList.drop (i*5+vccs.length)).length=G*5:=by
     simp only[aP,List.length_take,List.length_drop,Array.length_toList,hRs,hvl]; omega
    have q1':((((w.alloc (.cells ROW 41)).drew).setRow w.heap.size (ROW.toList.take (i*5)++vccs++ROW.toList.drop (i*5+vccs.length)).toArray).drew).heap[w.heap.size]?=_:=q1
    have e2:=sCe_ _ w.heap.size ((i+1)*5) 41 _ (ccs.drop (i*5)) q1' (by rw[List.size_toArray,s1,hdl]; omega) (fun v hv=>h1c v (List.mem_of_mem_drop hv))
    rw[e2]
    obtain⟨n1,n2,n3,n4⟩:=newblk _ rfl
    refine out _ w.heap.size G _ 41 n1 n2 n3 n4 (.inl (a6 _)) (by simp[World.setRow]) ⟨rfl,rfl,rfl,by simp[World.setRow],fun k hk _=>(setRow_other _ _ _ _ (by omega)).trans ((setRow_other ((w.alloc (.cells ROW 41)).drew) _ _ _ (by omega)).trans (hpl_ (w:=w) hk)),fun _=>(by first | exact a6 _ | exact Nat.le_succ _ | exact Nat.le_succ_of_le (Nat.le_succ _) | exact Nat.le_succ_of_le (Nat.le_succ_of_le (Nat.le_succ _)))⟩ (fun k _ hk=>(setRow_other _ _ _ _ (by omega)).trans ((setRow_other ((w.alloc (.cells ROW 41)).drew) _ _ _ (by omega)).trans (hpl_ (w:=w) hk))) hGn hGm (setRow_heap _ _ _ _ _ _ q1') ?_ ?_
    ·simp only[List.size_toArray,aP,List.length_take,List.length_drop,Array.length_toList,hRs,hvl,hcsl]; omega
    ·simp only[List.toList_toArray]
     have tA:(ROW.toList.take (i*5)++vccs++ROW.toList.drop (i*5+vccs.length)).take ((i+1)*5)=ccs.take (i*5)++vccs:=by
      rw[hRt,show(i+1)*5=(ccs.take (i*5)++vccs).length by rw[aP,htl,hvl]; omega]
      exact List.take_left
     rw[tA,show(es.length+1)*5=(ccs.take (i*5)++vccs++ccs.drop (i*5)).length by rw[aP,aP,htl,hvl,hdl]; omega]
     exact List.take_left
theorem sIF_5{a0:List Ft}{a1:Int}{a2 r:List Ft}(h:sIF_3 a0 a1 a2=some r):
 Sat ah 106 [.sl true 5 (a0.map (Ft.pv true)),.lit (.int .i64 a1),.sl true 5 (a2.map (Ft.pv true))] (.sl true 5 (r.map (Ft.pv true))):=by
 unfold sIF_3 at h
 split at h
 case isFalse=>cases h
 case isTrue hh=>
 obtain⟨h0,h1,h2,h3⟩:=hh
 cases h
 obtain⟨x,rfl⟩:∃ x,a2=[x]:=by
  match a2,h2 with
  | [x],_=>exact⟨x,rfl⟩
 obtain⟨i,rfl⟩:∃ i:Nat,a1=(i:Int):=⟨a1.toNat,by omega⟩
 have:=sIP_ (es:=a0.map (Ft.pv true)) (y:=Ft.pv true x) (i:=i) (by rw[List.length_map]; omega) (by rw[List.length_map]; exact h3)
 rw[Int.toNat_natCast,List.map_append,List.map_append,List.map_take,List.map_drop]
 exact this
end
end Go.Proofs.YtafdgbndcflghaaGreat
