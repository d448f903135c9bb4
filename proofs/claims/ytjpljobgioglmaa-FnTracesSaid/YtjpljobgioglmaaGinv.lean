/- Lemmas of the proof; each says what it shows. -/
import Derived.Test.YtjpljobgioglmaaGins
import Derived.Test.YtjpljobgioglmaaGm
set_option linter.unusedSimpArgs false
set_option linter.unusedVariables false
set_option linter.defProp false
set_option maxRecDepth 4000
namespace Go.Proofs.Ytjpljobgioglmaa
open Go.Shelf Go.RowKit Go.Lib Go.Av
open List renaming length_append→aI,length_cons→a9,length_nil→bj,length_map→aO,append_assoc→aP
open Nat renaming le_refl→aZ
open Sa renaming pv→az
def cellsE(x:Sa):List Value:=[.int .i64 x.From,.int .i64 x.To,.bool x.Strict]
theorem repE_inv{N:Nat→Prop}{w:World}:∀ (xs:List Sa) (cs:List Value) (F:List Nat),RepCs N w (xs.map (az false)) cs F→cs=xs.flatMap cellsE∧F=[]
 | [],cs,F,h=>by simp only[List.map_nil,RepCs] at h; exact⟨h.1,h.2⟩
 | x::xs,cs,F,h=>by
  simp only[List.map_cons,RepCs] at h
  obtain⟨c1,c2,F1,F2,rfl,rfl,h3,h4⟩:=h
  obtain⟨rfl,rfl⟩:=repE_inv xs _ _ h4
  simp only[Sa.pv_u,RepC,RepCs] at h3
  obtain⟨a1,b1,G1,H1,e1,e2,⟨e3,_,e4⟩,a2,b2,G2,H2,e5,e6,⟨e7,_,e8⟩,a3,b3,G3,H3,e9,e10,⟨e11,_,e12⟩,e13,e14⟩:=h3
  subst e13 e14 e11 e12 e9 e10 e7 e8 e5 e6 e3 e4 e1 e2
  exact⟨rfl,rfl⟩
theorem repE_mk{N:Nat→Prop}{w:World}:∀ (xs:List Sa),RepCs N w (xs.map (az false)) (xs.flatMap cellsE) []
 | []=>by simp[RepCs]
 | x::xs=>by
  simp only[List.map_cons,RepCs]
  refine⟨cellsE x,xs.flatMap cellsE,[],[],rfl,rfl,?_,repE_mk xs⟩
  simp only[Sa.pv_u,RepC,RepCs]
  exact⟨[_],_,[],[],rfl,rfl,⟨rfl,rfl,rfl⟩,[_],_,[],[],rfl,rfl,⟨rfl,rfl,rfl⟩,[_],_,[],[],rfl,rfl,⟨rfl,rfl,rfl⟩,rfl,rfl⟩
theorem lenE:∀ xs:List Sa,(xs.flatMap cellsE).length=xs.length*3
 | []=>rfl
 | x::xs=>by rw[List.flatMap_cons,aI,lenE xs,a9]; simp only[cellsE,a9,bj]; omega
theorem takeE:∀ (xs:List Sa) (i:Nat),(xs.flatMap cellsE).take (i*3)=(xs.take i).flatMap cellsE
 | [],i=>by simp
 | x::xs,0=>by simp
 | x::xs,i+1=>by
  rw[List.flatMap_cons,List.take_succ_cons,List.flatMap_cons,← takeE xs i,show(i+1)*3=(cellsE x).length+i*3 by simp only[cellsE,a9,bj]; omega,List.take_length_add_append]
theorem dropE:∀ (xs:List Sa) (i:Nat),(xs.flatMap cellsE).drop (i*3)=(xs.drop i).flatMap cellsE
 | [],i=>by simp
 | x::xs,0=>by simp
 | x::xs,i+1=>by
  rw[List.flatMap_cons,List.drop_succ_cons,← dropE xs i,show(i+1)*3=(cellsE x).length+i*3 by simp only[cellsE,a9,bj]; omega,List.drop_length_add_append]
theorem oneE{xs:List Sa}:∀ v∈xs.flatMap cellsE,v.oneCell'=true:=fun v h=>by
 obtain⟨x,_,h⟩:=List.mem_flatMap.1 h
 simp only[cellsE,List.mem_cons,List.not_mem_nil,or_false] at h
 rcases h with rfl | rfl | rfl<;>rfl
theorem setCells_eq(w:World)(g o:Nat)(e:TypeId)(cur:Array Value)(vs:List Value)(hg:w.heap[g]?=some (.cells cur e (0,0)))(hfit:o+vs.length≤cur.size)(h1:∀ v∈vs,v.oneCell'=true):
 w.setCells g o vs=w.setRow g (cur.toList.take o++vs++cur.toList.drop (o+vs.length)).toArray:=by
 have e1:=run_storeCells_at Try.prog g o e vs 0 cur w hg (by simpa using hfit) h1
 have e2:=run_storeCells_cells (P:=Try.prog) g o vs 0 w (fun j hj=>by
  rw[cell_of_heap hg,Array.getElem?_eq_getElem (by omega)]; rfl) (fun j hj=>frozen_of_heap hg _) h1
 rw[e1] at e2
 simp only[Nat.add_zero] at e2
 injection e2 with _ e3
 exact e3.symm
theorem slices_InsertE_sat{a0:List Sa}{a1:Int}{a2 r:List Sa}(h:slices_InsertE a0 a1 a2=some r):
 Sat Try.prog 73 [.sl true 3 (a0.map (az false)),.lit (.int .i64 a1),.sl true 3 (a2.map (az false))] (.sl true 3 (r.map (az false))):=by
 unfold slices_InsertE at h
 split at h
 case isFalse=>cases h
 case isTrue hh=>
 obtain⟨h0,h1,h2,h3⟩:=hh
 cases h
 obtain⟨x,rfl⟩:∃ x,a2=[x]:=by
  match a2,h2 with
  | [x],_=>exact⟨x,rfl⟩
 obtain⟨i,rfl⟩:∃ i:Nat,a1=(i:Int):=⟨a1.toNat,by omega⟩
 rw[Int.toNat_natCast]
 refine⟨⟨_,Try.func73,by kernel_rfl,by kernel_rfl⟩,fun w N vs Fs hN hFn hFl hvs=>?_⟩
 simp only[RepVs,RepV] at hvs
 obtain⟨v0,_,F0,_,rfl,rfl,g0,v1,_,F1,_,rfl,rfl,g1,v2,_,F2,_,rfl,rfl,g2,rfl,rfl⟩:=hvs
 simp only[RepC,List.cons.injEq,and_true] at g1
 obtain⟨rfl,_,rfl⟩:=g1
 simp only[RepC] at g2
 rcases g2 with⟨_,e,_⟩ | ⟨vb,vcap,vc,ve,F2',vccs,e2,m1,m2,m3,m4,m5,m6,m7,rfl⟩
 ·simp at e
 simp only[List.cons.injEq,and_true] at e2
 subst e2
 obtain⟨m8,rfl⟩:=repE_inv [x] _ _ m7
 subst m8
 have hvl:([x].flatMap cellsE).length=3:=by rw[lenE]; rfl
 have hvs:∀ j v,([x].flatMap cellsE)[j]?=some v→w.cell? ⟨vb,0+j,none⟩=some v:=fun j v hj=>by
  rw[Nat.zero_add,cell_of_heap m4]
  rw[← m6,List.getElem?_take] at hj
  split at hj
  ·simpa using hj
  ·cases hj
 have hvb:vb<w.heap.size:=hFl vb (by simp)
 have hcsl:=lenE a0
 have hnew:∀ {N':Nat→Prop} {w':World},RepCs N' w' ((a0.take i++[x]++a0.drop i).map (az false)) ((a0.flatMap cellsE).take (i*3)++[x].flatMap cellsE++(a0.flatMap cellsE).drop (i*3)) []:=fun {N' w'}=>by
  rw[takeE,dropE,← List.flatMap_append,← List.flatMap_append]
  exact repE_mk _
 have hlen:(a0.take i++[x]++a0.drop i).length=a0.length+1:=by
  simp only[aI,List.length_take,List.length_drop,a9,bj]; omega
 have hpsz:∀ p∈(a0.take i++[x]++a0.drop i).map (az false),PV.size p=3:=fun p hp=>by
  obtain⟨y,_,rfl⟩:=List.mem_map.1 hp
  exact Sa.psize _ y
 have hrow:∀ {N':Nat→Prop} {w':World} {b cap:Nat} {c:Array Value} {e:TypeId},a0.length+1≤cap→cap≤maxLen→w'.heap[b]?=some (.cells c e (0,0))→c.size=cap*3→
  c.toList.take ((a0.length+1)*3)=(a0.flatMap cellsE).take (i*3)++[x].flatMap cellsE++(a0.flatMap cellsE).drop (i*3)→
  RepR N' w' (.sl true 3 ((a0.take i++[x]++a0.drop i).map (az false))) (.slice (some ⟨b,0,none⟩) (a0.length+1) cap) [b]:=fun {N' w' b cap c e} q1 q2 q3 q4 q5=>by
  refine repR_sl ?_
  simp only[RepC]
  exact .inr ⟨b,cap,c,e,[],_,by rw[aO,hlen],by rw[aO,hlen]; exact q1,q2,hpsz,q3,q4,by rw[aO,hlen]; exact q5,hnew,rfl⟩
 have hgl:∀ G:Nat,a0.length+1≤G→∀ z:Array Value,z.size=3→(((a0.flatMap cellsE)++[x].flatMap cellsE).toArray++Builtin.zeroCells z (G-(a0.length+1))).size=G*3:=fun G hG z hz=>by
  simp only[Array.size_append,List.size_toArray,aI,hcsl,hvl,size_zeroCells',hz]
  omega
 have endgrow:∀ (base:Option Addr) (c:Nat),i=a0.length→a0.length≤c→c<a0.length+1→(base=none→a0.length=0)→(∀ a,base=some a→∀ j v,(a0.flatMap cellsE)[j]?=some v→w.cell? (a.add j)=some v)→
  Calls Try.prog 73 #[.slice base a0.length c,.int .i64 i,.slice (some ⟨vb,0,none⟩) 1 vcap] w fun e w'=>∃ v F,e=.returned v∧KeepX (F0++([]++(vb::[]++[]))) w.heap.size w w'∧
   RepR (fun b=>N b∨((w.heap.size≤b∨b∈F0++([]++(vb::[]++[])))∧b<w'.heap.size∧b∉F)) w' (.sl true 3 ((a0.take i++[x]++a0.drop i).map (az false))) v F∧F.Nodup∧∀ b∈F,(w.heap.size≤b∨b∈F0++([]++(vb::[]++[])))∧b<w'.heap.size:=by
  intro base c hi hnc hc hnil hcs
  subst hi
  have:=ins_end_grow base a0.length c vb 0 vcap (a0.flatMap cellsE) ([x].flatMap cellsE) w hnc hc (by omega) hcsl hvl hnil hcs hvs oneE
  refine this.mono ?_
  rintro e w' ⟨rfl,rfl⟩
  refine⟨_,[w.heap.size],rfl,⟨rfl,rfl,rfl,by simp,fun k hk _=>heap_push_lt (w:=w.drew) hk,fun _=>(by first | exact aZ _ | exact Nat.le_succ _ | exact Nat.le_succ_of_le (Nat.le_succ _) | exact Nat.le_succ_of_le (Nat.le_succ_of_le (Nat.le_succ _)))⟩,?_,by simp,?_⟩
  ·refine hrow (e:=72) (grownCap_ge w _ _ _) (grownCap_le_maxLen w _ c 72 (by unfold maxLen; omega)) (heap_push_eq (w:=w.drew)) (hgl _ (grownCap_ge w _ _ _) (Value.agg #[.int .i64 0,.int .i64 0,.bool false]).cells rfl) ?_
   have e1:(a0.flatMap cellsE).take (a0.length*3)=a0.flatMap cellsE:=List.take_of_length_le (by omega)
   have e2:(a0.flatMap cellsE).drop (a0.length*3)=[]:=List.drop_of_length_le (by omega)
   rw[e1,e2,List.append_nil,show(a0.length+1)*3=(a0.flatMap cellsE++[x].flatMap cellsE).length by rw[aI,hcsl,hvl]; omega]
   simp only[Array.toList_append,List.toList_toArray]
   exact List.take_left
  ·intro b hb
   rw[List.mem_singleton] at hb
   subst hb
   exact⟨.inl (aZ _),by simp⟩
 simp only[RepC] at g0
 rcases g0 with⟨g0,gn,rfl⟩ | ⟨b,cap,c,ce,F0',ccs,g0,p1,p2,p3,p4,p5,p6,p7,rfl⟩
 ·simp only[List.cons.injEq,and_true] at g0
  subst g0
  have hn:a0.length=0:=by rw[← aO (f:=az false),gn]; rfl
  have hi:i=a0.length:=by omega
  have:=endgrow none 0 hi (by omega) (by omega) (fun _=>hn) (fun a h=>by cases h)
  rw[hn] at this
  exact this
 ·simp only[List.cons.injEq,and_true] at g0
  subst g0
  rw[aO] at p1 p6 ⊢
  obtain⟨p8,rfl⟩:=repE_inv a0 _ _ p7
  subst p8
  have hcs:∀ j v,(a0.flatMap cellsE)[j]?=some v→c[j]?=some v:=fun j v h=>by
   rw[← p6,List.getElem?_take] at h
   split at h
   ·simpa using h
   ·cases h
  have hcw:∀ j v,(a0.flatMap cellsE)[j]?=some v→w.cell? ⟨b,j,none⟩=some v:=fun j v h=>by rw[cell_of_heap p4]; exact hcs j v h
  have hbb:b<w.heap.size:=hFl b (by simp)
  have hne:vb≠b:=by
   rintro rfl
   simp at hFn
  have hmax:cap≤9223372036854775807:=by unfold maxLen at p2; omega
  have hdl:((a0.flatMap cellsE).drop (i*3)).length=(a0.length-i)*3:=by rw[List.length_drop,hcsl]; omega
  have htl:((a0.flatMap cellsE).take (i*3)).length=i*3:=by rw[List.length_take,hcsl]; omega
  have hct:c.toList.take (i*3)=(a0.flatMap cellsE).take (i*3):=by rw[← p6,List.take_take]; congr 1; omega
  have fin:∀ (w1:World) (row:Array Value),w1.os=w.os→w1.tape=w.tape→w1.output=w.output→w1.heap.size=w.heap.size→w.drawn≤w1.drawn→(∀ k,k≠b→w1.heap[k]?=w.heap[k]?)→w1.heap[b]?=some (.cells row ce (0,0))→row.size=cap*3→a0.length+1≤cap→
   row.toList.take ((a0.length+1)*3)=(a0.flatMap cellsE).take (i*3)++[x].flatMap cellsE++(a0.flatMap cellsE).drop (i*3)→
   ∃ v F,Ending.returned (.slice (some ⟨b,0,none⟩) (a0.length+1) cap)=.returned v∧KeepX (b::[]++([]++(vb::[]++[]))) w.heap.size w w1∧
    RepR (fun k=>N k∨((w.heap.size≤k∨k∈b::[]++([]++(vb::[]++[])))∧k<w1.heap.size∧k∉F)) w1 (.sl true 3 ((a0.take i++[x]++a0.drop i).map (az false))) v F∧F.Nodup∧∀ k∈F,(w.heap.size≤k∨k∈b::[]++([]++(vb::[]++[])))∧k<w1.heap.size:=by
   intro w1 row q1 q2 q3 q4 qd q5 q6 q7 q8 q9
   refine⟨_,[b],rfl,⟨q1,q2,q3,by omega,fun k _ hk=>q5 k (fun e=>hk (by simp[e])),fun _=>qd⟩,hrow q8 p2 q6 q7 q9,by simp,fun k hk=>?_⟩
   rw[List.mem_singleton] at hk
   subst hk
   exact⟨.inr (by simp),by omega⟩
  by_cases hroom:a0.length+1≤cap
  ·have hsp:∀ j,j<(a0.length+1)*3→(w.cell? ⟨b,j,none⟩).isSome=true:=fun j hj=>by
    rw[cell_of_heap p4,Array.getElem?_eq_getElem (by omega)]; rfl
   by_cases hi:i=a0.length
   ·have:=ins_end_room b a0.length cap vb 0 vcap ([x].flatMap cellsE) w hroom hmax hvl (fun j hj=>hsp _ (by omega)) (fun j hj=>frozen_of_heap p4 _) hvs oneE
    rw[← hi] at this
    rw[← hi] at fin ⊢
    refine this.mono ?_
    rintro e w' ⟨rfl,rfl⟩
    rw[setCells_eq w b (i*3) ce c _ p4 (by rw[hvl]; omega) oneE]
    refine fin _ _ rfl rfl rfl (by simp[World.setRow]) (by first | exact aZ _ | exact Nat.le_succ _ | exact Nat.le_succ_of_le (Nat.le_succ _) | exact Nat.le_succ_of_le (Nat.le_succ_of_le (Nat.le_succ _))) (fun k hk=>setRow_other w _ _ _ hk) (setRow_heap w _ _ _ _ _ p4) ?_ (by omega) ?_
    ·simp only[List.size_toArray,aI,List.length_take,List.length_drop,Array.length_toList,hvl]; omega
    ·simp only[List.toList_toArray]
     rw[hct,List.drop_of_length_le (show(a0.flatMap cellsE).length≤i*3 by omega),List.append_nil,show(i+1)*3=((a0.flatMap cellsE).take (i*3)++[x].flatMap cellsE).length by rw[aI,htl,hvl]; omega]
     exact List.take_left
   ·have:=ins_shift b a0.length cap i vb 0 vcap (a0.flatMap cellsE) ([x].flatMap cellsE) w (by omega) hroom hmax hne hcsl hvl hcw hsp (fun j hj=>frozen_of_heap p4 _) hvs oneE oneE ve ce vc.size c.size (by simp[World.shape?,m4]) (by simp[World.shape?,p4]) (by omega) (frozen_of_heap m4 _) (frozen_of_heap m4 _)
    refine this.mono ?_
    rintro e w' ⟨rfl,rfl⟩
    have p4':w.drew.heap[b]?=some (.cells c ce (0,0)):=p4
    have e1:=setCells_eq w.drew b ((i+1)*3) ce c ((a0.flatMap cellsE).drop (i*3)) p4' (by rw[hdl]; omega) (fun v hv=>oneE v (List.mem_of_mem_drop hv))
    rw[e1]
    have p5':=setRow_heap w.drew b _ (c.toList.take ((i+1)*3)++(a0.flatMap cellsE).drop (i*3)++c.toList.drop ((i+1)*3+((a0.flatMap cellsE).drop (i*3)).length)).toArray _ _ p4'
    have s1:(c.toList.take ((i+1)*3)++(a0.flatMap cellsE).drop (i*3)++c.toList.drop ((i+1)*3+((a0.flatMap cellsE).drop (i*3)).length)).length=cap*3:=by
     simp only[aI,List.length_take,List.length_drop,Array.length_toList,hcsl]; omega
    have e2:=setCells_eq _ b (i*3) ce _ ([x].flatMap cellsE) p5' (by rw[List.size_toArray,s1,hvl]; omega) oneE
    rw[e2]
    refine fin _ _ rfl rfl rfl (by simp[World.setRow]) (by first | exact aZ _ | exact Nat.le_succ _ | exact Nat.le_succ_of_le (Nat.le_succ _) | exact Nat.le_succ_of_le (Nat.le_succ_of_le (Nat.le_succ _))) (fun k hk=>(setRow_other _ _ _ _ hk).trans (setRow_other w.drew _ _ _ hk)) (setRow_heap _ _ _ _ _ _ p5') ?_ hroom ?_
    ·simp only[List.size_toArray,aI,List.length_take,List.length_drop,Array.length_toList,hcsl,hvl]; omega
    ·simp only[List.toList_toArray]
     have tA:(c.toList.take ((i+1)*3)++(a0.flatMap cellsE).drop (i*3)++c.toList.drop ((i+1)*3+((a0.flatMap cellsE).drop (i*3)).length)).take (i*3)=(a0.flatMap cellsE).take (i*3):=by
      rw[aP,List.take_append_of_le_length (by rw[List.length_take,Array.length_toList]; omega),List.take_take,← hct]; congr 1; omega
     have tB:(c.toList.take ((i+1)*3)++(a0.flatMap cellsE).drop (i*3)++c.toList.drop ((i+1)*3+((a0.flatMap cellsE).drop (i*3)).length)).drop (i*3+([x].flatMap cellsE).length)=(a0.flatMap cellsE).drop (i*3)++c.toList.drop ((i+1)*3+((a0.flatMap cellsE).drop (i*3)).length):=by
      rw[aP,hvl,show i*3+3=(c.toList.take ((i+1)*3)).length by rw[List.length_take,Array.length_toList]; omega]
      exact List.drop_left
     rw[tA,tB,← aP,show(a0.length+1)*3=((a0.flatMap cellsE).take (i*3)++[x].flatMap cellsE++(a0.flatMap cellsE).drop (i*3)).length by rw[aI,aI,htl,hvl,hdl]; omega]
     exact List.take_left
  ·by_cases hi:i=a0.length
   ·have:=endgrow (some ⟨b,0,none⟩) cap hi p1 (by omega) (fun e=>by cases e) (fun a ha j v h=>by cases ha; rw[Addr.add_lit,Nat.zero_add]; exact hcw j v h)
    exact this
   ·have:=ins_grow b a0.length cap i vb 0 vcap (a0.flatMap cellsE) ([x].flatMap cellsE) w (by omega) p1 (by omega) (by omega) hcsl hvl hcw hvs oneE oneE
    refine this.mono ?_
    rintro e w' ⟨rfl,rfl⟩
    have hGn:a0.length+1≤grownCap w (a0.length+1) cap 72:=grownCap_ge w _ _ _
    have hGm:=grownCap_le_maxLen w (a0.length+1) cap 72 (by unfold maxLen; omega)
    generalize grownCap w (a0.length+1) cap 72=G at hGn hGm ⊢
    generalize hz:(Value.agg #[.int .i64 0,.int .i64 0,.bool false]).cells=z
    have hz3:z.size=3:=by rw[← hz]; rfl
    generalize hR:((a0.flatMap cellsE).take (i*3)).toArray++Builtin.zeroCells z (a0.length+1-i)++Builtin.zeroCells z (G-(a0.length+1))=ROW
    have hRs:ROW.size=G*3:=by
     rw[← hR]
     simp only[Array.size_append,List.size_toArray,htl,size_zeroCells',hz3]; omega
    have hRt:ROW.toList.take (i*3)=(a0.flatMap cellsE).take (i*3):=by
     rw[← hR]
     simp only[Array.toList_append,List.toList_toArray,aP]
     rw[List.take_append_of_le_length (by omega),List.take_of_length_le (by omega)]
    have q0:((w.alloc (.cells ROW 72)).drew).heap[w.heap.size]?=some (.cells ROW 72 (0,0)):=heap_push_eq (w:=w)
    have e1:=setCells_eq ((w.alloc (.cells ROW 72)).drew) w.heap.size (i*3) 72 ROW ([x].flatMap cellsE) q0 (by rw[hRs,hvl]; omega) oneE
    rw[e1]
    have q1:=setRow_heap ((w.alloc (.cells ROW 72)).drew) w.heap.size _ (ROW.toList.take (i*3)++[x].flatMap cellsE++ROW.toList.drop (i*3+([x].flatMap cellsE).length)).toArray _ _ q0
    have s1:(ROW.toList.take (i*3)++[x].flatMap cellsE++ROW.toList.drop (i*3+([x].flatMap cellsE).length)).length=G*3:=by
     simp only[aI,List.length_take,List.length_drop,Array.length_toList,hRs,hvl]; omega
    have q1':((((w.alloc (.cells ROW 72)).drew).setRow w.heap.size (ROW.toList.take (i*3)++[x].flatMap cellsE++ROW.toList.drop (i*3+([x].flatMap cellsE).length)).toArray).drew).heap[w.heap.size]?=_:=q1
    have e2:=setCells_eq _ w.heap.size ((i+1)*3) 72 _ ((a0.flatMap cellsE).drop (i*3)) q1' (by rw[List.size_toArray,s1,hdl]; omega) (fun v hv=>oneE v (List.mem_of_mem_drop hv))
    rw[e2]
    refine⟨_,[w.heap.size],rfl,⟨rfl,rfl,rfl,by simp[World.setRow],fun k hk _=>?_,fun _=>?_⟩,hrow hGn hGm (setRow_heap _ _ _ _ _ _ q1') ?_ ?_,by simp,fun k hk=>?_⟩
    ·exact(setRow_other _ _ _ _ (by omega)).trans ((setRow_other ((w.alloc (.cells ROW 72)).drew) _ _ _ (by omega)).trans (heap_push_lt (w:=w) hk))
    ·simp only[World.setRow,World.drew,World.alloc]; omega
    ·simp only[List.size_toArray,aI,List.length_take,List.length_drop,Array.length_toList,hRs,hvl,hcsl]; omega
    ·simp only[List.toList_toArray]
     have tA:(ROW.toList.take (i*3)++[x].flatMap cellsE++ROW.toList.drop (i*3+([x].flatMap cellsE).length)).take ((i+1)*3)=(a0.flatMap cellsE).take (i*3)++[x].flatMap cellsE:=by
      rw[hRt,show(i+1)*3=((a0.flatMap cellsE).take (i*3)++[x].flatMap cellsE).length by rw[aI,htl,hvl]; omega]
      exact List.take_left
     rw[tA,show(a0.length+1)*3=((a0.flatMap cellsE).take (i*3)++[x].flatMap cellsE++(a0.flatMap cellsE).drop (i*3)).length by rw[aI,aI,htl,hvl,hdl]; omega]
     exact List.take_left
    ·rw[List.mem_singleton] at hk
     subst hk
     exact⟨.inl (aZ _),by simp[World.setRow]⟩
end Go.Proofs.Ytjpljobgioglmaa
