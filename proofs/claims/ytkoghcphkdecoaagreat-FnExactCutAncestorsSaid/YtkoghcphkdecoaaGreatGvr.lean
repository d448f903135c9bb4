/- A part of the proof: lemmas only; nothing is claimed here beyond what each lemma says. -/
import Derived.Test.YtkoghcphkdecoaaGreatGsrl
set_option linter.unusedSimpArgs false
set_option linter.unusedVariables false
set_option linter.defProp false
set_option maxRecDepth 4000
namespace Go.Proofs.YtkoghcphkdecoaaGreat
open Go.Av
mutual
def Term.vars:Term→List ByteArray
 | .mk x l=>bif isVarS x then [x] else Tv_ l
def Tv_:List Term→List ByteArray
 | []=>[]
 | a::l=>a.vars++Tv_ l
end
theorem Tvu_(t:Term):t.vars=bif isVarS t.Name then [t.Name] else Tv_ t.Args:=by cases t; rw[Term.vars]; rfl
theorem Term.cnt_u(t:Term):t.cnt=1+Term.cnts t.Args:=by cases t; rw[Term.cnt]; rfl
theorem nC_{t:Term}(h:t.good=true):(isVarS t.Name=true∧t.Args=[])∨(isVarS t.Name=false∧isSymS t.Name=true∧t.Args.length≤4∧∀ a∈t.Args,a.good=true):=by
 rw[Term.good_u] at h
 cases hv:isVarS t.Name
 ·rw[hv,cond_false] at h
  simp only[Bool.and_eq_true,decide_eq_true_eq,List.all_eq_true] at h
  exact Or.inr ⟨rfl,h.1.1,h.1.2,h.2⟩
 ·rw[hv,cond_true] at h
  exact Or.inl ⟨rfl,by simpa using h⟩
theorem iVg_{t:Term}(h:t.good=true):iiV_2 t=some (isVarS t.Name):=by
 unfold iiV_2
 rcases nC_ h with⟨hv,_⟩ | ⟨hv,hs,_⟩
 ·have h2:=hv
  unfold isVarS at h2
  rw[Bool.and_eq_true] at h2
  have hz:0<t.Name.size:=by have:=iRi_.1 h2.1; omega
  have h3:=List.all_eq_true.1 h2.2 0 (by simpa using hz)
  rw[sidx0 hz,Option.bind_some,iUe_,Option.bind_some,hv]
  simpa[varC] using h3
 ·have h2:=hs
  unfold isSymS at h2
  rw[Bool.and_eq_true,Bool.and_eq_true] at h2
  have hz:0<t.Name.size:=by have:=iRi_.1 h2.1.1; omega
  have h3:=List.all_eq_true.1 h2.1.2 0 (by simpa using hz)
  rw[sidx0 hz,Option.bind_some,iUe_,Option.bind_some,hv]
  have h4:cLow (byt t.Name 0)=true:=by simpa[symC] using h3
  have h5:=iRi_.1 h4
  congr 1
  rw[← Bool.not_eq_true]
  intro g
  have:=iRi_.1 g
  omega
def VS(Q:List ByteArray→Prop)(acc v:List ByteArray)(vs:List ByteArray)(c:Nat):Prop:=(∀ x,x∈v↔x∈acc∨x∈vs)∧v.length≤acc.length+c∧(Q acc→Q v)
theorem vl_1(Q:List ByteArray→Prop)(F:Nat→List ByteArray→Term→Option (List ByteArray))(N:Nat):∀ (l:List Term) (i:Nat) (acc:List ByteArray),
  (∀ a∈l,∀ acc,Q acc→acc.length+a.cnt≤1000→∃ v,(∀ n,N≤n→F n acc a=some v)∧VS Q acc v a.vars a.cnt)→Q acc→acc.length+Term.cnts l≤1000→
  ∃ v,(∀ n,N≤n→forL (ρ:=List ByteArray) (fun _ x s=>(F n s x).bind fun w=>some (.nx w)) l i acc=some (.inr v))∧VS Q acc v (Tv_ l) (Term.cnts l)
 | [],i,acc,_,hq,_=>⟨acc,fun _ _=>rfl,fun x=>by simp[Tv_],by simp[Term.cnts],id⟩
 | a::l,i,acc,h,hq,hb=>by
  simp only[Term.cnts] at hb
  obtain⟨v,h1,h2,h3,h4⟩:=h a (by simp) acc hq (by omega)
  obtain⟨w,g1,g2,g3,g4⟩:=vl_1 Q F N l (i+1) v (fun b hb=>h b (by simp[hb])) (h4 hq) (by omega)
  refine⟨w,fun n hn=>?_,fun x=>?_,?_,fun q=>g4 (h4 q)⟩
  ·rw[fLn_ (s':=v) (by rw[h1 n hn]; rfl),g1 n hn]
  ·rw[g2,h2,Tv_,List.mem_append,or_assoc]
  ·simp only[Term.cnts]; omega
theorem cNo_(t:Term):t.good=true→∀ acc,True→acc.length+t.cnt≤1000→∃ v,(∀ n,2*SizeOf.sizeOf t≤n→icN_1 n acc t=some v)∧VS (fun _=>True) acc v t.vars t.cnt:=by
 refine Term.ind' (M:=fun t=>t.good=true→∀ acc,True→acc.length+t.cnt≤1000→∃ v,(∀ n,2*SizeOf.sizeOf t≤n→icN_1 n acc t=some v)∧VS (fun _=>True) acc v t.vars t.cnt) (fun t ih hg acc _ hb=>?_) t
 have hp:=t.pos
 have hiv:=iVg_ hg
 rcases nC_ hg with⟨hv,ha⟩ | ⟨hv,hs,_,hall⟩
 ·rw[Tvu_,hv,cond_true]
  have hc:=t.cnt_pos
  refine⟨bif acc.any (fun v=>decide (t.Name=v)) then acc else acc++[t.Name],fun n hn=>?_,fun x=>?_,?_,fun _=>trivial⟩
  ·cases n with
   | zero=>omega
   | succ n=>
    rw[icN_1,hiv,hv,ha]
    simp only[Option.bind_some,List.length_nil,Cs_]
    cases acc.any (fun v=>decide (t.Name=v))
    ·simp only[cond_false,cond_true,app]
     rw[if_pos (by simp only[List.length_cons,List.length_nil]; omega)]; rfl
    ·rfl
  ·cases e:acc.any (fun v=>decide (t.Name=v))
   ·simp
   ·rw[cond_true]
    rw[List.any_eq_true] at e
    obtain⟨y,y1,y2⟩:=e
    have y2:=of_decide_eq_true y2
    refine⟨Or.inl,fun g=>g.elim id fun g=>?_⟩
    rw[List.mem_singleton] at g
    rw[g,y2]; exact y1
  ·cases acc.any (fun v=>decide (t.Name=v))
   ·simp only[cond_false,List.length_append,List.length_cons,List.length_nil]; omega
   ·simp only[cond_true]; omega
 ·rw[Tvu_,hv,cond_false]
  have hcu:=t.cnt_u
  obtain⟨v,h1,h2,h3,h4⟩:=vl_1 (fun _=>True) (fun n s x=>icN_1 n s x) (2*SizeOf.sizeOf t-1) t.Args 0 acc (fun a ha acc _ hb=>by
   obtain⟨v,k1,k2⟩:=ih a ha (hall a ha) acc trivial hb
   exact⟨v,fun n hn=>k1 n (by have:=Term.lt ha; omega),k2⟩) trivial (by omega)
  refine⟨v,fun n hn=>?_,h2,by omega,h4⟩
  cases n with
  | zero=>omega
  | succ n=>
   rw[icN_1,hiv,hv]
   simp only[Option.bind_some,cond_false,Bool.cond_self,fNi_]
   rw[h1 n (by omega)]; rfl
theorem lPe_(x:ByteArray)(l:List ByteArray)(hl:l.length≤1048576):slP_3 l x=some (putS x l):=by
 unfold slP_3
 have tl:∀ {β:Type} (K:List ByteArray→Option β) (pre rest:List ByteArray),pre.length+rest.length≤1048576→(Option.bind (slc (pre++rest) (0:Int) (pre.length:Int)) fun v36=>Option.bind (app ([]) v36) fun v37=>Option.bind (app v37 ([x])) fun v40=>Option.bind (slc (pre++rest) (pre.length:Int) ((pre++rest).length:Int)) fun v43=>Option.bind (app v40 v43) fun v44=>K v44)=K (pre++x::rest):=by
  intro β K pre rest h
  have e1:slc (pre++rest) (0:Int) (pre.length:Int)=some pre:=by
   unfold slc; rw[if_pos ⟨by omega,by omega,by simp; omega⟩]; simp
  have e2:slc (pre++rest) (pre.length:Int) ((pre++rest).length:Int)=some rest:=by
   unfold slc; rw[if_pos ⟨by omega,by simp; omega,by omega⟩]; simp only[Int.toNat_natCast,List.take_length,List.drop_left]
  rw[e1,e2]
  simp only[Option.bind_some,app,List.length_nil,Nat.zero_add,List.nil_append]
  rw[if_pos (by omega)]
  simp only[Option.bind_some,List.length_cons,List.length_nil]
  rw[if_pos (by omega)]
  simp only[Option.bind_some,List.length_append,List.length_cons,List.length_nil]
  rw[if_pos (by omega)]
  simp
 have key:∀ (rest pre:List ByteArray),pre.length+rest.length≤1048576→
   thenL (ρ:=List ByteArray) (forN (fun (i2:Nat) (s2:Unit)=>
    Option.bind (idx (pre++rest) (i2:Int)) fun v13=>
    bif Op.bytesLess v13.data.toList x.data.toList then some (.nx ())
    else Option.bind (idx (pre++rest) (i2:Int)) fun v27=>bif decide (v27=x) then some (.rt (pre++rest)) else
     Option.bind (slc (pre++rest) (0:Int) (i2:Int)) fun v36=>Option.bind (app ([]) v36) fun v37=>Option.bind (app v37 ([x])) fun v40=>Option.bind (slc (pre++rest) (i2:Int) ((pre++rest).length:Int)) fun v43=>Option.bind (app v40 v43) fun v44=>some (.rt v44)) rest.length pre.length ()) (fun _=>
    Option.bind (slc (pre++rest) (0:Int) (((pre++rest).length:Nat):Int)) fun v36=>Option.bind (app ([]) v36) fun v37=>Option.bind (app v37 ([x])) fun v40=>Option.bind (slc (pre++rest) (((pre++rest).length:Nat):Int) ((pre++rest).length:Int)) fun v43=>Option.bind (app v40 v43) fun v44=>some v44)=some (pre++putS x rest):=by
  intro rest
  induction rest with
  | nil=>
   intro pre h
   have:=tl some pre [] (by simpa using h)
   simpa[putS,forN,tLi_] using this
  | cons y rest ih=>
   intro pre h
   simp only[putS,List.length_cons]
   by_cases hy:slt y x=true
   ·rw[fNn_ (s':=()) (by rw[im_,Option.bind_some,show Op.bytesLess y.data.toList x.data.toList=true from hy]; rfl),if_pos hy]
    have:=ih (pre++[y]) (by simp at h ⊢; omega)
    simpa using this
   ·have hy':Op.bytesLess y.data.toList x.data.toList=false:=by simpa[slt] using hy
    by_cases e:y=x
    ·rw[fNr_ (r:=pre++y::rest) (by rw[im_,Option.bind_some,hy',cond_false,Option.bind_some,decide_eq_true e]; rfl),tLi_1,if_neg hy,if_pos e]
    ·rw[fNr_ (r:=pre++x::y::rest) (by
      rw[im_,Option.bind_some,hy',cond_false,Option.bind_some,decide_eq_false e,cond_false]
      exact tl (fun v=>some (Flow.rt v)) pre (y::rest) h),tLi_1,if_neg hy,if_neg e]
 exact key l [] (by simpa using hl)
end Go.Proofs.YtkoghcphkdecoaaGreat
