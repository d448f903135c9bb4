/- A part of the proof: lemmas only; nothing is claimed here beyond what each lemma says. -/
import Derived.Test.YtkoghcphkdecoaaGreatGsrl
set_option linter.unusedSimpArgs false
set_option linter.unusedVariables false
set_option linter.defProp false
set_option maxRecDepth 4000
namespace Go.Proofs.YtkoghcphkdecoaaGreat
open Go.Av
open Bool renaming and_eq_true→aD
open List renaming length_nil→aW,length_cons→aP
open Option renaming bind_some→ak,bind→aa
mutual
def Tt.vars:Tt→List ByteArray
 | .mk x l=>bif isVarS x then [x] else Tv_ l
def Tv_:List Tt→List ByteArray
 | []=>[]
 | a::l=>a.vars++Tv_ l
end
theorem Tvu_(t:Tt):t.vars=bif isVarS t.Name then [t.Name] else Tv_ t.Args:=by cases t; rw[Tt.vars]; rfl
theorem Tt.cnt_u(t:Tt):t.cnt=1+Tt.cnts t.Args:=by cases t; rw[Tt.cnt]; rfl
theorem nC_{t:Tt}(h:t.good=true):(isVarS t.Name=true∧t.Args=[])∨(isVarS t.Name=false∧isSymS t.Name=true∧t.Args.length≤4∧∀ a∈t.Args,a.good=true):=by
 rw[Tt.good_u] at h
 cases hv:isVarS t.Name
 ·rw[hv,cond_false] at h
  simp only[aD,decide_eq_true_eq,List.all_eq_true] at h
  exact Or.inr ⟨rfl,h.1.1,h.1.2,h.2⟩
 ·rw[hv,cond_true] at h
  exact Or.inl ⟨rfl,by simpa using h⟩
theorem iVg_{t:Tt}(h:t.good=true):iiV_2 t=some (isVarS t.Name):=by
 unfold iiV_2
 rcases nC_ h with⟨hv,_⟩ | ⟨hv,hs,_⟩
 ·have h2:=hv
  unfold isVarS at h2
  rw[aD] at h2
  have hz:0<t.Name.size:=by have:=iRi_.1 h2.1; omega
  have h3:=List.all_eq_true.1 h2.2 0 (by simpa using hz)
  rw[sidx0 hz,ak,iUe_,ak,hv]
  simpa[varC] using h3
 ·have h2:=hs
  unfold isSymS at h2
  rw[aD,aD] at h2
  have hz:0<t.Name.size:=by have:=iRi_.1 h2.1.1; omega
  have h3:=List.all_eq_true.1 h2.1.2 0 (by simpa using hz)
  rw[sidx0 hz,ak,iUe_,ak,hv]
  have h4:cLow (byt t.Name 0)=true:=by simpa[symC] using h3
  have h5:=iRi_.1 h4
  congr 1
  rw[← Bool.not_eq_true]
  intro g
  have:=iRi_.1 g
  omega
def VS(Q:List ByteArray→Prop)(acc v:List ByteArray)(vs:List ByteArray)(c:Nat):Prop:=(∀ x,x∈v↔x∈acc∨x∈vs)∧v.length≤acc.length+c∧(Q acc→Q v)
theorem vl_1(Q:List ByteArray→Prop)(F:Nat→List ByteArray→Tt→Option (List ByteArray))(N:Nat):∀ (l:List Tt) (i:Nat) (acc:List ByteArray),
 (∀ a∈l,∀ acc,Q acc→acc.length+a.cnt≤1000→∃ v,(∀ n,N≤n→F n acc a=some v)∧VS Q acc v a.vars a.cnt)→Q acc→acc.length+Tt.cnts l≤1000→
 ∃ v,(∀ n,N≤n→forL (ρ:=List ByteArray) (fun _ x s=>(F n s x).bind fun w=>some (.nx w)) l i acc=some (.inr v))∧VS Q acc v (Tv_ l) (Tt.cnts l)
 | [],i,acc,_,hq,_=>⟨acc,fun _ _=>rfl,fun x=>by simp[Tv_],by simp[Tt.cnts],id⟩
 | a::l,i,acc,h,hq,hb=>by
  simp only[Tt.cnts] at hb
  obtain⟨v,h1,h2,h3,h4⟩:=h a (by simp) acc hq (by omega)
  obtain⟨w,g1,g2,g3,g4⟩:=vl_1 Q F N l (i+1) v (fun b hb=>h b (by simp[hb])) (h4 hq) (by omega)
  refine⟨w,fun n hn=>?_,fun x=>?_,?_,fun q=>g4 (h4 q)⟩
  ·rw[fLn_ (s':=v) (by rw[h1 n hn]; rfl),g1 n hn]
  ·rw[g2,h2,Tv_,List.mem_append,or_assoc]
  ·simp only[Tt.cnts]; omega
theorem cNo_(t:Tt):t.good=true→∀ acc,True→acc.length+t.cnt≤1000→∃ v,(∀ n,2*SizeOf.sizeOf t≤n→icN_1 n acc t=some v)∧VS (fun _=>True) acc v t.vars t.cnt:=by
 refine Tt.ind' (M:=fun t=>t.good=true→∀ acc,True→acc.length+t.cnt≤1000→∃ v,(∀ n,2*SizeOf.sizeOf t≤n→icN_1 n acc t=some v)∧VS (fun _=>True) acc v t.vars t.cnt) (fun t ih hg acc _ hb=>?_) t
 have hp:=t.pos
 have hiv:=iVg_ hg
 rcases nC_ hg with⟨hv,ha⟩ | ⟨hv,hs,_,hall⟩
 ·rw[Tvu_,hv,cond_true]
  have hc:=t.cnt_pos
  refine⟨bif acc.any (fun v=>decide (t.Name=v)) then acc else acc++[t.Name],fun n hn=>?_,fun x=>?_,?_,fun _=>trivial⟩
  ·cases n with
   | zero=>omega
   | succ n=>
    rw[icN_1,hiv,hv,ha]
    simp only[ak,aW,Cs_]
    cases acc.any (fun v=>decide (t.Name=v))
    ·simp only[cond_false,cond_true,app]
     rw[if_pos (by simp only[aP,aW]; omega)]; rfl
    ·rfl
  ·cases e:acc.any (fun v=>decide (t.Name=v))
   ·simp
   ·rw[cond_true]
    rw[List.any_eq_true] at e
    obtain⟨y,y1,y2⟩:=e
    have y2:=of_decide_eq_true y2
    refine⟨Or.inl,fun g=>g.elim id fun g=>?_⟩
    rw[List.mem_singleton] at g
    rw[g,y2]; exact y1
  ·cases acc.any (fun v=>decide (t.Name=v))
   ·simp only[cond_false,List.length_append,aP,aW]; omega
   ·simp only[cond_true]; omega
 ·rw[Tvu_,hv,cond_false]
  have hcu:=t.cnt_u
  obtain⟨v,h1,h2,h3,h4⟩:=vl_1 (fun _=>True) (fun n s x=>icN_1 n s x) (2*SizeOf.sizeOf t-1) t.Args 0 acc (fun a ha acc _ hb=>by
   obtain⟨v,k1,k2⟩:=ih a ha (hall a ha) acc trivial hb
   exact⟨v,fun n hn=>k1 n (by have:=Tt.lt ha; omega),k2⟩) trivial (by omega)
  refine⟨v,fun n hn=>?_,h2,by omega,h4⟩
  cases n with
  | zero=>omega
  | succ n=>
   rw[icN_1,hiv,hv]
   simp only[ak,cond_false,Bool.cond_self,fNi_]
   rw[h1 n (by omega)]; rfl
theorem lPe_(x:ByteArray)(l:List ByteArray)(hl:l.length≤1048576):slP_4 l x=some (putS x l):=by
 unfold slP_4
 have tl:∀ {β:Type} (K:List ByteArray→Option β) (pre rest:List ByteArray),pre.length+rest.length≤1048576→(aa (slc (pre++rest) (0:Int) (pre.length:Int)) fun v36=>aa (app ([]) v36) fun v37=>aa (app v37 ([x])) fun v40=>aa (slc (pre++rest) (pre.length:Int) ((pre++rest).length:Int)) fun v43=>aa (app v40 v43) fun v44=>K v44)=K (pre++x::rest):=by
  intro β K pre rest h
  have e1:slc (pre++rest) (0:Int) (pre.length:Int)=some pre:=by
   unfold slc; rw[if_pos ⟨by omega,by omega,by simp; omega⟩]; simp
  have e2:slc (pre++rest) (pre.length:Int) ((pre++rest).length:Int)=some rest:=by
   unfold slc; rw[if_pos ⟨by omega,by simp; omega,by omega⟩]; simp only[Int.toNat_natCast,List.take_length,List.drop_left]
  rw[e1,e2]
  simp only[ak,app,aW,Nat.zero_add,List.nil_append]
  rw[if_pos (by omega)]
  simp only[ak,aP,aW]
  rw[if_pos (by omega)]
  simp only[ak,List.length_append,aP,aW]
  rw[if_pos (by omega)]
  simp
 have key:∀ (rest pre:List ByteArray),pre.length+rest.length≤1048576→
  thenL (ρ:=List ByteArray) (forN (fun (i2:Nat) (s2:Unit)=>
   aa (idx (pre++rest) (i2:Int)) fun v13=>
   bif Op.bytesLess v13.data.toList x.data.toList then some (.nx ())
   else aa (idx (pre++rest) (i2:Int)) fun v27=>bif decide (v27=x) then some (.rt (pre++rest)) else
    aa (slc (pre++rest) (0:Int) (i2:Int)) fun v36=>aa (app ([]) v36) fun v37=>aa (app v37 ([x])) fun v40=>aa (slc (pre++rest) (i2:Int) ((pre++rest).length:Int)) fun v43=>aa (app v40 v43) fun v44=>some (.rt v44)) rest.length pre.length ()) (fun _=>
   aa (slc (pre++rest) (0:Int) (((pre++rest).length:Nat):Int)) fun v36=>aa (app ([]) v36) fun v37=>aa (app v37 ([x])) fun v40=>aa (slc (pre++rest) (((pre++rest).length:Nat):Int) ((pre++rest).length:Int)) fun v43=>aa (app v40 v43) fun v44=>some v44)=some (pre++putS x rest):=by
  intro rest
  induction rest with
  | nil=>
   intro pre h
   have:=tl some pre [] (by simpa using h)
   simpa[putS,forN,tLi_] using this
  | cons y rest ih=>
   intro pre h
   simp only[putS,aP]
   by_cases hy:slt y x=true
   ·rw[fNn_ (s':=()) (by rw[im_,ak,show Op.bytesLess y.data.toList x.data.toList=true from hy]; rfl),if_pos hy]
    have:=ih (pre++[y]) (by simp at h ⊢; omega)
    simpa using this
   ·have hy':Op.bytesLess y.data.toList x.data.toList=false:=by simpa[slt] using hy
    by_cases e:y=x
    ·rw[fNr_ (r:=pre++y::rest) (by rw[im_,ak,hy',cond_false,ak,decide_eq_true e]; rfl),tLi_1,if_neg hy,if_pos e]
    ·rw[fNr_ (r:=pre++x::y::rest) (by
      rw[im_,ak,hy',cond_false,ak,decide_eq_false e,cond_false]
      exact tl (fun v=>some (Flow.rt v)) pre (y::rest) h),tLi_1,if_neg hy,if_neg e]
 exact key l [] (by simpa using hl)
end Go.Proofs.YtkoghcphkdecoaaGreat
