/- A part of the proof: lemmas only; nothing is claimed here beyond what each lemma says. -/
import Derived.Test.YtkoghcphkdecoaaGreatGvr
set_option linter.unusedSimpArgs false
set_option linter.unusedVariables false
set_option linter.defProp false
set_option maxRecDepth 4000
namespace Go.Proofs.YtkoghcphkdecoaaGreat
open Go.Av
open List renaming length_cons→aP,length_nil→aW
open Option renaming bind_some→ak,bind→aa
open SizeOf renaming sizeOf→aw
open Tt renaming cnts→bq
theorem mapL{α β ρ:Type}{f:α→Option β}{g:α→β}:∀ (l:List α) (i:Nat) (s:List β),(∀ a∈l,f a=some (g a))→s.length+l.length≤1073741824→
 forL (ρ:=ρ) (fun _ x (s:List β)=>(f x).bind fun v=>(app s [v]).bind fun w=>some (.nx w)) l i s=some (.inr (s++l.map g))
 | [],i,s,_,_=>by simp[forL]
 | a::l,i,s,h,hb=>by
  simp only[aP] at hb
  rw[fLn_ (s':=s++[g a]) (by rw[h a (by simp),ak]; unfold app; rw[if_pos (by simp only[aP,aW]; omega)]; rfl),
   mapL l (i+1) _ (fun b hb=>h b (by simp[hb])) (by simp only[List.length_append,aP,aW]; omega)]
  simp
theorem setL{α β ρ:Type}(f:α→Option β)(g:α→β)(z:β):∀ (xs:List α) (pre:List β),(∀ x∈xs,f x=some (g x))→
 forL (ρ:=ρ) (fun i v s=>(f v).bind fun w=>(idx s (i:Int)).bind fun _=>(idx s (i:Int)).bind fun _=>some (.nx (s.set (i:Int).toNat w))) xs pre.length (pre++List.replicate xs.length z)=some (.inr (pre++xs.map g))
 | [],pre,_=>by simp[forL]
 | x::xs,pre,h=>by
  have hx:=h x (by simp)
  have e:(pre++List.replicate (x::xs).length z)[pre.length]?=some z:=by simp[List.replicate_succ]
  rw[fLn_ (s':=(pre++[g x])++List.replicate xs.length z) (by
   rw[hx,ak,in_,e,ak,ak,Int.toNat_natCast]
   simp[List.replicate_succ])]
  have:=setL (ρ:=ρ) f g z xs (pre++[g x]) (fun y hy=>h y (by simp[hy]))
  simp only[List.length_append,aP,aW,Nat.zero_add] at this
  rw[this]; simp
theorem cl_1:∀ l:List Tt,l.length≤bq l
 | []=>by simp
 | a::l=>by have:=cl_1 l; have:=a.cnt_pos; simp only[bq,aP]; omega
theorem cm_{a:Tt}:∀ {l:List Tt},a∈l→a.cnt≤bq l
 | b::l,h=>by
  simp only[bq]
  rcases List.mem_cons.1 h with rfl | h
  ·omega
  ·have:=cm_ h; omega
theorem ml_3{n:Nat}(h:n≤1073741824):mkn (n:Int)=some n:=by unfold mkn; rw[if_pos (by omega)]; simp
theorem ownTN(t:Tt):t.cnt≤10000000→∀ n,2*aw t≤n→slO_5 n t=some t:=by
 refine Tt.ind' (M:=fun t=>t.cnt≤10000000→∀ n,2*aw t≤n→slO_5 n t=some t) (fun t ih hc n hn=>?_) t
 have hp:=t.pos
 have hu:=t.cnt_u
 have hl:=cl_1 t.Args
 cases n with
 | zero=>omega
 | succ n=>
  rw[slO_5]
  simp only[fNi_]
  rw[mapL (f:=slO_5 n) (g:=fun x=>x) t.Args 0 [] (fun a ha=>ih a ha (by have:=cm_ ha; omega) n (by have:=Tt.lt ha; omega)) (by simp; omega),tLi_]
  simp[t.eta]
theorem ownT(t:Tt)(h:t.cnt≤10000000):slO_9 t=some t:=lim_eq ⟨_,ownTN t h⟩
theorem copyTN(t:Tt):t.cnt≤10000000→∀ n,3*aw t≤n→icT_ n t=some t:=by
 refine Tt.ind' (M:=fun t=>t.cnt≤10000000→∀ n,3*aw t≤n→icT_ n t=some t) (fun t ih hc n hn=>?_) t
 have hp:=t.pos
 have hu:=t.cnt_u
 have hl:=cl_1 t.Args
 obtain⟨m,rfl⟩:∃ m,n=m+2:=⟨n-2,by omega⟩
 show icT_ (m+2) _=_
 rw[icT_]
 show aa (icT_1 (m+1) t.Args) _=_
 rw[icT_1,iEd_]
 cases he:t.Args.isEmpty
 ·rw[cond_false,toL (f:=icT_ m) (g:=fun x=>x) (z:=(Tt.mk (⟨#[]⟩:ByteArray) ([]))) (xs:=t.Args) (fun a ha=>ih a ha (by have:=cm_ ha; omega) m (by have:=Tt.lt ha; omega)) (by omega)]
  simp[t.eta]
 ·have h0:t.Args=[]:=by simpa using he
  rw[cond_true,ak]
  conv=>rhs; rw[← t.eta,h0]
theorem copyT(t:Tt)(h:t.cnt≤10000000):icT_2 t=some t:=lim_eq ⟨_,copyTN t h⟩
theorem cot_{t:Tt}(h:t.tot≤1048576):t.cnt≤10000000:=by have:=Tt.cnt_tot t; omega
theorem Ft.tot_atom(a:Ft):a.Atom.tot≤a.tot:=by rw[Ft.tot_u]; omega
theorem Ftp_{a p:Ft}(h:p∈a.Parts):p.tot+1≤a.tot:=by
 have:=tm_ Ft.tot h
 rw[Ft.tot_u a]; omega
theorem Ft.tot_len(a:Ft):a.Parts.length≤a.tot:=by
 have:=ll_ Ft.tot a.Parts
 rw[Ft.tot_u a]; omega
theorem mPe_(a:Ft)(f:Ft→Option Ft)(g:Ft→Ft)(h:∀ p∈a.Parts,f p=some (g p))(ht:a.tot≤1048576):
 imP_2 a f=some (Ft.mk a.Op a.Atom a.Var (a.Parts.map g)):=by
 unfold imP_2
 rw[copyT _ (cot_ (by have:=a.tot_atom; omega)),ak]
 simp only[fNi_]
 rw[mapL (f:=f) (g:=g) a.Parts 0 [] h (by have:=a.tot_len; simp; omega),tLi_]
 simp
theorem copyFN(a:Ft):a.tot≤1048576→∀ n,2*aw a≤n→icF_ n a=some a:=by
 refine Ft.ind' (M:=fun a=>a.tot≤1048576→∀ n,2*aw a≤n→icF_ n a=some a) (fun a ih ht n hn=>?_) a
 have hp:=a.pos
 cases n with
 | zero=>omega
 | succ n=>
  rw[icF_,mPe_ a _ (fun x=>x) (fun p hp=>ih p hp (by have:=Ftp_ hp; omega) n (by have:=Ft.lt hp; omega)) ht]
  simp[a.eta]
theorem copyF(a:Ft)(h:a.tot≤1048576):icF_2 a=some a:=lim_eq ⟨_,copyFN a h⟩
theorem ownFN(a:Ft):a.tot≤1048576→∀ n,2*aw a≤n→slO_4 n a=some a:=by
 refine Ft.ind' (M:=fun a=>a.tot≤1048576→∀ n,2*aw a≤n→slO_4 n a=some a) (fun a ih ht n hn=>?_) a
 have hp:=a.pos
 cases n with
 | zero=>omega
 | succ n=>
  rw[slO_4,ownT _ (cot_ (by have:=a.tot_atom; omega)),ak]
  simp only[fNi_]
  rw[mapL (f:=slO_4 n) (g:=fun x=>x) a.Parts 0 [] (fun p hp=>ih p hp (by have:=Ftp_ hp; omega) n (by have:=Ft.lt hp; omega)) (by have:=a.tot_len; simp; omega),tLi_]
  simp[a.eta]
theorem ownF(a:Ft)(h:a.tot≤1048576):slO_3 a=some a:=lim_eq ⟨_,ownFN a h⟩

mutual
def sbT(n:ByteArray)(t:Tt):Tt→Tt
 | .mk x l=>bif l.isEmpty&&decide (x=n) then t else .mk x (sbTs n t l)
def sbTs(n:ByteArray)(t:Tt):List Tt→List Tt
 | []=>[]
 | a::l=>sbT n t a::sbTs n t l
end
theorem sTe_1(n:ByteArray)(t:Tt)(l:List Tt):sbTs n t l=l.map (sbT n t):=by
 induction l with
 | nil=>rfl
 | cons a l ih=>rw[sbTs,ih]; rfl
theorem sbT_u(n:ByteArray)(t a:Tt):sbT n t a=bif a.Args.isEmpty&&decide (a.Name=n) then t else .mk a.Name (a.Args.map (sbT n t)):=by cases a; rw[sbT,sTe_1]; rfl
theorem lPe_1(n:ByteArray)(t:Tt)(h:t.cnt≤10000000):slP_7 ⟨[]⟩ n t=some (bif decide (t.Name=n) then⟨[]⟩ else⟨[⟨n,t⟩]⟩):=by
 unfold slP_7
 cases decide (t.Name=n)
 ·simp only[cond_false,aW,fNz_,tLi_,ownT t h]
  rfl
 ·rfl
def one(n:ByteArray)(t:Tt):Sb:=bif decide (t.Name=n) then⟨[]⟩ else⟨[⟨n,t⟩]⟩
theorem fo_2(n:ByteArray)(t:Tt)(x:ByteArray):slF_4 (one n t) x=some (bif decide (t.Name=n) then -1 else bif decide (n=x) then 0 else -1):=by
 unfold one
 cases decide (t.Name=n)
 ·simp only[cond_false,slF_4,aP,aW]
  show thenL (forN _ (0+1) 0 ()) _=_
  cases e:decide (n=x)
  ·rw[fNn_ (s':=()) (by show aa (some _) _=_; rw[ak,e]; rfl)]; rfl
  ·rw[fNr_ (r:=((0:Nat):Int)) (by show aa (some _) _=_; rw[ak,e]; rfl)]; rfl
 ·rfl
theorem sn_3{n:ByteArray}{t a:Tt}(hn:isVarS n=true)(ha:isVarS a.Name=false):sbT n t a=.mk a.Name (a.Args.map (sbT n t)):=by
 rw[sbT_u,decide_eq_false (fun e=>by rw[e,hn] at ha; cases ha),Bool.and_false,cond_false]
theorem lAN_{n:ByteArray}{t:Tt}(hn:isVarS n=true)(ht:t.cnt≤10000000)(hg:t.good=true)(a:Tt):a.Ok→a.good=true→∀ k,2*aw a≤k→slA_ k (one n t) a=some (sbT n t a):=by
 refine Tt.ind' (M:=fun a=>a.Ok→a.good=true→∀ k,2*aw a≤k→slA_ k (one n t) a=some (sbT n t a)) (fun a ih hok hga k hk=>?_) a
 have hp:=a.pos
 cases k with
 | zero=>omega
 | succ k=>
  rw[slA_,lVe_ _ hok.u.1,ak]
  rcases nC_ hga with⟨hv,ha⟩ | ⟨hv,hs,h4,hall⟩
  ·rw[hv,cond_true,fo_2,ak,sbT_u,ha]
   by_cases e:t.Name=n
   ·rw[decide_eq_true e,cond_true]
    have hta:t.Args=[]:=by
     rcases nC_ hg with⟨_,h⟩ | ⟨h,_⟩
     ·exact h
     ·rw[e,hn] at h; cases h
    rw[show decide ((0:Int)≤-1)=false from rfl,cond_false]
    by_cases e2:a.Name=n
    ·rw[decide_eq_true e2]
     have:t=⟨a.Name,[]⟩:=by rw[← t.eta,hta,e,e2]
     rw[this]; rfl
    ·rw[decide_eq_false e2]; rfl
   ·rw[decide_eq_false e,cond_false]
    by_cases e2:a.Name=n
    ·rw[decide_eq_true e2.symm,decide_eq_true e2,cond_true]
     have:one n t=⟨[⟨n,t⟩]⟩:=by unfold one; rw[decide_eq_false e]; rfl
     rw[this,show decide ((0:Int)≤0)=true from rfl,cond_true]
     show aa (some _) _=_
     rw[ak,ownT t ht]; rfl
    ·rw[decide_eq_false (Ne.symm e2),decide_eq_false e2]; rfl
  ·rw[hv,cond_false,sn_3 hn hv]
   simp only[fNi_]
   rw[mapL (f:=slA_ k (one n t)) (g:=sbT n t) a.Args 0 [] (fun x hx=>ih x hx (hok.u.2.2 x hx) (hall x hx) k (by have:=Tt.lt hx; omega)) (by simp; omega),tLi_]
   simp
theorem lAa_{n:ByteArray}{t:Tt}(hn:isVarS n=true)(ht:t.cnt≤10000000)(hg:t.good=true){a:Tt}(hok:a.Ok)(hv:isVarS a.Name=false)(hall:∀ x∈a.Args,x.good=true)(hl:a.Args.length≤1000):slA_2 (one n t) a=some (sbT n t a):=by
 refine lim_eq ⟨2*aw a+1,fun k hk=>?_⟩
 cases k with
 | zero=>omega
 | succ k=>
  show slA_ (k+1) _ _=_
  rw[slA_,lVe_ _ hok.u.1,ak,hv,cond_false,sn_3 hn hv]
  simp only[fNi_]
  rw[mapL (f:=slA_ k (one n t)) (g:=sbT n t) a.Args 0 [] (fun x hx=>lAN_ hn ht hg x (hok.u.2.2 x hx) (hall x hx) k (by have:=Tt.lt hx; omega)) (by simp; omega),tLi_]
  simp
def cmp3(a b:ByteArray):Int:=if slt a b=true then -1 else if a=b then 0 else 1
theorem cmpStr(a b:ByteArray):cCs_ a b=some (cmp3 a b):=by
 have hz:∀ x:ByteArray,ciN_ x=some false:=fun x=>by simp[ciN_]
 unfold cCs_ cmp3
 rw[hz,hz]
 simp only[ak,cond_false]
 show(bif slt a b then _ else _)=_
 cases slt a b
 ·by_cases e:a=b
  ·rw[decide_eq_true e]; simp[e]; try omega
  ·rw[decide_eq_false e]; simp[e]
 ·rfl
theorem to_(n:ByteArray)(t:Tt)(x:ByteArray):iSt_1 ⟨[⟨n,t⟩]⟩ x=some (bif decide (n=x) then(t,true) else(Tt.mk (⟨#[]⟩:ByteArray) ([]),false)):=by
 unfold iSt_1
 have hc:∀ y0 y1,iSt_ y0 y1=some (cmp3 y0.Var y1):=fun y0 y1=>by unfold iSt_; rw[cmpStr]; rfl
 have key:sBS_ [⟨n,t⟩] x (fun y0 y1=>iSt_ y0 y1)=some (if cmp3 n x<0 then(1,false) else(0,decide (cmp3 n x=0))):=by
  unfold sBS_
  simp only[hc]
  have hs:shr .u64 (IntKind.u64.wrap (IntKind.i64.wrap ((0:Int)+((([⟨n,t⟩]:List Bt).length:Nat):Int)))) 1=some 0:=rfl
  have hl:decide ((0:Int)<((([⟨n,t⟩]:List Bt).length:Nat):Int))=true:=rfl
  by_cases h:cmp3 n x<0
  ·rw[lim_eq (r:=.inr ((1:Int),(1:Int))) ⟨2,fun k hk=>by
    obtain⟨m,rfl⟩:∃ m,k=m+2:=⟨k-2,by omega⟩
    show aa (bif decide ((0:Int)<((([⟨n,t⟩]:List Bt).length:Nat):Int)) then _ else _) _=_
    rw[hl,cond_true,hs,ak]
    show aa (bif decide (cmp3 n x<0) then _ else _) _=_
    rw[decide_eq_true h,cond_true,ak]
    rfl⟩,if_pos h]; rfl
  ·rw[lim_eq (r:=.inr ((0:Int),(0:Int))) ⟨2,fun k hk=>by
    obtain⟨m,rfl⟩:∃ m,k=m+2:=⟨k-2,by omega⟩
    show aa (bif decide ((0:Int)<((([⟨n,t⟩]:List Bt).length:Nat):Int)) then _ else _) _=_
    rw[hl,cond_true,hs,ak]
    show aa (bif decide (cmp3 n x<0) then _ else _) _=_
    rw[decide_eq_false h,cond_false,ak]
    rfl⟩,if_neg h]; rfl
 rw[key]
 unfold cmp3
 by_cases h:slt n x=true
 ·have hne:¬ n=x:=fun e=>by rw[e,si_1] at h; cases h
  rw[if_pos h,decide_eq_false hne]; rfl
 ·rw[if_neg h]
  by_cases e:n=x
  ·rw[if_pos e,decide_eq_true e]; rfl
  ·rw[if_neg e,decide_eq_false e]; rfl
theorem aNe_{n:ByteArray}{t:Tt}(ht:t.cnt≤10000000)(a:Tt):a.cnt≤10000000→∀ k,2*aw a≤k→iSa_ k ⟨[⟨n,t⟩]⟩ a=some (sbT n t a):=by
 refine Tt.ind' (M:=fun a=>a.cnt≤10000000→∀ k,2*aw a≤k→iSa_ k ⟨[⟨n,t⟩]⟩ a=some (sbT n t a)) (fun a ih hc k hk=>?_) a
 have hp:=a.pos
 have hu:=a.cnt_u
 have hl:=cl_1 a.Args
 cases k with
 | zero=>omega
 | succ k=>
  rw[iSa_,iEd_,sbT_u]
  cases he:a.Args.isEmpty
  ·rw[cond_false,ml_3 (by omega),ak,Bool.false_and,cond_false]
   simp only[fNi_]
   have:=setL (ρ:=Tt) (iSa_ k ⟨[⟨n,t⟩]⟩) (sbT n t) (Tt.mk (⟨#[]⟩:ByteArray) ([])) a.Args [] (fun x hx=>ih x hx (by have:=cm_ hx; omega) k (by have:=Tt.lt hx; omega))
   simp only[aW,List.nil_append] at this
   rw[this,tLi_]
  ·have h0:a.Args=[]:=by simpa using he
   rw[cond_true,to_,ak,Bool.true_and,h0]
   by_cases e:a.Name=n
   ·rw[decide_eq_true e.symm,decide_eq_true e,cond_true]
    simp only[cond_true,copyT t ht,ak]
   ·rw[decide_eq_false (Ne.symm e),decide_eq_false e]; rfl
theorem ae_{n:ByteArray}{t a:Tt}(ht:t.cnt≤10000000)(ha:a.cnt≤10000000):iSa_1 ⟨[⟨n,t⟩]⟩ a=some (sbT n t a):=lim_eq ⟨_,aNe_ ht a ha⟩

mutual
def Tt.occ(v:ByteArray):Tt→Nat
 | .mk x l=>(bif decide (x=v) then 1 else 0)+To_ v l
def To_(v:ByteArray):List Tt→Nat
 | []=>0
 | a::l=>a.occ v+To_ v l
end
theorem Tou_(v:ByteArray)(a:Tt):a.occ v=(bif decide (a.Name=v) then 1 else 0)+To_ v a.Args:=by cases a; rw[Tt.occ]; rfl
theorem cn_le(v:ByteArray)(a:Tt):a.occ v≤a.cnt:=by
 refine Tt.ind' (M:=fun a=>a.occ v≤a.cnt) (fun a ih=>?_) a
 have:∀ l:List Tt,(∀ x∈l,x.occ v≤x.cnt)→To_ v l≤bq l:=by
  intro l
  induction l with
  | nil=>intro _; simp[To_]
  | cons b l ihl=>intro h; have:=h b (by simp); have:=ihl (fun x hx=>h x (by simp[hx])); simp only[To_,bq]; omega
 have:=this a.Args ih
 rw[Tou_,a.cnt_u]
 cases decide (a.Name=v)<;>simp<;>omega
theorem cns_le(v:ByteArray):∀ l:List Tt,To_ v l≤bq l
 | []=>by simp[To_]
 | a::l=>by have:=cn_le v a; have:=cns_le v l; simp only[To_,bq]; omega
theorem cl_2(v:ByteArray)(f:Tt→Option Int):∀ (l:List Tt) (i s:Nat),(∀ x∈l,f x=some (x.occ v:Int))→s+To_ v l≤1000000000→
 forL (ρ:=Int) (fun _ x (s:Int)=>(f x).bind fun c=>some (.nx (IntKind.i64.wrap (s+c)))) l i (s:Int)=some (.inr ((s+To_ v l:Nat):Int))
 | [],i,s,_,_=>by simp[forL,To_]
 | a::l,i,s,h,hb=>by
  simp only[To_] at hb
  rw[fLn_ (s':=((s+a.occ v:Nat):Int)) (by rw[h a (by simp),ak,wrap64 (by omega) (by omega)]; simp),cl_2 v f l (i+1) _ (fun x hx=>h x (by simp[hx])) (by omega)]
  simp only[To_,Nat.add_assoc]
theorem cNe_(v:ByteArray)(a:Tt):a.cnt≤10000000→∀ n,2*aw a≤n→icN_ n a v=some (a.occ v:Int):=by
 refine Tt.ind' (M:=fun a=>a.cnt≤10000000→∀ n,2*aw a≤n→icN_ n a v=some (a.occ v:Int)) (fun a ih hc n hn=>?_) a
 have hp:=a.pos
 have hu:=a.cnt_u
 have hcl:=cns_le v a.Args
 cases n with
 | zero=>omega
 | succ n=>
  have hf:∀ x∈a.Args,icN_ n x v=some (x.occ v:Int):=fun x hx=>ih x hx (by have:=cm_ hx; omega) n (by have:=Tt.lt hx; omega)
  rw[icN_,Tou_]
  simp only[fNi_]
  cases decide (a.Name=v)
  ·have:=cl_2 v (fun x=>icN_ n x v) a.Args 0 0 hf (by omega)
   rw[cond_false,show((0:Nat):Int)=0 from rfl] at*
   rw[this,tLi_]; simp
  ·have:=cl_2 v (fun x=>icN_ n x v) a.Args 0 1 hf (by omega)
   rw[cond_true,show((1:Nat):Int)=1 from rfl] at*
   rw[this,tLi_]; simp
theorem cv_1{v:ByteArray}(hv:isVarS v=true)(a:Tt):a.good=true→(0<a.occ v↔v∈a.vars):=by
 refine Tt.ind' (M:=fun a=>a.good=true→(0<a.occ v↔v∈a.vars)) (fun a ih hg=>?_) a
 rw[Tou_,Tvu_]
 rcases nC_ hg with⟨h1,h2⟩ | ⟨h1,_,_,hall⟩
 ·rw[h1,cond_true,h2,List.mem_singleton]
  by_cases e:a.Name=v
  ·rw[decide_eq_true e]; simp[e]; try omega
  ·rw[decide_eq_false e]; simp[To_,Ne.symm e]
 ·rw[h1,cond_false,decide_eq_false (fun e=>by rw[e,hv] at h1; cases h1),cond_false,Nat.zero_add]
  have:∀ l:List Tt,(∀ x∈l,(0<x.occ v↔v∈x.vars))→(0<To_ v l↔v∈Tv_ l):=by
   intro l
   induction l with
   | nil=>intro _; simp[To_,Tv_]
   | cons b l ihl=>
    intro h
    simp only[To_,Tv_,List.mem_append]
    rw[← h b (by simp),← ihl (fun x hx=>h x (by simp[hx]))]; omega
  exact this a.Args (fun x hx=>ih x hx (hall x hx))
def hasV(v:ByteArray)(l:List ByteArray):Bool:=l.any fun y=>decide (v=y)
theorem hVi_{v:ByteArray}{l:List ByteArray}:hasV v l=true↔v∈l:=by
 unfold hasV; rw[List.any_eq_true]
 exact⟨fun ⟨y,h1,h2⟩=>by rw[of_decide_eq_true h2]; exact h1,fun h=>⟨v,h,decide_eq_true rfl⟩⟩
theorem hVc_{v:ByteArray}{l m:List ByteArray}(h:v∈l↔v∈m):hasV v l=hasV v m:=by
 rw[Bool.eq_iff_iff,hVi_,hVi_]; exact h
theorem oe_{v:ByteArray}(hv:isVarS v=true){a:Tt}(hg:a.good=true)(hc:a.cnt≤10000000):io_ v a=some (hasV v a.vars):=by
 unfold io_
 rw[show icN_2 a v=some (a.occ v:Int) from lim_eq ⟨_,cNe_ v a hc⟩,ak]
 congr 1
 rw[Bool.eq_iff_iff,hVi_,← cv_1 hv a hg,decide_eq_true_iff]
 omega
theorem lIe_1(l:List ByteArray)(v:ByteArray):slI_5 l v=some (hasV v l):=by
 unfold slI_5
 simp only[fNi_]
 have:∀ (l:List ByteArray) (i:Nat),thenL (ρ:=Bool) (forL (fun _ x (_:Unit)=>bif decide (x=v) then some (.rt true) else some (.nx ())) l i ()) (fun _=>some false)=some (hasV v l):=by
  intro l
  induction l with
  | nil=>intro i; rfl
  | cons y l ih=>
   intro i
   by_cases e:y=v
   ·rw[fLr_ (r:=true) (by rw[decide_eq_true e]; rfl),tLi_1]; simp[hasV,e]
   ·rw[fLn_ (s':=()) (by rw[decide_eq_false e]; rfl),ih]; simp[hasV,Ne.symm e]
 exact this l 0
end Go.Proofs.YtkoghcphkdecoaaGreat
