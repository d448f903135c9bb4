/- Lemmas of the proof; each says what it shows. -/
import Derived.Test.YtkmfaliedpidbaaGp
import Derived.Test.YtkmfaliedpidbaaAvZ
import Derived.Test.YtkmfaliedpidbaaGlin
import Derived.Test.YtkmfaliedpidbaaGm
set_option linter.unusedSimpArgs false
set_option linter.unusedVariables false
set_option linter.defProp false
namespace Go.Proofs.Ytkmfaliedpidbaa
open Go.Av
open Bool renaming and_eq_true→ar
open GMap renaming get→aw,empty→aM
open List renaming mem_cons→aV,length_cons→aJ,length_nil→ba,length_map→aB
open Option renaming bind_some→ag,bind→ae
section
theorem we_(a lo hi:Int):iw_ a lo hi=some (inR a lo hi):=ciR_ a lo hi
theorem lIe_(a lo hi:Int):slI_ a lo hi=some (inR a lo hi):=ciR_ a lo hi
end
section
def cLow(c:Int):Bool:=inR c 97 122
def cUp(c:Int):Bool:=inR c 65 90
def cDig(c:Int):Bool:=inR c 48 57
theorem iLe_(c:Int):iiL_ c=some (cLow c):=ciR_ c 97 122
theorem iUe_(c:Int):iiU_ c=some (cUp c):=ciR_ c 65 90
theorem iDe_(c:Int):iiD_ c=some (cDig c):=ciR_ c 48 57
theorem lSe_1(c:Int):slS_2 c=some (cLow c||cDig c):=by
 unfold slS_2 cLow cDig inR
 by_cases h1:(97:Int)≤c<;>by_cases h2:c≤(122:Int)<;>by_cases h3:(48:Int)≤c<;>by_cases h4:c≤(57:Int)<;>simp[h1,h2,h3,h4]
def varC(s:ByteArray)(j:Nat):Bool:=if j=0 then cUp (byt s 0) else(cLow (byt s j)||cDig (byt s j))
def iVS_(s:ByteArray):Bool:=inR (s.size:Int) 1 4&&(List.range s.size).all (varC s)
theorem iVe_(s:ByteArray)(hb:Big s.size):iiV_ s=some (iVS_ s):=by
 unfold iiV_
 rw[bn_ hb,ag,fNa_ (varC s)]
 ·simp only[we_,ag,iVS_]
  cases (List.range s.size).all (varC s)<;>cases inR (s.size:Int) 1 4<;>rfl
 ·intro j hj _
  simp only[sn_1 hj,ag,iUe_,iLe_,iDe_,varC]
  by_cases h0:j=0
  ·subst h0
   cases cUp (byt s 0)<;>rfl
  ·have h1:¬ ((j:Int)=0):=by omega
   have h2:(0:Int)<(j:Int):=by omega
   rw[decide_eq_false h1,decide_eq_true h2,if_neg h0]
   cases cLow (byt s j)<;>cases cDig (byt s j)<;>rfl
theorem lVe_(s:ByteArray)(hb:Big s.size):slV_ s=some (iVS_ s):=by
 unfold slV_
 rw[lIe_,ag]
 unfold iVS_
 cases hr:inR (s.size:Int) 1 4
 ·rfl
 ·have hs:0<s.size:=by have:=iRi_.1 hr; omega
  simp only[cond_true,Bool.true_and]
  rw[sidx0 hs,ag]
  by_cases h0:cUp (byt s 0)=true
  ·have hu:=iRi_.1 h0
   rw[decide_eq_false (by omega),cond_false,ag,decide_eq_false (by omega),cond_false,bn_ hb,ag,fNa_2 (varC s) hs (by simp[varC,h0])]
   ·cases (List.range s.size).all (varC s)<;>rfl
   ·intro j hj0 hj _
    simp only[sn_1 hj,ag,lSe_1,varC]
    rw[if_neg (by omega)]
    cases (cLow (byt s j)||cDig (byt s j))<;>rfl
  ·have h1:(List.range s.size).all (varC s)=false:=List.all_eq_false.2 ⟨0,by simp; omega,by simp[varC,h0]⟩
   rw[h1]
   have hu:¬ (65≤byt s 0∧byt s 0≤90):=by intro g; exact h0 (iRi_.2 g)
   by_cases g:byt s 0<65
   ·rw[decide_eq_true g]; rfl
   ·rw[decide_eq_false g,cond_false,ag,decide_eq_true (by omega)]; rfl
def linC(l:Lt)(j:Nat):Bool:=iVS_ (l.Vars.getD j default)&&inR (l.Slopes.getD j default) 1 1000&&(decide (j=0)||slt (l.Vars.getD (j-1) default) (l.Vars.getD j default))
def vL_(l:Lt):Bool:=decide (l.Vars.length≤8)&&decide (l.Slopes.length=l.Vars.length)&&inR l.Constant 0 100000&&(List.range l.Vars.length).all (linC l)
theorem okStr{l:List ByteArray}(h:LOk (fun s:ByteArray=>Big s.size) l){j:Nat}(hj:j<l.length):Big (l.getD j default).size:=h.2 _ (gDm_ hj)
theorem implL(l:Lt)(h:l.Ok):iIV_ l=some (vL_ l):=by
 unfold iIV_ vL_
 by_cases h8:l.Vars.length≤8
 ·rw[decide_eq_false (show ¬ (8:Int)<(l.Vars.length:Int) by omega),cond_false,decide_eq_true h8]
  by_cases hs:l.Slopes.length=l.Vars.length
  ·rw[decide_eq_true (show(l.Slopes.length:Int)=(l.Vars.length:Int) by omega),cond_true,decide_eq_true hs,we_,ag]
   cases hc:inR l.Constant 0 100000
   ·rfl
   ·rw[cond_true,fNa_ (linC l)]
    ·cases (List.range l.Vars.length).all (linC l)<;>rfl
    ·intro j hj _
     have hv:=okStr h.1 hj
     simp only[igD_ hj,igD_ (xs:=l.Slopes) (i:=j) (by omega),ag,iVe_ _ hv,we_,linC]
     by_cases h0:j=0
     ·subst h0
      cases iVS_ (l.Vars.getD 0 default)<;>cases inR (l.Slopes.getD 0 default) 1 1000<;>rfl
     ·have h2:(0:Int)<(j:Int):=by omega
      rw[decide_eq_true h2,decide_eq_false h0,ip_ hj (by omega) (by have:=h.1.1; simp only[Big] at this; omega),ag]
      have key:=sl_3 (l.Vars.getD j default) (l.Vars.getD (j-1) default)
      unfold slt at key
      rw[key]
      unfold slt
      cases iVS_ (l.Vars.getD j default)<;>cases inR (l.Slopes.getD j default) 1 1000<;>cases Op.bytesLess (l.Vars.getD (j-1) default).data.toList (l.Vars.getD j default).data.toList<;>rfl
  ·rw[decide_eq_false (show ¬ (l.Slopes.length:Int)=(l.Vars.length:Int) by omega),decide_eq_false hs]; rfl
 ·rw[decide_eq_true (show(8:Int)<(l.Vars.length:Int) by omega),decide_eq_false h8]; rfl
theorem specL(l:Lt)(h:l.Ok):slL_1 l=some (vL_ l):=by
 unfold slL_1 vL_
 by_cases h8:l.Vars.length≤8
 ·rw[decide_eq_false (show ¬ (8:Int)<(l.Vars.length:Int) by omega),cond_false,decide_eq_true h8]
  by_cases hs:l.Slopes.length=l.Vars.length
  ·rw[decide_eq_true (show(l.Slopes.length:Int)=(l.Vars.length:Int) by omega),cond_true,decide_eq_true hs,lIe_,ag]
   cases hc:inR l.Constant 0 100000
   ·rfl
   ·rw[cond_true,fNa_ (linC l)]
    ·cases (List.range l.Vars.length).all (linC l)<;>rfl
    ·intro j hj _
     have hv:=okStr h.1 hj
     simp only[igD_ hj,igD_ (xs:=l.Slopes) (i:=j) (by omega),ag,lVe_ _ hv,lIe_,linC]
     by_cases h0:j=0
     ·subst h0
      cases iVS_ (l.Vars.getD 0 default)<;>cases inR (l.Slopes.getD 0 default) 1 1000<;>rfl
     ·have h2:(0:Int)<(j:Int):=by omega
      rw[decide_eq_true h2,decide_eq_false h0,ip_ hj (by omega) (by have:=h.1.1; simp only[Big] at this; omega),ag]
      unfold slt
      cases iVS_ (l.Vars.getD j default)<;>cases inR (l.Slopes.getD j default) 1 1000<;>cases Op.bytesLess (l.Vars.getD (j-1) default).data.toList (l.Vars.getD j default).data.toList<;>rfl
  ·rw[decide_eq_false (show ¬ (l.Slopes.length:Int)=(l.Vars.length:Int) by omega),decide_eq_false hs]; rfl
 ·rw[decide_eq_true (show(8:Int)<(l.Vars.length:Int) by omega),decide_eq_false h8]; rfl
end
section
def sZ_:List ByteArray→List Int→ByteArray→Int
 | v::vs,s::ss,n=>if v=n then s else sZ_ vs ss n
 | _,_,_=>0
theorem sZn_:∀ (vs:List ByteArray) (ss:List Int) (n:ByteArray),n∉vs→sZ_ vs ss n=0
 | [],ss,n,_=>by cases ss<;>rfl
 | v::vs,[],n,_=>rfl
 | v::vs,s::ss,n,h=>by
  simp only[aV,not_or] at h
  simp only[sZ_]
  rw[if_neg (Ne.symm h.1)]; exact sZn_ vs ss n h.2
theorem sZi_{lo hi:Int}:∀ (vs:List ByteArray) (ss:List Int) (n:ByteArray),n∈vs→vs.length=ss.length→(∀ s∈ss,lo≤s∧s≤hi)→lo≤sZ_ vs ss n∧sZ_ vs ss n≤hi
 | [],ss,n,h,_,_=>by simp at h
 | v::vs,[],n,_,h,_=>by simp at h
 | v::vs,s::ss,n,h,hl,hs=>by
  simp only[sZ_]
  by_cases e:v=n
  ·rw[if_pos e]; exact hs s (by simp)
  ·rw[if_neg e]
   rcases List.mem_cons.1 h with h | h
   ·exact absurd h.symm e
   ·exact sZi_ vs ss n h (by simpa using hl) (fun s hs'=>hs s (by simp[hs']))
theorem lSe_(l:Lt)(n:ByteArray)(hl:l.Slopes.length=l.Vars.length):slS_ l n=some (sZ_ l.Vars l.Slopes n):=by
 unfold slS_
 have key:∀ (vs pv:List ByteArray) (ss ps:List Int),ps.length=pv.length→ss.length=vs.length→
  thenL (ρ:=Int) (forN (fun (i2:Nat) (s2:Unit)=>ae (idx (pv++vs) (i2:Int)) fun v16=>bif decide (v16=n) then ae (idx (ps++ss) (i2:Int)) fun v23=>some (Flow.rt v23) else some (.nx ())) vs.length pv.length ()) (fun _=>some 0)=some (sZ_ vs ss n):=by
  intro vs
  induction vs with
  | nil=>intro pv ss ps _ h; cases ss<;>rfl
  | cons v vs ih=>
   intro pv ss ps hp h
   cases ss with
   | nil=>simp at h
   | cons s ss=>
    simp only[sZ_,aJ]
    by_cases e:v=n
    ·rw[fNr_ (r:=s) (by rw[im_,ag,decide_eq_true e,cond_true,← hp,im_]; rfl),if_pos e]; rfl
    ·rw[fNn_ (s':=()) (by rw[im_,ag,decide_eq_false e]; rfl),if_neg e]
     have:=ih (pv++[v]) ss (ps++[s]) (by simp[hp]) (by simpa using h)
     simpa using this
 exact key l.Vars [] l.Slopes [] rfl hl
theorem lPe_1(x:ByteArray)(l:List ByteArray)(hl:l.length≤1048576):slP_ l x=some (putS x l):=by
 unfold slP_
 have tl:∀ {β:Type} (K:List ByteArray→Option β) (pre rest:List ByteArray),pre.length+rest.length≤1048576→(ae (slc (pre++rest) (0:Int) (pre.length:Int)) fun v36=>ae (app ([]) v36) fun v37=>ae (app v37 ([x])) fun v40=>ae (slc (pre++rest) (pre.length:Int) ((pre++rest).length:Int)) fun v43=>ae (app v40 v43) fun v44=>K v44)=K (pre++x::rest):=by
  intro β K pre rest h
  have e1:slc (pre++rest) (0:Int) (pre.length:Int)=some pre:=by
   unfold slc; rw[if_pos ⟨by omega,by omega,by simp; omega⟩]; simp
  have e2:slc (pre++rest) (pre.length:Int) ((pre++rest).length:Int)=some rest:=by
   unfold slc; rw[if_pos ⟨by omega,by simp; omega,by omega⟩]; simp only[Int.toNat_natCast,List.take_length,List.drop_left]
  rw[e1,e2]
  simp only[ag,app,ba,Nat.zero_add,List.nil_append]
  rw[if_pos (by omega)]
  simp only[ag,aJ,ba]
  rw[if_pos (by omega)]
  simp only[ag,List.length_append,aJ,ba]
  rw[if_pos (by omega)]
  simp
 have key:∀ (rest pre:List ByteArray),pre.length+rest.length≤1048576→
  thenL (ρ:=List ByteArray) (forN (fun (i2:Nat) (s2:Unit)=>
   ae (idx (pre++rest) (i2:Int)) fun v13=>
   bif Op.bytesLess v13.data.toList x.data.toList then some (.nx ())
   else ae (idx (pre++rest) (i2:Int)) fun v27=>bif decide (v27=x) then some (.rt (pre++rest)) else
    ae (slc (pre++rest) (0:Int) (i2:Int)) fun v36=>ae (app ([]) v36) fun v37=>ae (app v37 ([x])) fun v40=>ae (slc (pre++rest) (i2:Int) ((pre++rest).length:Int)) fun v43=>ae (app v40 v43) fun v44=>some (.rt v44)) rest.length pre.length ()) (fun _=>
   ae (slc (pre++rest) (0:Int) (((pre++rest).length:Nat):Int)) fun v36=>ae (app ([]) v36) fun v37=>ae (app v37 ([x])) fun v40=>ae (slc (pre++rest) (((pre++rest).length:Nat):Int) ((pre++rest).length:Int)) fun v43=>ae (app v40 v43) fun v44=>some v44)=some (pre++putS x rest):=by
  intro rest
  induction rest with
  | nil=>
   intro pre h
   have:=tl some pre [] (by simpa using h)
   simpa[putS,forN,tLi_] using this
  | cons y rest ih=>
   intro pre h
   simp only[putS,aJ]
   by_cases hy:slt y x=true
   ·rw[fNn_ (s':=()) (by rw[im_,ag,show Op.bytesLess y.data.toList x.data.toList=true from hy]; rfl),if_pos hy]
    have:=ih (pre++[y]) (by simp at h ⊢; omega)
    simpa using this
   ·have hy':Op.bytesLess y.data.toList x.data.toList=false:=by simpa[slt] using hy
    by_cases e:y=x
    ·rw[fNr_ (r:=pre++y::rest) (by rw[im_,ag,hy',cond_false,ag,decide_eq_true e]; rfl),tLi_1,if_neg hy,if_pos e]
    ·rw[fNr_ (r:=pre++x::y::rest) (by
      rw[im_,ag,hy',cond_false,ag,decide_eq_false e,cond_false]
      exact tl (fun v=>some (Flow.rt v)) pre (y::rest) h),tLi_1,if_neg hy,if_neg e]
 exact key l [] (by simpa using hl)
def pA_(xs:List ByteArray)(l:List ByteArray):List ByteArray:=xs.foldl (fun l x=>putS x l) l
theorem pAm_(z:ByteArray):∀ (xs l:List ByteArray),z∈pA_ xs l↔z∈xs∨z∈l
 | [],l=>by simp[pA_]
 | x::xs,l=>by
  show z∈pA_ xs (putS x l)↔_
  rw[pAm_ z xs,pSm_,aV]
  constructor
  ·rintro (h | h | h)<;>simp[h]
  ·rintro ((h | h) | h)<;>simp[h]
theorem pAs_:∀ (xs l:List ByteArray),Srt l→Srt (pA_ xs l)
 | [],l,h=>h
 | x::xs,l,h=>pAs_ xs _ (pSs_ x l h)
theorem pAl_:∀ (xs l:List ByteArray),(pA_ xs l).length≤l.length+xs.length
 | [],l=>by simp[pA_]
 | x::xs,l=>by
  have:=pAl_ xs (putS x l)
  have:=pSl_ x l
  show(pA_ xs (putS x l)).length≤_
  simp only[aJ]; omega
theorem pl_1{ρ:Type}:∀ (xs:List ByteArray) (i:Nat) (l:List ByteArray),l.length+xs.length≤1048576→
 forL (ρ:=ρ) (fun _ (x:ByteArray) (s:List ByteArray)=>ae (slP_ s x) fun v=>some (.nx v)) xs i l=some (.inr (pA_ xs l))
 | [],i,l,_=>rfl
 | x::xs,i,l,h=>by
  simp only[aJ] at h
  have:=pSl_ x l
  rw[fLn_ (s':=putS x l) (by rw[lPe_1 x l (by omega)]; rfl),pl_1 xs (i+1) _ (by omega)]
  rfl
def nO_(a b:Lt):List ByteArray:=pA_ b.Vars (pA_ a.Vars [])
theorem lNe_(a b:Lt)(h:a.Vars.length+b.Vars.length≤1048576):slN_ a b=some (nO_ a b):=by
 unfold slN_
 have:=pAl_ a.Vars []
 simp only[ba] at this
 rw[fNi_1 a.Vars (fun _ v s=>ae (slP_ s v) fun w=>some (.nx w)) [],pl_1 a.Vars 0 [] (by simp; omega),tLi_,
  fNi_1 b.Vars (fun _ v s=>ae (slP_ s v) fun w=>some (.nx w)) _,pl_1 b.Vars 0 _ (by omega),tLi_]
 rfl
theorem nOm_(a b:Lt)(z:ByteArray):z∈nO_ a b↔z∈a.Vars∨z∈b.Vars:=by
 unfold nO_
 rw[pAm_,pAm_]
 simp[or_comm]
theorem nOs_(a b:Lt):Srt (nO_ a b):=pAs_ _ _ (pAs_ _ _ (by simp[Srt]))
theorem nOl_(a b:Lt):(nO_ a b).length≤a.Vars.length+b.Vars.length:=by
 have h1:=pAl_ a.Vars []
 have h2:=pAl_ b.Vars (pA_ a.Vars [])
 simp only[ba] at h1
 unfold nO_; omega
theorem vLi_{l:Lt}(h:vL_ l=true):l.Vars.length≤8∧l.Slopes.length=l.Vars.length∧(0≤l.Constant∧l.Constant≤100000)∧Srt l.Vars∧(∀ s∈l.Slopes,1≤s∧s≤1000)∧∀ v∈l.Vars,iVS_ v=true:=by
 simp only[vL_,ar,decide_eq_true_eq,List.all_eq_true,List.mem_range] at h
 obtain⟨⟨⟨h1,h2⟩,h3⟩,h4⟩:=h
 have h5:∀ j,j<l.Vars.length→iVS_ (l.Vars.getD j default)=true∧(1≤l.Slopes.getD j default∧l.Slopes.getD j default≤1000)∧(j=0∨slt (l.Vars.getD (j-1) default) (l.Vars.getD j default)=true):=by
  intro j hj
  have:=h4 j hj
  simp only[linC,ar,Bool.or_eq_true,decide_eq_true_eq] at this
  exact⟨this.1.1,iRi_.1 this.1.2,this.2⟩
 refine⟨h1,h2,iRi_.1 h3,?_,fun s hs=>?_,fun v hv=>?_⟩
 ·have gt:∀ (i k:Nat),i+(k+1)<l.Vars.length→slt (l.Vars.getD i default) (l.Vars.getD (i+(k+1)) default)=true:=by
   intro i k
   induction k with
   | zero=>
    intro hk
    have:=(h5 (i+1) (by omega)).2.2
    rcases this with h | h
    ·omega
    ·simpa using h
   | succ k ih=>
    intro hk
    have h6:=ih (by omega)
    have:=(h5 (i+(k+1)+1) (by omega)).2.2
    rcases this with h | h
    ·omega
    ·exact st_1 h6 h
  rw[Srt,List.pairwise_iff_getElem]
  intro i j hi hj hij
  have:=gt i (j-i-1) (by omega)
  rw[show i+(j-i-1+1)=j by omega] at this
  simpa[List.getD,hi,hj] using this
 ·obtain⟨j,hj,rfl⟩:=List.mem_iff_getElem.1 hs
  have:=(h5 j (by omega)).2.1
  simpa[List.getD,hj] using this
 ·obtain⟨j,hj,rfl⟩:=List.mem_iff_getElem.1 hv
  have:=(h5 j hj).1
  simpa[List.getD,hj] using this
theorem bv_{v:ByteArray}(h:iVS_ v=true):Big v.size:=by
 simp only[iVS_,ar] at h
 have:=iRi_.1 h.1
 simp only[Big]; omega
theorem le_1{m:GMap Int}(hm:GOk m)(c:Int)(hl:m.es.length≤1048576)(hv:∀ k∈Gak_ m,Big k.size)(hr:∀ k,InR (aw m k 0))(hc:InR c):
 il_ m c=some (bif vL_ ⟨nzk m,(nzk m).map fun k=>aw m k 0,c⟩ then(⟨nzk m,(nzk m).map fun k=>aw m k 0,c⟩,true) else(⟨[],[],0⟩,false)):=by
 unfold il_
 have hle:((m.es.filter fun e=>!decide (e.2.1=0)).map fun e=>e.1).length≤1048576:=by
  rw[aB]; exact Nat.le_trans (List.length_filter_le _ _) hl
 rw[if_pos (by omega)]
 unfold sSS_
 rw[if_pos (by omega),ag]
 show(ae (iIV_ (Lt.mk (nzk m) ((nzk m).map fun k=>aw m k 0) c)) _)=_
 have hn:(nzk m).length≤1048576:=by
  have:=(sBp_ ((m.es.filter fun e=>!decide (e.2.1=0)).map fun e=>e.1)).length_eq
  unfold nzk; omega
 rw[implL _ ⟨⟨by simp only[Big]; omega,fun k hk=>?_⟩,⟨by simp only[Big,aB]; omega,fun x hx=>?_⟩,hc⟩,ag]
 ·cases vL_ (Lt.mk (nzk m) ((nzk m).map fun k=>aw m k 0) c)<;>rfl
 ·refine hv k (Classical.byContradiction fun hn=>?_)
  exact(nm_ hm k).1 hk (gn_1 hn)
 ·obtain⟨k,_,rfl⟩:=List.mem_map.1 hx
  exact hr k
def foldP(u:Int→Int→Int):List ByteArray→List Int→GMap Int→GMap Int
 | v::vs,s::ss,m=>foldP u vs ss (GMap.put m v (u (aw m v 0) s))
 | _,_,m=>m
theorem fPo_1(u:Int→Int→Int):∀ (vs:List ByteArray) (ss:List Int) (m:GMap Int),GOk m→GOk (foldP u vs ss m)
 | [],ss,m,h=>by cases ss<;>exact h
 | v::vs,[],m,h=>h
 | v::vs,s::ss,m,h=>fPo_1 u vs ss _ (h.put _ _)
theorem fPl_(u:Int→Int→Int):∀ (vs:List ByteArray) (ss:List Int) (m:GMap Int),(foldP u vs ss m).es.length≤m.es.length+vs.length
 | [],ss,m=>by cases ss<;>simp[foldP]
 | v::vs,[],m=>by simp[foldP]
 | v::vs,s::ss,m=>by
  have h1:=fPl_ u vs ss (GMap.put m v (u (aw m v 0) s))
  have h2:=pl_3 m v (u (aw m v 0) s)
  simp only[foldP,aJ]; omega
theorem fPk_(u:Int→Int→Int)(z:ByteArray):∀ (vs:List ByteArray) (ss:List Int) (m:GMap Int),vs.length=ss.length→(z∈Gak_ (foldP u vs ss m)↔z∈vs∨z∈Gak_ m)
 | [],ss,m,_=>by cases ss<;>simp[foldP]
 | v::vs,[],m,h=>by simp at h
 | v::vs,s::ss,m,h=>by
  simp only[foldP,aV]
  rw[fPk_ u z vs ss _ (by simpa using h),pk_]
  constructor
  ·rintro (h | h | h)<;>simp[h]
  ·rintro ((h | h) | h)<;>simp[h]
theorem fPo_(u:Int→Int→Int)(z:ByteArray):∀ (vs:List ByteArray) (ss:List Int) (m:GMap Int),z∉vs→aw (foldP u vs ss m) z 0=aw m z 0
 | [],ss,m,_=>by cases ss<;>rfl
 | v::vs,[],m,_=>rfl
 | v::vs,s::ss,m,h=>by
  simp only[aV,not_or] at h
  simp only[foldP]
  rw[fPo_ u z vs ss _ h.2,pg_,if_neg (Ne.symm h.1)]
theorem fPi_(u:Int→Int→Int)(z:ByteArray):∀ (vs:List ByteArray) (ss:List Int) (m:GMap Int),vs.length=ss.length→vs.Nodup→z∈vs→aw (foldP u vs ss m) z 0=u (aw m z 0) (sZ_ vs ss z)
 | [],ss,m,_,_,h=>by simp at h
 | v::vs,[],m,h,_,_=>by simp at h
 | v::vs,s::ss,m,h,hn,hz=>by
  obtain⟨h1,h2⟩:=List.nodup_cons.1 hn
  simp only[foldP,sZ_]
  by_cases e:v=z
  ·subst e
   rw[fPo_ u v vs ss _ h1,pg_,if_pos rfl,if_pos rfl]
  ·rw[fPi_ u z vs ss _ (by simpa using h) h2 ((List.mem_cons.1 hz).resolve_left (Ne.symm e)),pg_,if_neg e,if_neg e]
theorem fPl_1{ρ:Type}(u:Int→Int→Int)(vs:List ByteArray)(ss:List Int)(hl:ss.length=vs.length)(m:GMap Int):
 forN (ρ:=ρ) (fun (i6:Nat) (s6:(GMap Int))=>ae (idx vs (i6:Int)) fun v26=>ae (idx ss (i6:Int)) fun v36=>some (.nx (GMap.put s6 v26 (u (aw s6 v26 (0:Int)) v36)))) vs.length 0 m=some (.inr (foldP u vs ss m)):=by
 have key:∀ (vs pv:List ByteArray) (ss ps:List Int) (m:GMap Int),ps.length=pv.length→ss.length=vs.length→
  forN (ρ:=ρ) (fun (i6:Nat) (s6:(GMap Int))=>ae (idx (pv++vs) (i6:Int)) fun v26=>ae (idx (ps++ss) (i6:Int)) fun v36=>some (.nx (GMap.put s6 v26 (u (aw s6 v26 (0:Int)) v36)))) vs.length pv.length m=some (.inr (foldP u vs ss m)):=by
  intro vs
  induction vs with
  | nil=>intro pv ss ps m _ h; cases ss<;>rfl
  | cons v vs ih=>
   intro pv ss ps m hp h
   cases ss with
   | nil=>simp at h
   | cons s ss=>
    simp only[foldP,aJ]
    rw[fNn_ (s':=GMap.put m v (u (aw m v 0) s)) (by rw[im_,ag,← hp,im_]; rfl)]
    have:=ih (pv++[v]) ss (ps++[s]) (GMap.put m v (u (aw m v 0) s)) (by simp[hp]) (by simpa using h)
    simpa using this
 exact key vs [] ss [] m rfl hl
theorem iRs_{x:Int}(h0:0≤x)(h1:x≤1000000):InR x:=by simp only[InR]; omega
theorem sZb_{l:Lt}(hv:vL_ l=true)(n:ByteArray):0≤sZ_ l.Vars l.Slopes n∧sZ_ l.Vars l.Slopes n≤1000∧(n∈l.Vars↔sZ_ l.Vars l.Slopes n≠0):=by
 obtain⟨h1,h2,h3,h4,h5,h6⟩:=vLi_ hv
 by_cases hn:n∈l.Vars
 ·have:=sZi_ l.Vars l.Slopes n hn h2.symm h5
  exact⟨by omega,this.2,⟨fun _=>by omega,fun _=>hn⟩⟩
 ·rw[sZn_ _ _ _ hn]; simp[hn]
end
section
theorem ws_1{x:Int}(h0:0≤x)(h1:x≤1000000000000):IntKind.i64.wrap x=x:=by rw[w_]<;>omega
def plusU(f g s:Int):Int:=IntKind.i64.wrap (g+IntKind.i64.wrap (f*s))
def plusL(a b:Lt)(f:Int):Lt:=
 ⟨(nO_ a b).filter fun n=>decide (0<plusU f (sZ_ a.Vars a.Slopes n) (sZ_ b.Vars b.Slopes n)),((nO_ a b).filter fun n=>decide (0<plusU f (sZ_ a.Vars a.Slopes n) (sZ_ b.Vars b.Slopes n))).map fun n=>plusU f (sZ_ a.Vars a.Slopes n) (sZ_ b.Vars b.Slopes n),plusU f a.Constant b.Constant⟩
theorem ft_{ρ:Type}(H:ByteArray→Int):∀ (xs:List ByteArray) (i:Nat) (s:List ByteArray×List Int),s.1.length+xs.length≤1073741824→s.2.length+xs.length≤1073741824→
 forL (ρ:=ρ) (fun _ (x:ByteArray) (s:List ByteArray×List Int)=>bif decide (0<H x) then ae (app s.1 ([x])) fun v=>ae (app s.2 ([H x])) fun w=>some (.nx (v,w)) else some (.nx (s.1,s.2))) xs i s=some (.inr (s.1++xs.filter (fun n=>decide (0<H n)),s.2++(xs.filter (fun n=>decide (0<H n))).map H))
 | [],i,s,_,_=>by simp[forL]
 | x::xs,i,s,h1,h2=>by
  simp only[aJ] at h1 h2
  by_cases hz:0<H x
  ·rw[fLn_ (s':=(s.1++[x],s.2++[H x])) (by simp only[decide_eq_true hz,cond_true]; rw[ao_1 (by omega)]; simp only[ag]; rw[ao_1 (by omega)]; rfl),ft_ H xs (i+1) _ (by simp; omega) (by simp; omega)]
   simp[hz]
  ·rw[fLn_ (s':=s) (by simp only[decide_eq_false hz,cond_false]),ft_ H xs (i+1) _ (by omega) (by omega)]
   simp[hz]
theorem lPe_(a b:Lt)(f:Int)(ha:a.Slopes.length=a.Vars.length)(hb:b.Slopes.length=b.Vars.length)(h:a.Vars.length+b.Vars.length≤1048576):slP_1 a b f=some (plusL a b f):=by
 unfold slP_1
 have hn:=nOl_ a b
 rw[lNe_ a b h,ag]
 rw[fNf_ _ (fun _ (x:ByteArray) (s:List ByteArray×List Int)=>bif decide (0<plusU f (sZ_ a.Vars a.Slopes x) (sZ_ b.Vars b.Slopes x)) then ae (app s.1 ([x])) fun v=>ae (app s.2 ([plusU f (sZ_ a.Vars a.Slopes x) (sZ_ b.Vars b.Slopes x)])) fun w=>some (.nx (v,w)) else some (.nx (s.1,s.2))) (nO_ a b) 0 ([],[]) (fun j x s hx=>by
  simp only[Nat.zero_add,in_,hx,ag,lSe_ a x ha,lSe_ b x hb,plusU]; rfl),
  ft_ (fun x=>plusU f (sZ_ a.Vars a.Slopes x) (sZ_ b.Vars b.Slopes x)) _ 0 _ (by simp; omega) (by simp; omega),tLi_]
 rfl
theorem ae_(l:Lt)(m:GMap Int)(f:Int)(hl:l.Slopes.length=l.Vars.length):iLa_ l m f=some (IntKind.i64.wrap (f*l.Constant),foldP (plusU f) l.Vars l.Slopes m):=by
 unfold iLa_
 have:=fPl_1 (ρ:=Int×GMap Int) (plusU f) l.Vars l.Slopes hl m
 rw[show(fun (i2:Nat) (s2:(GMap Int))=>ae (idx l.Vars (i2:Int)) fun v15=>ae (idx l.Slopes (i2:Int)) fun v24=>some (Flow.nx (GMap.put s2 v15 (IntKind.i64.wrap ((aw s2 v15 (0:Int))+(IntKind.i64.wrap (f*v24))))):Flow (Int×GMap Int) (GMap Int)))=(fun (i6:Nat) (s6:(GMap Int))=>ae (idx l.Vars (i6:Int)) fun v26=>ae (idx l.Slopes (i6:Int)) fun v36=>some (.nx (GMap.put s6 v26 (plusU f (aw s6 v26 (0:Int)) v36)))) from rfl,this,tLi_]
theorem pUz_{f g:Int}(h0:0≤g)(h1:g≤1000000000):plusU f g 0=g:=by
 unfold plusU
 rw[Int.mul_zero,show IntKind.i64.wrap 0=0 from ws_1 (by omega) (by omega),Int.add_zero,ws_1 h0 (by omega)]
theorem pUs_{f g s:Int}(f0:0≤f)(f1:f≤1000)(g0:0≤g)(g1:g≤1000000000)(s0:0≤s)(s1:s≤100000):plusU f g s=g+f*s∧0≤f*s∧f*s≤100000000:=by
 have h1:0≤f*s:=Int.mul_nonneg f0 s0
 have h2:f*s≤1000*100000:=Int.mul_le_mul f1 s1 s0 (by omega)
 unfold plusU
 rw[ws_1 h1 (by omega),ws_1 (by omega) (by omega)]
 exact⟨rfl,h1,by omega⟩
end
section
theorem iNN_(a:ByteArray):ciN_ a=some false:=by simp[ciN_]
theorem vLl_{l:Lt}(h:vL_ l=true):l.Slopes.length=l.Vars.length:=(vLi_ h).2.1
theorem le_2(a b:ByteArray):cLs_ a b=some (slt a b):=by
 unfold cLs_
 simp only[iNN_,ag,cond_false]; rfl
theorem iNN_1(a:ByteArray):siN_ a=some false:=by simp[siN_]
theorem vLa_{l:Lt}(h:vL_ l=true):∀ i j,i<j→j<l.Vars.length→slt (l.Vars.getD i default) (l.Vars.getD j default)=true:=by
 simp only[vL_,ar] at h
 have hc:∀ j,j<l.Vars.length→linC l j=true:=fun j hj=>List.all_eq_true.1 h.2 j (by simpa using hj)
 intro i j hij
 induction j with
 | zero=>omega
 | succ j ih=>
  intro hj
  have h1:=hc (j+1) hj
  simp only[linC,ar,Bool.or_eq_true,decide_eq_true_eq] at h1
  have h2:slt (l.Vars.getD j default) (l.Vars.getD (j+1) default)=true:=by
   rcases h1.2 with g | g
   ·omega
   ·exact g
  by_cases e:i=j
  ·rw[e]; exact h2
  ·exact bLt_ (ih (by omega) (by omega)) h2
def sO_(l:Lt)(x:ByteArray):Int:=
 if (ffind (fun i=>decide (l.Vars.getD i default=x)) l.Vars.length 0)<0 then 0 else l.Slopes.getD (ffind (fun i=>decide (l.Vars.getD i default=x)) l.Vars.length 0).toNat default
theorem sS_(l:Lt)(x:ByteArray)(hv:vL_ l=true):slS_ l x=some (sO_ l x):=by
 have hl:=vLl_ hv
 unfold slS_ sO_
 rcases fc_ (fun i=>decide (l.Vars.getD i default=x)) l.Vars.length 0 with⟨h1,h2⟩ | ⟨k,h1,h2,h3,h4,h5⟩
 ·rw[h1,if_pos (by omega),fNn_1]
  intro j _ hj
  have:=h2 j (by omega) hj
  rw[igD_ (by omega),ag,this]; rfl
 ·rw[h1,if_neg (by omega)]
  refine fNh_ _ 0 k (by omega) h3 (fun j g1 g2=>?_) ?_
  ·have:=h5 j (by omega) g2
   rw[igD_ (by omega),ag,this]; rfl
  ·rw[igD_ (by omega),ag,h4,cond_true,igD_ (by omega),ag,Int.toNat_natCast]
theorem iS_(l:Lt)(x:ByteArray)(hv:vL_ l=true):iLs_ l x=some (sO_ l x):=by
 have hl:=vLl_ hv
 have h8:l.Vars.length≤8:=by simp only[vL_,ar,decide_eq_true_eq] at hv; exact hv.1.1.1
 have hasc:=vLa_ hv
 have mono:∀ i j,i<j→j<l.Vars.length→slt (l.Vars.getD j default) x=true→slt (l.Vars.getD i default) x=true:=fun i j h1 h2 h3=>bLt_ (hasc i j h1 h2) h3
 have bs:∃ p:Nat,p≤l.Vars.length∧sBS_ l.Vars x=some ((p:Int),decide (p<l.Vars.length)&&decide (l.Vars.getD p default=x))∧(∀ k,k<p→slt (l.Vars.getD k default) x=true)∧(∀ k,p≤k→k<l.Vars.length→slt (l.Vars.getD k default) x=false):=by
  unfold sBS_
  obtain⟨p,g1,g2,g3,g4⟩:=bl_ (ρ:=Int×Bool) (q:=fun i=>slt (l.Vars.getD i default) x) (N:=l.Vars.length) (by omega) mono
   (f:=fun s3=>bif decide (s3.1<s3.2) then(shr .u64 (IntKind.u64.wrap (IntKind.i64.wrap (s3.1+s3.2))) 1).bind fun v20=>(idx l.Vars (IntKind.i64.wrap v20)).bind fun v24=>(cLs_ v24 x).bind fun v27=>bif v27 then some (.nx (IntKind.i64.wrap (IntKind.i64.wrap v20+1),s3.2)) else some (.nx (s3.1,IntKind.i64.wrap v20)) else some (.br s3))
   (fun i j h1 h2=>by
    simp only
    rw[decide_eq_true (by omega),cond_true,bm_3 (by omega),ag]
    have e:IntKind.i64.wrap (((i+j) / 2:Nat):Int)=(((i+j) / 2:Nat):Int):=by rw[w_]<;>omega
    rw[e,igD_ (by omega),ag,le_2,ag]
    have e2:IntKind.i64.wrap ((((i+j) / 2:Nat):Int)+1)=(((i+j) / 2+1:Nat):Int):=by rw[w_]<;>omega
    rw[e2]
    cases slt (l.Vars.getD ((i+j) / 2) default) x<;>rfl)
   (fun i=>by simp only; rw[decide_eq_false (by omega)]; rfl)
  refine⟨p,g1,?_,g3,g4⟩
  rw[g2,tLi_]
  by_cases hp:p<l.Vars.length
  ·simp only
   rw[decide_eq_true (show(p:Int)<(l.Vars.length:Int) by omega),cond_true,igD_ hp,ag,decide_eq_true hp,Bool.true_and,ag,iNN_1,ag]
   cases decide (l.Vars.getD p default=x)<;>rfl
  ·simp only
   rw[decide_eq_false (show ¬ (p:Int)<(l.Vars.length:Int) by omega),decide_eq_false hp]; rfl
 obtain⟨p,g1,g2,g3,g4⟩:=bs
 unfold iLs_ sO_
 rw[g2,ag]
 simp only
 rcases fc_ (fun i=>decide (l.Vars.getD i default=x)) l.Vars.length 0 with⟨h1,h2⟩ | ⟨k,h1,h2,h3,h4,h5⟩
 ·rw[h1,if_pos (by omega)]
  by_cases hp:p<l.Vars.length
  ·have:=h2 p (by omega) (by omega)
   rw[this,Bool.and_false]; rfl
  ·rw[decide_eq_false hp]; rfl
 ·rw[h1,if_neg (by omega)]
  have hk:l.Vars.getD k default=x:=by simpa using h4
  have e:p=k:=by
   rcases Nat.lt_trichotomy p k with g | g | g
   ·have a:=g4 p (Nat.le_refl _) (by omega)
    have b:=hasc p k g (by omega)
    rw[hk] at b; rw[a] at b; cases b
   ·exact g
   ·have a:=g3 k g
    rw[hk] at a
    have:=bLi_ x.data.toList
    unfold slt at a
    rw[this] at a; cases a
  subst e
  rw[decide_eq_true (show p<l.Vars.length by omega),h4,Bool.and_self,cond_true,igD_ (by omega),ag,Int.toNat_natCast]
theorem iSZ_(l:Lt)(x:ByteArray)(hv:vL_ l=true):iLs_ l x=some (sZ_ l.Vars l.Slopes x):=by
 rw[iS_ l x hv,← sS_ l x hv,lSe_ l x (vLl_ hv)]
end
section
def CurOk(c:la)(n:Nat):Prop:=0≤c.at_f∧c.at_f≤(n:Int)∧∀ x∈c.code,0≤x∧x≤255
theorem CurOk.mono{c:la}{n m:Nat}(h:CurOk c n)(hm:n≤m):CurOk c m:=⟨h.1,by have:=h.2.1; omega,h.2.2⟩
theorem wi_{x:Int}(h0:0≤x)(h1:x≤4611686018427387904):IntKind.i64.wrap x=x:=w_ (by omega) (by omega)
theorem b_1(v:Int):0≤IntKind.i64.wrap (b_ .u64 v (255:Int))∧IntKind.i64.wrap (b_ .u64 v (255:Int))≤255:=by
 have h:∃ k:Nat,k≤255∧b_ .u64 v (255:Int)=(k:Int):=by
  refine⟨(BitVec.ofInt 64 v&&& BitVec.ofInt 64 255).toNat,?_,?_⟩
  ·rw[BitVec.toNat_and]
   exact Nat.le_trans Nat.and_le_right (by decide)
  ·have hk:(BitVec.ofInt 64 v&&& BitVec.ofInt 64 255).toNat≤255:=by
    rw[BitVec.toNat_and]; exact Nat.le_trans Nat.and_le_right (by decide)
   unfold b_
   exact un_1 (n:=(BitVec.ofInt 64 v&&& BitVec.ofInt 64 255).toNat) (by omega)
 obtain⟨k,hk,e⟩:=h
 rw[e,wi_ (by omega) (by omega)]
 omega
theorem no_{c:la}{n:Nat}(h:CurOk c n)(hn:n≤1000000000):∃ v c',slC_5 c=some (v,c')∧0≤v∧v≤255∧CurOk c' (n+1):=by
 obtain⟨h0,h1,h2⟩:=h
 have ha:IntKind.i64.wrap (c.at_f+1)=c.at_f+1:=wi_ (by omega) (by omega)
 unfold slC_5
 have hs:∀ x:Int,shr .u64 x 40=some (x.fdiv (2 ^ (min (40:Int).toNat IntKind.u64.bits))):=fun x=>by simp[shr]
 by_cases e:c.at_f<(c.code.length:Int)
 ·rw[decide_eq_true e,cond_true]
  obtain⟨b,hb⟩:∃ b,c.code[c.at_f.toNat]?=some b:=⟨_,List.getElem?_eq_getElem (by omega)⟩
  have hbr:=h2 b (List.mem_of_getElem? hb)
  have hi:idx c.code c.at_f=some b:=by simp[idx,h0,hb]
  rw[hi,ag,ha,wi_ hbr.1 (by omega)]
  cases decide (c.at_f+1≤(c.code.length:Int)) with
  | true=>exact⟨_,_,rfl,hbr.1,hbr.2,by simp only; omega,by simp only; omega,h2⟩
  | false=>
   rw[cond_false,hs,ag]
   exact⟨_,_,rfl,(b_1 _).1,(b_1 _).2,by simp only; omega,by simp only; omega,h2⟩
 ·rw[decide_eq_false e,cond_false,ha]
  cases decide (c.at_f+1≤(c.code.length:Int)) with
  | true=>exact⟨_,_,rfl,by omega,by omega,by simp only; omega,by simp only; omega,h2⟩
  | false=>
   rw[cond_false,hs,ag]
   exact⟨_,_,rfl,(b_1 _).1,(b_1 _).2,by simp only; omega,by simp only; omega,h2⟩
theorem rl_1{x m:Int}(h0:0≤x)(hm:0<m):∃ v,rem x m=some v∧0≤v∧v<m:=
 ⟨x.tmod m,by simp[rem,show m≠0 by omega],Int.tmod_nonneg _ h0,Int.tmod_lt_of_pos _ hm⟩
theorem po_{c:la}{n:Nat}(m:Int)(h:CurOk c n)(hn:n+2≤1000000000):∃ v c',slC_1 c m=some (v,c')∧0≤v∧(1≤m→v<m)∧CurOk c' (n+2):=by
 unfold slC_1
 by_cases e:m≤1
 ·rw[decide_eq_true e,cond_true]
  exact⟨_,_,rfl,by omega,fun _=>by omega,h.mono (by omega)⟩
 ·rw[decide_eq_false e,cond_false]
  obtain⟨v,c',e1,hv0,hv1,hc⟩:=no_ h (by omega)
  rw[e1,ag]
  by_cases e2:200<m
  ·rw[decide_eq_true e2,cond_true]
   obtain⟨u,c'',e3,hu0,hu1,hc'⟩:=no_ hc (by omega)
   simp only[e3,ag]
   rw[wi_ (x:=v*256) (by omega) (by omega),wi_ (by omega) (by omega)]
   obtain⟨q,e4,hq0,hq1⟩:=rl_1 (x:=v*256+u) (m:=m) (by omega) (by omega)
   rw[e4]
   exact⟨_,_,rfl,hq0,fun _=>hq1,hc'⟩
  ·rw[decide_eq_false e2,cond_false]
   obtain⟨q,e4,hq0,hq1⟩:=rl_1 (x:=v) (m:=m) hv0 (by omega)
   simp only[e4]
   exact⟨_,_,rfl,hq0,fun _=>hq1,hc.mono (by omega)⟩
theorem ao_3{c:la}{n:Nat}(l:List Int)(hl:l≠[])(h:CurOk c n)(hn:n+2≤1000000000):∃ v c',slC_2 c l=some (v,c')∧v∈l∧CurOk c' (n+2):=by
 unfold slC_2
 have hp:0<l.length:=List.length_pos_iff.2 hl
 obtain⟨k,c',e,h0,h1,hc⟩:=po_ (l.length:Int) h hn
 have hk:=h1 (by omega)
 obtain⟨b,hb⟩:∃ b,l[k.toNat]?=some b:=⟨_,List.getElem?_eq_getElem (by omega)⟩
 have hi:idx l k=some b:=by simp[idx,h0,hb]
 simp only[e,ag,hi]
 exact⟨_,_,rfl,List.mem_of_getElem? hb,hc⟩
theorem of_ok{c:la}{n:Nat}(l:List ByteArray)(hl:l≠[])(h:CurOk c n)(hn:n+2≤1000000000):∃ v c',slC_7 c l=some (v,c')∧v∈l∧CurOk c' (n+2):=by
 unfold slC_7
 have hp:0<l.length:=List.length_pos_iff.2 hl
 obtain⟨k,c',e,h0,h1,hc⟩:=po_ (l.length:Int) h hn
 have hk:=h1 (by omega)
 obtain⟨b,hb⟩:∃ b,l[k.toNat]?=some b:=⟨_,List.getElem?_eq_getElem (by omega)⟩
 have hi:idx l k=some b:=by simp[idx,h0,hb]
 simp only[e,ag,hi]
 exact⟨_,_,rfl,List.mem_of_getElem? hb,hc⟩
theorem oo_{c:la}{n:Nat}(m:Int)(h:CurOk c n)(hn:n+2≤1000000000):∃ b c',slC_6 c m=some (b,c')∧CurOk c' (n+2):=by
 unfold slC_6
 obtain⟨k,c',e,_,_,hc⟩:=po_ m h hn
 simp only[e,ag]
 exact⟨_,_,rfl,hc⟩
theorem fNi_{ρ σ:Type}{f:Nat→σ→Option (Flow ρ σ)}(I:Nat→σ→Prop):∀ (n i:Nat) (s:σ),I i s→(∀ j s,i≤j→j<i+n→I j s→∃ s',f j s=some (.nx s')∧I (j+1) s')→∃ s',forN f n i s=some (.inr s')∧I (i+n) s'
 | 0,i,s,h,_=>⟨s,rfl,h⟩
 | n+1,i,s,h,hf=>by
  obtain⟨s',e,h'⟩:=hf i s (by omega) (by omega) h
  rw[fNn_ e]
  obtain⟨s'',e2,h2⟩:=fNi_ I n (i+1) s' h' (fun j s hj hj'=>hf j s (by omega) (by omega))
  exact⟨s'',e2,by rw[show i+(n+1)=i+1+n by omega]; exact h2⟩
theorem app1{α:Type}{xs:List α}(x:α)(h:xs.length≤1000):app xs [x]=some (xs++[x]):=by
 unfold app; rw[if_pos (by simp; omega)]
structure DrawnL(l:Lt):Prop where
 vl:l.Vars.length≤4
 sl:l.Slopes.length≤4
 vs:∀ v∈l.Vars,v.size≤2
 ss:∀ x∈l.Slopes,0≤x∧x≤1000
 c0:-1≤l.Constant
 c1:l.Constant≤100001
theorem lo_{c:la}{n:Nat}(h:CurOk c n)(hn:n+30≤1000000000):∃ l c',slC_ c=some (l,c')∧DrawnL l∧CurOk c' (n+30):=by
 unfold slC_
 obtain⟨k,c1,e1,hk,hc1⟩:=ao_3 [(0:Int),1,7,90000] (by simp) h (by omega)
 simp only[e1,ag]
 have hk0:0≤k∧k≤90000:=by simp at hk; omega
 obtain⟨s,e2,hs⟩:=fNi_ (ρ:=Lt×la) (σ:=la×(List ByteArray)×(List Int)) (f:=fun (i4:Nat) (s4:la×(List ByteArray)×(List Int))=>
  ae (slC_6 s4.1 (2:Int)) fun v16=>
  bif v16.1 then
   ae (idx ([(⟨#[88]⟩:ByteArray),(⟨#[89]⟩:ByteArray),(⟨#[90]⟩:ByteArray)]) (i4:Int)) fun v21=>
   ae (idx ([(⟨#[88]⟩:ByteArray),(⟨#[89]⟩:ByteArray),(⟨#[90]⟩:ByteArray)]) (i4:Int)) fun v22=>
   ae (app s4.2.1 ([v22])) fun v24=>
   ae (slC_2 v16.2 ([(1:Int),(2:Int),(3:Int),(30:Int),(1000:Int)])) fun v30=>
   ae (app s4.2.2 ([v30.1])) fun v32=>
   some (.nx (v30.2,v24,v32))
  else
   some (.nx (v16.2,s4.2.1,s4.2.2)))
  (fun i s=>CurOk s.1 (n+2+4*i)∧s.2.1.length≤i∧s.2.2.length≤i∧(∀ v∈s.2.1,v.size≤2)∧(∀ x∈s.2.2,0≤x∧x≤1000)) 3 0 (c1,[],[]) ⟨hc1,by simp,by simp,by simp,by simp⟩ (by
  rintro j ⟨d,vs,ss⟩ _ hj ⟨i1,i2,i3,i4,i5⟩
  simp only at i1 i2 i3 i4 i5 ⊢
  obtain⟨b,d',f1,hd⟩:=oo_ 2 i1 (by omega)
  simp only[f1,ag]
  cases b with
  | false=>exact⟨_,rfl,hd.mono (by omega),by simp only; omega,by simp only; omega,i4,i5⟩
  | true=>
   obtain⟨x,hx,hxs⟩:∃ x:ByteArray,idx [(⟨#[88]⟩:ByteArray),⟨#[89]⟩,⟨#[90]⟩] (j:Int)=some x∧x.size≤2:=by
    have:j=0∨j=1∨j=2:=by omega
    rcases this with rfl | rfl | rfl<;>exact⟨_,rfl,by decide⟩
   obtain⟨q,d'',f2,hq,hd'⟩:=ao_3 [(1:Int),2,3,30,1000] (by simp) hd (by omega)
   simp only[cond_true,hx,ag,app1 x (show vs.length≤1000 by omega),f2,app1 q (show ss.length≤1000 by omega)]
   refine⟨_,rfl,hd'.mono (by omega),by simp; omega,by simp; omega,?_,?_⟩
   ·intro v hv
    rcases List.mem_append.1 hv with hv | hv
    ·exact i4 v hv
    ·rw[List.mem_singleton.1 hv]; exact hxs
   ·intro v hv
    rcases List.mem_append.1 hv with hv | hv
    ·exact i5 v hv
    ·rw[List.mem_singleton.1 hv]; simp at hq; omega)
 rw[e2,tLi_]
 obtain⟨d,vs,ss⟩:=s
 obtain⟨i1,i2,i3,i4,i5⟩:=hs
 simp only at i1 i2 i3 i4 i5 ⊢
 obtain⟨p,d',f1,hp0,hp1,hd⟩:=po_ 30 i1 (by omega)
 simp only[f1,ag]
 by_cases h0:p=0
 ·obtain⟨w,d'',f2,hw,hd'⟩:=of_ok [(⟨#[65]⟩:ByteArray),⟨#[97]⟩,⟨#[90,49]⟩] (by simp) hd (by omega)
  have hws:w.size≤2:=by
   rcases List.mem_cons.1 hw with rfl | hw
   ·decide
   rcases List.mem_cons.1 hw with rfl | hw
   ·decide
   ·rw[List.mem_singleton.1 hw]; decide
  simp only[decide_eq_true h0,cond_true,f2,ag,app1 w (show vs.length≤1000 by omega),app1 (1:Int) (show ss.length≤1000 by omega)]
  refine⟨_,_,rfl,⟨by simp; omega,by simp; omega,?_,?_,by simp only; omega,by simp only; omega⟩,hd'.mono (by omega)⟩
  ·intro v hv
   rcases List.mem_append.1 hv with hv | hv
   ·exact i4 v hv
   ·rw[List.mem_singleton.1 hv]; exact hws
  ·intro v hv
   rcases List.mem_append.1 hv with hv | hv
   ·exact i5 v hv
   ·rw[List.mem_singleton.1 hv]; omega
 rw[decide_eq_false h0,cond_false]
 by_cases h1:p=1
 ·obtain⟨w,d'',f2,hw,hd'⟩:=ao_3 [(-1:Int),100001] (by simp) hd (by omega)
  have hwb:-1≤w∧w≤100001:=by simp at hw; omega
  simp only[decide_eq_true h1,cond_true,f2,ag]
  exact⟨_,_,rfl,⟨by simp only; omega,by simp only; omega,i4,i5,hwb.1,hwb.2⟩,hd'.mono (by omega)⟩
 rw[decide_eq_false h1,cond_false]
 by_cases h2:p=2
 ·simp only[decide_eq_true h2,cond_true,app1 (0:Int) (show ss.length≤1000 by omega),ag]
  refine⟨_,_,rfl,⟨by simp only; omega,by simp; omega,i4,?_,by simp only; omega,by simp only; omega⟩,hd.mono (by omega)⟩
  intro v hv
  rcases List.mem_append.1 hv with hv | hv
  ·exact i5 v hv
  ·rw[List.mem_singleton.1 hv]; omega
 ·rw[decide_eq_false h2,cond_false]
  exact⟨_,_,rfl,⟨by simp only; omega,by simp only; omega,i4,i5,by simp only; omega,by simp only; omega⟩,hd.mono (by omega)⟩
end
section
theorem lMe_(a b:Int):slM_ a b=some (max a b):=by
 unfold slM_
 by_cases h:b<a
 ·rw[decide_eq_true h]; simp; omega
 ·rw[decide_eq_false h]; simp; omega
def joinL(a b:Lt):Lt:=⟨nO_ a b,(nO_ a b).map fun n=>max (sZ_ a.Vars a.Slopes n) (sZ_ b.Vars b.Slopes n),max a.Constant b.Constant⟩
theorem lJe_(a b:Lt)(ha:a.Slopes.length=a.Vars.length)(hb:b.Slopes.length=b.Vars.length)(h:a.Vars.length+b.Vars.length≤1048576):slJ_ a b=some (joinL a b):=by
 unfold slJ_
 rw[lNe_ a b h,ag,lMe_,ag]
 have hn:=nOl_ a b
 rw[fNf_ _ (fun _ (x:ByteArray) (s:List Int)=>ae (app s ([max (sZ_ a.Vars a.Slopes x) (sZ_ b.Vars b.Slopes x)])) fun v=>some (.nx v)) (nO_ a b) 0 [] (fun j x s hx=>by
  simp only[Nat.zero_add,in_,hx,ag,lSe_ a x ha,lSe_ b x hb,lMe_]),
  fm_ (fun x=>max (sZ_ a.Vars a.Slopes x) (sZ_ b.Vars b.Slopes x)) _ 0 [] (by simp; omega),tLi_,List.nil_append]
 rfl
theorem jb_(a b:Lt)(ha:a.Ok)(hb:b.Ok):∃ (g:Lt) (c:Bool),sJL_ a b=some (g,c)∧iJL_ a b=some (g,c)∧g.Vars.length≤16∧g.Slopes.length≤16:=by
 unfold sJL_ iJL_
 rw[specL a ha,implL a ha,specL b hb,implL b hb,ag,ag]
 cases hv:vL_ a
 ·exact⟨_,_,rfl,rfl,by simp,by simp⟩
 simp only[cond_true,ag]
 cases hw:vL_ b
 ·exact⟨_,_,rfl,rfl,by simp,by simp⟩
 simp only[cond_true]
 obtain⟨a1,a2,a3,a4,a5,a6⟩:=vLi_ hv
 obtain⟨b1,b2,b3,b4,b5,b6⟩:=vLi_ hw
 have hn:=nOl_ a b
 rw[lJe_ a b a2 b2 (by omega),ag]
 -- the map
 have hm1:=fPo_1 max a.Vars a.Slopes _ GOk.empty
 have hm:=fPo_1 max b.Vars b.Slopes _ hm1
 have hget:∀ n,aw (foldP max b.Vars b.Slopes (foldP max a.Vars a.Slopes aM)) n 0=max (sZ_ a.Vars a.Slopes n) (sZ_ b.Vars b.Slopes n):=by
  intro n
  have s1:=sZb_ hv n
  have s2:=sZb_ hw n
  by_cases c1:n∈a.Vars<;>by_cases c2:n∈b.Vars
  ·rw[fPi_ max n _ _ _ b2.symm b4.nodup c2,fPi_ max n _ _ _ a2.symm a4.nodup c1,eg_]; omega
  ·rw[fPo_ max n _ _ _ c2,fPi_ max n _ _ _ a2.symm a4.nodup c1,eg_,sZn_ _ _ _ c2]; omega
  ·rw[fPi_ max n _ _ _ b2.symm b4.nodup c2,fPo_ max n _ _ _ c1,eg_,sZn_ _ _ _ c1]
  ·rw[fPo_ max n _ _ _ c2,fPo_ max n _ _ _ c1,eg_,sZn_ _ _ _ c1,sZn_ _ _ _ c2]; rfl
 have hkeys:∀ z,z∈Gak_ (foldP max b.Vars b.Slopes (foldP max a.Vars a.Slopes aM))→z∈a.Vars∨z∈b.Vars:=by
  intro z hz
  rw[fPk_ max z _ _ _ b2.symm,fPk_ max z _ _ _ a2.symm] at hz
  rcases hz with h | h | h
  ·exact .inr h
  ·exact .inl h
  ·simp[Gak_,aM] at h
 have hnz:nzk (foldP max b.Vars b.Slopes (foldP max a.Vars a.Slopes aM))=nO_ a b:=by
  refine ne_ hm (nOs_ a b) (fun z=>?_)
  have s1:=sZb_ hv z
  have s2:=sZb_ hw z
  rw[nOm_,hget,s1.2.2,s2.2.2]
  constructor
  ·rintro (h | h)<;>omega
  ·intro h
   by_cases c:sZ_ a.Vars a.Slopes z=0
   ·right; intro h2; exact h (by rw[c,h2]; rfl)
   ·exact .inl c
 have e:ij_ a b=il_ (foldP max b.Vars b.Slopes (foldP max a.Vars a.Slopes aM)) (max a.Constant b.Constant):=by
  unfold ij_
  have i0:idx [a,b] ((0:Nat):Int)=some a:=rfl
  have i1:idx [a,b] ((0+1:Nat):Int)=some b:=rfl
  simp only[aJ,ba,Nat.zero_add]
  rw[fNn_ (s':=foldP max a.Vars a.Slopes aM) (by rw[i0]; simp only[ag]; rw[fPl_1 max a.Vars a.Slopes a2]; rfl),
   fNn_ (s':=foldP max b.Vars b.Slopes (foldP max a.Vars a.Slopes aM)) (by rw[i1]; simp only[ag]; rw[fPl_1 max b.Vars b.Slopes b2]; rfl),fNz_,tLi_]
  cases il_ (foldP max b.Vars b.Slopes (foldP max a.Vars a.Slopes aM)) (max a.Constant b.Constant)<;>rfl
 have hlen:=fPl_ max b.Vars b.Slopes (foldP max a.Vars a.Slopes aM)
 have hlen1:=fPl_ max a.Vars a.Slopes aM
 have hle0:(aM:GMap Int).es.length=0:=rfl
 have hc:InR (max a.Constant b.Constant):=iRs_ (by omega) (by omega)
 have hr:∀ n,InR (aw (foldP max b.Vars b.Slopes (foldP max a.Vars a.Slopes aM)) n 0):=fun n=>by
  have s1:=sZb_ hv n
  have s2:=sZb_ hw n
  rw[hget]; exact iRs_ (by omega) (by omega)
 have hbig:∀ k∈Gak_ (foldP max b.Vars b.Slopes (foldP max a.Vars a.Slopes aM)),Big k.size:=fun k hk=>(hkeys k hk).elim (fun h=>bv_ (a6 k h)) (fun h=>bv_ (b6 k h))
 rw[e,le_1 hm _ (by omega) hbig hr hc,hnz]
 have hmap:((nO_ a b).map fun k=>aw (foldP max b.Vars b.Slopes (foldP max a.Vars a.Slopes aM)) k 0)=(joinL a b).Slopes:=List.map_congr_left fun k _=>hget k
 rw[hmap]
 have hJ:(⟨nO_ a b,(joinL a b).Slopes,max a.Constant b.Constant⟩:Lt)=joinL a b:=rfl
 rw[hJ]
 have hok:(joinL a b).Ok:=by
  refine⟨⟨by simp only[Big,joinL]; omega,fun k hk=>?_⟩,⟨by simp only[Big,joinL,aB]; omega,fun x hx=>?_⟩,hc⟩
  ·rcases (nOm_ a b k).1 hk with h | h
   ·exact bv_ (a6 k h)
   ·exact bv_ (b6 k h)
  ·obtain⟨k,_,rfl⟩:=List.mem_map.1 hx
   rw[← hget]; exact hr k
 rw[specL _ hok,ag,ag]
 cases vL_ (joinL a b)
 ·exact⟨_,_,rfl,rfl,by simp,by simp⟩
 ·exact⟨_,_,rfl,rfl,by simp only[joinL]; omega,by simp only[joinL,aB]; omega⟩
end
section
def dropV(n:ByteArray):List ByteArray→List Int→List ByteArray×List Int
 | v::vs,s::ss=>if v=n then dropV n vs ss else(v::(dropV n vs ss).1,s::(dropV n vs ss).2)
 | _,_=>([],[])
theorem dVl_(n:ByteArray):∀ (vs:List ByteArray) (ss:List Int),(dropV n vs ss).2.length=(dropV n vs ss).1.length∧(dropV n vs ss).1.length≤vs.length
 | [],ss=>by cases ss<;>simp[dropV]
 | v::vs,[]=>by simp[dropV]
 | v::vs,s::ss=>by
  have:=dVl_ n vs ss
  simp only[dropV]
  split
  ·simp only[aJ]; omega
  ·simp only[aJ]; omega
theorem dVs_(n z:ByteArray):∀ (vs:List ByteArray) (ss:List Int),sZ_ (dropV n vs ss).1 (dropV n vs ss).2 z=if n=z then 0 else sZ_ vs ss z
 | [],ss=>by cases ss<;>simp[dropV,sZ_]
 | v::vs,[]=>by simp[dropV,sZ_]
 | v::vs,s::ss=>by
  have:=dVs_ n z vs ss
  simp only[dropV]
  by_cases e:v=n
  ·rw[if_pos e,this]
   subst e
   by_cases h:v=z
   ·simp[h]
   ·simp[h,sZ_]
  ·rw[if_neg e]
   simp only[sZ_]
   by_cases h:v=z
   ·have:n≠z:=fun h2=>e (h.trans h2.symm)
    simp[h,this]
   ·rw[if_neg h,this]; simp[h]
theorem dVm_(n z:ByteArray):∀ (vs:List ByteArray) (ss:List Int),z∈(dropV n vs ss).1→z∈vs
 | [],ss,h=>by cases ss<;>simp[dropV] at h
 | v::vs,[],h=>by simp[dropV] at h
 | v::vs,s::ss,h=>by
  simp only[dropV] at h
  split at h
  ·exact List.mem_cons_of_mem _ (dVm_ n z vs ss h)
  ·rcases List.mem_cons.1 h with h | h
   ·simp[h]
   ·exact List.mem_cons_of_mem _ (dVm_ n z vs ss h)
theorem dl_{ρ:Type}(n:ByteArray)(vs:List ByteArray)(ss:List Int)(hl:ss.length=vs.length)(hb:vs.length≤1048576):
 forN (ρ:=ρ) (fun (i5:Nat) (s5:(List ByteArray)×(List Int))=>ae (idx vs (i5:Int)) fun v38=>bif decide (v38=n) then some (.nx (s5.1,s5.2)) else
  ae (idx vs (i5:Int)) fun v47=>ae (app s5.1 ([v47])) fun v50=>ae (idx ss (i5:Int)) fun v57=>ae (app s5.2 ([v57])) fun v60=>some (.nx (v50,v60))) vs.length 0 ([],[])=some (.inr (dropV n vs ss)):=by
 have key:∀ (vs pv:List ByteArray) (ss ps:List Int) (s:List ByteArray×List Int),ps.length=pv.length→ss.length=vs.length→s.1.length+vs.length≤1048576→s.2.length+vs.length≤1048576→
  forN (ρ:=ρ) (fun (i5:Nat) (s5:(List ByteArray)×(List Int))=>ae (idx (pv++vs) (i5:Int)) fun v38=>bif decide (v38=n) then some (.nx (s5.1,s5.2)) else
  ae (idx (pv++vs) (i5:Int)) fun v47=>ae (app s5.1 ([v47])) fun v50=>ae (idx (ps++ss) (i5:Int)) fun v57=>ae (app s5.2 ([v57])) fun v60=>some (.nx (v50,v60))) vs.length pv.length s=some (.inr (s.1++(dropV n vs ss).1,s.2++(dropV n vs ss).2)):=by
  intro vs
  induction vs with
  | nil=>intro pv ss ps s _ h _ _; cases ss<;>simp[forN,dropV]
  | cons v vs ih=>
   intro pv ss ps s hp h h1 h2
   cases ss with
   | nil=>simp at h
   | cons x ss=>
    simp only[aJ] at h1 h2 ⊢
    by_cases e:v=n
    ·rw[fNn_ (s':=s) (by rw[im_,ag,decide_eq_true e,cond_true])]
     have:=ih (pv++[v]) ss (ps++[x]) s (by simp[hp]) (by simpa using h) (by omega) (by omega)
     simp only[dropV,if_pos e]
     simpa using this
    ·rw[fNn_ (s':=(s.1++[v],s.2++[x])) (by
      rw[im_,ag,decide_eq_false e,cond_false,ag,ao_1 (by omega),ag,← hp,im_,ag,ao_1 (by omega)]; rfl)]
     have:=ih (pv++[v]) ss (ps++[x]) (s.1++[v],s.2++[x]) (by simp[hp]) (by simpa using h) (by simp; omega) (by simp; omega)
     simp only[dropV,if_neg e]
     simpa using this
 have:=key vs [] ss [] ([],[]) rfl hl (by simpa using hb) (by simpa using hb)
 simpa using this
theorem iRm_{x:Int}(h0:0≤x)(h1:x≤1000000000000):InR x:=by simp only[InR]; omega
theorem sb_1(a m:Lt)(n:ByteArray)(ha:a.Ok)(hm:m.Ok)(hn:Big n.size):∃ (g:Lt) (c:Bool),sSL_ a n m=some (g,c)∧iSL_ a n m=some (g,c)∧g.Vars.length≤16∧g.Slopes.length≤16:=by
 unfold sSL_ iSL_
 rw[specL a ha,implL a ha,specL m hm,implL m hm,lVe_ n hn,iVe_ n hn,ag,ag]
 cases hv:vL_ a
 ·exact⟨_,_,rfl,rfl,by simp,by simp⟩
 simp only[cond_true,ag]
 cases hx:iVS_ n
 ·exact⟨_,_,rfl,rfl,by simp,by simp⟩
 simp only[cond_true,ag]
 cases hw:vL_ m
 ·exact⟨_,_,rfl,rfl,by simp,by simp⟩
 simp only[cond_true]
 obtain⟨a1,a2,a3,a4,a5,a6⟩:=vLi_ hv
 obtain⟨b1,b2,b3,b4,b5,b6⟩:=vLi_ hw
 have dl:=dVl_ n a.Vars a.Slopes
 generalize hf:sZ_ a.Vars a.Slopes n=f
 have fb:=sZb_ hv n
 rw[hf] at fb
 -- the text's way
 let R:Lt:=⟨(dropV n a.Vars a.Slopes).1,(dropV n a.Vars a.Slopes).2,a.Constant⟩
 have hnl:=nOl_ R m
 have hRl:R.Vars.length≤8:=Nat.le_trans dl.2 a1
 have e1:(thenL (ρ:=(Lt×Bool)) (σ:=(List ByteArray)×(List Int)) (forN (fun (i5:Nat) (s5:(List ByteArray)×(List Int))=>
  ae (idx a.Vars (i5:Int)) fun v38=>
  bif decide (v38=n) then
   some (.nx (s5.1,s5.2))
  else
   ae (idx a.Vars (i5:Int)) fun v47=>
   ae (app s5.1 ([v47])) fun v50=>
   ae (idx a.Slopes (i5:Int)) fun v57=>
   ae (app s5.2 ([v57])) fun v60=>
   some (.nx (v50,v60))) a.Vars.length 0 ([],[])) fun s5=>
  ae (slS_ a n) fun v66=>
  ae (slP_1 (Lt.mk s5.1 s5.2 a.Constant) m v66) fun v67=>
  ae (slL_1 v67) fun v69=>
  bif v69 then
   some (v67,true)
  else
   some ((Lt.mk ([]) ([]) (0:Int)),false))=ae (slL_1 (plusL R m f)) fun v69=>bif v69 then some (plusL R m f,true) else some ((Lt.mk ([]) ([]) (0:Int)),false):=by
  rw[dl_ n a.Vars a.Slopes a2 (by omega),tLi_,lSe_ a n a2,hf,ag]
  have:=lPe_ R m f dl.1 b2 (by omega)
  simp only[R] at this
  rw[this,ag]
 rw[e1]
 -- the program's way
 have hm1:=fPo_1 (plusU 1) a.Vars a.Slopes _ GOk.empty
 have hm2:=hm1.del n
 have hm3:=fPo_1 (plusU f) m.Vars m.Slopes _ hm2
 generalize hM1:foldP (plusU 1) a.Vars a.Slopes aM=M1 at hm1 hm2 hm3
 generalize hM3:foldP (plusU f) m.Vars m.Slopes (GMap.del M1 n)=M3 at hm3
 have hg1:∀ z,aw M1 z 0=sZ_ a.Vars a.Slopes z:=by
  intro z
  have s1:=sZb_ hv z
  rw[← hM1]
  by_cases c:z∈a.Vars
  ·rw[fPi_ (plusU 1) z _ _ _ a2.symm a4.nodup c,eg_]
   have:=pUs_ (f:=1) (g:=0) (s:=sZ_ a.Vars a.Slopes z) (by omega) (by omega) (by omega) (by omega) s1.1 (by omega)
   omega
  ·rw[fPo_ (plusU 1) z _ _ _ c,eg_,sZn_ _ _ _ c]
 have hg2:∀ z,aw (GMap.del M1 n) z 0=sZ_ R.Vars R.Slopes z:=by
  intro z
  rw[dg_ hm1,hg1]
  exact(dVs_ n z a.Vars a.Slopes).symm
 have hRb:∀ z,0≤sZ_ R.Vars R.Slopes z∧sZ_ R.Vars R.Slopes z≤1000:=by
  intro z
  have s1:=sZb_ hv z
  have:sZ_ R.Vars R.Slopes z=if n=z then 0 else sZ_ a.Vars a.Slopes z:=dVs_ n z a.Vars a.Slopes
  rw[this]
  split<;>omega
 have hg3:∀ z,aw M3 z 0=plusU f (sZ_ R.Vars R.Slopes z) (sZ_ m.Vars m.Slopes z):=by
  intro z
  have s1:=hRb z
  rw[← hM3]
  by_cases c:z∈m.Vars
  ·rw[fPi_ (plusU f) z _ _ _ b2.symm b4.nodup c,hg2]
  ·rw[fPo_ (plusU f) z _ _ _ c,hg2,sZn_ _ _ _ c,pUz_ s1.1 (by omega)]
 have hH:∀ z,0≤plusU f (sZ_ R.Vars R.Slopes z) (sZ_ m.Vars m.Slopes z)∧plusU f (sZ_ R.Vars R.Slopes z) (sZ_ m.Vars m.Slopes z)≤200000000:=by
  intro z
  have s1:=hRb z
  have s2:=sZb_ hw z
  have:=pUs_ (f:=f) fb.1 fb.2.1 s1.1 (show sZ_ R.Vars R.Slopes z≤1000000000 by omega) s2.1 (by omega)
  omega
 have hcc:=pUs_ (f:=f) (g:=a.Constant) (s:=m.Constant) fb.1 fb.2.1 (by omega) (by omega) (by omega) (by omega)
 have hsub:∀ z,z∈(nO_ R m).filter (fun n=>decide (0<plusU f (sZ_ R.Vars R.Slopes n) (sZ_ m.Vars m.Slopes n)))↔aw M3 z 0≠0:=by
  intro z
  have h0:=hH z
  rw[List.mem_filter,hg3,decide_eq_true_eq]
  constructor
  ·rintro ⟨_,h⟩; omega
  ·intro h
   refine⟨Classical.byContradiction fun hno=>h ?_,by omega⟩
   rw[nOm_,not_or] at hno
   rw[sZn_ _ _ _ hno.1,sZn_ _ _ _ hno.2,pUz_ (by omega) (by omega)]
 have hnz:nzk M3=(plusL R m f).Vars:=ne_ hm3 ((nOs_ R m).filter _) hsub
 have hkeys:∀ z∈Gak_ M3,z∈a.Vars∨z∈m.Vars:=by
  intro z hz
  rw[← hM3,fPk_ (plusU f) z _ _ _ b2.symm] at hz
  rcases hz with h | h
  ·exact .inr h
  ·have h:=((dk_ hm1 n z).1 h).2
   rw[← hM1,fPk_ (plusU 1) z _ _ _ a2.symm] at h
   rcases h with h | h
   ·exact .inl h
   ·simp[Gak_,aM] at h
 have hlen3:=fPl_ (plusU f) m.Vars m.Slopes (GMap.del M1 n)
 have hlen2:=dl_1 M1 n
 have hlen1:=fPl_ (plusU 1) a.Vars a.Slopes aM
 have hle0:(aM:GMap Int).es.length=0:=rfl
 rw[hM3] at hlen3
 rw[hM1] at hlen1
 have hbig:∀ k∈Gak_ M3,Big k.size:=fun k hk=>(hkeys k hk).elim (fun h=>bv_ (a6 k h)) (fun h=>bv_ (b6 k h))
 have hr:∀ k,InR (aw M3 k 0):=fun k=>by rw[hg3]; exact iRm_ (hH k).1 (by have:=(hH k).2; omega)
 have hci:IntKind.i64.wrap (IntKind.i64.wrap (1*a.Constant)+IntKind.i64.wrap (f*m.Constant))=plusU f a.Constant m.Constant:=by
  unfold plusU
  rw[Int.one_mul,ws_1 (x:=a.Constant) (by omega) (by omega)]
 have hci2:InR (plusU f a.Constant m.Constant):=iRm_ (by omega) (by omega)
 rw[ae_ a _ 1 a2,ag,iSZ_ a n hv,ag,hf]
 simp only
 rw[hM1,ae_ m _ f b2,ag]
 simp only
 rw[hM3,hci,le_1 hm3 _ (by omega) hbig hr hci2,hnz]
 have hmap:((plusL R m f).Vars.map fun k=>aw M3 k 0)=(plusL R m f).Slopes:=List.map_congr_left fun k _=>hg3 k
 rw[hmap]
 have hJ:(⟨(plusL R m f).Vars,(plusL R m f).Slopes,plusU f a.Constant m.Constant⟩:Lt)=plusL R m f:=rfl
 rw[hJ]
 have hfl:(plusL R m f).Vars.length≤16:=Nat.le_trans (List.length_filter_le _ _) (by omega)
 have hfs:(plusL R m f).Slopes.length=(plusL R m f).Vars.length:=aB _
 have hok:(plusL R m f).Ok:=by
  refine⟨⟨by simp only[Big]; omega,fun k hk=>?_⟩,⟨by simp only[Big]; omega,fun x hx=>?_⟩,hci2⟩
  ·rcases (nOm_ R m k).1 (List.mem_filter.1 hk).1 with h | h
   ·exact bv_ (a6 k (dVm_ n k _ _ h))
   ·exact bv_ (b6 k h)
  ·obtain⟨k,_,rfl⟩:=List.mem_map.1 hx
   exact iRm_ (hH k).1 (by have:=(hH k).2; omega)
 rw[specL _ hok,ag,ag]
 cases vL_ (plusL R m f)
 ·exact⟨_,_,rfl,rfl,by simp,by simp⟩
 ·exact⟨_,_,rfl,rfl,hfl,by omega⟩
end
section
def Bytes(c:List Int):Prop:=c.length≤4611686018427387∧∀ x∈c,0≤x∧x≤255
theorem vAo_{c:List Int}(h:Bytes c){i:Int}(h0:0≤i)(h1:i≤1000):∃ v,vAt c i=some v∧0≤v∧v≤255:=by
 unfold vAt
 by_cases e:i<(c.length:Int)
 ·rw[decide_eq_true e,cond_true]
  obtain⟨b,hb⟩:∃ b,c[i.toNat]?=some b:=⟨_,List.getElem?_eq_getElem (by omega)⟩
  have hbr:=h.2 b (List.mem_of_getElem? hb)
  have hi:idx c i=some b:=by simp[idx,h0,hb]
  rw[hi,ag,wi_ hbr.1 (by omega)]
  exact⟨_,rfl,hbr.1,hbr.2⟩
 ·have hl:=h.1
  rw[decide_eq_false e,cond_false,wi_ (x:=i*7) (by omega) (by omega),wi_ (by omega) (by omega)]
  obtain⟨q,e4,hq0,hq1⟩:=rl_1 (x:=i*7+(c.length:Int)) (m:=256) (by omega) (by omega)
  rw[e4,ag]
  exact⟨_,rfl,hq0,by omega⟩
theorem vMo_{c:List Int}(h:Bytes c){n:ByteArray}(hn:Big n.size):∃ v,vMix c n []=some v∧0≤v:=by
 unfold vMix
 simp only[Big] at hn
 have hb:bnd (n.size:Int)=some n.size:=by unfold bnd; rw[if_pos (by omega)]; simp
 rw[hb,ag]
 obtain⟨s,e,hs0,hs1⟩:=fNi_ (ρ:=Int) (σ:=Int) (f:=fun (i3:Nat) (s3:Int)=>
  ae (sidx n (i3:Int)) fun v20=>
  ae (rem (IntKind.i64.wrap ((IntKind.i64.wrap ((31:Int)*s3))+(IntKind.i64.wrap v20))) (65521:Int)) fun v23=>
  some (.nx v23)) (fun _ s=>0≤s∧s≤65521) n.size 0 17 ⟨by omega,by omega⟩ (by
  intro j s _ hj hs
  have hi:sidx n (j:Int)=some ((n.data.toList.getD j 0).toNat:Int):=by
   unfold sidx; rw[if_pos ⟨by omega,by omega⟩]; simp
  have hb:=(n.data.toList.getD j 0).toNat_lt
  rw[hi,ag,wi_ (x:=31*s) (by omega) (by omega),wi_ (x:=(((n.data.toList.getD j 0).toNat:Nat):Int)) (by omega) (by omega),wi_ (by omega) (by omega)]
  obtain⟨q,e4,hq0,hq1⟩:=rl_1 (x:=31*s+(((n.data.toList.getD j 0).toNat:Nat):Int)) (m:=65521) (by omega) (by omega)
  rw[e4,ag]
  exact⟨_,rfl,hq0,by omega⟩)
 rw[e,tLi_]
 simp only[ba,fNz_,tLi_]
 obtain⟨q1,e1,hq0,hq1⟩:=rl_1 (x:=s) (m:=53) hs0 (by omega)
 obtain⟨q2,e2,hr0,hr1⟩:=rl_1 (x:=s) (m:=89) hs0 (by omega)
 obtain⟨v1,e3,hv0,hv1⟩:=vAo_ h hq0 (by omega)
 obtain⟨v2,e4,hw0,hw1⟩:=vAo_ h hr0 (by omega)
 simp only[e1,e2,e3,e4,ag]
 rw[wi_ (x:=13*v1) (by omega) (by omega),wi_ (x:=s+13*v1) (by omega) (by omega),wi_ (by omega) (by omega)]
 have hq:quo (s+13*v1+v2) 3=some (IntKind.i64.wrap ((s+13*v1+v2).tdiv 3)):=by simp[quo]
 have hd0:0≤(s+13*v1+v2).tdiv 3:=Int.tdiv_nonneg (by omega) (by omega)
 have hd1:(s+13*v1+v2).tdiv 3≤s+13*v1+v2:=by rw[Int.tdiv_eq_ediv_of_nonneg (by omega)]; omega
 rw[hq,ag,wi_ hd0 (by omega)]
 exact⟨_,rfl,hd0⟩
def valN(c:List Int)(n:ByteArray):Int:=((vMix c n []).getD 0).tmod 50
theorem vNo_{c:List Int}(h:Bytes c){n:ByteArray}(hn:Big n.size):(ae (vMix c n []) fun v=>rem v 50)=some (valN c n)∧0≤valN c n∧valN c n≤49:=by
 obtain⟨v,e,h0⟩:=vMo_ h hn
 unfold valN
 have h1:=Int.tmod_nonneg 50 h0
 have h2:=Int.tmod_lt_of_pos v (b:=50) (by omega)
 rw[e,ag,Option.getD_some]
 exact⟨by simp[rem],h1,by omega⟩
def sumW(W:ByteArray→Int):List ByteArray→List Int→Int
 | v::vs,s::ss=>s*W v+sumW W vs ss
 | _,_=>0
theorem rL_eq{c:List Int}(h:Bytes c)(l:Lt)(hl:l.Slopes.length=l.Vars.length)(hv:∀ v∈l.Vars,Big v.size)(hn:l.Vars.length≤100)(hs:∀ s∈l.Slopes,0≤s∧s≤1000)
 (hc:0≤l.Constant∧l.Constant≤1000000):rL_ l c=some (l.Constant+sumW (valN c) l.Vars l.Slopes):=by
 unfold rL_
 have key:∀ (vs pv:List ByteArray) (ss ps:List Int) (a:Int),ps.length=pv.length→ss.length=vs.length→(∀ v∈vs,Big v.size)→(∀ s∈ss,0≤s∧s≤1000)→0≤a→a+50000*(vs.length:Int)≤1000000000→
  forN (ρ:=Int) (fun (i3:Nat) (s3:Int)=>
  bif decide ((i3:Int)<((ps++ss).length:Int)) then
   ae (idx (ps++ss) (i3:Int)) fun v27=>
   ae (idx (pv++vs) (i3:Int)) fun v33=>
   ae (vMix c v33 ([])) fun v35=>
   ae (rem v35 (50:Int)) fun v36=>
   some (.nx (IntKind.i64.wrap (s3+(IntKind.i64.wrap (v27*v36)))))
  else
   some (.rt s3)) vs.length pv.length a=some (.inr (a+sumW (valN c) vs ss)):=by
  intro vs
  induction vs with
  | nil=>intro pv ss ps a _ h _ _ _ _; cases ss<;>simp[forN,sumW]
  | cons v vs ih=>
   intro pv ss ps a hp hq hv hs h0 h1
   cases ss with
   | nil=>simp at hq
   | cons x ss=>
    simp only[aJ] at h1 hq ⊢
    have hx:=hs x (by simp)
    obtain⟨e1,g0,g1⟩:=vNo_ h (hv v (by simp))
    have m0:0≤x*valN c v:=Int.mul_nonneg hx.1 g0
    have m1:x*valN c v≤1000*49:=Int.mul_le_mul hx.2 g1 g0 (by omega)
    rw[fNn_ (s':=a+x*valN c v) (by
     rw[decide_eq_true (by simp only[List.length_append,aJ]; omega),cond_true,← hp,im_,ag,hp,im_,ag]
     obtain⟨w,ew,_⟩:=vMo_ h (hv v (by simp))
     rw[ew,ag] at e1
     simp only[ew,ag,e1]
     rw[wi_ m0 (by omega),wi_ (by omega) (by omega)])]
    have:=ih (pv++[v]) ss (ps++[x]) (a+x*valN c v) (by simp[hp]) (by omega) (fun z hz=>hv z (by simp[hz])) (fun z hz=>hs z (by simp[hz])) (by omega) (by omega)
    simp only[sumW]
    rw[show a+(x*valN c v+sumW (valN c) vs ss)=a+x*valN c v+sumW (valN c) vs ss by omega]
    simpa using this
 have:=key l.Vars [] l.Slopes [] l.Constant rfl hl hv hs hc.1 (by omega)
 simp only[List.nil_append,ba] at this
 rw[this]; rfl
theorem sWb_{W:ByteArray→Int}:∀ (vs:List ByteArray) (ss:List Int),(∀ v∈vs,0≤W v∧W v≤49)→(∀ s∈ss,0≤s∧s≤1000)→0≤sumW W vs ss∧sumW W vs ss≤50000*(vs.length:Int)
 | [],ss,_,_=>by cases ss<;>simp[sumW]
 | v::vs,[],_,_=>by simp only[sumW,aJ]; omega
 | v::vs,s::ss,hw,hs=>by
  have h:=sWb_ vs ss (fun z hz=>hw z (by simp[hz])) (fun z hz=>hs z (by simp[hz]))
  have h1:=hw v (by simp)
  have h2:=hs s (by simp)
  have m0:0≤s*W v:=Int.mul_nonneg h2.1 h1.1
  have m1:s*W v≤1000*49:=Int.mul_le_mul h2.2 h1.2 h1.1 (by omega)
  simp only[sumW,aJ]; omega
def sumN(H:ByteArray→Int)(ns:List ByteArray):Int:=(ns.map H).sum
theorem sNc_(H:ByteArray→Int)(n:ByteArray)(ns:List ByteArray):sumN H (n::ns)=H n+sumN H ns:=by simp[sumN]
theorem sNa_(H K:ByteArray→Int):∀ ns,sumN (fun z=>H z+K z) ns=sumN H ns+sumN K ns
 | []=>rfl
 | n::ns=>by rw[sNc_,sNc_,sNc_,sNa_ H K ns]; omega
theorem sNm_(f:Int)(H:ByteArray→Int):∀ ns,sumN (fun z=>f*H z) ns=f*sumN H ns
 | []=>by simp[sumN]
 | n::ns=>by rw[sNc_,sNc_,sNm_ f H ns,Int.mul_add]
theorem sNc_1{H K:ByteArray→Int}:∀ ns,(∀ z∈ns,H z=K z)→sumN H ns=sumN K ns
 | [],_=>rfl
 | n::ns,h=>by rw[sNc_,sNc_,h n (by simp),sNc_1 ns fun z hz=>h z (by simp[hz])]
theorem sNl_{H K:ByteArray→Int}:∀ ns,(∀ z∈ns,H z≤K z)→sumN H ns≤sumN K ns
 | [],_=>by simp[sumN]
 | n::ns,h=>by
  have:=sNl_ ns fun z hz=>h z (by simp[hz])
  have:=h n (by simp)
  rw[sNc_,sNc_]; omega
theorem sNn_(v:ByteArray)(s:Int)(W:ByteArray→Int):∀ ns:List ByteArray,v∉ns→sumN (fun z=>(if v=z then s else 0)*W z) ns=0
 | [],_=>rfl
 | n::ns,h=>by
  simp only[aV,not_or] at h
  rw[sNc_,sNn_ v s W ns h.2,if_neg h.1]; simp
theorem sNo_(v:ByteArray)(s:Int)(W:ByteArray→Int):∀ ns:List ByteArray,ns.Nodup→v∈ns→sumN (fun z=>(if v=z then s else 0)*W z) ns=s*W v
 | [],_,h=>by simp at h
 | n::ns,h,hm=>by
  obtain⟨h1,h2⟩:=List.nodup_cons.1 h
  rw[sNc_]
  by_cases e:v=n
  ·subst e; rw[if_pos rfl,sNn_ v s W ns h1]; omega
  ·rw[if_neg e,sNo_ v s W ns h2 ((List.mem_cons.1 hm).resolve_left e)]; simp
theorem sNs_(W:ByteArray→Int)(ns:List ByteArray)(hn:ns.Nodup):∀ (vs:List ByteArray) (ss:List Int),vs.Nodup→ss.length=vs.length→(∀ v∈vs,v∈ns)→sumN (fun z=>sZ_ vs ss z*W z) ns=sumW W vs ss
 | [],ss,_,_,_=>by
  have:∀ ns:List ByteArray,sumN (fun z=>sZ_ [] ss z*W z) ns=0:=fun ns=>by
   induction ns with
   | nil=>rfl
   | cons n ns ih=>rw[sNc_,ih,sZn_ [] ss n (by simp)]; simp
  rw[this]; cases ss<;>rfl
 | v::vs,[],_,h,_=>by simp at h
 | v::vs,s::ss,hd,hl,hm=>by
  obtain⟨h1,h2⟩:=List.nodup_cons.1 hd
  have ih:=sNs_ W ns hn vs ss h2 (by simpa using hl) (fun z hz=>hm z (by simp[hz]))
  have e:∀ z∈ns,sZ_ (v::vs) (s::ss) z*W z=(if v=z then s else 0)*W z+sZ_ vs ss z*W z:=by
   intro z _
   simp only[sZ_]
   by_cases c:v=z
   ·subst c; rw[if_pos rfl,if_pos rfl,sZn_ vs ss v h1]; omega
   ·rw[if_neg c,if_neg c]; omega
  rw[sNc_1 ns e,sNa_,ih,sNo_ v s W ns hn (hm v (by simp))]
  rfl
theorem sWm_(W:ByteArray→Int)(H:ByteArray→Int):∀ ns:List ByteArray,sumW W ns (ns.map H)=sumN (fun z=>H z*W z) ns
 | []=>rfl
 | n::ns=>by rw[sNc_,← sWm_ W H ns]; rfl
theorem sNf_(H:ByteArray→Int)(p:ByteArray→Bool):∀ ns:List ByteArray,(∀ z∈ns,p z=false→H z=0)→sumN H (ns.filter p)=sumN H ns
 | [],_=>rfl
 | n::ns,h=>by
  have ih:=sNf_ H p ns fun z hz=>h z (by simp[hz])
  rw[sNc_]
  cases e:p n with
  | true=>rw[List.filter_cons_of_pos (by rw[e]),sNc_,ih]
  | false=>rw[List.filter_cons_of_neg (by rw[e]; simp),ih,h n (by simp) e]; omega
theorem nOn_(a b:Lt):(nO_ a b).Nodup:=(nOs_ a b).nodup
theorem sb_{v:ByteArray}(h:v.size≤2):Big v.size:=by simp only[Big]; omega
theorem DrawnL.ok{l:Lt}(h:DrawnL l):l.Ok:=by
 obtain⟨h1,h2,h3,h4,h5,h6⟩:=h
 exact⟨⟨by simp only[Big]; omega,fun v hv=>sb_ (h3 v hv)⟩,⟨by simp only[Big]; omega,fun x hx=>by have:=h4 x hx; simp only[InR]; omega⟩,by simp only[InR]; omega⟩
theorem vLO_{l:Lt}(hv:vL_ l=true):l.Ok:=by
 obtain⟨a1,a2,a3,a4,a5,a6⟩:=vLi_ hv
 exact⟨⟨by simp only[Big]; omega,fun v hv=>bv_ (a6 v hv)⟩,⟨by simp only[Big]; omega,fun x hx=>by have:=a5 x hx; exact iRs_ (by omega) (by omega)⟩,iRs_ (by omega) (by omega)⟩
theorem rLv_{c:List Int}(h:Bytes c){l:Lt}(hv:vL_ l=true):rL_ l c=some (l.Constant+sumW (valN c) l.Vars l.Slopes):=by
 obtain⟨a1,a2,a3,a4,a5,a6⟩:=vLi_ hv
 exact rL_eq h l a2 (fun v hv=>bv_ (a6 v hv)) (by omega) (fun s hs=>by have:=a5 s hs; omega) (by omega)
theorem jm_(a b:Lt)(ha:a.Ok)(hb:b.Ok):∃ (g:Lt) (c:Bool),sJL_ a b=some (g,c)∧iJL_ a b=some (g,c)∧(c=true→vL_ a=true∧vL_ b=true∧g=joinL a b∧vL_ g=true):=by
 obtain⟨g,c,e1,e2,_,_⟩:=jb_ a b ha hb
 refine⟨g,c,e1,e2,fun hc=>?_⟩
 subst hc
 unfold sJL_ at e1
 rw[specL a ha,specL b hb,ag] at e1
 cases hv:vL_ a
 ·rw[hv] at e1; simp at e1
 rw[hv,cond_true,ag] at e1
 cases hw:vL_ b
 ·rw[hw] at e1; simp at e1
 rw[hw,cond_true] at e1
 obtain⟨a1,a2,a3,a4,a5,a6⟩:=vLi_ hv
 obtain⟨b1,b2,b3,b4,b5,b6⟩:=vLi_ hw
 rw[lJe_ a b a2 b2 (by omega),ag] at e1
 have hok:(joinL a b).Ok:=by
  have hn:=nOl_ a b
  refine⟨⟨by simp only[Big,joinL]; omega,fun k hk=>?_⟩,⟨by simp only[Big,joinL,aB]; omega,fun x hx=>?_⟩,iRs_ (by simp only[joinL]; omega) (by simp only[joinL]; omega)⟩
  ·rcases (nOm_ a b k).1 hk with h | h
   ·exact bv_ (a6 k h)
   ·exact bv_ (b6 k h)
  ·obtain⟨k,_,rfl⟩:=List.mem_map.1 hx
   have s1:=sZb_ hv k
   have s2:=sZb_ hw k
   exact iRs_ (by omega) (by omega)
 rw[specL _ hok,ag] at e1
 cases hj:vL_ (joinL a b)
 ·rw[hj] at e1; simp at e1
 ·rw[hj] at e1
  simp only[cond_true,Option.some.injEq,Prod.mk.injEq,and_true] at e1
  exact⟨rfl,rfl,e1.symm,by rw[← e1]; exact hj⟩
theorem lj_{c:List Int}(h:Bytes c){a b:Lt}(hv:vL_ a=true)(hw:vL_ b=true)(hg:vL_ (joinL a b)=true):
 ∃ x y z,rL_ (joinL a b) c=some x∧rL_ a c=some y∧rL_ b c=some z∧¬ x<y∧¬ x<z:=by
 refine⟨_,_,_,rLv_ h hg,rLv_ h hv,rLv_ h hw,?_,?_⟩
 all_goals
  obtain⟨a1,a2,a3,a4,a5,a6⟩:=vLi_ hv
  obtain⟨b1,b2,b3,b4,b5,b6⟩:=vLi_ hw
  rw[show sumW (valN c) (joinL a b).Vars (joinL a b).Slopes=_ from sWm_ (valN c) (fun n=>max (sZ_ a.Vars a.Slopes n) (sZ_ b.Vars b.Slopes n)) (nO_ a b)]
  have hW:∀ z∈nO_ a b,0≤valN c z:=fun z hz=>((nOm_ a b z).1 hz).elim (fun g=>(vNo_ h (bv_ (a6 z g))).2.1) (fun g=>(vNo_ h (bv_ (b6 z g))).2.1)
 ·rw[← sNs_ (valN c) (nO_ a b) (nOn_ a b) a.Vars a.Slopes a4.nodup a2 (fun v hv=>(nOm_ a b v).2 (.inl hv))]
  have:=sNl_ (H:=fun z=>sZ_ a.Vars a.Slopes z*valN c z) (K:=fun z=>max (sZ_ a.Vars a.Slopes z) (sZ_ b.Vars b.Slopes z)*valN c z) (nO_ a b) (fun z hz=>Int.mul_le_mul_of_nonneg_right (by omega) (hW z hz))
  simp only[joinL] at this ⊢
  omega
 ·rw[← sNs_ (valN c) (nO_ a b) (nOn_ a b) b.Vars b.Slopes b4.nodup b2 (fun v hv=>(nOm_ a b v).2 (.inr hv))]
  have:=sNl_ (H:=fun z=>sZ_ b.Vars b.Slopes z*valN c z) (K:=fun z=>max (sZ_ a.Vars a.Slopes z) (sZ_ b.Vars b.Slopes z)*valN c z) (nO_ a b) (fun z hz=>Int.mul_le_mul_of_nonneg_right (by omega) (hW z hz))
  simp only[joinL] at this ⊢
  omega
def restL(a:Lt)(n:ByteArray):Lt:=⟨(dropV n a.Vars a.Slopes).1,(dropV n a.Vars a.Slopes).2,a.Constant⟩
theorem iRw_(x:Int):InR (IntKind.i64.wrap x):=by
 simp[InR,IntKind.wrap,IntKind.bits,IntKind.signed]
 omega
theorem sm_(a m:Lt)(n:ByteArray)(ha:a.Ok)(hm:m.Ok)(hn:Big n.size):∃ (g:Lt) (c:Bool),sSL_ a n m=some (g,c)∧iSL_ a n m=some (g,c)∧(c=false→g.Vars=[])∧(c=true→vL_ a=true∧vL_ m=true∧g=plusL (restL a n) m (sZ_ a.Vars a.Slopes n)∧vL_ g=true):=by
 obtain⟨g,c,e1,e2,_,_⟩:=sb_1 a m n ha hm hn
 refine⟨g,c,e1,e2,?_⟩
 unfold sSL_ at e1
 rw[specL a ha,specL m hm,lVe_ n hn,ag] at e1
 cases hv:vL_ a
 ·rw[hv,cond_false] at e1; cases e1; exact⟨fun _=>rfl,nofun⟩
 rw[hv,cond_true,ag] at e1
 cases hx:iVS_ n
 ·rw[hx,cond_false] at e1; cases e1; exact⟨fun _=>rfl,nofun⟩
 rw[hx,cond_true,ag] at e1
 cases hw:vL_ m
 ·rw[hw,cond_false] at e1; cases e1; exact⟨fun _=>rfl,nofun⟩
 rw[hw,cond_true] at e1
 obtain⟨a1,a2,a3,a4,a5,a6⟩:=vLi_ hv
 obtain⟨b1,b2,b3,b4,b5,b6⟩:=vLi_ hw
 have dl:=dVl_ n a.Vars a.Slopes
 have hRl:(restL a n).Vars.length≤8:=Nat.le_trans dl.2 a1
 have hp:=lPe_ (restL a n) m (sZ_ a.Vars a.Slopes n) dl.1 b2 (by omega)
 simp only[restL] at hp
 rw[dl_ n a.Vars a.Slopes a2 (by omega),tLi_,lSe_ a n a2,ag,hp,ag] at e1
 have hok:(plusL (restL a n) m (sZ_ a.Vars a.Slopes n)).Ok:=by
  have hnl:=nOl_ (restL a n) m
  have hfl:(plusL (restL a n) m (sZ_ a.Vars a.Slopes n)).Vars.length≤16:=Nat.le_trans (List.length_filter_le _ _) (by omega)
  have hfs:(plusL (restL a n) m (sZ_ a.Vars a.Slopes n)).Slopes.length=(plusL (restL a n) m (sZ_ a.Vars a.Slopes n)).Vars.length:=aB _
  have iw:∀ x:Int,InR (IntKind.i64.wrap x):=fun x=>iRw_ x
  refine⟨⟨by simp only[Big]; omega,fun k hk=>?_⟩,⟨by simp only[Big]; omega,fun x hx=>?_⟩,iw _⟩
  ·rcases (nOm_ (restL a n) m k).1 (List.mem_filter.1 hk).1 with h | h
   ·exact bv_ (a6 k (dVm_ n k _ _ h))
   ·exact bv_ (b6 k h)
  ·obtain⟨k,_,rfl⟩:=List.mem_map.1 hx
   exact iw _
 have hok':=hok
 simp only[restL] at hok'
 rw[specL _ hok',ag] at e1
 cases hj:vL_ (plusL (restL a n) m (sZ_ a.Vars a.Slopes n))
 ·simp only[restL] at hj
  rw[hj,cond_false] at e1; cases e1; exact⟨fun _=>rfl,nofun⟩
 ·have hj':=hj
  simp only[restL] at hj'
  rw[hj',cond_true] at e1
  simp only[Option.some.injEq,Prod.mk.injEq] at e1
  refine⟨fun h=>?_,fun _=>⟨rfl,rfl,e1.1.symm,?_⟩⟩
  ·rw[← e1.2] at h; cases h
  ·rw[← e1.1]; exact hj
def sD_:List ByteArray→List Int→ByteArray→Int→Int
 | v::vs,s::ss,n,a=>sD_ vs ss n (if v=n then s else a)
 | _,_,_,a=>a
theorem sDn_:∀ (vs:List ByteArray) (ss:List Int) (n:ByteArray) (a:Int),n∉vs→sD_ vs ss n a=a
 | [],ss,n,a,_=>by cases ss<;>rfl
 | v::vs,[],n,a,_=>rfl
 | v::vs,s::ss,n,a,h=>by
  simp only[aV,not_or] at h
  simp only[sD_]
  rw[if_neg (Ne.symm h.1)]; exact sDn_ vs ss n a h.2
theorem sDe_:∀ (vs:List ByteArray) (ss:List Int) (n:ByteArray),vs.Nodup→sD_ vs ss n 0=sZ_ vs ss n
 | [],ss,n,_=>by cases ss<;>rfl
 | v::vs,[],n,_=>rfl
 | v::vs,s::ss,n,h=>by
  obtain⟨h1,h2⟩:=List.nodup_cons.1 h
  simp only[sD_,sZ_]
  by_cases e:v=n
  ·rw[if_pos e,if_pos e]; exact sDn_ vs ss n s (by rw[← e]; exact h1)
  ·rw[if_neg e,if_neg e]; exact sDe_ vs ss n h2
theorem rl_5{ρ:Type}(n:ByteArray)(vs:List ByteArray)(ss:List Int)(hl:ss.length=vs.length)(hb:vs.length≤1048576)(hd:vs.Nodup):
 forN (ρ:=ρ) (fun (i18:Nat) (s18:Int×(List ByteArray)×(List Int))=>
  ae (idx vs (i18:Int)) fun v114=>
  ae (idx vs (i18:Int)) fun v115=>
  bif decide (v115=n) then
   ae (idx ss (i18:Int)) fun v121=>
   ae (idx ss (i18:Int)) fun v122=>
   some (.nx (v122,s18.2.1,s18.2.2))
  else
   ae (idx vs (i18:Int)) fun v128=>
   ae (idx vs (i18:Int)) fun v129=>
   ae (app s18.2.1 ([v129])) fun v131=>
   ae (idx ss (i18:Int)) fun v138=>
   ae (idx ss (i18:Int)) fun v139=>
   ae (app s18.2.2 ([v139])) fun v141=>
   some (.nx (s18.1,v131,v141))) vs.length 0 ((0:Int),[],[])=some (.inr (sZ_ vs ss n,(dropV n vs ss).1,(dropV n vs ss).2)):=by
 have key:∀ (vs pv:List ByteArray) (ss ps:List Int) (a:Int) (s:List ByteArray×List Int),ps.length=pv.length→ss.length=vs.length→s.1.length+vs.length≤1048576→s.2.length+vs.length≤1048576→
  forN (ρ:=ρ) (fun (i18:Nat) (s18:Int×(List ByteArray)×(List Int))=>
  ae (idx (pv++vs) (i18:Int)) fun v114=>
  ae (idx (pv++vs) (i18:Int)) fun v115=>
  bif decide (v115=n) then
   ae (idx (ps++ss) (i18:Int)) fun v121=>
   ae (idx (ps++ss) (i18:Int)) fun v122=>
   some (.nx (v122,s18.2.1,s18.2.2))
  else
   ae (idx (pv++vs) (i18:Int)) fun v128=>
   ae (idx (pv++vs) (i18:Int)) fun v129=>
   ae (app s18.2.1 ([v129])) fun v131=>
   ae (idx (ps++ss) (i18:Int)) fun v138=>
   ae (idx (ps++ss) (i18:Int)) fun v139=>
   ae (app s18.2.2 ([v139])) fun v141=>
   some (.nx (s18.1,v131,v141))) vs.length pv.length (a,s.1,s.2)=some (.inr (sD_ vs ss n a,s.1++(dropV n vs ss).1,s.2++(dropV n vs ss).2)):=by
  intro vs
  induction vs with
  | nil=>intro pv ss ps a s _ h _ _; cases ss<;>simp[forN,dropV,sD_]
  | cons v vs ih=>
   intro pv ss ps a s hp h h1 h2
   cases ss with
   | nil=>simp at h
   | cons x ss=>
    simp only[aJ] at h1 h2 ⊢
    have ix:idx (ps++x::ss) (pv.length:Int)=some x:=by rw[← hp]; exact im_ _ _ _
    by_cases e:v=n
    ·rw[fNn_ (s':=(x,s.1,s.2)) (by rw[im_,ag,ag,decide_eq_true e,cond_true,ix,ag,ag])]
     have:=ih (pv++[v]) ss (ps++[x]) x s (by simp[hp]) (by simpa using h) (by omega) (by omega)
     simp only[dropV,if_pos e,sD_]
     simpa using this
    ·rw[fNn_ (s':=(a,s.1++[v],s.2++[x])) (by
      rw[im_,ag,ag,decide_eq_false e,cond_false,ag,ag,ao_1 (by simp only; omega),ag,ix,ag,ag,ao_1 (by simp only; omega)]; rfl)]
     have:=ih (pv++[v]) ss (ps++[x]) a (s.1++[v],s.2++[x]) (by simp[hp]) (by simpa using h) (by simp; omega) (by simp; omega)
     simp only[dropV,if_neg e,sD_]
     simpa using this
 have:=key vs [] ss [] 0 ([],[]) rfl hl (by simpa using hb) (by simpa using hb)
 rw[sDe_ vs ss n hd] at this
 simpa using this
theorem dVs_1(n:ByteArray):∀ (vs:List ByteArray) (ss:List Int),((dropV n vs ss).1).Sublist vs∧∀ s∈(dropV n vs ss).2,s∈ss
 | [],ss=>by cases ss<;>simp[dropV]
 | v::vs,[]=>by simp[dropV]
 | v::vs,s::ss=>by
  have h:=dVs_1 n vs ss
  simp only[dropV]
  split
  ·exact⟨h.1.cons _,fun z hz=>List.mem_cons_of_mem _ (h.2 z hz)⟩
  ·refine⟨h.1.cons_cons _,fun z hz=>?_⟩
   rcases List.mem_cons.1 hz with hz | hz
   ·simp[hz]
   ·exact List.mem_cons_of_mem _ (h.2 z hz)
theorem sv_{c:List Int}(h:Bytes c){a m:Lt}{n:ByteArray}(hv:vL_ a=true)(hw:vL_ m=true)(hg:vL_ (plusL (restL a n) m (sZ_ a.Vars a.Slopes n))=true):
 ∃ x y z,rL_ (plusL (restL a n) m (sZ_ a.Vars a.Slopes n)) c=some x∧rL_ (restL a n) c=some y∧rL_ m c=some z∧x=IntKind.i64.wrap (y+IntKind.i64.wrap (sZ_ a.Vars a.Slopes n*z)):=by
 obtain⟨a1,a2,a3,a4,a5,a6⟩:=vLi_ hv
 obtain⟨b1,b2,b3,b4,b5,b6⟩:=vLi_ hw
 have dl:=dVl_ n a.Vars a.Slopes
 have ds:=dVs_1 n a.Vars a.Slopes
 have hRl:(restL a n).Vars.length≤8:=Nat.le_trans dl.2 a1
 have hRv:∀ v∈(restL a n).Vars,iVS_ v=true:=fun v hv=>a6 v (ds.1.subset hv)
 have hRs:∀ s∈(restL a n).Slopes,0≤s∧s≤1000:=fun s hs=>by have:=a5 s (ds.2 s hs); omega
 have hmW:∀ v∈m.Vars,0≤valN c v∧valN c v≤49:=fun v hv=>(vNo_ h (bv_ (b6 v hv))).2
 have hRW:∀ v∈(restL a n).Vars,0≤valN c v∧valN c v≤49:=fun v hv=>(vNo_ h (bv_ (hRv v hv))).2
 refine⟨_,_,_,rLv_ h hg,rL_eq h (restL a n) dl.1 (fun v hv=>bv_ (hRv v hv)) (by omega) hRs ⟨a3.1,by have:=a3.2; simp only[restL]; omega⟩,rLv_ h hw,?_⟩
 have fb:=sZb_ hv n
 generalize sZ_ a.Vars a.Slopes n=f at fb hg ⊢
 have sR:=sWb_ (restL a n).Vars (restL a n).Slopes hRW hRs
 have sM:=sWb_ m.Vars m.Slopes hmW (fun s hs=>by have:=b5 s hs; omega)
 have hz:0≤f*(m.Constant+sumW (valN c) m.Vars m.Slopes):=Int.mul_nonneg fb.1 (by omega)
 have hz2:f*(m.Constant+sumW (valN c) m.Vars m.Slopes)≤1000*1000000:=Int.mul_le_mul fb.2.1 (by omega) (by omega) (by omega)
 have hR3:(restL a n).Constant=a.Constant:=rfl
 rw[wi_ hz (by omega),wi_ (by omega) (by omega)]
 have hc:=pUs_ (f:=f) (g:=a.Constant) (s:=m.Constant) fb.1 fb.2.1 a3.1 (by omega) b3.1 b3.2
 have hRb:∀ z,0≤sZ_ (restL a n).Vars (restL a n).Slopes z∧sZ_ (restL a n).Vars (restL a n).Slopes z≤1000:=by
  intro z
  have s1:=sZb_ hv z
  have:sZ_ (restL a n).Vars (restL a n).Slopes z=if n=z then 0 else sZ_ a.Vars a.Slopes z:=dVs_ n z a.Vars a.Slopes
  rw[this]
  split<;>omega
 have hH:∀ z,plusU f (sZ_ (restL a n).Vars (restL a n).Slopes z) (sZ_ m.Vars m.Slopes z)=sZ_ (restL a n).Vars (restL a n).Slopes z+f*sZ_ m.Vars m.Slopes z∧0≤f*sZ_ m.Vars m.Slopes z:=fun z=>by
  have s1:=hRb z
  have s2:=sZb_ hw z
  have:=pUs_ (f:=f) fb.1 fb.2.1 s1.1 (show sZ_ (restL a n).Vars (restL a n).Slopes z≤1000000000 by omega) s2.1 (by omega)
  exact⟨this.1,this.2.1⟩
 have hn:=nOn_ (restL a n) m
 have e1:sumW (valN c) (plusL (restL a n) m f).Vars (plusL (restL a n) m f).Slopes=sumN (fun z=>plusU f (sZ_ (restL a n).Vars (restL a n).Slopes z) (sZ_ m.Vars m.Slopes z)*valN c z) ((nO_ (restL a n) m).filter fun n'=>decide (0<plusU f (sZ_ (restL a n).Vars (restL a n).Slopes n') (sZ_ m.Vars m.Slopes n'))):=sWm_ (valN c) (fun z=>plusU f (sZ_ (restL a n).Vars (restL a n).Slopes z) (sZ_ m.Vars m.Slopes z)) _
 rw[e1,sNf_ _ _ _ (fun z hz hp=>by
  have h0:=hH z
  have h1:=hRb z
  have h2:plusU f (sZ_ (restL a n).Vars (restL a n).Slopes z) (sZ_ m.Vars m.Slopes z)=0:=by
   have:=of_decide_eq_false hp; omega
  rw[h2,Int.zero_mul]),sNc_1 (K:=fun z=>sZ_ (restL a n).Vars (restL a n).Slopes z*valN c z+f*(sZ_ m.Vars m.Slopes z*valN c z)) _ (fun z _=>by rw[(hH z).1,Int.add_mul,Int.mul_assoc]),sNa_,sNm_,
  sNs_ (valN c) _ hn (restL a n).Vars (restL a n).Slopes (ds.1.nodup a4.nodup) dl.1 (fun v hv=>(nOm_ _ _ v).2 (.inl hv)),
  sNs_ (valN c) _ hn m.Vars m.Slopes b4.nodup b2 (fun v hv=>(nOm_ _ _ v).2 (.inr hv))]
 have hc':(plusL (restL a n) m f).Constant=plusU f a.Constant m.Constant:=rfl
 rw[hc',hc.1,Int.mul_add,hR3]
 omega
theorem sp_1(c:List Int)(hB:Bytes c)(v67:Lt×ByteArray×Lt)(ha:v67.1.Ok)(hn:Big v67.2.1.size)(hm:v67.2.2.Ok):
 (ae (iSL_ v67.1 v67.2.1 v67.2.2) fun v75=>
ae (sSL_ v67.1 v67.2.1 v67.2.2) fun v82=>
bif v75.2==v82.2 then
 bif v75.2 then
  thenL (ρ:=Bool) (σ:=Int×(List ByteArray)×(List Int)) (forN (fun (i18:Nat) (s18:Int×(List ByteArray)×(List Int))=>
   ae (idx v67.1.Vars (i18:Int)) fun v114=>
   ae (idx v67.1.Vars (i18:Int)) fun v115=>
   bif decide (v115=v67.2.1) then
    ae (idx v67.1.Slopes (i18:Int)) fun v121=>
    ae (idx v67.1.Slopes (i18:Int)) fun v122=>
    some (.nx (v122,s18.2.1,s18.2.2))
   else
    ae (idx v67.1.Vars (i18:Int)) fun v128=>
    ae (idx v67.1.Vars (i18:Int)) fun v129=>
    ae (app s18.2.1 ([v129])) fun v131=>
    ae (idx v67.1.Slopes (i18:Int)) fun v138=>
    ae (idx v67.1.Slopes (i18:Int)) fun v139=>
    ae (app s18.2.2 ([v139])) fun v141=>
    some (.nx (s18.1,v131,v141))) v67.1.Vars.length 0 ((0:Int),[],[])) fun s18=>
  ae (rL_ v75.1 c) fun v145=>
  ae (rL_ (Lt.mk s18.2.1 s18.2.2 v67.1.Constant) c) fun v148=>
  ae (rL_ v67.2.2 c) fun v152=>
  some (decide (v145=(IntKind.i64.wrap (v148+(IntKind.i64.wrap (s18.1*v152))))))
 else
  bif false==v82.2 then
   some (decide ((v75.1.Vars.length:Int)=(0:Int)))
  else
   some false
else
 some false)=some true:=by
 obtain⟨l,n,m⟩:=v67
 simp only at ha hn hm ⊢
 obtain⟨g,b,e1,e2,h1,h2⟩:=sm_ l m n ha hm hn
 rw[e2,ag,e1,ag]
 cases b with
 | false=>simp[h1 rfl]
 | true=>
  obtain⟨hv,hw,hg,hvg⟩:=h2 rfl
  obtain⟨a1,a2,a3,a4,a5,a6⟩:=vLi_ hv
  subst hg
  obtain⟨x,y,z,e3,e4,e5,e6⟩:=sv_ hB (n:=n) hv hw hvg
  simp only[beq_self_eq_true,cond_true]
  rw[rl_5 n l.Vars l.Slopes a2 (by omega) a4.nodup,tLi_]
  simp only[restL] at e3 e4 ⊢
  rw[e3,ag,e4,ag,e5,ag,← e6,decide_eq_true rfl]
theorem drawJ{c:List Int}(hB:Bytes c):∃ a b,sDJ_ c=some (a,b)∧a.Ok∧b.Ok:=by
 unfold sDJ_
 obtain⟨a,c1,e1,h1,hc1⟩:=lo_ (c:=la.mk c 0 0) (n:=0) ⟨by simp,by simp,hB.2⟩ (by omega)
 obtain⟨b,c2,e2,h2,_⟩:=lo_ hc1 (by omega)
 simp only[e1,e2,ag]
 exact⟨_,_,rfl,h1.ok,h2.ok⟩
theorem drawS{c:List Int}(hB:Bytes c):∃ v,sDS_ c=some v∧v.1.Ok∧Big v.2.1.size∧v.2.2.Ok:=by
 unfold sDS_
 obtain⟨a,c1,e1,h1,hc1⟩:=lo_ (c:=la.mk c 0 0) (n:=0) ⟨by simp,by simp,hB.2⟩ (by omega)
 obtain⟨p,c2,e2,hp0,hp1,hc2⟩:=po_ 9 hc1 (by omega)
 have hp1:=hp1 (by omega)
 simp only[e1,e2,ag]
 have hq:∃ q,quo p 8=some q∧(q=0∨q=1):=by
  have:p=0∨p=1∨p=2∨p=3∨p=4∨p=5∨p=6∨p=7∨p=8:=by omega
  rcases this with rfl | rfl | rfl | rfl | rfl | rfl | rfl | rfl | rfl<;>exact⟨_,rfl,by decide⟩
 obtain⟨q,e3,hq⟩:=hq
 rw[e3,ag]
 obtain⟨l,e4,hl,hls⟩:∃ l:List ByteArray,slc ([(⟨#[88]⟩:ByteArray),(⟨#[89]⟩:ByteArray),(⟨#[90]⟩:ByteArray),(⟨#[120]⟩:ByteArray)]) (0:Int) (IntKind.i64.wrap ((3:Int)+q))=some l∧l≠[]∧∀ v∈l,v.size≤2:=by
  rcases hq with rfl | rfl
  ·refine⟨[(⟨#[88]⟩:ByteArray),(⟨#[89]⟩:ByteArray),(⟨#[90]⟩:ByteArray)],rfl,by simp,fun v hv=>?_⟩
   simp only[aV,List.not_mem_nil,or_false] at hv
   rcases hv with rfl | rfl | rfl<;>decide
  ·refine⟨[(⟨#[88]⟩:ByteArray),(⟨#[89]⟩:ByteArray),(⟨#[90]⟩:ByteArray),(⟨#[120]⟩:ByteArray)],rfl,by simp,fun v hv=>?_⟩
   simp only[aV,List.not_mem_nil,or_false] at hv
   rcases hv with rfl | rfl | rfl | rfl<;>decide
 rw[e4,ag]
 obtain⟨w,c3,e5,hw,hc3⟩:=of_ok l hl hc2 (by omega)
 obtain⟨b,c4,e6,h6,_⟩:=lo_ hc3 (by omega)
 simp only[e5,e6,ag]
 exact⟨_,rfl,h1.ok,sb_ (hls w hw),h6.ok⟩
theorem FnLinear_true(a0:List Int)(h:LOk (fun x:Int=>0≤x∧x≤255) a0):FnLinear a0=some true:=by
 unfold FnLinear vBig
 rw[ag]
 by_cases hb:(65536:Int)<(a0.length:Int)
 ·rw[decide_eq_true hb]; rfl
 rw[decide_eq_false hb,cond_false]
 have hB:Bytes a0:=⟨by omega,h.2⟩
 obtain⟨a,b,e1,ha,hbk⟩:=drawJ hB
 obtain⟨v,e2,k1,k2,k3⟩:=drawS hB
 have hs:=sp_1 a0 hB v k1 k2 k3
 obtain⟨g,d,e3,e4,hg⟩:=jm_ a b ha hbk
 rw[e1,ag,e4,ag,e3,ag]
 cases d with
 | false=>
  simp only[beq_self_eq_true,cond_true,cond_false]
  rw[e2,ag]
  exact hs
 | true=>
  obtain⟨hv,hw,hg,hj⟩:=hg rfl
  subst hg
  obtain⟨x,y,z,e5,e6,e7,e8,e9⟩:=lj_ hB hv hw hj
  have hok:(joinL a b).Ok:=vLO_ hj
  simp only[beq_self_eq_true,cond_true]
  rw[e5,ag,e6,ag,decide_eq_false e8,cond_false,ag,e7,ag,decide_eq_false e9,cond_false,implL _ hok,ag,hj,cond_true,e2,ag]
  exact hs
end
end Go.Proofs.Ytkmfaliedpidbaa
