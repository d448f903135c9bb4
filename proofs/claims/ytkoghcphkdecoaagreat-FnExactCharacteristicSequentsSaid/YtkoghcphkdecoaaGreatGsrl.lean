/- A part of the proof: lemmas only; nothing is claimed here beyond what each lemma says. -/
import Derived.Test.YtkoghcphkdecoaaGreatGfm
import Derived.Test.YtkoghcphkdecoaaGreatAvZ
import Derived.Test.YtkoghcphkdecoaaGreatGsrt
import Derived.Test.YtkoghcphkdecoaaGreatAvS
import Derived.Test.YtkoghcphkdecoaaGreatAvY
set_option linter.unusedSimpArgs false
set_option linter.unusedVariables false
set_option linter.defProp false
set_option maxRecDepth 4000
namespace Go.Proofs.YtkoghcphkdecoaaGreat
open Go.Av
open Bool renaming and_eq_true→aD
open Option renaming bind_some→ak
open SizeOf renaming sizeOf→aw
noncomputable def same{α:Type}(a b:α):Bool:=@decide (a=b) (Classical.propDecidable _)
theorem si_{α:Type}{a b:α}:same a b=true↔a=b:=by unfold same; exact @decide_eq_true_iff _ (Classical.propDecidable _)
theorem sc_1{α:Type}(a b:α):same a b=same b a:=by rw[Bool.eq_iff_iff,si_,si_]; exact eq_comm
theorem sl_1{α:Type}{xs ys:List α}(h:¬ xs.length=ys.length):same xs ys=false:=by
 cases e:same xs ys
 ·rfl
 ·rw[si_] at e; exact absurd (by rw[e]) h
theorem as_2{α:Type}[Inhabited α]{xs ys:List α}(h:xs.length=ys.length):(List.range xs.length).all (fun j=>same (xs.getD j default) (ys.getD j default))=same xs ys:=by
 rw[Bool.eq_iff_iff,List.all_eq_true,si_]
 constructor
 ·intro g
  refine List.ext_getElem h (fun i h1 h2=>?_)
  have:=si_.1 (g i (by simpa using h1))
  simpa[List.getD,h1,h2] using this
 ·rintro rfl x _
  exact si_.2 rfl
theorem sl_{α:Type}[Inhabited α](f:α→α→Option Bool)(xs ys:List α)(h:xs.length=ys.length)(hf:∀ a∈xs,∀ b,f a b=some (same a b)):
 thenL (ρ:=Bool) (σ:=Unit) (forN (fun (i:Nat) (_:Unit)=>Option.bind (idx xs (i:Int)) fun v=>Option.bind (idx ys (i:Int)) fun w=>Option.bind (f v w) fun x=>bif x then some (.nx ()) else some (.rt false)) xs.length 0 ()) (fun _=>some true)=some (same xs ys):=by
 rw[fNa_ (fun j=>same (xs.getD j default) (ys.getD j default)) (r0:=false) (fun j hj _=>?_),as_2 h]
 ·cases same xs ys<;>rfl
 ·rw[igD_ hj,igD_ (h▸hj),ak,ak,hf _ (gDm_ hj),ak]
  cases same (xs.getD j default) (ys.getD j default)<;>rfl
theorem ld_{α:Type}(xs ys:List α):decide ((xs.length:Int)=(ys.length:Int))=decide (xs.length=ys.length):=decide_eq_decide.2 (by omega)
theorem Tt.same_u(a b:Tt):same a b=(decide (a.Name=b.Name)&&same a.Args b.Args):=by
 rw[Bool.eq_iff_iff,si_,aD,si_,decide_eq_true_iff]
 constructor
 ·rintro rfl; exact⟨rfl,rfl⟩
 ·rintro ⟨h1,h2⟩; rw[← a.eta,← b.eta,h1,h2]
theorem lSe_3(a:Tt):∀ b n,2*aw a≤n→slS_3 n a b=some (same a b)∧iET_ n a b=some (same a b):=by
 refine Tt.ind' (M:=fun a=>∀ b n,2*aw a≤n→slS_3 n a b=some (same a b)∧iET_ n a b=some (same a b)) (fun a ih b n hn=>?_) a
 have hp:=a.pos
 cases n with
 | zero=>omega
 | succ n=>
  rw[slS_3,iET_,Tt.same_u]
  unfold sEF_2
  rw[ld_]
  cases decide (a.Name=b.Name)
  ·exact⟨rfl,rfl⟩
  ·by_cases h:a.Args.length=b.Args.length
   ·have k:=fun x (hx:x∈a.Args) y=>ih x hx y n (by have:=Tt.lt hx; omega)
    rw[decide_eq_true h,cond_true,cond_true,sl_ (slS_3 n) a.Args b.Args h (fun x hx y=>(k x hx y).1)]
    refine⟨rfl,?_⟩
    rw[cond_true,cond_true,sl_ (iET_ n) a.Args b.Args h (fun x hx y=>(k x hx y).2)]; rfl
   ·rw[decide_eq_false h,sl_1 h]; exact⟨rfl,rfl⟩
theorem lSo_1(a b:Tt):slS_13 a b=some (same a b):=lim_eq ⟨_,fun n hn=>(lSe_3 a b n hn).1⟩
theorem ETo_(a b:Tt):iET_1 a b=some (same a b):=lim_eq ⟨_,fun n hn=>(lSe_3 a b n hn).2⟩
theorem Ft.same_u(a b:Ft):same a b=(decide (a.Op=b.Op)&&(same a.Atom b.Atom&&(decide (a.Var=b.Var)&&same a.Parts b.Parts))):=by
 rw[Bool.eq_iff_iff,si_,aD,aD,aD,si_,si_,decide_eq_true_iff,decide_eq_true_iff]
 constructor
 ·rintro rfl; exact⟨rfl,rfl,rfl,rfl⟩
 ·rintro ⟨h1,h2,h3,h4⟩; rw[← a.eta,← b.eta,h1,h2,h3,h4]
theorem lSe_2(a:Ft):∀ b n,2*aw a≤n→slS_2 n a b=some (same a b)∧isF_ n a b=some (same a b):=by
 refine Ft.ind' (M:=fun a=>∀ b n,2*aw a≤n→slS_2 n a b=some (same a b)∧isF_ n a b=some (same a b)) (fun a ih b n hn=>?_) a
 have hp:=a.pos
 cases n with
 | zero=>omega
 | succ n=>
  rw[slS_2,isF_,Ft.same_u,lSo_1,ETo_]
  unfold sEF_
  simp only[ld_,ak]
  generalize decide (a.Op=b.Op)=x
  generalize decide (a.Var=b.Var)=y
  generalize same a.Atom b.Atom=z
  by_cases h:a.Parts.length=b.Parts.length
  ·have k:=fun x (hx:x∈a.Parts) y=>ih x hx y n (by have:=Ft.lt hx; omega)
   rw[decide_eq_true h,sl_ (slS_2 n) a.Parts b.Parts h (fun x hx y=>(k x hx y).1),sl_ (isF_ n) a.Parts b.Parts h (fun x hx y=>(k x hx y).2)]
   generalize same a.Parts b.Parts=w
   revert x y z w; decide
  ·rw[decide_eq_false h,sl_1 h]
   simp only[cond_false,ak]
   revert x y z; decide
theorem lSo_(a b:Ft):slS_4 a b=some (same a b):=lim_eq ⟨_,fun n hn=>(lSe_2 a b n hn).1⟩
theorem sFo_(a b:Ft):isF_2 a b=some (same a b):=lim_eq ⟨_,fun n hn=>(lSe_2 a b n hn).2⟩
end Go.Proofs.YtkoghcphkdecoaaGreat

set_option maxRecDepth 4000
namespace Go.Proofs.YtkoghcphkdecoaaGreat
open Go.Av
def Srt(l:List ByteArray):Prop:=l.Pairwise fun a b=>slt a b=true
theorem si_1(a:ByteArray):slt a a=false:=bLi_ _
theorem Srt.nodup{l:List ByteArray}(hl:Srt l):l.Nodup:=hl.imp (fun {x y} h e=>by subst e; rw[si_1] at h; cases h)
def leB(x y:List UInt8):Bool:=decide (x≤y)
theorem sBp_(a:List ByteArray):(sortB a).Perm a:=by
 have h1:((a.map fun x=>x.data.toList).mergeSort leB).Perm (a.map fun x=>x.data.toList):=List.mergeSort_perm _ _
 have h2:=h1.map (fun l:List UInt8=>(⟨l.toArray⟩:ByteArray))
 rw[List.map_map] at h2
 have e:((fun l:List UInt8=>(⟨l.toArray⟩:ByteArray))∘fun x:ByteArray=>x.data.toList)=id:=by funext x; cases x; rfl
 rw[e,List.map_id] at h2
 exact h2
def putS(x:ByteArray):List ByteArray→List ByteArray
 | []=>[x]
 | y::l=>if slt y x=true then y::putS x l else if y=x then y::l else x::y::l
theorem pSm_(x z:ByteArray):∀ l,z∈putS x l↔z=x∨z∈l
 | []=>by simp[putS]
 | y::l=>by
  simp only[putS]
  split
  ·simp only[List.mem_cons,pSm_ x z l]
   constructor
   ·rintro (h | h | h)<;>simp[h]
   ·rintro (h | h | h)<;>simp[h]
  ·split
   ·rename_i h; subst h; simp
   ·simp
theorem pSl_(x:ByteArray):∀ l,(putS x l).length≤l.length+1
 | []=>by simp[putS]
 | y::l=>by
  have:=pSl_ x l
  simp only[putS]
  split
  ·simp only[List.length_cons]; omega
  ·split<;>simp
end Go.Proofs.YtkoghcphkdecoaaGreat
