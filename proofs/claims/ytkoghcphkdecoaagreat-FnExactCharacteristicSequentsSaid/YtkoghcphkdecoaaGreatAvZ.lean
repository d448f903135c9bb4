/- A part of the proof: lemmas only; nothing is claimed here beyond what each lemma says. -/
/- Recursive models: what they come to obeys their own equation. -/
import Derived.Test.YtkoghcphkdecoaaGreatAvY
set_option linter.unusedSimpArgs false
set_option linter.unusedVariables false
set_option linter.defProp false
namespace Go.Av
open Option renaming bind_some→ak
section
variable{α β ρ σ:Type}
def OLe(a b:Option α):Prop:=∀ r,a=some r→b=some r
theorem OLe.refl(a:Option α):OLe a a:=fun _ h=>h
theorem OLe.none(a:Option α):OLe none a:=fun _ h=>by cases h
theorem OLe.trans{a b c:Option α}(h:OLe a b)(h':OLe b c):OLe a c:=fun r hr=>h' r (h r hr)
theorem OLe.bind{a b:Option α}{k k':α→Option β}(h:OLe a b)(hk:∀ v,OLe (k v) (k' v)):OLe (a.bind k) (b.bind k'):=by
 intro r hr
 cases ha:a with
 | none=>rw[ha] at hr; simp at hr
 | some v=>rw[ha,ak] at hr; rw[h v ha,ak]; exact hk v r hr
theorem OLe.cond{b:Bool}{x x' y y':Option α}(h:OLe x x')(h':OLe y y'):OLe (cond b x y) (cond b x' y'):=by cases b<;>assumption
theorem OLe.forN{f f':Nat→σ→Option (Flow ρ σ)}(h:∀ i s,OLe (f i s) (f' i s)):∀ (n i:Nat) (s:σ),OLe (Av.forN f n i s) (Av.forN f' n i s)
 | 0,_,_=>OLe.refl _
 | n+1,i,s=>by
  simp only[Av.forN]
  refine OLe.bind (h i s) (fun v=>?_)
  cases v with
  | nx s'=>exact OLe.forN h n (i+1) s'
  | br s'=>exact OLe.refl _
  | rt r=>exact OLe.refl _
theorem OLe.whileN{f f':σ→Option (Flow ρ σ)}(h:∀ s,OLe (f s) (f' s)):∀ (n:Nat) (s:σ),OLe (Av.whileN f n s) (Av.whileN f' n s)
 | 0,_=>OLe.refl _
 | n+1,s=>by
  simp only[Av.whileN]
  refine OLe.bind (h s) (fun v=>?_)
  cases v with
  | nx s'=>exact OLe.whileN h n s'
  | br s'=>exact OLe.refl _
  | rt r=>exact OLe.refl _
theorem OLe.thenL{m m':Option (ρ ⊕ σ)}{k k':σ→Option ρ}(h:OLe m m')(hk:∀ s,OLe (k s) (k' s)):OLe (Av.thenL m k) (Av.thenL m' k'):=by
 refine OLe.bind h (fun v=>?_)
 cases v with
 | inl r=>exact OLe.refl _
 | inr s=>exact hk s
def Mono(m:Nat→Option α):Prop:=∀ n,OLe (m n) (m (n+1))
theorem Mono.le{m:Nat→Option α}(h:Mono m){n k:Nat}(hnk:n≤k):OLe (m n) (m k):=by
 induction k with
 | zero=>
  have:n=0:=by omega
  subst this; exact OLe.refl _
 | succ k ih=>
  by_cases e:n=k+1
  ·subst e; exact OLe.refl _
  ·exact(ih (by omega)).trans (h k)
def LimIs(m:Nat→Option α)(l:Option α):Prop:=Mono m∧∀ r,l=some r↔∃ n,m n=some r
theorem LimIs.unique{m:Nat→Option α}{l l':Option α}(h:LimIs m l)(h':LimIs m l'):l=l':=by
 cases hl:l with
 | some r=>exact((h'.2 r).2 ((h.2 r).1 hl)).symm
 | none=>
  cases hl':l' with
  | none=>rfl
  | some r=>have:=(h.2 r).2 ((h'.2 r).1 hl'); rw[hl] at this; cases this
theorem LimIs.shift{m:Nat→Option α}{l:Option α}(h:LimIs m l):LimIs (fun n=>m (n+1)) l:=by
 refine⟨fun n=>h.1 (n+1),fun r=>⟨fun hr=>?_,?_⟩⟩
 ·obtain⟨n,hn⟩:=(h.2 r).1 hr; exact⟨n,h.1 n r hn⟩
 ·rintro ⟨n,hn⟩; exact(h.2 r).2 ⟨n+1,hn⟩
theorem LimIs.const(a:Option α):LimIs (fun _=>a) a:=⟨fun _=>OLe.refl _,fun r=>⟨fun h=>⟨0,h⟩,fun ⟨_,h⟩=>h⟩⟩
theorem LimIs.bind{m:Nat→Option α}{l:Option α}{k:Nat→α→Option β}{kl:α→Option β}(h:LimIs m l)(hk:∀ v,LimIs (fun n=>k n v) (kl v)):LimIs (fun n=>(m n).bind (k n)) (l.bind kl):=by
 refine⟨fun n=>OLe.bind (h.1 n) (fun v=>(hk v).1 n),fun r=>⟨fun hr=>?_,?_⟩⟩
 ·cases hl:l with
  | none=>rw[hl] at hr; simp at hr
  | some v=>
   rw[hl,ak] at hr
   obtain⟨n,hn⟩:=(h.2 v).1 hl
   obtain⟨n',hn'⟩:=((hk v).2 r).1 hr
   refine⟨max n n',?_⟩
   simp only
   rw[h.1.le (Nat.le_max_left n n') v hn,ak]
   exact(hk v).1.le (Nat.le_max_right n n') r hn'
 ·rintro ⟨n,hn⟩
  cases hm:m n with
  | none=>simp only[hm] at hn; simp at hn
  | some v=>
   simp only[hm,ak] at hn
   rw[(h.2 v).2 ⟨n,hm⟩,ak]
   exact((hk v).2 r).2 ⟨n,hn⟩
theorem LimIs.cond{b:Bool}{m m':Nat→Option α}{l l':Option α}(h:LimIs m l)(h':LimIs m' l'):LimIs (fun n=>cond b (m n) (m' n)) (cond b l l'):=by cases b<;>assumption
theorem LimIs.forN{f:Nat→Nat→σ→Option (Flow ρ σ)}{fl:Nat→σ→Option (Flow ρ σ)}(h:∀ i s,LimIs (fun n=>f n i s) (fl i s)):∀ (N i:Nat) (s:σ),LimIs (fun n=>Av.forN (f n) N i s) (Av.forN fl N i s)
 | 0,_,_=>LimIs.const _
 | N+1,i,s=>by
  simp only[Av.forN]
  refine LimIs.bind (h i s) (fun v=>?_)
  cases v with
  | nx s'=>exact LimIs.forN h N (i+1) s'
  | br s'=>exact LimIs.const _
  | rt r=>exact LimIs.const _
theorem LimIs.whileN{f:Nat→σ→Option (Flow ρ σ)}{fl:σ→Option (Flow ρ σ)}(h:∀ s,LimIs (fun n=>f n s) (fl s)):∀ (N:Nat) (s:σ),LimIs (fun n=>Av.whileN (f n) N s) (Av.whileN fl N s)
 | 0,_=>LimIs.const _
 | N+1,s=>by
  simp only[Av.whileN]
  refine LimIs.bind (h s) (fun v=>?_)
  cases v with
  | nx s'=>exact LimIs.whileN h N s'
  | br s'=>exact LimIs.const _
  | rt r=>exact LimIs.const _
theorem LimIs.thenL{m:Nat→Option (ρ ⊕ σ)}{l:Option (ρ ⊕ σ)}{k:Nat→σ→Option ρ}{kl:σ→Option ρ}(h:LimIs m l)(hk:∀ s,LimIs (fun n=>k n s) (kl s)):LimIs (fun n=>Av.thenL (m n) (k n)) (Av.thenL l kl):=by
 refine LimIs.bind h (fun v=>?_)
 cases v with
 | inl r=>exact LimIs.const _
 | inr s=>exact hk s
end
end Go.Av
