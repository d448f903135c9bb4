/- A part of the proof: lemmas only; nothing is claimed here beyond what each lemma says. -/
import Derived.Test.YtkoghcphkdecoaaGreatGan
set_option linter.unusedSimpArgs false
set_option linter.unusedVariables false
set_option linter.defProp false
set_option maxRecDepth 4000
namespace Go.Proofs.YtkoghcphkdecoaaGreat
open Go.Av
open Option renaming bind_some→ak,bind→aa
theorem in_1{s:Sa}{d:Dt}{f:Ft}(h:ii_ s d f=some ([],true)):False:=by
 unfold ii_ at h
 rw[re_,ak] at h
 have key:∀ o:Option Ft,(aa o fun v33=>aa (iSF_ v33 f.Var d.Term) fun v39=>bif v39.2 then
  aa (imO_ d.Rule) fun v47=>bif v47.1 then some ([(Sa.mk ([v39.1]) ([]))],true) else some ([(Sa.mk ([]) ([v39.1]))],true)
  else some ([],false))=some (([]:List Sa),true)→False:=by
  intro o h
  cases o with
  | none=>cases h
  | some p=>
   rw[ak] at h
   cases hs:iSF_ p f.Var d.Term with
   | none=>rw[hs] at h; cases h
   | some r=>
    rw[hs,ak,mOe_,ak] at h
    revert h
    cases r.2<;>cases (mOn d.Rule).1<;>simp
 cases hs:stays d.Rule
 ·rw[hs,cond_false] at h
  cases h1:iiV_ d.Term.Name with
  | none=>rw[h1] at h; cases h
  | some b=>
   rw[h1,ak] at h
   cases b
   ·cases h
   rw[cond_true] at h
   cases h3:iiF_2 s d.Term.Name with
   | none=>rw[h3] at h; cases h
   | some c=>
    rw[h3,ak] at h
    cases c
    ·exact key _ h
    ·cases h
 ·rw[hs,cond_true] at h
  exact key _ h
theorem an_1{s:Sa}{d:Dt}(h:ia_ s d=some ([],true)):d.Rule=1∨d.Rule=2:=by
 by_cases r1:d.Rule=1
 ·exact .inl r1
 by_cases r2:d.Rule=2
 ·exact .inr r2
 exfalso
 unfold ia_ at h
 by_cases h15:d.Rule=15
 ·rw[h15] at h
  simp only[decide_true,cond_true,zTi_,ak] at h
  cases hv:iIV_2 d.Cut with
  | none=>rw[hv] at h; revert h; cases decide (d.Main=0)<;>cases zeroT d.Term<;>simp
  | some v=>rw[hv] at h; revert h; cases decide (d.Main=0)<;>cases zeroT d.Term<;>cases v<;>simp
 rw[decide_eq_false h15,decide_eq_false r1,decide_eq_false r2] at h
 simp only[cond_false,we_,sFo_,zTi_,iiQ_1,ak] at h
 cases h1:inR d.Rule 1 15
 ·rw[h1] at h; cases h
 cases h2:same d.Cut (⟨0,⟨⟨#[]⟩,[]⟩,⟨#[]⟩,[]⟩:Ft)
 ·rw[h1,h2] at h; cases h
 rw[h1,h2,cond_true,cond_true] at h
 cases h3:(inR d.Rule 11 14==!zeroT d.Term)
 ·rw[h3] at h; cases h
 rw[h3,cond_true] at h
 cases hm:imF_ s d with
 | none=>rw[hm] at h; cases h
 | some v=>
  rw[hm,ak] at h
  cases hv:v.2
  ·rw[hv] at h; cases h
  rw[hv,cond_true] at h
  cases hq:inR d.Rule 11 14
  ·rw[hq,cond_false] at h
   revert h
   generalize ia1_ 0 v.1=A
   generalize ia1_ 1 v.1=B
   cases decide (d.Rule=3)
   ·cases decide (d.Rule=4)
    ·cases decide (d.Rule=5)
     ·cases decide (d.Rule=6)
      ·cases decide (d.Rule=7)
       ·cases decide (d.Rule=8)
        ·cases decide (d.Rule=9)<;>cases A<;>cases B<;>simp
        ·simp
       ·cases A<;>cases B<;>simp
      ·cases A<;>cases B<;>simp
     ·simp
    ·cases A<;>simp
   ·cases A<;>simp
  ·rw[hq,cond_true] at h
   cases hi:ii_ s d v.1 with
   | none=>rw[hi] at h; cases h
   | some w=>
    rw[hi,ak] at h
    exact in_1 (hi.trans h)
theorem add_ax{s:Sa}{d:Dt}(h:ia_ s d=some ([],true))(hr:d.Rule=1)(hl:Vl s.Left 10):∃ f∈s.Left,idx s.Left d.Main=some f∧(f.Op=2∨s.Right.any (fun g=>same f g)=true):=by
 have hm:mOn 1=(true,0):=rfl
 have hq:inR 1 11 14=false:=rfl
 have hw:inR 1 1 15=true:=rfl
 unfold ia_ at h
 rw[hr] at h
 simp only[we_,sFo_,zTi_,ak,iiQ_1,imF_,mOe_,hr,hm,hq,hw,Int.reduceEq,decide_false,decide_true,cond_true,cond_false] at h
 rcases mi_ (l:=s.Left) (by have:=hl.len; omega) d.Main with h1 | ⟨h1,f,hf,he⟩
 ·simp only[h1,cond_false,ak] at h
  revert h
  cases same d.Cut (⟨0,⟨⟨#[]⟩,[]⟩,⟨#[]⟩,[]⟩:Ft)<;>cases zeroT d.Term<;>simp
 ·refine⟨f,hf,he,?_⟩
  simp only[h1,he,ak,cond_true,as_] at h
  by_cases ho:f.Op=2
  ·exact .inl ho
  ·rw[decide_eq_false ho] at h
   revert h
   cases same d.Cut (⟨0,⟨⟨#[]⟩,[]⟩,⟨#[]⟩,[]⟩:Ft)<;>cases zeroT d.Term<;>cases s.Right.any (fun g=>same f g)<;>simp
theorem fl_{ρ:Type}{F:Nat→Unit→Option (Flow ρ Unit)}{r:ρ}:∀ (k i n:Nat),k<n→(∀ j,j<k→F (i+j) ()=some (.nx ()))→F (i+k) ()=some (.rt r)→forN F n i ()=some (.inl r)
 | 0,i,n,hn,_,h1=>by
  obtain⟨m,rfl⟩:∃ m,n=m+1:=⟨n-1,by omega⟩
  exact fNr_ h1
 | k+1,i,n,hn,h0,h1=>by
  obtain⟨m,rfl⟩:∃ m,n=m+1:=⟨n-1,by omega⟩
  rw[fNn_ (s':=()) (by simpa using h0 0 (by omega))]
  exact fl_ k (i+1) m (by omega) (fun j hj=>by have:=h0 (j+1) (by omega); rwa [show i+1+j=i+(j+1) by omega]) (by rwa [show i+1+k=i+(k+1) by omega])
theorem af_{α:Type}[Inhabited α](p:α→Bool):∀ l:List α,l.any p=true→∃ k,k<l.length∧p (l.getD k default)=true∧∀ j,j<k→p (l.getD j default)=false
 | [],h=>by cases h
 | a::l,h=>by
  cases ha:p a
  ·rw[List.any_cons,ha,Bool.false_or] at h
   obtain⟨k,h1,h2,h3⟩:=af_ p l h
   refine⟨k+1,by simp; omega,h2,fun j hj=>?_⟩
   cases j with
   | zero=>exact ha
   | succ j=>exact h3 j (by omega)
  ·exact⟨0,by simp,ha,fun j hj=>by omega⟩
theorem lb_2{d:Dt}{l r:List Bool}(F:Fit d l r)(hp:d.Parts=[]):
 ∃ s:Sa,iDa_1 d ⟨l,r⟩=some s∧slL_1 d l r=some s∧Vl s.Left 1∧Vl s.Right 1:=by
 obtain⟨hok,ht,hg,hl,hr⟩:=F
 rw[DoD_,Bool.and_eq_true,List.all_eq_true] at hg
 obtain⟨_,_,h3⟩:=nBe_ hok ht
 have N:=h3 hg.1
 obtain⟨xs,a1,a2,a3,a4⟩:=N.rule
 have hx:xs=[]:=by
  rw[hp] at a4
  cases xs with
  | nil=>rfl
  | cons x xs=>cases a4
 subst hx
 obtain⟨vl,vr⟩:=vSV_ N.valid
 have b1:=vl.len
 have b2:=vr.len
 have z:Vl [] 1:=Vl.nil 1
 have o1:∀ f,validF f=true→Vl [f] 1:=fun f hf=>⟨fun g hg=>(by rw[List.mem_singleton.1 hg]; exact hf),by simp⟩
 have ap:∀ f:Ft,app ([]:List Ft) [f]=some [f]:=fun f=>rfl
 unfold iDa_1 slL_1
 rcases an_1 a1 with hr1 | hr2
 ·rw[hr1]
  simp only[Int.reduceEq,decide_false,cond_false]
  obtain⟨f,hf,he,hor⟩:=add_ax a1 hr1 vl
  have hv:=vl.val f hf
  have hm:=am_ a1 (by omega) (by omega) (by omega)
  rw[hr1,show(mOn 1).1=true from rfl,cond_true] at hm
  have e1:=ii_1 (xs:=l) hm.1 (by omega)
  have e2:=ownF f (by have:=vFt_ hv; omega)
  rw[he,e1]
  simp only[ak,e2,ap]
  have ax1:∀ g,iDa_ g f=some (same f g):=fun g=>by unfold iDa_; rw[sFo_,ak]
  by_cases ho:f.Op=2
  ·rw[decide_eq_true ho]
   have hi:∃ v,sIF_ d.Sequent.Right (fun y0=>iDa_ y0 f)=some v:=by
    cases hc:sIF_ d.Sequent.Right (fun y0=>iDa_ y0 f) with
    | some v=>exact⟨v,rfl⟩
    | none=>
     have:=contFm (p:=fun g=>same f g) (f:=fun y0=>iDa_ y0 f) d.Sequent.Right (fun a _=>by unfold iDa_; rw[sFo_,ak])
     unfold sCF_ at this
     rw[hc] at this; cases this
   obtain⟨v,hi⟩:=hi
   rw[hi]
   simp only[ak,cond_true]
   cases l.getD d.Main.toNat default
   ·exact⟨_,rfl,rfl,z,z⟩
   ·exact⟨_,rfl,rfl,o1 f hv,z⟩
  ·rcases hor with h | hany
   ·exact absurd h ho
   obtain⟨k,k1,k2,k3⟩:=af_ _ _ hany
   have hi:sIF_ d.Sequent.Right (fun y0=>iDa_ y0 f)=some (k:Int):=by
    unfold sIF_
    rw[fl_ (r:=(k:Int)) k 0 _ k1 (fun j hj=>?_) ?_,tLi_1]
    ·rw[Nat.zero_add,igD_ (by omega),ak]; show(iDa_ _ f).bind _=_; rw[ax1,ak,k2]; rfl
    ·rw[Nat.zero_add,igD_ (by omega),ak]; show(iDa_ _ f).bind _=_; rw[ax1,ak,k3 j hj]; rfl
   have e3:idx r (k:Int)=some (r.getD k default):=igD_ (by omega)
   have lp:∀ X:List Ft,thenL (ρ:=Sa) (σ:=Unit) (forN (fun (i12:Nat) (s12:Unit)=>
    aa (idx d.Sequent.Right (i12:Int)) fun v68=>
    aa (slS_4 v68 f) fun v71=>
    bif v71 then
     aa (idx r (i12:Int)) fun v74=>
     bif v74 then
      some (.rt (Sa.mk X [f]))
     else
      some (.rt (Sa.mk X ([])))
    else
     some (.nx ())) r.length 0 ()) (fun s12=>some (Sa.mk X []))=some (bif r.getD k default then⟨X,[f]⟩ else⟨X,[]⟩):=by
    intro X
    rw[fl_ (r:=bif r.getD k default then(⟨X,[f]⟩:Sa) else⟨X,[]⟩) k 0 _ (by omega) (fun j hj=>?_) ?_,tLi_1]
    ·rw[Nat.zero_add,igD_ (by omega),ak,lSo_,ak,sc_1,k2,cond_true,e3,ak]
     cases r.getD k default<;>rfl
    ·rw[Nat.zero_add,igD_ (by omega),ak,lSo_,ak,sc_1,k3 j hj]; rfl
   rw[decide_eq_false ho,hi]
   simp only[ak,cond_false,e3,lp]
   cases l.getD d.Main.toNat default<;>cases r.getD k default
   ·exact⟨_,rfl,rfl,z,z⟩
   ·exact⟨_,rfl,rfl,z,o1 f hv⟩
   ·exact⟨_,rfl,rfl,o1 f hv,z⟩
   ·exact⟨_,rfl,rfl,o1 f hv,o1 f hv⟩
 ·rw[hr2]
  simp only[decide_true,cond_true]
  have hm:=am_ a1 (by omega) (by omega) (by omega)
  rw[hr2,show(mOn 2).1=false from rfl,cond_false] at hm
  have e1:=ii_1 (xs:=r) hm.1 (by omega)
  have e2:=ii_1 (xs:=d.Sequent.Right) hm.1 hm.2
  have hv:validF (d.Sequent.Right.getD d.Main.toNat default)=true:=vr.val _ (gDm_ (by omega))
  rw[e1,e2]
  simp only[ak,ownF _ (show(d.Sequent.Right.getD d.Main.toNat default).tot≤1048576 by have:=vFt_ hv; omega),ap]
  cases r.getD d.Main.toNat default
  ·exact⟨_,rfl,rfl,z,z⟩
  ·exact⟨_,rfl,rfl,z,o1 _ hv⟩
end Go.Proofs.YtkoghcphkdecoaaGreat
