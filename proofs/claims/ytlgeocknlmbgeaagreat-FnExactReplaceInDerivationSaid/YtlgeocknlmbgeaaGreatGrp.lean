/- A part of the proof: lemmas only; nothing is claimed here beyond what each lemma says. -/
import Derived.Test.YtlgeocknlmbgeaaGreatGad
set_option linter.unusedSimpArgs false
set_option linter.unusedVariables false
set_option linter.defProp false
set_option maxRecDepth 4000
namespace Go.Proofs.YtlgeocknlmbgeaaGreat
open Go.Av
open List renaming length_cons→aM,length_nil→aY,length_append→a8
open Option renaming bind_some→al
theorem sf_{f:Ft}{n:ByteArray}{t:Tt}{r:Ft×Bool}(hot:t.Ok)(ht:t.tot≤1048576)(h:iSF_ f n t=some r)(h2:r.2=true):goodT t=true:=by
 unfold iSF_ at h
 rw[IVT_ t ht hot] at h
 cases h1:iIV_2 f with
 | none=>rw[h1] at h; cases h
 | some b=>
  rw[h1,al] at h
  cases b
  ·rw[← Option.some.inj h] at h2; cases h2
  rw[cond_true] at h
  cases h3:iiV_ n with
  | none=>rw[h3] at h; cases h
  | some c=>
   rw[h3,al] at h
   cases c
   ·rw[← Option.some.inj h] at h2; cases h2
   rw[cond_true,al] at h
   cases hg:goodT t
   ·rw[hg] at h; rw[← Option.some.inj h] at h2; cases h2
   ·rfl
theorem it_{f:Ft}{d:Dt}{w:List Sa×Bool}(hot:d.Term.Ok)(ht:d.Term.tot≤1048576)
 (h:(Option.bind (idx f.Parts (0:Int)) fun v33=>Option.bind (iSF_ v33 f.Var d.Term) fun v39=>bif v39.2 then
  Option.bind (imO_ d.Rule) fun v47=>bif v47.1 then some ([(Sa.mk ([v39.1]) ([]))],true) else some ([(Sa.mk ([]) ([v39.1]))],true)
  else some ([],false))=some w) (h2:w.2=true):goodT d.Term=true:=by
 cases hp:idx f.Parts (0:Int) with
 | none=>rw[hp] at h; cases h
 | some p=>
  rw[hp,al] at h
  cases hs:iSF_ p f.Var d.Term with
  | none=>rw[hs] at h; cases h
  | some r=>
   rw[hs,al] at h
   cases hr:r.2
   ·rw[hr] at h; rw[← Option.some.inj h] at h2; cases h2
   ·exact sf_ hot ht hs hr
theorem ig_1{s:Sa}{d:Dt}{f:Ft}{w:List Sa×Bool}(hot:d.Term.Ok)(ht:d.Term.tot≤1048576)(h:ii_ s d f=some w)(h2:w.2=true):goodT d.Term=true:=by
 unfold ii_ at h
 rw[re_,al] at h
 cases hs:stays d.Rule
 ·rw[hs,cond_false] at h
  cases h1:iiV_ d.Term.Name with
  | none=>rw[h1] at h; cases h
  | some b=>
   rw[h1,al] at h
   cases b
   ·rw[← Option.some.inj h] at h2; cases h2
   rw[cond_true] at h
   cases h3:iiF_2 s d.Term.Name with
   | none=>rw[h3] at h; cases h
   | some c=>
    rw[h3,al] at h
    cases c
    ·exact it_ hot ht h h2
    ·rw[← Option.some.inj h] at h2; cases h2
 ·rw[hs,cond_true] at h
  exact it_ hot ht h h2
theorem an_1{s:Sa}{d:Dt}{xs:List Sa}(h:ia_ s d=some (xs,true))(h15:d.Rule≠15)(hot:d.Term.Ok)(htt:d.Term.tot≤1048576):
 same d.Cut (⟨0,⟨⟨#[]⟩,[]⟩,⟨#[]⟩,[]⟩:Ft)=true∧((inR d.Rule 11 14=true∧goodT d.Term=true)∨(inR d.Rule 11 14=false∧zeroT d.Term=true)):=by
 unfold ia_ at h
 rw[decide_eq_false h15] at h
 simp only[cond_false,we_,sFo_,zTi_,iiQ_2,al] at h
 cases h1:inR d.Rule 1 15
 ·rw[h1] at h; cases h
 cases h2:same d.Cut (⟨0,⟨⟨#[]⟩,[]⟩,⟨#[]⟩,[]⟩:Ft)
 ·rw[h1,h2] at h; cases h
 refine⟨rfl,?_⟩
 rw[h1,h2,cond_true,cond_true] at h
 cases hq:inR d.Rule 11 14
 ·cases hz:zeroT d.Term
  ·rw[hq,hz] at h; cases h
  ·exact .inr ⟨rfl,rfl⟩
 ·refine .inl ⟨rfl,?_⟩
  rw[hq] at h
  cases hz:zeroT d.Term
  ·rw[hz] at h
   simp only[Bool.not_false,beq_self_eq_true,cond_true] at h
   cases hm:imF_ s d with
   | none=>rw[hm] at h; cases h
   | some v=>
    rw[hm,al] at h
    cases hv:v.2
    ·rw[hv] at h; cases h
    ·rw[hv,cond_true] at h
     cases hi:ii_ s d v.1 with
     | none=>rw[hi] at h; cases h
     | some w=>
      rw[hi,al] at h
      exact ig_1 hot htt hi (congrArg Prod.snd (Option.some.inj h))
  ·rw[hz] at h; cases h
theorem az_{s:Sa}{d:Dt}{xs:List Sa}(h:ia_ s d=some (xs,true))(h15:d.Rule=15):zeroT d.Term=true:=by
 unfold ia_ at h
 rw[h15] at h
 simp only[decide_true,cond_true,zTi_,al] at h
 revert h
 cases decide (d.Main=0)<;>cases zeroT d.Term<;>simp
theorem zTe_{t:Tt}(h:zeroT t=true):t=⟨⟨#[]⟩,[]⟩:=si_.1 ((zs_ t).trans h)
structure RN(d:Dt):Prop where
 vl:Vl d.Sequent.Left 10
 vr:Vl d.Sequent.Right 10
 cut15:d.Rule=15→validF d.Cut=true
 cut0:d.Rule≠15→d.Cut=⟨0,⟨⟨#[]⟩,[]⟩,⟨#[]⟩,[]⟩
 term:(inR d.Rule 11 14=true∧goodT d.Term=true)∨(inR d.Rule 11 14=false∧d.Term=⟨⟨#[]⟩,[]⟩)
theorem nR_{d:Dt}(hok:d.Ok)(hb:d.bd)(h:nodeB d=true):RN d:=by
 obtain⟨_,_,h3⟩:=nBb_ hok hb
 obtain⟨g1,⟨xs,a1,_⟩,_⟩:=h3 h
 obtain⟨vl,vr⟩:=vSV_ g1
 have hu:=hok.u
 rw[Dbu_] at hb
 by_cases h15:d.Rule=15
 ·exact⟨vl,vr,fun _=>ac_2 a1 h15 hu.2.2.2.2.1 hb.2.2.1,fun e=>absurd h15 e,.inr ⟨by rw[h15]; rfl,zTe_ (az_ a1 h15)⟩⟩
 ·obtain⟨n1,n2⟩:=an_1 a1 h15 hu.2.2.2.1 hb.2.1
  refine⟨vl,vr,fun e=>absurd e h15,fun _=>si_.1 n1,?_⟩
  rcases n2 with n2 | ⟨n2,n3⟩
  ·exact .inl n2
  ·exact .inr ⟨n2,zTe_ n3⟩
theorem al_1{α β ρ:Type}(f:α→Option (β×Bool))(g:α→β×Bool):∀ (l:List α) (i:Nat) (s:List β) (b:Bool),(∀ a∈l,f a=some (g a))→s.length+l.length≤1073741824→
 forL (ρ:=ρ) (fun _ a (s:List β×Bool)=>(f a).bind fun v=>bif s.2 then(app s.1 [v.1]).bind fun w=>some (.nx (w,v.2)) else(app s.1 [v.1]).bind fun w=>some (.nx (w,false))) l i (s,b)=
  some (.inr (s++l.map (fun a=>(g a).1),b&&l.all (fun a=>(g a).2)))
 | [],i,s,b,_,_=>by simp[forL]
 | a::l,i,s,b,h,hb=>by
  simp only[aM] at hb
  have e:app s [(g a).1]=some (s++[(g a).1]):=by unfold app; rw[if_pos (by simp only[aM,aY]; omega)]
  rw[fLn_ (s':=(s++[(g a).1],b&&(g a).2)) (by rw[h a (by simp),al]; simp only[e,al]; cases b<;>rfl),
   al_1 f g l (i+1) _ _ (fun c hc=>h c (by simp[hc])) (by simp only[a8,aM,aY]; omega)]
  simp[Bool.and_assoc]
theorem al_{α β ρ:Type}(f:α→Option (β×Bool))(g:α→β×Bool):∀ (l:List α) (i:Nat) (s:List β) (b:Bool),(∀ a∈l,f a=some (g a))→s.length+l.length≤1073741824→
 forL (ρ:=ρ) (fun _ a (s:Bool×List β)=>(f a).bind fun v=>bif s.1 then(app s.2 [v.1]).bind fun w=>some (.nx (v.2,w)) else(app s.2 [v.1]).bind fun w=>some (.nx (false,w))) l i (b,s)=
  some (.inr (b&&l.all (fun a=>(g a).2),s++l.map (fun a=>(g a).1)))
 | [],i,s,b,_,_=>by simp[forL]
 | a::l,i,s,b,h,hb=>by
  simp only[aM] at hb
  have e:app s [(g a).1]=some (s++[(g a).1]):=by unfold app; rw[if_pos (by simp only[aM,aY]; omega)]
  rw[fLn_ (s':=(b&&(g a).2,s++[(g a).1])) (by rw[h a (by simp),al]; simp only[e,al]; cases b<;>rfl),
   al_ f g l (i+1) _ _ (fun c hc=>h c (by simp[hc])) (by simp only[a8,aM,aY]; omega)]
  simp[Bool.and_assoc]
theorem fl_2{α β γ ρ:Type}(f:α→Option (β×γ))(g:α→β×γ):∀ (l:List α) (i:Nat) (s:List β),(∀ a∈l,f a=some (g a))→s.length+l.length≤1073741824→
 forL (ρ:=ρ) (fun _ a (s:List β)=>(f a).bind fun v=>(app s [v.1]).bind fun w=>some (.nx w)) l i s=some (.inr (s++l.map (fun a=>(g a).1)))
 | [],i,s,_,_=>by simp[forL]
 | a::l,i,s,h,hb=>by
  simp only[aM] at hb
  have e:app s [(g a).1]=some (s++[(g a).1]):=by unfold app; rw[if_pos (by simp only[aM,aY]; omega)]
  rw[fLn_ (s':=s++[(g a).1]) (by rw[h a (by simp),al]; simp only[e,al]),
   fl_2 f g l (i+1) _ (fun c hc=>h c (by simp[hc])) (by simp only[a8,aM,aY]; omega)]
  simp
theorem tl_{α β γ:Type}(f:α→Option (β×Bool))(ok:α→Bool)(g:α→β)(R:List β→γ):∀ (l:List α) (i:Nat) (s:List β),
 (∀ a∈l,∃ r,f a=some r∧r.2=ok a∧(r.2=true→r.1=g a))→s.length+l.length≤1073741824→
 (l.all ok=true∧forL (ρ:=γ) (fun _ a (s:List β)=>(f a).bind fun v=>bif v.2 then(app s [v.1]).bind fun w=>some (.nx w) else some (.rt (R s))) l i s=some (.inr (s++l.map g)))∨
 (l.all ok=false∧∃ s',forL (ρ:=γ) (fun _ a (s:List β)=>(f a).bind fun v=>bif v.2 then(app s [v.1]).bind fun w=>some (.nx w) else some (.rt (R s))) l i s=some (.inl (R s')))
 | [],i,s,_,_=>.inl ⟨rfl,by simp[forL]⟩
 | a::l,i,s,h,hb=>by
  simp only[aM] at hb
  obtain⟨r,h1,h2,h3⟩:=h a (by simp)
  rw[List.all_cons]
  cases hr:r.2
  ·refine .inr ⟨by rw[← h2,hr]; rfl,s,?_⟩
   rw[fLr_ (r:=R s) (by rw[h1,al,hr]; rfl)]
  ·have e:app s [r.1]=some (s++[g a]):=by unfold app; rw[if_pos (by simp only[aM,aY]; omega),h3 hr]
   rw[fLn_ (s':=s++[g a]) (by rw[h1,al,hr,cond_true,e]; rfl),← h2,hr,Bool.true_and]
   rcases tl_ f ok g R l (i+1) (s++[g a]) (fun c hc=>h c (by simp[hc])) (by simp only[a8,aM,aY]; omega) with⟨g1,g2⟩ | g1
   ·refine .inl ⟨g1,?_⟩
    rw[g2]; simp
   ·exact .inr g1
mutual
def repD(n:ByteArray)(t:Tt):Dt→Dt
 | .mk r s m a c l=>.mk r ⟨s.Left.map (Ft.sub n t),s.Right.map (Ft.sub n t)⟩ m (sbT n t a) (bif decide (r=15) then c.sub n t else⟨0,⟨⟨#[]⟩,[]⟩,⟨#[]⟩,[]⟩) (repDs n t l)
def repDs(n:ByteArray)(t:Tt):List Dt→List Dt
 | []=>[]
 | a::l=>repD n t a::repDs n t l
end
mutual
def rokD(n:ByteArray)(t:Tt):Dt→Bool
 | .mk r s m a c l=>s.Left.all (Ft.sok n t)&&(s.Right.all (Ft.sok n t)&&((bif decide (r=15) then c.sok n t else true)&&rokDs n t l))
def rokDs(n:ByteArray)(t:Tt):List Dt→Bool
 | []=>true
 | a::l=>rokD n t a&&rokDs n t l
end
theorem rDe_1(n:ByteArray)(t:Tt)(l:List Dt):repDs n t l=l.map (repD n t):=by
 induction l with
 | nil=>rfl
 | cons a l ih=>rw[repDs,ih]; rfl
theorem rDe_(n:ByteArray)(t:Tt)(l:List Dt):rokDs n t l=l.all (rokD n t):=by
 induction l with
 | nil=>rfl
 | cons a l ih=>rw[rokDs,ih]; rfl
theorem repD_u(n:ByteArray)(t:Tt)(d:Dt):repD n t d=.mk d.Rule ⟨d.Sequent.Left.map (Ft.sub n t),d.Sequent.Right.map (Ft.sub n t)⟩ d.Main (sbT n t d.Term) (bif decide (d.Rule=15) then d.Cut.sub n t else⟨0,⟨⟨#[]⟩,[]⟩,⟨#[]⟩,[]⟩) (d.Parts.map (repD n t)):=by
 cases d; rw[repD,rDe_1]; rfl
theorem rokD_u(n:ByteArray)(t:Tt)(d:Dt):rokD n t d=(d.Sequent.Left.all (Ft.sok n t)&&(d.Sequent.Right.all (Ft.sok n t)&&((bif decide (d.Rule=15) then d.Cut.sok n t else true)&&d.Parts.all (rokD n t)))):=by
 cases d; rw[rokD,rDe_]; rfl
section
variable{n:ByteArray}{t:Tt}
theorem ph_(x:ByteArray):GMap.has (GMap.put (GMap.empty:GMap Tt) n t) x=decide (n=x):=by
 by_cases e:n=x<;>simp[GMap.has,GMap.put,GMap.empty,gput,ghas,e]
theorem pg_(x:ByteArray)(z:Tt):GMap.get (GMap.put (GMap.empty:GMap Tt) n t) x z=bif decide (n=x) then t else z:=by
 by_cases e:n=x<;>simp[GMap.get,GMap.put,GMap.empty,gput,gget,e]
theorem rVN_(ht:t.cnt≤10000000)(a:Tt):a.cnt≤10000000→∀ k,2*SizeOf.sizeOf a≤k→irV_ k a (GMap.put (GMap.empty:GMap Tt) n t)=some (sbT n t a):=by
 refine Tt.ind' (M:=fun a=>a.cnt≤10000000→∀ k,2*SizeOf.sizeOf a≤k→irV_ k a (GMap.put (GMap.empty:GMap Tt) n t)=some (sbT n t a)) (fun a ih hc k hk=>?_) a
 have hp:=a.pos
 have hu:=a.cnt_u
 have hl:=cl_1 a.Args
 cases k with
 | zero=>omega
 | succ k=>
  rw[irV_,ph_,pg_,iEd_,sbT_u]
  simp only[fNi_]
  rw[mapL (f:=fun v=>irV_ k v (GMap.put (GMap.empty:GMap Tt) n t)) (g:=sbT n t) a.Args 0 [] (fun x hx=>ih x hx (by have:=cm_ hx; omega) k (by have:=Tt.lt hx; omega)) (by simp; omega),tLi_]
  rw[show decide (n=a.Name)=decide (a.Name=n) from decide_eq_decide.2 eq_comm]
  cases decide (a.Name=n)
  ·simp
  ·cases a.Args.isEmpty
   ·simp
   ·rw[cond_true,cond_true,cond_true,copyT t ht]; rfl
theorem rV_(ht:t.cnt≤10000000){a:Tt}(ha:a.cnt≤10000000):irV_1 a (GMap.put (GMap.empty:GMap Tt) n t)=some (sbT n t a):=lim_eq ⟨_,rVN_ ht a ha⟩
def subP(n:ByteArray)(t:Tt)(f:Ft):Ft×Bool:=bif f.sok n t then(f.sub n t,true) else(⟨0,⟨⟨#[]⟩,[]⟩,⟨#[]⟩,[]⟩,false)
theorem subP_2(f:Ft):(subP n t f).2=f.sok n t:=by unfold subP; cases f.sok n t<;>rfl
theorem subP_1{f:Ft}(h:f.sok n t=true):(subP n t f).1=f.sub n t:=by unfold subP; rw[h]; rfl
theorem si_2(hn:isVarS n=true)(hg:goodT t=true){f:Ft}(hv:validF f=true):iSF_ f n t=some (subP n t f):=by
 have g:=gTO_ hg
 have:=vFt_ hv
 have:=vs_1 hn
 rw[SFe_ (vFO_ hv) (by omega) (by simp only[Big]; omega) g.2 (by omega)]
 unfold subst subP
 rw[hv,hn,hg]; rfl
theorem ss_(hn:isVarS n=true)(hg:goodT t=true){f:Ft}(hv:validF f=true):∃ r:Ft×Bool,slP_6 f n t=some r∧r.2=f.sok n t∧(r.2=true→r.1=f.sub n t):=by
 have g:=gTO_ hg
 obtain⟨g1,g2⟩:=gTi_ hg
 obtain⟨v1,v2⟩:=vFi_ hv
 exact sp_ hn g1 g.2 g2 (vFO_ hv) v2 (by have:=vFt_ hv; omega) (by omega)
theorem sAi_(hn:isVarS n=true)(hg:goodT t=true){l:List Ft}(hl:Vl l 10):isA_ l n t=some (l.map (fun f=>(subP n t f).1),l.all (Ft.sok n t)):=by
 unfold isA_
 simp only[fNi_]
 rw[al_1 (fun f=>iSF_ f n t) (subP n t) l 0 [] true (fun f hf=>si_2 hn hg (hl.val f hf)) (by have:=hl.len; simp only[aY]; omega),tLi_]
 simp only[subP_2,List.nil_append,Bool.true_and]
theorem sAs_(hn:isVarS n=true)(hg:goodT t=true){l:List Ft}(hl:Vl l 10):∃ r:List Ft×Bool,slL_ l n t=some r∧r.2=l.all (Ft.sok n t)∧(r.2=true→r.1=l.map (Ft.sub n t)):=by
 unfold slL_
 simp only[fNi_]
 rcases tl_ (fun f=>slP_6 f n t) (Ft.sok n t) (Ft.sub n t) (fun s=>(s,false)) l 0 [] (fun f hf=>ss_ hn hg (hl.val f hf)) (by have:=hl.len; simp only[aY]; omega) with⟨h1,h2⟩ | ⟨h1,s',h2⟩
 ·rw[h2,tLi_]
  exact⟨_,rfl,h1.symm,fun _=>by simp⟩
 ·rw[h2,tLi_1]
  exact⟨_,rfl,h1.symm,fun h=>(nomatch h)⟩
theorem msP_{l:List Ft}(h:l.all (Ft.sok n t)=true):l.map (fun f=>(subP n t f).1)=l.map (Ft.sub n t):=
 List.map_congr_left fun f hf=>subP_1 (List.all_eq_true.1 h f hf)
end
end Go.Proofs.YtlgeocknlmbgeaaGreat
