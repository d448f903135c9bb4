/- A part of the proof: lemmas only; nothing is claimed here beyond what each lemma says. -/
/- A result that nobody needs for his own: seen as a view. -/
import Derived.Test.YtkoghcphkdecoaaGreatAvX
set_option linter.unusedSimpArgs false
set_option linter.unusedVariables false
set_option linter.defProp false
namespace Go.Av
open CV renaming namess→aB
open PV renaming views→aF
open RepC renaming demote→bC
theorem RepV.demote{N N':Nat→Prop}{w:World}(hN:∀ b,N b→N' b){p:PV}{v:Value}{F:List Nat}(hF:∀ b∈F,N' b)(h:RepV N w p v F):RepV N' w p.view v []:=by
 cases p with
 | agg fs=>obtain⟨cs,rfl,h⟩:=h; exact⟨cs,rfl,RepCs.demote hN fs cs F hF h⟩
 | lit u=>exact bC hN _ _ _ hF h
 | sl o sz es=>exact bC hN _ _ _ hF h
 | clo f cs=>exact bC hN _ _ _ hF h
 | ptr u=>exact bC hN _ _ _ hF h
 | tup vs=>exact bC hN _ _ _ hF h
theorem RepVs.demote{N N':Nat→Prop}{w:World}(hN:∀ b,N b→N' b):∀ {ps:List PV} {vs:List Value} {F:List Nat},(∀ b∈F,N' b)→RepVs N w ps vs F→RepVs N' w (aF ps) vs []
 | [],vs,F,hF,h=>by simp only[RepVs,aF] at h ⊢; exact⟨h.1,trivial⟩
 | p::ps,vs,F,hF,h=>by
  simp only[RepVs,aF] at h ⊢
  obtain⟨v,vs',F1,F2,rfl,rfl,h3,h4⟩:=h
  exact⟨v,vs',[],[],rfl,rfl,h3.demote hN (fun b hb=>hF b (by simp[hb])),RepVs.demote hN (fun b hb=>hF b (by simp[hb])) h4⟩
theorem RepR.demote{N N':Nat→Prop}{w:World}(hN:∀ b,N b→N' b){p:PV}{v:Value}{F:List Nat}(hF:∀ b∈F,N' b)(h:RepR N w p v F):RepR N' w p.view v []:=by
 cases p with
 | tup ps=>obtain⟨vs,h1,h2⟩:=h; exact⟨vs,h1,h2.demote hN hF⟩
 | lit u=>exact RepV.demote (w:=w) (p:=.lit u) hN hF h
 | agg fs=>exact RepV.demote (w:=w) (p:=.agg fs) hN hF h
 | sl o sz es=>exact RepV.demote (w:=w) (p:=.sl o sz es) hN hF h
 | clo f cs=>exact RepV.demote (w:=w) (p:=.clo f cs) hN hF h
 | ptr u=>exact RepV.demote (w:=w) (p:=.ptr u) hN hF h
theorem Sat.vw{P:Program}{f:FuncId}{args:List PV}{res:PV}(h:Sat P f args res):Sat P f args res.view:=by
 refine⟨h.1,fun w N vs Fs hN hFn hFl hvs=>(h.2 w N vs Fs hN hFn hFl hvs).mono ?_⟩
 rintro e w' ⟨v,F,rfl,hk,hr,hFn',hF⟩
 refine⟨v,[],rfl,hk,hr.demote (fun b hb=>?_) (fun b hb=>.inr ⟨(hF b hb).1,(hF b hb).2,by simp⟩),List.nodup_nil,by simp⟩
 rcases hb with hb | hb
 ·exact .inl hb
 ·exact .inr ⟨hb.1,hb.2.1,by simp⟩
theorem vt_(vs:List PV):(PV.tup vs).view=.tup (aF vs):=rfl
theorem SvO_{P:Program}{f:FuncId}{args:List PV}{res res':PV}(h:Sat P f args res)(e:res.view=res'):Sat P f args res':=e▸h.vw
section
variable{P:Program}{nt:Nat}{st:St}
theorem iKa_(T:TypeId)(x y:Operand)(K:List Nat→List Nat→SlotV→Prop)(r:Nat)(p:List Nat)(off:Nat)(k:IntKind)(n:Int):idxK P st T x y K (.bptr r p off) (.val (.pv (.lit (.int k n))))=ArrH P T n (fun k sz=>K (rd x++rd y) [] (.bptr r (p++[k]) (off+k*sz))) .mk:=rfl
theorem sOa_(d T:Nat)(rs:List Nat)(lo hi:Option Operand)(K:Rec→Prop)(r:Nat)(p:List Nat)(off:Nat):slcO P nt st d T rs lo hi K (.bptr r p off)=(d<nt∧slcArr P st T d rs lo hi K r p off (st.s r)):=rfl
theorem sAb_(T d:Nat)(rs:List Nat)(lo hi:Option Operand)(K:Rec→Prop)(r:Nat)(p:List Nat)(off:Nat)(c:CV):slcArr P st T d rs lo hi K r p off (.box c)=ArrSlH P T lo hi p off c.pure (c.pvw st.o) (fun sz es=>(r==d)=false∧K { rs:=r::rs,ro:=c.names,us:=[(r,.val (.pv (.ptr (.agg es)))),(d,.val (.pv (.sl false sz es)))] }) .mk:=rfl
theorem ArrSlH.mk{T m sz:Nat}{b:Bool}{v:PV}{es:List PV}{K:Nat→List PV→Prop}(hT:ArrIs P T m sz)(hm:m≤maxLen)(h:b=true∧v=.agg es∧es.length=m)(hs:∀ e∈es,PV.size e=sz)(hK:K sz es):ArrSlH P T none none [] 0 b v K .mk:=
 ⟨rfl,rfl,rfl,rfl,h.1,m,sz,es,hT,h.2.1,h.2.2,hs,hm,hK⟩
def CopyH(P:Program)(nt:Nat)(st:St)(o:Oper)(K:Rec→Prop)(_:Tok K):Prop:=RecOk P nt st o K
theorem cKc_(o:Oper)(x y:Operand)(T T':TypeId)(K:Rec→Prop):callK P nt st o { callee:=.builtin .copy,args:=#[x,y],argTypes:=#[T,T'] } K=CopyH P nt st o K .mk:=rfl
theorem nOm_{α:Type}{f:α→PV}(hf:∀ a,(f a).noOwn=true):∀ xs:List α,PV.noOwns (xs.map f)=true
 | []=>rfl
 | x::xs=>by simp only[List.map_cons,PV.noOwns,hf x,nOm_ hf xs,Bool.and_self]
theorem CopyH.view{α:Type}{f:α→PV}{o:Oper}{d c sz bytes:Nat}{x y:Operand}{T T':TypeId}{xs ys:List α}{es zs:List PV}{K:Rec→Prop}(hf:∀ a,(f a).noOwn=true)(hop:o.op=.call { callee:=.builtin .copy,args:=#[x,y],argTypes:=#[T,T'] })(hdst:o.dst=some d)(hd:d<nt)
 (hT:SlIs P T sz bytes) (hx:ev P st T x=.val (.own c)) (hc:st.o c=some (sz,es)) (hy:ev P st T' y=.val (.pv (.sl false sz zs))) (he:es=xs.map f) (hz:zs=ys.map f)
 (hK:K { rs:=rd x++rd y,ro:=[c],us:=[(d,.val (.pv (.lit (.int .i64 (min (ys.length:Int) (xs.length:Int))))))],uo:=[(c,some (sz,(ys.take xs.length++xs.drop ys.length).map f))] }):CopyH P nt st o K .mk:=by
 subst he; subst hz
 refine⟨_,vcv_ hop hdst hd hT hx hc hy (nOm_ hf xs),fn_ rfl rfl,?_⟩
 have e:((min (ys.map f).length (xs.map f).length:Nat):Int)=min (ys.length:Int) (xs.length:Int):=by simp only[List.length_map]; omega
 rw[e]
 simpa[List.map_append,List.map_take,List.map_drop] using hK
theorem pOf_(k:Nat)(cs rs:List Nat)(ps:List PV)(f:List Value→List Nat→List Value→Value):ptrOf k (.fn cs rs ps f)=.fn cs rs ps f:=rfl
theorem R.yieldOwn{κ:Ctx}{st:St}{a:Act}{w:World}{d c sz:Nat}{es:List PV}(hn:st.noC c)(h:R κ ⟨upd st.s d (.val (.own c)),upd st.o c (some (sz,es))⟩ a w):
 R κ ⟨upd st.s d (.val (.pv (.sl false sz (aF es)))),st.o⟩ a w:=by
 obtain⟨G,h⟩:=h
 obtain⟨⟨_,hcn⟩,hnc⟩:=hn
 have hob:∀ c' p,st.o c'=some p→upd st.o c (some (sz,es)) c'=some p∧c'≠c:=by
  intro c' p e
  have hne:c'≠c:=by rintro rfl; rw[hcn] at e; cases e
  exact⟨by rw[upd_ne hne]; exact e,hne⟩
 have hbx:∀ r,isBox (upd st.s d (.val (.pv (.sl false sz (aF es)))) r)=true→isBox (upd st.s d (.val (.own c)) r)=true:=by
  intro r hr
  simp only[upd] at hr ⊢
  split at hr
  ·cases hr
  ·rename_i hne; rw[if_neg hne]; exact hr
 have hP:∀ b,Nof κ ⟨upd st.s d (.val (.own c)),upd st.o c (some (sz,es))⟩ G w b→Nof κ ⟨upd st.s d (.val (.pv (.sl false sz (aF es)))),st.o⟩ G w b:=by
  intro b hb
  refine⟨hb.1,fun hp=>hb.2 ?_⟩
  rcases hp with⟨r,h1,h2⟩ | ⟨c',p,h1,h2⟩
  ·exact .inl ⟨r,hbx r h1,h2⟩
  ·exact .inr ⟨c',p,(hob c' p h1).1,h2⟩
 have ho:=h.objs c sz es (us_ _ _ _)
 have hF:∀ b∈G.fp c,Nof κ ⟨upd st.s d (.val (.pv (.sl false sz (aF es)))),st.o⟩ G w b:=by
  intro b hb
  refine⟨.inr (ho.2.2 b hb),?_⟩
  rintro (⟨r,h1,h2⟩ | ⟨c',p,h1,h2⟩)
  ·exact h.bo r c _ (hbx r h1) (us_ _ _ _) (h2▸hb)
  ·obtain⟨g1,g2⟩:=hob c' p h1
   exact h.oo c c' _ p (us_ _ _ _) g1 (Ne.symm g2) b hb h2
 refine⟨G,⟨h.keep,h.defers,h.nt,fun k=>?_,fun c' sz' es' hc=>?_,fun r hr=>h.boxes r (hbx r hr),fun r r' h1 h2=>h.bb r r' (hbx r h1) (hbx r' h2),fun r c' p h1 h2=>h.bo r c' p (hbx r h1) (hob c' p h2).1,
  fun c1 c2 p1 p2 h1 h2=>h.oo c1 c2 p1 p2 (hob c1 p1 h1).1 (hob c2 p2 h2).1,h.held⟩⟩
 ·have hs:=h.slots k
  by_cases hk:k=d
  ·subst hk
   dsimp only at hs ⊢
   rw[us_] at hs ⊢
   rcases hs with⟨h1,_⟩ | ⟨_,h2,h3⟩
   ·cases h1
   ·refine .inr ⟨rfl,?_,h3⟩
    simp only[RepCV] at h2 ⊢
    rw[h2.1]
    have:=RepV.demote (v:=G.hd c) hP hF (p:=.sl true sz es) (by simpa only[RepV] using ho.1)
    simpa only[RepV,PV.view] using this
  ·dsimp only at hs ⊢
   rw[upd_ne hk] at hs ⊢
   exact hs.frame hP (fun _ _=>rfl) (fun _ _=>rfl) (fun _ _=>rfl) (fun _=>⟨rfl,rfl⟩)
 ·obtain⟨h1,h2,h3⟩:=h.objs c' sz' es' (hob c' _ hc).1
  exact⟨RepC.frame hP (fun _ _=>rfl) _ _ _ (fun _ _=>rfl) h1,h2,h3⟩
theorem Valid.yieldOwn{P:Program}{nt:Nat}{o:Oper}{st:St}{d c sz:Nat}{es:List PV}{rs ro D:List Nat}
 (h:Valid P nt o st { rs:=rs,ro:=ro,fc:=[c],us:=[(d,.val (.own c))],uo:=deadObjs D++[(c,some (sz,es))] }):
 Valid P nt o st { rs:=rs,ro:=ro,fc:=[c],us:=[(d,.val (.pv (.sl false sz (aF es))))],uo:=deadObjs D }:=by
 intro κ st' a w hnt hs hf hR next Q hK
 refine h κ st' a w hnt hs hf hR next Q fun a' w' hR'=>hK a' w' ?_
 have hn:St.noC ⟨st'.s,updAll st'.o (deadObjs D)⟩ c:=by
  obtain⟨⟨h1,h2⟩,h3⟩:=hf.2 c (by simp)
  refine⟨⟨h1,?_⟩,h3⟩
  dsimp only
  rw[uAd_]; split
  ·rfl
  ·exact h2
 refine R.yieldOwn (st:=⟨st'.s,updAll st'.o (deadObjs D)⟩) hn ?_
 simpa only[St.app,updAll,uAa_] using hR'
section
variable{P:Program}{nt:Nat}
def bslV(P:Program)(st:St)(d T:Nat)(rs:List Nat)(K:Rec→Prop)(es:List PV)(cvs:List CV):Prop:=
 CV.wholes st.o cvs=true∧(∀ x∈cvs,x.size=eSize P T)∧(aB cvs).Nodup∧st.noC (16*d)∧aF (CV.pvos st.o cvs)=es∧
  K { rs:=rs,ro:=aB cvs,fc:=[16*d],us:=[(d,.val (.pv (.sl false (eSize P T) es)))],uo:=deadObjs (aB cvs) }
@[congr] theorem bslV.cg {st:St} {d T:Nat} {rs:List Nat} {K:Rec→Prop} {es:List PV} {c c':List CV} (h:∀ _:Unit,c=c'):bslV P st d T rs K es c=bslV P st d T rs K es c':=by rw[h ()]
theorem bVc_(st:St)(d T:Nat)(rs:List Nat)(K:Rec→Prop)(es:List PV)(c:CV)(cvs:List CV):bslV P st d T rs K es (c::cvs)=(CV.wholes st.o (c::cvs)=true∧(∀ x∈c::cvs,x.size=eSize P T)∧(aB (c::cvs)).Nodup∧st.noC (16*d)∧aF (CV.pvos st.o (c::cvs))=es∧
 K { rs:=rs,ro:=aB (c::cvs),fc:=[16*d],us:=[(d,.val (.pv (.sl false (eSize P T) es)))],uo:=deadObjs (aB (c::cvs)) }):=rfl
theorem OrR.v{A:Prop}{st:St}{d:Nat}{ty T:TypeId}{pos:String}{af:Array Edge}{g:Option (Nat×Bool)}{K:Rec→Prop}{n:Nat}{parts:List (Nat×Operand)}(es:List PV)
 (h:d<nt∧parts.map (·.1)=List.range n∧SlIs P T (eSize P T) (eBytes P T)∧n*eSize P T≤16777216∧bslV P st d T (parts.flatMap fun p=>rd p.2) K es (partCVs P st (eOT_ P T) parts)):
 OrR A (RecOk P nt st { dst:=some d,op:=.buildSlice T n ⟨parts⟩,type:=ty,pos:=pos,after:=af,guard:=g } K) .mk:=by
 obtain⟨hd,h1,h2,h3,h4,h5,h6,h7,rfl,h8⟩:=h
 refine .inr ⟨_,Valid.yieldOwn (vbS_ rfl rfl hd h2 h1 rfl h4 h5 h6 h3),⟨by simp,?_⟩,h8⟩
 simpa using h7
end
theorem iIB_(k:IntKind):isIntB (some (.int k))=true:=rfl
theorem vn_1:aF []=[]:=rfl
theorem vc_2(p:PV)(ps:List PV):aF (p::ps)=p.view::aF ps:=rfl
def RX:=And.intro @iKa_<|And.intro @sOa_<|And.intro @sAb_<|And.intro @cKc_<|@pOf_
attribute [push_cast] iIB_ bVc_ vn_1 vc_2 vs_ va_ vl_ vt_ iKa_ sOa_ sAb_ cKc_ pOf_
end
end Go.Av
