/- A part of the proof: lemmas only; nothing is claimed here beyond what each lemma says. -/
/- The rules in two bundles. -/
import Derived.Test.YtkoghcphkdecoaaGreatAvL
set_option linter.unusedSimpArgs false
set_option linter.unusedVariables false
set_option linter.defProp false
namespace Go.Av
open And renaming intro→ae

section
variable{P:Program}{nt:Nat}{st:St}
def SlcOH(es:List PV)(lo hi:Int)(K:List PV→Prop)(K2:Unit→Prop)(_:Tok K)(_:Tok K2):Prop:=((lo=0∧0≤hi∧hi≤es.length)∧K (es.take hi.toNat))∨((0≤lo∧lo≤hi∧hi≤es.length∧0<es.length)∧K2 ())
@[congr] theorem SlcOH.cg {es es':List PV} {a a' b b':Int} {K:List PV→Prop} {K2:Unit→Prop} (h:∀ _:Unit,es=es') (h1:∀ _:Unit,a=a') (h2:∀ _:Unit,b=b'):SlcOH es a b K K2 .mk .mk=SlcOH es' a' b' K K2 .mk .mk:=by rw[h (),h1 (),h2 ()]
theorem SlcOH.mk{α:Type}{f:α→PV}{xs ys:List α}{es:List PV}{hi:Int}{K:List PV→Prop}{K2:Unit→Prop}(h:slc xs 0 hi=some ys)(he:es=xs.map f)(hK:K (ys.map f)):SlcOH es 0 hi K K2 .mk .mk:=by
 unfold slc at h
 split at h
 ·rename_i g
  cases h; subst he
  refine .inl ⟨⟨rfl,g.2.1,by simpa using g.2.2⟩,?_⟩
  rw[← List.map_take]
  simpa using hK
 ·cases h
def rngN(n:Nat)(lo hi:Int):Option Unit:=if 0≤lo∧lo≤hi∧hi≤n∧0<n then some () else none
theorem SlcOH.sub{α:Type}{f:α→PV}{xs:List α}{es:List PV}{lo hi:Int}{u:Unit}{K:List PV→Prop}{K2:Unit→Prop}(h:rngN xs.length lo hi=some u)(he:es=xs.map f)(hK:K2 ()):SlcOH es lo hi K K2 .mk .mk:=by
 unfold rngN at h
 split at h
 ·rename_i g
  subst he
  exact .inr ⟨⟨g.1,g.2.1,by simpa using g.2.2.1,by simpa using g.2.2.2⟩,hK⟩
 ·cases h
def ArrSlH(P:Program)(T:TypeId)(lo hi:Option Operand)(p:List Nat)(off:Nat)(pure:Bool)(v:PV)(K:Nat→List PV→Prop)(_:Tok K):Prop:=ArrSl P T lo hi p off pure v K
@[congr] theorem ArrSlH.cg {T:TypeId} {lo hi:Option Operand} {p:List Nat} {off:Nat} {b b':Bool} {v v':PV} {K:Nat→List PV→Prop} (h:∀ _:Unit,b=b') (h':∀ _:Unit,v=v'):ArrSlH P T lo hi p off b v K .mk=ArrSlH P T lo hi p off b' v' K .mk:=by rw[h (),h' ()]
def slcArr(P:Program)(st:St)(T:TypeId)(d:Nat)(rs:List Nat)(lo hi:Option Operand)(K:Rec→Prop)(r:Nat)(p:List Nat)(off:Nat):SlotV→Prop
 | .box c=>ArrSlH P T lo hi p off c.pure (c.pvw st.o) (fun sz es=>(r==d)=false∧K { rs:=r::rs,ro:=c.names,us:=[(r,.val (.pv (.ptr (.agg es)))),(d,.val (.pv (.sl false sz es)))] }) .mk
 | _=>False
@[congr] theorem slcArr.cg {T d:Nat} {rs:List Nat} {lo hi:Option Operand} {K:Rec→Prop} {r:Nat} {p:List Nat} {off:Nat} {v v':SlotV} (h:∀ _:Unit,v=v'):slcArr P st T d rs lo hi K r p off v=slcArr P st T d rs lo hi K r p off v':=by rw[h ()]
def slcO(P:Program)(nt:Nat)(st:St)(d T:Nat)(rs:List Nat)(lo hi:Option Operand)(K:Rec→Prop):SlotV→Prop
 | .val (.own c)=>objK' (st.o c) fun q=>SlIs P T q.1 (eBytes P T)∧d<nt∧optI P st 0 (fun l=>optI P st q.2.length (fun h=>SlcOH q.2 l h (fun ys=>(∀ n∈(rO_ (.sl true q.1 ys) (16*d)).map (·.1),st.noC n)∧
  K { rs:=rs,ro:=[c],fc:=(rO_ (.sl true q.1 ys) (16*d)).map (·.1),us:=[(d,resSV (.sl true q.1 ys) (16*d))],uo:=deadObjs [c]++newObjs (rO_ (.sl true q.1 ys) (16*d)) }) (fun _=>K { rs:=rs,ro:=[c],us:=[(d,.fn [c] [] [] (subF q.1 l.toNat h.toNat))] }) .mk .mk) hi) lo
 | .val (.pv (.sl true sz []))=>SlIs P T (eSize P T) (eBytes P T)∧d<nt∧optI P st 0 (fun l=>optI P st 0 (fun h=>(0=l∧0=h)∧K { rs:=rs,us:=[(d,.val (.pv (.sl true sz [])))] }) hi) lo
 | .bptr r p off=>d<nt∧slcArr P st T d rs lo hi K r p off (st.s r)
 | v=>d<nt∧sliceK P st T lo hi (fun sv=>K { rs:=rs,us:=[(d,sv)] }) v
@[congr] theorem slcO.cg {d T:Nat} {rs:List Nat} {lo hi:Option Operand} {K:Rec→Prop} {v v':SlotV} (h:∀ _:Unit,v=v'):slcO P nt st d T rs lo hi K v=slcO P nt st d T rs lo hi K v':=by rw[h ()]
theorem sOo_3(d T:Nat)(rs:List Nat)(lo hi:Option Operand)(K:Rec→Prop)(c:Nat):slcO P nt st d T rs lo hi K (.val (.own c))=objK' (st.o c) fun q=>SlIs P T q.1 (eBytes P T)∧d<nt∧optI P st 0 (fun l=>optI P st q.2.length (fun h=>SlcOH q.2 l h (fun ys=>(∀ n∈(rO_ (.sl true q.1 ys) (16*d)).map (·.1),st.noC n)∧
 K { rs:=rs,ro:=[c],fc:=(rO_ (.sl true q.1 ys) (16*d)).map (·.1),us:=[(d,resSV (.sl true q.1 ys) (16*d))],uo:=deadObjs [c]++newObjs (rO_ (.sl true q.1 ys) (16*d)) }) (fun _=>K { rs:=rs,ro:=[c],us:=[(d,.fn [c] [] [] (subF q.1 l.toNat h.toNat))] }) .mk .mk) hi) lo:=rfl
theorem sOs_2(d T:Nat)(rs:List Nat)(lo hi:Option Operand)(K:Rec→Prop)(sz:Nat)(es:List PV):slcO P nt st d T rs lo hi K (.val (.pv (.sl false sz es)))=(d<nt∧sliceK P st T lo hi (fun sv=>K { rs:=rs,us:=[(d,sv)] }) (.val (.pv (.sl false sz es)))):=rfl
theorem sOn_1(d T:Nat)(rs:List Nat)(lo hi:Option Operand)(K:Rec→Prop)(sz:Nat):slcO P nt st d T rs lo hi K (.val (.pv (.sl true sz [])))=(SlIs P T (eSize P T) (eBytes P T)∧d<nt∧optI P st 0 (fun l=>optI P st 0 (fun h=>(0=l∧0=h)∧K { rs:=rs,us:=[(d,.val (.pv (.sl true sz [])))] }) hi) lo):=rfl
theorem sOs_1(d T:Nat)(rs:List Nat)(lo hi:Option Operand)(K:Rec→Prop)(s:ByteArray):slcO P nt st d T rs lo hi K (.val (.pv (.lit (.string s))))=(d<nt∧sliceK P st T lo hi (fun sv=>K { rs:=rs,us:=[(d,sv)] }) (.val (.pv (.lit (.string s))))):=rfl
theorem optN_I{d:Nat}{K:Nat→Prop}{K':Int→Prop}(h:∀ n:Int,(0≤n∧K n.toNat)↔K' n)(y:Option Operand):optNat P st d K y↔optI P st d K' y:=by
 cases y with
 | none=>rw[oIn_,← h]; simp[optNat]
 | some y=>
  simp only[oIs_,optNat,nOi_,nIi_]
  exact exists_congr fun k=>exists_congr fun n=>and_congr_right fun _=>h n
theorem rOs_3(d ty T:Nat)(pos:String)(af:Array Edge)(g:Option (Nat×Bool))(K:Rec→Prop)(x:Operand)(lo hi:Option Operand):recO P nt st { dst:=some d,op:=.slice T x lo hi none,type:=ty,pos:=pos,after:=af,guard:=g } K=slcO P nt st d T (rd x++(lo.toList.flatMap rd++hi.toList.flatMap rd)) lo hi K (ev P st 0 x):=by
 show slcOK P nt st _ T x lo hi K (ev P st 0 x)=_
 generalize ev P st 0 x=v
 unfold slcOK
 split
 ·rename_i c
  rw[sOo_3]
  cases hc:st.o c with
  | none=>rfl
  | some q=>
   obtain⟨sz,es⟩:=q
   simp only[objK',eq_iff_iff]
   refine and_congr_right fun _=>?_
   by_cases hd:d<nt
   ·simp only[madeK,dstK,hd,true_and]
    refine optN_I (fun l=>?_) lo
    by_cases hl:0≤l
    ·simp only[hl,true_and]
     refine optN_I (fun h=>?_) hi
     constructor
     ·rintro ⟨g0,⟨g1,g2,g3⟩ | ⟨⟨g1,g2,g3⟩,g4⟩⟩
      ·exact .inl ⟨⟨by omega,g0,by omega⟩,g3⟩
      ·exact .inr ⟨⟨hl,by omega,by omega,g3⟩,g4⟩
     ·rintro (⟨⟨g1,g2,g3⟩,g4⟩ | ⟨⟨_,g2,g3,g4⟩,g5⟩)
      ·exact⟨g2,.inl ⟨by omega,by omega,g4⟩⟩
      ·exact⟨by omega,.inr ⟨⟨by omega,by omega,g4⟩,g5⟩⟩
    ·simp only[hl,false_and,false_iff]
     intro h2
     cases hi with
     | none=>
      rw[oIn_] at h2
      rcases h2 with⟨⟨g1,_⟩,_⟩ | ⟨⟨g1,_⟩,_⟩<;>omega
     | some y=>
      rw[oIs_,nIi_] at h2
      obtain⟨_,_,_,h3⟩:=h2
      rcases h3 with⟨⟨g1,_⟩,_⟩ | ⟨⟨g1,_⟩,_⟩<;>omega
   ·simp only[madeK,dstK,hd,false_and,and_false,or_self,iff_false]
    intro hh
    obtain⟨l,h2,_⟩:=oNo_ hh
    obtain⟨h,h3,_⟩:=oNo_ h2
    exact h3
 ·rename_i sz
  rw[sOn_1]
  refine congrArg _ ?_
  simp only[dstK,eq_iff_iff]
  refine and_congr_right fun _=>?_
  refine optN_I (fun l=>?_) lo
  constructor
  ·rintro ⟨h0,h1,h2⟩
   refine(optN_I (fun h=>?_) hi).1 h2
   constructor
   ·rintro ⟨g0,g1,g2⟩; exact⟨⟨by omega,by omega⟩,g2⟩
   ·rintro ⟨⟨_,g0⟩,g2⟩; exact⟨by omega,by omega,g2⟩
  ·intro h2
   have e:l=0:=by
    cases hi with
    | none=>rw[oIn_] at h2; have:=h2.1.1; omega
    | some y=>
     rw[oIs_,nIi_] at h2
     obtain⟨_,_,_,h3⟩:=h2
     have:=h3.1.1; omega
   refine⟨by omega,by omega,(optN_I (fun h=>?_) hi).2 h2⟩
   constructor
   ·rintro ⟨g0,g1,g2⟩; exact⟨⟨by omega,by omega⟩,g2⟩
   ·rintro ⟨⟨_,g0⟩,g2⟩; exact⟨by omega,by omega,g2⟩
 ·rename_i r p off
  unfold slcO dstK
  simp only
  cases hs:st.s r<;>first | rfl | skip
  simp only[slcArr,ArrSlH,ArrSl,eq_iff_iff]
  refine and_congr_right fun _=>?_
  constructor
  ·rintro ⟨rfl,rfl,h⟩; exact⟨rfl,rfl,by simpa using h⟩
  ·rintro ⟨rfl,rfl,h⟩; exact⟨rfl,rfl,by simpa using h⟩
 ·rename_i hx hx2 hx3
  unfold slcO
  split
  ·exact absurd rfl (hx _)
  ·exact absurd rfl (hx2 _)
  ·exact absurd rfl (hx3 _ _ _)
  ·rfl
theorem rOs_1(d ty T:Nat)(pos:String)(af:Array Edge)(g:Option (Nat×Bool))(K:Rec→Prop)(x y:Operand):recO P nt st { dst:=some d,op:=.index T x y,type:=ty,pos:=pos,after:=af,guard:=g } K=(d<nt∧strIdxK P T (fun sv=>K { rs:=rd x++rd y,us:=[(d,sv)] }) (ev P st 0 x) (ev P st 0 y)):=rfl
def convJ(a b:Option TypeDesc)(K:SlotV→Prop):SlotV→Prop
 | .val (.pv (.lit (.int _ n)))=>(∃ d,a=some d)∧∃ k,b=some (.int k)∧K (.val (.pv (.lit (.int k (k.wrap n)))))
 | _=>False
@[congr] theorem convJ.cg {a a' b b':Option TypeDesc} {K:SlotV→Prop} {v v':SlotV} (h:∀ _:Unit,a=a') (h1:∀ _:Unit,b=b') (h2:∀ _:Unit,v=v'):convJ a b K v=convJ a' b' K v':=by rw[h (),h1 (),h2 ()]
theorem cJi_(d:TypeDesc)(k k':IntKind)(n:Int)(K:SlotV→Prop):convJ (some d) (some (.int k)) K (.val (.pv (.lit (.int k' n))))=K (.val (.pv (.lit (.int k (k.wrap n))))):=by simp[convJ]
def bstr(xs:List Int):Option ByteArray:=some (bsOf xs)
def BstrH(es:List PV)(K:ByteArray→Prop)(_:Tok K):Prop:=∃ ns:List Int,es=ns.map (fun n=>.lit (.int .u8 n))∧K (bsOf ns)
@[congr] theorem BstrH.cg {es es':List PV} {K:ByteArray→Prop} (h:∀ _:Unit,es=es'):BstrH es K .mk=BstrH es' K .mk:=by rw[h ()]
theorem BstrH.mk{xs:List Int}{es:List PV}{b:ByteArray}{K:ByteArray→Prop}(h:bstr xs=some b)(he:es=xs.map (Ik .u8))(hK:K b):BstrH es K .mk:=by
 cases h; exact⟨xs,he,hK⟩
def convR(P:Program)(nt:Nat)(st:St)(d S T:Nat)(rs:List Nat)(K:Rec→Prop):SlotV→Prop
 | .val (.pv (.lit v))=>d<nt∧convJ (P.underlying S) (P.underlying T) (fun sv=>K { rs:=rs,us:=[(d,sv)] }) (.val (.pv (.lit v)))
 | .val (.own c)=>objK' (st.o c) fun q=>q.1=1∧IB_ P S∧P.underlying T=some .string∧d<nt∧BstrH q.2 (fun b=>K { rs:=rs,ro:=[c],us:=[(d,.val (.pv (.lit (.string b))))] }) .mk
 | v=>bytesK P S T (fun D ns=>d<nt∧K { rs:=rs,ro:=D,us:=[(d,.val (.pv (.lit (.string (bsOf ns)))))] }) (srcOf st v)
@[congr] theorem convR.cg {d S T:Nat} {rs:List Nat} {K:Rec→Prop} {v v':SlotV} (h:∀ _:Unit,v=v'):convR P nt st d S T rs K v=convR P nt st d S T rs K v':=by rw[h ()]
theorem cRl_(d S T:Nat)(rs:List Nat)(K:Rec→Prop)(v:Value):convR P nt st d S T rs K (.val (.pv (.lit v)))=(d<nt∧convJ (P.underlying S) (P.underlying T) (fun sv=>K { rs:=rs,us:=[(d,sv)] }) (.val (.pv (.lit v)))):=rfl
theorem cRo_(d S T:Nat)(rs:List Nat)(K:Rec→Prop)(c:Nat):convR P nt st d S T rs K (.val (.own c))=objK' (st.o c) fun q=>q.1=1∧IB_ P S∧P.underlying T=some .string∧d<nt∧BstrH q.2 (fun b=>K { rs:=rs,ro:=[c],us:=[(d,.val (.pv (.lit (.string b))))] }) .mk:=rfl
theorem rOc_1(d ty S T:Nat)(pos:String)(af:Array Edge)(g:Option (Nat×Bool))(K:Rec→Prop)(x:Operand):recO P nt st { dst:=some d,op:=.convert S T x,type:=ty,pos:=pos,after:=af,guard:=g } K=convR P nt st d S T (rd x) K (ev P st 0 x):=by
 show convOK P nt st _ S T x K (ev P st 0 x)=_
 generalize ev P st 0 x=v
 unfold convOK
 split
 ·rw[cRl_]
  show(d<nt∧convK P S T _ _)=_
  congr 1
 ·rename_i hx
  unfold convR
  split
  ·exact absurd rfl (hx _)
  ·rename_i c
   simp only[srcOf]
   cases hc:st.o c with
   | none=>rfl
   | some q=>
    obtain⟨sz,es⟩:=q
    simp only[objK',bytesK,BstrH,eq_iff_iff]
    refine and_congr_right fun _=>and_congr_right fun _=>and_congr_right fun _=>?_
    show(∃ ns:List Int,_∧(d<nt∧_))↔_
    constructor
    ·rintro ⟨ns,h1,h2,h3⟩; exact⟨h2,ns,h1,h3⟩
    ·rintro ⟨h2,ns,h1,h3⟩; exact⟨ns,h1,h2,h3⟩
  ·rfl
theorem mKe_(K:Int→Int→Prop)(x:SlotV):makeK K x x=natI (fun n=>K n n) x:=by
 by_cases h:∃ k n,x=.val (.pv (.lit (.int k n)))
 ·obtain⟨k,n,rfl⟩:=h; rfl
 ·have h1:¬ natI (fun n=>K n n) x:=by
   rw[nIi_]; rintro ⟨k,n,e,_⟩; exact h ⟨k,n,e⟩
  have h2:¬ makeK K x x:=by
   unfold makeK
   split
   ·exact(h ⟨_,_,rfl⟩).elim
   ·exact id
  simp only[h1,h2]
def makeN(K:Int→Prop)(v:SlotV):Prop:=natI K v
@[congr] theorem makeN.cg {K:Int→Prop} {x x':SlotV} (h:∀ _:Unit,x=x'):makeN K x=makeN K x':=by rw[h ()]
theorem mNi_(K:Int→Prop)(k:IntKind)(n:Int):makeN K (.val (.pv (.lit (.int k n))))=K n:=rfl
theorem rOm_3(d ty T:Nat)(pos:String)(af:Array Edge)(g:Option (Nat×Bool))(K:Rec→Prop)(x:Operand):recO P nt st { dst:=some d,op:=.makeSlice T x x,type:=ty,pos:=pos,after:=af,guard:=g } K=
 makeN (fun n=>SlIs P T (eSize P T) (eBytes P T)∧ElemZero P T (zel P T)∧(zel P T).size=eSize P T∧eBytes P T≤65536∧d<nt∧MknH n (fun m=>(∀ c∈(rO_ (.sl true (eSize P T) (List.replicate m (zel P T))) (16*d)).map (·.1),st.noC c)∧
  K { rs:=rd x++rd x,ro:=[],fc:=(rO_ (.sl true (eSize P T) (List.replicate m (zel P T))) (16*d)).map (·.1),us:=[(d,resSV (.sl true (eSize P T) (List.replicate m (zel P T))) (16*d))],uo:=deadObjs []++newObjs (rO_ (.sl true (eSize P T) (List.replicate m (zel P T))) (16*d)) }) .mk) (ev P st 0 x):=by
 rw[rOm_5,mKe_,makeN]
 congr 1
 funext n
 simp only[MknH,eq_iff_iff]
 constructor
 ·rintro ⟨h1,h2,h3,h4,h5,h6,h7,h8,h9⟩; exact⟨h1,h2,h3,h7,h8,⟨h4,h6⟩,h9⟩
 ·rintro ⟨h1,h2,h3,h7,h8,⟨h4,h6⟩,h9⟩; exact⟨h1,h2,h3,h4,Int.le_refl _,h6,h7,h8,h9⟩
theorem sKs_(T:TypeId)(lo hi:Option Operand)(K:SlotV→Prop)(s:ByteArray):sliceK P st T lo hi K (.val (.pv (.lit (.string s))))=(P.underlying T=some .string∧optI P st 0 (fun l=>optI P st s.size (fun h=>SslcH s l h (fun t=>K (.val (.pv (.lit (.string t))))) .mk) hi) lo):=by
 simp only[sliceK,eq_iff_iff]
 refine and_congr_right fun _=>?_
 have key:∀ l h:Int,(0≤l∧0≤h∧l.toNat≤h.toNat∧h.toNat≤s.size∧K (.val (.pv (.lit (.string (s.extract l.toNat h.toNat))))))↔SslcH s l h (fun t=>K (.val (.pv (.lit (.string t))))) .mk:=by
  intro l h
  constructor
  ·rintro ⟨h1,h2,h3,h4,h5⟩; exact⟨⟨h1,by omega,by omega⟩,h5⟩
  ·rintro ⟨⟨h1,h2,h3⟩,h5⟩; exact⟨h1,by omega,by omega,by omega,h5⟩
 cases lo with
 | none=>
  cases hi with
  | none=>simp only[oIn_,optNat]; rw[← key]; simp
  | some y=>
   simp only[oIn_,oIs_,optNat,nOi_,nIi_]
   refine exists_congr fun k=>exists_congr fun n=>and_congr_right fun _=>?_
   rw[← key]; simp
 | some x=>
  cases hi with
  | none=>
   simp only[oIn_,oIs_,optNat,nOi_,nIi_]
   refine exists_congr fun k=>exists_congr fun n=>and_congr_right fun _=>?_
   rw[← key]; simp
  | some y=>
   simp only[oIs_,optNat,nOi_,nIi_]
   constructor
   ·rintro ⟨k,n,h,h0,k',n',h',h0',h1⟩; exact⟨k,n,h,k',n',h',(key _ _).1 ⟨h0,h0',h1⟩⟩
   ·rintro ⟨k,n,h,k',n',h',h1⟩
    obtain⟨g1,g2,g3⟩:=(key _ _).2 h1
    exact⟨k,n,h,g1,k',n',h',g2,g3⟩
theorem r0_:List.range 0=[]:=rfl
theorem r1_3:List.range 1=[0]:=rfl
theorem r2_:List.range 2=[0,1]:=rfl
theorem r3_:List.range 3=[0,1,2]:=rfl
theorem r4_:List.range 4=[0,1,2,3]:=rfl
theorem r5_:List.range 5=[0,1,2,3,4]:=rfl
theorem r6_:List.range 6=[0,1,2,3,4,5]:=rfl
theorem r7_:List.range 7=[0,1,2,3,4,5,6]:=rfl
theorem r8_:List.range 8=[0,1,2,3,4,5,6,7]:=rfl
theorem r9_:List.range 9=[0,1,2,3,4,5,6,7,8]:=rfl
theorem r1_2:List.range 10=[0,1,2,3,4,5,6,7,8,9]:=rfl
theorem r1_1:List.range 11=[0,1,2,3,4,5,6,7,8,9,10]:=rfl
theorem r1_:List.range 12=[0,1,2,3,4,5,6,7,8,9,10,11]:=rfl
theorem cKs_(cs:List (Nat×PV))(K:List (Nat×PV)→Prop):capK st K (some cs)=K cs:=rfl
@[congr] theorem capK.cg {K:List (Nat×PV)→Prop} {x x':Option (List (Nat×PV))} (h:∀ _:Unit,x=x'):capK st K x=capK st K x':=by rw[h ()]
theorem rOm_1(d ty:Nat)(pos:String)(af:Array Edge)(g:Option (Nat×Bool))(K:Rec→Prop)(f:FuncId)(cp:List Operand):recO P nt st { dst:=some d,op:=.makeFunc (.func f) ⟨[]⟩ ⟨cp⟩,type:=ty,pos:=pos,after:=af,guard:=g } K=MfH (d<nt∧capK st (fun cs=>((cp.flatMap rd).all fun n=>(bN_ st n).isEmpty)=true∧
 K { rs:=cp.flatMap rd,us:=frozen cs++[(d,.val (.pv (.clo f (cs.map fun c=>.ptr c.2))))] }) (capsOf st cp)) (RecOk P nt st { dst:=some d,op:=.makeFunc (.func f) ⟨[]⟩ ⟨cp⟩,type:=ty,pos:=pos,after:=af,guard:=g } K) .mk .mk:=by
 simp[recO,dstK,MfH]
theorem rOm_2(d ty T:Nat)(pos:String)(af:Array Edge)(g:Option (Nat×Bool))(K:Rec→Prop)(r:Option Operand):recO P nt st { dst:=some d,op:=.makeMap T r,type:=ty,pos:=pos,after:=af,guard:=g } K=HandH (RecOk P nt st { dst:=some d,op:=.makeMap T r,type:=ty,pos:=pos,after:=af,guard:=g } K) .mk:=rfl
theorem rOl_1(d ty T:Nat)(pos:String)(af:Array Edge)(g:Option (Nat×Bool))(K:Rec→Prop)(x y:Operand)(ok:Bool):recO P nt st { dst:=some d,op:=.lookup T x y ok,type:=ty,pos:=pos,after:=af,guard:=g } K=HandH (RecOk P nt st { dst:=some d,op:=.lookup T x y ok,type:=ty,pos:=pos,after:=af,guard:=g } K) .mk:=rfl
theorem rOm_(ty T:Nat)(pos:String)(af:Array Edge)(g:Option (Nat×Bool))(K:Rec→Prop)(x y z:Operand):recO P nt st { dst:=none,op:=.mapUpdate T x y z,type:=ty,pos:=pos,after:=af,guard:=g } K=HandH (RecOk P nt st { dst:=none,op:=.mapUpdate T x y z,type:=ty,pos:=pos,after:=af,guard:=g } K) .mk:=rfl
theorem rOi_(ty T:Nat)(pos:String)(af:Array Edge)(g:Option (Nat×Bool))(K:Rec→Prop)(x y z:Operand):recO P nt st { dst:=none,op:=.insert T x y z,type:=ty,pos:=pos,after:=af,guard:=g } K=HandH (RecOk P nt st { dst:=none,op:=.insert T x y z,type:=ty,pos:=pos,after:=af,guard:=g } K) .mk:=rfl
theorem rOr_(d ty T:Nat)(pos:String)(af:Array Edge)(g:Option (Nat×Bool))(K:Rec→Prop)(x:Operand):recO P nt st { dst:=some d,op:=.range T x,type:=ty,pos:=pos,after:=af,guard:=g } K=HandH (RecOk P nt st { dst:=some d,op:=.range T x,type:=ty,pos:=pos,after:=af,guard:=g } K) .mk:=rfl
theorem rOe_1(d ty:Nat)(pos:String)(af:Array Edge)(g:Option (Nat×Bool))(K:Rec→Prop)(x:Operand):recO P nt st { dst:=some d,op:=.entry x,type:=ty,pos:=pos,after:=af,guard:=g } K=HandH (RecOk P nt st { dst:=some d,op:=.entry x,type:=ty,pos:=pos,after:=af,guard:=g } K) .mk:=rfl
theorem cKd_(o:Oper)(x y:Operand)(T T':TypeId)(K:Rec→Prop):callK P nt st o { callee:=.builtin .delete,args:=#[x,y],argTypes:=#[T,T'] } K=HandH (RecOk P nt st o K) .mk:=rfl
def capV(st:St)(r:Nat):SlotV→Option (Nat×PV)
 | .box x=>if x.pure then some (r,x.pvw st.o) else none
 | .val (.pv (.ptr v))=>some (r,v)
 | _=>none
theorem cOV_(r:Nat):capOf st (.tmp r)=capV st r (st.s r):=by
 show(match st.s r with | .box x=>if x.pure then some (r,x.pvw st.o) else none | .val (.pv (.ptr v))=>some (r,v) | _=>none)=_
 unfold capV
 generalize st.s r=v
 cases v with
 | val x=>cases x with
  | pv p=>cases p<;>rfl
  | _=>rfl
 | _=>rfl
theorem cVb_(r:Nat)(x:CV):capV st r (.box x)=if x.pure then some (r,x.pvw st.o) else none:=rfl
theorem cVp_(r:Nat)(v:PV):capV st r (.val (.pv (.ptr v)))=some (r,v):=rfl
def consO{α:Type}:Option α→Option (List α)→Option (List α)
 | some a,some l=>some (a::l)
 | _,_=>none
theorem cOn_:capsOf st []=some []:=rfl
theorem cOc_(x:Operand)(xs:List Operand):capsOf st (x::xs)=consO (capOf st x) (capsOf st xs):=by
 rw[capsOf]
 generalize capOf st x=a
 generalize capsOf st xs=b
 cases a<;>cases b<;>rfl
theorem cOs_{α:Type}(a:α)(l:List α):consO (some a) (some l)=some (a::l):=rfl
def boxN:SlotV→List Nat
 | .box x=>x.names
 | _=>[]
theorem bNN_(n:Nat):bN_ st n=boxN (st.s n):=by
 unfold bN_ boxN
 generalize st.s n=v
 cases v<;>rfl
theorem bNb_(x:CV):boxN (.box x)=x.names:=rfl
theorem bNv_(x:CV):boxN (.val x)=[]:=rfl
end
set_option maxRecDepth 10000
def RA:=ae @wpD_c<|ae @wpD_n<|ae @sGn_<|ae @sGs_1<|ae @sGs_<|ae @gst_eq<|ae @rOm_4<|ae @rOa_1<|ae @rOp_<|ae @rOa_2<|ae @rOb_2<|ae @rOl_2<|ae @rOs_2<|ae @rOb_3<|ae @rOu_<|ae @rOe_<|ae @rOf_<|ae @rOc_2<|ae @rOi_1<|ae @rOb_<|ae @rOb_1<|ae @bKn_1<|ae @bPn_<|ae @bPc_<|ae @bKn_4<|ae @bKc_<|ae @bKl_<|ae @bKa_2<|ae @bKs_9<|ae @bKm_1<|ae @bKe_<|ae @bKn_5<|ae @bKl_1<|ae @bKl_2<|ae @bKg_<|ae @bKg_1<|ae @bKs_7<|ae @bKs_<|ae @bKb_1<|ae @bKb_<|ae @uKn_<|ae @uKn_1<|ae @pKb_<|ae @eKt_<|ae @bKv_<|ae @cKc_1<|ae @gKt_<|ae @gKf_<|ae @gKu_<|ae @bOb_<|ae @Cond_t<|ae @Cond_f<|ae @Cn_<|ae @addF_b<|ae @addF_e<|ae @addF_p<|ae @lKb_<|ae @lBb_<|ae @lKp_<|ae @oKs_1<|ae @oKs_<|ae @lKs_<|ae @lKs_1<|ae @lKo_1<|ae @sKb_<|ae @sBb_<|ae @cKl_<|ae @cWc_<|ae @cWn_<|ae @uh_<|ae @um_<|ae @ev_tmp<|ae @ef_2<|ae @ev_int<|ae @eb_<|ae @ev_str<|ae @ev_nil<|ae @pOb_1<|ae @pOv_<|ae @pOt_<|ae @pOb_<|ae @pOe_<|ae @app_mk<|ae @sKn_<|ae @sKr_<|ae @sKe_1<|ae @bKn_<|ae @bKr_<|ae @iKs_<|ae @iKo_<|ae @lKe_<|ae @sKe_<|ae @cKv_<|ae @cKa_<|ae @aWs_<|ae @sIK_<|ae @bKs_8<|ae @bKs_1<|ae @bKs_5<|ae @bKs_2<|ae @bKs_6<|ae @bKq_<|ae @bKr_1<|ae @sKs_1<|ae @sKs_<|ae @oIn_<|ae @oIs_<|ae @nIi_1<|ae @rOs_3<|ae @sOo_3<|ae @sOn_1<|ae @sOs_2<|ae @sOs_1<|ae @rOs_1<|ae @rOc_1<|ae @cRl_<|ae @cRo_<|ae @cJi_<|ae @rOm_3<|ae @mNi_<|ae @rOm_1<|ae @cKs_<|ae @mSh_<|ae @mSm_1<|ae @mSn_<|ae @mOh_<|ae @mOm_<|ae @mOn_<|ae @Mg_seq<|ae @Ms_<|ae @Me_1<|ae @Mg_ret<|ae @Mb_<|ae @Mg_reg<|ae @Mg_drw<|ae @Mc_<|ae @Mg_n0<|ae @Mg_nsq<|ae @Mg_nbl<|ae @MnH_<|ae @Mg_xsq<|ae @Mg_xbl<|ae @Mg_xbm<|ae @Mg_xrd<|ae @Mg_r0<|ae @Mg_rc<|ae @bKs_4<|ae @bKs_3<|ae @bKa_1<|ae @bKo_1<|ae @bKx_<|ae @mKm_1<|ae @mKm_<|ae @cKm_1<|ae @cKm_<|ae @pOe_1<|ae @bKa_<|ae @bKn_2<|ae @bKn_3<|ae @aKe_<|ae @aKn_<|ae @nKe_<|ae @nKn_<|ae @cKc_2<|ae @cNn_<|ae @cKa_1<|ae @aZn_<|ae @OHc_<|ae @OHf_<|ae @cKh_<|ae @pOh_1<|ae @pOh_<|ae @aCh_<|ae @aCb_<|ae @rOm_2<|ae @rOl_1<|ae @rOm_<|ae @rOi_<|ae @rOr_<|ae @rOe_1<|@cKd_
def RB:=ae @ORt_<|ae @List.getElem?_toArray.{0}<|ae @List.getElem?_cons_succ.{0}<|ae @List.getElem?_cons_zero.{0}<|ae @Option.bind_some.{0,0}<|ae @uAn_1<|ae @uAc_1<|ae @aSe_<|ae @en_<|ae @ec_1<|ae @el_<|ae @ev_<|ae @eo_2<|ae @ec_2<|ae @uLn_<|ae @uLc_<|ae @newObjs.eq_1<|ae @deadObjs.eq_1<|ae @List.append_nil.{0}<|ae @List.nil_append.{0}<|ae @List.cons_append.{0}<|ae @List.map_nil.{0,0}<|ae @List.map_cons.{0,0}<|ae @true_and<|ae @and_true<|ae @Bool.not_true<|ae @Bool.not_false<|ae @CV.okp.eq_1<|ae @CV.okp.eq_2<|ae @CV.offs.eq_1<|ae @CV.offs.eq_2<|ae @CV.at.eq_1<|ae @CV.at.eq_2<|ae @pn_1<|ae @pa_<|ae @ea_<|ae @PV.noOwns.eq_1<|ae @PV.noOwns.eq_2<|ae @nOl_<|ae @nOs_<|ae @nOa_<|ae @nOc_<|ae @nOp_<|ae @CV.setAt.eq_1<|ae @CV.setAt.eq_2<|ae @iAn_<|ae @iAo_<|ae @iAa_<|ae @iAl_<|ae @iAs_1<|ae @iAc_<|ae @iAp_<|ae @CV.size.eq_1<|ae @CV.size.eq_2<|ae @CV.size.eq_3<|ae @CV.size.eq_4<|ae @CV.sizes.eq_1<|ae @CV.sizes.eq_2<|ae @sl_7<|ae @ss_2<|ae @sc_3<|ae @sp_<|ae @sa_1<|ae @PV.sizes.eq_1<|ae @PV.sizes.eq_2<|ae @nGp_<|ae @nGo_<|ae @nGn_<|ae @argCVs.eq_1<|ae @argCVs.eq_2<|ae @aCv_<|ae @partFs.eq_1<|ae @partFs.eq_2<|ae @partCVs.eq_1<|ae @partCVs.eq_2<|ae @setParts.eq_1<|ae @setParts.eq_2<|ae @CV.wholes.eq_1<|ae @CV.wholes.eq_2<|ae @CV.whole.eq_1<|ae @CV.whole.eq_2<|ae @CV.whole.eq_3<|ae @CV.whole.eq_4<|ae @CV.pvos.eq_1<|ae @CV.pvos.eq_2<|ae @CV.pvo.eq_1<|ae @CV.pvo.eq_2<|ae @CV.pvo.eq_3<|ae @CV.pvo.eq_4<|ae @CV.pvws.eq_1<|ae @CV.pvws.eq_2<|ae @CV.pvw.eq_1<|ae @CV.pvw.eq_2<|ae @CV.pvw.eq_3<|ae @CV.pvw.eq_4<|ae @CV.names.eq_1<|ae @CV.names.eq_2<|ae @CV.names.eq_3<|ae @CV.names.eq_4<|ae @CV.namess.eq_1<|ae @CV.namess.eq_2<|ae @mixNames.eq_1<|ae @mixNames.eq_2<|ae @mixPure.eq_1<|ae @mixPure.eq_2<|ae @viewNames.eq_1<|ae @viewNames.eq_2<|ae @List.getD_cons_zero.{0}<|ae @List.getD_cons_succ.{0}<|ae @List.set_cons_zero.{0}<|ae @List.set_cons_succ.{0}<|ae @List.take_zero.{0}<|ae @List.take_succ_cons.{0}<|ae @List.length_cons.{0}<|ae @List.length_nil.{0}<|ae @List.headD_cons.{0}<|ae @List.tail_cons.{0}<|ae @List.headD_nil.{0}<|ae @List.tail_nil.{0}<|ae @rd.eq_1<|ae @rd.eq_2<|ae @Option.map_some.{0,0}<|ae @Option.getD_some.{0}<|ae @List.not_mem_nil.{0}<|ae @false_implies<|ae @List.forall_mem_cons.{0}<|ae @vl_<|ae @vs_<|ae @va_<|ae @vc_<|ae @vp_2<|ae @PV.views.eq_1<|ae @PV.views.eq_2<|ae @Bool.true_or<|ae @Bool.or_true<|ae @PV.noView.eq_1<|ae @PV.noView.eq_2<|ae @PV.noView.eq_3<|ae @PV.noView.eq_4<|ae @PV.noView.eq_5<|ae @PV.noView.eq_6<|ae @PV.noViews.eq_1<|ae @PV.noViews.eq_2<|ae @List.nodup_nil.{0}<|ae @List.nodup_cons.{0}<|ae @rSl_<|ae @rOl_<|ae @rSs_<|ae @rOs_<|ae @rSa_<|ae @rOa_<|ae @rSt_<|ae @rOt_<|ae @PV.at.eq_1<|ae @PV.at.eq_2<|ae @PV.at.eq_3<|ae @PV.offs.eq_1<|ae @PV.offs.eq_2<|ae @PV.offs.eq_3<|ae @PV.okp.eq_1<|ae @PV.okp.eq_2<|ae @PV.okp.eq_3<|ae @PV.setAt.eq_1<|ae @PV.setAt.eq_2<|ae @PV.setAt.eq_3<|ae @Option.isSome_some.{0}<|ae @List.mem_cons.{0}<|ae @or_false<|ae @or_self<|ae @not_false_eq_true<|ae @Option.some.injEq.{0}<|ae @Prod.mk.injEq.{0,0}<|ae @List.length_map.{0,0}<|ae @forall_eq.{1}<|ae @forall_eq_or_imp.{1}<|ae @beq_self_eq_true.{0}<|ae @CV.ren.eq_1<|ae @CV.ren.eq_2<|ae @CV.ren.eq_3<|ae @CV.ren.eq_4<|ae @CV.rens.eq_1<|ae @CV.rens.eq_2<|ae @SlotV.ren.eq_1<|ae @SlotV.ren.eq_2<|ae @SlotV.ren.eq_3<|ae @SlotV.ren.eq_4<|ae @SlotV.ren.eq_5<|ae @SlotV.ren.eq_6<|ae @SlotV.ren.eq_7<|ae @SlotV.ren.eq_8<|ae @SlotV.ren.eq_9<|ae @SlotV.ren.eq_10<|ae @decide_true<|ae @decide_false<|ae @Nat.zero_lt_one<|ae @Nat.zero_lt_succ<|ae @Bool.false_eq_true<|ae @Bool.false_or<|ae @Bool.or_false<|ae @CV.pure.eq_1<|ae @CV.pure.eq_2<|ae @CV.pure.eq_3<|ae @CV.pure.eq_4<|ae @CV.pures.eq_1<|ae @CV.pures.eq_2<|ae @Bool.false_and<|ae @Bool.and_false<|ae @List.contains_nil.{0}<|ae @List.all_nil.{0}<|ae @List.all_cons.{0}<|ae @Bool.true_and<|ae @Bool.and_true<|ae @SlotV.val.injEq<|ae @CV.pv.injEq<|ae @PV.lit.injEq<|ae @Value.int.injEq<|ae @Value.bool.injEq<|ae @Value.string.injEq<|ae @Int.toNat_natCast<|ae @Int.le_refl<|ae @LeL.eq_1<|ae @LeL.eq_2<|ae @LeP.eq_1<|ae @LeP.eq_2<|ae @mix.eq_1<|ae @mix.eq_2<|ae @RetL.eq_1<|ae @RetR.eq_1<|ae @frozen.eq_1<|ae @COn_<|ae @COc_<|ae @bOo_<|ae @sOo_2<|ae @bOn_<|ae @sOn_<|ae @sOv_<|ae @Lv_u<|ae @vI_<|ae @vI_1<|ae @vB_<|ae @vS_<|ae @nVI_<|ae @nVI_1<|ae @nVB_<|ae @nVS_<|ae @vLI_<|ae @vLS_<|ae @nVL_1<|ae @nVL_<|ae @ep_<|ae @cast0<|ae @cast1<|ae @cast2<|ae @imp_T<|ae @ren_mk<|ae @List.map_append.{0,0}<|ae @List.map_set.{0,0}<|ae @List.map_replicate.{0,0}<|ae @List.map_take.{0,0}<|ae @List.map_drop.{0,0}<|ae @List.isEmpty_nil.{0}<|ae @List.flatMap_cons.{0,0}<|ae @List.flatMap_nil.{0,0}<|ae @Array.isEmpty_iff.{0}<|ae @kOn_<|ae @kOc_<|ae @kOi_<|ae @kOb_<|ae @kOs_<|ae @ePs_1<|ae @ePs_<|ae @ePi_<|ae @ePb_<|ae @ePs_2<|ae @List.length_append.{0}<|ae @List.length_replicate.{0}<|ae @List.length_set.{0}<|ae @rCs_2<|ae @rCs_1<|ae @cCb_<|ae @rCs_<|ae @rOn_<|ae @rOt_1<|ae @cOb_<|ae @rOc_<|ae @aRo_<|ae @aRt_<|ae @r0_<|ae @r1_3<|ae @r2_<|ae @r3_<|ae @r4_<|ae @r5_<|ae @r6_<|ae @r7_<|ae @r8_<|ae @r9_<|ae @r1_2<|ae @r1_1<|ae @r1_<|ae @cOV_<|ae @cVb_<|ae @cVp_<|ae @cOn_<|ae @cOc_<|ae @cOs_<|ae @bNN_<|ae @bNb_<|@bNv_
attribute [push_cast] ORt_ List.getElem?_toArray List.getElem?_cons_succ List.getElem?_cons_zero Option.bind_some uAn_1 uAc_1 aSe_ en_ ec_1 el_ ev_ eo_2 ec_2 uLn_ uLc_ newObjs.eq_1 deadObjs.eq_1 List.append_nil List.nil_append List.cons_append List.map_nil List.map_cons true_and and_true Bool.not_true Bool.not_false CV.okp.eq_1 CV.okp.eq_2 CV.offs.eq_1 CV.offs.eq_2 CV.at.eq_1 CV.at.eq_2 pn_1 pa_ ea_ PV.noOwns.eq_1 PV.noOwns.eq_2 nOl_ nOs_ nOa_ nOc_ nOp_ CV.setAt.eq_1 CV.setAt.eq_2 iAn_ iAo_ iAa_ iAl_ iAs_1 iAc_ iAp_ CV.size.eq_1 CV.size.eq_2 CV.size.eq_3 CV.size.eq_4 CV.sizes.eq_1 CV.sizes.eq_2 sl_7 ss_2 sc_3 sp_ sa_1 PV.sizes.eq_1 PV.sizes.eq_2 nGp_ nGo_ nGn_ argCVs.eq_1 argCVs.eq_2 aCv_ partFs.eq_1 partFs.eq_2 partCVs.eq_1 partCVs.eq_2 setParts.eq_1 setParts.eq_2 CV.wholes.eq_1 CV.wholes.eq_2 CV.whole.eq_1 CV.whole.eq_2 CV.whole.eq_3 CV.whole.eq_4 CV.pvos.eq_1 CV.pvos.eq_2 CV.pvo.eq_1 CV.pvo.eq_2 CV.pvo.eq_3 CV.pvo.eq_4 CV.pvws.eq_1 CV.pvws.eq_2 CV.pvw.eq_1 CV.pvw.eq_2 CV.pvw.eq_3 CV.pvw.eq_4 CV.names.eq_1 CV.names.eq_2 CV.names.eq_3 CV.names.eq_4 CV.namess.eq_1 CV.namess.eq_2 mixNames.eq_1 mixNames.eq_2 mixPure.eq_1 mixPure.eq_2 viewNames.eq_1 viewNames.eq_2 List.getD_cons_zero List.getD_cons_succ List.set_cons_zero List.set_cons_succ List.take_zero List.take_succ_cons List.length_cons List.length_nil List.headD_cons List.tail_cons List.headD_nil List.tail_nil rd.eq_1 rd.eq_2 Option.map_some Option.getD_some List.not_mem_nil false_implies List.forall_mem_cons vl_ vs_ va_ vc_ vp_2 PV.views.eq_1 PV.views.eq_2 Bool.true_or Bool.or_true PV.noView.eq_1 PV.noView.eq_2 PV.noView.eq_3 PV.noView.eq_4 PV.noView.eq_5 PV.noView.eq_6 PV.noViews.eq_1 PV.noViews.eq_2 List.nodup_nil List.nodup_cons rSl_ rOl_ rSs_ rOs_ rSa_ rOa_ rSt_ rOt_ PV.at.eq_1 PV.at.eq_2 PV.at.eq_3 PV.offs.eq_1 PV.offs.eq_2 PV.offs.eq_3 PV.okp.eq_1 PV.okp.eq_2 PV.okp.eq_3 PV.setAt.eq_1 PV.setAt.eq_2 PV.setAt.eq_3 Option.isSome_some List.mem_cons or_false or_self not_false_eq_true Option.some.injEq Prod.mk.injEq List.length_map forall_eq forall_eq_or_imp beq_self_eq_true CV.ren.eq_1 CV.ren.eq_2 CV.ren.eq_3 CV.ren.eq_4 CV.rens.eq_1 CV.rens.eq_2 SlotV.ren.eq_1 SlotV.ren.eq_2 SlotV.ren.eq_3 SlotV.ren.eq_4 SlotV.ren.eq_5 SlotV.ren.eq_6 SlotV.ren.eq_7 SlotV.ren.eq_8 SlotV.ren.eq_9 SlotV.ren.eq_10 decide_true decide_false Nat.zero_lt_one Nat.zero_lt_succ Bool.false_eq_true Bool.false_or Bool.or_false CV.pure.eq_1 CV.pure.eq_2 CV.pure.eq_3 CV.pure.eq_4 CV.pures.eq_1 CV.pures.eq_2 Bool.false_and Bool.and_false List.contains_nil List.all_nil List.all_cons Bool.true_and Bool.and_true SlotV.val.injEq CV.pv.injEq PV.lit.injEq Value.int.injEq Value.bool.injEq Value.string.injEq Int.toNat_natCast Int.le_refl LeL.eq_1 LeL.eq_2 LeP.eq_1 LeP.eq_2 mix.eq_1 mix.eq_2 RetL.eq_1 RetR.eq_1 frozen.eq_1 COn_ COc_ bOo_ sOo_2 bOn_ sOn_ sOv_ Lv_u vI_ vI_1 vB_ vS_ nVI_ nVI_1 nVB_ nVS_ vLI_ vLS_ nVL_1 nVL_ ep_ cast0 cast1 cast2 imp_T ren_mk List.map_append List.map_set List.map_replicate List.map_take List.map_drop List.isEmpty_nil List.flatMap_cons List.flatMap_nil Array.isEmpty_iff kOn_ kOc_ kOi_ kOb_ kOs_ ePs_1 ePs_ ePi_ ePb_ ePs_2 List.length_append List.length_replicate List.length_set rCs_2 rCs_1 cCb_ rCs_ rOn_ rOt_1 cOb_ rOc_ aRo_ aRt_ r0_ r1_3 r2_ r3_ r4_ r5_ r6_ r7_ r8_ r9_ r1_2 r1_1 r1_ cOV_ cVb_ cVp_ cOn_ cOc_ cOs_ bNN_ bNb_ bNv_
end Go.Av
