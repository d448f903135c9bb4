/- A part of the proof: lemmas only; nothing is claimed here beyond what each lemma says. -/
import Derived.Test.YtkoghcphkdecoaaGreatAvB
set_option linter.unusedSimpArgs false
set_option linter.unusedVariables false
set_option linter.defProp false
namespace Go.Av

def TDa_:TypeDesc→Bool
 | .struct _ | .array _ _=>true
 | _=>false
theorem TyIs.mk'{P:Program}{T n:Nat}{agg:Bool}{d:TypeDesc}{i:TypeInfo}(h1:P.underlying T=some d)(h2:P.info? T=some i)(h3:i.size=n)(h4:TDa_ d=agg):TyIs P T agg n:=⟨d,i,h1,h2,h3,by rw[← h4]; cases d<;>rfl⟩
theorem FieldIs.mk'{P:Program}{T k off:Nat}{fs:Array Field}{f:Field}{i:TypeInfo}(h1:P.underlying T=some (.struct fs))(h2:fs[k]?=some f)(h3:f.offset=off)(h4:P.info? f.type=some i)(h5:i.size≠0):FieldIs P T k off:=⟨fs,f,i,h1,h2,h3,h4,h5⟩
theorem SlIs.mk'{P:Program}{T e sz bytes:Nat}{i:TypeInfo}{z:Value}(h1:P.underlying T=some (.slice e))(h2:P.info? e=some i)(h3:i.size=sz)(h4:i.bytes=bytes)(h5:i.zero=some z)(h6:z.cells.size=sz)(h7:0<sz):SlIs P T sz bytes:=⟨e,i,z,h1,h2,h3,h4,h5,h6,h7⟩

mutual
def PV.zcs:PV→List Value
 | .lit v=>[v]
 | .agg fs=>PV.zcss fs
 | .sl _ _ _=>[.slice none 0 0]
 | _=>[]
def PV.zcss:List PV→List Value
 | []=>[]
 | p::ps=>p.zcs++PV.zcss ps
end
mutual
def PV.zok:PV→Bool
 | .lit v=>v.oneCell'
 | .agg fs=>PV.zoks fs
 | .sl true _ []=>true
 | _=>false
def PV.zoks:List PV→Bool
 | []=>true
 | p::ps=>p.zok&&PV.zoks ps
end
mutual
def CV.zcs:CV→List Value
 | .pv p=>p.zcs
 | .node fs=>CV.zcss fs
 | _=>[]
def CV.zcss:List CV→List Value
 | []=>[]
 | p::ps=>p.zcs++CV.zcss ps
end
mutual
def CV.zok:CV→Bool
 | .pv p=>p.zok
 | .node fs=>CV.zoks fs
 | _=>false
def CV.zoks:List CV→Bool
 | []=>true
 | p::ps=>p.zok&&CV.zoks ps
end
section
variable{N:Nat→Prop}{w:World}{hd:Nat→Value}
mutual
theorem PV.zrep:∀ p:PV,p.zok=true→RepC N w p p.zcs []
 | .lit v,h=>by simp only[PV.zok] at h; simp[RepC,PV.zcs,h]
 | .agg fs,h=>by simp only[PV.zok] at h; simpa only[RepC,PV.zcs] using PV.zreps fs h
 | .sl true _ [],h=>by simp[RepC,PV.zcs]
 | .sl true _ (_::_),h=>by simp[PV.zok] at h
 | .sl false _ _,h=>by simp[PV.zok] at h
 | .clo _ _,h=>by simp[PV.zok] at h
 | .ptr _,h=>by simp[PV.zok] at h
 | .tup _,h=>by simp[PV.zok] at h
theorem PV.zreps:∀ ps:List PV,PV.zoks ps=true→RepCs N w ps (PV.zcss ps) []
 | [],h=>by simp[RepCs,PV.zcss]
 | p::ps,h=>by
  simp only[PV.zoks,Bool.and_eq_true] at h
  simp only[RepCs,PV.zcss]
  exact⟨_,_,[],[],rfl,rfl,PV.zrep p h.1,PV.zreps ps h.2⟩
end
mutual
theorem CV.zrep:∀ p:CV,p.zok=true→RepCV N w hd p p.zcs
 | .pv p,h=>by simp only[CV.zok] at h; simpa only[RepCV,CV.zcs] using PV.zrep p h
 | .node fs,h=>by simp only[CV.zok] at h; simpa only[RepCV,CV.zcs] using CV.zreps fs h
 | .own _,h=>by simp[CV.zok] at h
 | .gone _,h=>by simp[CV.zok] at h
theorem CV.zreps:∀ ps:List CV,CV.zoks ps=true→RepCVs N w hd ps (CV.zcss ps)
 | [],h=>by simp[RepCVs,CV.zcss]
 | p::ps,h=>by
  simp only[CV.zoks,Bool.and_eq_true] at h
  simp only[RepCVs,CV.zcss]
  exact⟨_,_,rfl,CV.zrep p h.1,CV.zreps ps h.2⟩
end
end
theorem ZeroIs.agg{P:Program}{T:Nat}{x:CV}{i:TypeInfo}(h1:P.info? T=some i)(h2:i.zero=some (.agg x.zcs.toArray))(h3:x.isAgg=true)(h4:x.zok=true):ZeroIs P T x:=
 ⟨i,_,h1,h2,fun N w hd=>.inl ⟨h3,_,rfl,CV.zrep x h4⟩⟩
theorem ZeroIs.one{P:Program}{T:Nat}{x:CV}{i:TypeInfo}{z:Value}(h1:P.info? T=some i)(h2:i.zero=some z)(h3:x.isAgg=false)(h4:x.zok=true)(h5:x.zcs=[z])(h6:z.oneCell'=true):ZeroIs P T x:=
 ⟨i,z,h1,h2,fun N w hd=>.inr ⟨h3,h5▸CV.zrep x h4,h6⟩⟩
theorem ElemZero.mk'{P:Program}{T e:Nat}{p:PV}(h1:P.underlying T=some (.slice e))(h2:ZeroIs P e (.pv p)):ElemZero P T p:=⟨e,h1,h2⟩

theorem Slf_{st st':St}(hs:∀ k,st'.s k=st.s k∨st'.s k=.dead)(ho:∀ c,st'.o c=st.o c∨st'.o c=none):st.le st':=by
 rintro κ a w ⟨G,hG⟩
 have hbox:∀ r,isBox (st'.s r)=true→isBox (st.s r)=true∧st'.s r=st.s r:=by
  intro r hr
  rcases hs r with h | h
  ·exact⟨h▸hr,h⟩
  ·rw[h] at hr; cases hr
 have hobj:∀ c p,st'.o c=some p→st.o c=some p:=by
  intro c p hp
  rcases ho c with h | h
  ·exact h▸hp
  ·rw[h] at hp; cases hp
 have hpriv:∀ b,Priv st' G b→Priv st G b:=by
  rintro b (⟨r,h1,h2⟩ | ⟨c,p,h1,h2⟩)
  ·exact .inl ⟨r,(hbox r h1).1,h2⟩
  ·exact .inr ⟨c,p,hobj c p h1,h2⟩
 have hN:∀ b,Nof κ st G w b→Nof κ st' G w b:=fun b hb=>⟨hb.1,fun h=>hb.2 (hpriv b h)⟩
 refine⟨G,hG.keep,hG.defers,hG.nt,?_,?_,fun r hr=>hG.boxes r (hbox r hr).1,fun r r' hr hr'=>hG.bb r r' (hbox r hr).1 (hbox r' hr').1,fun r c p hr hp=>hG.bo r c p (hbox r hr).1 (hobj c p hp),fun c c' p p' hp hp'=>hG.oo c c' p p' (hobj c p hp) (hobj c' p' hp'),hG.held⟩
 ·intro k
  rcases hs k with h | h
  ·rw[h]
   exact(hG.slots k).frame hN (fun _ _=>rfl) (fun _ _=>rfl) (fun _ _=>rfl) (fun _=>⟨rfl,rfl⟩)
  ·rw[h]; trivial
 ·intro c sz es hc
  obtain⟨h1,h2,h3⟩:=hG.objs c sz es (hobj c _ hc)
  exact⟨h1.frame hN (fun _ _=>rfl) _ _ _ (fun _ _=>rfl),h2,h3⟩
end Go.Av

namespace Go.Av
variable{P:Program}{nt:Nat}

def LeS(f g:Nat→SlotV):Prop:=∀ k,g k=f k∨g k=.dead
theorem LeS.nil(f:Nat→SlotV):LeS f (fun _=>.dead):=fun _=>.inr rfl
theorem LeS.cons{f g:Nat→SlotV}{k:Nat}{v:SlotV}(h:f k=v)(hg:LeS f g):LeS f (upd g k v):=by
 intro j
 simp only[upd]
 split
 ·rename_i e; subst e; exact .inl h.symm
 ·exact hg j
def LeO(f g:Nat→Option (Nat×List PV)):Prop:=∀ k,g k=f k∨g k=none
theorem LeO.nil(f:Nat→Option (Nat×List PV)):LeO f (fun _=>none):=fun _=>.inr rfl
theorem LeO.cons{f g:Nat→Option (Nat×List PV)}{k:Nat}{v:Option (Nat×List PV)}(h:f k=v)(hg:LeO f g):LeO f (upd g k v):=by
 intro j
 simp only[upd]
 split
 ·rename_i e; subst e; exact .inl h.symm
 ·exact hg j
theorem Sll_{st:St}{s:Nat→SlotV}{o:Nat→Option (Nat×List PV)}(hs:LeS st.s s)(ho:LeO st.o o):st.le ⟨s,o⟩:=Slf_ hs ho

theorem VC.know_sl{c:Code}{st:St}{Q:Exit→St→Prop}{b:Bool}{sz:Nat}{es:List PV}(k:Nat)(hk:st.s k=.val (.pv (.sl b sz es)))(h:es.length≤maxLen→VC P nt c st Q):VC P nt c st Q:=by
 intro κ a w hnt hR
 refine h ?_ κ a w hnt hR
 obtain⟨G,hG⟩:=hR
 have h1:=hG.slots k
 rw[hk] at h1
 rcases h1 with⟨h1,_⟩ | ⟨_,h2,_⟩
 ·cases h1
 ·simp only[RepCV] at h2
  cases b with
  | false=>simp only[RepC] at h2; obtain⟨a,cap,h1,h2,h3,h4,h5⟩:=h2; omega
  | true=>
   simp only[RepC] at h2
   rcases h2 with⟨_,rfl,_⟩ | ⟨b,cap,c,e,F',ccs,h1,h2,h3,_⟩
   ·simp
   ·omega
theorem VC.know_own{c:Code}{st:St}{Q:Exit→St→Prop}{sz:Nat}{es:List PV}(k:Nat)(hk:st.o k=some (sz,es))(h:es.length≤maxLen→VC P nt c st Q):VC P nt c st Q:=by
 intro κ a w hnt hR
 refine h ?_ κ a w hnt hR
 obtain⟨G,hG⟩:=hR
 have h2:=(hG.objs k sz es hk).1
 simp only[RepC] at h2
 rcases h2 with⟨_,rfl,_⟩ | ⟨b,cap,c,e,F',ccs,h1,h2,h3,_⟩
 ·simp
 ·omega
theorem wrap64{n:Int}(h1:-9223372036854775808≤n)(h2:n<9223372036854775808):IntKind.i64.wrap n=n:=by
 simp[IntKind.wrap,IntKind.bits,IntKind.signed]
 omega
end Go.Av

namespace Go.Av
variable{P:Program}{nt:Nat}{st:St}{Q:Exit→St→Prop}

theorem VC.mono{c:Code}{Q':Exit→St→Prop}(h:VC P nt c st Q')(hQ:∀ e st',Q' e st'→Q e st'):VC P nt c st Q:=
 fun κ a w hnt hR Qc hQc=>h κ a w hnt hR Qc (fun e st' a' w' hq hR'=>hQc e st' a' w' (hQ e st' hq) hR')

def after(P:Program)(nt:Nat)(y:Code)(Q:Exit→St→Prop):Exit→St→Prop
 | .normal,st=>VC P nt y st Q
 | e,st=>Q e st
theorem Vs_{x y:Code}(h:VC P nt x st (after P nt y Q)):VC P nt (.seq x y) st Q:=by
 refine VC.seq fun K hK=>VC.mono h ?_
 intro e st' hq
 cases e with
 | normal=>exact hK st' hq
 | _=>exact hq
theorem bKh_{i:Nat}(h:Q .normal st):blockK i Q (.exit i) st:=by simpa[blockK] using h
theorem bKm_{i j:Nat}(hj:j≠i)(h:Q (.exit j) st):blockK i Q (.exit j) st:=by simpa[blockK,hj] using h
end Go.Av
namespace Go.Av
end Go.Av
namespace Go.Av
theorem iAn_(l:List CV):(CV.node l).isAgg=true:=rfl
theorem iAo_(c:Nat):(CV.own c).isAgg=false:=rfl
theorem iAa_(l:List PV):(CV.pv (.agg l)).isAgg=true:=rfl
theorem iAl_(v:Value):(CV.pv (.lit v)).isAgg=false:=rfl
theorem iAs_1(b:Bool)(n:Nat)(l:List PV):(CV.pv (.sl b n l)).isAgg=false:=rfl
theorem iAc_(f:FuncId)(l:List PV):(CV.pv (.clo f l)).isAgg=false:=rfl
theorem iAp_(v:PV):(CV.pv (.ptr v)).isAgg=false:=rfl
theorem sl_7(v:Value):(PV.lit v).size=1:=rfl
theorem ss_2(b:Bool)(n:Nat)(l:List PV):(PV.sl b n l).size=1:=rfl
theorem sc_3(f:FuncId)(l:List PV):(PV.clo f l).size=1:=rfl
theorem sp_(v:PV):(PV.ptr v).size=1:=rfl
theorem sa_1(l:List PV):(PV.agg l).size=PV.sizes l:=rfl
theorem nGp_(v:PV):nG_ (.pv v)=true:=rfl
theorem nGo_(c:Nat):nG_ (.own c)=true:=rfl
theorem nGn_(l:List CV):nG_ (.node l)=true:=rfl
theorem gDm_{α:Type}[Inhabited α]{l:List α}{i:Nat}(h:i<l.length):l.getD i default∈l:=by
 simp[List.getD,h]
theorem dgD_{α:Type}[Inhabited α]{l:List α}{i:Nat}(h:i<l.length):l.drop i=l.getD i default::l.drop (i+1):=by
 rw[List.drop_eq_getElem_cons h]; simp[List.getD,h]
end Go.Av
namespace Go.Av
theorem pn_1(l:List CV):(CV.node l).parts=l:=rfl
theorem pa_(l:List PV):(CV.pv (.agg l)).parts=l.map .pv:=rfl
theorem nOl_(v:Value):(PV.lit v).noOwn=true:=rfl
theorem nOs_(b:Bool)(n:Nat)(l:List PV):(PV.sl b n l).noOwn=!b:=rfl
theorem nOa_(l:List PV):(PV.agg l).noOwn=PV.noOwns l:=rfl
theorem nOc_(f:FuncId)(l:List PV):(PV.clo f l).noOwn=true:=rfl
theorem nOp_(v:PV):(PV.ptr v).noOwn=true:=rfl
end Go.Av
namespace Go.Av
def fill{α:Type}(z:α)(l:List α)(x:Nat):List α:=l.take x++List.replicate (l.length-x) z
end Go.Av
namespace Go.Av
variable{P:Program}{nt:Nat}{st:St}{Q:Exit→St→Prop}
def DrawH(ops:Array Oper)(st:St)(recs:List Rec)(_:Tok ops)(_:Tok st)(_:Tok recs):Prop:=DrawOk ops st recs
def edgesL(l:List Oper):Bool:=l.zipIdx.all fun (o,i)=>o.after.toList.all fun e=>!Region.binds .any e||decide (e.on<i)
def depL(l:List Oper)(j i:Nat):Bool:=((l[j]?).map fun o=>o.after.toList.any fun e=>Region.binds .any e&&e.on==i).getD false
def depL2(l:List Oper)(j i:Nat):Bool:=(List.range l.length).any fun k=>depL l j k&&depL l k i
def pairsL(l:List Oper)(recs:List Rec):Bool:=
 recs.zipIdx.all fun (r,i)=>recs.zipIdx.all fun (q,j)=>i==j||((!decide (i<j)||depL l j i||indep r q||depL2 l j i)&&(depL l j i||fB_1 r q||depL2 l j i))
theorem eLe_(l:List Oper):edgesB ⟨l⟩=edgesL l:=by
 simp only[edgesB,edgesL,Array.all_toList]
theorem dLe_(l:List Oper)(j i:Nat):dep ⟨l⟩ j i=depL l j i:=by
 simp only[dep,depL,Array.any_toList,List.getElem?_toArray]
theorem pLe_(l:List Oper)(recs:List Rec):pairsB ⟨l⟩ recs=pairsL l recs:=by
 simp only[pairsB,pairsL,dep2,depL2,dLe_,List.size_toArray]
theorem DrawH.mk{l:List Oper}{recs:List Rec}(frs fcs:List Nat)(h1:edgesL l=true)(h2:pairsL l recs=true)(h3:recs.flatMap (·.fr)=frs)(h4:recs.flatMap (·.fc)=fcs)
 (h5:∀ x∈frs,st.noR x) (h6:∀ c∈fcs,st.noC c):DrawH ⟨l⟩ st recs .mk .mk .mk:=
 ⟨eLe_ l▸h1,pLe_ l recs▸h2,fun r hr=>⟨fun x hx=>h5 x (h3▸List.mem_flatMap.2 ⟨r,hr,hx⟩),fun c hc=>h6 c (h4▸List.mem_flatMap.2 ⟨r,hr,hc⟩)⟩⟩
theorem DrawH.none{l:List Oper}{recs:List Rec}(h1:edgesL l=true)(h2:pairsL l recs=true)(h3:recs.flatMap (·.fr)=[])(h4:recs.flatMap (·.fc)=[]):DrawH ⟨l⟩ st recs .mk .mk .mk:=
 DrawH.mk [] [] h1 h2 h3 h4 (by simp) (by simp)
end Go.Av
namespace Go.Av
end Go.Av
