/- Lemmas of the proof; each says what it shows. -/
import Derived.Test.YtckabmmondelpaaGreatAvK
import Derived.ProofKit
import Derived.Carry
import Derived.Below
import Derived.ChangeSame
import Derived.WideKeyArgs
import Derived.Test.YtckabmmondelpaaGreatAv6u
set_option linter.unusedSimpArgs false
set_option linter.unusedVariables false
set_option linter.defProp false
namespace Go.Av
open And renaming intro→ae
open Bool renaming and_eq_true→aq
open CV renaming wholes→au,namess→ar,pvos→aB,names→bw
open List renaming map_cons→aD,length_cons→aA,nodup_append→bG
open Option renaming bind_some→ah
open PV renaming views→az,noViews→aT
section
theorem c_2:((0:Nat):Int)=0:=rfl
theorem c_1:((1:Nat):Int)=1:=rfl
theorem c_:((2:Nat):Int)=2:=rfl
theorem iT_(α:Type):(∀ _:α,True)=True:=by simp
abbrev I(n:Int):PV:=.lit (.int .i64 n)
abbrev Ik(k:IntKind)(n:Int):PV:=.lit (.int k n)
abbrev B(b:Bool):PV:=.lit (.bool b)
abbrev Sx(s:ByteArray):PV:=.lit (.string s)
def Lv{α:Type}(b:Bool)(sz:Nat)(f:α→PV)(l:List α):PV:=.sl b sz (l.map f)
theorem Lv_u{α:Type}(b:Bool)(sz:Nat)(f:α→PV)(l:List α):Lv b sz f l=.sl b sz (l.map f):=rfl
theorem vm_{α:Type}(f g:α→PV)(h:∀ a,(f a).view=g a)(l:List α):az (l.map f)=l.map g:=by
 induction l with
 | nil=>rfl
 | cons a l ih=>simp only[aD,az,h a,ih]
theorem nVm_{α:Type}(f:α→PV)(h:∀ a,(f a).noView=true)(l:List α):aT (l.map f)=true:=by
 induction l with
 | nil=>rfl
 | cons a l ih=>simp only[aD,aT,h a,ih,Bool.and_true]
theorem vI_(l:List Int):az (l.map I)=l.map I:=vm_ _ _ (fun _=>rfl) l
theorem vI_1(k:IntKind)(l:List Int):az (l.map (Ik k))=l.map (Ik k):=vm_ _ _ (fun _=>rfl) l
theorem vB_(l:List Bool):az (l.map B)=l.map B:=vm_ _ _ (fun _=>rfl) l
theorem vS_(l:List ByteArray):az (l.map Sx)=l.map Sx:=vm_ _ _ (fun _=>rfl) l
theorem nVI_(l:List Int):aT (l.map I)=true:=nVm_ _ (fun _=>rfl) l
theorem nVI_1(k:IntKind)(l:List Int):aT (l.map (Ik k))=true:=nVm_ _ (fun _=>rfl) l
theorem nVB_(l:List Bool):aT (l.map B)=true:=nVm_ _ (fun _=>rfl) l
theorem nVS_(l:List ByteArray):aT (l.map Sx)=true:=nVm_ _ (fun _=>rfl) l
theorem vLI_(b:Bool)(sz:Nat)(l:List (List Int)):az (l.map (Lv b sz I))=l.map (Lv false sz I):=vm_ _ _ (fun a=>by rw[Lv_u,vs_,vI_]; rfl) l
theorem vLS_(b:Bool)(sz:Nat)(l:List (List ByteArray)):az (l.map (Lv b sz Sx))=l.map (Lv false sz Sx):=vm_ _ _ (fun a=>by rw[Lv_u,vs_,vS_]; rfl) l
theorem nVL_1(sz:Nat)(l:List (List Int)):aT (l.map (Lv true sz I))=true:=nVm_ _ (fun a=>by simp only[Lv,PV.noView,nVI_,Bool.and_true]) l
theorem nVL_(sz:Nat)(l:List (List ByteArray)):aT (l.map (Lv true sz Sx))=true:=nVm_ _ (fun a=>by simp only[Lv,PV.noView,nVS_,Bool.and_true]) l

section
variable{P:Program}{nt:Nat}{st:St}
def RdH(φ:St→Prop)(st:St)(_:Tok φ):Prop:=φ st
@[congr] theorem RdH.cg {φ:St→Prop} {st':St} (h:∀ _:Unit,st=st'):RdH φ st .mk=RdH φ st' .mk:=by rw[h ()]
theorem RdH.mk{φ:St→Prop}(h:φ st):RdH φ st .mk:=h
theorem MnH_{F:St→Prop}{n:Nat}{k:List Fr}(φ:St→Prop):Mg P nt F (n+1) .nrm st (.rd φ::k)=RdH φ st .mk:=rfl

def CO_(caps:List PV):Prop:=∀ p∈caps,PV.size p=1∧(CV.pv p).isAgg=false
theorem COn_:CO_ []=True:=by simp[CO_]
theorem COc_(v:PV)(l:List PV):CO_ (.ptr v::l)=CO_ l:=by
 simp[CO_,PV.size,CV.isAgg]
theorem cKv_(st:St)(d ty:Nat)(op:Op)(pos:String)(af:Array Edge)(gd:Option (Nat×Bool))(g:Operand)(as:List Operand)(ts:List TypeId)(K:Rec→Prop)(H:d<nt):
 cK_ P nt st { dst:=some d,op:=op,type:=ty,pos:=pos,after:=af,guard:=gd } { callee:=.value g,args:=⟨as⟩,argTypes:=⟨ts⟩ } K=
  OrH (closK (ev P st 0 g) fun f caps=>CO_ caps∧callW P nt st d f caps (rd g++as.flatMap rd) (argCVs P st as ts) K (RO_ P nt st { dst:=some d,op:=op,type:=ty,pos:=pos,after:=af,guard:=gd } K) .mk) (RO_ P nt st { dst:=some d,op:=op,type:=ty,pos:=pos,after:=af,guard:=gd } K) .mk:=cKv_1 st d ty op pos af gd g as ts K H

def AppH(sz:Nat)(es ys:List PV)(K:List PV→Prop)(_:Tok K):Prop:=(∀ e∈es,PV.size e=sz)∧(∀ e∈ys,PV.size e=sz)∧es.length+ys.length≤1073741824∧K (es++ys)
@[congr] theorem AppH.cg {sz:Nat} {es es' ys ys':List PV} {K:List PV→Prop} (h:∀ _:Unit,es=es') (h':∀ _:Unit,ys=ys'):AppH sz es ys K .mk=AppH sz es' ys' K .mk:=by rw[h (),h' ()]
theorem as_7{α:Type}{xs ys zs:List α}(h:app xs ys=some zs):xs.length+ys.length≤1073741824∧zs=xs++ys:=by
 unfold app at h
 split at h
 ·cases h; exact⟨by assumption,rfl⟩
 ·cases h
theorem AppH.mk{α:Type}{f:α→PV}{sz:Nat}{xs ys zs:List α}{es es':List PV}{K:List PV→Prop}(hf:∀ a,(f a).size=sz)(h:app xs ys=some zs)(he:es=xs.map f)(hy:es'=ys.map f)(hK:K (zs.map f)):AppH sz es es' K .mk:=by
 obtain⟨h1,rfl⟩:=as_7 h
 subst he; subst hy
 refine⟨?_,?_,by simpa using h1,by rw[← List.map_append]; exact hK⟩
 ·intro e he; obtain⟨a,_,rfl⟩:=List.mem_map.1 he; exact hf a
 ·intro e he; obtain⟨a,_,rfl⟩:=List.mem_map.1 he; exact hf a
def appW(P:Program)(st:St)(d T:Nat)(rs:List Nat)(a b:Option (List Nat×Nat×List PV))(K:Rec→Prop)(_:Tok K):Prop:=
 appK a b fun D1 D2 sz es ys=>SlIs P T sz (eB_ P T)∧(D1++D2).Nodup∧eB_ P T≤65536∧AppH sz es ys (fun zs=>(∀ n∈(rO_ (.sl true sz zs) (16*d)).map (·.1),st.noC n)∧
  K { rs:=rs,ro:=D1++D2,fc:=(rO_ (.sl true sz zs) (16*d)).map (·.1),us:=[(d,rS_ (.sl true sz zs) (16*d))],uo:=deadObjs (D1++D2)++newObjs (rO_ (.sl true sz zs) (16*d)) }) .mk
@[congr] theorem appW.cg {d T:Nat} {rs:List Nat} {a a' b b':Option (List Nat×Nat×List PV)} {K:Rec→Prop} (h:∀ _:Unit,a=a') (h':∀ _:Unit,b=b'):appW P st d T rs a b K .mk=appW P st d T rs a' b' K .mk:=by rw[h (),h' ()]
theorem aWs_{d T:Nat}{rs:List Nat}{D1 D2:List Nat}{sz sz':Nat}{es ys:List PV}{K:Rec→Prop}:appW P st d T rs (some (D1,sz,es)) (some (D2,sz',ys)) K .mk=(sz=sz'∧SlIs P T sz' (eB_ P T)∧(D1++D2).Nodup∧eB_ P T≤65536∧AppH sz' es ys (fun zs=>(∀ n∈(rO_ (.sl true sz' zs) (16*d)).map (·.1),st.noC n)∧
 K { rs:=rs,ro:=D1++D2,fc:=(rO_ (.sl true sz' zs) (16*d)).map (·.1),us:=[(d,rS_ (.sl true sz' zs) (16*d))],uo:=deadObjs (D1++D2)++newObjs (rO_ (.sl true sz' zs) (16*d)) }) .mk):=rfl
theorem cKa_(st:St)(d ty:Nat)(op:Op)(pos:String)(af:Array Edge)(gd:Option (Nat×Bool))(x y:Operand)(T:TypeId)(K:Rec→Prop)(H:d<nt):
 cK_ P nt st { dst:=some d,op:=op,type:=ty,pos:=pos,after:=af,guard:=gd } { callee:=.builtin .append,args:=⟨[x,y]⟩,argTypes:=⟨[T,T]⟩ } K=
  appW P st d T (rd x++rd y) (bO_ st (ev P st T x)) (sO_ st (ev P st T y)) K .mk:=by
 have hz:∀ o:Oper,¬ appZ P nt st o T T x y K (ev P st T x) (ev P st T y):=by
  intro o h
  unfold appZ at h
  split at h
  ·obtain⟨⟨e,i,z,h1,_⟩,⟨kn,h2⟩,_⟩:=h
   rw[h1] at h2; cases h2
  ·exact h
 simp only[cK_,bltK,hz,false_or,true_and,appW,AppH,mK_,dstK,H,eq_iff_iff]
 cases bO_ st (ev P st T x) with
 | none=>simp[appK]
 | some a=>cases sO_ st (ev P st T y) with
  | none=>simp[appK]
  | some b=>
   obtain⟨D1,sz,es⟩:=a
   obtain⟨D2,sz',ys⟩:=b
   simp only[appK]
   constructor
   ·rintro ⟨h1,h2,h3,h4,h5,h6,h7,h8,h9⟩; exact⟨h1,h2,h3,h7,h4,h5,h6,h8,h9⟩
   ·rintro ⟨h1,h2,h3,h7,h4,h5,h6,h8,h9⟩; exact⟨h1,h2,h3,h4,h5,h6,h7,h8,h9⟩
def iIB_:Option TypeDesc→Bool
 | some (.int _)=>true
 | _=>false
theorem iIB_2{x:Option TypeDesc}:(∃ kn,x=some (.int kn))↔iIB_ x=true:=by
 constructor
 ·rintro ⟨kn,rfl⟩; rfl
 ·intro h; unfold iIB_ at h; split at h
  ·exact⟨_,rfl⟩
  ·cases h
def AppzH(n:Int)(K:Nat→Prop)(_:Tok K):Prop:=(0<n∧n≤1073741824)∧K n.toNat
@[congr] theorem AppzH.cg {n n':Int} {K:Nat→Prop} (h':∀ _:Unit,n=n'):AppzH n K .mk=AppzH n' K .mk:=by rw[h' ()]
def appz(n:Int):Option Nat:=if 0<n∧n≤1073741824 then some n.toNat else none
theorem AppzH.mk{n:Int}{m:Nat}{K:Nat→Prop}(h:appz n=some m)(hK:K m):AppzH n K .mk:=by
 unfold appz at h
 split at h
 ·rename_i g; cases h; exact⟨g,hK⟩
 ·cases h
def appZR(P:Program)(st:St)(d T T':Nat)(rs:List Nat)(K:Rec→Prop):SlotV→SlotV→Prop
 | .val (.pv (.sl true _ [])),.val (.pv (.lit (.int _ n)))=>SlIs P T (eS_ P T) (eB_ P T)∧iIB_ (P.underlying T')=true∧ElemZero P T (zel P T)∧(zel P T).size=eS_ P T∧eB_ P T≤65536∧
  AppzH n (fun m=>(∀ c∈(rO_ (.sl true (eS_ P T) (List.replicate m (zel P T))) (16*d)).map (·.1),st.noC c)∧
  K { rs:=rs,ro:=[],fc:=(rO_ (.sl true (eS_ P T) (List.replicate m (zel P T))) (16*d)).map (·.1),us:=[(d,rS_ (.sl true (eS_ P T) (List.replicate m (zel P T))) (16*d))],uo:=deadObjs []++newObjs (rO_ (.sl true (eS_ P T) (List.replicate m (zel P T))) (16*d)) }) .mk
 | _,_=>False
@[congr] theorem appZR.cg {d T T':Nat} {rs:List Nat} {K:Rec→Prop} {v v' u u':SlotV} (h:∀ _:Unit,v=v') (h':∀ _:Unit,u=u'):appZR P st d T T' rs K v u=appZR P st d T T' rs K v' u':=by rw[h (),h' ()]
theorem aZn_(d T T':Nat)(rs:List Nat)(K:Rec→Prop)(sz:Nat)(k:IntKind)(n:Int):appZR P st d T T' rs K (.val (.pv (.sl true sz []))) (.val (.pv (.lit (.int k n))))=(SlIs P T (eS_ P T) (eB_ P T)∧iIB_ (P.underlying T')=true∧ElemZero P T (zel P T)∧(zel P T).size=eS_ P T∧eB_ P T≤65536∧
 AppzH n (fun m=>(∀ c∈(rO_ (.sl true (eS_ P T) (List.replicate m (zel P T))) (16*d)).map (·.1),st.noC c)∧
 K { rs:=rs,ro:=[],fc:=(rO_ (.sl true (eS_ P T) (List.replicate m (zel P T))) (16*d)).map (·.1),us:=[(d,rS_ (.sl true (eS_ P T) (List.replicate m (zel P T))) (16*d))],uo:=deadObjs []++newObjs (rO_ (.sl true (eS_ P T) (List.replicate m (zel P T))) (16*d)) }) .mk):=rfl
theorem cKa_1(st:St)(d ty:Nat)(op:Op)(pos:String)(af:Array Edge)(gd:Option (Nat×Bool))(x y:Operand)(T T':TypeId)(K:Rec→Prop)(H:d<nt)(hT:(T==T')=false):
 cK_ P nt st { dst:=some d,op:=op,type:=ty,pos:=pos,after:=af,guard:=gd } { callee:=.builtin .append,args:=⟨[x,y]⟩,argTypes:=⟨[T,T']⟩ } K=
  appZR P st d T T' (rd x++rd y) K (ev P st T x) (ev P st T' y):=by
 have hne:T≠T':=by simpa using hT
 simp only[cK_,bltK,hne,false_and,or_false]
 generalize ev P st T x=vx
 generalize ev P st T' y=vy
 unfold appZ
 split
 ·rw[aZn_]
  simp only[mK_,dstK,H,true_and,eq_iff_iff,AppzH,iIB_2]
  constructor
  ·rintro ⟨h1,h2,h3,h4,h5,h6,h7⟩; exact⟨h1,h2,h3,h4,h6,h5,h7⟩
  ·rintro ⟨h1,h2,h3,h4,h6,h5,h7⟩; exact⟨h1,h2,h3,h4,h5,h6,h7⟩
 ·rename_i hx
  unfold appZR
  split
  ·exact absurd rfl (fun e=>hx _ _ _ rfl e)
  ·rfl
theorem bOo_(c:Nat):bO_ st (.val (.own c))=(st.o c).map fun p=>([c],p.1,p.2):=by
 simp only[bO_]; cases st.o c<;>rfl
theorem sOo_2(c:Nat):sO_ st (.val (.own c))=(st.o c).map fun p=>([c],p.1,p.2):=by
 simp only[sO_]; cases st.o c<;>rfl
theorem bOn_(sz:Nat):bO_ st (.val (.pv (.sl true sz [])))=some ([],sz,[]):=rfl
theorem sOn_(sz:Nat):sO_ st (.val (.pv (.sl true sz [])))=some ([],sz,[]):=rfl
theorem sOv_(sz:Nat)(es:List PV):sO_ st (.val (.pv (.sl false sz es)))=some ([],sz,es):=rfl

def SidxH(s:ByteArray)(n:Int)(K:Int→Prop)(_:Tok K):Prop:=(0≤n∧n<s.size)∧K ((s.data.toList.getD n.toNat 0).toNat:Int)
@[congr] theorem SidxH.cg {s s':ByteArray} {n n':Int} {K:Int→Prop} (h:∀ _:Unit,s=s') (h':∀ _:Unit,n=n'):SidxH s n K .mk=SidxH s' n' K .mk:=by rw[h (),h' ()]
theorem SidxH.mk{s:ByteArray}{n v:Int}{K:Int→Prop}(h:sidx s n=some v)(hK:K v):SidxH s n K .mk:=by
 unfold sidx at h
 split at h
 ·cases h; exact⟨by assumption,hK⟩
 ·cases h
@[congr] theorem strIdxK.cg {T:TypeId} {K:SlotV→Prop} {x x' y y':SlotV} (h:∀ _:Unit,x=x') (h':∀ _:Unit,y=y'):strIdxK P T K x y=strIdxK P T K x' y':=by rw[h (),h' ()]
theorem sIK_(T:TypeId)(K:SlotV→Prop)(s:ByteArray)(k:IntKind)(n:Int):strIdxK P T K (.val (.pv (.lit (.string s)))) (.val (.pv (.lit (.int k n))))=(P.underlying T=some .string∧SidxH s n (fun v=>K (.val (.pv (.lit (.int .u8 v))))) .mk):=rfl
def SappH(a b:ByteArray)(K:ByteArray→Prop)(_:Tok K):Prop:=a.size+b.size≤9223372036854775807∧K (a++b)
@[congr] theorem SappH.cg {a a' b b':ByteArray} {K:ByteArray→Prop} (h:∀ _:Unit,a=a') (h':∀ _:Unit,b=b'):SappH a b K .mk=SappH a' b' K .mk:=by rw[h (),h' ()]
theorem SappH.mk{a b c:ByteArray}{K:ByteArray→Prop}(h:sapp a b=some c)(hK:K c):SappH a b K .mk:=by
 unfold sapp at h
 split at h
 ·cases h; exact⟨by assumption,hK⟩
 ·cases h
theorem bKs_8(T:TypeId)(a b:ByteArray)(K:Value→Prop):binK P T .add (.string a) (.string b) K=SappH a b (fun c=>K (.string c)) .mk:=rfl
theorem bKs_1(T:TypeId)(a b:ByteArray)(K:Value→Prop):binK P T .lss (.string a) (.string b) K=K (.bool (Op.bytesLess a.data.toList b.data.toList)):=rfl
theorem bKs_5(T:TypeId)(a b:ByteArray)(K:Value→Prop):binK P T .gtr (.string a) (.string b) K=K (.bool (!(Op.bytesLess a.data.toList b.data.toList||decide (a=b)))):=rfl
theorem bKs_2(T:TypeId)(a b:ByteArray)(K:Value→Prop):binK P T .leq (.string a) (.string b) K=K (.bool (Op.bytesLess a.data.toList b.data.toList||decide (a=b))):=rfl
theorem bKs_6(T:TypeId)(a b:ByteArray)(K:Value→Prop):binK P T .geq (.string a) (.string b) K=K (.bool (!Op.bytesLess a.data.toList b.data.toList)):=rfl
def quoH(a b:Int)(K:Int→Prop)(_:Tok K):Prop:=b≠0∧K (IntKind.i64.wrap (a.tdiv b))
@[congr] theorem quoH.cg {a a' b b':Int} {K:Int→Prop} (h:∀ _:Unit,a=a') (h':∀ _:Unit,b=b'):quoH a b K .mk=quoH a' b' K .mk:=by rw[h (),h' ()]
theorem quoH.mk{a b v:Int}{K:Int→Prop}(h:quo a b=some v)(hK:K v):quoH a b K .mk:=by
 unfold quo at h
 split at h
 ·cases h
 ·cases h; exact⟨by assumption,hK⟩
def remH(a b:Int)(K:Int→Prop)(_:Tok K):Prop:=b≠0∧K (a.tmod b)
@[congr] theorem remH.cg {a a' b b':Int} {K:Int→Prop} (h:∀ _:Unit,a=a') (h':∀ _:Unit,b=b'):remH a b K .mk=remH a' b' K .mk:=by rw[h (),h' ()]
theorem remH.mk{a b v:Int}{K:Int→Prop}(h:rem a b=some v)(hK:K v):remH a b K .mk:=by
 unfold rem at h
 split at h
 ·cases h
 ·cases h; exact⟨by assumption,hK⟩
theorem bKq_(T:TypeId)(a b:Int)(K:Value→Prop):binK P T .quo (.int .i64 a) (.int .i64 b) K=quoH a b (fun v=>K (.int .i64 v)) .mk:=by simp[binK,quoH]
theorem bKr_1(T:TypeId)(a b:Int)(K:Value→Prop):binK P T .rem (.int .i64 a) (.int .i64 b) K=remH a b (fun v=>K (.int .i64 v)) .mk:=by simp[binK,remH]

@[congr] theorem maxK.cg {g:Bool} {K:Value→Prop} {x x' y y':SlotV} (h:∀ _:Unit,x=x') (h':∀ _:Unit,y=y'):maxK g K x y=maxK g K x' y':=by rw[h (),h' ()]
theorem mKm_1(k:IntKind)(a b:Int)(K:Value→Prop):maxK true K (.val (.pv (.lit (.int k a)))) (.val (.pv (.lit (.int k b))))=K (.int k (max a b)):=by
 have:(if b>a then b else a)=max a b:=by split<;>omega
 simp[maxK,this]
theorem mKm_(k:IntKind)(a b:Int)(K:Value→Prop):maxK false K (.val (.pv (.lit (.int k a)))) (.val (.pv (.lit (.int k b))))=K (.int k (min a b)):=by
 have:(if b<a then b else a)=min a b:=by split<;>omega
 simp[maxK,this]
theorem cKm_1(st:St)(d ty:Nat)(op:Op)(pos:String)(af:Array Edge)(gd:Option (Nat×Bool))(x y:Operand)(T T':TypeId)(K:Rec→Prop):
 cK_ P nt st { dst:=some d,op:=op,type:=ty,pos:=pos,after:=af,guard:=gd } { callee:=.builtin .max,args:=⟨[x,y]⟩,argTypes:=⟨[T,T']⟩ } K=
  (d<nt∧maxK true (fun v=>K { rs:=rd x++rd y,us:=[(d,.val (.pv (.lit v)))] }) (ev P st T x) (ev P st T' y)):=rfl
theorem cKm_(st:St)(d ty:Nat)(op:Op)(pos:String)(af:Array Edge)(gd:Option (Nat×Bool))(x y:Operand)(T T':TypeId)(K:Rec→Prop):
 cK_ P nt st { dst:=some d,op:=op,type:=ty,pos:=pos,after:=af,guard:=gd } { callee:=.builtin .min,args:=⟨[x,y]⟩,argTypes:=⟨[T,T']⟩ } K=
  (d<nt∧maxK false (fun v=>K { rs:=rd x++rd y,us:=[(d,.val (.pv (.lit v)))] }) (ev P st T x) (ev P st T' y)):=rfl
def ShH(b:Int)(A:Prop)(_:Tok A):Prop:=0≤b∧A
@[congr] theorem ShH.cg {b b':Int} {A:Prop} (h:∀ _:Unit,b=b'):ShH b A .mk=ShH b' A .mk:=by rw[h ()]
def shr(k:IntKind)(a b:Int):Option Int:=if 0≤b then some (a.fdiv (2 ^ (min b.toNat k.bits))) else none
def shl(k:IntKind)(a b:Int):Option Int:=if 0≤b then some (k.wrap (a*2 ^ (min b.toNat k.bits))) else none
def ShrH(k:IntKind)(a b:Int)(K:Int→Prop)(_:Tok K):Prop:=0≤b∧K (a.fdiv (2 ^ (min b.toNat k.bits)))
@[congr] theorem ShrH.cg {k:IntKind} {a a' b b':Int} {K:Int→Prop} (h:∀ _:Unit,a=a') (h':∀ _:Unit,b=b'):ShrH k a b K .mk=ShrH k a' b' K .mk:=by rw[h (),h' ()]
theorem ShrH.mk{k:IntKind}{a b v:Int}{K:Int→Prop}(h:shr k a b=some v)(hK:K v):ShrH k a b K .mk:=by
 unfold shr at h
 split at h
 ·cases h; exact⟨by assumption,hK⟩
 ·cases h
def ShlH(k:IntKind)(a b:Int)(K:Int→Prop)(_:Tok K):Prop:=0≤b∧K (k.wrap (a*2 ^ (min b.toNat k.bits)))
@[congr] theorem ShlH.cg {k:IntKind} {a a' b b':Int} {K:Int→Prop} (h:∀ _:Unit,a=a') (h':∀ _:Unit,b=b'):ShlH k a b K .mk=ShlH k a' b' K .mk:=by rw[h (),h' ()]
theorem ShlH.mk{k:IntKind}{a b v:Int}{K:Int→Prop}(h:shl k a b=some v)(hK:K v):ShlH k a b K .mk:=by
 unfold shl at h
 split at h
 ·cases h; exact⟨by assumption,hK⟩
 ·cases h
theorem bKs_4(T:TypeId)(k k':IntKind)(a b:Int)(K:Value→Prop):binK P T .shl (.int k a) (.int k' b) K=ShlH k a b (fun v=>K (.int k v)) .mk:=rfl
theorem bKs_3(T:TypeId)(k k':IntKind)(a b:Int)(K:Value→Prop):binK P T .shr (.int k a) (.int k' b) K=ShrH k a b (fun v=>K (.int k v)) .mk:=rfl
def b_(k:IntKind)(a b:Int):Int:=k.wrap (BitVec.ofInt k.bits a&&& BitVec.ofInt k.bits b).toNat
def b_3(k:IntKind)(a b:Int):Int:=k.wrap (BitVec.ofInt k.bits a||| BitVec.ofInt k.bits b).toNat
def b_2(k:IntKind)(a b:Int):Int:=k.wrap (BitVec.ofInt k.bits a ^^^ BitVec.ofInt k.bits b).toNat
theorem bKa_1(T:TypeId)(k:IntKind)(a b:Int)(K:Value→Prop):binK P T .and (.int k a) (.int k b) K=K (.int k (b_ k a b)):=by simp[binK,b_]
theorem bKo_1(T:TypeId)(k:IntKind)(a b:Int)(K:Value→Prop):binK P T .or (.int k a) (.int k b) K=K (.int k (b_3 k a b)):=by simp[binK,b_3]
theorem bKx_(T:TypeId)(k:IntKind)(a b:Int)(K:Value→Prop):binK P T .xor (.int k a) (.int k b) K=K (.int k (b_2 k a b)):=by simp[binK,b_2]

def SlcH(es:List PV)(lo hi:Int)(K:List PV→Prop)(_:Tok K):Prop:=(0≤lo∧lo≤hi∧hi≤es.length)∧K ((es.take hi.toNat).drop lo.toNat)
@[congr] theorem SlcH.cg {es es':List PV} {a a' b b':Int} {K:List PV→Prop} (h:∀ _:Unit,es=es') (h1:∀ _:Unit,a=a') (h2:∀ _:Unit,b=b'):SlcH es a b K .mk=SlcH es' a' b' K .mk:=by rw[h (),h1 (),h2 ()]
theorem SlcH.mk{α:Type}{f:α→PV}{xs ys:List α}{es:List PV}{lo hi:Int}{K:List PV→Prop}(h:slc xs lo hi=some ys)(he:es=xs.map f)(hK:K (ys.map f)):SlcH es lo hi K .mk:=by
 unfold slc at h
 split at h
 ·cases h; subst he
  exact⟨by simpa using ‹_›,by rw[← List.map_take,← List.map_drop]; exact hK⟩
 ·cases h
def SslcH(s:ByteArray)(lo hi:Int)(K:ByteArray→Prop)(_:Tok K):Prop:=(0≤lo∧lo≤hi∧hi≤s.size)∧K (s.extract lo.toNat hi.toNat)
@[congr] theorem SslcH.cg {es es':ByteArray} {a a' b b':Int} {K:ByteArray→Prop} (h:∀ _:Unit,es=es') (h1:∀ _:Unit,a=a') (h2:∀ _:Unit,b=b'):SslcH es a b K .mk=SslcH es' a' b' K .mk:=by rw[h (),h1 (),h2 ()]
theorem SslcH.mk{s t:ByteArray}{lo hi:Int}{K:ByteArray→Prop}(h:sslc s lo hi=some t)(hK:K t):SslcH s lo hi K .mk:=by
 unfold sslc at h
 split at h
 ·cases h; exact⟨by assumption,hK⟩
 ·cases h
def optI(P:Program)(st:St)(dflt:Int)(K:Int→Prop):Option Operand→Prop
 | none=>K dflt
 | some y=>match ev P st 0 y with
  | .val (.pv (.lit (.int _ n)))=>K n
  | _=>False
def natI(K:Int→Prop):SlotV→Prop
 | .val (.pv (.lit (.int _ n)))=>K n
 | _=>False
@[congr] theorem natI.cg {K:Int→Prop} {x x':SlotV} (h:∀ _:Unit,x=x'):natI K x=natI K x':=by rw[h ()]
theorem oIn_(d:Int)(K:Int→Prop):optI P st d K none=K d:=rfl
theorem oIs_(d:Int)(K:Int→Prop)(y:Operand):optI P st d K (some y)=natI K (ev P st 0 y):=by
 simp only[optI,natI]
theorem nIi_1(K:Int→Prop)(k:IntKind)(n:Int):natI K (.val (.pv (.lit (.int k n))))=K n:=rfl
@[congr] theorem sliceK.cg {T:TypeId} {lo hi:Option Operand} {K:SlotV→Prop} {x x':SlotV} (h:∀ _:Unit,x=x'):sliceK P st T lo hi K x=sliceK P st T lo hi K x':=by rw[h ()]
theorem nOi_(sv:SlotV)(K:Nat→Prop):nO_ sv K↔∃ k n,sv=.val (.pv (.lit (.int k n)))∧0≤n∧K n.toNat:=by
 unfold nO_
 split
 ·constructor
  ·intro h; exact⟨_,_,rfl,h⟩
  ·rintro ⟨k,n,h,h1⟩; cases h; exact h1
 ·rename_i hx
  constructor
  ·intro h; exact h.elim
  ·rintro ⟨k,n,h,_⟩; exact(hx k n h).elim
theorem nIi_(sv:SlotV)(K:Int→Prop):natI K sv↔∃ k n,sv=.val (.pv (.lit (.int k n)))∧K n:=by
 unfold natI
 split
 ·constructor
  ·intro h; exact⟨_,_,rfl,h⟩
  ·rintro ⟨k,n,h,h1⟩; cases h; exact h1
 ·rename_i hx
  constructor
  ·intro h; exact h.elim
  ·rintro ⟨k,n,h,_⟩; exact(hx k n h).elim
theorem sKs_1(T:TypeId)(lo hi:Option Operand)(K:SlotV→Prop)(b:Bool)(sz:Nat)(es:List PV):sliceK P st T lo hi K (.val (.pv (.sl b sz es)))=(SlIs P T sz (eB_ P T)∧optI P st 0 (fun l=>optI P st es.length (fun h=>SlcH es l h (fun ys=>K (.val (.pv (.sl false sz ys)))) .mk) hi) lo):=by
 simp only[sliceK,eq_iff_iff]
 refine and_congr_right fun _=>?_
 have key:∀ l h:Int,(0≤l∧0≤h∧l.toNat≤h.toNat∧h.toNat≤es.length∧K (.val (.pv (.sl false sz ((es.take h.toNat).drop l.toNat)))))↔SlcH es l h (fun ys=>K (.val (.pv (.sl false sz ys)))) .mk:=by
  intro l h
  constructor
  ·rintro ⟨h1,h2,h3,h4,h5⟩; exact⟨⟨h1,by omega,by omega⟩,h5⟩
  ·rintro ⟨⟨h1,h2,h3⟩,h5⟩; exact⟨h1,by omega,by omega,by omega,h5⟩
 cases lo with
 | none=>
  cases hi with
  | none=>simp only[oIn_,oN_]; rw[← key]; simp
  | some y=>
   simp only[oIn_,oIs_,oN_,nOi_,nIi_]
   refine exists_congr fun k=>exists_congr fun n=>and_congr_right fun _=>?_
   rw[← key]; simp
 | some x=>
  cases hi with
  | none=>
   simp only[oIn_,oIs_,oN_,nOi_,nIi_]
   refine exists_congr fun k=>exists_congr fun n=>and_congr_right fun _=>?_
   rw[← key]; simp
  | some y=>
   simp only[oIs_,oN_,nOi_,nIi_]
   constructor
   ·rintro ⟨k,n,h,h0,k',n',h',h0',h1⟩; exact⟨k,n,h,k',n',h',(key _ _).1 ⟨h0,h0',h1⟩⟩
   ·rintro ⟨k,n,h,k',n',h',h1⟩
    obtain⟨g1,g2,g3⟩:=(key _ _).2 h1
    exact⟨k,n,h,g1,k',n',h',g2,g3⟩

def MknH(n:Int)(K:Nat→Prop)(_:Tok K):Prop:=(0≤n∧n≤1073741824)∧K n.toNat
@[congr] theorem MknH.cg {n n':Int} {K:Nat→Prop} (h':∀ _:Unit,n=n'):MknH n K .mk=MknH n' K .mk:=by rw[h' ()]
theorem MknH.mk{n:Int}{m:Nat}{K:Nat→Prop}(h:mkn n=some m)(hK:K m):MknH n K .mk:=by
 unfold mkn at h
 split at h
 ·cases h; exact⟨by assumption,hK⟩
 ·cases h

theorem Slr_2{a b:St}(c c':Nat)(hne:c≠c')(hn:a.noC c')(h:(a.ren c c').le b):a.le b:=St.le_trans (Slr_1 hne hn) h
theorem rm_(s:Nat→SlotV)(o:Nat→Option (Nat×List PV))(c c':Nat):St.ren ⟨s,o⟩ c c'=⟨fun k=>(s k).ren c c',upd (upd o c none) c' (o c)⟩:=rfl
end
end
section

section
variable{P:Program}{nt:Nat}{st:St}
def SlcOH(es:List PV)(lo hi:Int)(K:List PV→Prop)(K2:Unit→Prop)(_:Tok K)(_:Tok K2):Prop:=((lo=0∧0≤hi∧hi≤es.length)∧K (es.take hi.toNat))∨((0≤lo∧lo≤hi∧hi≤es.length∧0<es.length)∧K2 ())
@[congr] theorem SlcOH.cg {es es':List PV} {a a' b b':Int} {K:List PV→Prop} {K2:Unit→Prop} (h:∀ _:Unit,es=es') (h1:∀ _:Unit,a=a') (h2:∀ _:Unit,b=b'):SlcOH es a b K K2 .mk .mk=SlcOH es' a' b' K K2 .mk .mk:=by rw[h (),h1 (),h2 ()]
theorem SlcOH.mk{α:Type}{f:α→PV}{xs ys:List α}{es:List PV}{hi:Int}{K:List PV→Prop}{K2:Unit→Prop}(h:slc xs 0 hi=some ys)(he:es=xs.map f)(hK:K (ys.map f)):SlcOH es 0 hi K K2 .mk .mk:=by
 unfold slc at h
 split at h
 ·rename_i g
  cases h; subst he
  refine .inl ⟨⟨rfl,g.2.1,by simpa using g.2.2⟩,?_⟩
  rw[← List.map_take]
  simpa using hK
 ·cases h
def rngN(n:Nat)(lo hi:Int):Option Unit:=if 0≤lo∧lo≤hi∧hi≤n∧0<n then some () else none
theorem SlcOH.sub{α:Type}{f:α→PV}{xs:List α}{es:List PV}{lo hi:Int}{u:Unit}{K:List PV→Prop}{K2:Unit→Prop}(h:rngN xs.length lo hi=some u)(he:es=xs.map f)(hK:K2 ()):SlcOH es lo hi K K2 .mk .mk:=by
 unfold rngN at h
 split at h
 ·rename_i g
  subst he
  exact .inr ⟨⟨g.1,g.2.1,by simpa using g.2.2.1,by simpa using g.2.2.2⟩,hK⟩
 ·cases h
def ArrSlH(P:Program)(T:TypeId)(lo hi:Option Operand)(p:List Nat)(off:Nat)(pure:Bool)(v:PV)(K:Nat→List PV→Prop)(_:Tok K):Prop:=AS_ P T lo hi p off pure v K
@[congr] theorem ArrSlH.cg {T:TypeId} {lo hi:Option Operand} {p:List Nat} {off:Nat} {b b':Bool} {v v':PV} {K:Nat→List PV→Prop} (h:∀ _:Unit,b=b') (h':∀ _:Unit,v=v'):ArrSlH P T lo hi p off b v K .mk=ArrSlH P T lo hi p off b' v' K .mk:=by rw[h (),h' ()]
def slcArr(P:Program)(st:St)(T:TypeId)(d:Nat)(rs:List Nat)(lo hi:Option Operand)(K:Rec→Prop)(r:Nat)(p:List Nat)(off:Nat):SlotV→Prop
 | .box c=>ArrSlH P T lo hi p off c.pure (c.pvw st.o) (fun sz es=>(r==d)=false∧K { rs:=r::rs,ro:=c.names,us:=[(r,.val (.pv (.ptr (.agg es)))),(d,.val (.pv (.sl false sz es)))] }) .mk
 | _=>False
@[congr] theorem slcArr.cg {T d:Nat} {rs:List Nat} {lo hi:Option Operand} {K:Rec→Prop} {r:Nat} {p:List Nat} {off:Nat} {v v':SlotV} (h:∀ _:Unit,v=v'):slcArr P st T d rs lo hi K r p off v=slcArr P st T d rs lo hi K r p off v':=by rw[h ()]
def slcO(P:Program)(nt:Nat)(st:St)(d T:Nat)(rs:List Nat)(lo hi:Option Operand)(K:Rec→Prop):SlotV→Prop
 | .val (.own c)=>objK' (st.o c) fun q=>SlIs P T q.1 (eB_ P T)∧d<nt∧optI P st 0 (fun l=>optI P st q.2.length (fun h=>SlcOH q.2 l h (fun ys=>(∀ n∈(rO_ (.sl true q.1 ys) (16*d)).map (·.1),st.noC n)∧
  K { rs:=rs,ro:=[c],fc:=(rO_ (.sl true q.1 ys) (16*d)).map (·.1),us:=[(d,rS_ (.sl true q.1 ys) (16*d))],uo:=deadObjs [c]++newObjs (rO_ (.sl true q.1 ys) (16*d)) }) (fun _=>K { rs:=rs,ro:=[c],us:=[(d,.fn [c] [] [] (subF q.1 l.toNat h.toNat))] }) .mk .mk) hi) lo
 | .val (.pv (.sl true sz []))=>SlIs P T (eS_ P T) (eB_ P T)∧d<nt∧optI P st 0 (fun l=>optI P st 0 (fun h=>(0=l∧0=h)∧K { rs:=rs,us:=[(d,.val (.pv (.sl true sz [])))] }) hi) lo
 | .bptr r p off=>d<nt∧slcArr P st T d rs lo hi K r p off (st.s r)
 | v=>d<nt∧sliceK P st T lo hi (fun sv=>K { rs:=rs,us:=[(d,sv)] }) v
@[congr] theorem slcO.cg {d T:Nat} {rs:List Nat} {lo hi:Option Operand} {K:Rec→Prop} {v v':SlotV} (h:∀ _:Unit,v=v'):slcO P nt st d T rs lo hi K v=slcO P nt st d T rs lo hi K v':=by rw[h ()]
theorem sOo_3(d T:Nat)(rs:List Nat)(lo hi:Option Operand)(K:Rec→Prop)(c:Nat):slcO P nt st d T rs lo hi K (.val (.own c))=objK' (st.o c) fun q=>SlIs P T q.1 (eB_ P T)∧d<nt∧optI P st 0 (fun l=>optI P st q.2.length (fun h=>SlcOH q.2 l h (fun ys=>(∀ n∈(rO_ (.sl true q.1 ys) (16*d)).map (·.1),st.noC n)∧
 K { rs:=rs,ro:=[c],fc:=(rO_ (.sl true q.1 ys) (16*d)).map (·.1),us:=[(d,rS_ (.sl true q.1 ys) (16*d))],uo:=deadObjs [c]++newObjs (rO_ (.sl true q.1 ys) (16*d)) }) (fun _=>K { rs:=rs,ro:=[c],us:=[(d,.fn [c] [] [] (subF q.1 l.toNat h.toNat))] }) .mk .mk) hi) lo:=rfl
theorem sOs_2(d T:Nat)(rs:List Nat)(lo hi:Option Operand)(K:Rec→Prop)(sz:Nat)(es:List PV):slcO P nt st d T rs lo hi K (.val (.pv (.sl false sz es)))=(d<nt∧sliceK P st T lo hi (fun sv=>K { rs:=rs,us:=[(d,sv)] }) (.val (.pv (.sl false sz es)))):=rfl
theorem sOn_1(d T:Nat)(rs:List Nat)(lo hi:Option Operand)(K:Rec→Prop)(sz:Nat):slcO P nt st d T rs lo hi K (.val (.pv (.sl true sz [])))=(SlIs P T (eS_ P T) (eB_ P T)∧d<nt∧optI P st 0 (fun l=>optI P st 0 (fun h=>(0=l∧0=h)∧K { rs:=rs,us:=[(d,.val (.pv (.sl true sz [])))] }) hi) lo):=rfl
theorem sOs_1(d T:Nat)(rs:List Nat)(lo hi:Option Operand)(K:Rec→Prop)(s:ByteArray):slcO P nt st d T rs lo hi K (.val (.pv (.lit (.string s))))=(d<nt∧sliceK P st T lo hi (fun sv=>K { rs:=rs,us:=[(d,sv)] }) (.val (.pv (.lit (.string s))))):=rfl
theorem oNI_{d:Nat}{K:Nat→Prop}{K':Int→Prop}(h:∀ n:Int,(0≤n∧K n.toNat)↔K' n)(y:Option Operand):oN_ P st d K y↔optI P st d K' y:=by
 cases y with
 | none=>rw[oIn_,← h]; simp[oN_]
 | some y=>
  simp only[oIs_,oN_,nOi_,nIi_]
  exact exists_congr fun k=>exists_congr fun n=>and_congr_right fun _=>h n
theorem rOs_3(d ty T:Nat)(pos:String)(af:Array Edge)(g:Option (Nat×Bool))(K:Rec→Prop)(x:Operand)(lo hi:Option Operand):recO P nt st { dst:=some d,op:=.slice T x lo hi none,type:=ty,pos:=pos,after:=af,guard:=g } K=slcO P nt st d T (rd x++(lo.toList.flatMap rd++hi.toList.flatMap rd)) lo hi K (ev P st 0 x):=by
 show sO_1 P nt st _ T x lo hi K (ev P st 0 x)=_
 generalize ev P st 0 x=v
 unfold sO_1
 split
 ·rename_i c
  rw[sOo_3]
  cases hc:st.o c with
  | none=>rfl
  | some q=>
   obtain⟨sz,es⟩:=q
   simp only[objK',eq_iff_iff]
   refine and_congr_right fun _=>?_
   by_cases hd:d<nt
   ·simp only[mK_,dstK,hd,true_and]
    refine oNI_ (fun l=>?_) lo
    by_cases hl:0≤l
    ·simp only[hl,true_and]
     refine oNI_ (fun h=>?_) hi
     constructor
     ·rintro ⟨g0,⟨g1,g2,g3⟩ | ⟨⟨g1,g2,g3⟩,g4⟩⟩
      ·exact .inl ⟨⟨by omega,g0,by omega⟩,g3⟩
      ·exact .inr ⟨⟨hl,by omega,by omega,g3⟩,g4⟩
     ·rintro (⟨⟨g1,g2,g3⟩,g4⟩ | ⟨⟨_,g2,g3,g4⟩,g5⟩)
      ·exact⟨g2,.inl ⟨by omega,by omega,g4⟩⟩
      ·exact⟨by omega,.inr ⟨⟨by omega,by omega,g4⟩,g5⟩⟩
    ·simp only[hl,false_and,false_iff]
     intro h2
     cases hi with
     | none=>
      rw[oIn_] at h2
      rcases h2 with⟨⟨g1,_⟩,_⟩ | ⟨⟨g1,_⟩,_⟩<;>omega
     | some y=>
      rw[oIs_,nIi_] at h2
      obtain⟨_,_,_,h3⟩:=h2
      rcases h3 with⟨⟨g1,_⟩,_⟩ | ⟨⟨g1,_⟩,_⟩<;>omega
   ·simp only[mK_,dstK,hd,false_and,and_false,or_self,iff_false]
    intro hh
    obtain⟨l,h2,_⟩:=oNo_ hh
    obtain⟨h,h3,_⟩:=oNo_ h2
    exact h3
 ·rename_i sz
  rw[sOn_1]
  refine congrArg _ ?_
  simp only[dstK,eq_iff_iff]
  refine and_congr_right fun _=>?_
  refine oNI_ (fun l=>?_) lo
  constructor
  ·rintro ⟨h0,h1,h2⟩
   refine(oNI_ (fun h=>?_) hi).1 h2
   constructor
   ·rintro ⟨g0,g1,g2⟩; exact⟨⟨by omega,by omega⟩,g2⟩
   ·rintro ⟨⟨_,g0⟩,g2⟩; exact⟨by omega,by omega,g2⟩
  ·intro h2
   have e:l=0:=by
    cases hi with
    | none=>rw[oIn_] at h2; have:=h2.1.1; omega
    | some y=>
     rw[oIs_,nIi_] at h2
     obtain⟨_,_,_,h3⟩:=h2
     have:=h3.1.1; omega
   refine⟨by omega,by omega,(oNI_ (fun h=>?_) hi).2 h2⟩
   constructor
   ·rintro ⟨g0,g1,g2⟩; exact⟨⟨by omega,by omega⟩,g2⟩
   ·rintro ⟨⟨_,g0⟩,g2⟩; exact⟨by omega,by omega,g2⟩
 ·rename_i r p off
  unfold slcO dstK
  simp only
  cases hs:st.s r<;>first | rfl | skip
  simp only[slcArr,ArrSlH,AS_,eq_iff_iff]
  refine and_congr_right fun _=>?_
  constructor
  ·rintro ⟨rfl,rfl,h⟩; exact⟨rfl,rfl,by simpa using h⟩
  ·rintro ⟨rfl,rfl,h⟩; exact⟨rfl,rfl,by simpa using h⟩
 ·rename_i hx hx2 hx3
  unfold slcO
  split
  ·exact absurd rfl (hx _)
  ·exact absurd rfl (hx2 _)
  ·exact absurd rfl (hx3 _ _ _)
  ·rfl
theorem rOs_1(d ty T:Nat)(pos:String)(af:Array Edge)(g:Option (Nat×Bool))(K:Rec→Prop)(x y:Operand):recO P nt st { dst:=some d,op:=.index T x y,type:=ty,pos:=pos,after:=af,guard:=g } K=(d<nt∧strIdxK P T (fun sv=>K { rs:=rd x++rd y,us:=[(d,sv)] }) (ev P st 0 x) (ev P st 0 y)):=rfl
def convJ(a b:Option TypeDesc)(K:SlotV→Prop):SlotV→Prop
 | .val (.pv (.lit (.int _ n)))=>(∃ d,a=some d)∧∃ k,b=some (.int k)∧K (.val (.pv (.lit (.int k (k.wrap n)))))
 | _=>False
@[congr] theorem convJ.cg {a a' b b':Option TypeDesc} {K:SlotV→Prop} {v v':SlotV} (h:∀ _:Unit,a=a') (h1:∀ _:Unit,b=b') (h2:∀ _:Unit,v=v'):convJ a b K v=convJ a' b' K v':=by rw[h (),h1 (),h2 ()]
theorem cJi_(d:TypeDesc)(k k':IntKind)(n:Int)(K:SlotV→Prop):convJ (some d) (some (.int k)) K (.val (.pv (.lit (.int k' n))))=K (.val (.pv (.lit (.int k (k.wrap n))))):=by simp[convJ]
def bstr(xs:List Int):Option ByteArray:=some (bsOf xs)
def BstrH(es:List PV)(K:ByteArray→Prop)(_:Tok K):Prop:=∃ ns:List Int,es=ns.map (fun n=>.lit (.int .u8 n))∧K (bsOf ns)
@[congr] theorem BstrH.cg {es es':List PV} {K:ByteArray→Prop} (h:∀ _:Unit,es=es'):BstrH es K .mk=BstrH es' K .mk:=by rw[h ()]
theorem BstrH.mk{xs:List Int}{es:List PV}{b:ByteArray}{K:ByteArray→Prop}(h:bstr xs=some b)(he:es=xs.map (Ik .u8))(hK:K b):BstrH es K .mk:=by
 cases h; exact⟨xs,he,hK⟩
def convR(P:Program)(nt:Nat)(st:St)(d S T:Nat)(rs:List Nat)(K:Rec→Prop):SlotV→Prop
 | .val (.pv (.lit v))=>d<nt∧convJ (P.underlying S) (P.underlying T) (fun sv=>K { rs:=rs,us:=[(d,sv)] }) (.val (.pv (.lit v)))
 | .val (.own c)=>objK' (st.o c) fun q=>q.1=1∧IB_ P S∧P.underlying T=some .string∧d<nt∧BstrH q.2 (fun b=>K { rs:=rs,ro:=[c],us:=[(d,.val (.pv (.lit (.string b))))] }) .mk
 | v=>bK_1 P S T (fun D ns=>d<nt∧K { rs:=rs,ro:=D,us:=[(d,.val (.pv (.lit (.string (bsOf ns)))))] }) (sO_ st v)
@[congr] theorem convR.cg {d S T:Nat} {rs:List Nat} {K:Rec→Prop} {v v':SlotV} (h:∀ _:Unit,v=v'):convR P nt st d S T rs K v=convR P nt st d S T rs K v':=by rw[h ()]
theorem cRl_(d S T:Nat)(rs:List Nat)(K:Rec→Prop)(v:Value):convR P nt st d S T rs K (.val (.pv (.lit v)))=(d<nt∧convJ (P.underlying S) (P.underlying T) (fun sv=>K { rs:=rs,us:=[(d,sv)] }) (.val (.pv (.lit v)))):=rfl
theorem cRo_(d S T:Nat)(rs:List Nat)(K:Rec→Prop)(c:Nat):convR P nt st d S T rs K (.val (.own c))=objK' (st.o c) fun q=>q.1=1∧IB_ P S∧P.underlying T=some .string∧d<nt∧BstrH q.2 (fun b=>K { rs:=rs,ro:=[c],us:=[(d,.val (.pv (.lit (.string b))))] }) .mk:=rfl
theorem rOc_1(d ty S T:Nat)(pos:String)(af:Array Edge)(g:Option (Nat×Bool))(K:Rec→Prop)(x:Operand):recO P nt st { dst:=some d,op:=.convert S T x,type:=ty,pos:=pos,after:=af,guard:=g } K=convR P nt st d S T (rd x) K (ev P st 0 x):=by
 show cO_2 P nt st _ S T x K (ev P st 0 x)=_
 generalize ev P st 0 x=v
 unfold cO_2
 split
 ·rw[cRl_]
  show(d<nt∧cK_1 P S T _ _)=_
  congr 1
 ·rename_i hx
  unfold convR
  split
  ·exact absurd rfl (hx _)
  ·rename_i c
   simp only[sO_]
   cases hc:st.o c with
   | none=>rfl
   | some q=>
    obtain⟨sz,es⟩:=q
    simp only[objK',bK_1,BstrH,eq_iff_iff]
    refine and_congr_right fun _=>and_congr_right fun _=>and_congr_right fun _=>?_
    show(∃ ns:List Int,_∧(d<nt∧_))↔_
    constructor
    ·rintro ⟨ns,h1,h2,h3⟩; exact⟨h2,ns,h1,h3⟩
    ·rintro ⟨h2,ns,h1,h3⟩; exact⟨ns,h1,h2,h3⟩
  ·rfl
theorem mKe_(K:Int→Int→Prop)(x:SlotV):makeK K x x=natI (fun n=>K n n) x:=by
 by_cases h:∃ k n,x=.val (.pv (.lit (.int k n)))
 ·obtain⟨k,n,rfl⟩:=h; rfl
 ·have h1:¬ natI (fun n=>K n n) x:=by
   rw[nIi_]; rintro ⟨k,n,e,_⟩; exact h ⟨k,n,e⟩
  have h2:¬ makeK K x x:=by
   unfold makeK
   split
   ·exact(h ⟨_,_,rfl⟩).elim
   ·exact id
  simp only[h1,h2]
def makeN(K:Int→Prop)(v:SlotV):Prop:=natI K v
@[congr] theorem makeN.cg {K:Int→Prop} {x x':SlotV} (h:∀ _:Unit,x=x'):makeN K x=makeN K x':=by rw[h ()]
theorem mNi_(K:Int→Prop)(k:IntKind)(n:Int):makeN K (.val (.pv (.lit (.int k n))))=K n:=rfl
theorem rOm_5(d ty T:Nat)(pos:String)(af:Array Edge)(g:Option (Nat×Bool))(K:Rec→Prop)(x:Operand):recO P nt st { dst:=some d,op:=.makeSlice T x x,type:=ty,pos:=pos,after:=af,guard:=g } K=
 makeN (fun n=>SlIs P T (eS_ P T) (eB_ P T)∧ElemZero P T (zel P T)∧(zel P T).size=eS_ P T∧eB_ P T≤65536∧d<nt∧MknH n (fun m=>(∀ c∈(rO_ (.sl true (eS_ P T) (List.replicate m (zel P T))) (16*d)).map (·.1),st.noC c)∧
  K { rs:=rd x++rd x,ro:=[],fc:=(rO_ (.sl true (eS_ P T) (List.replicate m (zel P T))) (16*d)).map (·.1),us:=[(d,rS_ (.sl true (eS_ P T) (List.replicate m (zel P T))) (16*d))],uo:=deadObjs []++newObjs (rO_ (.sl true (eS_ P T) (List.replicate m (zel P T))) (16*d)) }) .mk) (ev P st 0 x):=by
 rw[rOm_7,mKe_,makeN]
 congr 1
 funext n
 simp only[MknH,eq_iff_iff]
 constructor
 ·rintro ⟨h1,h2,h3,h4,h5,h6,h7,h8,h9⟩; exact⟨h1,h2,h3,h7,h8,⟨h4,h6⟩,h9⟩
 ·rintro ⟨h1,h2,h3,h7,h8,⟨h4,h6⟩,h9⟩; exact⟨h1,h2,h3,h4,Int.le_refl _,h6,h7,h8,h9⟩
theorem sKs_(T:TypeId)(lo hi:Option Operand)(K:SlotV→Prop)(s:ByteArray):sliceK P st T lo hi K (.val (.pv (.lit (.string s))))=(P.underlying T=some .string∧optI P st 0 (fun l=>optI P st s.size (fun h=>SslcH s l h (fun t=>K (.val (.pv (.lit (.string t))))) .mk) hi) lo):=by
 simp only[sliceK,eq_iff_iff]
 refine and_congr_right fun _=>?_
 have key:∀ l h:Int,(0≤l∧0≤h∧l.toNat≤h.toNat∧h.toNat≤s.size∧K (.val (.pv (.lit (.string (s.extract l.toNat h.toNat))))))↔SslcH s l h (fun t=>K (.val (.pv (.lit (.string t))))) .mk:=by
  intro l h
  constructor
  ·rintro ⟨h1,h2,h3,h4,h5⟩; exact⟨⟨h1,by omega,by omega⟩,h5⟩
  ·rintro ⟨⟨h1,h2,h3⟩,h5⟩; exact⟨h1,by omega,by omega,by omega,h5⟩
 cases lo with
 | none=>
  cases hi with
  | none=>simp only[oIn_,oN_]; rw[← key]; simp
  | some y=>
   simp only[oIn_,oIs_,oN_,nOi_,nIi_]
   refine exists_congr fun k=>exists_congr fun n=>and_congr_right fun _=>?_
   rw[← key]; simp
 | some x=>
  cases hi with
  | none=>
   simp only[oIn_,oIs_,oN_,nOi_,nIi_]
   refine exists_congr fun k=>exists_congr fun n=>and_congr_right fun _=>?_
   rw[← key]; simp
  | some y=>
   simp only[oIs_,oN_,nOi_,nIi_]
   constructor
   ·rintro ⟨k,n,h,h0,k',n',h',h0',h1⟩; exact⟨k,n,h,k',n',h',(key _ _).1 ⟨h0,h0',h1⟩⟩
   ·rintro ⟨k,n,h,k',n',h',h1⟩
    obtain⟨g1,g2,g3⟩:=(key _ _).2 h1
    exact⟨k,n,h,g1,k',n',h',g2,g3⟩
theorem r0_:List.range 0=[]:=rfl
theorem r1_3:List.range 1=[0]:=rfl
theorem r2_:List.range 2=[0,1]:=rfl
theorem r3_:List.range 3=[0,1,2]:=rfl
theorem r4_:List.range 4=[0,1,2,3]:=rfl
theorem r5_:List.range 5=[0,1,2,3,4]:=rfl
theorem r6_:List.range 6=[0,1,2,3,4,5]:=rfl
theorem r7_:List.range 7=[0,1,2,3,4,5,6]:=rfl
theorem r8_:List.range 8=[0,1,2,3,4,5,6,7]:=rfl
theorem r9_:List.range 9=[0,1,2,3,4,5,6,7,8]:=rfl
theorem r1_2:List.range 10=[0,1,2,3,4,5,6,7,8,9]:=rfl
theorem r1_1:List.range 11=[0,1,2,3,4,5,6,7,8,9,10]:=rfl
theorem r1_:List.range 12=[0,1,2,3,4,5,6,7,8,9,10,11]:=rfl
theorem cKs_(cs:List (Nat×PV))(K:List (Nat×PV)→Prop):capK st K (some cs)=K cs:=rfl
@[congr] theorem capK.cg {K:List (Nat×PV)→Prop} {x x':Option (List (Nat×PV))} (h:∀ _:Unit,x=x'):capK st K x=capK st K x':=by rw[h ()]
theorem rOm_1(d ty:Nat)(pos:String)(af:Array Edge)(g:Option (Nat×Bool))(K:Rec→Prop)(f:FuncId)(cp:List Operand):recO P nt st { dst:=some d,op:=.makeFunc (.func f) ⟨[]⟩ ⟨cp⟩,type:=ty,pos:=pos,after:=af,guard:=g } K=MfH (d<nt∧capK st (fun cs=>((cp.flatMap rd).all fun n=>(bN_ st n).isEmpty)=true∧
 K { rs:=cp.flatMap rd,us:=frozen cs++[(d,.val (.pv (.clo f (cs.map fun c=>.ptr c.2))))] }) (cO_ st cp)) (RO_ P nt st { dst:=some d,op:=.makeFunc (.func f) ⟨[]⟩ ⟨cp⟩,type:=ty,pos:=pos,after:=af,guard:=g } K) .mk .mk:=by
 simp[recO,dstK,MfH]
theorem rOm_2(d ty T:Nat)(pos:String)(af:Array Edge)(g:Option (Nat×Bool))(K:Rec→Prop)(r:Option Operand):recO P nt st { dst:=some d,op:=.makeMap T r,type:=ty,pos:=pos,after:=af,guard:=g } K=HandH (RO_ P nt st { dst:=some d,op:=.makeMap T r,type:=ty,pos:=pos,after:=af,guard:=g } K) .mk:=rfl
theorem rOl_1(d ty T:Nat)(pos:String)(af:Array Edge)(g:Option (Nat×Bool))(K:Rec→Prop)(x y:Operand)(ok:Bool):recO P nt st { dst:=some d,op:=.lookup T x y ok,type:=ty,pos:=pos,after:=af,guard:=g } K=HandH (RO_ P nt st { dst:=some d,op:=.lookup T x y ok,type:=ty,pos:=pos,after:=af,guard:=g } K) .mk:=rfl
theorem rOm_(ty T:Nat)(pos:String)(af:Array Edge)(g:Option (Nat×Bool))(K:Rec→Prop)(x y z:Operand):recO P nt st { dst:=none,op:=.mapUpdate T x y z,type:=ty,pos:=pos,after:=af,guard:=g } K=HandH (RO_ P nt st { dst:=none,op:=.mapUpdate T x y z,type:=ty,pos:=pos,after:=af,guard:=g } K) .mk:=rfl
theorem rOi_(ty T:Nat)(pos:String)(af:Array Edge)(g:Option (Nat×Bool))(K:Rec→Prop)(x y z:Operand):recO P nt st { dst:=none,op:=.insert T x y z,type:=ty,pos:=pos,after:=af,guard:=g } K=HandH (RO_ P nt st { dst:=none,op:=.insert T x y z,type:=ty,pos:=pos,after:=af,guard:=g } K) .mk:=rfl
theorem rOn_1(d ty:Nat)(pos:String)(af:Array Edge)(g:Option (Nat×Bool))(K:Rec→Prop)(x:Operand):recO P nt st { dst:=some d,op:=.nilCheck x,type:=ty,pos:=pos,after:=af,guard:=g } K=(d<nt∧nCK_ (ev P st 0 x) (K { rs:=rd x,us:=[(d,ev P st 0 x)] })):=rfl
theorem nCK_3(r:Nat)(p:List Nat)(q:Nat)(K:Prop):nCK_ (.bptr r p q) K=K:=rfl
theorem nCK_2(c sz i:Nat)(p:List Nat)(q:Nat)(K:Prop):nCK_ (.eptr c sz i p q) K=K:=rfl
theorem nCK_1(v:PV)(K:Prop):nCK_ (.val (.pv (.ptr v))) K=K:=rfl
theorem rOr_(d ty T:Nat)(pos:String)(af:Array Edge)(g:Option (Nat×Bool))(K:Rec→Prop)(x:Operand):recO P nt st { dst:=some d,op:=.range T x,type:=ty,pos:=pos,after:=af,guard:=g } K=HandH (RO_ P nt st { dst:=some d,op:=.range T x,type:=ty,pos:=pos,after:=af,guard:=g } K) .mk:=rfl
theorem rOe_1(d ty:Nat)(pos:String)(af:Array Edge)(g:Option (Nat×Bool))(K:Rec→Prop)(x:Operand):recO P nt st { dst:=some d,op:=.entry x,type:=ty,pos:=pos,after:=af,guard:=g } K=HandH (RO_ P nt st { dst:=some d,op:=.entry x,type:=ty,pos:=pos,after:=af,guard:=g } K) .mk:=rfl
theorem cKd_(o:Oper)(x y:Operand)(T T':TypeId)(K:Rec→Prop):cK_ P nt st o { callee:=.builtin .delete,args:=#[x,y],argTypes:=#[T,T'] } K=HandH (RO_ P nt st o K) .mk:=rfl
def capV(st:St)(r:Nat):SlotV→Option (Nat×PV)
 | .box x=>if x.pure then some (r,x.pvw st.o) else none
 | .val (.pv (.ptr v))=>some (r,v)
 | _=>none
theorem cOV_(r:Nat):cO_1 st (.tmp r)=capV st r (st.s r):=by
 show(match st.s r with | .box x=>if x.pure then some (r,x.pvw st.o) else none | .val (.pv (.ptr v))=>some (r,v) | _=>none)=_
 unfold capV
 generalize st.s r=v
 cases v with
 | val x=>cases x with
  | pv p=>cases p<;>rfl
  | _=>rfl
 | _=>rfl
theorem cVb_(r:Nat)(x:CV):capV st r (.box x)=if x.pure then some (r,x.pvw st.o) else none:=rfl
theorem cVp_(r:Nat)(v:PV):capV st r (.val (.pv (.ptr v)))=some (r,v):=rfl
def cO_4{α:Type}:Option α→Option (List α)→Option (List α)
 | some a,some l=>some (a::l)
 | _,_=>none
theorem cOn_:cO_ st []=some []:=rfl
theorem cOc_(x:Operand)(xs:List Operand):cO_ st (x::xs)=cO_4 (cO_1 st x) (cO_ st xs):=by
 rw[cO_]
 generalize cO_1 st x=a
 generalize cO_ st xs=b
 cases a<;>cases b<;>rfl
theorem cOs_{α:Type}(a:α)(l:List α):cO_4 (some a) (some l)=some (a::l):=rfl
def boxN:SlotV→List Nat
 | .box x=>x.names
 | _=>[]
theorem bNN_(n:Nat):bN_ st n=boxN (st.s n):=by
 unfold bN_ boxN
 generalize st.s n=v
 cases v<;>rfl
theorem bNb_(x:CV):boxN (.box x)=x.names:=rfl
theorem bNv_(x:CV):boxN (.val x)=[]:=rfl
end
set_option maxRecDepth 10000
def RA:=ae @wDc_<|ae @wDn_<|ae @sGn_<|ae @sGs_1<|ae @sGs_<|ae @ge_1<|ae @rOm_6<|ae @rOm_4<|ae @rOm_3<|ae @rOa_1<|ae @rOp_<|ae @rOa_2<|ae @rOb_2<|ae @rOl_2<|ae @rOs_2<|ae @rOb_3<|ae @rOu_<|ae @rOe_<|ae @rOf_<|ae @rOc_2<|ae @rOi_1<|ae @rOb_<|ae @rOb_1<|ae @bKn_1<|ae @bPn_<|ae @bPc_<|ae @bKn_6<|ae @bKc_<|ae @bKl_<|ae @bKa_2<|ae @bKs_9<|ae @bKm_1<|ae @bKe_<|ae @bKn_7<|ae @bKl_1<|ae @bKl_2<|ae @bKg_<|ae @bKg_1<|ae @bKs_7<|ae @bKs_<|ae @bKb_1<|ae @bKb_<|ae @uKn_<|ae @uKn_1<|ae @pKb_<|ae @eKt_<|ae @bKv_<|ae @cKc_1<|ae @gKt_<|ae @gKf_<|ae @gKu_<|ae @bOb_<|ae @Ct_<|ae @Cf_<|ae @Cn_<|ae @aFb_<|ae @aFe_<|ae @aFp_<|ae @lKb_<|ae @lBb_<|ae @lKp_<|ae @oKs_1<|ae @oKs_<|ae @lKs_<|ae @lKs_1<|ae @lKo_1<|ae @sKb_<|ae @sBb_<|ae @cKl_<|ae @cWc_<|ae @cWn_<|ae @uh_<|ae @um_<|ae @et_<|ae @ef_2<|ae @ei_<|ae @eb_1<|ae @es_<|ae @en_3<|ae @pOb_1<|ae @pOv_<|ae @pOt_<|ae @pOb_<|ae @pOe_<|ae @am_<|ae @sKn_<|ae @sKr_<|ae @sKe_1<|ae @bKn_<|ae @bKr_<|ae @iKs_<|ae @iKo_<|ae @lKe_<|ae @sKe_<|ae @cKv_<|ae @cKa_<|ae @aWs_<|ae @sIK_<|ae @bKs_8<|ae @bKs_1<|ae @bKs_5<|ae @bKs_2<|ae @bKs_6<|ae @bKq_<|ae @bKr_1<|ae @sKs_1<|ae @sKs_<|ae @oIn_<|ae @oIs_<|ae @nIi_1<|ae @rOs_3<|ae @sOo_3<|ae @sOn_1<|ae @sOs_2<|ae @sOs_1<|ae @rOs_1<|ae @rOc_1<|ae @cRl_<|ae @cRo_<|ae @cJi_<|ae @rOm_5<|ae @mNi_<|ae @rOm_1<|ae @cKs_<|ae @mSh_<|ae @mSm_<|ae @mSn_<|ae @mOh_<|ae @mOm_<|ae @mOn_<|ae @Ms_1<|ae @Ms_<|ae @Me_1<|ae @Mr_<|ae @Mb_<|ae @Mr_1<|ae @Md_<|ae @Mc_<|ae @Mn_2<|ae @Mn_<|ae @Mn_1<|ae @MnH_<|ae @Mx_<|ae @Mx_3<|ae @Mx_2<|ae @Mx_1<|ae @Mr_3<|ae @Mr_2<|ae @bKs_4<|ae @bKs_3<|ae @bKa_1<|ae @bKo_1<|ae @bKx_<|ae @mKm_1<|ae @mKm_<|ae @cKm_1<|ae @cKm_<|ae @pOe_1<|ae @bKa_<|ae @bKn_4<|ae @bKn_5<|ae @aKe_<|ae @aKn_<|ae @nKe_<|ae @nKn_<|ae @cKc_2<|ae @cNn_<|ae @cKa_1<|ae @aZn_<|ae @OHc_<|ae @OHf_<|ae @cKh_<|ae @pOh_1<|ae @pOh_<|ae @aCh_<|ae @aCb_<|ae @rOm_2<|ae @rOl_1<|ae @rOm_<|ae @rOi_<|ae @rOn_1<|ae @nCK_3<|ae @nCK_2<|ae @nCK_1<|ae @rOr_<|ae @rOe_1<|@cKd_
def RB:=ae @ORt_<|ae @List.getElem?_toArray.{0}<|ae @List.getElem?_cons_succ.{0}<|ae @List.getElem?_cons_zero.{0}<|ae @Option.bind_some.{0,0}<|ae @uAn_2<|ae @uAc_1<|ae @aSe_<|ae @en_1<|ae @ec_1<|ae @el_1<|ae @ev_<|ae @eo_3<|ae @ec_2<|ae @uLn_<|ae @uLc_<|ae @newObjs.eq_1<|ae @deadObjs.eq_1<|ae @List.append_nil.{0}<|ae @List.nil_append.{0}<|ae @List.cons_append.{0}<|ae @List.map_nil.{0,0}<|ae @List.map_cons.{0,0}<|ae @true_and<|ae @and_true<|ae @Bool.not_true<|ae @Bool.not_false<|ae @CV.okp.eq_1<|ae @CV.okp.eq_2<|ae @CV.offs.eq_1<|ae @CV.offs.eq_2<|ae @CV.at.eq_1<|ae @CV.at.eq_2<|ae @pn_1<|ae @pa_<|ae @ea_<|ae @PV.noOwns.eq_1<|ae @PV.noOwns.eq_2<|ae @nOl_<|ae @nOs_<|ae @nOa_<|ae @nOc_<|ae @nOp_<|ae @CV.setAt.eq_1<|ae @CV.setAt.eq_2<|ae @iAn_<|ae @iAo_<|ae @iAa_<|ae @iAl_<|ae @iAs_<|ae @iAc_<|ae @iAp_<|ae @CV.size.eq_1<|ae @CV.size.eq_2<|ae @CV.size.eq_3<|ae @CV.size.eq_4<|ae @CV.sizes.eq_1<|ae @CV.sizes.eq_2<|ae @sl_7<|ae @ss_2<|ae @sc_2<|ae @sp_1<|ae @sa_1<|ae @PV.sizes.eq_1<|ae @PV.sizes.eq_2<|ae @nGp_<|ae @nGo_<|ae @nGn_<|ae @argCVs.eq_1<|ae @argCVs.eq_2<|ae @aCv_<|ae @partFs.eq_1<|ae @partFs.eq_2<|ae @partCVs.eq_1<|ae @partCVs.eq_2<|ae @setParts.eq_1<|ae @setParts.eq_2<|ae @CV.wholes.eq_1<|ae @CV.wholes.eq_2<|ae @CV.whole.eq_1<|ae @CV.whole.eq_2<|ae @CV.whole.eq_3<|ae @CV.whole.eq_4<|ae @CV.pvos.eq_1<|ae @CV.pvos.eq_2<|ae @CV.pvo.eq_1<|ae @CV.pvo.eq_2<|ae @CV.pvo.eq_3<|ae @CV.pvo.eq_4<|ae @CV.pvws.eq_1<|ae @CV.pvws.eq_2<|ae @CV.pvw.eq_1<|ae @CV.pvw.eq_2<|ae @CV.pvw.eq_3<|ae @CV.pvw.eq_4<|ae @CV.names.eq_1<|ae @CV.names.eq_2<|ae @CV.names.eq_3<|ae @CV.names.eq_4<|ae @CV.namess.eq_1<|ae @CV.namess.eq_2<|ae @mixNames.eq_1<|ae @mixNames.eq_2<|ae @mixPure.eq_1<|ae @mixPure.eq_2<|ae @viewNames.eq_1<|ae @viewNames.eq_2<|ae @List.getD_cons_zero.{0}<|ae @List.getD_cons_succ.{0}<|ae @List.set_cons_zero.{0}<|ae @List.set_cons_succ.{0}<|ae @List.take_zero.{0}<|ae @List.take_succ_cons.{0}<|ae @List.length_cons.{0}<|ae @List.length_nil.{0}<|ae @List.headD_cons.{0}<|ae @List.tail_cons.{0}<|ae @List.headD_nil.{0}<|ae @List.tail_nil.{0}<|ae @rd.eq_1<|ae @rd.eq_2<|ae @Option.map_some.{0,0}<|ae @Option.getD_some.{0}<|ae @List.not_mem_nil.{0}<|ae @false_implies<|ae @List.forall_mem_cons.{0}<|ae @vl_<|ae @vs_<|ae @va_<|ae @vc_<|ae @vp_3<|ae @PV.views.eq_1<|ae @PV.views.eq_2<|ae @Bool.true_or<|ae @Bool.or_true<|ae @PV.noView.eq_1<|ae @PV.noView.eq_2<|ae @PV.noView.eq_3<|ae @PV.noView.eq_4<|ae @PV.noView.eq_5<|ae @PV.noView.eq_6<|ae @PV.noViews.eq_1<|ae @PV.noViews.eq_2<|ae @List.nodup_nil.{0}<|ae @List.nodup_cons.{0}<|ae @rSl_<|ae @rOl_<|ae @rSs_1<|ae @rOs_<|ae @rSa_<|ae @rOa_<|ae @rSt_<|ae @rOt_<|ae @PV.at.eq_1<|ae @PV.at.eq_2<|ae @PV.at.eq_3<|ae @PV.offs.eq_1<|ae @PV.offs.eq_2<|ae @PV.offs.eq_3<|ae @PV.okp.eq_1<|ae @PV.okp.eq_2<|ae @PV.okp.eq_3<|ae @PV.setAt.eq_1<|ae @PV.setAt.eq_2<|ae @PV.setAt.eq_3<|ae @Option.isSome_some.{0}<|ae @List.mem_cons.{0}<|ae @or_false<|ae @or_self<|ae @not_false_eq_true<|ae @Option.some.injEq.{0}<|ae @Prod.mk.injEq.{0,0}<|ae @List.length_map.{0,0}<|ae @forall_eq.{1}<|ae @forall_eq_or_imp.{1}<|ae @beq_self_eq_true.{0}<|ae @CV.ren.eq_1<|ae @CV.ren.eq_2<|ae @CV.ren.eq_3<|ae @CV.ren.eq_4<|ae @CV.rens.eq_1<|ae @CV.rens.eq_2<|ae @SlotV.ren.eq_1<|ae @SlotV.ren.eq_2<|ae @SlotV.ren.eq_3<|ae @SlotV.ren.eq_4<|ae @SlotV.ren.eq_5<|ae @SlotV.ren.eq_6<|ae @SlotV.ren.eq_7<|ae @SlotV.ren.eq_8<|ae @SlotV.ren.eq_9<|ae @SlotV.ren.eq_10<|ae @decide_true<|ae @decide_false<|ae @Nat.zero_lt_one<|ae @Nat.zero_lt_succ<|ae @Bool.false_eq_true<|ae @Bool.false_or<|ae @Bool.or_false<|ae @CV.pure.eq_1<|ae @CV.pure.eq_2<|ae @CV.pure.eq_3<|ae @CV.pure.eq_4<|ae @CV.pures.eq_1<|ae @CV.pures.eq_2<|ae @Bool.false_and<|ae @Bool.and_false<|ae @List.contains_nil.{0}<|ae @List.all_nil.{0}<|ae @List.all_cons.{0}<|ae @Bool.true_and<|ae @Bool.and_true<|ae @SlotV.val.injEq<|ae @CV.pv.injEq<|ae @PV.lit.injEq<|ae @Value.int.injEq<|ae @Value.bool.injEq<|ae @Value.string.injEq<|ae @Int.toNat_natCast<|ae @Int.le_refl<|ae @LeL.eq_1<|ae @LeL.eq_2<|ae @LeP.eq_1<|ae @LeP.eq_2<|ae @mix.eq_1<|ae @mix.eq_2<|ae @RetL.eq_1<|ae @RetR.eq_1<|ae @frozen.eq_1<|ae @COn_<|ae @COc_<|ae @bOo_<|ae @sOo_2<|ae @bOn_<|ae @sOn_<|ae @sOv_<|ae @Lv_u<|ae @vI_<|ae @vI_1<|ae @vB_<|ae @vS_<|ae @nVI_<|ae @nVI_1<|ae @nVB_<|ae @nVS_<|ae @vLI_<|ae @vLS_<|ae @nVL_1<|ae @nVL_<|ae @ep_<|ae @c_2<|ae @c_1<|ae @c_<|ae @iT_<|ae @rm_<|ae @List.map_append.{0,0}<|ae @List.map_set.{0,0}<|ae @List.map_replicate.{0,0}<|ae @List.map_take.{0,0}<|ae @List.map_drop.{0,0}<|ae @List.isEmpty_nil.{0}<|ae @List.flatMap_cons.{0,0}<|ae @List.flatMap_nil.{0,0}<|ae @Array.isEmpty_iff.{0}<|ae @kOn_<|ae @kOc_<|ae @kOi_<|ae @kOb_<|ae @kOs_<|ae @ePs_2<|ae @ePs_1<|ae @ePi_<|ae @ePb_<|ae @ePs_3<|ae @List.length_append.{0}<|ae @List.length_replicate.{0}<|ae @List.length_set.{0}<|ae @rCs_3<|ae @rCs_2<|ae @cCb_<|ae @rCs_1<|ae @rOn_<|ae @rOt_1<|ae @cOb_<|ae @rOc_<|ae @aRo_<|ae @aRt_<|ae @r0_<|ae @r1_3<|ae @r2_<|ae @r3_<|ae @r4_<|ae @r5_<|ae @r6_<|ae @r7_<|ae @r8_<|ae @r9_<|ae @r1_2<|ae @r1_1<|ae @r1_<|ae @cOV_<|ae @cVb_<|ae @cVp_<|ae @cOn_<|ae @cOc_<|ae @cOs_<|ae @bNN_<|ae @bNb_<|@bNv_
attribute [push_cast] ORt_ List.getElem?_toArray List.getElem?_cons_succ List.getElem?_cons_zero ah uAn_2 uAc_1 aSe_ en_1 ec_1 el_1 ev_ eo_3 ec_2 uLn_ uLc_ newObjs.eq_1 deadObjs.eq_1 List.append_nil List.nil_append List.cons_append List.map_nil aD true_and and_true Bool.not_true Bool.not_false CV.okp.eq_1 CV.okp.eq_2 CV.offs.eq_1 CV.offs.eq_2 CV.at.eq_1 CV.at.eq_2 pn_1 pa_ ea_ PV.noOwns.eq_1 PV.noOwns.eq_2 nOl_ nOs_ nOa_ nOc_ nOp_ CV.setAt.eq_1 CV.setAt.eq_2 iAn_ iAo_ iAa_ iAl_ iAs_ iAc_ iAp_ CV.size.eq_1 CV.size.eq_2 CV.size.eq_3 CV.size.eq_4 CV.sizes.eq_1 CV.sizes.eq_2 sl_7 ss_2 sc_2 sp_1 sa_1 PV.sizes.eq_1 PV.sizes.eq_2 nGp_ nGo_ nGn_ argCVs.eq_1 argCVs.eq_2 aCv_ partFs.eq_1 partFs.eq_2 partCVs.eq_1 partCVs.eq_2 setParts.eq_1 setParts.eq_2 CV.wholes.eq_1 CV.wholes.eq_2 CV.whole.eq_1 CV.whole.eq_2 CV.whole.eq_3 CV.whole.eq_4 CV.pvos.eq_1 CV.pvos.eq_2 CV.pvo.eq_1 CV.pvo.eq_2 CV.pvo.eq_3 CV.pvo.eq_4 CV.pvws.eq_1 CV.pvws.eq_2 CV.pvw.eq_1 CV.pvw.eq_2 CV.pvw.eq_3 CV.pvw.eq_4 CV.names.eq_1 CV.names.eq_2 CV.names.eq_3 CV.names.eq_4 CV.namess.eq_1 CV.namess.eq_2 mixNames.eq_1 mixNames.eq_2 mixPure.eq_1 mixPure.eq_2 viewNames.eq_1 viewNames.eq_2 List.getD_cons_zero List.getD_cons_succ List.set_cons_zero List.set_cons_succ List.take_zero List.take_succ_cons aA List.length_nil List.headD_cons List.tail_cons List.headD_nil List.tail_nil rd.eq_1 rd.eq_2 Option.map_some Option.getD_some List.not_mem_nil false_implies List.forall_mem_cons vl_ vs_ va_ vc_ vp_3 PV.views.eq_1 PV.views.eq_2 Bool.true_or Bool.or_true PV.noView.eq_1 PV.noView.eq_2 PV.noView.eq_3 PV.noView.eq_4 PV.noView.eq_5 PV.noView.eq_6 PV.noViews.eq_1 PV.noViews.eq_2 List.nodup_nil List.nodup_cons rSl_ rOl_ rSs_1 rOs_ rSa_ rOa_ rSt_ rOt_ PV.at.eq_1 PV.at.eq_2 PV.at.eq_3 PV.offs.eq_1 PV.offs.eq_2 PV.offs.eq_3 PV.okp.eq_1 PV.okp.eq_2 PV.okp.eq_3 PV.setAt.eq_1 PV.setAt.eq_2 PV.setAt.eq_3 Option.isSome_some List.mem_cons or_false or_self not_false_eq_true Option.some.injEq Prod.mk.injEq List.length_map forall_eq forall_eq_or_imp beq_self_eq_true CV.ren.eq_1 CV.ren.eq_2 CV.ren.eq_3 CV.ren.eq_4 CV.rens.eq_1 CV.rens.eq_2 SlotV.ren.eq_1 SlotV.ren.eq_2 SlotV.ren.eq_3 SlotV.ren.eq_4 SlotV.ren.eq_5 SlotV.ren.eq_6 SlotV.ren.eq_7 SlotV.ren.eq_8 SlotV.ren.eq_9 SlotV.ren.eq_10 decide_true decide_false Nat.zero_lt_one Nat.zero_lt_succ Bool.false_eq_true Bool.false_or Bool.or_false CV.pure.eq_1 CV.pure.eq_2 CV.pure.eq_3 CV.pure.eq_4 CV.pures.eq_1 CV.pures.eq_2 Bool.false_and Bool.and_false List.contains_nil List.all_nil List.all_cons Bool.true_and Bool.and_true SlotV.val.injEq CV.pv.injEq PV.lit.injEq Value.int.injEq Value.bool.injEq Value.string.injEq Int.toNat_natCast Int.le_refl LeL.eq_1 LeL.eq_2 LeP.eq_1 LeP.eq_2 mix.eq_1 mix.eq_2 RetL.eq_1 RetR.eq_1 frozen.eq_1 COn_ COc_ bOo_ sOo_2 bOn_ sOn_ sOv_ Lv_u vI_ vI_1 vB_ vS_ nVI_ nVI_1 nVB_ nVS_ vLI_ vLS_ nVL_1 nVL_ ep_ c_2 c_1 c_ iT_ rm_ List.map_append List.map_set List.map_replicate List.map_take List.map_drop List.isEmpty_nil List.flatMap_cons List.flatMap_nil Array.isEmpty_iff kOn_ kOc_ kOi_ kOb_ kOs_ ePs_2 ePs_1 ePi_ ePb_ ePs_3 List.length_append List.length_replicate List.length_set rCs_3 rCs_2 cCb_ rCs_1 rOn_ rOt_1 cOb_ rOc_ aRo_ aRt_ r0_ r1_3 r2_ r3_ r4_ r5_ r6_ r7_ r8_ r9_ r1_2 r1_1 r1_ cOV_ cVb_ cVp_ cOn_ cOc_ cOs_ bNN_ bNb_ bNv_
end
section
variable{P:Program}{nt:Nat}{F:St→Prop}{n:Nat}{st:St}{k:List Fr}
theorem sa_2{N:Nat→Prop}{w:World}{G:Gh}{j:Nat}{v:Value}{x:CV}(h:SlotOk N w G j v (.box x)∨SlotOk N w G j v (.val x))(p:List Nat)(hp:x.okp p=true):∃ cs,RepCV N w G.hd (x.at p) cs:=by
 have key:∀ cs,RepCV N w G.hd x cs→∃ cs,RepCV N w G.hd (x.at p) cs:=by
  intro cs h
  obtain⟨c1,c2,c3,_,_,h3,_⟩:=RepCV.path p x cs hp h
  exact⟨c2,h3⟩
 rcases h with⟨_,cs,e,_,h⟩ | ⟨_,cs,_,h⟩ | ⟨_,h,_⟩
 ·exact key cs h
 ·exact key cs h
 ·exact key _ h
theorem Vka_{c:Code}{Q:Exit→St→Prop}{b:Bool}{sz:Nat}{es:List PV}{x:CV}(j:Nat)(p:List Nat)(hk:st.s j=.box x∨st.s j=.val x)(hp:x.okp p=true)(ha:x.at p=.pv (.sl b sz es))(h:es.length≤maxLen→VC P nt c st Q):VC P nt c st Q:=by
 intro κ a w hnt hR
 refine h ?_ κ a w hnt hR
 obtain⟨G,hG⟩:=hR
 have h1:=hG.slots j
 have h2:∃ cs,RepCV (Nof κ st G w) w G.hd (x.at p) cs:=by
  rcases hk with hk | hk<;>rw[hk] at h1
  ·exact sa_2 (.inl h1) p hp
  ·exact sa_2 (.inr h1) p hp
 obtain⟨cs,h2⟩:=h2
 rw[ha] at h2
 simp only[RepCV] at h2
 cases b with
 | false=>simp only[RepC] at h2; obtain⟨a,cap,h1,h2,h3,h4,h5⟩:=h2; omega
 | true=>
  simp only[RepC] at h2
  rcases h2 with⟨_,rfl,_⟩ | ⟨b,cap,c,e,F',ccs,h1,h2,h3,_⟩
  ·simp
  ·omega
theorem Mkb_1{c:Code}{b:Bool}{sz:Nat}{es:List PV}{x:CV}(j:Nat)(p:List Nat)(hk:st.s j=.box x)(hp:x.okp p=true)(ha:x.at p=.pv (.sl b sz es))(h:es.length≤9223372036854775807→Mg P nt F (n+1) (.code (.loop c)) st k):Mg P nt F (n+1) (.code (.loop c)) st k:=
 Vka_ (Q:=popQ P nt F k) j p (.inl hk) hp ha (fun g=>h (Nat.le_trans g (by decide)))
theorem Mkv_1{c:Code}{b:Bool}{sz:Nat}{es:List PV}{x:CV}(j:Nat)(p:List Nat)(hk:st.s j=.val x)(hp:x.okp p=true)(ha:x.at p=.pv (.sl b sz es))(h:es.length≤9223372036854775807→Mg P nt F (n+1) (.code (.loop c)) st k):Mg P nt F (n+1) (.code (.loop c)) st k:=
 Vka_ (Q:=popQ P nt F k) j p (.inr hk) hp ha (fun g=>h (Nat.le_trans g (by decide)))

theorem Mkb_{c:Code}{b:Bool}{sz:Nat}{es:List PV}{x:CV}(j:Nat)(p:List Nat)(hk:st.s j=.box x∧x.okp p=true∧x.at p=.pv (.sl b sz es))(h:es.length≤9223372036854775807→Mg P nt F (n+1) (.code (.loop c)) st k):Mg P nt F (n+1) (.code (.loop c)) st k:=Mkb_1 j p hk.1 hk.2.1 hk.2.2 h
theorem Mkv_{c:Code}{b:Bool}{sz:Nat}{es:List PV}{x:CV}(j:Nat)(p:List Nat)(hk:st.s j=.val x∧x.okp p=true∧x.at p=.pv (.sl b sz es))(h:es.length≤9223372036854775807→Mg P nt F (n+1) (.code (.loop c)) st k):Mg P nt F (n+1) (.code (.loop c)) st k:=Mkv_1 j p hk.1 hk.2.1 hk.2.2 h

theorem Sls_(j:Nat)(v':SlotV)(hb:iB_ v'=iB_ (st.s j))(h:∀ N w G v,SlotOk N w G j v (st.s j)→SlotOk N w G j v v'):st.le ⟨upd st.s j v',st.o⟩:=by
 rintro κ a w ⟨G,hG⟩
 have hbx:∀ r,iB_ ((⟨upd st.s j v',st.o⟩:St).s r)=iB_ (st.s r):=by
  intro r
  simp only[upd]
  split
  ·rename_i e; subst e; exact hb
  ·rfl
 have hP:∀ b,Nof κ st G w b→Nof κ ⟨upd st.s j v',st.o⟩ G w b:=by
  intro b hb
  refine⟨hb.1,fun hp=>hb.2 ?_⟩
  rcases hp with⟨r,h1,h2⟩ | ⟨c,p,h1,h2⟩
  ·exact .inl ⟨r,by rw[← hbx]; exact h1,h2⟩
  ·exact .inr ⟨c,p,h1,h2⟩
 refine⟨G,hG.keep,hG.defers,hG.nt,?_,?_,fun r hr=>hG.boxes r (by rw[← hbx]; exact hr),fun r r' h1 h2=>hG.bb r r' (by rw[← hbx]; exact h1) (by rw[← hbx]; exact h2),fun r c p h1 h2=>hG.bo r c p (by rw[← hbx]; exact h1) h2,hG.oo,hG.held⟩
 ·intro i
  have h1:=(hG.slots i).frame hP (fun _ _=>rfl) (fun _ _=>rfl) (fun _ _=>rfl) (fun _=>⟨rfl,rfl⟩)
  simp only[upd]
  split
  ·rename_i e; subst e; exact h _ _ _ _ h1
  ·exact h1
 ·intro c sz es hc
  obtain⟨h1,h2,h3⟩:=hG.objs c sz es hc
  exact⟨RepC.frame hP (fun _ _=>rfl) _ _ _ (fun _ _=>rfl) h1,h2,h3⟩

theorem Sln_1(j c sz:Nat)(v':SlotV)(hn:st.noC c)(hb:iB_ v'=iB_ (st.s j))(h:∀ N w G v,G.hd c=.slice none 0 0→SlotOk N w G j v (st.s j)→SlotOk N w G j v v'):st.le ⟨upd st.s j v',upd st.o c (some (sz,[]))⟩:=by
 rintro κ a w ⟨G,hG⟩
 let G':Gh:={ hd:=upd G.hd c (.slice none 0 0),fp:=upd G.fp c [],ad:=G.ad }
 have g1:G'.hd c=.slice none 0 0:=by simp[G',upd]
 have g2:∀ n,n≠c→G'.hd n=G.hd n:=by intro n h; simp[G',upd,h]
 have f1:G'.fp c=[]:=by simp[G',upd]
 have f2:∀ n,n≠c→G'.fp n=G.fp n:=by intro n h; simp[G',upd,h]
 have hbx:∀ r,iB_ ((⟨upd st.s j v',upd st.o c (some (sz,[]))⟩:St).s r)=iB_ (st.s r):=by
  intro r
  simp only[upd]
  split
  ·rename_i e; subst e; exact hb
  ·rfl
 have ho:∀ m p,(⟨upd st.s j v',upd st.o c (some (sz,[]))⟩:St).o m=some p→(m=c∧p=(sz,[]))∨(m≠c∧st.o m=some p):=by
  intro m p hp
  simp only[upd] at hp
  split at hp
  ·rename_i e; exact .inl ⟨e,(Option.some.inj hp).symm⟩
  ·rename_i e; exact .inr ⟨e,hp⟩
 have hP:∀ b,Nof κ st G w b→Nof κ ⟨upd st.s j v',upd st.o c (some (sz,[]))⟩ G' w b:=by
  intro b hb
  refine⟨hb.1,fun hp=>hb.2 ?_⟩
  rcases hp with⟨r,h1,h2⟩ | ⟨m,p,h1,h2⟩
  ·exact .inl ⟨r,by rw[← hbx]; exact h1,h2⟩
  ·rcases ho m p h1 with⟨rfl,_⟩ | ⟨e,h3⟩
   ·rw[f1] at h2; simp at h2
   ·rw[f2 m e] at h2; exact .inr ⟨m,p,h3,h2⟩
 refine⟨G',hG.keep,hG.defers,hG.nt,?_,?_,fun r hr=>hG.boxes r (by rw[← hbx]; exact hr),fun r r' h1 h2=>hG.bb r r' (by rw[← hbx]; exact h1) (by rw[← hbx]; exact h2),?_,?_,fun m v hm=>(g2 m (by have:=κ.hH m v hm; have:=hn.1.1; omega)).trans (hG.held m v hm)⟩
 ·intro i
  have h1:=(hG.slots i).frame (G':=G') hP (fun _ _=>rfl) (fun m hm=>g2 m (by rintro rfl; rw[hn.2 i] at hm; cases hm)) (fun _ _=>rfl) (fun _=>⟨rfl,rfl⟩)
  simp only[upd]
  split
  ·rename_i e; subst e; exact h _ _ _ _ g1 h1
  ·exact h1
 ·intro m sz' es hc
  rcases ho m _ hc with⟨rfl,e⟩ | ⟨e,h3⟩
  ·cases e
   rw[g1,f1]
   refine⟨?_,List.nodup_nil,by simp⟩
   simp only[RepC]
   exact .inl (by simp)
  ·rw[g2 m e,f2 m e]
   obtain⟨h1,h2,h4⟩:=hG.objs m sz' es h3
   exact⟨RepC.frame hP (fun _ _=>rfl) _ _ _ (fun _ _=>rfl) h1,h2,h4⟩
 ·intro r m p h1 h2
  rcases ho m p h2 with⟨rfl,_⟩ | ⟨e,h3⟩
  ·rw[f1]; simp
  ·rw[f2 m e]; exact hG.bo r m p (by rw[← hbx]; exact h1) h3
 ·intro m m' p p' h1 h2 hne
  rcases ho m p h1 with⟨rfl,_⟩ | ⟨e,h3⟩
  ·rw[f1]; simp
  ·rcases ho m' p' h2 with⟨rfl,_⟩ | ⟨e',h3'⟩
   ·rw[f1]; simp
   ·rw[f2 m e,f2 m' e']; exact hG.oo m m' p p' h3 h3' hne

theorem nr_{N:Nat→Prop}{w:World}{hd:Nat→Value}{sz:Nat}{cs:List Value}(h:RepCV N w hd (.pv (.sl true sz [])) cs):cs=[.slice none 0 0]:=by
 simp only[RepCV,RepC] at h
 rcases h with⟨h,_⟩ | ⟨b,cap,c,e,F',ccs,_,_,_,_,_,_,_,_,h⟩
 ·exact h
 ·cases h
theorem iAs_1(x y:CV)(i:Nat)(p:List Nat):(x.setAt (i::p) y).isAgg=true:=by simp[CV.setAt,CV.isAgg]
theorem iAo_1{x:CV}{i:Nat}{p:List Nat}(h:x.okp (i::p)=true):x.isAgg=true:=by
 simp only[CV.okp,aq,decide_eq_true_eq] at h
 cases x with
 | pv v=>cases v<;>simp[CV.parts] at h<;>rfl
 | node fs=>rfl
 | _=>simp[CV.parts] at h
theorem st_1{N:Nat→Prop}{w:World}{G:Gh}{j:Nat}{v:Value}{x y z:CV}{p:List Nat}(hp:x.okp p=true)(ha:x.at p=y)(hz:∀ cs,RepCV N w G.hd y cs→RepCV N w G.hd z cs)(hzy:z.isAgg=y.isAgg):
 (SlotOk N w G j v (.box x)→SlotOk N w G j v (.box (x.setAt p z)))∧(SlotOk N w G j v (.val x)→SlotOk N w G j v (.val (x.setAt p z))):=by
 have key:∀ cs,RepCV N w G.hd x cs→RepCV N w G.hd (x.setAt p z) cs:=by
  intro cs h
  obtain⟨c1,c2,c3,e1,_,h3,h4⟩:=RepCV.path p x cs hp h
  rw[e1]
  exact h4 z c2 (hz c2 (ha▸h3))
 constructor
 ·rintro ⟨h1,cs,e,h2,h3⟩; exact⟨h1,cs,e,h2,key cs h3⟩
 ·have hagg:(x.setAt p z).isAgg=x.isAgg:=by
   cases p with
   | nil=>simp only[CV.at] at ha; subst ha; simpa[CV.setAt] using hzy
   | cons i p=>rw[iAs_1,iAo_1 hp]
  rintro (⟨h1,cs,h2,h3⟩ | ⟨h1,h2,h3⟩)
  ·exact .inl ⟨by rw[hagg]; exact h1,cs,h2,key cs h3⟩
  ·exact .inr ⟨by rw[hagg]; exact h1,key _ h2,h3⟩
theorem Sln_{x:CV}(j:Nat)(p:List Nat)(c sz:Nat)(hn:st.noC c)(hk:st.s j=.box x)(hp:x.okp p=true)(ha:x.at p=.pv (.sl true sz [])):st.le ⟨upd st.s j (.box (x.setAt p (.own c))),upd st.o c (some (sz,[]))⟩:=by
 refine Sln_1 j c sz _ hn (by rw[hk]; rfl) fun N w G v hc h=>?_
 rw[hk] at h
 exact(st_1 (z:=.own c) hp ha (fun cs hcs=>by rw[nr_ hcs]; simp[RepCV,hc,Value.oneCell']) rfl).1 h
theorem aa_1{A B C:Prop}(h:A∧B∧C):(A∧B)∧C:=⟨⟨h.1,h.2.1⟩,h.2.2⟩
end
section
def gv:List Bool→List PV→List PV
 | b::bs,p::ps=>(if b then p.view else p)::gv bs ps
 | _,ps=>ps
theorem rVg_1{N N':Nat→Prop}{w:World}{p:PV}{v:Value}{F:List Nat}(hN:∀ b,N b→N' b)(hF:∀ b∈F,N' b)(h:RepV N w p v F):RepV N' w p.view v []:=by
 cases p with
 | agg fs=>
  obtain⟨cs,rfl,h⟩:=h
  exact⟨cs,rfl,RepCs.demote hN fs cs F hF h⟩
 | sl o sz es=>exact RepC.demote hN _ [v] F hF h
 | lit u=>exact RepC.demote hN _ [v] F hF h
 | clo f c=>exact RepC.demote hN _ [v] F hF h
 | ptr u=>exact RepC.demote hN _ [v] F hF h
 | tup ps=>simp[RepV,RepC] at h
theorem rVg_{N:Nat→Prop}{w:World}:∀ (ms:List Bool) (ps:List PV) (vs:List Value) (F:List Nat),RepVs N w ps vs F→
 ∃ F' G:List Nat,(∀ b,b∈F↔b∈F'∨b∈G)∧(F.Nodup→F'.Nodup∧∀ b∈G,b∉F')∧∀ N':Nat→Prop,(∀ b,N b→N' b)→(∀ b∈G,N' b)→RepVs N' w (gv ms ps) vs F'
 | [],ps,vs,F,h=>⟨F,[],by simp,fun h=>⟨h,by simp⟩,fun N' hN _=>by
  have e:gv [] ps=ps:=by cases ps<;>rfl
  rw[e]; exact rVf_ hN (fun _ _=>rfl) (fun _ _=>rfl) h⟩
 | m::ms,[],vs,F,h=>⟨F,[],by simp,fun h=>⟨h,by simp⟩,fun N' hN _=>rVf_ hN (fun _ _=>rfl) (fun _ _=>rfl) h⟩
 | m::ms,p::ps,vs,F,h=>by
  simp only[RepVs] at h
  obtain⟨v,vs',F1,F2,rfl,rfl,h1,h2⟩:=h
  obtain⟨F',G,g1,g2,g3⟩:=rVg_ ms ps vs' F2 h2
  cases m with
  | true=>
   refine⟨F',F1++G,?_,?_,?_⟩
   ·intro b; simp only[List.mem_append,g1 b]
    constructor
    ·rintro (h | h | h); exact .inr (.inl h); exact .inl h; exact .inr (.inr h)
    ·rintro (h | h | h); exact .inr (.inl h); exact .inl h; exact .inr (.inr h)
   ·intro hn
    rw[bG] at hn
    obtain⟨k1,k2⟩:=g2 hn.2.1
    refine⟨k1,fun b hb hb'=>?_⟩
    rcases List.mem_append.1 hb with hb | hb
    ·exact hn.2.2 b hb b ((g1 b).2 (.inl hb')) rfl
    ·exact k2 b hb hb'
   ·intro N' hN hG
    refine⟨v,vs',[],F',rfl,rfl,?_,g3 N' hN (fun b hb=>hG b (by simp[hb]))⟩
    exact rVg_1 hN (fun b hb=>hG b (by simp[hb])) h1
  | false=>
   refine⟨F1++F',G,?_,?_,?_⟩
   ·intro b; simp only[List.mem_append,g1 b]
    constructor
    ·rintro (h | h | h); exact .inl (.inl h); exact .inl (.inr h); exact .inr h
    ·rintro ((h | h) | h); exact .inl h; exact .inr (.inl h); exact .inr (.inr h)
   ·intro hn
    rw[bG] at hn
    obtain⟨k1,k2⟩:=g2 hn.2.1
    refine⟨?_,fun b hb hb'=>?_⟩
    ·rw[bG]
     exact⟨hn.1,k1,fun a ha b hb=>hn.2.2 a ha b ((g1 b).2 (.inl hb))⟩
    ·rcases List.mem_append.1 hb' with hb' | hb'
     ·exact hn.2.2 b hb' b ((g1 b).2 (.inr hb)) rfl
     ·exact k2 b hb hb'
   ·intro N' hN hG
    exact⟨v,vs',F1,F',rfl,rfl,h1.frame hN (fun _ _=>rfl) (fun _ _=>rfl),g3 N' hN hG⟩
theorem rRf_{N N':Nat→Prop}{w:World}{p:PV}{v:Value}{F:List Nat}(hN:∀ b,N b→N' b)(h:RepR N w p v F):RepR N' w p v F:=by
 cases p with
 | tup ps=>obtain⟨vs,h1,h2⟩:=h; exact⟨vs,h1,rVf_ hN (fun _ _=>rfl) (fun _ _=>rfl) h2⟩
 | lit u=>exact RepV.frame (w:=w) (w':=w) (p:=.lit u) hN (fun _ _=>rfl) (fun _ _=>rfl) h
 | agg u=>exact RepV.frame (w:=w) (w':=w) (p:=.agg u) hN (fun _ _=>rfl) (fun _ _=>rfl) h
 | sl o sz es=>exact RepV.frame (w:=w) (w':=w) (p:=.sl o sz es) hN (fun _ _=>rfl) (fun _ _=>rfl) h
 | clo f c=>exact RepV.frame (w:=w) (w':=w) (p:=.clo f c) hN (fun _ _=>rfl) (fun _ _=>rfl) h
 | ptr u=>exact RepV.frame (w:=w) (w':=w) (p:=.ptr u) hN (fun _ _=>rfl) (fun _ _=>rfl) h
theorem Sat.give{P:Program}{f:FuncId}{args:List PV}{res:PV}(ms:List Bool)(h:Sat P f (gv ms args) res):Sat P f args res:=by
 refine⟨h.1,fun w N vs Fs hN hnd hlt hvs=>?_⟩
 obtain⟨F',G,h1,h2,h3⟩:=rVg_ ms args vs Fs hvs
 obtain⟨k1,k2⟩:=h2 hnd
 have hG:∀ b∈G,b<w.heap.size:=fun b hb=>hlt b ((h1 b).2 (.inr hb))
 have:=h.2 w (fun b=>N b∨b∈G) vs F' (by
  rintro b (hb | hb)
  ·exact⟨(hN b hb).1,fun hb'=>(hN b hb).2 ((h1 b).2 (.inl hb'))⟩
  ·exact⟨hG b hb,k2 b hb⟩) k1 (fun b hb=>hlt b ((h1 b).2 (.inl hb))) (h3 _ (fun _ h=>.inl h) (fun _ h=>.inr h))
 refine this.mono fun e w' he=>?_
 obtain⟨v,F,rfl,hk,hr,hfn,hf⟩:=he
 refine⟨v,F,rfl,⟨hk.os,hk.tape,hk.output,hk.size,fun k hk1 hk2=>hk.block k hk1 (fun hb=>hk2 ((h1 k).2 (.inl hb))),hk.drawn⟩,rRf_ ?_ hr,hfn,fun b hb=>⟨(hf b hb).1.imp id (fun g=>(h1 b).2 (.inl g)),(hf b hb).2⟩⟩
 rintro b ((hb | hb) | hb)
 ·exact .inl hb
 ·refine .inr ⟨.inr ((h1 b).2 (.inr hb)),Nat.lt_of_lt_of_le (hG b hb) hk.size,fun hbF=>?_⟩
  rcases (hf b hbF).1 with g | g
  ·have:=hG b hb; omega
  ·exact k2 b hb g
 ·exact .inr ⟨hb.1.imp id (fun g=>(h1 b).2 (.inl g)),hb.2⟩
theorem vrB_(n:Nat)(b:Bool):az (List.replicate n (B b))=List.replicate n (B b):=by
 induction n with
 | zero=>rfl
 | succ n ih=>rw[List.replicate_succ,az,ih]; rfl
theorem vrI_(n:Nat)(i:Int):az (List.replicate n (I i))=List.replicate n (I i):=by
 induction n with
 | zero=>rfl
 | succ n ih=>rw[List.replicate_succ,az,ih]; rfl
theorem gv_t(bs:List Bool)(p:PV)(ps:List PV):gv (true::bs) (p::ps)=p.view::gv bs ps:=rfl
theorem gv_f(bs:List Bool)(p:PV)(ps:List PV):gv (false::bs) (p::ps)=p::gv bs ps:=rfl
theorem gv_n(ps:List PV):gv [] ps=ps:=by cases ps<;>rfl
theorem nVn_1(t:Bool)(es:List PV)(c:Nat):(nilV t es).noC c=true:=by cases es<;>rfl
theorem nVn_(t:Bool)(es:List PV)(r:Nat):(nilV t es).noR r=true:=by cases es<;>rfl
theorem NM{st:St}{c:Nat}(h:St.noC st c:=by repeat (first | exact nCe_ _ _ ⟨by decide,rfl⟩ | exact nCn_ _ _ ⟨by decide,rfl⟩ | refine nCm_ _ _ _ _ _ rfl ?_ | refine nCm_1 _ _ _ _ _ rfl ?_ | refine nCm_ _ _ _ _ _ (nVn_1 _ _ _) ?_)):St.noC st c:=h
theorem NR{st:St}{r:Nat}(h:St.noR st r:=by repeat (first | exact nRe_ _ _ | exact nRn_ _ _ | refine nRm_ _ _ _ _ _ rfl ?_ | refine nRm_1 _ _ _ _ _ rfl ?_ | refine nRm_ _ _ _ _ _ (nVn_ _ _ _) ?_)):St.noR st r:=h
theorem naA{st:St}{r:Nat}{K:Prop}(h:St.noR st r)(hK:K):St.noR st r∧K:=⟨h,hK⟩
theorem ncA{st:St}{c:Nat}{K:Prop}(h:St.noC st c)(hK:K):St.noC st c∧K:=⟨h,hK⟩
theorem ngA{l:List Nat}{n:Nat}{K:Prop}(h:l=List.range n)(hK:K):l=List.range n∧K:=⟨h,hK⟩
theorem an_{P:Nat→Prop}:∀ x∈([]:List Nat),P x:=fun _ h=>nomatch h
theorem ac_1{P:Nat→Prop}{a:Nat}{l:List Nat}(h:P a)(t:∀ x∈l,P x):∀ x∈a::l,P x:=fun x hx=>by
 rcases List.mem_cons.1 hx with rfl | hx
 ·exact h
 ·exact t x hx
def Dum:Bool:=true
theorem Ro_{α:Type}{m:Option α}{r:α}(h:m=some r):Run m (fun v=>v=r)∧Dum=true:=⟨Run.of h,rfl⟩
theorem S{G K:Prop}(k:K)(e:K→G:=by intro k; (try simp (config:={ maxSteps:=300000 }) only[↓TP,push_cast,Nat.reduceLT,Nat.reduceAdd,Nat.reduceMul,Nat.reduceEqDiff,reduceIte,Nat.reduceBEq,Nat.reduceLeDiff,Nat.reduceSub,Int.reduceToNat,Int.reduceAdd,cs]); (repeat (first | (with_reducible refine naA ?_ ?_; exact NR) | (with_reducible refine ncA ?_ ?_; exact NM) | with_reducible refine aa_1 ?_ | with_reducible refine OrR.l ?_ | (with_reducible refine ngA ?_ ?_; rfl))); exact k):G:=e k
theorem SC{G:Prop}(h:G:=by simp (config:={ maxSteps:=300000 }) only[↓TP,push_cast,Nat.reduceLT,Nat.reduceAdd,Nat.reduceMul,Nat.reduceEqDiff,reduceIte,Nat.reduceBEq,Nat.reduceLeDiff,Nat.reduceSub,Int.reduceToNat,Int.reduceAdd,cs]):G:=h
theorem SWx{G:Prop}(h:G:=by simp (config:={ maxSteps:=300000 }) only[↓TP,push_cast,Nat.reduceLT,Nat.reduceAdd,Nat.reduceMul,Nat.reduceEqDiff,reduceIte,Nat.reduceBEq,Nat.reduceLeDiff,Nat.reduceSub,Int.reduceToNat,Int.reduceAdd,cs,w]):G:=h
theorem CondH.run{α:Type}{b:Bool}{x y:Option α}{φ:α→Prop}{A B C:Prop}(cs:C)(h:Run (cond b x y) φ)(f:b=true∧C→Run x φ→A)(g:b=false∧C→Run y φ→B):CondH b A B .mk .mk:=
 CondH.mk (fun c=>f ⟨c,cs⟩ (rt_ c h)) (fun c=>g ⟨c,cs⟩ (rf_ c h))
theorem CondH.t2{p:Prop}[Decidable p]{A B C:Prop}(cs:C)(hp:p)(f:decide p=true∧C→A):CondH (decide p) A B .mk .mk:=CHt_ (decide_eq_true hp) fun c=>f ⟨c,cs⟩
theorem CondH.f2{p:Prop}[Decidable p]{A B C:Prop}(cs:C)(hp:¬ p)(f:decide p=false∧C→B):CondH (decide p) A B .mk .mk:=CHf_ (decide_eq_false hp) fun c=>f ⟨c,cs⟩
theorem DHa_{st:St}{l:List Oper}{recs:List Rec}(frs fcs:List Nat)(h1:eL_ l=true:=by rfl)(h2:pL_ l recs=true:=by first | rfl | (simp only[↓TP,push_cast,Nat.reduceLT,Nat.reduceAdd,Nat.reduceMul,Nat.reduceEqDiff,reduceIte,Nat.reduceBEq,Nat.reduceLeDiff,Nat.reduceSub,Int.reduceToNat,Int.reduceAdd,cs]<;>rfl))(h3:recs.flatMap (·.fr)=frs:=by rfl)(h4:recs.flatMap (·.fc)=fcs:=by first | rfl | (simp only[↓TP,push_cast,Nat.reduceLT,Nat.reduceAdd,Nat.reduceMul,Nat.reduceEqDiff,reduceIte,Nat.reduceBEq,Nat.reduceLeDiff,Nat.reduceSub,Int.reduceToNat,Int.reduceAdd,cs]<;>rfl))
 (h5:∀ x∈frs,st.noR x:=by repeat (first | exact an_ | refine ac_1 ?_ ?_ | exact nRe_ _ _ | exact nRn_ _ _ | refine nRm_ _ _ _ _ _ rfl ?_ | refine nRm_1 _ _ _ _ _ rfl ?_))
 (h6:∀ c∈fcs,st.noC c:=by repeat (first | exact an_ | refine ac_1 ?_ ?_ | exact nCe_ _ _ ⟨by decide,rfl⟩ | exact nCn_ _ _ ⟨by decide,rfl⟩ | refine nCm_ _ _ _ _ _ rfl ?_ | refine nCm_1 _ _ _ _ _ rfl ?_)) (h7:((recs.flatMap (·.rp)).all fun k=>isBx (st.s k))=true:=by rfl):DrawH ⟨l⟩ st recs .mk .mk .mk:=DrawH.mk frs fcs h1 h2 h3 h4 h5 h6 h7
theorem rb_{α β:Type}{m:Option α}{f:α→Option β}{φ:β→Prop}{G:Prop}(h:Run (m.bind f) φ)(k:∀ v,m=some v→Run (f v) φ→G):G:=by
 obtain⟨v,h1,h2⟩:=rb_1 h; exact k v h1 h2
theorem FHz_{P:Program}{st:St}{rs:List ResultVar}{β:Type}{y:β}{φ:β→Prop}{T:PV}(h:Run (some y) φ)(k:φ y→RetL P st rs T:=by intro e; cases e; simp (config:={ maxSteps:=300000 }) only[↓TP,push_cast,Nat.reduceLT,Nat.reduceAdd,Nat.reduceMul,Nat.reduceEqDiff,reduceIte,Nat.reduceBEq,Nat.reduceLeDiff,Nat.reduceSub,Int.reduceToNat,Int.reduceAdd,cs]):FinH P st rs T:=FinH.l (k (rs_ h))
theorem FHz_1{P:Program}{st:St}{rs:List ResultVar}{β:Type}{y:β}{φ:β→Prop}{T:PV}(h:Run (some y) φ)(k:φ y→RetR P st rs T:=by intro e; cases e; simp (config:={ maxSteps:=300000 }) only[↓TP,push_cast,Nat.reduceLT,Nat.reduceAdd,Nat.reduceMul,Nat.reduceEqDiff,reduceIte,Nat.reduceBEq,Nat.reduceLeDiff,Nat.reduceSub,Int.reduceToNat,Int.reduceAdd,cs]):FinH P st rs T:=FinH.r (k (rs_ h))
theorem CallH.c{P:Program}{f:FuncId}{views owns caps args:List PV}{K:List Bool→PV→Prop}(ms:List Bool){res:PV}(h:Sat P f args res){H:Prop}(hK:K ms res)(ha:args=mix ms views owns++caps:=by simp (config:={ maxSteps:=300000 }) only[↓TP,push_cast,Nat.reduceLT,Nat.reduceAdd,Nat.reduceMul,Nat.reduceEqDiff,reduceIte,Nat.reduceBEq,Nat.reduceLeDiff,Nat.reduceSub,Int.reduceToNat,Int.reduceAdd,cs]):CallH P f views owns caps K H .mk .mk:=CallH.mk ms h ha hK
theorem IdxH.c{α:Type}(f:α→PV){xs:List α}{x:α}{es:List PV}{e:Int}{K:PV→Prop}(h:idx xs e=some x)(hK:K (f x))(he:es=xs.map f:=by simp (config:={ maxSteps:=300000 }) only[↓TP,push_cast,Nat.reduceLT,Nat.reduceAdd,Nat.reduceMul,Nat.reduceEqDiff,reduceIte,Nat.reduceBEq,Nat.reduceLeDiff,Nat.reduceSub,Int.reduceToNat,Int.reduceAdd,cs]):IdxH es e K .mk:=IdxH.mk h he hK
theorem EldH.c{α:Type}(f:α→PV){xs:List α}{x:α}{es:List PV}{e:Int}{K:PV→Prop}(h:idx xs e=some x)(hK:K (f x))(he:es=xs.map f:=by simp (config:={ maxSteps:=300000 }) only[↓TP,push_cast,Nat.reduceLT,Nat.reduceAdd,Nat.reduceMul,Nat.reduceEqDiff,reduceIte,Nat.reduceBEq,Nat.reduceLeDiff,Nat.reduceSub,Int.reduceToNat,Int.reduceAdd,cs]):EldH es e.toNat K .mk:=EldH.mk h rfl he hK
theorem AppH.c{α:Type}(f:α→PV){sz:Nat}{xs ys zs:List α}{es es':List PV}{K:List PV→Prop}(hf:∀ a,(f a).size=sz)(h:app xs ys=some zs)(hK:K (zs.map f))(he:es=xs.map f:=by simp (config:={ maxSteps:=300000 }) only[↓TP,push_cast,Nat.reduceLT,Nat.reduceAdd,Nat.reduceMul,Nat.reduceEqDiff,reduceIte,Nat.reduceBEq,Nat.reduceLeDiff,Nat.reduceSub,Int.reduceToNat,Int.reduceAdd,cs])(hy:es'=ys.map f:=by simp (config:={ maxSteps:=300000 }) only[↓TP,push_cast,Nat.reduceLT,Nat.reduceAdd,Nat.reduceMul,Nat.reduceEqDiff,reduceIte,Nat.reduceBEq,Nat.reduceLeDiff,Nat.reduceSub,Int.reduceToNat,Int.reduceAdd,cs]):AppH sz es es' K .mk:=AppH.mk hf h he hy hK
theorem CondH.t3{p:Prop}[Decidable p]{A B C:Prop}(cs:C)(f:decide p=true∧C→A)(hp:p:=by omega):CondH (decide p) A B .mk .mk:=CondH.t2 cs hp f
theorem CondH.f3{p:Prop}[Decidable p]{A B C:Prop}(cs:C)(f:decide p=false∧C→B)(hp:¬ p:=by omega):CondH (decide p) A B .mk .mk:=CondH.f2 cs hp f
theorem ws_(i:Nat)(h:i<9223372036854775807:=by omega):IntKind.i64.wrap ((i:Int)+1)=((i+1:Nat):Int):=ws_1 h
theorem RdH.z{ρ σ:Type}{rest:σ→Option (ρ ⊕ σ)}{ψ:ρ ⊕ σ→Prop}{st:St}{S:σ→List (Nat×SlotV)}{O:σ→List (Nat×(Nat×List PV))}{s:σ}(h:Run (some (Flow.nx s)) (sP_1 rest ψ))(k:LeL st.s (S s)∧LeP st.o (O s):=by simp (config:={ maxSteps:=300000 }) only[↓TP,push_cast,Nat.reduceLT,Nat.reduceAdd,Nat.reduceMul,Nat.reduceEqDiff,reduceIte,Nat.reduceBEq,Nat.reduceLeDiff,Nat.reduceSub,Int.reduceToNat,Int.reduceAdd,cs,w]):RdH (fun st'=>∃ s',Run (rest s') ψ∧st'.le ⟨mkS (S s'),mkO (O s')⟩) st .mk:=⟨s,rs_ (φ:=sP_1 rest ψ) h,Slm_ k⟩
theorem Sg_{P:Program}(nt:Nat)(rs:List ResultVar){f:FuncId}{fn:Func}{c:Code}{args:List PV}{res:PV}(hf:P.funcs[f]?=some fn)(hname:(fn.name== "runtime.NumGoroutine")=false:=by rfl)(hb:fn.body=some c:=by rfl)
 (hnt:fn.ntmps=nt:=by rfl) (hrs:fn.results.toList=rs:=by rfl) (hle:args.length≤nt:=by simp) (h:Mg P nt (fun st=>FinH P st rs res) 100000 (.code c) (aS_ args) []):Sat P f args res:=Sat.of_m hf hname hb hnt hrs hle h
theorem asZ{α:Type}{C G:Prop}(e:α)(cs:C)(k:∀ z,z=e∧C→G):G:=k e ⟨rfl,cs⟩
end
section
theorem tLi_1{ρ σ:Type}(r:ρ)(k:σ→Option ρ):thenL (some (.inl r)) k=some r:=rfl
theorem tLi_{ρ σ:Type}(s:σ)(k:σ→Option ρ):thenL (some (.inr s)) k=k s:=rfl
def forL{α ρ σ:Type}(g:Nat→α→σ→Option (Flow ρ σ)):List α→Nat→σ→Option (ρ ⊕ σ)
 | [],_,s=>some (.inr s)
 | x::xs,i,s=>(g i x s).bind fun
  | .nx s'=>forL g xs (i+1) s'
  | .br s'=>some (.inr s')
  | .rt r=>some (.inl r)
theorem fLn_1{α ρ σ:Type}(g:Nat→α→σ→Option (Flow ρ σ))(i:Nat)(s:σ):forL g [] i s=some (.inr s):=rfl
theorem fLn_{α ρ σ:Type}{g:Nat→α→σ→Option (Flow ρ σ)}{x:α}{xs:List α}{i:Nat}{s s':σ}(h:g i x s=some (.nx s')):forL g (x::xs) i s=forL g xs (i+1) s':=by simp[forL,h]
theorem fLr_{α ρ σ:Type}{g:Nat→α→σ→Option (Flow ρ σ)}{x:α}{xs:List α}{i:Nat}{s:σ}{r:ρ}(h:g i x s=some (.rt r)):forL g (x::xs) i s=some (.inl r):=by simp[forL,h]
theorem fNn_{ρ σ:Type}{f:Nat→σ→Option (Flow ρ σ)}{n i:Nat}{s s':σ}(h:f i s=some (.nx s')):forN f (n+1) i s=forN f n (i+1) s':=by simp[forN,h]
theorem fNr_{ρ σ:Type}{f:Nat→σ→Option (Flow ρ σ)}{n i:Nat}{s:σ}{r:ρ}(h:f i s=some (.rt r)):forN f (n+1) i s=some (.inl r):=by simp[forN,h]
theorem fNz_{ρ σ:Type}(f:Nat→σ→Option (Flow ρ σ))(i:Nat)(s:σ):forN f 0 i s=some (.inr s):=rfl
theorem in_{α:Type}(xs:List α)(i:Nat):idx xs (i:Int)=xs[i]?:=by simp[idx]
theorem fNf_{α ρ σ:Type}(f:Nat→σ→Option (Flow ρ σ))(g:Nat→α→σ→Option (Flow ρ σ)):∀ (xs:List α) (i:Nat) (s:σ),(∀ j x s,xs[j]?=some x→f (i+j) s=g (i+j) x s)→forN f xs.length i s=forL g xs i s
 | [],_,_,_=>rfl
 | x::xs,i,s,h=>by
  have h0:=h 0 x s (by simp)
  simp only[Nat.add_zero] at h0
  simp only[aA,forN,forL,h0]
  congr 1
  funext o
  cases o with
  | nx s'=>exact fNf_ f g xs (i+1) s' (fun j y t hy=>by have:=h (j+1) y t (by simpa using hy); simpa[Nat.add_assoc,Nat.add_comm 1 j] using this)
  | _=>rfl
theorem fNi_{α ρ σ:Type}(xs:List α)(body:Nat→α→σ→Option (Flow ρ σ))(s:σ):forN (fun i s=>(idx xs (i:Int)).bind fun v=>body i v s) xs.length 0 s=forL body xs 0 s:=by
 refine fNf_ _ _ xs 0 s (fun j x s h=>?_)
 simp only[Nat.zero_add,in_,h,ah]
theorem fNc_1{ρ σ:Type}{f g:Nat→σ→Option (Flow ρ σ)}:∀ (n i:Nat) (s:σ),(∀ j s,j<n→f (i+j) s=g (i+j) s)→forN f n i s=forN g n i s
 | 0,_,_,_=>rfl
 | n+1,i,s,h=>by
  simp only[forN,show f i s=g i s from by have:=h 0 s (by omega); simpa using this]
  congr 1
  funext o
  cases o with
  | nx s'=>exact fNc_1 n (i+1) s' (fun j t hj=>by have:=h (j+1) t (by omega); simpa[Nat.add_assoc,Nat.add_comm 1 j] using this)
  | _=>rfl
theorem fLc_{α ρ σ:Type}{f g:Nat→α→σ→Option (Flow ρ σ)}:∀ (xs:List α) (i:Nat) (s:σ),(∀ j x s,xs[j]?=some x→f (i+j) x s=g (i+j) x s)→forL f xs i s=forL g xs i s
 | [],_,_,_=>rfl
 | x::xs,i,s,h=>by
  simp only[forL,show f i x s=g i x s from by have:=h 0 x s (by simp); simpa using this]
  congr 1
  funext o
  cases o with
  | nx s'=>exact fLc_ xs (i+1) s' (fun j y t hy=>by have:=h (j+1) y t (by simpa using hy); simpa[Nat.add_assoc,Nat.add_comm 1 j] using this)
  | _=>rfl

abbrev wr(n:Int):Int:=IntKind.i64.wrap n
theorem wr64{n:Int}(h1:-9223372036854775808≤n)(h2:n<9223372036854775808):wr n=n:=w_ h1 h2
def Big(n:Nat):Prop:=n≤9223372036854775807
def ltot{α:Type}(t:α→Nat)(xs:List α):Nat:=xs.length+(xs.map t).sum
theorem tLl_{α β:Type}(f:α→Option β)(g:α→β)(z:β):∀ (xs:List α) (pre:List β),(∀ x∈xs,f x=some (g x))→
 thenL (ρ:=List β) (forL (fun i v s=>(f v).bind fun w=>(idx s (i:Int)).bind fun _=>(idx s (i:Int)).bind fun _=>some (.nx (s.set (i:Int).toNat w))) xs pre.length (pre++List.replicate xs.length z)) (fun s=>some s)=some (pre++xs.map g)
 | [],pre,_=>by simp[forL,tLi_]
 | x::xs,pre,h=>by
  have hx:=h x (by simp)
  have e:(pre++List.replicate (x::xs).length z)[pre.length]?=some z:=by simp[List.replicate_succ]
  rw[fLn_ (s':=(pre++[g x])++List.replicate xs.length z) (by
   rw[hx,ah,in_,e,ah,ah,Int.toNat_natCast]
   simp[List.replicate_succ])]
  have:=tLl_ f g z xs (pre++[g x]) (fun y hy=>h y (by simp[hy]))
  simp only[List.length_append,aA,List.length_nil,Nat.zero_add] at this
  rw[this]; simp
theorem toL{α β:Type}{f:α→Option β}{g:α→β}{z:β}{xs:List α}(h:∀ x∈xs,f x=some (g x))(hl:xs.length≤1073741824):
 ((mkn (xs.length:Int)).bind fun n=>thenL (ρ:=List β) (forN (fun i s=>(idx xs (i:Int)).bind fun v=>(f v).bind fun w=>(idx s (i:Int)).bind fun _=>(idx s (i:Int)).bind fun _=>some (.nx (s.set (i:Int).toNat w))) xs.length 0 (List.replicate n z)) fun s=>some s)=some (xs.map g):=by
 have e:mkn (xs.length:Int)=some xs.length:=by unfold mkn; rw[if_pos (by omega)]; simp
 rw[e,ah]
 simp only[fNi_]
 exact tLl_ f g z xs [] h
end
section
def InR(n:Int):Prop:=-9223372036854775808≤n∧n≤9223372036854775807
end
section
theorem igD_{α:Type}[Inhabited α]{xs:List α}{i:Nat}(h:i<xs.length):idx xs (i:Int)=some (xs.getD i default):=by
 rw[in_,List.getElem?_eq_getElem h]; simp[List.getD,h]
theorem ip_{α:Type}[Inhabited α]{xs:List α}{i:Nat}(h:i<xs.length)(h0:0<i)(hb:i≤9223372036854775807):idx xs (IntKind.i64.wrap ((i:Int)-1))=some (xs.getD (i-1) default):=by
 have e:IntKind.i64.wrap ((i:Int)-1)=((i-1:Nat):Int):=by rw[w_]<;>omega
 rw[e]; exact igD_ (by omega)
theorem fNa_2{ρ:Type}{c:Nat→Bool}{f:Nat→Unit→Option (Flow ρ Unit)}{r0:ρ}:∀ (n i:Nat),(∀ j,j<i→c j=true)→(∀ j,j<i+n→(∀ k,k<j→c k=true)→f j ()=some (bif c j then .nx () else .rt r0))→
 forN f n i ()=some (bif (List.range (i+n)).all c then .inr () else .inl r0)
 | 0,i,hc,_=>by
  have:(List.range (i+0)).all c=true:=List.all_eq_true.2 (fun x hx=>hc x (by simpa using hx))
  rw[this]; rfl
 | n+1,i,hc,h=>by
  have h0:=h i (by omega) hc
  by_cases e:c i=true
  ·rw[fNn_ (s':=()) (by rw[h0,e]; rfl)]
   rw[fNa_2 n (i+1) (fun j hj=>(Nat.lt_or_ge j i).elim (hc j) (fun g=>by rw[show j=i by omega]; exact e)) (fun j hj hk=>h j (by omega) hk)]
   have e2:i+(n+1)=i+1+n:=by omega
   rw[e2]
  ·have e1:c i=false:=by simpa using e
   rw[fNr_ (r:=r0) (by rw[h0,e1]; rfl)]
   have:(List.range (i+(n+1))).all c=false:=List.all_eq_false.2 ⟨i,by simp,by simp[e1]⟩
   rw[this]; rfl
theorem fNa_{ρ:Type}(c:Nat→Bool){f:Nat→Unit→Option (Flow ρ Unit)}{r0:ρ}{n:Nat}{k:Unit→Option ρ}(h:∀ j,j<n→(∀ k,k<j→c k=true)→f j ()=some (bif c j then .nx () else .rt r0)):
 thenL (forN f n 0 ()) k=bif (List.range n).all c then k () else some r0:=by
 rw[fNa_2 (c:=c) (r0:=r0) n 0 (fun j hj=>by omega) (fun j hj hk=>h j (by omega) hk),Nat.zero_add]
 cases (List.range n).all c<;>rfl
theorem ral_{α:Type}[Inhabited α](xs:List α)(p:α→Bool):(List.range xs.length).all (fun i=>p (xs.getD i default))=xs.all p:=by
 rw[Bool.eq_iff_iff,List.all_eq_true,List.all_eq_true]
 constructor
 ·intro h x hx
  obtain⟨i,hi,rfl⟩:=List.getElem_of_mem hx
  have:=h i (by simpa using hi)
  simpa[List.getD,hi] using this
 ·intro h i hi
  have hi:i<xs.length:=by simpa using hi
  have:xs.getD i default∈xs:=gDm_ hi
  exact h _ this
def inR(a lo hi:Int):Bool:=decide (lo≤a∧a≤hi)
theorem ciR_(a lo hi:Int):(bif decide (lo≤a) then some (decide (a≤hi)) else some false)=some (inR a lo hi):=by
 unfold inR
 by_cases h:lo≤a<;>simp[h]
theorem iRi_{a lo hi:Int}:inR a lo hi=true↔lo≤a∧a≤hi:=by simp[inR]
end
section
open Go.ChangeShapes Go.WideShapes Go.ChangeAt Go.RowKit
section
variable{H:Type}{enc:TypeId×Value→H}{P:Program}{W W':World}{base:Nat}{G:TypeId→Prop}
theorem cp_{v:Value}(h:∀ cs,v≠.agg cs):v.cells=#[v]:=by
 cases v with
 | agg cs=>exact absurd rfl (h cs)
 | _=>rfl
theorem rVo_1{t:TypeId}{p:PV}{v:Value}{N:Nat→Prop}(hty:HasTy P t p)(hok:Value.okWide P W .any base t v)(hrep:RepC N W p v.cells.toList []):RepV N W p v []:=by
 have plain:(∀ cs,v≠.agg cs)→RepC N W p [v] []:=by
  intro h
  rw[cp_ h] at hrep
  exact hrep
 cases hty with
 | bool h=>
  refine plain ?_
  rintro cs rfl
  simp[Value.okWide,Cell.okWide,Cell.ok,h] at hok
 | int h hw=>
  refine plain ?_
  rintro cs rfl
  simp[Value.okWide,Cell.okWide,Cell.ok,h] at hok
 | str h hs=>
  refine plain ?_
  rintro cs rfl
  simp[Value.okWide,Cell.okWide,Cell.ok,h] at hok
 | sl h hl hes=>
  refine plain ?_
  rintro cs rfl
  simp[Value.okWide,Cell.okWide,Cell.ok,h] at hok
 | struct h hps=>
  simp only[Value.okWide,h] at hok
  obtain⟨cs,rfl,_,_⟩:=hok
  exact⟨cs.toList,by simp,by simpa[RepC,Value.cells] using hrep⟩
theorem oa_(K:K_ P G):∀ (ts:List TypeId) (vs:List Value) (ds:List (DataW H)) (p:List MemPlace),(∀ t∈ts,G t)→DataW.TrodAll enc P W 0 (fun _=>true) true ts vs ds p→
 (∀ (j:Nat) t v,ts[j]?=some t→vs[j]?=some v→Value.okWide P W .any base t v)→∃ ps,HasTys P ts ps∧RepVs (fun b=>b<W.heap.size) W ps vs []
 | [],vs,ds,p,_,hA,_=>by
  obtain⟨rfl,rfl,rfl⟩:=trodAll_nil hA
  exact⟨[],.nil,rfl,rfl⟩
 | t::ts,vs,ds,p,hG,hA,hok=>by
  obtain⟨v,vs',d,ds',p1,q,rfl,rfl,rfl,hd,hrest⟩:=trodAll_cons hA
  obtain⟨fuel,hf⟩:=hd
  obtain⟨pv,hty,hrep⟩:=op_ K fuel t _ _ (hG t (by simp)) hf
  obtain⟨ps,h1,h2⟩:=oa_ K ts vs' ds' q (fun t ht=>hG t (by simp[ht])) hrest (fun j t' v' ht hv=>hok (j+1) t' v' (by simpa using ht) (by simpa using hv))
  exact⟨pv::ps,.cons hty h1,v,vs',[],[],rfl,rfl,rVo_1 hty (hok 0 t v (by simp) (by simp)) hrep,h2⟩
theorem tAl_{sp:Nat→Bool}{hd:Bool}{b:Nat}:∀ (ts:List TypeId) (vs:List Value) (ds:List (DataW H)) (p:List MemPlace),DataW.TrodAll enc P W b sp hd ts vs ds p→ds.length=ts.length
 | [],vs,ds,p,hA=>by
  obtain⟨rfl,rfl,rfl⟩:=trodAll_nil hA
  rfl
 | t::ts,vs,ds,p,hA=>by
  obtain⟨v,vs',d,ds',p1,q,rfl,rfl,rfl,hd,hrest⟩:=trodAll_cons hA
  simp[tAl_ ts vs' ds' q hrest]
theorem sa_(hl:laidOutB P=true){sp:Nat→Bool}:∀ (ts:List TypeId) (vs:List Value) (ds:List (DataW H)) (p:List MemPlace),(∀ t∈ts,P.readableRec t=true∧t<P.types.size)→DataW.TrodAll enc P W 0 (fun _=>true) true ts vs ds p→
 (∀ q∈p,W.sameAt W' q)→(∀ q∈p,sp q.block=true)→DataW.TrodAll enc P W' 0 sp true ts vs ds p
 | [],vs,ds,p,_,hA,_,_=>by
  obtain⟨rfl,rfl,rfl⟩:=trodAll_nil hA
  exact rfl
 | t::ts,vs,ds,p,hr,hA,hs,hp=>by
  obtain⟨v,vs',d,ds',p1,q,rfl,rfl,rfl,hd,hrest⟩:=trodAll_cons hA
  exact⟨p1,q,WideElems.Trod_stays hl (hr t (by simp)).1 (hr t (by simp)).2 hd (fun x hx=>hs x (by simp[hx])) (fun x hx=>hp x (by simp[hx])),
   sa_ hl ts vs' ds' q (fun t ht=>hr t (by simp[ht])) hrest (fun x hx=>hs x (by simp[hx])) (fun x hx=>hp x (by simp[hx])),rfl⟩
end
section
variable{H:Type}{enc:TypeId×Value→H}{P:Program}
theorem pob_{f:Func}{s:ChangeSpec}{apart fresh handsOn again:Bool}{W W':World}{args:Array Value}{v:Value}{ds gs:List (DataW H)}{before pa pv:List MemPlace}
 (hW:DataW.Whole enc P f.params.toList s.vars apart W args.toList ds gs before)
 (hres:∀ (b:Nat) (sp:Nat→Bool) (hd:Bool),DataW.TrodAll enc P W' b sp hd f.resultTypes.toList (v.resultList f.resultTypes.size) (s.fn H (ds++gs)).results [])
 (hargs:∀ sp:Nat→Bool,(∀ p∈before,sp p.block=true)→DataW.TrodAll enc P W' 0 sp true f.params.toList args.toList (s.fn H (ds++gs)).args pa)
 (hvars:∀ sp:Nat→Bool,(∀ p∈before,sp p.block=true)→DataW.TrodVars enc P W' sp s.vars (s.fn H (ds++gs)).vars pv)
 (hps:before=pa++pv) (hb:Below W.heap.size W W')
 (hok:∀ (j:Nat) (t:TypeId) (r:Value),f.resultTypes[j]?=some t→(v.resultList f.resultTypes.size)[j]?=some r→Value.okWide P W' .any 0 t r):
 s.post enc P f apart fresh handsOn again W args v W':=by
 have hlt:∀ p∈before,p.block<W.heap.size:=fun p hp=>hW.lt p hp
 have hold:∀ p∈before,(fun b=>decide (b<W.heap.size)) p.block=true:=fun p hp=>by simpa using hlt p hp
 refine⟨ds,gs,before,[],pa,pv,hW,hres _ _ _,hargs _ hold,hvars _ hold,World.keptBut_mono (fun p hp=>⟨hp,?_⟩) (hb.frame (· ∈before)),fun _=>?_⟩
 ·rw[hps,List.mem_append] at hp
  exact Or.inr hp
 ·obtain⟨_,_,_,_,_,hz,hn⟩:=hW
  refine⟨hok,_,_,([]++pa)++pv,⟨[]++pa,pv,trodAll_append (hargs _ (fun _ _=>rfl)) (hres _ _ _),hvars _ (fun _ _=>rfl),rfl,?_,?_⟩,?_⟩
  ·intro b off hp
   have hin:MemPlace.cell b off∈before:=by rw[hps]; simpa using hp
   rw[hb.frozen (hlt _ hin)]
   exact hz b off hin
  ·intro ha
   have:=hn ha
   rw[hps] at this
   simpa using this
  ·intro p hp _
   rw[hps]
   simpa using hp
theorem law_post{fid:FuncId}{f:Func}{s:ChangeSpec}{tb:TypeId}{apart handsOn again:Bool}{W:World}{base:Nat}{args:Array Value}{ds gs:List (DataW H)}{before:List MemPlace}{G:TypeId→Prop}
 (hlaid:laidOutB P=true) (hvars:s.vars=[]) (hr:f.resultTypes=#[tb]) (hb:P.underlying tb=some .bool) (hfn:∀ ds:List (DataW H),ds.length=f.params.toList.length→(s.fn H ds).results=[.lit (.bool true)]∧(s.fn H ds).args=ds∧(s.fn H ds).vars=[]) (htb:∀ W',Value.okWide P W' .any 0 tb (.bool true))
 (K:K_ P G) (hG:∀ t∈f.params.toList,G t∧P.readableRec t=true∧t<P.types.size)
 (hval:∀ (j:Nat) t v,f.params[j]?=some t→args[j]?=some v→Value.okWide P W .any base t v) (hW:DataW.Whole enc P f.params.toList s.vars apart W args.toList ds gs before)
 (hsat:∀ ps,HasTys P f.params.toList ps→Sat P fid ps (.lit (.bool true))):
 Calls P fid args W (fun e W'=>∃ v,e=.returned v∧s.post enc P f apart true handsOn again W args v W'):=by
 have hW':=hW
 obtain⟨p,q,hA,hV,rfl,hfz,hnd⟩:=hW
 have hlen:=tAl_ _ _ _ _ hA
 rw[hvars] at hV
 obtain⟨rfl,rfl⟩:=trodVars_none hV
 obtain⟨ps,hty,hrep⟩:=oa_ K _ _ _ _ (fun t ht=>(hG t ht).1) hA (fun j t v ht hv=>hval j t v (by simpa using ht) (by simpa using hv))
 simp only[List.append_nil] at hW'
 have hlt:∀ x∈p,x.block<W.heap.size:=fun x hx=>hW'.lt x hx
 have hs:=(hsat ps hty).2 W (fun b=>b<W.heap.size) args.toList [] (by simp) List.nodup_nil (by simp) hrep
 simp only[Array.toArray_toList] at hs
 refine hs.mono fun e W' he=>?_
 obtain⟨v,F,rfl,hk,hrr,_,_⟩:=he
 have hbl:Below W.heap.size W W':=⟨hk.os,hk.tape,hk.output,hk.size,fun k h=>hk.block k h (by simp)⟩
 have hv:v=.bool true:=by
  simp only[RepR,RepV,RepC] at hrr
  simpa using hrr.1
 subst hv
 refine⟨_,rfl,pob_ (pa:=p) (pv:=[]) hW' ?_ ?_ ?_ (by simp) hbl ?_⟩
 ·intro b sp hd
  rw[hr,(hfn _ (by simpa using hlen)).1]
  exact trodAll_mk1 (shut_bool hb true)
 ·intro sp hsp
  rw[(hfn _ (by simpa using hlen)).2.1]
  simp only[List.append_nil]
  exact sa_ hlaid _ _ _ _ (fun t ht=>(hG t ht).2) hA (fun x hx=>hbl.same (hlt x hx)) hsp
 ·intro sp hsp
  rw[hvars,(hfn _ (by simpa using hlen)).2.2]
  rfl
 ·intro j t r hj hr'
  rw[hr] at hj hr'
  match j,hj,hr' with
  | 0,hj,hr'=>
   simp at hj; subst hj
   simp[Value.resultList] at hr'; subst hr'
   exact htb W'
  | j+1,hj,_=>simp at hj
end
end
section
def LOk{α:Type}(ok:α→Prop)(l:List α):Prop:=Big l.length∧∀ x∈l,ok x
theorem ll_{α:Type}(t:α→Nat)(l:List α):l.length≤ltot t l:=by simp[ltot]
theorem tm_{α:Type}(t:α→Nat){l:List α}{x:α}(h:x∈l):t x<ltot t l:=by
 induction l with
 | nil=>cases h
 | cons y l ih=>
  simp only[ltot,aA,aD,List.sum_cons] at ih ⊢
  rcases List.mem_cons.1 h with rfl | h
  ·omega
  ·have:=ih h; omega
theorem ol_{P:Program}{e:TypeId}{α:Type}{ok:α→Prop}{f:α→PV}(h:∀ {p:PV},HasTy P e p→∃ a,ok a∧p=f a):∀ l:List PV,(∀ x∈l,HasTy P e x)→∃ ts:List α,(∀ a∈ts,ok a)∧l=ts.map f
 | [],_=>⟨[],by simp,rfl⟩
 | x::l,hx=>by
  obtain⟨a,ha,rfl⟩:=h (hx x (by simp))
  obtain⟨ts,hts,rfl⟩:=ol_ h l (fun y hy=>hx y (by simp[hy]))
  exact⟨a::ts,by simpa using⟨ha,hts⟩,rfl⟩
end
section
def SI_(P:Program)(f:FuncId)(args args':List PV)(res:PV):Prop:=
 CI_ P f∧∀ (w:World) (N:Nat→Prop) (vs:List Value) (Fs:List Nat),(∀ b,N b→b<w.heap.size∧b∉Fs)→Fs.Nodup→(∀ b∈Fs,b<w.heap.size)→RepVs N w args vs Fs→
  Calls P f vs.toArray w fun e w'=>∃ v F,e=.returned v∧KeepX Fs w.heap.size w w'∧
   RepVs (fun b=>N b∨((w.heap.size≤b∨b∈Fs)∧b<w'.heap.size∧b∉F)) w' args' vs F∧F.Nodup∧(∀ b∈F,(w.heap.size≤b∨b∈Fs)∧b<w'.heap.size)∧
   RepR (fun b=>N b∨((w.heap.size≤b∨b∈Fs)∧b<w'.heap.size∧b∉F)) w' res v []
def aI_(args:List PV):St:=
 { s:=fun k=>match (e_1 args 10000).1[k]? with | some x=>.val x | none=>.dead,o:=uA_ (fun _=>none) (newObjs (e_1 args 10000).2.1) }
def FinIO(P:Program)(st:St)(rs:List ResultVar)(res:PV)(cvs:List CV)(args':List PV):Prop:=
 au st.o (rCs_ P st rs)=true∧rO_1 P st rs∧res=aR_ (CV.pvws st.o (rCs_ P st rs))∧CV.pures (rCs_ P st rs)=true∧au st.o cvs=true∧(ar cvs).Nodup∧args'=aB st.o cvs
theorem aIe_(args:List PV):aI_ args=⟨updL 0 (e_1 args 10000).1 (fun _=>.dead),uA_ (fun _=>none) (newObjs (e_1 args 10000).2.1)⟩:=by
 simp only[aI_,St.mk.injEq,and_true]
 funext k
 rw[uLa_]
 simp only[Nat.not_lt_zero,if_false,Nat.sub_zero]
 cases (e_1 args 10000).1[k]?<;>rfl
end
section
mutual
def CV.clean:CV→Bool
 | .pv v=>v.noOwn
 | .own _=>true
 | .node fs=>Cc_ fs
 | .gone _=>false
def Cc_:List CV→Bool
 | []=>true
 | x::xs=>x.clean&&Cc_ xs
end
theorem fc_1{f g:Nat→List Nat}:∀ l:List Nat,(∀ c∈l,f c=g c)→fps f l=fps g l
 | [],_=>rfl
 | c::l,h=>by simp only[fps]; rw[h c (by simp),fc_1 l (fun c hc=>h c (by simp[hc]))]
section
variable{N N':Nat→Prop}{w w':World}{hd:Nat→Value}{ob:Nat→Option (Nat×List PV)}
def Parts(N':Nat→Prop)(w':World)(hd:Nat→Value)(ob:Nat→Option (Nat×List PV))(ns:List Nat)(F:List Nat):Prop:=
 ∃ fp:Nat→List Nat,(∀ c sz es,c∈ns→ob c=some (sz,es)→RepC N' w' (.sl true sz es) [hd c] (fp c))∧F=fps fp ns
theorem Parts.join{n1 n2 F1 F2:List Nat}(h1:Parts N' w' hd ob n1 F1)(h2:Parts N' w' hd ob n2 F2)(hn:(n1++n2).Nodup):Parts N' w' hd ob (n1++n2) (F1++F2):=by
 obtain⟨f1,a1,rfl⟩:=h1
 obtain⟨f2,a2,rfl⟩:=h2
 have hd':∀ c∈n2,c∉n1:=fun c hc hc'=>(List.nodup_append.1 hn).2.2 c hc' c hc rfl
 refine⟨fun c=>if c∈n1 then f1 c else f2 c,fun c sz es hc ho=>?_,?_⟩
 ·by_cases h:c∈n1
  ·simp only[h,if_true]; exact a1 c sz es h ho
  ·simp only[h,if_false]
   rcases List.mem_append.1 hc with h' | h'
   ·exact absurd h' h
   ·exact a2 c sz es h' ho
 ·rw[fa_]
  congr 1
  ·exact fc_1 n1 (fun c hc=>by simp[hc])
  ·exact fc_1 n2 (fun c hc=>by simp[hd' c hc])
mutual
theorem RepCV.inv:∀ (x:CV) (cs:List Value) (F:List Nat),x.clean=true→x.whole ob=true→RepCV N w hd x cs→RepC N' w' (x.pvo ob) cs F→x.names.Nodup→Parts N' w' hd ob x.names F
 | .pv v,cs,F,hc,_,_,h,_=>by
  simp only[CV.pvo] at h
  have:=RepC.noOwn v cs F (by simpa[CV.clean] using hc) h
  subst this
  exact⟨fun _=>[],by simp[bw],by simp[bw,fps]⟩
 | .own c,cs,F,_,hw,h0,h,_=>by
  simp only[CV.whole] at hw
  obtain⟨⟨sz,es⟩,he⟩:=Option.isSome_iff_exists.1 hw
  simp only[RepCV] at h0
  simp only[CV.pvo,he] at h
  rw[h0.1] at h
  refine⟨fun _=>F,fun c' sz' es' hc' ho=>?_,by simp[bw,fps]⟩
  simp only[bw,List.mem_singleton] at hc'
  subst hc'
  rw[he] at ho; cases ho
  exact h
 | .node fs,cs,F,hc,hw,h0,h,hn=>by
  simp only[RepCV] at h0
  simp only[CV.pvo,RepC] at h
  simpa only[bw] using RepCVs.inv fs cs F (by simpa[CV.clean] using hc) (by simpa[CV.whole] using hw) h0 h (by simpa[bw] using hn)
 | .gone n,cs,F,hc,_,_,_,_=>by simp[CV.clean] at hc
theorem RepCVs.inv:∀ (xs:List CV) (cs:List Value) (F:List Nat),Cc_ xs=true→au ob xs=true→RepCVs N w hd xs cs→RepCs N' w' (aB ob xs) cs F→(ar xs).Nodup→Parts N' w' hd ob (ar xs) F
 | [],cs,F,_,_,_,h,_=>by
  simp only[aB,RepCs] at h
  exact⟨fun _=>[],by simp[ar],by simp[ar,fps,h.2]⟩
 | x::xs,cs,F,hc,hw,h0,h,hn=>by
  simp only[Cc_,au,aq] at hc hw
  simp only[RepCVs] at h0
  simp only[aB,RepCs] at h
  obtain⟨c1,c2,e1,a1,a2⟩:=h0
  obtain⟨d1,d2,F1,F2,e2,e3,b1,b2⟩:=h
  have hl:c1.length=d1.length:=by
   rw[RepCV.length x c1 a1,RepC.length _ _ _ b1,Csp_ x hw.1]
  have e4:=e1.symm.trans e2
  obtain⟨rfl,rfl⟩:=List.append_inj e4 hl
  subst e3
  simp only[ar] at hn ⊢
  exact(RepCV.inv x c1 F1 hc.1 hw.1 a1 b1 (List.nodup_append.1 hn).1).join (RepCVs.inv xs c2 F2 hc.2 hw.2 a2 b2 (List.nodup_append.1 hn).2.1) hn
end
theorem CVals.inv:∀ (xs:List CV) (vs:List Value) (F:List Nat),Cc_ xs=true→au ob xs=true→CVals N w hd xs vs→RepVs N' w' (aB ob xs) vs F→(ar xs).Nodup→Parts N' w' hd ob (ar xs) F
 | [],vs,F,_,_,_,h,_=>by
  simp only[aB,RepVs] at h
  exact⟨fun _=>[],by simp[ar],by simp[ar,fps,h.2]⟩
 | x::xs,vs,F,hc,hw,h0,h,hn=>by
  simp only[Cc_,au,aq] at hc hw
  simp only[CVals] at h0
  simp only[aB,RepVs] at h
  obtain⟨v,vs',e1,a1,a2⟩:=h0
  obtain⟨u,us,F1,F2,e2,e3,b1,b2⟩:=h
  rw[e1] at e2
  obtain⟨rfl,rfl⟩:=List.cons.inj e2
  subst e3
  simp only[ar] at hn ⊢
  have b1':=b1.cells
  have a1':RepCV N w hd x v.cells.toList:=by
   rcases a1 with⟨_,cs,rfl,h3⟩ | ⟨h1,h2,h3⟩
   ·simpa[Value.cells] using h3
   ·have:=cc_ (x:=x) (v:=v) (.inr ⟨h1,h2,h3⟩); exact this
  exact(RepCV.inv x _ F1 hc.1 hw.1 a1' b1' (List.nodup_append.1 hn).1).join (CVals.inv xs vs' F2 hc.2 hw.2 a2 b2 (List.nodup_append.1 hn).2.1) hn
end
end
section
theorem fn_2{fp:Nat→List Nat}:∀ ns:List Nat,(fps fp ns).Nodup→(∀ c∈ns,(fp c).Nodup)
 | [],_,c,hc=>by simp at hc
 | n::ns,h,c,hc=>by
  simp only[fps,bG] at h
  rcases List.mem_cons.1 hc with rfl | hc
  ·exact h.1
  ·exact fn_2 ns h.2.1 c hc
theorem fd_{fp:Nat→List Nat}:∀ ns:List Nat,(fps fp ns).Nodup→∀ c∈ns,∀ c'∈ns,c≠c'→∀ b∈fp c,b∉fp c'
 | [],_,c,hc,_,_,_,_,_=>by simp at hc
 | n::ns,h,c,hc,c',hc',hne,b,hb=>by
  simp only[fps,bG] at h
  intro hb'
  rcases List.mem_cons.1 hc with e | k1<;>rcases List.mem_cons.1 hc' with e' | k2
  ·exact hne (e.trans e'.symm)
  ·subst e; exact h.2.2 b hb b (mf_.2 ⟨c',k2,hb'⟩) rfl
  ·subst e'; exact h.2.2 b hb' b (mf_.2 ⟨c,k1,hb⟩) rfl
  ·exact fd_ ns h.2.1 c k1 c' k2 hne b hb hb'
def setO(ns:List Nat)(ob':Nat→Option (Nat×List PV))(o:Nat→Option (Nat×List PV)):Nat→Option (Nat×List PV):=fun c=>if c∈ns then ob' c else o c
theorem RG.setObjs{κ:Ctx}{G:Gh}{st:St}{a:Act}{w w':World}{ns F:List Nat}{ob':Nat→Option (Nat×List PV)}(h:RG κ G st a w)(hlive:∀ c∈ns,(st.o c).isSome=true)
 (hk:KeepX (fps G.fp ns) w.heap.size w w') (hF:∀ b∈F,(w.heap.size≤b∨b∈fps G.fp ns)∧b<w'.heap.size) (hFn:F.Nodup)
 (hp:Parts (fun b=>Nof κ st G w b∨((w.heap.size≤b∨b∈fps G.fp ns)∧b<w'.heap.size∧b∉F)) w' G.hd ob' ns F):
 ∃ G',G'.hd=G.hd∧RG κ G' { s:=st.s,o:=setO ns ob' st.o } a w'∧∀ b,(Nof κ st G w b∨((w.heap.size≤b∨b∈fps G.fp ns)∧b<w'.heap.size∧b∉F))→Nof κ { s:=st.s,o:=setO ns ob' st.o } G' w' b:=by
 obtain⟨fp',hrep,rfl⟩:=hp
 have hbs:=h.keep.size
 let G':Gh:={ hd:=G.hd,fp:=fun c=>if c∈ns then fp' c else G.fp c,ad:=G.ad }
 have hin:∀ b,b∈fps G.fp ns→∃ c p,c∈ns∧st.o c=some p∧b∈G.fp c:=by
  intro b hb
  obtain⟨c,hc,hm⟩:=mf_.1 hb
  obtain⟨p,hp⟩:=Option.isSome_iff_exists.1 (hlive c hc)
  exact⟨c,p,hc,hp,hm⟩
 have hXlt:∀ b,b∈fps G.fp ns→(κ.w0.heap.size≤b∨b∈κ.L)∧b<w.heap.size:=by
  intro b hb
  obtain⟨c,p,_,hp,hm⟩:=hin b hb
  exact(h.objs c p.1 p.2 hp).2.2 b hm
 have hlt:∀ b,Nof κ st G w b→b<w.heap.size:=fun b hb=>hb.lt h
 have hNX:∀ b,Nof κ st G w b→b∉fps G.fp ns:=by
  intro b hb hm
  obtain⟨c,p,_,hp,hm⟩:=hin b hm
  exact hb.2 (.inr ⟨c,p,hp,hm⟩)
 have hbX:∀ r,iB_ (st.s r)=true→G.ad r∉fps G.fp ns:=by
  intro r hr hm
  obtain⟨c,p,_,hp,hm⟩:=hin _ hm
  exact h.bo r c p hr hp hm
 have hoX:∀ c p,c∉ns→st.o c=some p→∀ b∈G.fp c,b∉fps G.fp ns:=by
  intro c p hc ho b hb hm
  obtain⟨c',p',hc',hp',hm'⟩:=hin b hm
  exact h.oo c c' p p' ho hp' (fun e=>hc (e▸hc')) b hb hm'
 have hob:∀ c p,setO ns ob' st.o c=some p→(c∈ns∧ob' c=some p)∨(c∉ns∧st.o c=some p):=by
  intro c p hc
  simp only[setO] at hc
  by_cases hm:c∈ns
  ·simp only[hm,if_true] at hc; exact .inl ⟨hm,hc⟩
  ·simp only[hm,if_false] at hc; exact .inr ⟨hm,hc⟩
 have fin:∀ c,c∈ns→G'.fp c=fp' c:=fun c hc=>by simp[G',hc]
 have fout:∀ c,c∉ns→G'.fp c=G.fp c:=fun c hc=>by simp[G',hc]
 have hsubF:∀ c∈ns,∀ b∈fp' c,b∈fps fp' ns:=fun c hc b hb=>mf_.2 ⟨c,hc,hb⟩
 have hNw:∀ b,Nof κ st G w b→Nof κ { s:=st.s,o:=setO ns ob' st.o } G' w' b:=by
  intro b hb
  refine⟨?_,fun hp=>?_⟩
  ·rcases hb.1 with h1 | h1
   ·exact .inl h1
   ·exact .inr ⟨h1.1,Nat.lt_of_lt_of_le h1.2 hk.size⟩
  ·rcases hp with⟨r,h1,h2⟩ | ⟨c,p,h1,h2⟩
   ·exact hb.2 (.inl ⟨r,h1,h2⟩)
   ·rcases hob c p h1 with⟨hm,ho⟩ | ⟨hm,ho⟩
    ·rw[fin c hm] at h2
     rcases (hF b (hsubF c hm b h2)).1 with h3 | h3
     ·have:=hlt b hb; omega
     ·exact hNX b hb h3
    ·rw[fout c hm] at h2; exact hb.2 (.inr ⟨c,p,ho,h2⟩)
 have hNn:∀ b,(Nof κ st G w b∨((w.heap.size≤b∨b∈fps G.fp ns)∧b<w'.heap.size∧b∉fps fp' ns))→Nof κ { s:=st.s,o:=setO ns ob' st.o } G' w' b:=by
  rintro b (hb | ⟨h1,h2,h3⟩)
  ·exact hNw b hb
  ·refine⟨.inr ⟨?_,h2⟩,fun hp=>?_⟩
   ·rcases h1 with h1 | h1
    ·exact .inl (by omega)
    ·exact(hXlt b h1).1
   ·rcases hp with⟨r,g1,g2⟩ | ⟨c,p,g1,g2⟩
    ·rcases h1 with h1 | h1
     ·have:=(h.boxes r g1).2; simp only[G'] at g2; omega
     ·exact hbX r g1 (g2▸h1)
    ·rcases hob c p g1 with⟨hm,ho⟩ | ⟨hm,ho⟩
     ·rw[fin c hm] at g2; exact h3 (hsubF c hm b g2)
     ·rw[fout c hm] at g2
      rcases h1 with h1 | h1
      ·have:=((h.objs c p.1 p.2 ho).2.2 b g2).2; omega
      ·exact hoX c p hm ho b g2 h1
 have hw:∀ b,b<w.heap.size→b∉fps G.fp ns→w'.heap[b]?=w.heap[b]?:=hk.block
 have hFold:∀ b∈fps fp' ns,b<w.heap.size→b∈fps G.fp ns:=fun b hb hl=>by
  rcases (hF b hb).1 with h1 | h1
  ·omega
  ·exact h1
 refine⟨G',rfl,⟨h.keep.trans ⟨hk.os,hk.tape,hk.output,hk.size,fun k hk1 hkL=>hw k (by omega) (fun hm=>?_),hk.drawn⟩,h.defers,h.nt,
  fun k=>(h.slots k).frame hNw (fun b hb=>hw b (hlt b hb) (hNX b hb)) (fun _ _=>rfl) (fun _ _=>rfl) (fun hb=>⟨rfl,hw _ (h.boxes k hb).2 (hbX k hb)⟩),?_,fun r hr=>⟨(h.boxes r hr).1,Nat.lt_of_lt_of_le (h.boxes r hr).2 hk.size⟩,h.bb,?_,?_,h.held⟩,hNn⟩
 ·rcases (hXlt k hm).1 with h1 | h1
  ·omega
  ·exact hkL h1
 ·intro c sz es hc
  rcases hob c _ hc with⟨hm,ho⟩ | ⟨hm,ho⟩
  ·rw[fin c hm]
   refine⟨RepC.frame hNn (fun _ _=>rfl) _ _ _ (fun _ _=>rfl) (hrep c sz es hm ho),fn_2 ns hFn c hm,fun b hb=>⟨?_,(hF b (hsubF c hm b hb)).2⟩⟩
   rcases (hF b (hsubF c hm b hb)).1 with h1 | h1
   ·exact .inl (by omega)
   ·exact(hXlt b h1).1
  ·rw[fout c hm]
   obtain⟨g1,g2,g3⟩:=h.objs c sz es ho
   exact⟨RepC.frame hNw (fun b hb=>hw b (hlt b hb) (hNX b hb)) _ _ _ (fun b hb=>hw b (g3 b hb).2 (hoX c _ hm ho b hb)) g1,g2,fun b hb=>⟨(g3 b hb).1,Nat.lt_of_lt_of_le (g3 b hb).2 hk.size⟩⟩
 ·intro r c p hr hc hm
  rcases hob c p hc with⟨hcm,ho⟩ | ⟨hcm,ho⟩
  ·rw[fin c hcm] at hm
   exact hbX r hr (hFold _ (hsubF c hcm _ hm) (h.boxes r hr).2)
  ·rw[fout c hcm] at hm; exact h.bo r c p hr ho hm
 ·intro c c' p p' hc hc' hne b hb hb'
  rcases hob c p hc with⟨hm,ho⟩ | ⟨hm,ho⟩<;>rcases hob c' p' hc' with⟨hm',ho'⟩ | ⟨hm',ho'⟩
  ·rw[fin c hm] at hb; rw[fin c' hm'] at hb'; exact fd_ ns hFn c hm c' hm' hne b hb hb'
  ·rw[fin c hm] at hb; rw[fout c' hm'] at hb'
   exact hoX c' p' hm' ho' b hb' (hFold b (hsubF c hm b hb) ((h.objs c' p'.1 p'.2 ho').2.2 b hb').2)
  ·rw[fout c hm] at hb; rw[fin c' hm'] at hb'
   exact hoX c p hm ho b hb (hFold b (hsubF c' hm' b hb') ((h.objs c p.1 p.2 ho).2.2 b hb).2)
  ·rw[fout c hm] at hb; rw[fout c' hm'] at hb'; exact h.oo c c' p p' ho ho' hne b hb hb'
end
section
theorem uAs_{ob':Nat→Option (Nat×List PV)}:∀ (ns:List Nat) (f:Nat→Option (Nat×List PV)),uA_ f (ns.map fun c=>(c,ob' c))=setO ns ob' f
 | [],f=>by funext c; simp[uA_,setO]
 | n::ns,f=>by
  simp only[aD,uA_]
  rw[uAs_ ns]
  funext c
  simp only[setO,upd,List.mem_cons]
  by_cases h:c∈ns
  ·simp[h]
  ·by_cases e:c=n
   ·subst e; simp[h]
   ·simp[h,e]
end
section
theorem FinIO.mk{P:Program}{st:St}{rs:List ResultVar}{res:PV}{cvs:List CV}{args':List PV}(h:au st.o (rCs_ P st rs)=true∧rO_1 P st rs∧res=aR_ (CV.pvws st.o (rCs_ P st rs))∧CV.pures (rCs_ P st rs)=true∧au st.o cvs=true∧(ar cvs).Nodup∧args'=aB st.o cvs):FinIO P st rs res cvs args':=h
@[congr] theorem FinIO.cg {P:Program} {st st':St} {rs:List ResultVar} {res:PV} {cvs:List CV} {args':List PV} (h:∀ _:Unit,st=st'):FinIO P st rs res cvs args'=FinIO P st' rs res cvs args':=by rw[h ()]

section
variable{P:Program}{nt:Nat}{ops:Array Oper}{i:Nat}{st:St}{K:St→Prop}
def VSeq(P:Program)(nt:Nat)(ops:Array Oper)(i:Nat)(st:St)(K:St→Prop):Prop:=
 ∀ κ a w,κ.nt=nt→R κ st a w→∀ Q:Exit→Act→World→Prop,(∀ st' a' w',K st'→R κ st' a' w'→Q .normal a' w')→wpOps P ops Q (List.range' i (ops.size-i)) a w
theorem VSeq.one{o:Oper}(ho:ops[i]?=some o)(h:sG_ P nt ops st o fun r=>VSeq P nt ops (i+1) (st.app r) K):VSeq P nt ops i st K:=by
 intro κ a w hnt hR Q hQ
 have hi:i<ops.size:=(Array.getElem?_eq_some_iff.1 ho).1
 have e:ops.size-i=(ops.size-(i+1))+1:=by omega
 rw[e,List.range'_succ,wpOps_cons]
 obtain⟨r,h1,h2,h3⟩:=sGo_ ho h
 exact h1 κ _ a w hnt (Rsr_ _ _) h2 hR _ _ (fun a' w' hR'=>h3 κ a' w' hnt hR' Q hQ)
def stepV(P:Program)(nt:Nat)(ops:Array Oper)(i:Nat)(st:St)(K:St→Prop):Option Oper→Prop
 | some o=>sG_ P nt ops st o fun r=>VSeq P nt ops (i+1) (st.app r) K
 | none=>False
@[congr] theorem stepV.cg {st':St} {x x':Option Oper} (h:∀ _:Unit,st=st') (h':∀ _:Unit,x=x'):stepV P nt ops i st K x=stepV P nt ops i st' K x':=by rw[h (),h' ()]
theorem sVs_(o:Oper)(s:Nat→SlotV)(ob:Nat→Option (Nat×List PV)):stepV P nt ops i ⟨s,ob⟩ K (some o)=sG_ P nt ops ⟨s,ob⟩ o fun r=>VSeq P nt ops (i+1) (St.app ⟨s,ob⟩ r) K:=rfl
@[congr] theorem VSeq.cg {st':St} (h:∀ _:Unit,st=st'):VSeq P nt ops i st K=VSeq P nt ops i st' K:=by rw[h ()]
theorem VSeq.step(h:stepV P nt ops i st K ops[i]?):VSeq P nt ops i st K:=by
 cases ho:ops[i]? with
 | none=>rw[ho] at h; exact h.elim
 | some o=>rw[ho] at h; exact VSeq.one ho h
end

def MgI(P:Program)(nt:Nat)(F:St→Prop):Nat→Ctl→St→List Fr→Prop
 | 0,_,_,_=>False
 | n+1,.code c,st,k=>match c with
  | .seq x y=>MgI P nt F n (.code x) st (.sq y::k)
  | .skip=>MgI P nt F n .nrm st k
  | .exit id=>MgI P nt F n (.ex id) st k
  | .ret=>MgI P nt F n .rt st k
  | .block id x=>MgI P nt F n (.code x) st (.bl id::k)
  | .region _ ops dr=>if dr then P.follows .mixedOrders=true∧wpD P nt ops ops.toList st [] (fun recs st'=>DrawH ops st recs .mk .mk .mk∧MgI P nt F n .nrm st' k)
   else VSeq P nt ops 0 st (fun st'=>MgI P nt F n .nrm st' k)
  | .cond c x y=>boolOf (ev P st 0 c) fun b=>CondH b (MgI P nt F n (.code x) st k) (MgI P nt F n (.code y) st k) .mk .mk
  | c=>VC P nt c st (popQ P nt F k)
 | n+1,.nrm,st,k=>match k with
  | []=>F st
  | .sq y::k=>MgI P nt F n (.code y) st k
  | .bl _::k=>MgI P nt F n .nrm st k
  | .rd φ::_=>φ st
 | n+1,.ex id,st,k=>match k with
  | []=>False
  | .sq _::k=>MgI P nt F n (.ex id) st k
  | .bl id'::k=>if id=id' then MgI P nt F n .nrm st k else MgI P nt F n (.ex id) st k
  | .rd _::k=>MgI P nt F n (.ex id) st k
 | n+1,.rt,st,k=>match k with
  | []=>F st
  | _::k=>MgI P nt F n .rt st k
section
variable{P:Program}{nt:Nat}{F:St→Prop}{n:Nat}{st:St}{k:List Fr}
@[congr] theorem MgI.cg {c:Ctl} {st':St} (h:∀ _:Unit,st=st'):MgI P nt F n c st k=MgI P nt F n c st' k:=by rw[h ()]
theorem MIs_1(x y:Code):MgI P nt F (n+1) (.code (.seq x y)) st k=MgI P nt F n (.code x) st (.sq y::k):=rfl
theorem MIs_:MgI P nt F (n+1) (.code .skip) st k=MgI P nt F n .nrm st k:=rfl
theorem MIe_(id:Nat):MgI P nt F (n+1) (.code (.exit id)) st k=MgI P nt F n (.ex id) st k:=rfl
theorem MIr_:MgI P nt F (n+1) (.code .ret) st k=MgI P nt F n .rt st k:=rfl
theorem MIb_(id:Nat)(x:Code):MgI P nt F (n+1) (.code (.block id x)) st k=MgI P nt F n (.code x) st (.bl id::k):=rfl
theorem MIr_1(id:Nat)(l:List Oper):MgI P nt F (n+1) (.code (.region id ⟨l⟩ false)) st k=VSeq P nt ⟨l⟩ 0 st (fun st'=>MgI P nt F n .nrm st' k):=rfl
theorem MId_(id:Nat)(l:List Oper):MgI P nt F (n+1) (.code (.region id ⟨l⟩ true)) st k=(P.follows .mixedOrders=true∧wpD P nt ⟨l⟩ l st [] (fun recs st'=>DrawH ⟨l⟩ st recs .mk .mk .mk∧MgI P nt F n .nrm st' k)):=rfl
theorem MIc_(c:Operand)(x y:Code):MgI P nt F (n+1) (.code (.cond c x y)) st k=boolOf (ev P st 0 c) fun b=>CondH b (MgI P nt F n (.code x) st k) (MgI P nt F n (.code y) st k) .mk .mk:=rfl
theorem MIn_3:MgI P nt F (n+1) .nrm st []=F st:=rfl
theorem MIn_1(y:Code):MgI P nt F (n+1) .nrm st (.sq y::k)=MgI P nt F n (.code y) st k:=rfl
theorem MIn_2(id:Nat):MgI P nt F (n+1) .nrm st (.bl id::k)=MgI P nt F n .nrm st k:=rfl
theorem MIx_(id:Nat)(y:Code):MgI P nt F (n+1) (.ex id) st (.sq y::k)=MgI P nt F n (.ex id) st k:=rfl
theorem MIx_3(id:Nat):MgI P nt F (n+1) (.ex id) st (.bl id::k)=MgI P nt F n .nrm st k:=by simp[MgI]
theorem MIx_2(id id':Nat)(h:(id==id')=false):MgI P nt F (n+1) (.ex id) st (.bl id'::k)=MgI P nt F n (.ex id) st k:=by
 have:id≠id':=by simpa using h
 simp[MgI,this]
theorem MIx_1(id:Nat)(φ:St→Prop):MgI P nt F (n+1) (.ex id) st (.rd φ::k)=MgI P nt F n (.ex id) st k:=rfl
theorem MIr_3:MgI P nt F (n+1) .rt st []=F st:=rfl
theorem MIr_2(f:Fr):MgI P nt F (n+1) .rt st (f::k)=MgI P nt F n .rt st k:=rfl
theorem MIn_(φ:St→Prop):MgI P nt F (n+1) .nrm st (.rd φ::k)=RdH φ st .mk:=rfl
end
section
variable{st:St}
theorem Sld_2(j c sz:Nat)(es:List PV)(v':SlotV)(hc:st.o c=some (sz,es))(hb:iB_ v'=iB_ (st.s j))(h:∀ N w G v,RepC N w (.sl false sz (az es)) [G.hd c] []→SlotOk N w G j v (st.s j)→SlotOk N w G j v v'):st.le ⟨upd st.s j v',upd st.o c none⟩:=by
 rintro κ a w ⟨G,hG⟩
 have hbx:∀ r,iB_ ((⟨upd st.s j v',upd st.o c none⟩:St).s r)=iB_ (st.s r):=by
  intro r
  simp only[upd]
  split
  ·rename_i e; subst e; exact hb
  ·rfl
 have ho:∀ m p,(⟨upd st.s j v',upd st.o c none⟩:St).o m=some p→m≠c∧st.o m=some p:=by
  intro m p hp
  simp only[upd] at hp
  split at hp
  ·cases hp
  ·rename_i e; exact⟨e,hp⟩
 have hP:∀ b,Nof κ st G w b→Nof κ ⟨upd st.s j v',upd st.o c none⟩ G w b:=by
  intro b hb
  refine⟨hb.1,fun hp=>hb.2 ?_⟩
  rcases hp with⟨r,h1,h2⟩ | ⟨m,p,h1,h2⟩
  ·exact .inl ⟨r,by rw[← hbx]; exact h1,h2⟩
  ·exact .inr ⟨m,p,(ho m p h1).2,h2⟩
 obtain⟨k1,k2,k3⟩:=hG.objs c sz es hc
 have hfp:∀ b∈G.fp c,Nof κ ⟨upd st.s j v',upd st.o c none⟩ G w b:=by
  intro b hb
  refine⟨.inr (k3 b hb),?_⟩
  rintro (⟨r,h1,h2⟩ | ⟨m,p,h1,h2⟩)
  ·rw[hbx] at h1; exact hG.bo r c _ h1 hc (h2▸hb)
  ·obtain⟨e,h3⟩:=ho m p h1
   exact hG.oo m c p _ h3 hc e b h2 hb
 have hdem:=RepC.demote hP _ _ _ hfp k1
 simp only[PV.view] at hdem
 refine⟨G,hG.keep,hG.defers,hG.nt,?_,?_,fun r hr=>hG.boxes r (by rw[← hbx]; exact hr),fun r r' h1 h2=>hG.bb r r' (by rw[← hbx]; exact h1) (by rw[← hbx]; exact h2),?_,?_,hG.held⟩
 ·intro i
  have h1:=(hG.slots i).frame (G':=G) hP (fun _ _=>rfl) (fun _ _=>rfl) (fun _ _=>rfl) (fun _=>⟨rfl,rfl⟩)
  simp only[upd]
  split
  ·rename_i e; subst e; exact h _ _ _ _ hdem h1
  ·exact h1
 ·intro m sz' es' hm
  obtain⟨e,h3⟩:=ho m _ hm
  obtain⟨h1,h2,h4⟩:=hG.objs m sz' es' h3
  exact⟨RepC.frame hP (fun _ _=>rfl) _ _ _ (fun _ _=>rfl) h1,h2,h4⟩
 ·intro r m p h1 h2
  exact hG.bo r m p (by rw[← hbx]; exact h1) (ho m p h2).2
 ·intro m m' p p' h1 h2 hne
  exact hG.oo m m' p p' (ho m p h1).2 (ho m' p' h2).2 hne
theorem Sld_{x:CV}{sz:Nat}{es:List PV}(j:Nat)(p:List Nat)(c:Nat)(hk:st.s j=.box x∧x.okp p=true∧x.at p=.own c∧st.o c=some (sz,es)):st.le ⟨upd st.s j (.box (x.setAt p (.pv (.sl false sz (az es))))),upd st.o c none⟩:=by
 obtain⟨h1,h2,h3,h4⟩:=hk
 refine Sld_2 j c sz es _ h4 (by rw[h1]; rfl) fun N w G v hd h=>?_
 rw[h1] at h
 exact(st_1 (z:=.pv (.sl false sz (az es))) h2 h3 (fun cs hcs=>by simp only[RepCV] at hcs ⊢; rw[hcs.1]; exact hd) rfl).1 h
theorem Sld_1{x:CV}{sz:Nat}{es:List PV}(j:Nat)(p:List Nat)(c:Nat)(hk:st.s j=.val x∧x.okp p=true∧x.at p=.own c∧st.o c=some (sz,es)):st.le ⟨upd st.s j (.val (x.setAt p (.pv (.sl false sz (az es))))),upd st.o c none⟩:=by
 obtain⟨h1,h2,h3,h4⟩:=hk
 refine Sld_2 j c sz es _ h4 (by rw[h1]; rfl) fun N w G v hd h=>?_
 rw[h1] at h
 exact(st_1 (z:=.pv (.sl false sz (az es))) h2 h3 (fun cs hcs=>by simp only[RepCV] at hcs ⊢; rw[hcs.1]; exact hd) rfl).2 h
end
theorem NilH.mk{es:List PV}{t:Bool}{K:Bool→Prop}(h1:es=[]→K t)(h2:K (!t)):boolOf (nilV t es) K:=by
 cases es with
 | cons p es=>exact h2
 | nil=>
  rintro v ⟨b,rfl,hb⟩
  refine⟨b,rfl,?_⟩
  by_cases e:b=t
  ·subst e; exact h1 rfl
  ·have:b=!t:=by cases b<;>cases t<;>simp at e ⊢
   rw[this]; exact h2
theorem an_1{α:Type}:app ([]:List α) []=some []:=rfl
theorem cp_1(v:PV):(CV.pv v).clean=v.noOwn:=rfl
theorem co_1(c:Nat):(CV.own c).clean=true:=rfl
theorem cn_1(fs:List CV):(CV.node fs).clean=Cc_ fs:=rfl
theorem cn_:Cc_ []=true:=rfl
theorem cc_3(x:CV)(xs:List CV):Cc_ (x::xs)=(x.clean&&Cc_ xs):=rfl
theorem cc_4{a b:Nat}{l:List Nat}:(a::l).contains b=(b==a||l.contains b):=List.contains_cons
def RI:=ae @MIs_1<|ae @MIs_<|ae @MIe_<|ae @MIr_<|ae @MIb_<|ae @MIr_1<|ae @MId_<|ae @MIc_<|ae @MIn_3<|ae @MIn_1<|ae @MIn_2<|ae @MIn_<|ae @MIx_<|ae @MIx_3<|ae @MIx_2<|ae @MIx_1<|ae @MIr_3<|ae @MIr_2<|@sVs_
attribute [push_cast] aIe_ cp_1 co_1 cn_1 cn_ cc_3 cc_4
end
section
theorem RepV.demote{N N':Nat→Prop}{w:World}(hN:∀ b,N b→N' b){p:PV}{v:Value}{F:List Nat}(hF:∀ b∈F,N' b)(h:RepV N w p v F):RepV N' w p.view v []:=by
 cases p with
 | agg fs=>obtain⟨cs,rfl,h⟩:=h; exact⟨cs,rfl,RepCs.demote hN fs cs F hF h⟩
 | lit u=>exact RepC.demote hN _ _ _ hF h
 | sl o sz es=>exact RepC.demote hN _ _ _ hF h
 | clo f cs=>exact RepC.demote hN _ _ _ hF h
 | ptr u=>exact RepC.demote hN _ _ _ hF h
 | tup vs=>exact RepC.demote hN _ _ _ hF h
theorem RepVs.demote{N N':Nat→Prop}{w:World}(hN:∀ b,N b→N' b):∀ {ps:List PV} {vs:List Value} {F:List Nat},(∀ b∈F,N' b)→RepVs N w ps vs F→RepVs N' w (az ps) vs []
 | [],vs,F,hF,h=>by simp only[RepVs,az] at h ⊢; exact⟨h.1,trivial⟩
 | p::ps,vs,F,hF,h=>by
  simp only[RepVs,az] at h ⊢
  obtain⟨v,vs',F1,F2,rfl,rfl,h3,h4⟩:=h
  exact⟨v,vs',[],[],rfl,rfl,h3.demote hN (fun b hb=>hF b (by simp[hb])),RepVs.demote hN (fun b hb=>hF b (by simp[hb])) h4⟩
theorem RepR.demote{N N':Nat→Prop}{w:World}(hN:∀ b,N b→N' b){p:PV}{v:Value}{F:List Nat}(hF:∀ b∈F,N' b)(h:RepR N w p v F):RepR N' w p.view v []:=by
 cases p with
 | tup ps=>obtain⟨vs,h1,h2⟩:=h; exact⟨vs,h1,h2.demote hN hF⟩
 | lit u=>exact RepV.demote (w:=w) (p:=.lit u) hN hF h
 | agg fs=>exact RepV.demote (w:=w) (p:=.agg fs) hN hF h
 | sl o sz es=>exact RepV.demote (w:=w) (p:=.sl o sz es) hN hF h
 | clo f cs=>exact RepV.demote (w:=w) (p:=.clo f cs) hN hF h
 | ptr u=>exact RepV.demote (w:=w) (p:=.ptr u) hN hF h
theorem Sat.vw{P:Program}{f:FuncId}{args:List PV}{res:PV}(h:Sat P f args res):Sat P f args res.view:=by
 refine⟨h.1,fun w N vs Fs hN hFn hFl hvs=>(h.2 w N vs Fs hN hFn hFl hvs).mono ?_⟩
 rintro e w' ⟨v,F,rfl,hk,hr,hFn',hF⟩
 refine⟨v,[],rfl,hk,hr.demote (fun b hb=>?_) (fun b hb=>.inr ⟨(hF b hb).1,(hF b hb).2,by simp⟩),List.nodup_nil,by simp⟩
 rcases hb with hb | hb
 ·exact .inl hb
 ·exact .inr ⟨hb.1,hb.2.1,by simp⟩
def rnS(c c':Nat):List (Nat×SlotV)→List (Nat×SlotV)
 | []=>[]
 | (j,v)::l=>(j,v.ren c c')::rnS c c' l
def rnO(c c':Nat):List (Nat×(Nat×List PV))→List (Nat×(Nat×List PV))
 | []=>[]
 | (j,v)::l=>(bif j==c then c' else j,v)::rnO c c' l
@[push_cast] theorem rnS_n (c c':Nat):rnS c c' []=[]:=rfl
@[push_cast] theorem rnS_c (c c' j:Nat) (v:SlotV) (l:List (Nat×SlotV)):rnS c c' ((j,v)::l)=(j,v.ren c c')::rnS c c' l:=rfl
@[push_cast] theorem rnO_n (c c':Nat):rnO c c' []=[]:=rfl
@[push_cast] theorem rnO_c (c c' j:Nat) (v:Nat×List PV) (l:List (Nat×(Nat×List PV))):rnO c c' ((j,v)::l)=(bif j==c then c' else j,v)::rnO c c' l:=rfl
theorem Slr_{a:St}{T T':List (Nat×SlotV)}{U U':List (Nat×(Nat×List PV))}(c c':Nat)(h:a.le ⟨mkS T',mkO U'⟩)(hne:c≠c':=by decide)(hT:rnS c' c T=T':=by simp only[push_cast]; rfl)(hU:rnO c' c U=U':=by simp only[push_cast,Nat.reduceBEq,cond_true,cond_false]; rfl)
 (hn:(⟨mkS T',mkO U'⟩:St).noC c':=by exact NM) (hb:(St.ren ⟨mkS T',mkO U'⟩ c c').le ⟨mkS T,mkO U⟩:=by exact Slm_ SC):a.le ⟨mkS T,mkO U⟩:=Slr_2 c c' hne hn hb |> fun h2=>St.le_trans h h2
def FinN(P:Program)(st:St)(rs:List ResultVar)(res:PV):Prop:=∃ st':St,st.le st'∧FinH P st' rs res
@[congr] theorem FinN.cg {P:Program} {st st':St} {rs:List ResultVar} {res:PV} (h:∀ _:Unit,st=st'):FinN P st rs res=FinN P st' rs res:=by rw[h ()]
theorem FinN.mk{P:Program}{st:St}{rs:List ResultVar}{res:PV}(h:FinH P st rs res):FinN P st rs res:=⟨st,St.le_refl _,h⟩
theorem FinN.nil{P:Program}{st:St}{rs:List ResultVar}{res:PV}(j sz:Nat)(hj:st.s j=.val (.pv (.sl true sz [])))(h:FinH P ⟨upd st.s j (.val (.pv (.lit (.slice none 0 0)))),st.o⟩ rs res):FinN P st rs res:=by
 refine⟨_,Sls_ j _ (by rw[hj]; rfl) fun N w G v hv=>?_,h⟩
 rw[hj] at hv
 rw[sn_1 hv]
 exact sOl_ rfl
theorem vt_(vs:List PV):(PV.tup vs).view=.tup (az vs):=rfl
theorem Sat.vwOf{P:Program}{f:FuncId}{args:List PV}{res res':PV}(h:Sat P f args res)(e:res.view=res'):Sat P f args res':=e▸h.vw
section
variable{P:Program}{nt:Nat}{st:St}
theorem iKa_(T:TypeId)(x y:Operand)(K:List Nat→List Nat→SlotV→Prop)(r:Nat)(p:List Nat)(off:Nat)(k:IntKind)(n:Int):idxK P st T x y K (.bptr r p off) (.val (.pv (.lit (.int k n))))=ArrH P T n (fun k sz=>K (rd x++rd y) [] (.bptr r (p++[k]) (off+k*sz))) .mk:=rfl
theorem sOa_(d T:Nat)(rs:List Nat)(lo hi:Option Operand)(K:Rec→Prop)(r:Nat)(p:List Nat)(off:Nat):slcO P nt st d T rs lo hi K (.bptr r p off)=(d<nt∧slcArr P st T d rs lo hi K r p off (st.s r)):=rfl
theorem sAb_(T d:Nat)(rs:List Nat)(lo hi:Option Operand)(K:Rec→Prop)(r:Nat)(p:List Nat)(off:Nat)(c:CV):slcArr P st T d rs lo hi K r p off (.box c)=ArrSlH P T lo hi p off c.pure (c.pvw st.o) (fun sz es=>(r==d)=false∧K { rs:=r::rs,ro:=c.names,us:=[(r,.val (.pv (.ptr (.agg es)))),(d,.val (.pv (.sl false sz es)))] }) .mk:=rfl
theorem ArrSlH.mk{T m sz:Nat}{b:Bool}{v:PV}{es:List PV}{K:Nat→List PV→Prop}(hT:AI_ P T m sz)(hm:m≤maxLen)(h:b=true∧v=.agg es∧es.length=m)(hs:∀ e∈es,PV.size e=sz)(hK:K sz es):ArrSlH P T none none [] 0 b v K .mk:=
 ⟨rfl,rfl,rfl,rfl,h.1,m,sz,es,hT,h.2.1,h.2.2,hs,hm,hK⟩
def CopyH(P:Program)(nt:Nat)(st:St)(o:Oper)(K:Rec→Prop)(_:Tok K):Prop:=RO_ P nt st o K
theorem cKc_(o:Oper)(x y:Operand)(T T':TypeId)(K:Rec→Prop):cK_ P nt st o { callee:=.builtin .copy,args:=#[x,y],argTypes:=#[T,T'] } K=CopyH P nt st o K .mk:=rfl
theorem nOm_{α:Type}{f:α→PV}(hf:∀ a,(f a).noOwn=true):∀ xs:List α,PV.noOwns (xs.map f)=true
 | []=>rfl
 | x::xs=>by simp only[aD,PV.noOwns,hf x,nOm_ hf xs,Bool.and_self]
theorem CopyH.view{α:Type}{f:α→PV}{o:Oper}{d c sz bytes:Nat}{x y:Operand}{T T':TypeId}{xs ys:List α}{es zs:List PV}{K:Rec→Prop}(hf:∀ a,(f a).noOwn=true)(hop:o.op=.call { callee:=.builtin .copy,args:=#[x,y],argTypes:=#[T,T'] })(hdst:o.dst=some d)(hd:d<nt)
 (hT:SlIs P T sz bytes) (hx:ev P st T x=.val (.own c)) (hc:st.o c=some (sz,es)) (hy:ev P st T' y=.val (.pv (.sl false sz zs))) (he:es=xs.map f) (hz:zs=ys.map f)
 (hK:K { rs:=rd x++rd y,ro:=[c],us:=[(d,.val (.pv (.lit (.int .i64 (min (ys.length:Int) (xs.length:Int))))))],uo:=[(c,some (sz,(ys.take xs.length++xs.drop ys.length).map f))] }):CopyH P nt st o K .mk:=by
 subst he; subst hz
 refine⟨_,vcv_ hop hdst hd hT hx hc hy (nOm_ hf xs),fn_ rfl rfl,?_⟩
 have e:((min (ys.map f).length (xs.map f).length:Nat):Int)=min (ys.length:Int) (xs.length:Int):=by simp only[List.length_map]; omega
 rw[e]
 simpa[List.map_append,List.map_take,List.map_drop] using hK
theorem pOf_(k:Nat)(cs rs:List Nat)(ps:List PV)(f:List Value→List Nat→List Value→Value):pO_ k (.fn cs rs ps f)=.fn cs rs ps f:=rfl
section
variable{P:Program}{nt:Nat}
def bslV(P:Program)(st:St)(d T:Nat)(rs:List Nat)(K:Rec→Prop)(es:List PV)(cvs:List CV):Prop:=
 au st.o cvs=true∧(∀ x∈cvs,x.size=eS_ P T)∧(ar cvs).Nodup∧st.noC (16*d)∧az (aB st.o cvs)=es∧
  K { rs:=rs,ro:=ar cvs,fc:=[16*d],us:=[(d,.val (.pv (.sl false (eS_ P T) es)))],uo:=deadObjs (ar cvs) }
@[congr] theorem bslV.cg {st:St} {d T:Nat} {rs:List Nat} {K:Rec→Prop} {es:List PV} {c c':List CV} (h:∀ _:Unit,c=c'):bslV P st d T rs K es c=bslV P st d T rs K es c':=by rw[h ()]
theorem bVc_(st:St)(d T:Nat)(rs:List Nat)(K:Rec→Prop)(es:List PV)(c:CV)(cvs:List CV):bslV P st d T rs K es (c::cvs)=(au st.o (c::cvs)=true∧(∀ x∈c::cvs,x.size=eS_ P T)∧(ar (c::cvs)).Nodup∧st.noC (16*d)∧az (aB st.o (c::cvs))=es∧
 K { rs:=rs,ro:=ar (c::cvs),fc:=[16*d],us:=[(d,.val (.pv (.sl false (eS_ P T) es)))],uo:=deadObjs (ar (c::cvs)) }):=rfl
theorem bVn_(st:St)(d T:Nat)(rs:List Nat)(K:Rec→Prop)(es:List PV):bslV P st d T rs K es ([]:List CV)=(au st.o ([]:List CV)=true∧(∀ x∈([]:List CV),x.size=eS_ P T)∧(ar ([]:List CV)).Nodup∧st.noC (16*d)∧az (aB st.o ([]:List CV))=es∧
 K { rs:=rs,ro:=ar ([]:List CV),fc:=[16*d],us:=[(d,.val (.pv (.sl false (eS_ P T) es)))],uo:=deadObjs (ar ([]:List CV)) }):=rfl
end
theorem iIB_1(k:IntKind):iIB_ (some (.int k))=true:=rfl
theorem vn_2:az []=[]:=rfl
theorem vc_3(p:PV)(ps:List PV):az (p::ps)=p.view::az ps:=rfl
def RX:=ae @iKa_<|ae @sOa_<|ae @sAb_<|ae @cKc_<|ae @bKn_2<|ae @bKn_3<|ae @nXe_<|ae @nXn_<|ae @nVc_<|@pOf_
attribute [push_cast] iIB_1 bVc_ bVn_ vn_2 vc_3 vs_ va_ vl_ vt_ iKa_ sOa_ sAb_ cKc_ pOf_
end
end
section
def byt(s:ByteArray)(i:Nat):Int:=((s.data.toList.getD i 0).toNat:Int)
theorem sn_{s:ByteArray}{i:Nat}(h:i<s.size):sidx s (i:Int)=some (byt s i):=by
 unfold sidx byt
 rw[if_pos (by omega)]; simp
theorem s_{s:ByteArray}(h:0<s.size):sidx s 0=some (byt s 0):=sn_ (i:=0) h
theorem bn_{n:Nat}(h:Big n):bnd (n:Int)=some n:=by
 unfold bnd
 simp only[Big] at h
 rw[if_pos (by omega)]; simp
theorem bLi_:∀ a:List UInt8,Op.bytesLess a a=false
 | []=>rfl
 | x::a=>by simp[Op.bytesLess,bLi_ a]
theorem bLa_:∀ {a b:List UInt8},Op.bytesLess a b=true→Op.bytesLess b a=false
 | _,[],h=>by simp[Op.bytesLess] at h
 | [],_::_,_=>rfl
 | x::a,y::b,h=>by
  simp only[Op.bytesLess,Bool.or_eq_true,decide_eq_true_eq,aq,beq_iff_eq] at h
  simp only[Op.bytesLess,Bool.or_eq_false_iff,decide_eq_false_iff_not,Bool.and_eq_false_iff]
  rcases h with h | ⟨rfl,h⟩
  ·refine⟨fun g=>?_,.inl ?_⟩
   ·exact absurd (UInt8.lt_trans h g) (UInt8.lt_irrefl _)
   ·simp only[beq_eq_false_iff_ne]; rintro rfl; exact absurd h (UInt8.lt_irrefl _)
  ·exact⟨UInt8.lt_irrefl _,.inr (bLa_ h)⟩
theorem bLt_1:∀ {a b:List UInt8},Op.bytesLess a b=false→Op.bytesLess b a=false→a=b
 | [],[],_,_=>rfl
 | [],_::_,h,_=>by simp[Op.bytesLess] at h
 | _::_,[],_,h=>by simp[Op.bytesLess] at h
 | x::a,y::b,h,h'=>by
  simp only[Op.bytesLess,Bool.or_eq_false_iff,decide_eq_false_iff_not,Bool.and_eq_false_iff,beq_eq_false_iff_ne] at h h'
  have e:x=y:=by
   rcases Nat.lt_trichotomy x.toNat y.toNat with g | g | g
   ·exact absurd (UInt8.lt_iff_toNat_lt.2 g) h.1
   ·exact UInt8.toNat_inj.1 g
   ·exact absurd (UInt8.lt_iff_toNat_lt.2 g) h'.1
  subst e
  have:=bLt_1 (a:=a) (b:=b) (by simpa using h.2) (by simpa using h'.2)
  rw[this]
theorem bLt_:∀ {a b c:List UInt8},Op.bytesLess a b=true→Op.bytesLess b c=true→Op.bytesLess a c=true
 | _,[],_,h,_=>by simp[Op.bytesLess] at h
 | _,_::_,[],_,h=>by simp[Op.bytesLess] at h
 | [],_::_,_::_,_,_=>rfl
 | x::a,y::b,z::c,h,h'=>by
  simp only[Op.bytesLess,Bool.or_eq_true,decide_eq_true_eq,aq,beq_iff_eq] at h h' ⊢
  rcases h with h | ⟨rfl,h⟩
  ·rcases h' with h' | ⟨rfl,h'⟩
   ·exact .inl (UInt8.lt_trans h h')
   ·exact .inl h
  ·rcases h' with h' | ⟨rfl,h'⟩
   ·exact .inl h'
   ·exact .inr ⟨rfl,bLt_ h h'⟩
def slt(a b:ByteArray):Bool:=Op.bytesLess a.data.toList b.data.toList
theorem be_1{a b:ByteArray}(h:a.data.toList=b.data.toList):a=b:=by
 cases a; cases b; simp at h; simpa using h
theorem fNf_1{p:Nat→Bool}{f:Nat→Unit→Option (Flow Int Unit)}{n:Nat}(h:∀ j,j<n→f j ()=some (bif p j then .rt (j:Int) else .nx ())):
 ∃ r:Int,thenL (forN f n 0 ()) (fun _=>some (-1))=some r∧decide (0≤r)=(List.range n).any p:=by
 have key:∀ (m i:Nat),i+m=n→(∀ j,j<i→p j=false)→∃ r:Int,thenL (forN f m i ()) (fun _=>some (-1))=some r∧decide (0≤r)=(List.range n).any p:=by
  intro m
  induction m with
  | zero=>
   intro i hi hp
   refine⟨-1,rfl,?_⟩
   have:(List.range n).any p=false:=List.any_eq_false.2 (fun x hx=>by rw[hp x (by simp at hx; omega)]; simp)
   rw[this]; rfl
  | succ m ih=>
   intro i hi hp
   have h0:=h i (by omega)
   by_cases e:p i=true
   ·refine⟨i,by rw[fNr_ (r:=(i:Int)) (by rw[h0,e]; rfl),tLi_1],?_⟩
    have:(List.range n).any p=true:=List.any_eq_true.2 ⟨i,by simp; omega,e⟩
    rw[this]; simp
   ·have e1:p i=false:=by simpa using e
    rw[fNn_ (s':=()) (by rw[h0,e1]; rfl)]
    exact ih (i+1) (by omega) (fun j hj=>(Nat.lt_or_ge j i).elim (hp j) (fun g=>by rw[show j=i by omega]; exact e1))
 exact key n 0 (by omega) (fun j hj=>by omega)
theorem ral_1{α:Type}[Inhabited α](xs:List α)(p:α→Bool):(List.range xs.length).any (fun i=>p (xs.getD i default))=xs.any p:=by
 have:=ral_ xs (fun x=>!p x)
 rw[List.all_eq_not_any_not,List.all_eq_not_any_not] at this
 simpa using this
theorem fNa_1{ρ:Type}(c:Nat→Bool){f:Nat→Unit→Option (Flow ρ Unit)}{r0:ρ}{n:Nat}{k:Unit→Option ρ}(hn:0<n)(h0:c 0=true)(h:∀ j,0<j→j<n→(∀ k,k<j→c k=true)→f j ()=some (bif c j then .nx () else .rt r0)):
 thenL (forN f (n-1) 1 ()) k=bif (List.range n).all c then k () else some r0:=by
 have key:∀ (m i:Nat),0<i→(∀ j,j<i→c j=true)→i+m=n→forN f m i ()=some (bif (List.range n).all c then .inr () else .inl r0):=by
  intro m
  induction m with
  | zero=>
   intro i _ hc hi
   have:(List.range n).all c=true:=List.all_eq_true.2 (fun x hx=>hc x (by simp at hx; omega))
   rw[this]; rfl
  | succ m ih=>
   intro i hi0 hc hi
   have g:=h i hi0 (by omega) hc
   by_cases e:c i=true
   ·rw[fNn_ (s':=()) (by rw[g,e]; rfl)]
    exact ih (i+1) (by omega) (fun j hj=>(Nat.lt_or_ge j i).elim (hc j) (fun g=>by rw[show j=i by omega]; exact e)) (by omega)
   ·have e1:c i=false:=by simpa using e
    rw[fNr_ (r:=r0) (by rw[g,e1]; rfl)]
    have:(List.range n).all c=false:=List.all_eq_false.2 ⟨i,by simp; omega,by simp[e1]⟩
    rw[this]; rfl
 rw[key (n-1) 1 (by omega) (fun j hj=>by rw[show j=0 by omega]; exact h0) (by omega)]
 cases (List.range n).all c<;>rfl
end
section
end
section
theorem fl_{α:Type}[Inhabited α]{f:α→Option Bool}{p:α→Bool}(xs:List α)(h:∀ x∈xs,f x=some (p x)):
 (thenL (forN (fun (i:Nat) (_:Unit)=>(idx xs (i:Int)).bind fun v=>(f v).bind fun b=>bif b then some (.rt (i:Int)) else some (.nx ())) xs.length 0 ()) fun _=>some (-1)).bind (fun r=>some (decide ((0:Int)≤r)))=some (xs.any p):=by
 obtain⟨r,h1,h2⟩:=fNf_1 (n:=xs.length) (p:=fun i=>p (xs.getD i default)) (f:=fun (i:Nat) (_:Unit)=>(idx xs (i:Int)).bind fun v=>(f v).bind fun b=>bif b then some (.rt (i:Int)) else some (.nx ())) (fun j hj=>by
  simp only[igD_ hj,ah,h _ (gDm_ hj)]
  cases p (xs.getD j default)<;>rfl)
 rw[h1,ah,h2,ral_1]
end
section
theorem lsm_{α:Type}(f:α→Nat){l:List α}{a:α}(h:a∈l):f a≤(l.map f).sum:=by
 induction l with
 | nil=>cases h
 | cons b l ih=>
  simp only[aD,List.sum_cons]
  rcases List.mem_cons.1 h with rfl | h
  ·omega
  ·have:=ih h; omega
open Classical in
theorem mc_{α β:Type}[Inhabited β]{l:List α}{P:α→β→Prop}(h:∀ a∈l,∃ b,P a b):∃ R:α→β,∀ a∈l,P a (R a):=by
 refine⟨fun a=>if ha:a∈l then Classical.choose (h a ha) else default,fun a ha=>?_⟩
 simp only[ha,dif_pos]
 exact Classical.choose_spec (h a ha)
end
section
theorem wNn_{ρ σ:Type}{f:σ→Option (Flow ρ σ)}{n:Nat}{s s':σ}(h:f s=some (.nx s')):whileN f (n+1) s=whileN f n s':=by simp[whileN,h]
theorem wNb_{ρ σ:Type}{f:σ→Option (Flow ρ σ)}{n:Nat}{s s':σ}(h:f s=some (.br s')):whileN f (n+1) s=some (.inr s'):=by simp[whileN,h]
theorem wNr_{ρ σ:Type}{f:σ→Option (Flow ρ σ)}{n:Nat}{s:σ}{r:ρ}(h:f s=some (.rt r)):whileN f (n+1) s=some (.inl r):=by simp[whileN,h]
theorem un_1{n:Nat}(h:n≤9223372036854775807):IntKind.u64.wrap (n:Int)=n:=by
 simp[IntKind.wrap,IntKind.bits,IntKind.signed]; omega
end
section
def lcn{α:Type}(c:α→Nat)(xs:List α):Nat:=(xs.map c).sum
theorem lc_{α:Type}(c:α→Nat)(x:α)(xs:List α):lcn c (x::xs)=c x+lcn c xs:=by simp[lcn]
def MH{α ι:Type}(P:ι→Prop)(mk:ι→List α→Int→Option (Int×List α))(hd:ι→List α→Int→Option Int)(xs:List α)(c:Nat):Prop:=
 ∀ k:Int,1≤k→k+c≤2305843009213693952→∃ ys,∀ p,P p→mk p xs k=some (k+c,ys)∧hd p ys k=some (k+c)
theorem en_{ρ σ:Type}{f:σ→Option (Flow ρ σ)}{s s':σ}{r:ρ ⊕ σ}(h:f s=some (.nx s'))(h':Ev (fun n=>whileN f n s') r):Ev (fun n=>whileN f n s) r:=by
 obtain⟨N,hN⟩:=h'
 refine⟨N+1,fun n hn=>?_⟩
 cases n with
 | zero=>omega
 | succ n=>simp only[whileN,h,ah]; exact hN n (by omega)
theorem eb_{ρ σ:Type}{f:σ→Option (Flow ρ σ)}{s s':σ}(h:f s=some (.br s')):Ev (fun n=>whileN f n s) (.inr s'):=by
 refine⟨1,fun n hn=>?_⟩
 cases n with
 | zero=>omega
 | succ n=>simp[whileN,h]
theorem er_{ρ σ:Type}{f:σ→Option (Flow ρ σ)}{s:σ}{r:ρ}(h:f s=some (.rt r)):Ev (fun n=>whileN f n s) (.inl r):=by
 refine⟨1,fun n hn=>?_⟩
 cases n with
 | zero=>omega
 | succ n=>simp[whileN,h]
theorem im_{α:Type}(pre:List α)(x:α)(rest:List α):idx (pre++x::rest) (pre.length:Int)=some x:=by
 rw[in_]; simp
theorem ml_1{α ρ ι:Type}{P:ι→Prop}{fm:ι→List α×Int×Int→Option (Flow ρ (List α×Int×Int))}{fh:ι→List α→Nat→Int→Option (Flow Int Int)}{cnt:α→Nat}
 (hend:∀ p (l:List α) (k:Int),fm p (l,k,(l.length:Int))=some (.br (l,k,(l.length:Int)))):
 ∀ (xs pre:List α) (k:Int),1≤k→k+lcn cnt xs≤2305843009213693952→pre.length+xs.length≤4611686018427387904→
 (∀ x∈xs,∀ k:Int,1≤k→k+cnt x≤2305843009213693952→∃ y,∀ p,P p→(∀ pre rest:List α,pre.length<4611686018427387904→fm p (pre++x::rest,k,(pre.length:Int))=some (.nx (pre++y::rest,k+cnt x,((pre.length+1:Nat):Int))))∧
  ∀ (ys:List α) (i:Nat),ys[i]?=some y→fh p ys i k=some (.nx (k+cnt x)))→
 ∃ ys,∀ p,P p→Ev (fun n=>whileN (fm p) n (pre++xs,k,(pre.length:Int))) (.inr (pre++ys,k+lcn cnt xs,((pre++ys).length:Int)))∧
  ∀ pre':List α,forN (fh p (pre'++ys)) ys.length pre'.length k=some (.inr (k+lcn cnt xs))
 | [],pre,k,_,_,_,_=>by
  refine⟨[],fun p _=>⟨?_,fun pre'=>by simp[forN,lcn]⟩⟩
  have:=eb_ (hend p pre k)
  simpa[lcn] using this
 | x::xs,pre,k,h0,h1,h2,hel=>by
  rw[lc_] at h1
  obtain⟨y,g⟩:=hel x (by simp) k h0 (by omega)
  simp only[aA] at h2
  obtain⟨ys,e⟩:=ml_1 hend xs (pre++[y]) (k+cnt x) (by omega) (by omega) (by simp; omega) (fun z hz=>hel z (by simp[hz]))
  have e3:k+((lcn cnt (x::xs):Nat):Int)=k+cnt x+lcn cnt xs:=by rw[lc_]; omega
  refine⟨y::ys,fun p hp=>⟨en_ ((g p hp).1 pre xs (by omega)) ?_,fun pre'=>?_⟩⟩
  ·rw[e3]
   simpa using (e p hp).1
  ·rw[aA,fNn_ ((g p hp).2 _ _ (by simp))]
   have:=(e p hp).2 (pre'++[y])
   rw[e3]
   simpa using this
theorem MH.of{α ι:Type}{P:ι→Prop}{mk:ι→List α→Int→Option (Int×List α)}{hd:ι→List α→Int→Option Int}{fm:ι→List α×Int×Int→Option (Flow (Int×List α) (List α×Int×Int))}{fh:ι→List α→Nat→Int→Option (Flow Int Int)}{cnt:α→Nat}{xs:List α}
 (hmk:∀ p,P p→∀ k,mk p xs k=thenL (lim fun n=>whileN (fm p) n (xs,k,0)) fun s=>some (s.2.1,s.1)) (hhd:∀ p,P p→∀ ys k,hd p ys k=thenL (forN (fh p ys) ys.length 0 k) fun s=>some s)
 (hend:∀ p (l:List α) (k:Int),fm p (l,k,(l.length:Int))=some (.br (l,k,(l.length:Int)))) (hlen:(lcn cnt xs:Int)≤2305843009213693952→xs.length≤4611686018427387904)
 (hel:∀ x∈xs,∀ k:Int,1≤k→k+cnt x≤2305843009213693952→∃ y,∀ p,P p→(∀ pre rest:List α,pre.length<4611686018427387904→fm p (pre++x::rest,k,(pre.length:Int))=some (.nx (pre++y::rest,k+cnt x,((pre.length+1:Nat):Int))))∧
  ∀ (ys:List α) (i:Nat),ys[i]?=some y→fh p ys i k=some (.nx (k+cnt x))):MH P mk hd xs (lcn cnt xs):=by
 intro k h0 h1
 obtain⟨ys,e⟩:=ml_1 hend xs [] k h0 h1 (by simpa using hlen (by omega)) hel
 refine⟨ys,fun p hp=>⟨?_,?_⟩⟩
 ·rw[hmk p hp,show((0:Int))=(([]:List α).length:Int) from rfl,show xs=[]++xs from rfl,le_ (e p hp).1]; rfl
 ·rw[hhd p hp]
  have:=(e p hp).2 []
  simp only[List.nil_append,List.length_nil] at this
  rw[this]; rfl
theorem MH.lim{α:Type}{mk:Nat→List α→Int→Option (Int×List α)}{hd:Nat→List α→Int→Option Int}{xs:List α}{c N:Nat}(h:MH (fun n=>N≤n) mk hd xs c):MH (fun _:Unit=>True) (fun _ xs k=>Av.lim fun n=>mk n xs k) (fun _ xs k=>Av.lim fun n=>hd n xs k) xs c:=by
 intro k h0 h1
 obtain⟨ys,e⟩:=h k h0 h1
 exact⟨ys,fun _ _=>⟨le_ ⟨N,fun n hn=>(e n hn).1⟩,le_ ⟨N,fun n hn=>(e n hn).2⟩⟩⟩
theorem MH.sub{α ι:Type}{P Q:ι→Prop}{mk:ι→List α→Int→Option (Int×List α)}{hd:ι→List α→Int→Option Int}{xs:List α}{c:Nat}(h:MH P mk hd xs c)(hs:∀ p,Q p→P p):MH Q mk hd xs c:=by
 intro k h0 h1
 obtain⟨ys,e⟩:=h k h0 h1
 exact⟨ys,fun p hp=>e p (hs p hp)⟩
def MK{α ι:Type}(P:ι→Prop)(mk:ι→List α→Int→Option (Int×List α))(xs:List α)(c:Nat):Prop:=
 ∀ k:Int,1≤k→k+c≤2305843009213693952→∃ ys,∀ p,P p→mk p xs k=some (k+c,ys)
theorem ml_{α ρ ι:Type}{P:ι→Prop}{fm:ι→List α×Int×Int→Option (Flow ρ (List α×Int×Int))}{cnt:α→Nat}
 (hend:∀ p (l:List α) (k:Int),fm p (l,k,(l.length:Int))=some (.br (l,k,(l.length:Int)))):
 ∀ (xs pre:List α) (k:Int),1≤k→k+lcn cnt xs≤2305843009213693952→pre.length+xs.length≤4611686018427387904→
 (∀ x∈xs,∀ k:Int,1≤k→k+cnt x≤2305843009213693952→∃ y,∀ p,P p→∀ pre rest:List α,pre.length<4611686018427387904→fm p (pre++x::rest,k,(pre.length:Int))=some (.nx (pre++y::rest,k+cnt x,((pre.length+1:Nat):Int))))→
 ∃ ys,∀ p,P p→Ev (fun n=>whileN (fm p) n (pre++xs,k,(pre.length:Int))) (.inr (pre++ys,k+lcn cnt xs,((pre++ys).length:Int)))
 | [],pre,k,_,_,_,_=>by
  refine⟨[],fun p _=>?_⟩
  have:=eb_ (hend p pre k)
  simpa[lcn] using this
 | x::xs,pre,k,h0,h1,h2,hel=>by
  rw[lc_] at h1
  obtain⟨y,g⟩:=hel x (by simp) k h0 (by omega)
  simp only[aA] at h2
  obtain⟨ys,e⟩:=ml_ hend xs (pre++[y]) (k+cnt x) (by omega) (by omega) (by simp; omega) (fun z hz=>hel z (by simp[hz]))
  have e3:k+((lcn cnt (x::xs):Nat):Int)=k+cnt x+lcn cnt xs:=by rw[lc_]; omega
  refine⟨y::ys,fun p hp=>en_ (g p hp pre xs (by omega)) ?_⟩
  rw[e3]
  simpa using e p hp
theorem MK.of{α ι:Type}{P:ι→Prop}{mk:ι→List α→Int→Option (Int×List α)}{fm:ι→List α×Int×Int→Option (Flow (Int×List α) (List α×Int×Int))}{cnt:α→Nat}{xs:List α}
 (hmk:∀ p,P p→∀ k,mk p xs k=thenL (lim fun n=>whileN (fm p) n (xs,k,0)) fun s=>some (s.2.1,s.1))
 (hend:∀ p (l:List α) (k:Int),fm p (l,k,(l.length:Int))=some (.br (l,k,(l.length:Int)))) (hlen:(lcn cnt xs:Int)≤2305843009213693952→xs.length≤4611686018427387904)
 (hel:∀ x∈xs,∀ k:Int,1≤k→k+cnt x≤2305843009213693952→∃ y,∀ p,P p→∀ pre rest:List α,pre.length<4611686018427387904→fm p (pre++x::rest,k,(pre.length:Int))=some (.nx (pre++y::rest,k+cnt x,((pre.length+1:Nat):Int)))):MK P mk xs (lcn cnt xs):=by
 intro k h0 h1
 obtain⟨ys,e⟩:=ml_ hend xs [] k h0 h1 (by simpa using hlen (by omega)) hel
 refine⟨ys,fun p hp=>?_⟩
 rw[hmk p hp,show((0:Int))=(([]:List α).length:Int) from rfl,show xs=[]++xs from rfl,le_ (e p hp)]; rfl
theorem MK.lim{α:Type}{mk:Nat→List α→Int→Option (Int×List α)}{xs:List α}{c N:Nat}(h:MK (fun n=>N≤n) mk xs c):MK (fun _:Unit=>True) (fun _ xs k=>Av.lim fun n=>mk n xs k) xs c:=by
 intro k h0 h1
 obtain⟨ys,e⟩:=h k h0 h1
 exact⟨ys,fun _ _=>le_ ⟨N,fun n hn=>e n hn⟩⟩
theorem MK.sub{α ι:Type}{P Q:ι→Prop}{mk:ι→List α→Int→Option (Int×List α)}{xs:List α}{c:Nat}(h:MK P mk xs c)(hs:∀ p,Q p→P p):MK Q mk xs c:=by
 intro k h0 h1
 obtain⟨ys,e⟩:=h k h0 h1
 exact⟨ys,fun p hp=>e p (hs p hp)⟩
end
section
section
variable{α β ρ σ:Type}
def OLe(a b:Option α):Prop:=∀ r,a=some r→b=some r
theorem OLe.refl(a:Option α):OLe a a:=fun _ h=>h
theorem OLe.none(a:Option α):OLe none a:=fun _ h=>by cases h
theorem OLe.trans{a b c:Option α}(h:OLe a b)(h':OLe b c):OLe a c:=fun r hr=>h' r (h r hr)
theorem OLe.bind{a b:Option α}{k k':α→Option β}(h:OLe a b)(hk:∀ v,OLe (k v) (k' v)):OLe (a.bind k) (b.bind k'):=by
 intro r hr
 cases ha:a with
 | none=>rw[ha] at hr; simp at hr
 | some v=>rw[ha,ah] at hr; rw[h v ha,ah]; exact hk v r hr
theorem OLe.cond{b:Bool}{x x' y y':Option α}(h:OLe x x')(h':OLe y y'):OLe (cond b x y) (cond b x' y'):=by cases b<;>assumption
theorem OLe.forN{f f':Nat→σ→Option (Flow ρ σ)}(h:∀ i s,OLe (f i s) (f' i s)):∀ (n i:Nat) (s:σ),OLe (Av.forN f n i s) (Av.forN f' n i s)
 | 0,_,_=>OLe.refl _
 | n+1,i,s=>by
  simp only[Av.forN]
  refine OLe.bind (h i s) (fun v=>?_)
  cases v with
  | nx s'=>exact OLe.forN h n (i+1) s'
  | br s'=>exact OLe.refl _
  | rt r=>exact OLe.refl _
theorem OLe.whileN{f f':σ→Option (Flow ρ σ)}(h:∀ s,OLe (f s) (f' s)):∀ (n:Nat) (s:σ),OLe (Av.whileN f n s) (Av.whileN f' n s)
 | 0,_=>OLe.refl _
 | n+1,s=>by
  simp only[Av.whileN]
  refine OLe.bind (h s) (fun v=>?_)
  cases v with
  | nx s'=>exact OLe.whileN h n s'
  | br s'=>exact OLe.refl _
  | rt r=>exact OLe.refl _
theorem wNm_{f:σ→Option (Flow ρ σ)}:∀ (n:Nat) (s:σ),OLe (Av.whileN f n s) (Av.whileN f (n+1) s)
 | 0,_=>OLe.none _
 | n+1,s=>by
  rw[Av.whileN,Av.whileN]
  refine OLe.bind (OLe.refl _) (fun v=>?_)
  cases v with
  | nx s'=>exact wNm_ n s'
  | br s'=>exact OLe.refl _
  | rt r=>exact OLe.refl _
theorem OLe.thenL{m m':Option (ρ ⊕ σ)}{k k':σ→Option ρ}(h:OLe m m')(hk:∀ s,OLe (k s) (k' s)):OLe (Av.thenL m k) (Av.thenL m' k'):=by
 refine OLe.bind h (fun v=>?_)
 cases v with
 | inl r=>exact OLe.refl _
 | inr s=>exact hk s
def Mono(m:Nat→Option α):Prop:=∀ n,OLe (m n) (m (n+1))
theorem Mono.le{m:Nat→Option α}(h:Mono m){n k:Nat}(hnk:n≤k):OLe (m n) (m k):=by
 induction k with
 | zero=>
  have:n=0:=by omega
  subst this; exact OLe.refl _
 | succ k ih=>
  by_cases e:n=k+1
  ·subst e; exact OLe.refl _
  ·exact(ih (by omega)).trans (h k)
def LimIs(m:Nat→Option α)(l:Option α):Prop:=Mono m∧∀ r,l=some r↔∃ n,m n=some r
theorem LIo_{m:Nat→Option α}(h:Mono m):LimIs m (lim m):=by
 refine⟨h,fun r=>⟨fun hr=>ls_ hr,?_⟩⟩
 rintro ⟨n,hn⟩
 exact le_ ⟨n,fun k hk=>h.le hk r hn⟩
theorem LimIs.const(a:Option α):LimIs (fun _=>a) a:=⟨fun _=>OLe.refl _,fun r=>⟨fun h=>⟨0,h⟩,fun ⟨_,h⟩=>h⟩⟩
theorem LimIs.bind{m:Nat→Option α}{l:Option α}{k:Nat→α→Option β}{kl:α→Option β}(h:LimIs m l)(hk:∀ v,LimIs (fun n=>k n v) (kl v)):LimIs (fun n=>(m n).bind (k n)) (l.bind kl):=by
 refine⟨fun n=>OLe.bind (h.1 n) (fun v=>(hk v).1 n),fun r=>⟨fun hr=>?_,?_⟩⟩
 ·cases hl:l with
  | none=>rw[hl] at hr; simp at hr
  | some v=>
   rw[hl,ah] at hr
   obtain⟨n,hn⟩:=(h.2 v).1 hl
   obtain⟨n',hn'⟩:=((hk v).2 r).1 hr
   refine⟨max n n',?_⟩
   simp only
   rw[h.1.le (Nat.le_max_left n n') v hn,ah]
   exact(hk v).1.le (Nat.le_max_right n n') r hn'
 ·rintro ⟨n,hn⟩
  cases hm:m n with
  | none=>simp only[hm] at hn; simp at hn
  | some v=>
   simp only[hm,ah] at hn
   rw[(h.2 v).2 ⟨n,hm⟩,ah]
   exact((hk v).2 r).2 ⟨n,hn⟩
theorem LimIs.cond{b:Bool}{m m':Nat→Option α}{l l':Option α}(h:LimIs m l)(h':LimIs m' l'):LimIs (fun n=>cond b (m n) (m' n)) (cond b l l'):=by cases b<;>assumption
theorem lw_{f:σ→Option (Flow ρ σ)}{s:σ}:LimIs (fun k=>Av.whileN f k s) (lim fun k=>Av.whileN f k s):=LIo_ (fun n=>wNm_ n s)
theorem Oel_{f f':σ→Option (Flow ρ σ)}{s:σ}(h:∀ s,OLe (f s) (f' s)):OLe (lim fun k=>Av.whileN f k s) (lim fun k=>Av.whileN f' k s):=by
 intro r hr
 obtain⟨k,hk⟩:=(lw_.2 r).1 hr
 exact(lw_.2 r).2 ⟨k,OLe.whileN h k s r hk⟩
end
end
end Go.Av
