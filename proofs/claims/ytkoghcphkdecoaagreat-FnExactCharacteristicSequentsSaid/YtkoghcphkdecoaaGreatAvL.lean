/- A part of the proof: lemmas only; nothing is claimed here beyond what each lemma says. -/
/- More places where a model speaks; plain values; names. -/
import Derived.Test.YtkoghcphkdecoaaGreatAvK
set_option linter.unusedSimpArgs false
set_option linter.unusedVariables false
set_option linter.defProp false
namespace Go.Av
open PV renaming views→aF,noViews→a7
theorem cast0:((0:Nat):Int)=0:=rfl
theorem cast1:((1:Nat):Int)=1:=rfl
theorem cast2:((2:Nat):Int)=2:=rfl
theorem imp_T(α:Type):(∀ _:α,True)=True:=by simp
abbrev I(n:Int):PV:=.lit (.int .i64 n)
abbrev Ik(k:IntKind)(n:Int):PV:=.lit (.int k n)
abbrev B(b:Bool):PV:=.lit (.bool b)
abbrev Sx(s:ByteArray):PV:=.lit (.string s)
def Lv{α:Type}(b:Bool)(sz:Nat)(f:α→PV)(l:List α):PV:=.sl b sz (l.map f)
theorem Lv_u{α:Type}(b:Bool)(sz:Nat)(f:α→PV)(l:List α):Lv b sz f l=.sl b sz (l.map f):=rfl
theorem vm_{α:Type}(f g:α→PV)(h:∀ a,(f a).view=g a)(l:List α):aF (l.map f)=l.map g:=by
 induction l with
 | nil=>rfl
 | cons a l ih=>simp only[List.map_cons,aF,h a,ih]
theorem nVm_{α:Type}(f:α→PV)(h:∀ a,(f a).noView=true)(l:List α):a7 (l.map f)=true:=by
 induction l with
 | nil=>rfl
 | cons a l ih=>simp only[List.map_cons,a7,h a,ih,Bool.and_true]
theorem vI_(l:List Int):aF (l.map I)=l.map I:=vm_ _ _ (fun _=>rfl) l
theorem vI_1(k:IntKind)(l:List Int):aF (l.map (Ik k))=l.map (Ik k):=vm_ _ _ (fun _=>rfl) l
theorem vB_(l:List Bool):aF (l.map B)=l.map B:=vm_ _ _ (fun _=>rfl) l
theorem vS_(l:List ByteArray):aF (l.map Sx)=l.map Sx:=vm_ _ _ (fun _=>rfl) l
theorem nVI_(l:List Int):a7 (l.map I)=true:=nVm_ _ (fun _=>rfl) l
theorem nVI_1(k:IntKind)(l:List Int):a7 (l.map (Ik k))=true:=nVm_ _ (fun _=>rfl) l
theorem nVB_(l:List Bool):a7 (l.map B)=true:=nVm_ _ (fun _=>rfl) l
theorem nVS_(l:List ByteArray):a7 (l.map Sx)=true:=nVm_ _ (fun _=>rfl) l
theorem vLI_(b:Bool)(sz:Nat)(l:List (List Int)):aF (l.map (Lv b sz I))=l.map (Lv false sz I):=vm_ _ _ (fun a=>by rw[Lv_u,vs_,vI_]; rfl) l
theorem vLS_(b:Bool)(sz:Nat)(l:List (List ByteArray)):aF (l.map (Lv b sz Sx))=l.map (Lv false sz Sx):=vm_ _ _ (fun a=>by rw[Lv_u,vs_,vS_]; rfl) l
theorem nVL_1(sz:Nat)(l:List (List Int)):a7 (l.map (Lv true sz I))=true:=nVm_ _ (fun a=>by simp only[Lv,PV.noView,nVI_,Bool.and_true]) l
theorem nVL_(sz:Nat)(l:List (List ByteArray)):a7 (l.map (Lv true sz Sx))=true:=nVm_ _ (fun a=>by simp only[Lv,PV.noView,nVS_,Bool.and_true]) l

section
variable{P:Program}{nt:Nat}{st:St}
def RdH(φ:St→Prop)(st:St)(_:Tok φ):Prop:=φ st
@[congr] theorem RdH.cg {φ:St→Prop} {st':St} (h:∀ _:Unit,st=st'):RdH φ st .mk=RdH φ st' .mk:=by rw[h ()]
theorem RdH.mk{φ:St→Prop}(h:φ st):RdH φ st .mk:=h
theorem MnH_{F:St→Prop}{n:Nat}{k:List Fr}(φ:St→Prop):Mg P nt F (n+1) .nrm st (.rd φ::k)=RdH φ st .mk:=rfl

def CapsOk(caps:List PV):Prop:=∀ p∈caps,PV.size p=1∧(CV.pv p).isAgg=false
theorem COn_:CapsOk []=True:=by simp[CapsOk]
theorem COc_(v:PV)(l:List PV):CapsOk (.ptr v::l)=CapsOk l:=by
 simp[CapsOk,PV.size,CV.isAgg]
theorem cKv_(st:St)(d ty:Nat)(op:Op)(pos:String)(af:Array Edge)(gd:Option (Nat×Bool))(g:Operand)(as:List Operand)(ts:List TypeId)(K:Rec→Prop)(H:d<nt):
 callK P nt st { dst:=some d,op:=op,type:=ty,pos:=pos,after:=af,guard:=gd } { callee:=.value g,args:=⟨as⟩,argTypes:=⟨ts⟩ } K=
  OrH (closK (ev P st 0 g) fun f caps=>CapsOk caps∧callW P nt st d f caps (rd g++as.flatMap rd) (argCVs P st as ts) K (RecOk P nt st { dst:=some d,op:=op,type:=ty,pos:=pos,after:=af,guard:=gd } K) .mk) (RecOk P nt st { dst:=some d,op:=op,type:=ty,pos:=pos,after:=af,guard:=gd } K) .mk:=cKv_1 st d ty op pos af gd g as ts K H

def AppH(sz:Nat)(es ys:List PV)(K:List PV→Prop)(_:Tok K):Prop:=(∀ e∈es,PV.size e=sz)∧(∀ e∈ys,PV.size e=sz)∧es.length+ys.length≤1073741824∧K (es++ys)
@[congr] theorem AppH.cg {sz:Nat} {es es' ys ys':List PV} {K:List PV→Prop} (h:∀ _:Unit,es=es') (h':∀ _:Unit,ys=ys'):AppH sz es ys K .mk=AppH sz es' ys' K .mk:=by rw[h (),h' ()]
theorem as_5{α:Type}{xs ys zs:List α}(h:app xs ys=some zs):xs.length+ys.length≤1073741824∧zs=xs++ys:=by
 unfold app at h
 split at h
 ·cases h; exact⟨by assumption,rfl⟩
 ·cases h
theorem AppH.mk{α:Type}{f:α→PV}{sz:Nat}{xs ys zs:List α}{es es':List PV}{K:List PV→Prop}(hf:∀ a,(f a).size=sz)(h:app xs ys=some zs)(he:es=xs.map f)(hy:es'=ys.map f)(hK:K (zs.map f)):AppH sz es es' K .mk:=by
 obtain⟨h1,rfl⟩:=as_5 h
 subst he; subst hy
 refine⟨?_,?_,by simpa using h1,by rw[← List.map_append]; exact hK⟩
 ·intro e he; obtain⟨a,_,rfl⟩:=List.mem_map.1 he; exact hf a
 ·intro e he; obtain⟨a,_,rfl⟩:=List.mem_map.1 he; exact hf a
def appW(P:Program)(st:St)(d T:Nat)(rs:List Nat)(a b:Option (List Nat×Nat×List PV))(K:Rec→Prop):Prop:=
 appK a b fun D1 D2 sz es ys=>SlIs P T sz (eBytes P T)∧(D1++D2).Nodup∧eBytes P T≤65536∧AppH sz es ys (fun zs=>(∀ n∈(rO_ (.sl true sz zs) (16*d)).map (·.1),st.noC n)∧
  K { rs:=rs,ro:=D1++D2,fc:=(rO_ (.sl true sz zs) (16*d)).map (·.1),us:=[(d,resSV (.sl true sz zs) (16*d))],uo:=deadObjs (D1++D2)++newObjs (rO_ (.sl true sz zs) (16*d)) }) .mk
@[congr] theorem appW.cg {d T:Nat} {rs:List Nat} {a a' b b':Option (List Nat×Nat×List PV)} {K:Rec→Prop} (h:∀ _:Unit,a=a') (h':∀ _:Unit,b=b'):appW P st d T rs a b K=appW P st d T rs a' b' K:=by rw[h (),h' ()]
theorem aWs_{d T:Nat}{rs:List Nat}{D1 D2:List Nat}{sz sz':Nat}{es ys:List PV}{K:Rec→Prop}:appW P st d T rs (some (D1,sz,es)) (some (D2,sz',ys)) K=(sz=sz'∧SlIs P T sz' (eBytes P T)∧(D1++D2).Nodup∧eBytes P T≤65536∧AppH sz' es ys (fun zs=>(∀ n∈(rO_ (.sl true sz' zs) (16*d)).map (·.1),st.noC n)∧
 K { rs:=rs,ro:=D1++D2,fc:=(rO_ (.sl true sz' zs) (16*d)).map (·.1),us:=[(d,resSV (.sl true sz' zs) (16*d))],uo:=deadObjs (D1++D2)++newObjs (rO_ (.sl true sz' zs) (16*d)) }) .mk):=rfl
theorem cKa_(st:St)(d ty:Nat)(op:Op)(pos:String)(af:Array Edge)(gd:Option (Nat×Bool))(x y:Operand)(T:TypeId)(K:Rec→Prop)(H:d<nt):
 callK P nt st { dst:=some d,op:=op,type:=ty,pos:=pos,after:=af,guard:=gd } { callee:=.builtin .append,args:=⟨[x,y]⟩,argTypes:=⟨[T,T]⟩ } K=
  appW P st d T (rd x++rd y) (baseOf st (ev P st T x)) (srcOf st (ev P st T y)) K:=by
 have hz:∀ o:Oper,¬ appZ P nt st o T T x y K (ev P st T x) (ev P st T y):=by
  intro o h
  unfold appZ at h
  split at h
  ·obtain⟨⟨e,i,z,h1,_⟩,⟨kn,h2⟩,_⟩:=h
   rw[h1] at h2; cases h2
  ·exact h
 simp only[callK,bltK,hz,false_or,true_and,appW,AppH,madeK,dstK,H,eq_iff_iff]
 cases baseOf st (ev P st T x) with
 | none=>simp[appK]
 | some a=>cases srcOf st (ev P st T y) with
  | none=>simp[appK]
  | some b=>
   obtain⟨D1,sz,es⟩:=a
   obtain⟨D2,sz',ys⟩:=b
   simp only[appK]
   constructor
   ·rintro ⟨h1,h2,h3,h4,h5,h6,h7,h8,h9⟩; exact⟨h1,h2,h3,h7,h4,h5,h6,h8,h9⟩
   ·rintro ⟨h1,h2,h3,h7,h4,h5,h6,h8,h9⟩; exact⟨h1,h2,h3,h4,h5,h6,h7,h8,h9⟩
def isIntB:Option TypeDesc→Bool
 | some (.int _)=>true
 | _=>false
theorem iIB_1{x:Option TypeDesc}:(∃ kn,x=some (.int kn))↔isIntB x=true:=by
 constructor
 ·rintro ⟨kn,rfl⟩; rfl
 ·intro h; unfold isIntB at h; split at h
  ·exact⟨_,rfl⟩
  ·cases h
def AppzH(n:Int)(K:Nat→Prop)(_:Tok K):Prop:=(0<n∧n≤1073741824)∧K n.toNat
@[congr] theorem AppzH.cg {n n':Int} {K:Nat→Prop} (h':∀ _:Unit,n=n'):AppzH n K .mk=AppzH n' K .mk:=by rw[h' ()]
def appz(n:Int):Option Nat:=if 0<n∧n≤1073741824 then some n.toNat else none
theorem AppzH.mk{n:Int}{m:Nat}{K:Nat→Prop}(h:appz n=some m)(hK:K m):AppzH n K .mk:=by
 unfold appz at h
 split at h
 ·rename_i g; cases h; exact⟨g,hK⟩
 ·cases h
def appZR(P:Program)(st:St)(d T T':Nat)(rs:List Nat)(K:Rec→Prop):SlotV→SlotV→Prop
 | .val (.pv (.sl true _ [])),.val (.pv (.lit (.int _ n)))=>SlIs P T (eSize P T) (eBytes P T)∧isIntB (P.underlying T')=true∧ElemZero P T (zel P T)∧(zel P T).size=eSize P T∧eBytes P T≤65536∧
  AppzH n (fun m=>(∀ c∈(rO_ (.sl true (eSize P T) (List.replicate m (zel P T))) (16*d)).map (·.1),st.noC c)∧
  K { rs:=rs,ro:=[],fc:=(rO_ (.sl true (eSize P T) (List.replicate m (zel P T))) (16*d)).map (·.1),us:=[(d,resSV (.sl true (eSize P T) (List.replicate m (zel P T))) (16*d))],uo:=deadObjs []++newObjs (rO_ (.sl true (eSize P T) (List.replicate m (zel P T))) (16*d)) }) .mk
 | _,_=>False
@[congr] theorem appZR.cg {d T T':Nat} {rs:List Nat} {K:Rec→Prop} {v v' u u':SlotV} (h:∀ _:Unit,v=v') (h':∀ _:Unit,u=u'):appZR P st d T T' rs K v u=appZR P st d T T' rs K v' u':=by rw[h (),h' ()]
theorem aZn_(d T T':Nat)(rs:List Nat)(K:Rec→Prop)(sz:Nat)(k:IntKind)(n:Int):appZR P st d T T' rs K (.val (.pv (.sl true sz []))) (.val (.pv (.lit (.int k n))))=(SlIs P T (eSize P T) (eBytes P T)∧isIntB (P.underlying T')=true∧ElemZero P T (zel P T)∧(zel P T).size=eSize P T∧eBytes P T≤65536∧
 AppzH n (fun m=>(∀ c∈(rO_ (.sl true (eSize P T) (List.replicate m (zel P T))) (16*d)).map (·.1),st.noC c)∧
 K { rs:=rs,ro:=[],fc:=(rO_ (.sl true (eSize P T) (List.replicate m (zel P T))) (16*d)).map (·.1),us:=[(d,resSV (.sl true (eSize P T) (List.replicate m (zel P T))) (16*d))],uo:=deadObjs []++newObjs (rO_ (.sl true (eSize P T) (List.replicate m (zel P T))) (16*d)) }) .mk):=rfl
theorem cKa_1(st:St)(d ty:Nat)(op:Op)(pos:String)(af:Array Edge)(gd:Option (Nat×Bool))(x y:Operand)(T T':TypeId)(K:Rec→Prop)(H:d<nt)(hT:(T==T')=false):
 callK P nt st { dst:=some d,op:=op,type:=ty,pos:=pos,after:=af,guard:=gd } { callee:=.builtin .append,args:=⟨[x,y]⟩,argTypes:=⟨[T,T']⟩ } K=
  appZR P st d T T' (rd x++rd y) K (ev P st T x) (ev P st T' y):=by
 have hne:T≠T':=by simpa using hT
 simp only[callK,bltK,hne,false_and,or_false]
 generalize ev P st T x=vx
 generalize ev P st T' y=vy
 unfold appZ
 split
 ·rw[aZn_]
  simp only[madeK,dstK,H,true_and,eq_iff_iff,AppzH,iIB_1]
  constructor
  ·rintro ⟨h1,h2,h3,h4,h5,h6,h7⟩; exact⟨h1,h2,h3,h4,h6,h5,h7⟩
  ·rintro ⟨h1,h2,h3,h4,h6,h5,h7⟩; exact⟨h1,h2,h3,h4,h5,h6,h7⟩
 ·rename_i hx
  unfold appZR
  split
  ·exact absurd rfl (fun e=>hx _ _ _ rfl e)
  ·rfl
theorem bOo_(c:Nat):baseOf st (.val (.own c))=(st.o c).map fun p=>([c],p.1,p.2):=by
 simp only[baseOf]; cases st.o c<;>rfl
theorem sOo_2(c:Nat):srcOf st (.val (.own c))=(st.o c).map fun p=>([c],p.1,p.2):=by
 simp only[srcOf]; cases st.o c<;>rfl
theorem bOn_(sz:Nat):baseOf st (.val (.pv (.sl true sz [])))=some ([],sz,[]):=rfl
theorem sOn_(sz:Nat):srcOf st (.val (.pv (.sl true sz [])))=some ([],sz,[]):=rfl
theorem sOv_(sz:Nat)(es:List PV):srcOf st (.val (.pv (.sl false sz es)))=some ([],sz,es):=rfl

def SidxH(s:ByteArray)(n:Int)(K:Int→Prop)(_:Tok K):Prop:=(0≤n∧n<s.size)∧K ((s.data.toList.getD n.toNat 0).toNat:Int)
@[congr] theorem SidxH.cg {s s':ByteArray} {n n':Int} {K:Int→Prop} (h:∀ _:Unit,s=s') (h':∀ _:Unit,n=n'):SidxH s n K .mk=SidxH s' n' K .mk:=by rw[h (),h' ()]
theorem SidxH.mk{s:ByteArray}{n v:Int}{K:Int→Prop}(h:sidx s n=some v)(hK:K v):SidxH s n K .mk:=by
 unfold sidx at h
 split at h
 ·cases h; exact⟨by assumption,hK⟩
 ·cases h
@[congr] theorem strIdxK.cg {T:TypeId} {K:SlotV→Prop} {x x' y y':SlotV} (h:∀ _:Unit,x=x') (h':∀ _:Unit,y=y'):strIdxK P T K x y=strIdxK P T K x' y':=by rw[h (),h' ()]
theorem sIK_(T:TypeId)(K:SlotV→Prop)(s:ByteArray)(k:IntKind)(n:Int):strIdxK P T K (.val (.pv (.lit (.string s)))) (.val (.pv (.lit (.int k n))))=(P.underlying T=some .string∧SidxH s n (fun v=>K (.val (.pv (.lit (.int .u8 v))))) .mk):=rfl
def SappH(a b:ByteArray)(K:ByteArray→Prop)(_:Tok K):Prop:=a.size+b.size≤9223372036854775807∧K (a++b)
@[congr] theorem SappH.cg {a a' b b':ByteArray} {K:ByteArray→Prop} (h:∀ _:Unit,a=a') (h':∀ _:Unit,b=b'):SappH a b K .mk=SappH a' b' K .mk:=by rw[h (),h' ()]
theorem SappH.mk{a b c:ByteArray}{K:ByteArray→Prop}(h:sapp a b=some c)(hK:K c):SappH a b K .mk:=by
 unfold sapp at h
 split at h
 ·cases h; exact⟨by assumption,hK⟩
 ·cases h
theorem bKs_8(T:TypeId)(a b:ByteArray)(K:Value→Prop):binK P T .add (.string a) (.string b) K=SappH a b (fun c=>K (.string c)) .mk:=rfl
theorem bKs_1(T:TypeId)(a b:ByteArray)(K:Value→Prop):binK P T .lss (.string a) (.string b) K=K (.bool (Op.bytesLess a.data.toList b.data.toList)):=rfl
theorem bKs_5(T:TypeId)(a b:ByteArray)(K:Value→Prop):binK P T .gtr (.string a) (.string b) K=K (.bool (!(Op.bytesLess a.data.toList b.data.toList||decide (a=b)))):=rfl
theorem bKs_2(T:TypeId)(a b:ByteArray)(K:Value→Prop):binK P T .leq (.string a) (.string b) K=K (.bool (Op.bytesLess a.data.toList b.data.toList||decide (a=b))):=rfl
theorem bKs_6(T:TypeId)(a b:ByteArray)(K:Value→Prop):binK P T .geq (.string a) (.string b) K=K (.bool (!Op.bytesLess a.data.toList b.data.toList)):=rfl
def quoH(a b:Int)(K:Int→Prop)(_:Tok K):Prop:=b≠0∧K (IntKind.i64.wrap (a.tdiv b))
@[congr] theorem quoH.cg {a a' b b':Int} {K:Int→Prop} (h:∀ _:Unit,a=a') (h':∀ _:Unit,b=b'):quoH a b K .mk=quoH a' b' K .mk:=by rw[h (),h' ()]
theorem quoH.mk{a b v:Int}{K:Int→Prop}(h:quo a b=some v)(hK:K v):quoH a b K .mk:=by
 unfold quo at h
 split at h
 ·cases h
 ·cases h; exact⟨by assumption,hK⟩
def remH(a b:Int)(K:Int→Prop)(_:Tok K):Prop:=b≠0∧K (a.tmod b)
@[congr] theorem remH.cg {a a' b b':Int} {K:Int→Prop} (h:∀ _:Unit,a=a') (h':∀ _:Unit,b=b'):remH a b K .mk=remH a' b' K .mk:=by rw[h (),h' ()]
theorem remH.mk{a b v:Int}{K:Int→Prop}(h:rem a b=some v)(hK:K v):remH a b K .mk:=by
 unfold rem at h
 split at h
 ·cases h
 ·cases h; exact⟨by assumption,hK⟩
theorem bKq_(T:TypeId)(a b:Int)(K:Value→Prop):binK P T .quo (.int .i64 a) (.int .i64 b) K=quoH a b (fun v=>K (.int .i64 v)) .mk:=by simp[binK,quoH]
theorem bKr_1(T:TypeId)(a b:Int)(K:Value→Prop):binK P T .rem (.int .i64 a) (.int .i64 b) K=remH a b (fun v=>K (.int .i64 v)) .mk:=by simp[binK,remH]

@[congr] theorem maxK.cg {g:Bool} {K:Value→Prop} {x x' y y':SlotV} (h:∀ _:Unit,x=x') (h':∀ _:Unit,y=y'):maxK g K x y=maxK g K x' y':=by rw[h (),h' ()]
theorem mKm_1(k:IntKind)(a b:Int)(K:Value→Prop):maxK true K (.val (.pv (.lit (.int k a)))) (.val (.pv (.lit (.int k b))))=K (.int k (max a b)):=by
 have:(if b>a then b else a)=max a b:=by split<;>omega
 simp[maxK,this]
theorem mKm_(k:IntKind)(a b:Int)(K:Value→Prop):maxK false K (.val (.pv (.lit (.int k a)))) (.val (.pv (.lit (.int k b))))=K (.int k (min a b)):=by
 have:(if b<a then b else a)=min a b:=by split<;>omega
 simp[maxK,this]
theorem cKm_1(st:St)(d ty:Nat)(op:Op)(pos:String)(af:Array Edge)(gd:Option (Nat×Bool))(x y:Operand)(T T':TypeId)(K:Rec→Prop):
 callK P nt st { dst:=some d,op:=op,type:=ty,pos:=pos,after:=af,guard:=gd } { callee:=.builtin .max,args:=⟨[x,y]⟩,argTypes:=⟨[T,T']⟩ } K=
  (d<nt∧maxK true (fun v=>K { rs:=rd x++rd y,us:=[(d,.val (.pv (.lit v)))] }) (ev P st T x) (ev P st T' y)):=rfl
theorem cKm_(st:St)(d ty:Nat)(op:Op)(pos:String)(af:Array Edge)(gd:Option (Nat×Bool))(x y:Operand)(T T':TypeId)(K:Rec→Prop):
 callK P nt st { dst:=some d,op:=op,type:=ty,pos:=pos,after:=af,guard:=gd } { callee:=.builtin .min,args:=⟨[x,y]⟩,argTypes:=⟨[T,T']⟩ } K=
  (d<nt∧maxK false (fun v=>K { rs:=rd x++rd y,us:=[(d,.val (.pv (.lit v)))] }) (ev P st T x) (ev P st T' y)):=rfl
def ShH(b:Int)(A:Prop)(_:Tok A):Prop:=0≤b∧A
@[congr] theorem ShH.cg {b b':Int} {A:Prop} (h:∀ _:Unit,b=b'):ShH b A .mk=ShH b' A .mk:=by rw[h ()]
def shr(k:IntKind)(a b:Int):Option Int:=if 0≤b then some (a.fdiv (2 ^ (min b.toNat k.bits))) else none
def shl(k:IntKind)(a b:Int):Option Int:=if 0≤b then some (k.wrap (a*2 ^ (min b.toNat k.bits))) else none
def ShrH(k:IntKind)(a b:Int)(K:Int→Prop)(_:Tok K):Prop:=0≤b∧K (a.fdiv (2 ^ (min b.toNat k.bits)))
@[congr] theorem ShrH.cg {k:IntKind} {a a' b b':Int} {K:Int→Prop} (h:∀ _:Unit,a=a') (h':∀ _:Unit,b=b'):ShrH k a b K .mk=ShrH k a' b' K .mk:=by rw[h (),h' ()]
theorem ShrH.mk{k:IntKind}{a b v:Int}{K:Int→Prop}(h:shr k a b=some v)(hK:K v):ShrH k a b K .mk:=by
 unfold shr at h
 split at h
 ·cases h; exact⟨by assumption,hK⟩
 ·cases h
def ShlH(k:IntKind)(a b:Int)(K:Int→Prop)(_:Tok K):Prop:=0≤b∧K (k.wrap (a*2 ^ (min b.toNat k.bits)))
@[congr] theorem ShlH.cg {k:IntKind} {a a' b b':Int} {K:Int→Prop} (h:∀ _:Unit,a=a') (h':∀ _:Unit,b=b'):ShlH k a b K .mk=ShlH k a' b' K .mk:=by rw[h (),h' ()]
theorem ShlH.mk{k:IntKind}{a b v:Int}{K:Int→Prop}(h:shl k a b=some v)(hK:K v):ShlH k a b K .mk:=by
 unfold shl at h
 split at h
 ·cases h; exact⟨by assumption,hK⟩
 ·cases h
theorem bKs_4(T:TypeId)(k k':IntKind)(a b:Int)(K:Value→Prop):binK P T .shl (.int k a) (.int k' b) K=ShlH k a b (fun v=>K (.int k v)) .mk:=rfl
theorem bKs_3(T:TypeId)(k k':IntKind)(a b:Int)(K:Value→Prop):binK P T .shr (.int k a) (.int k' b) K=ShrH k a b (fun v=>K (.int k v)) .mk:=rfl
def bitand(k:IntKind)(a b:Int):Int:=k.wrap (BitVec.ofInt k.bits a&&& BitVec.ofInt k.bits b).toNat
def bitor(k:IntKind)(a b:Int):Int:=k.wrap (BitVec.ofInt k.bits a||| BitVec.ofInt k.bits b).toNat
def bitxor(k:IntKind)(a b:Int):Int:=k.wrap (BitVec.ofInt k.bits a ^^^ BitVec.ofInt k.bits b).toNat
theorem bKa_1(T:TypeId)(k:IntKind)(a b:Int)(K:Value→Prop):binK P T .and (.int k a) (.int k b) K=K (.int k (bitand k a b)):=by simp[binK,bitand]
theorem bKo_1(T:TypeId)(k:IntKind)(a b:Int)(K:Value→Prop):binK P T .or (.int k a) (.int k b) K=K (.int k (bitor k a b)):=by simp[binK,bitor]
theorem bKx_(T:TypeId)(k:IntKind)(a b:Int)(K:Value→Prop):binK P T .xor (.int k a) (.int k b) K=K (.int k (bitxor k a b)):=by simp[binK,bitxor]

def SlcH(es:List PV)(lo hi:Int)(K:List PV→Prop)(_:Tok K):Prop:=(0≤lo∧lo≤hi∧hi≤es.length)∧K ((es.take hi.toNat).drop lo.toNat)
@[congr] theorem SlcH.cg {es es':List PV} {a a' b b':Int} {K:List PV→Prop} (h:∀ _:Unit,es=es') (h1:∀ _:Unit,a=a') (h2:∀ _:Unit,b=b'):SlcH es a b K .mk=SlcH es' a' b' K .mk:=by rw[h (),h1 (),h2 ()]
theorem SlcH.mk{α:Type}{f:α→PV}{xs ys:List α}{es:List PV}{lo hi:Int}{K:List PV→Prop}(h:slc xs lo hi=some ys)(he:es=xs.map f)(hK:K (ys.map f)):SlcH es lo hi K .mk:=by
 unfold slc at h
 split at h
 ·cases h; subst he
  exact⟨by simpa using ‹_›,by rw[← List.map_take,← List.map_drop]; exact hK⟩
 ·cases h
def SslcH(s:ByteArray)(lo hi:Int)(K:ByteArray→Prop)(_:Tok K):Prop:=(0≤lo∧lo≤hi∧hi≤s.size)∧K (s.extract lo.toNat hi.toNat)
@[congr] theorem SslcH.cg {es es':ByteArray} {a a' b b':Int} {K:ByteArray→Prop} (h:∀ _:Unit,es=es') (h1:∀ _:Unit,a=a') (h2:∀ _:Unit,b=b'):SslcH es a b K .mk=SslcH es' a' b' K .mk:=by rw[h (),h1 (),h2 ()]
theorem SslcH.mk{s t:ByteArray}{lo hi:Int}{K:ByteArray→Prop}(h:sslc s lo hi=some t)(hK:K t):SslcH s lo hi K .mk:=by
 unfold sslc at h
 split at h
 ·cases h; exact⟨by assumption,hK⟩
 ·cases h
def optI(P:Program)(st:St)(dflt:Int)(K:Int→Prop):Option Operand→Prop
 | none=>K dflt
 | some y=>match ev P st 0 y with
  | .val (.pv (.lit (.int _ n)))=>K n
  | _=>False
def natI(K:Int→Prop):SlotV→Prop
 | .val (.pv (.lit (.int _ n)))=>K n
 | _=>False
@[congr] theorem natI.cg {K:Int→Prop} {x x':SlotV} (h:∀ _:Unit,x=x'):natI K x=natI K x':=by rw[h ()]
theorem oIn_(d:Int)(K:Int→Prop):optI P st d K none=K d:=rfl
theorem oIs_(d:Int)(K:Int→Prop)(y:Operand):optI P st d K (some y)=natI K (ev P st 0 y):=by
 simp only[optI,natI]
theorem nIi_1(K:Int→Prop)(k:IntKind)(n:Int):natI K (.val (.pv (.lit (.int k n))))=K n:=rfl
@[congr] theorem sliceK.cg {T:TypeId} {lo hi:Option Operand} {K:SlotV→Prop} {x x':SlotV} (h:∀ _:Unit,x=x'):sliceK P st T lo hi K x=sliceK P st T lo hi K x':=by rw[h ()]
theorem nOi_(sv:SlotV)(K:Nat→Prop):natOf sv K↔∃ k n,sv=.val (.pv (.lit (.int k n)))∧0≤n∧K n.toNat:=by
 unfold natOf
 split
 ·constructor
  ·intro h; exact⟨_,_,rfl,h⟩
  ·rintro ⟨k,n,h,h1⟩; cases h; exact h1
 ·rename_i hx
  constructor
  ·intro h; exact h.elim
  ·rintro ⟨k,n,h,_⟩; exact(hx k n h).elim
theorem nIi_(sv:SlotV)(K:Int→Prop):natI K sv↔∃ k n,sv=.val (.pv (.lit (.int k n)))∧K n:=by
 unfold natI
 split
 ·constructor
  ·intro h; exact⟨_,_,rfl,h⟩
  ·rintro ⟨k,n,h,h1⟩; cases h; exact h1
 ·rename_i hx
  constructor
  ·intro h; exact h.elim
  ·rintro ⟨k,n,h,_⟩; exact(hx k n h).elim
theorem sKs_1(T:TypeId)(lo hi:Option Operand)(K:SlotV→Prop)(b:Bool)(sz:Nat)(es:List PV):sliceK P st T lo hi K (.val (.pv (.sl b sz es)))=(SlIs P T sz (eBytes P T)∧optI P st 0 (fun l=>optI P st es.length (fun h=>SlcH es l h (fun ys=>K (.val (.pv (.sl false sz ys)))) .mk) hi) lo):=by
 simp only[sliceK,eq_iff_iff]
 refine and_congr_right fun _=>?_
 have key:∀ l h:Int,(0≤l∧0≤h∧l.toNat≤h.toNat∧h.toNat≤es.length∧K (.val (.pv (.sl false sz ((es.take h.toNat).drop l.toNat)))))↔SlcH es l h (fun ys=>K (.val (.pv (.sl false sz ys)))) .mk:=by
  intro l h
  constructor
  ·rintro ⟨h1,h2,h3,h4,h5⟩; exact⟨⟨h1,by omega,by omega⟩,h5⟩
  ·rintro ⟨⟨h1,h2,h3⟩,h5⟩; exact⟨h1,by omega,by omega,by omega,h5⟩
 cases lo with
 | none=>
  cases hi with
  | none=>simp only[oIn_,optNat]; rw[← key]; simp
  | some y=>
   simp only[oIn_,oIs_,optNat,nOi_,nIi_]
   refine exists_congr fun k=>exists_congr fun n=>and_congr_right fun _=>?_
   rw[← key]; simp
 | some x=>
  cases hi with
  | none=>
   simp only[oIn_,oIs_,optNat,nOi_,nIi_]
   refine exists_congr fun k=>exists_congr fun n=>and_congr_right fun _=>?_
   rw[← key]; simp
  | some y=>
   simp only[oIs_,optNat,nOi_,nIi_]
   constructor
   ·rintro ⟨k,n,h,h0,k',n',h',h0',h1⟩; exact⟨k,n,h,k',n',h',(key _ _).1 ⟨h0,h0',h1⟩⟩
   ·rintro ⟨k,n,h,k',n',h',h1⟩
    obtain⟨g1,g2,g3⟩:=(key _ _).2 h1
    exact⟨k,n,h,g1,k',n',h',g2,g3⟩

def MknH(n:Int)(K:Nat→Prop)(_:Tok K):Prop:=(0≤n∧n≤1073741824)∧K n.toNat
@[congr] theorem MknH.cg {n n':Int} {K:Nat→Prop} (h':∀ _:Unit,n=n'):MknH n K .mk=MknH n' K .mk:=by rw[h' ()]
theorem MknH.mk{n:Int}{m:Nat}{K:Nat→Prop}(h:mkn n=some m)(hK:K m):MknH n K .mk:=by
 unfold mkn at h
 split at h
 ·cases h; exact⟨by assumption,hK⟩
 ·cases h

theorem Slr_{a b:St}(c c':Nat)(hne:c≠c')(hn:a.noC c')(h:(a.ren c c').le b):a.le b:=St.le_trans (Slr_1 hne hn) h
theorem ren_mk(s:Nat→SlotV)(o:Nat→Option (Nat×List PV))(c c':Nat):St.ren ⟨s,o⟩ c c'=⟨fun k=>(s k).ren c c',upd (upd o c none) c' (o c)⟩:=rfl
end
end Go.Av
