/- Lemmas of the proof; each says what it shows. -/
import Derived.Test.YtfchaodlnddkpaaGreatAvK
import Derived.ProofKit
import Derived.Carry
import Derived.Below
import Derived.ChangeSame
import Derived.WideKeyArgs
import Derived.Test.YtfchaodlnddkpaaGreatAv6u
set_option linter.unusedSimpArgs false
set_option linter.unusedVariables false
set_option linter.defProp false
namespace Go.Av
open And renaming intro→ae
open Bool renaming and_eq_true→aw
open CV renaming isAgg→aR,wholes→aB,pvws→aK,namess→av,pvos→aD,names→bn
open List renaming map_cons→aF,append_nil→bj,length_cons→aG,length_append→aV,mem_append→aT,sum_cons→bw,append_assoc→aS
open Option renaming bind_some→ap
section
theorem cast0:((0:Nat):Int)=0:=rfl
theorem cast1:((1:Nat):Int)=1:=rfl
theorem cast2:((2:Nat):Int)=2:=rfl
theorem imp_T(α:Type):(∀ _:α,True)=True:=by simp
abbrev I(n:Int):PV:=.lit (.int .i64 n)
abbrev Ik(k:IntKind)(n:Int):PV:=.lit (.int k n)
abbrev B(b:Bool):PV:=.lit (.bool b)
abbrev Sx(s:ByteArray):PV:=.lit (.string s)
def Lv{α:Type}(b:Bool)(sz:Nat)(f:α→PV)(l:List α):PV:=.sl b sz (l.map f)
theorem Lv_u{α:Type}(b:Bool)(sz:Nat)(f:α→PV)(l:List α):Lv b sz f l=.sl b sz (l.map f):=rfl
theorem views_map{α:Type}(f g:α→PV)(h:∀ a,(f a).view=g a)(l:List α):PV.views (l.map f)=l.map g:=by
 induction l with
 | nil=>rfl
 | cons a l ih=>simp only[aF,PV.views,h a,ih]
theorem noViews_map{α:Type}(f:α→PV)(h:∀ a,(f a).noView=true)(l:List α):PV.noViews (l.map f)=true:=by
 induction l with
 | nil=>rfl
 | cons a l ih=>simp only[aF,PV.noViews,h a,ih,Bool.and_true]
theorem views_I(l:List Int):PV.views (l.map I)=l.map I:=views_map _ _ (fun _=>rfl) l
theorem views_Ik(k:IntKind)(l:List Int):PV.views (l.map (Ik k))=l.map (Ik k):=views_map _ _ (fun _=>rfl) l
theorem views_B(l:List Bool):PV.views (l.map B)=l.map B:=views_map _ _ (fun _=>rfl) l
theorem views_Sx(l:List ByteArray):PV.views (l.map Sx)=l.map Sx:=views_map _ _ (fun _=>rfl) l
theorem noViews_I(l:List Int):PV.noViews (l.map I)=true:=noViews_map _ (fun _=>rfl) l
theorem noViews_Ik(k:IntKind)(l:List Int):PV.noViews (l.map (Ik k))=true:=noViews_map _ (fun _=>rfl) l
theorem noViews_B(l:List Bool):PV.noViews (l.map B)=true:=noViews_map _ (fun _=>rfl) l
theorem noViews_Sx(l:List ByteArray):PV.noViews (l.map Sx)=true:=noViews_map _ (fun _=>rfl) l
theorem views_LvI(b:Bool)(sz:Nat)(l:List (List Int)):PV.views (l.map (Lv b sz I))=l.map (Lv false sz I):=views_map _ _ (fun a=>by rw[Lv_u,view_sl,views_I]; rfl) l
theorem views_LvSx(b:Bool)(sz:Nat)(l:List (List ByteArray)):PV.views (l.map (Lv b sz Sx))=l.map (Lv false sz Sx):=views_map _ _ (fun a=>by rw[Lv_u,view_sl,views_Sx]; rfl) l
theorem noViews_LvI(sz:Nat)(l:List (List Int)):PV.noViews (l.map (Lv true sz I))=true:=noViews_map _ (fun a=>by simp only[Lv,PV.noView,noViews_I,Bool.and_true]) l
theorem noViews_LvSx(sz:Nat)(l:List (List ByteArray)):PV.noViews (l.map (Lv true sz Sx))=true:=noViews_map _ (fun a=>by simp only[Lv,PV.noView,noViews_Sx,Bool.and_true]) l

section
variable{P:Program}{nt:Nat}{st:St}
def RdH(φ:St→Prop)(st:St)(_:Tok φ):Prop:=φ st
@[congr] theorem RdH.cg {φ:St→Prop} {st':St} (h:∀ _:Unit,st=st'):RdH φ st .mk=RdH φ st' .mk:=by rw[h ()]
theorem RdH.mk{φ:St→Prop}(h:φ st):RdH φ st .mk:=h
theorem Mg_nrdH{F:St→Prop}{n:Nat}{k:List Fr}(φ:St→Prop):Mg P nt F (n+1) .nrm st (.rd φ::k)=RdH φ st .mk:=rfl

/-- Function values that came in. -/
def CapsOk(caps:List PV):Prop:=∀ p∈caps,PV.size p=1∧(CV.pv p).isAgg=false
theorem CapsOk_nil:CapsOk []=True:=by simp[CapsOk]
theorem CapsOk_cons(v:PV)(l:List PV):CapsOk (.ptr v::l)=CapsOk l:=by
 simp[CapsOk,PV.size,aR]
theorem callK_valueC(st:St)(d ty:Nat)(op:Op)(pos:String)(af:Array Edge)(gd:Option (Nat×Bool))(g:Operand)(as:List Operand)(ts:List TypeId)(K:Rec→Prop)(H:d<nt):
 callK P nt st { dst:=some d,op:=op,type:=ty,pos:=pos,after:=af,guard:=gd } { callee:=.value g,args:=⟨as⟩,argTypes:=⟨ts⟩ } K=
  OrH (closK (ev P st 0 g) fun f caps=>CapsOk caps∧callW P nt st d f caps (rd g++as.flatMap rd) (argCVs P st as ts) K (RecOk P nt st { dst:=some d,op:=op,type:=ty,pos:=pos,after:=af,guard:=gd } K) .mk) (RecOk P nt st { dst:=some d,op:=op,type:=ty,pos:=pos,after:=af,guard:=gd } K) .mk:=callK_value st d ty op pos af gd g as ts K H

def AppH(sz:Nat)(es ys:List PV)(K:List PV→Prop)(_:Tok K):Prop:=(∀ e∈es,PV.size e=sz)∧(∀ e∈ys,PV.size e=sz)∧es.length+ys.length≤1073741824∧K (es++ys)
@[congr] theorem AppH.cg {sz:Nat} {es es' ys ys':List PV} {K:List PV→Prop} (h:∀ _:Unit,es=es') (h':∀ _:Unit,ys=ys'):AppH sz es ys K .mk=AppH sz es' ys' K .mk:=by rw[h (),h' ()]
theorem app_some{α:Type}{xs ys zs:List α}(h:app xs ys=some zs):xs.length+ys.length≤1073741824∧zs=xs++ys:=by
 unfold app at h
 split at h
 ·cases h; exact⟨by assumption,rfl⟩
 ·cases h
theorem AppH.mk{α:Type}{f:α→PV}{sz:Nat}{xs ys zs:List α}{es es':List PV}{K:List PV→Prop}(hf:∀ a,(f a).size=sz)(h:app xs ys=some zs)(he:es=xs.map f)(hy:es'=ys.map f)(hK:K (zs.map f)):AppH sz es es' K .mk:=by
 obtain⟨h1,rfl⟩:=app_some h
 subst he; subst hy
 refine⟨?_,?_,by simpa using h1,by rw[← List.map_append]; exact hK⟩
 ·intro e he; obtain⟨a,_,rfl⟩:=List.mem_map.1 he; exact hf a
 ·intro e he; obtain⟨a,_,rfl⟩:=List.mem_map.1 he; exact hf a
def appW(P:Program)(st:St)(d T:Nat)(rs:List Nat)(a b:Option (List Nat×Nat×List PV))(K:Rec→Prop)(_:Tok K):Prop:=
 appK a b fun D1 D2 sz es ys=>SlIs P T sz (eBytes P T)∧(D1++D2).Nodup∧eBytes P T≤65536∧AppH sz es ys (fun zs=>(∀ n∈(resObjs (.sl true sz zs) (16*d)).map (·.1),st.noC n)∧
  K { rs:=rs,ro:=D1++D2,fc:=(resObjs (.sl true sz zs) (16*d)).map (·.1),us:=[(d,resSV (.sl true sz zs) (16*d))],uo:=deadObjs (D1++D2)++newObjs (resObjs (.sl true sz zs) (16*d)) }) .mk
@[congr] theorem appW.cg {d T:Nat} {rs:List Nat} {a a' b b':Option (List Nat×Nat×List PV)} {K:Rec→Prop} (h:∀ _:Unit,a=a') (h':∀ _:Unit,b=b'):appW P st d T rs a b K .mk=appW P st d T rs a' b' K .mk:=by rw[h (),h' ()]
theorem appW_some{d T:Nat}{rs:List Nat}{D1 D2:List Nat}{sz sz':Nat}{es ys:List PV}{K:Rec→Prop}:appW P st d T rs (some (D1,sz,es)) (some (D2,sz',ys)) K .mk=(sz=sz'∧SlIs P T sz' (eBytes P T)∧(D1++D2).Nodup∧eBytes P T≤65536∧AppH sz' es ys (fun zs=>(∀ n∈(resObjs (.sl true sz' zs) (16*d)).map (·.1),st.noC n)∧
 K { rs:=rs,ro:=D1++D2,fc:=(resObjs (.sl true sz' zs) (16*d)).map (·.1),us:=[(d,resSV (.sl true sz' zs) (16*d))],uo:=deadObjs (D1++D2)++newObjs (resObjs (.sl true sz' zs) (16*d)) }) .mk):=rfl
theorem callK_append(st:St)(d ty:Nat)(op:Op)(pos:String)(af:Array Edge)(gd:Option (Nat×Bool))(x y:Operand)(T:TypeId)(K:Rec→Prop)(H:d<nt):
 callK P nt st { dst:=some d,op:=op,type:=ty,pos:=pos,after:=af,guard:=gd } { callee:=.builtin .append,args:=⟨[x,y]⟩,argTypes:=⟨[T,T]⟩ } K=
  appW P st d T (rd x++rd y) (baseOf st (ev P st T x)) (srcOf st (ev P st T y)) K .mk:=by
 have hz:∀ o:Oper,¬ appZ P nt st o T T x y K (ev P st T x) (ev P st T y):=by
  intro o h
  unfold appZ at h
  split at h
  ·obtain⟨⟨e,i,z,h1,_⟩,⟨kn,h2⟩,_⟩:=h
   rw[h1] at h2; cases h2
  ·exact h
 simp only[callK,bltK,hz,false_or,true_and,appW,AppH,madeK,dstK,H,eq_iff_iff]
 cases baseOf st (ev P st T x) with
 | none=>simp[appK]
 | some a=>cases srcOf st (ev P st T y) with
  | none=>simp[appK]
  | some b=>
   obtain⟨D1,sz,es⟩:=a
   obtain⟨D2,sz',ys⟩:=b
   simp only[appK]
   constructor
   ·rintro ⟨h1,h2,h3,h4,h5,h6,h7,h8,h9⟩; exact⟨h1,h2,h3,h7,h4,h5,h6,h8,h9⟩
   ·rintro ⟨h1,h2,h3,h7,h4,h5,h6,h8,h9⟩; exact⟨h1,h2,h3,h4,h5,h6,h7,h8,h9⟩
def isIntB:Option TypeDesc→Bool
 | some (.int _)=>true
 | _=>false
theorem isIntB_iff{x:Option TypeDesc}:(∃ kn,x=some (.int kn))↔isIntB x=true:=by
 constructor
 ·rintro ⟨kn,rfl⟩; rfl
 ·intro h; unfold isIntB at h; split at h
  ·exact⟨_,rfl⟩
  ·cases h
def AppzH(n:Int)(K:Nat→Prop)(_:Tok K):Prop:=(0<n∧n≤1073741824)∧K n.toNat
@[congr] theorem AppzH.cg {n n':Int} {K:Nat→Prop} (h':∀ _:Unit,n=n'):AppzH n K .mk=AppzH n' K .mk:=by rw[h' ()]
def appz(n:Int):Option Nat:=if 0<n∧n≤1073741824 then some n.toNat else none
theorem AppzH.mk{n:Int}{m:Nat}{K:Nat→Prop}(h:appz n=some m)(hK:K m):AppzH n K .mk:=by
 unfold appz at h
 split at h
 ·rename_i g; cases h; exact⟨g,hK⟩
 ·cases h
def appZR(P:Program)(st:St)(d T T':Nat)(rs:List Nat)(K:Rec→Prop):SlotV→SlotV→Prop
 | .val (.pv (.sl true _ [])),.val (.pv (.lit (.int _ n)))=>SlIs P T (eSize P T) (eBytes P T)∧isIntB (P.underlying T')=true∧ElemZero P T (zel P T)∧(zel P T).size=eSize P T∧eBytes P T≤65536∧
  AppzH n (fun m=>(∀ c∈(resObjs (.sl true (eSize P T) (List.replicate m (zel P T))) (16*d)).map (·.1),st.noC c)∧
  K { rs:=rs,ro:=[],fc:=(resObjs (.sl true (eSize P T) (List.replicate m (zel P T))) (16*d)).map (·.1),us:=[(d,resSV (.sl true (eSize P T) (List.replicate m (zel P T))) (16*d))],uo:=deadObjs []++newObjs (resObjs (.sl true (eSize P T) (List.replicate m (zel P T))) (16*d)) }) .mk
 | _,_=>False
@[congr] theorem appZR.cg {d T T':Nat} {rs:List Nat} {K:Rec→Prop} {v v' u u':SlotV} (h:∀ _:Unit,v=v') (h':∀ _:Unit,u=u'):appZR P st d T T' rs K v u=appZR P st d T T' rs K v' u':=by rw[h (),h' ()]
theorem appZR_nil(d T T':Nat)(rs:List Nat)(K:Rec→Prop)(sz:Nat)(k:IntKind)(n:Int):appZR P st d T T' rs K (.val (.pv (.sl true sz []))) (.val (.pv (.lit (.int k n))))=(SlIs P T (eSize P T) (eBytes P T)∧isIntB (P.underlying T')=true∧ElemZero P T (zel P T)∧(zel P T).size=eSize P T∧eBytes P T≤65536∧
 AppzH n (fun m=>(∀ c∈(resObjs (.sl true (eSize P T) (List.replicate m (zel P T))) (16*d)).map (·.1),st.noC c)∧
 K { rs:=rs,ro:=[],fc:=(resObjs (.sl true (eSize P T) (List.replicate m (zel P T))) (16*d)).map (·.1),us:=[(d,resSV (.sl true (eSize P T) (List.replicate m (zel P T))) (16*d))],uo:=deadObjs []++newObjs (resObjs (.sl true (eSize P T) (List.replicate m (zel P T))) (16*d)) }) .mk):=rfl
theorem callK_appZ(st:St)(d ty:Nat)(op:Op)(pos:String)(af:Array Edge)(gd:Option (Nat×Bool))(x y:Operand)(T T':TypeId)(K:Rec→Prop)(H:d<nt)(hT:(T==T')=false):
 callK P nt st { dst:=some d,op:=op,type:=ty,pos:=pos,after:=af,guard:=gd } { callee:=.builtin .append,args:=⟨[x,y]⟩,argTypes:=⟨[T,T']⟩ } K=
  appZR P st d T T' (rd x++rd y) K (ev P st T x) (ev P st T' y):=by
 have hne:T≠T':=by simpa using hT
 simp only[callK,bltK,hne,false_and,or_false]
 generalize ev P st T x=vx
 generalize ev P st T' y=vy
 unfold appZ
 split
 ·rw[appZR_nil]
  simp only[madeK,dstK,H,true_and,eq_iff_iff,AppzH,isIntB_iff]
  constructor
  ·rintro ⟨h1,h2,h3,h4,h5,h6,h7⟩; exact⟨h1,h2,h3,h4,h6,h5,h7⟩
  ·rintro ⟨h1,h2,h3,h4,h6,h5,h7⟩; exact⟨h1,h2,h3,h4,h5,h6,h7⟩
 ·rename_i hx
  unfold appZR
  split
  ·exact absurd rfl (fun e=>hx _ _ _ rfl e)
  ·rfl
theorem baseOf_own(c:Nat):baseOf st (.val (.own c))=(st.o c).map fun p=>([c],p.1,p.2):=by
 simp only[baseOf]; cases st.o c<;>rfl
theorem srcOf_own(c:Nat):srcOf st (.val (.own c))=(st.o c).map fun p=>([c],p.1,p.2):=by
 simp only[srcOf]; cases st.o c<;>rfl
theorem baseOf_nil(sz:Nat):baseOf st (.val (.pv (.sl true sz [])))=some ([],sz,[]):=rfl
theorem srcOf_nil(sz:Nat):srcOf st (.val (.pv (.sl true sz [])))=some ([],sz,[]):=rfl
theorem srcOf_view(sz:Nat)(es:List PV):srcOf st (.val (.pv (.sl false sz es)))=some ([],sz,es):=rfl

def SidxH(s:ByteArray)(n:Int)(K:Int→Prop)(_:Tok K):Prop:=(0≤n∧n<s.size)∧K ((s.data.toList.getD n.toNat 0).toNat:Int)
@[congr] theorem SidxH.cg {s s':ByteArray} {n n':Int} {K:Int→Prop} (h:∀ _:Unit,s=s') (h':∀ _:Unit,n=n'):SidxH s n K .mk=SidxH s' n' K .mk:=by rw[h (),h' ()]
theorem SidxH.mk{s:ByteArray}{n v:Int}{K:Int→Prop}(h:sidx s n=some v)(hK:K v):SidxH s n K .mk:=by
 unfold sidx at h
 split at h
 ·cases h; exact⟨by assumption,hK⟩
 ·cases h
@[congr] theorem strIdxK.cg {T:TypeId} {K:SlotV→Prop} {x x' y y':SlotV} (h:∀ _:Unit,x=x') (h':∀ _:Unit,y=y'):strIdxK P T K x y=strIdxK P T K x' y':=by rw[h (),h' ()]
theorem strIdxK_H(T:TypeId)(K:SlotV→Prop)(s:ByteArray)(k:IntKind)(n:Int):strIdxK P T K (.val (.pv (.lit (.string s)))) (.val (.pv (.lit (.int k n))))=(P.underlying T=some .string∧SidxH s n (fun v=>K (.val (.pv (.lit (.int .u8 v))))) .mk):=rfl
def SappH(a b:ByteArray)(K:ByteArray→Prop)(_:Tok K):Prop:=a.size+b.size≤9223372036854775807∧K (a++b)
@[congr] theorem SappH.cg {a a' b b':ByteArray} {K:ByteArray→Prop} (h:∀ _:Unit,a=a') (h':∀ _:Unit,b=b'):SappH a b K .mk=SappH a' b' K .mk:=by rw[h (),h' ()]
theorem SappH.mk{a b c:ByteArray}{K:ByteArray→Prop}(h:sapp a b=some c)(hK:K c):SappH a b K .mk:=by
 unfold sapp at h
 split at h
 ·cases h; exact⟨by assumption,hK⟩
 ·cases h
theorem binK_sadd(T:TypeId)(a b:ByteArray)(K:Value→Prop):binK P T .add (.string a) (.string b) K=SappH a b (fun c=>K (.string c)) .mk:=rfl
theorem binK_slss(T:TypeId)(a b:ByteArray)(K:Value→Prop):binK P T .lss (.string a) (.string b) K=K (.bool (Op.bytesLess a.data.toList b.data.toList)):=rfl
theorem binK_sgtr(T:TypeId)(a b:ByteArray)(K:Value→Prop):binK P T .gtr (.string a) (.string b) K=K (.bool (!(Op.bytesLess a.data.toList b.data.toList||decide (a=b)))):=rfl
theorem binK_sleq(T:TypeId)(a b:ByteArray)(K:Value→Prop):binK P T .leq (.string a) (.string b) K=K (.bool (Op.bytesLess a.data.toList b.data.toList||decide (a=b))):=rfl
theorem binK_sgeq(T:TypeId)(a b:ByteArray)(K:Value→Prop):binK P T .geq (.string a) (.string b) K=K (.bool (!Op.bytesLess a.data.toList b.data.toList)):=rfl
def quoH(a b:Int)(K:Int→Prop)(_:Tok K):Prop:=b≠0∧K (IntKind.i64.wrap (a.tdiv b))
@[congr] theorem quoH.cg {a a' b b':Int} {K:Int→Prop} (h:∀ _:Unit,a=a') (h':∀ _:Unit,b=b'):quoH a b K .mk=quoH a' b' K .mk:=by rw[h (),h' ()]
theorem quoH.mk{a b v:Int}{K:Int→Prop}(h:quo a b=some v)(hK:K v):quoH a b K .mk:=by
 unfold quo at h
 split at h
 ·cases h
 ·cases h; exact⟨by assumption,hK⟩
def remH(a b:Int)(K:Int→Prop)(_:Tok K):Prop:=b≠0∧K (a.tmod b)
@[congr] theorem remH.cg {a a' b b':Int} {K:Int→Prop} (h:∀ _:Unit,a=a') (h':∀ _:Unit,b=b'):remH a b K .mk=remH a' b' K .mk:=by rw[h (),h' ()]
theorem remH.mk{a b v:Int}{K:Int→Prop}(h:rem a b=some v)(hK:K v):remH a b K .mk:=by
 unfold rem at h
 split at h
 ·cases h
 ·cases h; exact⟨by assumption,hK⟩
theorem binK_quoH(T:TypeId)(a b:Int)(K:Value→Prop):binK P T .quo (.int .i64 a) (.int .i64 b) K=quoH a b (fun v=>K (.int .i64 v)) .mk:=by simp[binK,quoH]
theorem binK_remH(T:TypeId)(a b:Int)(K:Value→Prop):binK P T .rem (.int .i64 a) (.int .i64 b) K=remH a b (fun v=>K (.int .i64 v)) .mk:=by simp[binK,remH]

@[congr] theorem maxK.cg {g:Bool} {K:Value→Prop} {x x' y y':SlotV} (h:∀ _:Unit,x=x') (h':∀ _:Unit,y=y'):maxK g K x y=maxK g K x' y':=by rw[h (),h' ()]
theorem maxK_max(k:IntKind)(a b:Int)(K:Value→Prop):maxK true K (.val (.pv (.lit (.int k a)))) (.val (.pv (.lit (.int k b))))=K (.int k (max a b)):=by
 have:(if b>a then b else a)=max a b:=by split<;>omega
 simp[maxK,this]
theorem maxK_min(k:IntKind)(a b:Int)(K:Value→Prop):maxK false K (.val (.pv (.lit (.int k a)))) (.val (.pv (.lit (.int k b))))=K (.int k (min a b)):=by
 have:(if b<a then b else a)=min a b:=by split<;>omega
 simp[maxK,this]
theorem callK_max(st:St)(d ty:Nat)(op:Op)(pos:String)(af:Array Edge)(gd:Option (Nat×Bool))(x y:Operand)(T T':TypeId)(K:Rec→Prop):
 callK P nt st { dst:=some d,op:=op,type:=ty,pos:=pos,after:=af,guard:=gd } { callee:=.builtin .max,args:=⟨[x,y]⟩,argTypes:=⟨[T,T']⟩ } K=
  (d<nt∧maxK true (fun v=>K { rs:=rd x++rd y,us:=[(d,.val (.pv (.lit v)))] }) (ev P st T x) (ev P st T' y)):=rfl
theorem callK_min(st:St)(d ty:Nat)(op:Op)(pos:String)(af:Array Edge)(gd:Option (Nat×Bool))(x y:Operand)(T T':TypeId)(K:Rec→Prop):
 callK P nt st { dst:=some d,op:=op,type:=ty,pos:=pos,after:=af,guard:=gd } { callee:=.builtin .min,args:=⟨[x,y]⟩,argTypes:=⟨[T,T']⟩ } K=
  (d<nt∧maxK false (fun v=>K { rs:=rd x++rd y,us:=[(d,.val (.pv (.lit v)))] }) (ev P st T x) (ev P st T' y)):=rfl
def ShH(b:Int)(A:Prop)(_:Tok A):Prop:=0≤b∧A
@[congr] theorem ShH.cg {b b':Int} {A:Prop} (h:∀ _:Unit,b=b'):ShH b A .mk=ShH b' A .mk:=by rw[h ()]
def shr(k:IntKind)(a b:Int):Option Int:=if 0≤b then some (a.fdiv (2 ^ (min b.toNat k.bits))) else none
def shl(k:IntKind)(a b:Int):Option Int:=if 0≤b then some (k.wrap (a*2 ^ (min b.toNat k.bits))) else none
def ShrH(k:IntKind)(a b:Int)(K:Int→Prop)(_:Tok K):Prop:=0≤b∧K (a.fdiv (2 ^ (min b.toNat k.bits)))
@[congr] theorem ShrH.cg {k:IntKind} {a a' b b':Int} {K:Int→Prop} (h:∀ _:Unit,a=a') (h':∀ _:Unit,b=b'):ShrH k a b K .mk=ShrH k a' b' K .mk:=by rw[h (),h' ()]
theorem ShrH.mk{k:IntKind}{a b v:Int}{K:Int→Prop}(h:shr k a b=some v)(hK:K v):ShrH k a b K .mk:=by
 unfold shr at h
 split at h
 ·cases h; exact⟨by assumption,hK⟩
 ·cases h
def ShlH(k:IntKind)(a b:Int)(K:Int→Prop)(_:Tok K):Prop:=0≤b∧K (k.wrap (a*2 ^ (min b.toNat k.bits)))
@[congr] theorem ShlH.cg {k:IntKind} {a a' b b':Int} {K:Int→Prop} (h:∀ _:Unit,a=a') (h':∀ _:Unit,b=b'):ShlH k a b K .mk=ShlH k a' b' K .mk:=by rw[h (),h' ()]
theorem ShlH.mk{k:IntKind}{a b v:Int}{K:Int→Prop}(h:shl k a b=some v)(hK:K v):ShlH k a b K .mk:=by
 unfold shl at h
 split at h
 ·cases h; exact⟨by assumption,hK⟩
 ·cases h
theorem binK_shlH(T:TypeId)(k k':IntKind)(a b:Int)(K:Value→Prop):binK P T .shl (.int k a) (.int k' b) K=ShlH k a b (fun v=>K (.int k v)) .mk:=rfl
theorem binK_shrH(T:TypeId)(k k':IntKind)(a b:Int)(K:Value→Prop):binK P T .shr (.int k a) (.int k' b) K=ShrH k a b (fun v=>K (.int k v)) .mk:=rfl
def bitand(k:IntKind)(a b:Int):Int:=k.wrap (BitVec.ofInt k.bits a&&& BitVec.ofInt k.bits b).toNat
def bitor(k:IntKind)(a b:Int):Int:=k.wrap (BitVec.ofInt k.bits a||| BitVec.ofInt k.bits b).toNat
def bitxor(k:IntKind)(a b:Int):Int:=k.wrap (BitVec.ofInt k.bits a ^^^ BitVec.ofInt k.bits b).toNat
theorem binK_and(T:TypeId)(k:IntKind)(a b:Int)(K:Value→Prop):binK P T .and (.int k a) (.int k b) K=K (.int k (bitand k a b)):=by simp[binK,bitand]
theorem binK_or(T:TypeId)(k:IntKind)(a b:Int)(K:Value→Prop):binK P T .or (.int k a) (.int k b) K=K (.int k (bitor k a b)):=by simp[binK,bitor]
theorem binK_xor(T:TypeId)(k:IntKind)(a b:Int)(K:Value→Prop):binK P T .xor (.int k a) (.int k b) K=K (.int k (bitxor k a b)):=by simp[binK,bitxor]

/-- Parts of slices and strings. -/
def SlcH(es:List PV)(lo hi:Int)(K:List PV→Prop)(_:Tok K):Prop:=(0≤lo∧lo≤hi∧hi≤es.length)∧K ((es.take hi.toNat).drop lo.toNat)
@[congr] theorem SlcH.cg {es es':List PV} {a a' b b':Int} {K:List PV→Prop} (h:∀ _:Unit,es=es') (h1:∀ _:Unit,a=a') (h2:∀ _:Unit,b=b'):SlcH es a b K .mk=SlcH es' a' b' K .mk:=by rw[h (),h1 (),h2 ()]
theorem SlcH.mk{α:Type}{f:α→PV}{xs ys:List α}{es:List PV}{lo hi:Int}{K:List PV→Prop}(h:slc xs lo hi=some ys)(he:es=xs.map f)(hK:K (ys.map f)):SlcH es lo hi K .mk:=by
 unfold slc at h
 split at h
 ·cases h; subst he
  exact⟨by simpa using ‹_›,by rw[← List.map_take,← List.map_drop]; exact hK⟩
 ·cases h
def SslcH(s:ByteArray)(lo hi:Int)(K:ByteArray→Prop)(_:Tok K):Prop:=(0≤lo∧lo≤hi∧hi≤s.size)∧K (s.extract lo.toNat hi.toNat)
@[congr] theorem SslcH.cg {es es':ByteArray} {a a' b b':Int} {K:ByteArray→Prop} (h:∀ _:Unit,es=es') (h1:∀ _:Unit,a=a') (h2:∀ _:Unit,b=b'):SslcH es a b K .mk=SslcH es' a' b' K .mk:=by rw[h (),h1 (),h2 ()]
theorem SslcH.mk{s t:ByteArray}{lo hi:Int}{K:ByteArray→Prop}(h:sslc s lo hi=some t)(hK:K t):SslcH s lo hi K .mk:=by
 unfold sslc at h
 split at h
 ·cases h; exact⟨by assumption,hK⟩
 ·cases h
/-- An operand that may be left out. -/
def optI(P:Program)(st:St)(dflt:Int)(K:Int→Prop):Option Operand→Prop
 | none=>K dflt
 | some y=>match ev P st 0 y with
  | .val (.pv (.lit (.int _ n)))=>K n
  | _=>False
def natI(K:Int→Prop):SlotV→Prop
 | .val (.pv (.lit (.int _ n)))=>K n
 | _=>False
@[congr] theorem natI.cg {K:Int→Prop} {x x':SlotV} (h:∀ _:Unit,x=x'):natI K x=natI K x':=by rw[h ()]
theorem optI_none(d:Int)(K:Int→Prop):optI P st d K none=K d:=rfl
theorem optI_some(d:Int)(K:Int→Prop)(y:Operand):optI P st d K (some y)=natI K (ev P st 0 y):=by
 simp only[optI,natI]
theorem natI_int(K:Int→Prop)(k:IntKind)(n:Int):natI K (.val (.pv (.lit (.int k n))))=K n:=rfl
@[congr] theorem sliceK.cg {T:TypeId} {lo hi:Option Operand} {K:SlotV→Prop} {x x':SlotV} (h:∀ _:Unit,x=x'):sliceK P st T lo hi K x=sliceK P st T lo hi K x':=by rw[h ()]
theorem natOf_iff(sv:SlotV)(K:Nat→Prop):natOf sv K↔∃ k n,sv=.val (.pv (.lit (.int k n)))∧0≤n∧K n.toNat:=by
 unfold natOf
 split
 ·constructor
  ·intro h; exact⟨_,_,rfl,h⟩
  ·rintro ⟨k,n,h,h1⟩; cases h; exact h1
 ·rename_i hx
  constructor
  ·intro h; exact h.elim
  ·rintro ⟨k,n,h,_⟩; exact(hx k n h).elim
theorem natI_iff(sv:SlotV)(K:Int→Prop):natI K sv↔∃ k n,sv=.val (.pv (.lit (.int k n)))∧K n:=by
 unfold natI
 split
 ·constructor
  ·intro h; exact⟨_,_,rfl,h⟩
  ·rintro ⟨k,n,h,h1⟩; cases h; exact h1
 ·rename_i hx
  constructor
  ·intro h; exact h.elim
  ·rintro ⟨k,n,h,_⟩; exact(hx k n h).elim
theorem sliceK_slH(T:TypeId)(lo hi:Option Operand)(K:SlotV→Prop)(b:Bool)(sz:Nat)(es:List PV):sliceK P st T lo hi K (.val (.pv (.sl b sz es)))=(SlIs P T sz (eBytes P T)∧optI P st 0 (fun l=>optI P st es.length (fun h=>SlcH es l h (fun ys=>K (.val (.pv (.sl false sz ys)))) .mk) hi) lo):=by
 simp only[sliceK,eq_iff_iff]
 refine and_congr_right fun _=>?_
 have key:∀ l h:Int,(0≤l∧0≤h∧l.toNat≤h.toNat∧h.toNat≤es.length∧K (.val (.pv (.sl false sz ((es.take h.toNat).drop l.toNat)))))↔SlcH es l h (fun ys=>K (.val (.pv (.sl false sz ys)))) .mk:=by
  intro l h
  constructor
  ·rintro ⟨h1,h2,h3,h4,h5⟩; exact⟨⟨h1,by omega,by omega⟩,h5⟩
  ·rintro ⟨⟨h1,h2,h3⟩,h5⟩; exact⟨h1,by omega,by omega,by omega,h5⟩
 cases lo with
 | none=>
  cases hi with
  | none=>simp only[optI_none,optNat]; rw[← key]; simp
  | some y=>
   simp only[optI_none,optI_some,optNat,natOf_iff,natI_iff]
   refine exists_congr fun k=>exists_congr fun n=>and_congr_right fun _=>?_
   rw[← key]; simp
 | some x=>
  cases hi with
  | none=>
   simp only[optI_none,optI_some,optNat,natOf_iff,natI_iff]
   refine exists_congr fun k=>exists_congr fun n=>and_congr_right fun _=>?_
   rw[← key]; simp
  | some y=>
   simp only[optI_some,optNat,natOf_iff,natI_iff]
   constructor
   ·rintro ⟨k,n,h,h0,k',n',h',h0',h1⟩; exact⟨k,n,h,k',n',h',(key _ _).1 ⟨h0,h0',h1⟩⟩
   ·rintro ⟨k,n,h,k',n',h',h1⟩
    obtain⟨g1,g2,g3⟩:=(key _ _).2 h1
    exact⟨k,n,h,g1,k',n',h',g2,g3⟩

/-- Making slices. -/
def MknH(n:Int)(K:Nat→Prop)(_:Tok K):Prop:=(0≤n∧n≤1073741824)∧K n.toNat
@[congr] theorem MknH.cg {n n':Int} {K:Nat→Prop} (h':∀ _:Unit,n=n'):MknH n K .mk=MknH n' K .mk:=by rw[h' ()]
theorem MknH.mk{n:Int}{m:Nat}{K:Nat→Prop}(h:mkn n=some m)(hK:K m):MknH n K .mk:=by
 unfold mkn at h
 split at h
 ·cases h; exact⟨by assumption,hK⟩
 ·cases h

/-- Renaming, then the rest. -/
theorem St.le_rn{a b:St}(c c':Nat)(hne:c≠c')(hn:a.noC c')(h:(a.ren c c').le b):a.le b:=St.le_trans (St.le_ren hne hn) h
theorem ren_mk(s:Nat→SlotV)(o:Nat→Option (Nat×List PV))(c c':Nat):St.ren ⟨s,o⟩ c c'=⟨fun k=>(s k).ren c c',upd (upd o c none) c' (o c)⟩:=rfl
end
end
section

section
variable{P:Program}{nt:Nat}{st:St}
def SlcOH(es:List PV)(lo hi:Int)(K:List PV→Prop)(K2:Unit→Prop)(_:Tok K)(_:Tok K2):Prop:=((lo=0∧0≤hi∧hi≤es.length)∧K (es.take hi.toNat))∨((0≤lo∧lo≤hi∧hi≤es.length∧0<es.length)∧K2 ())
@[congr] theorem SlcOH.cg {es es':List PV} {a a' b b':Int} {K:List PV→Prop} {K2:Unit→Prop} (h:∀ _:Unit,es=es') (h1:∀ _:Unit,a=a') (h2:∀ _:Unit,b=b'):SlcOH es a b K K2 .mk .mk=SlcOH es' a' b' K K2 .mk .mk:=by rw[h (),h1 (),h2 ()]
theorem SlcOH.mk{α:Type}{f:α→PV}{xs ys:List α}{es:List PV}{hi:Int}{K:List PV→Prop}{K2:Unit→Prop}(h:slc xs 0 hi=some ys)(he:es=xs.map f)(hK:K (ys.map f)):SlcOH es 0 hi K K2 .mk .mk:=by
 unfold slc at h
 split at h
 ·rename_i g
  cases h; subst he
  refine .inl ⟨⟨rfl,g.2.1,by simpa using g.2.2⟩,?_⟩
  rw[← List.map_take]
  simpa using hK
 ·cases h
def rngN(n:Nat)(lo hi:Int):Option Unit:=if 0≤lo∧lo≤hi∧hi≤n∧0<n then some () else none
theorem SlcOH.sub{α:Type}{f:α→PV}{xs:List α}{es:List PV}{lo hi:Int}{u:Unit}{K:List PV→Prop}{K2:Unit→Prop}(h:rngN xs.length lo hi=some u)(he:es=xs.map f)(hK:K2 ()):SlcOH es lo hi K K2 .mk .mk:=by
 unfold rngN at h
 split at h
 ·rename_i g
  subst he
  exact .inr ⟨⟨g.1,g.2.1,by simpa using g.2.2.1,by simpa using g.2.2.2⟩,hK⟩
 ·cases h
def ArrSlH(P:Program)(T:TypeId)(lo hi:Option Operand)(p:List Nat)(off:Nat)(pure:Bool)(v:PV)(K:Nat→List PV→Prop)(_:Tok K):Prop:=ArrSl P T lo hi p off pure v K
@[congr] theorem ArrSlH.cg {T:TypeId} {lo hi:Option Operand} {p:List Nat} {off:Nat} {b b':Bool} {v v':PV} {K:Nat→List PV→Prop} (h:∀ _:Unit,b=b') (h':∀ _:Unit,v=v'):ArrSlH P T lo hi p off b v K .mk=ArrSlH P T lo hi p off b' v' K .mk:=by rw[h (),h' ()]
def slcArr(P:Program)(st:St)(T:TypeId)(d:Nat)(rs:List Nat)(lo hi:Option Operand)(K:Rec→Prop)(r:Nat)(p:List Nat)(off:Nat):SlotV→Prop
 | .box c=>ArrSlH P T lo hi p off c.pure (c.pvw st.o) (fun sz es=>(r==d)=false∧K { rs:=r::rs,ro:=c.names,us:=[(r,.val (.pv (.ptr (.agg es)))),(d,.val (.pv (.sl false sz es)))] }) .mk
 | _=>False
@[congr] theorem slcArr.cg {T d:Nat} {rs:List Nat} {lo hi:Option Operand} {K:Rec→Prop} {r:Nat} {p:List Nat} {off:Nat} {v v':SlotV} (h:∀ _:Unit,v=v'):slcArr P st T d rs lo hi K r p off v=slcArr P st T d rs lo hi K r p off v':=by rw[h ()]
def slcO(P:Program)(nt:Nat)(st:St)(d T:Nat)(rs:List Nat)(lo hi:Option Operand)(K:Rec→Prop):SlotV→Prop
 | .val (.own c)=>objK' (st.o c) fun q=>SlIs P T q.1 (eBytes P T)∧d<nt∧optI P st 0 (fun l=>optI P st q.2.length (fun h=>SlcOH q.2 l h (fun ys=>(∀ n∈(resObjs (.sl true q.1 ys) (16*d)).map (·.1),st.noC n)∧
  K { rs:=rs,ro:=[c],fc:=(resObjs (.sl true q.1 ys) (16*d)).map (·.1),us:=[(d,resSV (.sl true q.1 ys) (16*d))],uo:=deadObjs [c]++newObjs (resObjs (.sl true q.1 ys) (16*d)) }) (fun _=>K { rs:=rs,ro:=[c],us:=[(d,.fn [c] [] [] (subF q.1 l.toNat h.toNat))] }) .mk .mk) hi) lo
 | .val (.pv (.sl true sz []))=>SlIs P T (eSize P T) (eBytes P T)∧d<nt∧optI P st 0 (fun l=>optI P st 0 (fun h=>(0=l∧0=h)∧K { rs:=rs,us:=[(d,.val (.pv (.sl true sz [])))] }) hi) lo
 | .bptr r p off=>d<nt∧slcArr P st T d rs lo hi K r p off (st.s r)
 | v=>d<nt∧sliceK P st T lo hi (fun sv=>K { rs:=rs,us:=[(d,sv)] }) v
@[congr] theorem slcO.cg {d T:Nat} {rs:List Nat} {lo hi:Option Operand} {K:Rec→Prop} {v v':SlotV} (h:∀ _:Unit,v=v'):slcO P nt st d T rs lo hi K v=slcO P nt st d T rs lo hi K v':=by rw[h ()]
theorem slcO_own(d T:Nat)(rs:List Nat)(lo hi:Option Operand)(K:Rec→Prop)(c:Nat):slcO P nt st d T rs lo hi K (.val (.own c))=objK' (st.o c) fun q=>SlIs P T q.1 (eBytes P T)∧d<nt∧optI P st 0 (fun l=>optI P st q.2.length (fun h=>SlcOH q.2 l h (fun ys=>(∀ n∈(resObjs (.sl true q.1 ys) (16*d)).map (·.1),st.noC n)∧
 K { rs:=rs,ro:=[c],fc:=(resObjs (.sl true q.1 ys) (16*d)).map (·.1),us:=[(d,resSV (.sl true q.1 ys) (16*d))],uo:=deadObjs [c]++newObjs (resObjs (.sl true q.1 ys) (16*d)) }) (fun _=>K { rs:=rs,ro:=[c],us:=[(d,.fn [c] [] [] (subF q.1 l.toNat h.toNat))] }) .mk .mk) hi) lo:=rfl
theorem slcO_sl(d T:Nat)(rs:List Nat)(lo hi:Option Operand)(K:Rec→Prop)(sz:Nat)(es:List PV):slcO P nt st d T rs lo hi K (.val (.pv (.sl false sz es)))=(d<nt∧sliceK P st T lo hi (fun sv=>K { rs:=rs,us:=[(d,sv)] }) (.val (.pv (.sl false sz es)))):=rfl
theorem slcO_nil(d T:Nat)(rs:List Nat)(lo hi:Option Operand)(K:Rec→Prop)(sz:Nat):slcO P nt st d T rs lo hi K (.val (.pv (.sl true sz [])))=(SlIs P T (eSize P T) (eBytes P T)∧d<nt∧optI P st 0 (fun l=>optI P st 0 (fun h=>(0=l∧0=h)∧K { rs:=rs,us:=[(d,.val (.pv (.sl true sz [])))] }) hi) lo):=rfl
theorem slcO_str(d T:Nat)(rs:List Nat)(lo hi:Option Operand)(K:Rec→Prop)(s:ByteArray):slcO P nt st d T rs lo hi K (.val (.pv (.lit (.string s))))=(d<nt∧sliceK P st T lo hi (fun sv=>K { rs:=rs,us:=[(d,sv)] }) (.val (.pv (.lit (.string s))))):=rfl
theorem optN_I{d:Nat}{K:Nat→Prop}{K':Int→Prop}(h:∀ n:Int,(0≤n∧K n.toNat)↔K' n)(y:Option Operand):optNat P st d K y↔optI P st d K' y:=by
 cases y with
 | none=>rw[optI_none,← h]; simp[optNat]
 | some y=>
  simp only[optI_some,optNat,natOf_iff,natI_iff]
  exact exists_congr fun k=>exists_congr fun n=>and_congr_right fun _=>h n
theorem recO_slice(d ty T:Nat)(pos:String)(af:Array Edge)(g:Option (Nat×Bool))(K:Rec→Prop)(x:Operand)(lo hi:Option Operand):recO P nt st { dst:=some d,op:=.slice T x lo hi none,type:=ty,pos:=pos,after:=af,guard:=g } K=slcO P nt st d T (rd x++(lo.toList.flatMap rd++hi.toList.flatMap rd)) lo hi K (ev P st 0 x):=by
 show slcOK P nt st _ T x lo hi K (ev P st 0 x)=_
 generalize ev P st 0 x=v
 unfold slcOK
 split
 ·rename_i c
  rw[slcO_own]
  cases hc:st.o c with
  | none=>rfl
  | some q=>
   obtain⟨sz,es⟩:=q
   simp only[objK',eq_iff_iff]
   refine and_congr_right fun _=>?_
   by_cases hd:d<nt
   ·simp only[madeK,dstK,hd,true_and]
    refine optN_I (fun l=>?_) lo
    by_cases hl:0≤l
    ·simp only[hl,true_and]
     refine optN_I (fun h=>?_) hi
     constructor
     ·rintro ⟨g0,⟨g1,g2,g3⟩ | ⟨⟨g1,g2,g3⟩,g4⟩⟩
      ·exact .inl ⟨⟨by omega,g0,by omega⟩,g3⟩
      ·exact .inr ⟨⟨hl,by omega,by omega,g3⟩,g4⟩
     ·rintro (⟨⟨g1,g2,g3⟩,g4⟩ | ⟨⟨_,g2,g3,g4⟩,g5⟩)
      ·exact⟨g2,.inl ⟨by omega,by omega,g4⟩⟩
      ·exact⟨by omega,.inr ⟨⟨by omega,by omega,g4⟩,g5⟩⟩
    ·simp only[hl,false_and,false_iff]
     intro h2
     cases hi with
     | none=>
      rw[optI_none] at h2
      rcases h2 with⟨⟨g1,_⟩,_⟩ | ⟨⟨g1,_⟩,_⟩<;>omega
     | some y=>
      rw[optI_some,natI_iff] at h2
      obtain⟨_,_,_,h3⟩:=h2
      rcases h3 with⟨⟨g1,_⟩,_⟩ | ⟨⟨g1,_⟩,_⟩<;>omega
   ·simp only[madeK,dstK,hd,false_and,and_false,or_self,iff_false]
    intro hh
    obtain⟨l,h2,_⟩:=optNat_ok hh
    obtain⟨h,h3,_⟩:=optNat_ok h2
    exact h3
 ·rename_i sz
  rw[slcO_nil]
  refine congrArg _ ?_
  simp only[dstK,eq_iff_iff]
  refine and_congr_right fun _=>?_
  refine optN_I (fun l=>?_) lo
  constructor
  ·rintro ⟨h0,h1,h2⟩
   refine(optN_I (fun h=>?_) hi).1 h2
   constructor
   ·rintro ⟨g0,g1,g2⟩; exact⟨⟨by omega,by omega⟩,g2⟩
   ·rintro ⟨⟨_,g0⟩,g2⟩; exact⟨by omega,by omega,g2⟩
  ·intro h2
   have e:l=0:=by
    cases hi with
    | none=>rw[optI_none] at h2; have:=h2.1.1; omega
    | some y=>
     rw[optI_some,natI_iff] at h2
     obtain⟨_,_,_,h3⟩:=h2
     have:=h3.1.1; omega
   refine⟨by omega,by omega,(optN_I (fun h=>?_) hi).2 h2⟩
   constructor
   ·rintro ⟨g0,g1,g2⟩; exact⟨⟨by omega,by omega⟩,g2⟩
   ·rintro ⟨⟨_,g0⟩,g2⟩; exact⟨by omega,by omega,g2⟩
 ·rename_i r p off
  unfold slcO dstK
  simp only
  cases hs:st.s r<;>first | rfl | skip
  simp only[slcArr,ArrSlH,ArrSl,eq_iff_iff]
  refine and_congr_right fun _=>?_
  constructor
  ·rintro ⟨rfl,rfl,h⟩; exact⟨rfl,rfl,by simpa using h⟩
  ·rintro ⟨rfl,rfl,h⟩; exact⟨rfl,rfl,by simpa using h⟩
 ·rename_i hx hx2 hx3
  unfold slcO
  split
  ·exact absurd rfl (hx _)
  ·exact absurd rfl (hx2 _)
  ·exact absurd rfl (hx3 _ _ _)
  ·rfl
theorem recO_strIndex(d ty T:Nat)(pos:String)(af:Array Edge)(g:Option (Nat×Bool))(K:Rec→Prop)(x y:Operand):recO P nt st { dst:=some d,op:=.index T x y,type:=ty,pos:=pos,after:=af,guard:=g } K=(d<nt∧strIdxK P T (fun sv=>K { rs:=rd x++rd y,us:=[(d,sv)] }) (ev P st 0 x) (ev P st 0 y)):=rfl
def convJ(a b:Option TypeDesc)(K:SlotV→Prop):SlotV→Prop
 | .val (.pv (.lit (.int _ n)))=>(∃ d,a=some d)∧∃ k,b=some (.int k)∧K (.val (.pv (.lit (.int k (k.wrap n)))))
 | _=>False
@[congr] theorem convJ.cg {a a' b b':Option TypeDesc} {K:SlotV→Prop} {v v':SlotV} (h:∀ _:Unit,a=a') (h1:∀ _:Unit,b=b') (h2:∀ _:Unit,v=v'):convJ a b K v=convJ a' b' K v':=by rw[h (),h1 (),h2 ()]
theorem convJ_int(d:TypeDesc)(k k':IntKind)(n:Int)(K:SlotV→Prop):convJ (some d) (some (.int k)) K (.val (.pv (.lit (.int k' n))))=K (.val (.pv (.lit (.int k (k.wrap n))))):=by simp[convJ]
def bstr(xs:List Int):Option ByteArray:=some (bsOf xs)
def BstrH(es:List PV)(K:ByteArray→Prop)(_:Tok K):Prop:=∃ ns:List Int,es=ns.map (fun n=>.lit (.int .u8 n))∧K (bsOf ns)
@[congr] theorem BstrH.cg {es es':List PV} {K:ByteArray→Prop} (h:∀ _:Unit,es=es'):BstrH es K .mk=BstrH es' K .mk:=by rw[h ()]
theorem BstrH.mk{xs:List Int}{es:List PV}{b:ByteArray}{K:ByteArray→Prop}(h:bstr xs=some b)(he:es=xs.map (Ik .u8))(hK:K b):BstrH es K .mk:=by
 cases h; exact⟨xs,he,hK⟩
def convR(P:Program)(nt:Nat)(st:St)(d S T:Nat)(rs:List Nat)(K:Rec→Prop):SlotV→Prop
 | .val (.pv (.lit v))=>d<nt∧convJ (P.underlying S) (P.underlying T) (fun sv=>K { rs:=rs,us:=[(d,sv)] }) (.val (.pv (.lit v)))
 | .val (.own c)=>objK' (st.o c) fun q=>q.1=1∧IsBytes P S∧P.underlying T=some .string∧d<nt∧BstrH q.2 (fun b=>K { rs:=rs,ro:=[c],us:=[(d,.val (.pv (.lit (.string b))))] }) .mk
 | v=>bytesK P S T (fun D ns=>d<nt∧K { rs:=rs,ro:=D,us:=[(d,.val (.pv (.lit (.string (bsOf ns)))))] }) (srcOf st v)
@[congr] theorem convR.cg {d S T:Nat} {rs:List Nat} {K:Rec→Prop} {v v':SlotV} (h:∀ _:Unit,v=v'):convR P nt st d S T rs K v=convR P nt st d S T rs K v':=by rw[h ()]
theorem convR_lit(d S T:Nat)(rs:List Nat)(K:Rec→Prop)(v:Value):convR P nt st d S T rs K (.val (.pv (.lit v)))=(d<nt∧convJ (P.underlying S) (P.underlying T) (fun sv=>K { rs:=rs,us:=[(d,sv)] }) (.val (.pv (.lit v)))):=rfl
theorem convR_own(d S T:Nat)(rs:List Nat)(K:Rec→Prop)(c:Nat):convR P nt st d S T rs K (.val (.own c))=objK' (st.o c) fun q=>q.1=1∧IsBytes P S∧P.underlying T=some .string∧d<nt∧BstrH q.2 (fun b=>K { rs:=rs,ro:=[c],us:=[(d,.val (.pv (.lit (.string b))))] }) .mk:=rfl
theorem recO_convert(d ty S T:Nat)(pos:String)(af:Array Edge)(g:Option (Nat×Bool))(K:Rec→Prop)(x:Operand):recO P nt st { dst:=some d,op:=.convert S T x,type:=ty,pos:=pos,after:=af,guard:=g } K=convR P nt st d S T (rd x) K (ev P st 0 x):=by
 show convOK P nt st _ S T x K (ev P st 0 x)=_
 generalize ev P st 0 x=v
 unfold convOK
 split
 ·rw[convR_lit]
  show(d<nt∧convK P S T _ _)=_
  congr 1
 ·rename_i hx
  unfold convR
  split
  ·exact absurd rfl (hx _)
  ·rename_i c
   simp only[srcOf]
   cases hc:st.o c with
   | none=>rfl
   | some q=>
    obtain⟨sz,es⟩:=q
    simp only[objK',bytesK,BstrH,eq_iff_iff]
    refine and_congr_right fun _=>and_congr_right fun _=>and_congr_right fun _=>?_
    show(∃ ns:List Int,_∧(d<nt∧_))↔_
    constructor
    ·rintro ⟨ns,h1,h2,h3⟩; exact⟨h2,ns,h1,h3⟩
    ·rintro ⟨h2,ns,h1,h3⟩; exact⟨ns,h1,h2,h3⟩
  ·rfl
theorem makeK_eq(K:Int→Int→Prop)(x:SlotV):makeK K x x=natI (fun n=>K n n) x:=by
 by_cases h:∃ k n,x=.val (.pv (.lit (.int k n)))
 ·obtain⟨k,n,rfl⟩:=h; rfl
 ·have h1:¬ natI (fun n=>K n n) x:=by
   rw[natI_iff]; rintro ⟨k,n,e,_⟩; exact h ⟨k,n,e⟩
  have h2:¬ makeK K x x:=by
   unfold makeK
   split
   ·exact(h ⟨_,_,rfl⟩).elim
   ·exact id
  simp only[h1,h2]
def makeN(K:Int→Prop)(v:SlotV):Prop:=natI K v
@[congr] theorem makeN.cg {K:Int→Prop} {x x':SlotV} (h:∀ _:Unit,x=x'):makeN K x=makeN K x':=by rw[h ()]
theorem makeN_int(K:Int→Prop)(k:IntKind)(n:Int):makeN K (.val (.pv (.lit (.int k n))))=K n:=rfl
theorem recO_makeH(d ty T:Nat)(pos:String)(af:Array Edge)(g:Option (Nat×Bool))(K:Rec→Prop)(x:Operand):recO P nt st { dst:=some d,op:=.makeSlice T x x,type:=ty,pos:=pos,after:=af,guard:=g } K=
 makeN (fun n=>SlIs P T (eSize P T) (eBytes P T)∧ElemZero P T (zel P T)∧(zel P T).size=eSize P T∧eBytes P T≤65536∧d<nt∧MknH n (fun m=>(∀ c∈(resObjs (.sl true (eSize P T) (List.replicate m (zel P T))) (16*d)).map (·.1),st.noC c)∧
  K { rs:=rd x++rd x,ro:=[],fc:=(resObjs (.sl true (eSize P T) (List.replicate m (zel P T))) (16*d)).map (·.1),us:=[(d,resSV (.sl true (eSize P T) (List.replicate m (zel P T))) (16*d))],uo:=deadObjs []++newObjs (resObjs (.sl true (eSize P T) (List.replicate m (zel P T))) (16*d)) }) .mk) (ev P st 0 x):=by
 rw[recO_make,makeK_eq,makeN]
 congr 1
 funext n
 simp only[MknH,eq_iff_iff]
 constructor
 ·rintro ⟨h1,h2,h3,h4,h5,h6,h7,h8,h9⟩; exact⟨h1,h2,h3,h7,h8,⟨h4,h6⟩,h9⟩
 ·rintro ⟨h1,h2,h3,h7,h8,⟨h4,h6⟩,h9⟩; exact⟨h1,h2,h3,h4,Int.le_refl _,h6,h7,h8,h9⟩
theorem sliceK_strH(T:TypeId)(lo hi:Option Operand)(K:SlotV→Prop)(s:ByteArray):sliceK P st T lo hi K (.val (.pv (.lit (.string s))))=(P.underlying T=some .string∧optI P st 0 (fun l=>optI P st s.size (fun h=>SslcH s l h (fun t=>K (.val (.pv (.lit (.string t))))) .mk) hi) lo):=by
 simp only[sliceK,eq_iff_iff]
 refine and_congr_right fun _=>?_
 have key:∀ l h:Int,(0≤l∧0≤h∧l.toNat≤h.toNat∧h.toNat≤s.size∧K (.val (.pv (.lit (.string (s.extract l.toNat h.toNat))))))↔SslcH s l h (fun t=>K (.val (.pv (.lit (.string t))))) .mk:=by
  intro l h
  constructor
  ·rintro ⟨h1,h2,h3,h4,h5⟩; exact⟨⟨h1,by omega,by omega⟩,h5⟩
  ·rintro ⟨⟨h1,h2,h3⟩,h5⟩; exact⟨h1,by omega,by omega,by omega,h5⟩
 cases lo with
 | none=>
  cases hi with
  | none=>simp only[optI_none,optNat]; rw[← key]; simp
  | some y=>
   simp only[optI_none,optI_some,optNat,natOf_iff,natI_iff]
   refine exists_congr fun k=>exists_congr fun n=>and_congr_right fun _=>?_
   rw[← key]; simp
 | some x=>
  cases hi with
  | none=>
   simp only[optI_none,optI_some,optNat,natOf_iff,natI_iff]
   refine exists_congr fun k=>exists_congr fun n=>and_congr_right fun _=>?_
   rw[← key]; simp
  | some y=>
   simp only[optI_some,optNat,natOf_iff,natI_iff]
   constructor
   ·rintro ⟨k,n,h,h0,k',n',h',h0',h1⟩; exact⟨k,n,h,k',n',h',(key _ _).1 ⟨h0,h0',h1⟩⟩
   ·rintro ⟨k,n,h,k',n',h',h1⟩
    obtain⟨g1,g2,g3⟩:=(key _ _).2 h1
    exact⟨k,n,h,g1,k',n',h',g2,g3⟩
theorem range_0:List.range 0=[]:=rfl
theorem range_1:List.range 1=[0]:=rfl
theorem range_2:List.range 2=[0,1]:=rfl
theorem range_3:List.range 3=[0,1,2]:=rfl
theorem range_4:List.range 4=[0,1,2,3]:=rfl
theorem range_5:List.range 5=[0,1,2,3,4]:=rfl
theorem range_6:List.range 6=[0,1,2,3,4,5]:=rfl
theorem range_7:List.range 7=[0,1,2,3,4,5,6]:=rfl
theorem range_8:List.range 8=[0,1,2,3,4,5,6,7]:=rfl
theorem range_9:List.range 9=[0,1,2,3,4,5,6,7,8]:=rfl
theorem range_10:List.range 10=[0,1,2,3,4,5,6,7,8,9]:=rfl
theorem range_11:List.range 11=[0,1,2,3,4,5,6,7,8,9,10]:=rfl
theorem range_12:List.range 12=[0,1,2,3,4,5,6,7,8,9,10,11]:=rfl
theorem capK_some(cs:List (Nat×PV))(K:List (Nat×PV)→Prop):capK st K (some cs)=K cs:=rfl
@[congr] theorem capK.cg {K:List (Nat×PV)→Prop} {x x':Option (List (Nat×PV))} (h:∀ _:Unit,x=x'):capK st K x=capK st K x':=by rw[h ()]
theorem recO_makeFunc(d ty:Nat)(pos:String)(af:Array Edge)(g:Option (Nat×Bool))(K:Rec→Prop)(f:FuncId)(cp:List Operand):recO P nt st { dst:=some d,op:=.makeFunc (.func f) ⟨[]⟩ ⟨cp⟩,type:=ty,pos:=pos,after:=af,guard:=g } K=MfH (d<nt∧capK st (fun cs=>((cp.flatMap rd).all fun n=>(boxNames st n).isEmpty)=true∧
 K { rs:=cp.flatMap rd,us:=frozen cs++[(d,.val (.pv (.clo f (cs.map fun c=>.ptr c.2))))] }) (capsOf st cp)) (RecOk P nt st { dst:=some d,op:=.makeFunc (.func f) ⟨[]⟩ ⟨cp⟩,type:=ty,pos:=pos,after:=af,guard:=g } K) .mk .mk:=by
 simp[recO,dstK,MfH]
theorem recO_makeMap(d ty T:Nat)(pos:String)(af:Array Edge)(g:Option (Nat×Bool))(K:Rec→Prop)(r:Option Operand):recO P nt st { dst:=some d,op:=.makeMap T r,type:=ty,pos:=pos,after:=af,guard:=g } K=HandH (RecOk P nt st { dst:=some d,op:=.makeMap T r,type:=ty,pos:=pos,after:=af,guard:=g } K) .mk:=rfl
theorem recO_lookup(d ty T:Nat)(pos:String)(af:Array Edge)(g:Option (Nat×Bool))(K:Rec→Prop)(x y:Operand)(ok:Bool):recO P nt st { dst:=some d,op:=.lookup T x y ok,type:=ty,pos:=pos,after:=af,guard:=g } K=HandH (RecOk P nt st { dst:=some d,op:=.lookup T x y ok,type:=ty,pos:=pos,after:=af,guard:=g } K) .mk:=rfl
theorem recO_mapUpdate(ty T:Nat)(pos:String)(af:Array Edge)(g:Option (Nat×Bool))(K:Rec→Prop)(x y z:Operand):recO P nt st { dst:=none,op:=.mapUpdate T x y z,type:=ty,pos:=pos,after:=af,guard:=g } K=HandH (RecOk P nt st { dst:=none,op:=.mapUpdate T x y z,type:=ty,pos:=pos,after:=af,guard:=g } K) .mk:=rfl
theorem recO_insert(ty T:Nat)(pos:String)(af:Array Edge)(g:Option (Nat×Bool))(K:Rec→Prop)(x y z:Operand):recO P nt st { dst:=none,op:=.insert T x y z,type:=ty,pos:=pos,after:=af,guard:=g } K=HandH (RecOk P nt st { dst:=none,op:=.insert T x y z,type:=ty,pos:=pos,after:=af,guard:=g } K) .mk:=rfl
theorem recO_nilCheck(d ty:Nat)(pos:String)(af:Array Edge)(g:Option (Nat×Bool))(K:Rec→Prop)(x:Operand):recO P nt st { dst:=some d,op:=.nilCheck x,type:=ty,pos:=pos,after:=af,guard:=g } K=(d<nt∧nilCkK (ev P st 0 x) (K { rs:=rd x,us:=[(d,ev P st 0 x)] })):=rfl
theorem nilCkK_b(r:Nat)(p:List Nat)(q:Nat)(K:Prop):nilCkK (.bptr r p q) K=K:=rfl
theorem nilCkK_e(c sz i:Nat)(p:List Nat)(q:Nat)(K:Prop):nilCkK (.eptr c sz i p q) K=K:=rfl
theorem nilCkK_p(v:PV)(K:Prop):nilCkK (.val (.pv (.ptr v))) K=K:=rfl
theorem recO_range(d ty T:Nat)(pos:String)(af:Array Edge)(g:Option (Nat×Bool))(K:Rec→Prop)(x:Operand):recO P nt st { dst:=some d,op:=.range T x,type:=ty,pos:=pos,after:=af,guard:=g } K=HandH (RecOk P nt st { dst:=some d,op:=.range T x,type:=ty,pos:=pos,after:=af,guard:=g } K) .mk:=rfl
theorem recO_entry(d ty:Nat)(pos:String)(af:Array Edge)(g:Option (Nat×Bool))(K:Rec→Prop)(x:Operand):recO P nt st { dst:=some d,op:=.entry x,type:=ty,pos:=pos,after:=af,guard:=g } K=HandH (RecOk P nt st { dst:=some d,op:=.entry x,type:=ty,pos:=pos,after:=af,guard:=g } K) .mk:=rfl
theorem callK_delete(o:Oper)(x y:Operand)(T T':TypeId)(K:Rec→Prop):callK P nt st o { callee:=.builtin .delete,args:=#[x,y],argTypes:=#[T,T'] } K=HandH (RecOk P nt st o K) .mk:=rfl
def capV(st:St)(r:Nat):SlotV→Option (Nat×PV)
 | .box x=>if x.pure then some (r,x.pvw st.o) else none
 | .val (.pv (.ptr v))=>some (r,v)
 | _=>none
theorem capOf_V(r:Nat):capOf st (.tmp r)=capV st r (st.s r):=by
 show(match st.s r with | .box x=>if x.pure then some (r,x.pvw st.o) else none | .val (.pv (.ptr v))=>some (r,v) | _=>none)=_
 unfold capV
 generalize st.s r=v
 cases v with
 | val x=>cases x with
  | pv p=>cases p<;>rfl
  | _=>rfl
 | _=>rfl
theorem capV_box(r:Nat)(x:CV):capV st r (.box x)=if x.pure then some (r,x.pvw st.o) else none:=rfl
theorem capV_ptr(r:Nat)(v:PV):capV st r (.val (.pv (.ptr v)))=some (r,v):=rfl
def consO{α:Type}:Option α→Option (List α)→Option (List α)
 | some a,some l=>some (a::l)
 | _,_=>none
theorem capsOf_nil:capsOf st []=some []:=rfl
theorem capsOf_cons(x:Operand)(xs:List Operand):capsOf st (x::xs)=consO (capOf st x) (capsOf st xs):=by
 rw[capsOf]
 generalize capOf st x=a
 generalize capsOf st xs=b
 cases a<;>cases b<;>rfl
theorem consO_some{α:Type}(a:α)(l:List α):consO (some a) (some l)=some (a::l):=rfl
def boxN:SlotV→List Nat
 | .box x=>x.names
 | _=>[]
theorem boxNames_N(n:Nat):boxNames st n=boxN (st.s n):=by
 unfold boxNames boxN
 generalize st.s n=v
 cases v<;>rfl
theorem boxN_box(x:CV):boxN (.box x)=x.names:=rfl
theorem boxN_val(x:CV):boxN (.val x)=[]:=rfl
end
set_option maxRecDepth 10000
def RA:=ae @wpD_c<|ae @wpD_n<|ae @stepG_none<|ae @stepG_s<|ae @stepG_sn<|ae @gst_eq<|ae @recO_move<|ae @recO_moveC<|ae @recO_moveF<|ae @recO_assign<|ae @recO_pick<|ae @recO_alloc<|ae @recO_box<|ae @recO_load<|ae @recO_store<|ae @recO_bin<|ae @recO_un<|ae @recO_extract<|ae @recO_field<|ae @recO_call<|ae @recO_index<|ae @recO_build<|ae @recO_bsl<|ae @buildK_node<|ae @buildP_nil<|ae @buildP_cons<|ae @bslK_nil<|ae @bslK_cons<|ae @binKK_lit<|ae @binK_add<|ae @binK_sub<|ae @binK_mul<|ae @binK_eql<|ae @binK_neq<|ae @binK_lss<|ae @binK_leq<|ae @binK_gtr<|ae @binK_geq<|ae @binK_seql<|ae @binK_sneq<|ae @binK_beql<|ae @binK_bneq<|ae @unKK_not<|ae @unKK_neg<|ae @pickK_bool<|ae @extractK_tup<|ae @boxK_val<|ae @closK_clo<|ae @guardK_t<|ae @guardK_f<|ae @guardK_u<|ae @boolOf_bool<|ae @Cond_t<|ae @Cond_f<|ae @Cond_not<|ae @addF_b<|ae @addF_e<|ae @addF_p<|ae @loadK_b<|ae @loadB_box<|ae @loadK_p<|ae @objK_some<|ae @objK'_some<|ae @lenK_str<|ae @lenK_sl<|ae @lenK_own<|ae @storeK_b<|ae @storeB_box<|ae @callK_len<|ae @callW_cons<|ae @callW_nil<|ae @upd_hit<|ae @upd_miss<|ae @ev_tmp<|ae @ev_func<|ae @ev_int<|ae @ev_bool<|ae @ev_str<|ae @ev_nil<|ae @ptrOf_box<|ae @ptrOf_val<|ae @ptrOf_tup<|ae @ptrOf_bptr<|ae @ptrOf_eptr<|ae @app_mk<|ae @seqK_normal<|ae @seqK_ret<|ae @seqK_exit<|ae @blockK_normal<|ae @blockK_ret<|ae @idxK_slH<|ae @idxK_ownH<|ae @loadK_eH<|ae @storeK_eH<|ae @callK_valueC<|ae @callK_append<|ae @appW_some<|ae @strIdxK_H<|ae @binK_sadd<|ae @binK_slss<|ae @binK_sgtr<|ae @binK_sleq<|ae @binK_sgeq<|ae @binK_quoH<|ae @binK_remH<|ae @sliceK_slH<|ae @sliceK_strH<|ae @optI_none<|ae @optI_some<|ae @natI_int<|ae @recO_slice<|ae @slcO_own<|ae @slcO_nil<|ae @slcO_sl<|ae @slcO_str<|ae @recO_strIndex<|ae @recO_convert<|ae @convR_lit<|ae @convR_own<|ae @convJ_int<|ae @recO_makeH<|ae @makeN_int<|ae @recO_makeFunc<|ae @capK_some<|ae @mkS_hit<|ae @mkS_miss<|ae @mkS_none<|ae @mkO_hit<|ae @mkO_miss<|ae @mkO_none<|ae @Mg_seq<|ae @Mg_skip<|ae @Mg_exit<|ae @Mg_ret<|ae @Mg_block<|ae @Mg_reg<|ae @Mg_drw<|ae @Mg_cond<|ae @Mg_n0<|ae @Mg_nsq<|ae @Mg_nbl<|ae @Mg_nrdH<|ae @Mg_xsq<|ae @Mg_xbl<|ae @Mg_xbm<|ae @Mg_xrd<|ae @Mg_r0<|ae @Mg_rc<|ae @binK_shlH<|ae @binK_shrH<|ae @binK_and<|ae @binK_or<|ae @binK_xor<|ae @maxK_max<|ae @maxK_min<|ae @callK_max<|ae @callK_min<|ae @ptrOf_ex<|ae @binKK_agg<|ae @binKK_nil<|ae @binKK_niO<|ae @aggK_eql<|ae @aggK_neq<|ae @nilK_eql<|ae @nilK_neq<|ae @callK_cap<|ae @capNil_nil<|ae @callK_appZ<|ae @appZR_nil<|ae @OrH_call<|ae @OrH_false<|ae @closK_hptr<|ae @ptrOf_hold<|ae @ptrOf_hptr<|ae @argCV_hptr<|ae @argCV_bptr<|ae @recO_makeMap<|ae @recO_lookup<|ae @recO_mapUpdate<|ae @recO_insert<|ae @recO_nilCheck<|ae @nilCkK_b<|ae @nilCkK_e<|ae @nilCkK_p<|ae @recO_range<|ae @recO_entry<|@callK_delete
def RB:=ae @OrR_true<|ae @List.getElem?_toArray.{0}<|ae @List.getElem?_cons_succ.{0}<|ae @List.getElem?_cons_zero.{0}<|ae @Option.bind_some.{0,0}<|ae @updAll_nil<|ae @updAll_cons<|ae @argSt_eq<|ae @explodes_nil<|ae @explodes_cons<|ae @explode_lit<|ae @explode_view<|ae @explode_own<|ae @explode_clo<|ae @updL_nil<|ae @updL_cons<|ae @newObjs.eq_1<|ae @deadObjs.eq_1<|ae @List.append_nil.{0}<|ae @List.nil_append.{0}<|ae @List.cons_append.{0}<|ae @List.map_nil.{0,0}<|ae @List.map_cons.{0,0}<|ae @true_and<|ae @and_true<|ae @Bool.not_true<|ae @Bool.not_false<|ae @CV.okp.eq_1<|ae @CV.okp.eq_2<|ae @CV.offs.eq_1<|ae @CV.offs.eq_2<|ae @CV.at.eq_1<|ae @CV.at.eq_2<|ae @parts_node<|ae @parts_agg<|ae @explode_agg<|ae @PV.noOwns.eq_1<|ae @PV.noOwns.eq_2<|ae @noOwn_lit<|ae @noOwn_sl<|ae @noOwn_agg<|ae @noOwn_clo<|ae @noOwn_ptr<|ae @CV.setAt.eq_1<|ae @CV.setAt.eq_2<|ae @isAgg_node<|ae @isAgg_own<|ae @isAgg_agg<|ae @isAgg_lit<|ae @isAgg_sl<|ae @isAgg_clo<|ae @isAgg_ptr<|ae @CV.size.eq_1<|ae @CV.size.eq_2<|ae @CV.size.eq_3<|ae @CV.size.eq_4<|ae @CV.sizes.eq_1<|ae @CV.sizes.eq_2<|ae @size_lit<|ae @size_sl<|ae @size_clo<|ae @size_ptr<|ae @size_agg<|ae @PV.sizes.eq_1<|ae @PV.sizes.eq_2<|ae @notGone_pv<|ae @notGone_own<|ae @notGone_node<|ae @argCVs.eq_1<|ae @argCVs.eq_2<|ae @argCV_val<|ae @partFs.eq_1<|ae @partFs.eq_2<|ae @partCVs.eq_1<|ae @partCVs.eq_2<|ae @setParts.eq_1<|ae @setParts.eq_2<|ae @CV.wholes.eq_1<|ae @CV.wholes.eq_2<|ae @CV.whole.eq_1<|ae @CV.whole.eq_2<|ae @CV.whole.eq_3<|ae @CV.whole.eq_4<|ae @CV.pvos.eq_1<|ae @CV.pvos.eq_2<|ae @CV.pvo.eq_1<|ae @CV.pvo.eq_2<|ae @CV.pvo.eq_3<|ae @CV.pvo.eq_4<|ae @CV.pvws.eq_1<|ae @CV.pvws.eq_2<|ae @CV.pvw.eq_1<|ae @CV.pvw.eq_2<|ae @CV.pvw.eq_3<|ae @CV.pvw.eq_4<|ae @CV.names.eq_1<|ae @CV.names.eq_2<|ae @CV.names.eq_3<|ae @CV.names.eq_4<|ae @CV.namess.eq_1<|ae @CV.namess.eq_2<|ae @mixNames.eq_1<|ae @mixNames.eq_2<|ae @mixPure.eq_1<|ae @mixPure.eq_2<|ae @viewNames.eq_1<|ae @viewNames.eq_2<|ae @List.getD_cons_zero.{0}<|ae @List.getD_cons_succ.{0}<|ae @List.set_cons_zero.{0}<|ae @List.set_cons_succ.{0}<|ae @List.take_zero.{0}<|ae @List.take_succ_cons.{0}<|ae @List.length_cons.{0}<|ae @List.length_nil.{0}<|ae @List.headD_cons.{0}<|ae @List.tail_cons.{0}<|ae @List.headD_nil.{0}<|ae @List.tail_nil.{0}<|ae @rd.eq_1<|ae @rd.eq_2<|ae @Option.map_some.{0,0}<|ae @Option.getD_some.{0}<|ae @List.not_mem_nil.{0}<|ae @false_implies<|ae @List.forall_mem_cons.{0}<|ae @view_lit<|ae @view_sl<|ae @view_agg<|ae @view_clo<|ae @view_ptr<|ae @PV.views.eq_1<|ae @PV.views.eq_2<|ae @Bool.true_or<|ae @Bool.or_true<|ae @PV.noView.eq_1<|ae @PV.noView.eq_2<|ae @PV.noView.eq_3<|ae @PV.noView.eq_4<|ae @PV.noView.eq_5<|ae @PV.noView.eq_6<|ae @PV.noViews.eq_1<|ae @PV.noViews.eq_2<|ae @List.nodup_nil.{0}<|ae @List.nodup_cons.{0}<|ae @resSV_lit<|ae @resObjs_lit<|ae @resSV_sl<|ae @resObjs_sl<|ae @resSV_agg<|ae @resObjs_agg<|ae @resSV_tup<|ae @resObjs_tup<|ae @PV.at.eq_1<|ae @PV.at.eq_2<|ae @PV.at.eq_3<|ae @PV.offs.eq_1<|ae @PV.offs.eq_2<|ae @PV.offs.eq_3<|ae @PV.okp.eq_1<|ae @PV.okp.eq_2<|ae @PV.okp.eq_3<|ae @PV.setAt.eq_1<|ae @PV.setAt.eq_2<|ae @PV.setAt.eq_3<|ae @Option.isSome_some.{0}<|ae @List.mem_cons.{0}<|ae @or_false<|ae @or_self<|ae @not_false_eq_true<|ae @Option.some.injEq.{0}<|ae @Prod.mk.injEq.{0,0}<|ae @List.length_map.{0,0}<|ae @forall_eq.{1}<|ae @forall_eq_or_imp.{1}<|ae @beq_self_eq_true.{0}<|ae @CV.ren.eq_1<|ae @CV.ren.eq_2<|ae @CV.ren.eq_3<|ae @CV.ren.eq_4<|ae @CV.rens.eq_1<|ae @CV.rens.eq_2<|ae @SlotV.ren.eq_1<|ae @SlotV.ren.eq_2<|ae @SlotV.ren.eq_3<|ae @SlotV.ren.eq_4<|ae @SlotV.ren.eq_5<|ae @SlotV.ren.eq_6<|ae @SlotV.ren.eq_7<|ae @SlotV.ren.eq_8<|ae @SlotV.ren.eq_9<|ae @SlotV.ren.eq_10<|ae @decide_true<|ae @decide_false<|ae @Nat.zero_lt_one<|ae @Nat.zero_lt_succ<|ae @Bool.false_eq_true<|ae @Bool.false_or<|ae @Bool.or_false<|ae @CV.pure.eq_1<|ae @CV.pure.eq_2<|ae @CV.pure.eq_3<|ae @CV.pure.eq_4<|ae @CV.pures.eq_1<|ae @CV.pures.eq_2<|ae @Bool.false_and<|ae @Bool.and_false<|ae @List.contains_nil.{0}<|ae @List.all_nil.{0}<|ae @List.all_cons.{0}<|ae @Bool.true_and<|ae @Bool.and_true<|ae @SlotV.val.injEq<|ae @CV.pv.injEq<|ae @PV.lit.injEq<|ae @Value.int.injEq<|ae @Value.bool.injEq<|ae @Value.string.injEq<|ae @Int.toNat_natCast<|ae @Int.le_refl<|ae @LeL.eq_1<|ae @LeL.eq_2<|ae @LeP.eq_1<|ae @LeP.eq_2<|ae @mix.eq_1<|ae @mix.eq_2<|ae @RetL.eq_1<|ae @RetR.eq_1<|ae @frozen.eq_1<|ae @CapsOk_nil<|ae @CapsOk_cons<|ae @baseOf_own<|ae @srcOf_own<|ae @baseOf_nil<|ae @srcOf_nil<|ae @srcOf_view<|ae @Lv_u<|ae @views_I<|ae @views_Ik<|ae @views_B<|ae @views_Sx<|ae @noViews_I<|ae @noViews_Ik<|ae @noViews_B<|ae @noViews_Sx<|ae @views_LvI<|ae @views_LvSx<|ae @noViews_LvI<|ae @noViews_LvSx<|ae @explode_ptr<|ae @cast0<|ae @cast1<|ae @cast2<|ae @imp_T<|ae @ren_mk<|ae @List.map_append.{0,0}<|ae @List.map_set.{0,0}<|ae @List.map_replicate.{0,0}<|ae @List.map_take.{0,0}<|ae @List.map_drop.{0,0}<|ae @List.isEmpty_nil.{0}<|ae @List.flatMap_cons.{0,0}<|ae @List.flatMap_nil.{0,0}<|ae @Array.isEmpty_iff.{0}<|ae @kdsOf_nil<|ae @kdsOf_cons<|ae @kdOf_int<|ae @kdOf_bool<|ae @kdOf_str<|ae @eqPVs_one<|ae @eqPVs_two<|ae @eqPV_int<|ae @eqPV_bool<|ae @eqPV_str<|ae @List.length_append.{0}<|ae @List.length_replicate.{0}<|ae @List.length_set.{0}<|ae @resCVs_nil<|ae @resCVs_tmp<|ae @cellCV_box<|ae @resCVs_cell<|ae @resOks_nil<|ae @resOks_tmp<|ae @cellOk_box<|ae @resOks_cell<|ae @asRes_one<|ae @asRes_two<|ae @range_0<|ae @range_1<|ae @range_2<|ae @range_3<|ae @range_4<|ae @range_5<|ae @range_6<|ae @range_7<|ae @range_8<|ae @range_9<|ae @range_10<|ae @range_11<|ae @range_12<|ae @capOf_V<|ae @capV_box<|ae @capV_ptr<|ae @capsOf_nil<|ae @capsOf_cons<|ae @consO_some<|ae @boxNames_N<|ae @boxN_box<|@boxN_val
attribute [push_cast] OrR_true List.getElem?_toArray List.getElem?_cons_succ List.getElem?_cons_zero ap updAll_nil updAll_cons argSt_eq explodes_nil explodes_cons explode_lit explode_view explode_own explode_clo updL_nil updL_cons newObjs.eq_1 deadObjs.eq_1 bj List.nil_append List.cons_append List.map_nil aF true_and and_true Bool.not_true Bool.not_false CV.okp.eq_1 CV.okp.eq_2 CV.offs.eq_1 CV.offs.eq_2 CV.at.eq_1 CV.at.eq_2 parts_node parts_agg explode_agg PV.noOwns.eq_1 PV.noOwns.eq_2 noOwn_lit noOwn_sl noOwn_agg noOwn_clo noOwn_ptr CV.setAt.eq_1 CV.setAt.eq_2 isAgg_node isAgg_own isAgg_agg isAgg_lit isAgg_sl isAgg_clo isAgg_ptr CV.size.eq_1 CV.size.eq_2 CV.size.eq_3 CV.size.eq_4 CV.sizes.eq_1 CV.sizes.eq_2 size_lit size_sl size_clo size_ptr size_agg PV.sizes.eq_1 PV.sizes.eq_2 notGone_pv notGone_own notGone_node argCVs.eq_1 argCVs.eq_2 argCV_val partFs.eq_1 partFs.eq_2 partCVs.eq_1 partCVs.eq_2 setParts.eq_1 setParts.eq_2 CV.wholes.eq_1 CV.wholes.eq_2 CV.whole.eq_1 CV.whole.eq_2 CV.whole.eq_3 CV.whole.eq_4 CV.pvos.eq_1 CV.pvos.eq_2 CV.pvo.eq_1 CV.pvo.eq_2 CV.pvo.eq_3 CV.pvo.eq_4 CV.pvws.eq_1 CV.pvws.eq_2 CV.pvw.eq_1 CV.pvw.eq_2 CV.pvw.eq_3 CV.pvw.eq_4 CV.names.eq_1 CV.names.eq_2 CV.names.eq_3 CV.names.eq_4 CV.namess.eq_1 CV.namess.eq_2 mixNames.eq_1 mixNames.eq_2 mixPure.eq_1 mixPure.eq_2 viewNames.eq_1 viewNames.eq_2 List.getD_cons_zero List.getD_cons_succ List.set_cons_zero List.set_cons_succ List.take_zero List.take_succ_cons aG List.length_nil List.headD_cons List.tail_cons List.headD_nil List.tail_nil rd.eq_1 rd.eq_2 Option.map_some Option.getD_some List.not_mem_nil false_implies List.forall_mem_cons view_lit view_sl view_agg view_clo view_ptr PV.views.eq_1 PV.views.eq_2 Bool.true_or Bool.or_true PV.noView.eq_1 PV.noView.eq_2 PV.noView.eq_3 PV.noView.eq_4 PV.noView.eq_5 PV.noView.eq_6 PV.noViews.eq_1 PV.noViews.eq_2 List.nodup_nil List.nodup_cons resSV_lit resObjs_lit resSV_sl resObjs_sl resSV_agg resObjs_agg resSV_tup resObjs_tup PV.at.eq_1 PV.at.eq_2 PV.at.eq_3 PV.offs.eq_1 PV.offs.eq_2 PV.offs.eq_3 PV.okp.eq_1 PV.okp.eq_2 PV.okp.eq_3 PV.setAt.eq_1 PV.setAt.eq_2 PV.setAt.eq_3 Option.isSome_some List.mem_cons or_false or_self not_false_eq_true Option.some.injEq Prod.mk.injEq List.length_map forall_eq forall_eq_or_imp beq_self_eq_true CV.ren.eq_1 CV.ren.eq_2 CV.ren.eq_3 CV.ren.eq_4 CV.rens.eq_1 CV.rens.eq_2 SlotV.ren.eq_1 SlotV.ren.eq_2 SlotV.ren.eq_3 SlotV.ren.eq_4 SlotV.ren.eq_5 SlotV.ren.eq_6 SlotV.ren.eq_7 SlotV.ren.eq_8 SlotV.ren.eq_9 SlotV.ren.eq_10 decide_true decide_false Nat.zero_lt_one Nat.zero_lt_succ Bool.false_eq_true Bool.false_or Bool.or_false CV.pure.eq_1 CV.pure.eq_2 CV.pure.eq_3 CV.pure.eq_4 CV.pures.eq_1 CV.pures.eq_2 Bool.false_and Bool.and_false List.contains_nil List.all_nil List.all_cons Bool.true_and Bool.and_true SlotV.val.injEq CV.pv.injEq PV.lit.injEq Value.int.injEq Value.bool.injEq Value.string.injEq Int.toNat_natCast Int.le_refl LeL.eq_1 LeL.eq_2 LeP.eq_1 LeP.eq_2 mix.eq_1 mix.eq_2 RetL.eq_1 RetR.eq_1 frozen.eq_1 CapsOk_nil CapsOk_cons baseOf_own srcOf_own baseOf_nil srcOf_nil srcOf_view Lv_u views_I views_Ik views_B views_Sx noViews_I noViews_Ik noViews_B noViews_Sx views_LvI views_LvSx noViews_LvI noViews_LvSx explode_ptr cast0 cast1 cast2 imp_T ren_mk List.map_append List.map_set List.map_replicate List.map_take List.map_drop List.isEmpty_nil List.flatMap_cons List.flatMap_nil Array.isEmpty_iff kdsOf_nil kdsOf_cons kdOf_int kdOf_bool kdOf_str eqPVs_one eqPVs_two eqPV_int eqPV_bool eqPV_str aV List.length_replicate List.length_set resCVs_nil resCVs_tmp cellCV_box resCVs_cell resOks_nil resOks_tmp cellOk_box resOks_cell asRes_one asRes_two range_0 range_1 range_2 range_3 range_4 range_5 range_6 range_7 range_8 range_9 range_10 range_11 range_12 capOf_V capV_box capV_ptr capsOf_nil capsOf_cons consO_some boxNames_N boxN_box boxN_val
end
section
variable{P:Program}{nt:Nat}{F:St→Prop}{n:Nat}{st:St}{k:List Fr}
theorem slot_at{N:Nat→Prop}{w:World}{G:Gh}{j:Nat}{v:Value}{x:CV}(h:SlotOk N w G j v (.box x)∨SlotOk N w G j v (.val x))(p:List Nat)(hp:x.okp p=true):∃ cs,RepCV N w G.hd (x.at p) cs:=by
 have key:∀ cs,RepCV N w G.hd x cs→∃ cs,RepCV N w G.hd (x.at p) cs:=by
  intro cs h
  obtain⟨c1,c2,c3,_,_,h3,_⟩:=RepCV.path p x cs hp h
  exact⟨c2,h3⟩
 rcases h with⟨_,cs,e,_,h⟩ | ⟨_,cs,_,h⟩ | ⟨_,h,_⟩
 ·exact key cs h
 ·exact key cs h
 ·exact key _ h
theorem VC.know_at{c:Code}{Q:Exit→St→Prop}{b:Bool}{sz:Nat}{es:List PV}{x:CV}(j:Nat)(p:List Nat)(hk:st.s j=.box x∨st.s j=.val x)(hp:x.okp p=true)(ha:x.at p=.pv (.sl b sz es))(h:es.length≤maxLen→VC P nt c st Q):VC P nt c st Q:=by
 intro κ a w hnt hR
 refine h ?_ κ a w hnt hR
 obtain⟨G,hG⟩:=hR
 have h1:=hG.slots j
 have h2:∃ cs,RepCV (Nof κ st G w) w G.hd (x.at p) cs:=by
  rcases hk with hk | hk<;>rw[hk] at h1
  ·exact slot_at (.inl h1) p hp
  ·exact slot_at (.inr h1) p hp
 obtain⟨cs,h2⟩:=h2
 rw[ha] at h2
 simp only[RepCV] at h2
 cases b with
 | false=>simp only[RepC] at h2; obtain⟨a,cap,h1,h2,h3,h4,h5⟩:=h2; omega
 | true=>
  simp only[RepC] at h2
  rcases h2 with⟨_,rfl,_⟩ | ⟨b,cap,c,e,F',ccs,h1,h2,h3,_⟩
  ·simp
  ·omega
theorem Mg.know_box{c:Code}{b:Bool}{sz:Nat}{es:List PV}{x:CV}(j:Nat)(p:List Nat)(hk:st.s j=.box x)(hp:x.okp p=true)(ha:x.at p=.pv (.sl b sz es))(h:es.length≤9223372036854775807→Mg P nt F (n+1) (.code (.loop c)) st k):Mg P nt F (n+1) (.code (.loop c)) st k:=
 VC.know_at (Q:=popQ P nt F k) j p (.inl hk) hp ha (fun g=>h (Nat.le_trans g (by decide)))
theorem Mg.know_val{c:Code}{b:Bool}{sz:Nat}{es:List PV}{x:CV}(j:Nat)(p:List Nat)(hk:st.s j=.val x)(hp:x.okp p=true)(ha:x.at p=.pv (.sl b sz es))(h:es.length≤9223372036854775807→Mg P nt F (n+1) (.code (.loop c)) st k):Mg P nt F (n+1) (.code (.loop c)) st k:=
 VC.know_at (Q:=popQ P nt F k) j p (.inr hk) hp ha (fun g=>h (Nat.le_trans g (by decide)))

theorem Mg.know_box2{c:Code}{b:Bool}{sz:Nat}{es:List PV}{x:CV}(j:Nat)(p:List Nat)(hk:st.s j=.box x∧x.okp p=true∧x.at p=.pv (.sl b sz es))(h:es.length≤9223372036854775807→Mg P nt F (n+1) (.code (.loop c)) st k):Mg P nt F (n+1) (.code (.loop c)) st k:=Mg.know_box j p hk.1 hk.2.1 hk.2.2 h
theorem Mg.know_val2{c:Code}{b:Bool}{sz:Nat}{es:List PV}{x:CV}(j:Nat)(p:List Nat)(hk:st.s j=.val x∧x.okp p=true∧x.at p=.pv (.sl b sz es))(h:es.length≤9223372036854775807→Mg P nt F (n+1) (.code (.loop c)) st k):Mg P nt F (n+1) (.code (.loop c)) st k:=Mg.know_val j p hk.1 hk.2.1 hk.2.2 h

/-! ### States that say the same in other words -/
theorem St.le_slot(j:Nat)(v':SlotV)(hb:isBox v'=isBox (st.s j))(h:∀ N w G v,SlotOk N w G j v (st.s j)→SlotOk N w G j v v'):st.le ⟨upd st.s j v',st.o⟩:=by
 rintro κ a w ⟨G,hG⟩
 have hbx:∀ r,isBox ((⟨upd st.s j v',st.o⟩:St).s r)=isBox (st.s r):=by
  intro r
  simp only[upd]
  split
  ·rename_i e; subst e; exact hb
  ·rfl
 have hP:∀ b,Nof κ st G w b→Nof κ ⟨upd st.s j v',st.o⟩ G w b:=by
  intro b hb
  refine⟨hb.1,fun hp=>hb.2 ?_⟩
  rcases hp with⟨r,h1,h2⟩ | ⟨c,p,h1,h2⟩
  ·exact .inl ⟨r,by rw[← hbx]; exact h1,h2⟩
  ·exact .inr ⟨c,p,h1,h2⟩
 refine⟨G,hG.keep,hG.defers,hG.nt,?_,?_,fun r hr=>hG.boxes r (by rw[← hbx]; exact hr),fun r r' h1 h2=>hG.bb r r' (by rw[← hbx]; exact h1) (by rw[← hbx]; exact h2),fun r c p h1 h2=>hG.bo r c p (by rw[← hbx]; exact h1) h2,hG.oo,hG.held⟩
 ·intro i
  have h1:=(hG.slots i).frame hP (fun _ _=>rfl) (fun _ _=>rfl) (fun _ _=>rfl) (fun _=>⟨rfl,rfl⟩)
  simp only[upd]
  split
  ·rename_i e; subst e; exact h _ _ _ _ h1
  ·exact h1
 ·intro c sz es hc
  obtain⟨h1,h2,h3⟩:=hG.objs c sz es hc
  exact⟨RepC.frame hP (fun _ _=>rfl) _ _ _ (fun _ _=>rfl) h1,h2,h3⟩

theorem St.le_nil(j c sz:Nat)(v':SlotV)(hn:st.noC c)(hb:isBox v'=isBox (st.s j))(h:∀ N w G v,G.hd c=.slice none 0 0→SlotOk N w G j v (st.s j)→SlotOk N w G j v v'):st.le ⟨upd st.s j v',upd st.o c (some (sz,[]))⟩:=by
 rintro κ a w ⟨G,hG⟩
 let G':Gh:={ hd:=upd G.hd c (.slice none 0 0),fp:=upd G.fp c [],ad:=G.ad }
 have g1:G'.hd c=.slice none 0 0:=by simp[G',upd]
 have g2:∀ n,n≠c→G'.hd n=G.hd n:=by intro n h; simp[G',upd,h]
 have f1:G'.fp c=[]:=by simp[G',upd]
 have f2:∀ n,n≠c→G'.fp n=G.fp n:=by intro n h; simp[G',upd,h]
 have hbx:∀ r,isBox ((⟨upd st.s j v',upd st.o c (some (sz,[]))⟩:St).s r)=isBox (st.s r):=by
  intro r
  simp only[upd]
  split
  ·rename_i e; subst e; exact hb
  ·rfl
 have ho:∀ m p,(⟨upd st.s j v',upd st.o c (some (sz,[]))⟩:St).o m=some p→(m=c∧p=(sz,[]))∨(m≠c∧st.o m=some p):=by
  intro m p hp
  simp only[upd] at hp
  split at hp
  ·rename_i e; exact .inl ⟨e,(Option.some.inj hp).symm⟩
  ·rename_i e; exact .inr ⟨e,hp⟩
 have hP:∀ b,Nof κ st G w b→Nof κ ⟨upd st.s j v',upd st.o c (some (sz,[]))⟩ G' w b:=by
  intro b hb
  refine⟨hb.1,fun hp=>hb.2 ?_⟩
  rcases hp with⟨r,h1,h2⟩ | ⟨m,p,h1,h2⟩
  ·exact .inl ⟨r,by rw[← hbx]; exact h1,h2⟩
  ·rcases ho m p h1 with⟨rfl,_⟩ | ⟨e,h3⟩
   ·rw[f1] at h2; simp at h2
   ·rw[f2 m e] at h2; exact .inr ⟨m,p,h3,h2⟩
 refine⟨G',hG.keep,hG.defers,hG.nt,?_,?_,fun r hr=>hG.boxes r (by rw[← hbx]; exact hr),fun r r' h1 h2=>hG.bb r r' (by rw[← hbx]; exact h1) (by rw[← hbx]; exact h2),?_,?_,fun m v hm=>(g2 m (by have:=κ.hH m v hm; have:=hn.1.1; omega)).trans (hG.held m v hm)⟩
 ·intro i
  have h1:=(hG.slots i).frame (G':=G') hP (fun _ _=>rfl) (fun m hm=>g2 m (by rintro rfl; rw[hn.2 i] at hm; cases hm)) (fun _ _=>rfl) (fun _=>⟨rfl,rfl⟩)
  simp only[upd]
  split
  ·rename_i e; subst e; exact h _ _ _ _ g1 h1
  ·exact h1
 ·intro m sz' es hc
  rcases ho m _ hc with⟨rfl,e⟩ | ⟨e,h3⟩
  ·cases e
   rw[g1,f1]
   refine⟨?_,List.nodup_nil,by simp⟩
   simp only[RepC]
   exact .inl (by simp)
  ·rw[g2 m e,f2 m e]
   obtain⟨h1,h2,h4⟩:=hG.objs m sz' es h3
   exact⟨RepC.frame hP (fun _ _=>rfl) _ _ _ (fun _ _=>rfl) h1,h2,h4⟩
 ·intro r m p h1 h2
  rcases ho m p h2 with⟨rfl,_⟩ | ⟨e,h3⟩
  ·rw[f1]; simp
  ·rw[f2 m e]; exact hG.bo r m p (by rw[← hbx]; exact h1) h3
 ·intro m m' p p' h1 h2 hne
  rcases ho m p h1 with⟨rfl,_⟩ | ⟨e,h3⟩
  ·rw[f1]; simp
  ·rcases ho m' p' h2 with⟨rfl,_⟩ | ⟨e',h3'⟩
   ·rw[f1]; simp
   ·rw[f2 m e,f2 m' e']; exact hG.oo m m' p p' h3 h3' hne

theorem nil_rep{N:Nat→Prop}{w:World}{hd:Nat→Value}{sz:Nat}{cs:List Value}(h:RepCV N w hd (.pv (.sl true sz [])) cs):cs=[.slice none 0 0]:=by
 simp only[RepCV,RepC] at h
 rcases h with⟨h,_⟩ | ⟨b,cap,c,e,F',ccs,_,_,_,_,_,_,_,_,h⟩
 ·exact h
 ·cases h
theorem isAgg_setAt(x y:CV)(i:Nat)(p:List Nat):(x.setAt (i::p) y).isAgg=true:=by simp[CV.setAt,aR]
theorem isAgg_okp{x:CV}{i:Nat}{p:List Nat}(h:x.okp (i::p)=true):x.isAgg=true:=by
 simp only[CV.okp,aw,decide_eq_true_eq] at h
 cases x with
 | pv v=>cases v<;>simp[CV.parts] at h<;>rfl
 | node fs=>rfl
 | _=>simp[CV.parts] at h
theorem slot_turn{N:Nat→Prop}{w:World}{G:Gh}{j:Nat}{v:Value}{x y z:CV}{p:List Nat}(hp:x.okp p=true)(ha:x.at p=y)(hz:∀ cs,RepCV N w G.hd y cs→RepCV N w G.hd z cs)(hzy:z.isAgg=y.isAgg):
 (SlotOk N w G j v (.box x)→SlotOk N w G j v (.box (x.setAt p z)))∧(SlotOk N w G j v (.val x)→SlotOk N w G j v (.val (x.setAt p z))):=by
 have key:∀ cs,RepCV N w G.hd x cs→RepCV N w G.hd (x.setAt p z) cs:=by
  intro cs h
  obtain⟨c1,c2,c3,e1,_,h3,h4⟩:=RepCV.path p x cs hp h
  rw[e1]
  exact h4 z c2 (hz c2 (ha▸h3))
 constructor
 ·rintro ⟨h1,cs,e,h2,h3⟩; exact⟨h1,cs,e,h2,key cs h3⟩
 ·have hagg:(x.setAt p z).isAgg=x.isAgg:=by
   cases p with
   | nil=>simp only[CV.at] at ha; subst ha; simpa[CV.setAt] using hzy
   | cons i p=>rw[isAgg_setAt,isAgg_okp hp]
  rintro (⟨h1,cs,h2,h3⟩ | ⟨h1,h2,h3⟩)
  ·exact .inl ⟨by rw[hagg]; exact h1,cs,h2,key cs h3⟩
  ·exact .inr ⟨by rw[hagg]; exact h1,key _ h2,h3⟩
/-- A nil slice in a variable becomes an object of its own. -/
theorem St.le_nilB{x:CV}(j:Nat)(p:List Nat)(c sz:Nat)(hn:st.noC c)(hk:st.s j=.box x)(hp:x.okp p=true)(ha:x.at p=.pv (.sl true sz [])):st.le ⟨upd st.s j (.box (x.setAt p (.own c))),upd st.o c (some (sz,[]))⟩:=by
 refine St.le_nil j c sz _ hn (by rw[hk]; rfl) fun N w G v hc h=>?_
 rw[hk] at h
 exact(slot_turn (z:=.own c) hp ha (fun cs hcs=>by rw[nil_rep hcs]; simp[RepCV,hc,Value.oneCell']) rfl).1 h
theorem and_ac{A B C:Prop}(h:A∧B∧C):(A∧B)∧C:=⟨⟨h.1,h.2.1⟩,h.2.2⟩
end
section
/-! ### What is handed over may be looked at only -/
def gv:List Bool→List PV→List PV
 | b::bs,p::ps=>(if b then p.view else p)::gv bs ps
 | _,ps=>ps
theorem repV_give{N N':Nat→Prop}{w:World}{p:PV}{v:Value}{F:List Nat}(hN:∀ b,N b→N' b)(hF:∀ b∈F,N' b)(h:RepV N w p v F):RepV N' w p.view v []:=by
 cases p with
 | agg fs=>
  obtain⟨cs,rfl,h⟩:=h
  exact⟨cs,rfl,RepCs.demote hN fs cs F hF h⟩
 | sl o sz es=>exact RepC.demote hN _ [v] F hF h
 | lit u=>exact RepC.demote hN _ [v] F hF h
 | clo f c=>exact RepC.demote hN _ [v] F hF h
 | ptr u=>exact RepC.demote hN _ [v] F hF h
 | mpv ks vs ck=>exact RepC.demote hN _ [v] F hF h
 | tup ps=>simp[RepV,RepC] at h
theorem repVs_give{N:Nat→Prop}{w:World}:∀ (ms:List Bool) (ps:List PV) (vs:List Value) (F:List Nat),RepVs N w ps vs F→
 ∃ F' G:List Nat,(∀ b,b∈F↔b∈F'∨b∈G)∧(F.Nodup→F'.Nodup∧∀ b∈G,b∉F')∧∀ N':Nat→Prop,(∀ b,N b→N' b)→(∀ b∈G,N' b)→RepVs N' w (gv ms ps) vs F'
 | [],ps,vs,F,h=>⟨F,[],by simp,fun h=>⟨h,by simp⟩,fun N' hN _=>by
  have e:gv [] ps=ps:=by cases ps<;>rfl
  rw[e]; exact repVs_frame hN (fun _ _=>rfl) (fun _ _=>rfl) h⟩
 | m::ms,[],vs,F,h=>⟨F,[],by simp,fun h=>⟨h,by simp⟩,fun N' hN _=>repVs_frame hN (fun _ _=>rfl) (fun _ _=>rfl) h⟩
 | m::ms,p::ps,vs,F,h=>by
  simp only[RepVs] at h
  obtain⟨v,vs',F1,F2,rfl,rfl,h1,h2⟩:=h
  obtain⟨F',G,g1,g2,g3⟩:=repVs_give ms ps vs' F2 h2
  cases m with
  | true=>
   refine⟨F',F1++G,?_,?_,?_⟩
   ·intro b; simp only[aT,g1 b]
    constructor
    ·rintro (h | h | h); exact .inr (.inl h); exact .inl h; exact .inr (.inr h)
    ·rintro (h | h | h); exact .inr (.inl h); exact .inl h; exact .inr (.inr h)
   ·intro hn
    rw[List.nodup_append] at hn
    obtain⟨k1,k2⟩:=g2 hn.2.1
    refine⟨k1,fun b hb hb'=>?_⟩
    rcases List.mem_append.1 hb with hb | hb
    ·exact hn.2.2 b hb b ((g1 b).2 (.inl hb')) rfl
    ·exact k2 b hb hb'
   ·intro N' hN hG
    refine⟨v,vs',[],F',rfl,rfl,?_,g3 N' hN (fun b hb=>hG b (by simp[hb]))⟩
    exact repV_give hN (fun b hb=>hG b (by simp[hb])) h1
  | false=>
   refine⟨F1++F',G,?_,?_,?_⟩
   ·intro b; simp only[aT,g1 b]
    constructor
    ·rintro (h | h | h); exact .inl (.inl h); exact .inl (.inr h); exact .inr h
    ·rintro ((h | h) | h); exact .inl h; exact .inr (.inl h); exact .inr (.inr h)
   ·intro hn
    rw[List.nodup_append] at hn
    obtain⟨k1,k2⟩:=g2 hn.2.1
    refine⟨?_,fun b hb hb'=>?_⟩
    ·rw[List.nodup_append]
     exact⟨hn.1,k1,fun a ha b hb=>hn.2.2 a ha b ((g1 b).2 (.inl hb))⟩
    ·rcases List.mem_append.1 hb' with hb' | hb'
     ·exact hn.2.2 b hb' b ((g1 b).2 (.inr hb)) rfl
     ·exact k2 b hb hb'
   ·intro N' hN hG
    exact⟨v,vs',F1,F',rfl,rfl,h1.frame hN (fun _ _=>rfl) (fun _ _=>rfl),g3 N' hN hG⟩
theorem repR_frame{N N':Nat→Prop}{w:World}{p:PV}{v:Value}{F:List Nat}(hN:∀ b,N b→N' b)(h:RepR N w p v F):RepR N' w p v F:=by
 cases p with
 | tup ps=>obtain⟨vs,h1,h2⟩:=h; exact⟨vs,h1,repVs_frame hN (fun _ _=>rfl) (fun _ _=>rfl) h2⟩
 | lit u=>exact RepV.frame (w:=w) (w':=w) (p:=.lit u) hN (fun _ _=>rfl) (fun _ _=>rfl) h
 | agg u=>exact RepV.frame (w:=w) (w':=w) (p:=.agg u) hN (fun _ _=>rfl) (fun _ _=>rfl) h
 | sl o sz es=>exact RepV.frame (w:=w) (w':=w) (p:=.sl o sz es) hN (fun _ _=>rfl) (fun _ _=>rfl) h
 | clo f c=>exact RepV.frame (w:=w) (w':=w) (p:=.clo f c) hN (fun _ _=>rfl) (fun _ _=>rfl) h
 | ptr u=>exact RepV.frame (w:=w) (w':=w) (p:=.ptr u) hN (fun _ _=>rfl) (fun _ _=>rfl) h
 | mpv ks vs ck=>exact RepV.frame (w:=w) (w':=w) (p:=.mpv ks vs ck) hN (fun _ _=>rfl) (fun _ _=>rfl) h
theorem Sat.give{P:Program}{f:FuncId}{args:List PV}{res:PV}(ms:List Bool)(h:Sat P f (gv ms args) res):Sat P f args res:=by
 refine⟨h.1,fun w N vs Fs hN hnd hlt hvs=>?_⟩
 obtain⟨F',G,h1,h2,h3⟩:=repVs_give ms args vs Fs hvs
 obtain⟨k1,k2⟩:=h2 hnd
 have hG:∀ b∈G,b<w.heap.size:=fun b hb=>hlt b ((h1 b).2 (.inr hb))
 have:=h.2 w (fun b=>N b∨b∈G) vs F' (by
  rintro b (hb | hb)
  ·exact⟨(hN b hb).1,fun hb'=>(hN b hb).2 ((h1 b).2 (.inl hb'))⟩
  ·exact⟨hG b hb,k2 b hb⟩) k1 (fun b hb=>hlt b ((h1 b).2 (.inl hb))) (h3 _ (fun _ h=>.inl h) (fun _ h=>.inr h))
 refine this.mono fun e w' he=>?_
 obtain⟨v,F,rfl,hk,hr,hfn,hf⟩:=he
 refine⟨v,F,rfl,⟨hk.os,hk.tape,hk.output,hk.size,fun k hk1 hk2=>hk.block k hk1 (fun hb=>hk2 ((h1 k).2 (.inl hb))),hk.drawn⟩,repR_frame ?_ hr,hfn,fun b hb=>⟨(hf b hb).1.imp id (fun g=>(h1 b).2 (.inl g)),(hf b hb).2⟩⟩
 rintro b ((hb | hb) | hb)
 ·exact .inl hb
 ·refine .inr ⟨.inr ((h1 b).2 (.inr hb)),Nat.lt_of_lt_of_le (hG b hb) hk.size,fun hbF=>?_⟩
  rcases (hf b hbF).1 with g | g
  ·have:=hG b hb; omega
  ·exact k2 b hb g
 ·exact .inr ⟨hb.1.imp id (fun g=>(h1 b).2 (.inl g)),hb.2⟩
theorem views_repB(n:Nat)(b:Bool):PV.views (List.replicate n (B b))=List.replicate n (B b):=by
 induction n with
 | zero=>rfl
 | succ n ih=>rw[List.replicate_succ,PV.views,ih]; rfl
theorem views_repI(n:Nat)(i:Int):PV.views (List.replicate n (I i))=List.replicate n (I i):=by
 induction n with
 | zero=>rfl
 | succ n ih=>rw[List.replicate_succ,PV.views,ih]; rfl
theorem gv_t(bs:List Bool)(p:PV)(ps:List PV):gv (true::bs) (p::ps)=p.view::gv bs ps:=rfl
theorem gv_f(bs:List Bool)(p:PV)(ps:List PV):gv (false::bs) (p::ps)=p::gv bs ps:=rfl
theorem gv_n(ps:List PV):gv [] ps=ps:=by cases ps<;>rfl
/-! ### What a walk asks again and again -/
theorem nilV_noC(t:Bool)(es:List PV)(c:Nat):(nilV t es).noC c=true:=by cases es<;>rfl
theorem nilV_noR(t:Bool)(es:List PV)(r:Nat):(nilV t es).noR r=true:=by cases es<;>rfl
theorem NM{st:St}{c:Nat}(h:St.noC st c:=by repeat (first | exact noC_empty _ _ ⟨by decide,rfl⟩ | exact noC_nilS _ _ ⟨by decide,rfl⟩ | refine noC_mk _ _ _ _ _ rfl ?_ | refine noC_mkS _ _ _ _ _ rfl ?_ | refine noC_mk _ _ _ _ _ (nilV_noC _ _ _) ?_)):St.noC st c:=h
theorem NR{st:St}{r:Nat}(h:St.noR st r:=by repeat (first | exact noR_empty _ _ | exact noR_nilS _ _ | refine noR_mk _ _ _ _ _ rfl ?_ | refine noR_mkS _ _ _ _ _ rfl ?_ | refine noR_mk _ _ _ _ _ (nilV_noR _ _ _) ?_)):St.noR st r:=h
theorem naA{st:St}{r:Nat}{K:Prop}(h:St.noR st r)(hK:K):St.noR st r∧K:=⟨h,hK⟩
theorem ncA{st:St}{c:Nat}{K:Prop}(h:St.noC st c)(hK:K):St.noC st c∧K:=⟨h,hK⟩
theorem ngA{l:List Nat}{n:Nat}{K:Prop}(h:l=List.range n)(hK:K):l=List.range n∧K:=⟨h,hK⟩
theorem all_nil{P:Nat→Prop}:∀ x∈([]:List Nat),P x:=fun _ h=>nomatch h
theorem all_cons{P:Nat→Prop}{a:Nat}{l:List Nat}(h:P a)(t:∀ x∈l,P x):∀ x∈a::l,P x:=fun x hx=>by
 rcases List.mem_cons.1 hx with rfl | hx
 ·exact h
 ·exact t x hx
/-- A test that is met at the start of every walk. -/
def Dum:Bool:=true
theorem Run.of0{α:Type}{m:Option α}{r:α}(h:m=some r):Run m (fun v=>v=r)∧Dum=true:=⟨Run.of h,rfl⟩
/-- The machine runs on until it stops; what is new is new. -/
theorem S{G K:Prop}(k:K)(e:K→G:=by intro k; (try simp (config:={ maxSteps:=300000 }) only[↓TP,push_cast,Nat.reduceLT,Nat.reduceAdd,Nat.reduceMul,Nat.reduceEqDiff,reduceIte,Nat.reduceBEq,Nat.reduceLeDiff,Nat.reduceSub,Int.reduceToNat,Int.reduceAdd,cs]); (repeat (first | (with_reducible refine naA ?_ ?_; exact NR) | (with_reducible refine ncA ?_ ?_; exact NM) | with_reducible refine and_ac ?_ | with_reducible refine OrR.l ?_ | (with_reducible refine ngA ?_ ?_; rfl))); exact k):G:=e k
/-- .. and what is left is plain. -/
theorem SC{G:Prop}(h:G:=by simp (config:={ maxSteps:=300000 }) only[↓TP,push_cast,Nat.reduceLT,Nat.reduceAdd,Nat.reduceMul,Nat.reduceEqDiff,reduceIte,Nat.reduceBEq,Nat.reduceLeDiff,Nat.reduceSub,Int.reduceToNat,Int.reduceAdd,cs]):G:=h
theorem SWx{G:Prop}(h:G:=by simp (config:={ maxSteps:=300000 }) only[↓TP,push_cast,Nat.reduceLT,Nat.reduceAdd,Nat.reduceMul,Nat.reduceEqDiff,reduceIte,Nat.reduceBEq,Nat.reduceLeDiff,Nat.reduceSub,Int.reduceToNat,Int.reduceAdd,cs,w]):G:=h
theorem CondH.run{α:Type}{b:Bool}{x y:Option α}{φ:α→Prop}{A B C:Prop}(cs:C)(h:Run (cond b x y) φ)(f:b=true∧C→Run x φ→A)(g:b=false∧C→Run y φ→B):CondH b A B .mk .mk:=
 CondH.mk (fun c=>f ⟨c,cs⟩ (run_t c h)) (fun c=>g ⟨c,cs⟩ (run_f c h))
theorem CondH.t2{p:Prop}[Decidable p]{A B C:Prop}(cs:C)(hp:p)(f:decide p=true∧C→A):CondH (decide p) A B .mk .mk:=CondH.tt (decide_eq_true hp) fun c=>f ⟨c,cs⟩
theorem CondH.f2{p:Prop}[Decidable p]{A B C:Prop}(cs:C)(hp:¬ p)(f:decide p=false∧C→B):CondH (decide p) A B .mk .mk:=CondH.ff (decide_eq_false hp) fun c=>f ⟨c,cs⟩
theorem DrawH.ak{st:St}{l:List Oper}{recs:List Rec}(frs fcs:List Nat)(h1:edgesL l=true:=by rfl)(h2:pairsL l recs=true:=by first | rfl | (simp only[↓TP,push_cast,Nat.reduceLT,Nat.reduceAdd,Nat.reduceMul,Nat.reduceEqDiff,reduceIte,Nat.reduceBEq,Nat.reduceLeDiff,Nat.reduceSub,Int.reduceToNat,Int.reduceAdd,cs]<;>rfl))(h3:recs.flatMap (·.fr)=frs:=by rfl)(h4:recs.flatMap (·.fc)=fcs:=by first | rfl | (simp only[↓TP,push_cast,Nat.reduceLT,Nat.reduceAdd,Nat.reduceMul,Nat.reduceEqDiff,reduceIte,Nat.reduceBEq,Nat.reduceLeDiff,Nat.reduceSub,Int.reduceToNat,Int.reduceAdd,cs]<;>rfl))
 (h5:∀ x∈frs,st.noR x:=by repeat (first | exact all_nil | refine all_cons ?_ ?_ | exact noR_empty _ _ | exact noR_nilS _ _ | refine noR_mk _ _ _ _ _ rfl ?_ | refine noR_mkS _ _ _ _ _ rfl ?_))
 (h6:∀ c∈fcs,st.noC c:=by repeat (first | exact all_nil | refine all_cons ?_ ?_ | exact noC_empty _ _ ⟨by decide,rfl⟩ | exact noC_nilS _ _ ⟨by decide,rfl⟩ | refine noC_mk _ _ _ _ _ rfl ?_ | refine noC_mkS _ _ _ _ _ rfl ?_)) (h7:((recs.flatMap (·.rp)).all fun k=>isBx (st.s k))=true:=by rfl):DrawH ⟨l⟩ st recs .mk .mk .mk:=DrawH.mk frs fcs h1 h2 h3 h4 h5 h6 h7
/-! ### Short words for walks -/
theorem run_bk{α β:Type}{m:Option α}{f:α→Option β}{φ:β→Prop}{G:Prop}(h:Run (m.bind f) φ)(k:∀ v,m=some v→Run (f v) φ→G):G:=by
 obtain⟨v,h1,h2⟩:=run_bind h; exact k v h1 h2
theorem FinH.zl{P:Program}{st:St}{rs:List ResultVar}{β:Type}{y:β}{φ:β→Prop}{T:PV}(h:Run (some y) φ)(k:φ y→RetL P st rs T:=by intro e; cases e; simp (config:={ maxSteps:=300000 }) only[↓TP,push_cast,Nat.reduceLT,Nat.reduceAdd,Nat.reduceMul,Nat.reduceEqDiff,reduceIte,Nat.reduceBEq,Nat.reduceLeDiff,Nat.reduceSub,Int.reduceToNat,Int.reduceAdd,cs]):FinH P st rs T:=FinH.l (k (run_some h))
theorem FinH.zr{P:Program}{st:St}{rs:List ResultVar}{β:Type}{y:β}{φ:β→Prop}{T:PV}(h:Run (some y) φ)(k:φ y→RetR P st rs T:=by intro e; cases e; simp (config:={ maxSteps:=300000 }) only[↓TP,push_cast,Nat.reduceLT,Nat.reduceAdd,Nat.reduceMul,Nat.reduceEqDiff,reduceIte,Nat.reduceBEq,Nat.reduceLeDiff,Nat.reduceSub,Int.reduceToNat,Int.reduceAdd,cs]):FinH P st rs T:=FinH.r (k (run_some h))
theorem CallH.c{P:Program}{f:FuncId}{views owns caps args:List PV}{K:List Bool→PV→Prop}(ms:List Bool){res:PV}(h:Sat P f args res){H:Prop}(hK:K ms res)(ha:args=mix ms views owns++caps:=by simp (config:={ maxSteps:=300000 }) only[↓TP,push_cast,Nat.reduceLT,Nat.reduceAdd,Nat.reduceMul,Nat.reduceEqDiff,reduceIte,Nat.reduceBEq,Nat.reduceLeDiff,Nat.reduceSub,Int.reduceToNat,Int.reduceAdd,cs]):CallH P f views owns caps K H .mk .mk:=CallH.mk ms h ha hK
theorem IdxH.c{α:Type}(f:α→PV){xs:List α}{x:α}{es:List PV}{e:Int}{K:PV→Prop}(h:idx xs e=some x)(hK:K (f x))(he:es=xs.map f:=by simp (config:={ maxSteps:=300000 }) only[↓TP,push_cast,Nat.reduceLT,Nat.reduceAdd,Nat.reduceMul,Nat.reduceEqDiff,reduceIte,Nat.reduceBEq,Nat.reduceLeDiff,Nat.reduceSub,Int.reduceToNat,Int.reduceAdd,cs]):IdxH es e K .mk:=IdxH.mk h he hK
theorem EldH.c{α:Type}(f:α→PV){xs:List α}{x:α}{es:List PV}{e:Int}{K:PV→Prop}(h:idx xs e=some x)(hK:K (f x))(he:es=xs.map f:=by simp (config:={ maxSteps:=300000 }) only[↓TP,push_cast,Nat.reduceLT,Nat.reduceAdd,Nat.reduceMul,Nat.reduceEqDiff,reduceIte,Nat.reduceBEq,Nat.reduceLeDiff,Nat.reduceSub,Int.reduceToNat,Int.reduceAdd,cs]):EldH es e.toNat K .mk:=EldH.mk h rfl he hK
theorem AppH.c{α:Type}(f:α→PV){sz:Nat}{xs ys zs:List α}{es es':List PV}{K:List PV→Prop}(hf:∀ a,(f a).size=sz)(h:app xs ys=some zs)(hK:K (zs.map f))(he:es=xs.map f:=by simp (config:={ maxSteps:=300000 }) only[↓TP,push_cast,Nat.reduceLT,Nat.reduceAdd,Nat.reduceMul,Nat.reduceEqDiff,reduceIte,Nat.reduceBEq,Nat.reduceLeDiff,Nat.reduceSub,Int.reduceToNat,Int.reduceAdd,cs])(hy:es'=ys.map f:=by simp (config:={ maxSteps:=300000 }) only[↓TP,push_cast,Nat.reduceLT,Nat.reduceAdd,Nat.reduceMul,Nat.reduceEqDiff,reduceIte,Nat.reduceBEq,Nat.reduceLeDiff,Nat.reduceSub,Int.reduceToNat,Int.reduceAdd,cs]):AppH sz es es' K .mk:=AppH.mk hf h he hy hK
theorem CondH.t3{p:Prop}[Decidable p]{A B C:Prop}(cs:C)(f:decide p=true∧C→A)(hp:p:=by omega):CondH (decide p) A B .mk .mk:=CondH.t2 cs hp f
theorem CondH.f3{p:Prop}[Decidable p]{A B C:Prop}(cs:C)(f:decide p=false∧C→B)(hp:¬ p:=by omega):CondH (decide p) A B .mk .mk:=CondH.f2 cs hp f
theorem wrap_s2(i:Nat)(h:i<9223372036854775807:=by omega):IntKind.i64.wrap ((i:Int)+1)=((i+1:Nat):Int):=wrap_succ h
theorem RdH.z{ρ σ:Type}{rest:σ→Option (ρ ⊕ σ)}{ψ:ρ ⊕ σ→Prop}{st:St}{S:σ→List (Nat×SlotV)}{O:σ→List (Nat×(Nat×List PV))}{s:σ}(h:Run (some (Flow.nx s)) (stepP rest ψ))(k:LeL st.s (S s)∧LeP st.o (O s):=by simp (config:={ maxSteps:=300000 }) only[↓TP,push_cast,Nat.reduceLT,Nat.reduceAdd,Nat.reduceMul,Nat.reduceEqDiff,reduceIte,Nat.reduceBEq,Nat.reduceLeDiff,Nat.reduceSub,Int.reduceToNat,Int.reduceAdd,cs,w]):RdH (fun st'=>∃ s',Run (rest s') ψ∧st'.le ⟨mkS (S s'),mkO (O s')⟩) st .mk:=⟨s,run_some (φ:=stepP rest ψ) h,St.le_mk2 k⟩
theorem Sat.go{P:Program}(nt:Nat)(rs:List ResultVar){f:FuncId}{fn:Func}{c:Code}{args:List PV}{res:PV}(hf:P.funcs[f]?=some fn)(hname:(fn.name== "runtime.NumGoroutine")=false:=by rfl)(hb:fn.body=some c:=by rfl)
 (hnt:fn.ntmps=nt:=by rfl) (hrs:fn.results.toList=rs:=by rfl) (hle:args.length≤nt:=by simp) (h:Mg P nt (fun st=>FinH P st rs res) 100000 (.code c) (argSt args) []):Sat P f args res:=Sat.of_m hf hname hb hnt hrs hle h
/-- A value under another name. -/
theorem asZ{α:Type}{C G:Prop}(e:α)(cs:C)(k:∀ z,z=e∧C→G):G:=k e ⟨rfl,cs⟩
end
section
theorem thenL_inl{ρ σ:Type}(r:ρ)(k:σ→Option ρ):thenL (some (.inl r)) k=some r:=rfl
theorem thenL_inr{ρ σ:Type}(s:σ)(k:σ→Option ρ):thenL (some (.inr s)) k=k s:=rfl
/-- A loop over a list. -/
def forL{α ρ σ:Type}(g:Nat→α→σ→Option (Flow ρ σ)):List α→Nat→σ→Option (ρ ⊕ σ)
 | [],_,s=>some (.inr s)
 | x::xs,i,s=>(g i x s).bind fun
  | .nx s'=>forL g xs (i+1) s'
  | .br s'=>some (.inr s')
  | .rt r=>some (.inl r)
theorem forL_nil{α ρ σ:Type}(g:Nat→α→σ→Option (Flow ρ σ))(i:Nat)(s:σ):forL g [] i s=some (.inr s):=rfl
theorem forL_nx{α ρ σ:Type}{g:Nat→α→σ→Option (Flow ρ σ)}{x:α}{xs:List α}{i:Nat}{s s':σ}(h:g i x s=some (.nx s')):forL g (x::xs) i s=forL g xs (i+1) s':=by simp[forL,h]
theorem forL_rt{α ρ σ:Type}{g:Nat→α→σ→Option (Flow ρ σ)}{x:α}{xs:List α}{i:Nat}{s:σ}{r:ρ}(h:g i x s=some (.rt r)):forL g (x::xs) i s=some (.inl r):=by simp[forL,h]
theorem forN_nx{ρ σ:Type}{f:Nat→σ→Option (Flow ρ σ)}{n i:Nat}{s s':σ}(h:f i s=some (.nx s')):forN f (n+1) i s=forN f n (i+1) s':=by simp[forN,h]
theorem forN_rt{ρ σ:Type}{f:Nat→σ→Option (Flow ρ σ)}{n i:Nat}{s:σ}{r:ρ}(h:f i s=some (.rt r)):forN f (n+1) i s=some (.inl r):=by simp[forN,h]
theorem forN_zero{ρ σ:Type}(f:Nat→σ→Option (Flow ρ σ))(i:Nat)(s:σ):forN f 0 i s=some (.inr s):=rfl
theorem idx_nat{α:Type}(xs:List α)(i:Nat):idx xs (i:Int)=xs[i]?:=by simp[idx]
theorem forN_forL{α ρ σ:Type}(f:Nat→σ→Option (Flow ρ σ))(g:Nat→α→σ→Option (Flow ρ σ)):∀ (xs:List α) (i:Nat) (s:σ),(∀ j x s,xs[j]?=some x→f (i+j) s=g (i+j) x s)→forN f xs.length i s=forL g xs i s
 | [],_,_,_=>rfl
 | x::xs,i,s,h=>by
  have h0:=h 0 x s (by simp)
  simp only[Nat.add_zero] at h0
  simp only[aG,forN,forL,h0]
  congr 1
  funext o
  cases o with
  | nx s'=>exact forN_forL f g xs (i+1) s' (fun j y t hy=>by have:=h (j+1) y t (by simpa using hy); simpa[Nat.add_assoc,Nat.add_comm 1 j] using this)
  | _=>rfl
theorem forN_idx{α ρ σ:Type}(xs:List α)(body:Nat→α→σ→Option (Flow ρ σ))(s:σ):forN (fun i s=>(idx xs (i:Int)).bind fun v=>body i v s) xs.length 0 s=forL body xs 0 s:=by
 refine forN_forL _ _ xs 0 s (fun j x s h=>?_)
 simp only[Nat.zero_add,idx_nat,h,ap]
theorem forN_congr{ρ σ:Type}{f g:Nat→σ→Option (Flow ρ σ)}:∀ (n i:Nat) (s:σ),(∀ j s,j<n→f (i+j) s=g (i+j) s)→forN f n i s=forN g n i s
 | 0,_,_,_=>rfl
 | n+1,i,s,h=>by
  simp only[forN,show f i s=g i s from by have:=h 0 s (by omega); simpa using this]
  congr 1
  funext o
  cases o with
  | nx s'=>exact forN_congr n (i+1) s' (fun j t hj=>by have:=h (j+1) t (by omega); simpa[Nat.add_assoc,Nat.add_comm 1 j] using this)
  | _=>rfl
theorem forL_congr{α ρ σ:Type}{f g:Nat→α→σ→Option (Flow ρ σ)}:∀ (xs:List α) (i:Nat) (s:σ),(∀ j x s,xs[j]?=some x→f (i+j) x s=g (i+j) x s)→forL f xs i s=forL g xs i s
 | [],_,_,_=>rfl
 | x::xs,i,s,h=>by
  simp only[forL,show f i x s=g i x s from by have:=h 0 x s (by simp); simpa using this]
  congr 1
  funext o
  cases o with
  | nx s'=>exact forL_congr xs (i+1) s' (fun j y t hy=>by have:=h (j+1) y t (by simpa using hy); simpa[Nat.add_assoc,Nat.add_comm 1 j] using this)
  | _=>rfl

/-! ### Sizes -/
def szR(t:Nat)(l:Int):Int:=if (t:Int)≤l then l-t else -1
abbrev wr(n:Int):Int:=IntKind.i64.wrap n
theorem wr64{n:Int}(h1:-9223372036854775808≤n)(h2:n<9223372036854775808):wr n=n:=wrap64 h1 h2
def Big(n:Nat):Prop:=n≤9223372036854775807
theorem szR_neg{t:Nat}{l:Int}(h0:0≤l):szR t l<0↔¬ (t:Int)≤l:=by
 unfold szR; split<;>omega
theorem szStep{t1 t2:Nat}{l:Int}{k:Int→Option Int}(h0:0≤l)(h1:l≤1048576)(h:∀ l',0≤l'→l'≤1048576→k l'=some (szR t2 l')):(bif decide (szR t1 l<0) then some (-1) else k (szR t1 l))=some (szR (t1+t2) l):=by
 by_cases e:(t1:Int)≤l
 ·have:¬ szR t1 l<0:=by rw[szR_neg h0]; simpa using e
  have e1:szR t1 l=l-t1:=by simp[szR,e]
  rw[decide_eq_false this,cond_false,h _ (by omega) (by omega),e1]
  unfold szR
  congr 1
  by_cases g:(t2:Int)≤l-t1
  ·rw[if_pos g,if_pos (by omega)]; omega
  ·rw[if_neg g,if_neg (by omega)]
 ·have:szR t1 l<0:=by rw[szR_neg h0]; exact e
  rw[decide_eq_true this,cond_true]
  have g:¬ ((t1+t2:Nat):Int)≤l:=by omega
  simp only[szR,if_neg g]
theorem szLast{t1:Nat}{l:Int}(h0:0≤l):(bif decide (szR t1 l<0) then some (-1) else some (szR t1 l))=some (szR t1 l):=by
 by_cases e:szR t1 l<0
 ·rw[decide_eq_true e,cond_true]
  have:¬ (t1:Int)≤l:=(szR_neg h0).1 e
  simp[szR,this]
 ·rw[decide_eq_false e,cond_false]
theorem wr_szR{t:Nat}{l:Int}(h0:0≤l)(h1:l≤1048576)(hb:Big t):wr (l-t)=l-t:=wrap64 (by simp only[Big] at hb; omega) (by omega)
theorem szStrStep{t1 t2:Nat}{l:Int}{k:Int→Option Int}(h0:0≤l)(h1:l≤1048576)(hb:Big t1)(h:∀ l',0≤l'→l'≤1048576→k l'=some (szR t2 l')):(bif decide (wr (l-t1)<0) then some (-1) else k (wr (l-t1)))=some (szR (t1+t2) l):=by
 rw[wr_szR h0 h1 hb]
 by_cases e:l-t1<0
 ·rw[decide_eq_true e,cond_true]
  have g:¬ ((t1+t2:Nat):Int)≤l:=by omega
  simp only[szR,if_neg g]
 ·rw[decide_eq_false e,cond_false,h _ (by omega) (by omega)]
  unfold szR
  congr 1
  by_cases g:(t2:Int)≤l-t1
  ·rw[if_pos g,if_pos (by omega)]; omega
  ·rw[if_neg g,if_neg (by omega)]
theorem szStepM{t1 t2:Nat}{l:Int}{m:Option Int}(h0:0≤l)(h1:l≤1048576)(h:0≤szR t1 l→szR t1 l≤1048576→m=some (szR t2 (szR t1 l))):(bif decide (szR t1 l<0) then some (-1) else m)=some (szR (t1+t2) l):=by
 by_cases e:szR t1 l<0
 ·have:=szStep (t1:=t1) (t2:=t2) (k:=fun l=>some (szR t2 l)) h0 h1 (fun _ _ _=>rfl)
  rw[decide_eq_true e,cond_true] at this ⊢
  exact this
 ·have:=szStep (t1:=t1) (t2:=t2) (k:=fun l=>some (szR t2 l)) h0 h1 (fun _ _ _=>rfl)
  rw[decide_eq_false e,cond_false] at this ⊢
  rw[h (by omega) (by unfold szR at e ⊢; split<;>omega)]
  exact this
theorem szStrStepM{t1 t2:Nat}{l:Int}{m:Option Int}(h0:0≤l)(h1:l≤1048576)(hb:Big t1)(h:0≤wr (l-t1)→wr (l-t1)≤1048576→m=some (szR t2 (wr (l-t1)))):(bif decide (wr (l-t1)<0) then some (-1) else m)=some (szR (t1+t2) l):=by
 have:=szStrStep (t1:=t1) (t2:=t2) (k:=fun l=>some (szR t2 l)) h0 h1 hb (fun _ _ _=>rfl)
 by_cases e:wr (l-t1)<0
 ·rw[decide_eq_true e,cond_true] at this ⊢
  exact this
 ·rw[decide_eq_false e,cond_false] at this ⊢
  rw[h (by omega) (by rw[wr_szR h0 h1 hb]; omega)]
  exact this
theorem szL_loop{α:Type}(f:α→Int→Option Int)(t:α→Nat):∀ (xs:List α) (i:Nat) (l:Int),(∀ x∈xs,∀ l,0≤l→l≤1048576→f x l=some (szR (t x) l))→0≤l→l≤1048576→
 thenL (ρ:=Int) (forL (fun _ v s=>(f v s).bind fun w=>bif decide (w<0) then some (.rt (-1)) else some (.nx w)) xs i l) (fun s=>some s)=some (szR (xs.map t).sum l)
 | [],i,l,_,h0,h1=>by simp[forL,thenL_inr,szR,h0]
 | x::xs,i,l,h,h0,h1=>by
  have hx:=h x (by simp) l h0 h1
  by_cases e:szR (t x) l<0
  ·rw[forL_rt (r:=-1) (by rw[hx,ap,decide_eq_true e]; rfl),thenL_inl]
   have:¬ (t x:Int)≤l:=(szR_neg h0).1 e
   have g:¬ (((x::xs).map t).sum:Int)≤l:=by simp only[aF,bw]; omega
   simp only[szR,if_neg g]
  ·rw[forL_nx (s':=szR (t x) l) (by rw[hx,ap,decide_eq_false e]; rfl)]
   have e2:(t x:Int)≤l:=Classical.byContradiction fun g=>e ((szR_neg h0).2 g)
   have e1:szR (t x) l=l-t x:=by simp[szR,e2]
   rw[szL_loop f t xs (i+1) _ (fun y hy=>h y (by simp[hy])) (by omega) (by omega),e1]
   unfold szR
   congr 1
   simp only[aF,bw]
   by_cases g:((xs.map t).sum:Int)≤l-t x
   ·rw[if_pos g,if_pos (by omega)]; omega
   ·rw[if_neg g,if_neg (by omega)]
def ltot{α:Type}(t:α→Nat)(xs:List α):Nat:=xs.length+(xs.map t).sum
theorem szL{α:Type}{f:α→Int→Option Int}{t:α→Nat}{xs:List α}{l:Int}(hf:∀ x∈xs,∀ l,0≤l→l≤1048576→f x l=some (szR (t x) l))(hb:Big xs.length)(h0:0≤l)(h1:l≤1048576):
 (bif decide (wr (l-xs.length)<0) then some (-1) else thenL (ρ:=Int) (forN (fun i s=>(idx xs (i:Int)).bind fun v=>(f v s).bind fun w=>bif decide (w<0) then some (.rt (-1)) else some (.nx w)) xs.length 0 (wr (l-xs.length))) fun s=>some s)=some (szR (ltot t xs) l):=
 szStrStep (k:=fun l=>thenL (ρ:=Int) (forN (fun i s=>(idx xs (i:Int)).bind fun v=>(f v s).bind fun w=>bif decide (w<0) then some (.rt (-1)) else some (.nx w)) xs.length 0 l) fun s=>some s) h0 h1 hb
  (fun l' g0 g1=>by simp only[forN_idx]; exact szL_loop f t xs 0 l' hf g0 g1)
/-! ### Copies -/
theorem toL_loop{α β:Type}(f:α→Option β)(g:α→β)(z:β):∀ (xs:List α) (pre:List β),(∀ x∈xs,f x=some (g x))→
 thenL (ρ:=List β) (forL (fun i v s=>(f v).bind fun w=>(idx s (i:Int)).bind fun _=>(idx s (i:Int)).bind fun _=>some (.nx (s.set (i:Int).toNat w))) xs pre.length (pre++List.replicate xs.length z)) (fun s=>some s)=some (pre++xs.map g)
 | [],pre,_=>by simp[forL,thenL_inr]
 | x::xs,pre,h=>by
  have hx:=h x (by simp)
  have e:(pre++List.replicate (x::xs).length z)[pre.length]?=some z:=by simp[List.replicate_succ]
  rw[forL_nx (s':=(pre++[g x])++List.replicate xs.length z) (by
   rw[hx,ap,idx_nat,e,ap,ap,Int.toNat_natCast]
   simp[List.replicate_succ])]
  have:=toL_loop f g z xs (pre++[g x]) (fun y hy=>h y (by simp[hy]))
  simp only[aV,aG,List.length_nil,Nat.zero_add] at this
  rw[this]; simp
theorem toL{α β:Type}{f:α→Option β}{g:α→β}{z:β}{xs:List α}(h:∀ x∈xs,f x=some (g x))(hl:xs.length≤1073741824):
 ((mkn (xs.length:Int)).bind fun n=>thenL (ρ:=List β) (forN (fun i s=>(idx xs (i:Int)).bind fun v=>(f v).bind fun w=>(idx s (i:Int)).bind fun _=>(idx s (i:Int)).bind fun _=>some (.nx (s.set (i:Int).toNat w))) xs.length 0 (List.replicate n z)) fun s=>some s)=some (xs.map g):=by
 have e:mkn (xs.length:Int)=some xs.length:=by unfold mkn; rw[if_pos (by omega)]; simp
 rw[e,ap]
 simp only[forN_idx]
 exact toL_loop f g z xs [] h
/-! ### Comparisons of a thing with itself -/
theorem eqL{α:Type}{f:α→α→Option Bool}{xs:List α}(h:∀ x∈xs,f x x=some true):
 (bif decide ((xs.length:Int)=(xs.length:Int)) then thenL (ρ:=Bool) (forN (fun i (_:Unit)=>(idx xs (i:Int)).bind fun v=>(idx xs (i:Int)).bind fun w=>(f v w).bind fun b=>bif b then some (.nx ()) else some (.rt false)) xs.length 0 ()) fun _=>some true else some false)=some true:=by
 rw[decide_eq_true rfl,cond_true]
 have key:∀ (n i:Nat),i+n=xs.length→thenL (ρ:=Bool) (forN (fun i (_:Unit)=>(idx xs (i:Int)).bind fun v=>(idx xs (i:Int)).bind fun w=>(f v w).bind fun b=>bif b then some (.nx ()) else some (.rt false)) n i ()) (fun _=>some true)=some true:=by
  intro n
  induction n with
  | zero=>intro i _; rfl
  | succ n ih=>
   intro i hi
   have hg:xs[i]?=some xs[i]:=List.getElem?_eq_getElem (by omega)
   rw[forN_nx (s':=()) (by rw[idx_nat,hg,ap,ap,h _ (List.getElem_mem (by omega))]; rfl)]
   exact ih (i+1) (by omega)
 exact key xs.length 0 (by simp)
end
section
theorem eqLplain{α:Type}[DecidableEq α]{xs:List α}:
 (bif decide ((xs.length:Int)=(xs.length:Int)) then thenL (ρ:=Bool) (forN (fun i (_:Unit)=>(idx xs (i:Int)).bind fun v=>(idx xs (i:Int)).bind fun w=>bif decide (v=w) then some (.nx ()) else some (.rt false)) xs.length 0 ()) fun _=>some true else some false)=some true:=by
 have:=eqL (f:=fun a b:α=>some (decide (a=b))) (xs:=xs) (fun x _=>by simp)
 simpa only[ap] using this
def InR(n:Int):Prop:=-9223372036854775808≤n∧n≤9223372036854775807
end
section
theorem idx_getD{α:Type}[Inhabited α]{xs:List α}{i:Nat}(h:i<xs.length):idx xs (i:Int)=some (xs.getD i default):=by
 rw[idx_nat,List.getElem?_eq_getElem h]; simp[List.getD,h]
/-- A loop that answers at the first place where a test fails. -/
theorem forN_allI{ρ:Type}{c:Nat→Bool}{f:Nat→Unit→Option (Flow ρ Unit)}{r0:ρ}:∀ (n i:Nat),(∀ j,j<i→c j=true)→(∀ j,j<i+n→(∀ k,k<j→c k=true)→f j ()=some (bif c j then .nx () else .rt r0))→
 forN f n i ()=some (bif (List.range (i+n)).all c then .inr () else .inl r0)
 | 0,i,hc,_=>by
  have:(List.range (i+0)).all c=true:=List.all_eq_true.2 (fun x hx=>hc x (by simpa using hx))
  rw[this]; rfl
 | n+1,i,hc,h=>by
  have h0:=h i (by omega) hc
  by_cases e:c i=true
  ·rw[forN_nx (s':=()) (by rw[h0,e]; rfl)]
   rw[forN_allI n (i+1) (fun j hj=>(Nat.lt_or_ge j i).elim (hc j) (fun g=>by rw[show j=i by omega]; exact e)) (fun j hj hk=>h j (by omega) hk)]
   have e2:i+(n+1)=i+1+n:=by omega
   rw[e2]
  ·have e1:c i=false:=by simpa using e
   rw[forN_rt (r:=r0) (by rw[h0,e1]; rfl)]
   have:(List.range (i+(n+1))).all c=false:=List.all_eq_false.2 ⟨i,by simp,by simp[e1]⟩
   rw[this]; rfl
theorem forN_all{ρ:Type}(c:Nat→Bool){f:Nat→Unit→Option (Flow ρ Unit)}{r0:ρ}{n:Nat}{k:Unit→Option ρ}(h:∀ j,j<n→(∀ k,k<j→c k=true)→f j ()=some (bif c j then .nx () else .rt r0)):
 thenL (forN f n 0 ()) k=bif (List.range n).all c then k () else some r0:=by
 rw[forN_allI (c:=c) (r0:=r0) n 0 (fun j hj=>by omega) (fun j hj hk=>h j (by omega) hk),Nat.zero_add]
 cases (List.range n).all c<;>rfl
theorem range_all_list{α:Type}[Inhabited α](xs:List α)(p:α→Bool):(List.range xs.length).all (fun i=>p (xs.getD i default))=xs.all p:=by
 rw[Bool.eq_iff_iff,List.all_eq_true,List.all_eq_true]
 constructor
 ·intro h x hx
  obtain⟨i,hi,rfl⟩:=List.getElem_of_mem hx
  have:=h i (by simpa using hi)
  simpa[List.getD,hi] using this
 ·intro h i hi
  have hi:i<xs.length:=by simpa using hi
  have:xs.getD i default∈xs:=getD_mem hi
  exact h _ this
def inR(a lo hi:Int):Bool:=decide (lo≤a∧a≤hi)
theorem cond_inR(a lo hi:Int):(bif decide (lo≤a) then some (decide (a≤hi)) else some false)=some (inR a lo hi):=by
 unfold inR
 by_cases h:lo≤a<;>simp[h]
theorem inR_iff{a lo hi:Int}:inR a lo hi=true↔lo≤a∧a≤hi:=by simp[inR]
end
section
open Go.ChangeShapes Go.WideShapes Go.ChangeAt Go.RowKit
section
variable{H:Type}{enc:TypeId×Value→H}{P:Program}{W W':World}{base:Nat}{G:TypeId→Prop}
theorem cells_plain{v:Value}(h:∀ cs,v≠.agg cs):v.cells=#[v]:=by
 cases v with
 | agg cs=>exact absurd rfl (h cs)
 | _=>rfl
theorem repV_of{t:TypeId}{p:PV}{v:Value}{N:Nat→Prop}(hty:HasTy P t p)(hok:Value.okWide P W .any base t v)(hrep:RepC N W p v.cells.toList []):RepV N W p v []:=by
 have plain:(∀ cs,v≠.agg cs)→RepC N W p [v] []:=by
  intro h
  rw[cells_plain h] at hrep
  exact hrep
 cases hty with
 | bool h=>
  refine plain ?_
  rintro cs rfl
  simp[Value.okWide,Cell.okWide,Cell.ok,h] at hok
 | int h hw=>
  refine plain ?_
  rintro cs rfl
  simp[Value.okWide,Cell.okWide,Cell.ok,h] at hok
 | str h hs=>
  refine plain ?_
  rintro cs rfl
  simp[Value.okWide,Cell.okWide,Cell.ok,h] at hok
 | sl h hl hes=>
  refine plain ?_
  rintro cs rfl
  simp[Value.okWide,Cell.okWide,Cell.ok,h] at hok
 | struct h hps=>
  simp only[Value.okWide,h] at hok
  obtain⟨cs,rfl,_,_⟩:=hok
  exact⟨cs.toList,by simp,by simpa[RepC,Value.cells] using hrep⟩
theorem open_args(K:Kinds P G):∀ (ts:List TypeId) (vs:List Value) (ds:List (DataW H)) (p:List MemPlace),(∀ t∈ts,G t)→DataW.TrodAll enc P W 0 (fun _=>true) true ts vs ds p→
 (∀ (j:Nat) t v,ts[j]?=some t→vs[j]?=some v→Value.okWide P W .any base t v)→∃ ps,HasTys P ts ps∧RepVs (fun b=>b<W.heap.size) W ps vs []
 | [],vs,ds,p,_,hA,_=>by
  obtain⟨rfl,rfl,rfl⟩:=trodAll_nil hA
  exact⟨[],.nil,rfl,rfl⟩
 | t::ts,vs,ds,p,hG,hA,hok=>by
  obtain⟨v,vs',d,ds',p1,q,rfl,rfl,rfl,hd,hrest⟩:=trodAll_cons hA
  obtain⟨fuel,hf⟩:=hd
  obtain⟨pv,hty,hrep⟩:=open_pv K fuel t _ _ (hG t (by simp)) hf
  obtain⟨ps,h1,h2⟩:=open_args K ts vs' ds' q (fun t ht=>hG t (by simp[ht])) hrest (fun j t' v' ht hv=>hok (j+1) t' v' (by simpa using ht) (by simpa using hv))
  exact⟨pv::ps,.cons hty h1,v,vs',[],[],rfl,rfl,repV_of hty (hok 0 t v (by simp) (by simp)) hrep,h2⟩
theorem trodAll_len{sp:Nat→Bool}{hd:Bool}{b:Nat}:∀ (ts:List TypeId) (vs:List Value) (ds:List (DataW H)) (p:List MemPlace),DataW.TrodAll enc P W b sp hd ts vs ds p→ds.length=ts.length
 | [],vs,ds,p,hA=>by
  obtain⟨rfl,rfl,rfl⟩:=trodAll_nil hA
  rfl
 | t::ts,vs,ds,p,hA=>by
  obtain⟨v,vs',d,ds',p1,q,rfl,rfl,rfl,hd,hrest⟩:=trodAll_cons hA
  simp[trodAll_len ts vs' ds' q hrest]
theorem stays_all(hl:laidOutB P=true){sp:Nat→Bool}:∀ (ts:List TypeId) (vs:List Value) (ds:List (DataW H)) (p:List MemPlace),(∀ t∈ts,P.readableRec t=true∧t<P.types.size)→DataW.TrodAll enc P W 0 (fun _=>true) true ts vs ds p→
 (∀ q∈p,W.sameAt W' q)→(∀ q∈p,sp q.block=true)→DataW.TrodAll enc P W' 0 sp true ts vs ds p
 | [],vs,ds,p,_,hA,_,_=>by
  obtain⟨rfl,rfl,rfl⟩:=trodAll_nil hA
  exact rfl
 | t::ts,vs,ds,p,hr,hA,hs,hp=>by
  obtain⟨v,vs',d,ds',p1,q,rfl,rfl,rfl,hd,hrest⟩:=trodAll_cons hA
  exact⟨p1,q,WideElems.Trod_stays hl (hr t (by simp)).1 (hr t (by simp)).2 hd (fun x hx=>hs x (by simp[hx])) (fun x hx=>hp x (by simp[hx])),
   stays_all hl ts vs' ds' q (fun t ht=>hr t (by simp[ht])) hrest (fun x hx=>hs x (by simp[hx])) (fun x hx=>hp x (by simp[hx])),rfl⟩
end
section
variable{H:Type}{enc:TypeId×Value→H}{P:Program}
theorem post_of_below{f:Func}{s:ChangeSpec}{apart fresh handsOn again:Bool}{W W':World}{args:Array Value}{v:Value}{ds gs:List (DataW H)}{before pa pv:List MemPlace}
 (hW:DataW.Whole enc P f.params.toList s.vars apart W args.toList ds gs before)
 (hres:∀ (b:Nat) (sp:Nat→Bool) (hd:Bool),DataW.TrodAll enc P W' b sp hd f.resultTypes.toList (v.resultList f.resultTypes.size) (s.fn H (ds++gs)).results [])
 (hargs:∀ sp:Nat→Bool,(∀ p∈before,sp p.block=true)→DataW.TrodAll enc P W' 0 sp true f.params.toList args.toList (s.fn H (ds++gs)).args pa)
 (hvars:∀ sp:Nat→Bool,(∀ p∈before,sp p.block=true)→DataW.TrodVars enc P W' sp s.vars (s.fn H (ds++gs)).vars pv)
 (hps:before=pa++pv) (hb:Below W.heap.size W W')
 (hok:∀ (j:Nat) (t:TypeId) (r:Value),f.resultTypes[j]?=some t→(v.resultList f.resultTypes.size)[j]?=some r→Value.okWide P W' .any 0 t r):
 s.post enc P f apart fresh handsOn again W args v W':=by
 have hlt:∀ p∈before,p.block<W.heap.size:=fun p hp=>hW.lt p hp
 have hold:∀ p∈before,(fun b=>decide (b<W.heap.size)) p.block=true:=fun p hp=>by simpa using hlt p hp
 refine⟨ds,gs,before,[],pa,pv,hW,hres _ _ _,hargs _ hold,hvars _ hold,World.keptBut_mono (fun p hp=>⟨hp,?_⟩) (hb.frame (· ∈before)),fun _=>?_⟩
 ·rw[hps,aT] at hp
  exact Or.inr hp
 ·obtain⟨_,_,_,_,_,hz,hn⟩:=hW
  refine⟨hok,_,_,([]++pa)++pv,⟨[]++pa,pv,trodAll_append (hargs _ (fun _ _=>rfl)) (hres _ _ _),hvars _ (fun _ _=>rfl),rfl,?_,?_⟩,?_⟩
  ·intro b off hp
   have hin:MemPlace.cell b off∈before:=by rw[hps]; simpa using hp
   rw[hb.frozen (hlt _ hin)]
   exact hz b off hin
  ·intro ha
   have:=hn ha
   rw[hps] at this
   simpa using this
  ·intro p hp _
   rw[hps]
   simpa using hp
/-- A law whose call answers true: what the row asks. -/
theorem law_post{fid:FuncId}{f:Func}{s:ChangeSpec}{tb:TypeId}{apart handsOn again:Bool}{W:World}{base:Nat}{args:Array Value}{ds gs:List (DataW H)}{before:List MemPlace}{G:TypeId→Prop}
 (hlaid:laidOutB P=true) (hvars:s.vars=[]) (hr:f.resultTypes=#[tb]) (hb:P.underlying tb=some .bool) (hfn:∀ ds:List (DataW H),ds.length=f.params.toList.length→(s.fn H ds).results=[.lit (.bool true)]∧(s.fn H ds).args=ds∧(s.fn H ds).vars=[]) (htb:∀ W',Value.okWide P W' .any 0 tb (.bool true))
 (K:Kinds P G) (hG:∀ t∈f.params.toList,G t∧P.readableRec t=true∧t<P.types.size)
 (hval:∀ (j:Nat) t v,f.params[j]?=some t→args[j]?=some v→Value.okWide P W .any base t v) (hW:DataW.Whole enc P f.params.toList s.vars apart W args.toList ds gs before)
 (hsat:∀ ps,HasTys P f.params.toList ps→Sat P fid ps (.lit (.bool true))):
 Calls P fid args W (fun e W'=>∃ v,e=.returned v∧s.post enc P f apart true handsOn again W args v W'):=by
 have hW':=hW
 obtain⟨p,q,hA,hV,rfl,hfz,hnd⟩:=hW
 have hlen:=trodAll_len _ _ _ _ hA
 rw[hvars] at hV
 obtain⟨rfl,rfl⟩:=trodVars_none hV
 obtain⟨ps,hty,hrep⟩:=open_args K _ _ _ _ (fun t ht=>(hG t ht).1) hA (fun j t v ht hv=>hval j t v (by simpa using ht) (by simpa using hv))
 simp only[bj] at hW'
 have hlt:∀ x∈p,x.block<W.heap.size:=fun x hx=>hW'.lt x hx
 have hs:=(hsat ps hty).2 W (fun b=>b<W.heap.size) args.toList [] (by simp) List.nodup_nil (by simp) hrep
 simp only[Array.toArray_toList] at hs
 refine hs.mono fun e W' he=>?_
 obtain⟨v,F,rfl,hk,hrr,_,_⟩:=he
 have hbl:Below W.heap.size W W':=⟨hk.os,hk.tape,hk.output,hk.size,fun k h=>hk.block k h (by simp)⟩
 have hv:v=.bool true:=by
  simp only[RepR,RepV,RepC] at hrr
  simpa using hrr.1
 subst hv
 refine⟨_,rfl,post_of_below (pa:=p) (pv:=[]) hW' ?_ ?_ ?_ (by simp) hbl ?_⟩
 ·intro b sp hd
  rw[hr,(hfn _ (by simpa using hlen)).1]
  exact trodAll_mk1 (shut_bool hb true)
 ·intro sp hsp
  rw[(hfn _ (by simpa using hlen)).2.1]
  simp only[bj]
  exact stays_all hlaid _ _ _ _ (fun t ht=>(hG t ht).2) hA (fun x hx=>hbl.same (hlt x hx)) hsp
 ·intro sp hsp
  rw[hvars,(hfn _ (by simpa using hlen)).2.2]
  rfl
 ·intro j t r hj hr'
  rw[hr] at hj hr'
  match j,hj,hr' with
  | 0,hj,hr'=>
   simp at hj; subst hj
   simp[Value.resultList] at hr'; subst hr'
   exact htb W'
  | j+1,hj,_=>simp at hj
end
end
section
def LOk{α:Type}(ok:α→Prop)(l:List α):Prop:=Big l.length∧∀ x∈l,ok x
theorem ltot_len{α:Type}(t:α→Nat)(l:List α):l.length≤ltot t l:=by simp[ltot]
theorem tot_mem{α:Type}(t:α→Nat){l:List α}{x:α}(h:x∈l):t x<ltot t l:=by
 induction l with
 | nil=>cases h
 | cons y l ih=>
  simp only[ltot,aG,aF,bw] at ih ⊢
  rcases List.mem_cons.1 h with rfl | h
  ·omega
  ·have:=ih h; omega
theorem inR_wf{n:Int}(h:(Lit.int .i64 n).wf=true):InR n:=by
 simp[Lit.wf,IntKind.min,IntKind.max,IntKind.signed,IntKind.bits] at h
 exact⟨by omega,by omega⟩
theorem open_list{P:Program}{e:TypeId}{α:Type}{ok:α→Prop}{f:α→PV}(h:∀ {p:PV},HasTy P e p→∃ a,ok a∧p=f a):∀ l:List PV,(∀ x∈l,HasTy P e x)→∃ ts:List α,(∀ a∈ts,ok a)∧l=ts.map f
 | [],_=>⟨[],by simp,rfl⟩
 | x::l,hx=>by
  obtain⟨a,ha,rfl⟩:=h (hx x (by simp))
  obtain⟨ts,hts,rfl⟩:=open_list h l (fun y hy=>hx y (by simp[hy]))
  exact⟨a::ts,by simpa using⟨ha,hts⟩,rfl⟩
end
section
/-- Called with these, in whatever memory: it returns this (nothing of its own in it), and what the same arguments hold is then this. -/
def SatIO(P:Program)(f:FuncId)(args args':List PV)(res:PV):Prop:=
 CallIs P f∧∀ (w:World) (N:Nat→Prop) (vs:List Value) (Fs:List Nat),(∀ b,N b→b<w.heap.size∧b∉Fs)→Fs.Nodup→(∀ b∈Fs,b<w.heap.size)→RepVs N w args vs Fs→
  Calls P f vs.toArray w fun e w'=>∃ v F,e=.returned v∧KeepX Fs w.heap.size w w'∧
   RepVs (fun b=>N b∨((w.heap.size≤b∨b∈Fs)∧b<w'.heap.size∧b∉F)) w' args' vs F∧F.Nodup∧(∀ b∈F,(w.heap.size≤b∨b∈Fs)∧b<w'.heap.size)∧
   RepR (fun b=>N b∨((w.heap.size≤b∨b∈Fs)∧b<w'.heap.size∧b∉F)) w' res v []
/-- The state at the beginning: the names that keep their headers. -/
def argIO(args:List PV):St:=
 { s:=fun k=>match (explodes args 10000).1[k]? with | some x=>.val x | none=>.dead,o:=updAll (fun _=>none) (newObjs (explodes args 10000).2.1) }
def FinIO(P:Program)(st:St)(rs:List ResultVar)(res:PV)(cvs:List CV)(args':List PV):Prop:=
 aB st.o (resCVs P st rs)=true∧resOks P st rs∧res=asRes (aK st.o (resCVs P st rs))∧CV.pures (resCVs P st rs)=true∧aB st.o cvs=true∧(av cvs).Nodup∧args'=aD st.o cvs
theorem SatIO.of_body{P:Program}{f:FuncId}{fn:Func}{c:Code}{args args':List PV}{res:PV}{nt:Nat}{rs:List ResultVar}(hf:P.funcs[f]?=some fn)(hname:(fn.name== "runtime.NumGoroutine")=false)(hb:fn.body=some c)
 (hnt:fn.ntmps=nt) (hrs:fn.results.toList=rs) (hle:args.length≤nt) (h:VC P nt c (argIO args) (fun e st=>(e=.normal∨e=.ret)∧FinIO P st rs res (explodes args 10000).1 args')):SatIO P f args args' res:=by
 refine⟨⟨fn,hf,hname,by simp[hb]⟩,fun w N vs Fs hN hFn hFl hvs=>?_⟩
 have hlen:=repVs_length hvs
 obtain⟨hdv,fpv,news,hcv⟩:=explodesV_ok args vs Fs 10000 hvs hFn
 have hH:∀ c v,(c,v)∈(explodes args 10000).2.1.map (fun p=>(p.1,hdv p.1))→10000≤c:=by
  intro c v hc
  obtain⟨p,h1,h2⟩:=List.mem_map.1 hc
  cases h2
  exact(news.rep p.1 p.2.1 p.2.2 h1).1
 let κ:Ctx:={ w0:=w,N:=N,L:=Fs,nt:=nt,hN:=hN,hL:=hFl,held:=(explodes args 10000).2.1.map (fun p=>(p.1,hdv p.1)),hH:=hH }
 let G:Gh:={ hd:=hdv,fp:=fpv,ad:=fun _=>0 }
 have hsz:(vs.toArray++Array.replicate (fn.ntmps-vs.toArray.size) undef).size=nt:=by simp[hlen,hnt]; omega
 have hob:∀ c sz es,(argIO args).o c=some (sz,es)→(c,(sz,es))∈(explodes args 10000).2.1:=by
  intro c sz es hc
  simp only[argIO] at hc
  by_cases hm:c∈(explodes args 10000).2.1.map (·.1)
  ·obtain⟨⟨n,p⟩,h1,rfl⟩:=List.mem_map.1 hm
   have h2:(n,some p)∈newObjs (explodes args 10000).2.1:=List.mem_map.2 ⟨(n,p),h1,rfl⟩
   rw[updAll_mem _ _ n (some p) (by rw[newObjs_keys]; exact news.once) h2] at hc
   cases hc; exact h1
  ·rw[updAll_notMem _ _ _ (by rw[newObjs_keys]; exact hm)] at hc; cases hc
 have hnb:∀ k,isBox ((argIO args).s k)=false:=by intro k; simp only[argIO]; split<;>rfl
 have hpriv:∀ b,N b→¬ Priv (argIO args) G b:=by
  rintro b hb (⟨r,h1,_⟩ | ⟨c,⟨sz,es⟩,h1,h2⟩)
  ·rw[hnb] at h1; cases h1
  ·exact(hN b hb).2 ((news.rep c sz es (hob c sz es h1)).2.2.2.2 b h2)
 have hNof:∀ b,N b→Nof κ (argIO args) G w b:=fun b hb=>⟨.inl hb,hpriv b hb⟩
 have hR:RG κ G (argIO args) { tmps:=vs.toArray++Array.replicate (fn.ntmps-vs.toArray.size) undef,defers:=[] } w:=by
  refine⟨KeepX.refl _ _ _,rfl,hsz,?_,?_,fun r hr=>(by rw[hnb] at hr; cases hr),fun r _ hr=>(by rw[hnb] at hr; cases hr),fun r _ _ hr=>(by rw[hnb] at hr; cases hr),?_,fun c v hc=>by
   obtain⟨p,h1,h2⟩:=List.mem_map.1 hc
   cases h2; rfl⟩
  ·intro k
   simp only[argIO]
   cases hk:(explodes args 10000).1[k]? with
   | none=>trivial
   | some x=>
    obtain⟨v,h1,h2⟩:=cvals_at k x (hcv (Nof κ (argIO args) G w) G.hd hNof (fun _ _ _=>rfl)) hk
    have hkl:k<vs.length:=(List.getElem?_eq_some_iff.1 h1).1
    have:(vs.toArray++Array.replicate (fn.ntmps-vs.toArray.size) undef).getD k undef=v:=by
     simp only[Array.getD_eq_getD_getElem?]
     rw[Array.getElem?_append_left (by simpa using hkl)]
     simp[h1]
    rw[this]
    exact h2
  ·intro c sz es hc
   obtain⟨_,_,g3,g4,g5⟩:=news.rep c sz es (hob c sz es hc)
   exact⟨RepC.frame hNof (fun _ _=>rfl) _ _ _ (fun _ _=>rfl) g3,g4,fun b hb=>⟨.inr (g5 b hb),hFl b (g5 b hb)⟩⟩
  ·intro c c' ⟨sz,es⟩ ⟨sz',es'⟩ h1 h2 hne
   exact news.apart c c' _ _ (hob c sz es h1) (hob c' sz' es' h2) hne
 refine calls_of_wp hf hb (h κ _ w rfl ⟨G,hR⟩ _ ?_)
 intro e st' a' w' ⟨he,hw,hok,hres,hpu,hca,hnd,har⟩ ⟨G',hG⟩
 have key:a'.defers=[]∧∃ v,(results fn a'.tmps).run P w'=.ok v w'∧∃ v' F,Ending.returned v=.returned v'∧KeepX Fs w.heap.size w w'∧
  RepVs (fun b=>N b∨((w.heap.size≤b∨b∈Fs)∧b<w'.heap.size∧b∉F)) w' args' vs F∧F.Nodup∧(∀ b∈F,(w.heap.size≤b∨b∈Fs)∧b<w'.heap.size)∧
  RepR (fun b=>N b∨((w.heap.size≤b∨b∈Fs)∧b<w'.heap.size∧b∉F)) w' res v' []:=by
  obtain⟨vs',h1,h2⟩:=run_results hG rs hw hok
  have hlive:=CV.namess_live _ hca
  refine⟨hG.defers,(if h:vs'.toArray.size=1 then vs'.toArray[0] else .tuple vs'.toArray),?_,(if h:vs'.toArray.size=1 then vs'.toArray[0] else .tuple vs'.toArray),fps G'.fp (av (explodes args 10000).1),rfl,hG.keep,?_,fps_nodup hG _ hnd hlive,?_,?_⟩
  ·have e1:fn.results=rs.toArray:=by rw[← hrs]
   simp only[results,e1,List.mapM_toArray,Sem.run_bind,Sem.run_map,Sem.run_pure]
   exact congrArg (fun r:Result (List Value)=>((r.andThen fun a w'=>.ok a.toArray w').andThen fun a w'=>.ok (if h:a.size=1 then a[0] else Value.tuple a) w')) h1
  ·have hhd:∀ n,10000≤n→n<(explodes args 10000).2.2→G'.hd n=hdv n:=by
    intro n g1 g2
    obtain⟨p,h3,h4⟩:=List.mem_map.1 (news.all n g1 g2)
    exact hG.held n (hdv n) (List.mem_map.2 ⟨p,h3,by rw[h4]⟩)
   have hc0:=hcv N G'.hd (fun _ h=>h) hhd
   have hc1:CVals N w' G'.hd (explodes args 10000).1 vs:=hc0.frame (fun _ h=>h) (fun b hb=>hG.keep.block b (hN b hb).1 (hN b hb).2) (fun _ _=>rfl)
   have hown:=CVals.own (N:=fun b=>N b∨((w.heap.size≤b∨b∈Fs)∧b<w'.heap.size∧b∉fps G'.fp (av (explodes args 10000).1))) (fun c sz es hc=>RepC.frame (fun b (hb:Nof κ st' G' w' b)=>?_) (fun _ _=>rfl) _ _ _ (fun _ _=>rfl) (hG.objs c sz es hc).1) hca (hc1.frame (fun _ h=>.inl h) (fun _ _=>rfl) (fun _ _=>rfl))
   ·rw[har]; exact hown
   ·rcases hb.1 with h | h
    ·exact .inl h
    ·refine .inr ⟨h.1,h.2,fun hm=>hb.2 ?_⟩
     obtain⟨c,hc,hm⟩:=mem_fps.1 hm
     obtain⟨p,hp⟩:=Option.isSome_iff_exists.1 (hlive c hc)
     exact .inr ⟨c,p,hp,hm⟩
  ·intro b hb
   obtain⟨c,hc,hm⟩:=mem_fps.1 hb
   obtain⟨⟨sz,es⟩,hp⟩:=Option.isSome_iff_exists.1 (hlive c hc)
   exact(hG.objs c sz es hp).2.2 b hm
  ·have hview:=cvals_pureView (ob:=st'.o) _ _ hpu h2
   have hfr:∀ b,Nof κ st' G' w' b→N b∨((w.heap.size≤b∨b∈Fs)∧b<w'.heap.size∧b∉fps G'.fp (av (explodes args 10000).1)):=by
    intro b hb
    rcases hb.1 with h | h
    ·exact .inl h
    ·refine .inr ⟨h.1,h.2,fun hm=>hb.2 ?_⟩
     obtain⟨c,hc,hm⟩:=mem_fps.1 hm
     obtain⟨p,hp⟩:=Option.isSome_iff_exists.1 (hlive c hc)
     exact .inr ⟨c,p,hp,hm⟩
   rw[hres]
   exact repR_asRes (repVs_frame hfr (fun _ _=>rfl) (by simp) hview) (pvos_ne hview)
 rcases he with rfl | rfl<;>exact key
theorem SatIO.of_m{P:Program}{nt n:Nat}{f:FuncId}{fn:Func}{c:Code}{args args':List PV}{res:PV}{rs:List ResultVar}(hf:P.funcs[f]?=some fn)(hname:(fn.name== "runtime.NumGoroutine")=false)(hb:fn.body=some c)
 (hnt:fn.ntmps=nt) (hrs:fn.results.toList=rs) (hle:args.length≤nt) (h:Mg P nt (fun st=>FinIO P st rs res (explodes args 10000).1 args') n (.code c) (argIO args) []):SatIO P f args args' res:=
 SatIO.of_body hf hname hb hnt hrs hle (Mg.sound n _ _ _ h)
theorem argIO_eq(args:List PV):argIO args=⟨updL 0 (explodes args 10000).1 (fun _=>.dead),updAll (fun _=>none) (newObjs (explodes args 10000).2.1)⟩:=by
 simp only[argIO,St.mk.injEq,and_true]
 funext k
 rw[updL_apply]
 simp only[Nat.not_lt_zero,if_false,Nat.sub_zero]
 cases (explodes args 10000).1[k]?<;>rfl
end
section
mutual
def CV.clean:CV→Bool
 | .pv v=>v.noOwn
 | .own _=>true
 | .node fs=>CV.cleans fs
 | .gone _=>false
def CV.cleans:List CV→Bool
 | []=>true
 | x::xs=>x.clean&&CV.cleans xs
end
theorem fps_congr{f g:Nat→List Nat}:∀ l:List Nat,(∀ c∈l,f c=g c)→fps f l=fps g l
 | [],_=>rfl
 | c::l,h=>by simp only[fps]; rw[h c (by simp),fps_congr l (fun c hc=>h c (by simp[hc]))]
section
variable{N N':Nat→Prop}{w w':World}{hd:Nat→Value}{ob:Nat→Option (Nat×List PV)}
/-- By name: where each one's blocks are. -/
def Parts(N':Nat→Prop)(w':World)(hd:Nat→Value)(ob:Nat→Option (Nat×List PV))(ns:List Nat)(F:List Nat):Prop:=
 ∃ fp:Nat→List Nat,(∀ c sz es,c∈ns→ob c=some (sz,es)→RepC N' w' (.sl true sz es) [hd c] (fp c))∧F=fps fp ns
theorem Parts.join{n1 n2 F1 F2:List Nat}(h1:Parts N' w' hd ob n1 F1)(h2:Parts N' w' hd ob n2 F2)(hn:(n1++n2).Nodup):Parts N' w' hd ob (n1++n2) (F1++F2):=by
 obtain⟨f1,a1,rfl⟩:=h1
 obtain⟨f2,a2,rfl⟩:=h2
 have hd':∀ c∈n2,c∉n1:=fun c hc hc'=>(List.nodup_append.1 hn).2.2 c hc' c hc rfl
 refine⟨fun c=>if c∈n1 then f1 c else f2 c,fun c sz es hc ho=>?_,?_⟩
 ·by_cases h:c∈n1
  ·simp only[h,if_true]; exact a1 c sz es h ho
  ·simp only[h,if_false]
   rcases List.mem_append.1 hc with h' | h'
   ·exact absurd h' h
   ·exact a2 c sz es h' ho
 ·rw[fps_append]
  congr 1
  ·exact fps_congr n1 (fun c hc=>by simp[hc])
  ·exact fps_congr n2 (fun c hc=>by simp[hd' c hc])
mutual
theorem RepCV.inv:∀ (x:CV) (cs:List Value) (F:List Nat),x.clean=true→x.whole ob=true→RepCV N w hd x cs→RepC N' w' (x.pvo ob) cs F→x.names.Nodup→Parts N' w' hd ob x.names F
 | .pv v,cs,F,hc,_,_,h,_=>by
  simp only[CV.pvo] at h
  have:=RepC.noOwn v cs F (by simpa[CV.clean] using hc) h
  subst this
  exact⟨fun _=>[],by simp[bn],by simp[bn,fps]⟩
 | .own c,cs,F,_,hw,h0,h,_=>by
  simp only[CV.whole] at hw
  obtain⟨⟨sz,es⟩,he⟩:=Option.isSome_iff_exists.1 hw
  simp only[RepCV] at h0
  simp only[CV.pvo,he] at h
  rw[h0.1] at h
  refine⟨fun _=>F,fun c' sz' es' hc' ho=>?_,by simp[bn,fps]⟩
  simp only[bn,List.mem_singleton] at hc'
  subst hc'
  rw[he] at ho; cases ho
  exact h
 | .node fs,cs,F,hc,hw,h0,h,hn=>by
  simp only[RepCV] at h0
  simp only[CV.pvo,RepC] at h
  simpa only[bn] using RepCVs.inv fs cs F (by simpa[CV.clean] using hc) (by simpa[CV.whole] using hw) h0 h (by simpa[bn] using hn)
 | .gone n,cs,F,hc,_,_,_,_=>by simp[CV.clean] at hc
theorem RepCVs.inv:∀ (xs:List CV) (cs:List Value) (F:List Nat),CV.cleans xs=true→aB ob xs=true→RepCVs N w hd xs cs→RepCs N' w' (aD ob xs) cs F→(av xs).Nodup→Parts N' w' hd ob (av xs) F
 | [],cs,F,_,_,_,h,_=>by
  simp only[aD,RepCs] at h
  exact⟨fun _=>[],by simp[av],by simp[av,fps,h.2]⟩
 | x::xs,cs,F,hc,hw,h0,h,hn=>by
  simp only[CV.cleans,aB,aw] at hc hw
  simp only[RepCVs] at h0
  simp only[aD,RepCs] at h
  obtain⟨c1,c2,e1,a1,a2⟩:=h0
  obtain⟨d1,d2,F1,F2,e2,e3,b1,b2⟩:=h
  have hl:c1.length=d1.length:=by
   rw[RepCV.length x c1 a1,RepC.length _ _ _ b1,CV.size_pvo x hw.1]
  have e4:=e1.symm.trans e2
  obtain⟨rfl,rfl⟩:=List.append_inj e4 hl
  subst e3
  simp only[av] at hn ⊢
  exact(RepCV.inv x c1 F1 hc.1 hw.1 a1 b1 (List.nodup_append.1 hn).1).join (RepCVs.inv xs c2 F2 hc.2 hw.2 a2 b2 (List.nodup_append.1 hn).2.1) hn
end
theorem CVals.inv:∀ (xs:List CV) (vs:List Value) (F:List Nat),CV.cleans xs=true→aB ob xs=true→CVals N w hd xs vs→RepVs N' w' (aD ob xs) vs F→(av xs).Nodup→Parts N' w' hd ob (av xs) F
 | [],vs,F,_,_,_,h,_=>by
  simp only[aD,RepVs] at h
  exact⟨fun _=>[],by simp[av],by simp[av,fps,h.2]⟩
 | x::xs,vs,F,hc,hw,h0,h,hn=>by
  simp only[CV.cleans,aB,aw] at hc hw
  simp only[CVals] at h0
  simp only[aD,RepVs] at h
  obtain⟨v,vs',e1,a1,a2⟩:=h0
  obtain⟨u,us,F1,F2,e2,e3,b1,b2⟩:=h
  rw[e1] at e2
  obtain⟨rfl,rfl⟩:=List.cons.inj e2
  subst e3
  simp only[av] at hn ⊢
  have b1':=b1.cells
  have a1':RepCV N w hd x v.cells.toList:=by
   rcases a1 with⟨_,cs,rfl,h3⟩ | ⟨h1,h2,h3⟩
   ·simpa[Value.cells] using h3
   ·have:=cval_cells (x:=x) (v:=v) (.inr ⟨h1,h2,h3⟩); exact this
  exact(RepCV.inv x _ F1 hc.1 hw.1 a1' b1' (List.nodup_append.1 hn).1).join (CVals.inv xs vs' F2 hc.2 hw.2 a2 b2 (List.nodup_append.1 hn).2.1) hn
end
end
section
theorem fps_nd{fp:Nat→List Nat}:∀ ns:List Nat,(fps fp ns).Nodup→(∀ c∈ns,(fp c).Nodup)
 | [],_,c,hc=>by simp at hc
 | n::ns,h,c,hc=>by
  simp only[fps,List.nodup_append] at h
  rcases List.mem_cons.1 hc with rfl | hc
  ·exact h.1
  ·exact fps_nd ns h.2.1 c hc
theorem fps_dj{fp:Nat→List Nat}:∀ ns:List Nat,(fps fp ns).Nodup→∀ c∈ns,∀ c'∈ns,c≠c'→∀ b∈fp c,b∉fp c'
 | [],_,c,hc,_,_,_,_,_=>by simp at hc
 | n::ns,h,c,hc,c',hc',hne,b,hb=>by
  simp only[fps,List.nodup_append] at h
  intro hb'
  rcases List.mem_cons.1 hc with e | k1<;>rcases List.mem_cons.1 hc' with e' | k2
  ·exact hne (e.trans e'.symm)
  ·subst e; exact h.2.2 b hb b (mem_fps.2 ⟨c',k2,hb'⟩) rfl
  ·subst e'; exact h.2.2 b hb' b (mem_fps.2 ⟨c,k1,hb⟩) rfl
  ·exact fps_dj ns h.2.1 c k1 c' k2 hne b hb hb'
def setO(ns:List Nat)(ob':Nat→Option (Nat×List PV))(o:Nat→Option (Nat×List PV)):Nat→Option (Nat×List PV):=fun c=>if c∈ns then ob' c else o c
theorem RG.setObjs{κ:Ctx}{G:Gh}{st:St}{a:Act}{w w':World}{ns F:List Nat}{ob':Nat→Option (Nat×List PV)}(h:RG κ G st a w)(hlive:∀ c∈ns,(st.o c).isSome=true)
 (hk:KeepX (fps G.fp ns) w.heap.size w w') (hF:∀ b∈F,(w.heap.size≤b∨b∈fps G.fp ns)∧b<w'.heap.size) (hFn:F.Nodup)
 (hp:Parts (fun b=>Nof κ st G w b∨((w.heap.size≤b∨b∈fps G.fp ns)∧b<w'.heap.size∧b∉F)) w' G.hd ob' ns F):
 ∃ G',G'.hd=G.hd∧RG κ G' { s:=st.s,o:=setO ns ob' st.o } a w'∧∀ b,(Nof κ st G w b∨((w.heap.size≤b∨b∈fps G.fp ns)∧b<w'.heap.size∧b∉F))→Nof κ { s:=st.s,o:=setO ns ob' st.o } G' w' b:=by
 obtain⟨fp',hrep,rfl⟩:=hp
 have hbs:=h.keep.size
 let G':Gh:={ hd:=G.hd,fp:=fun c=>if c∈ns then fp' c else G.fp c,ad:=G.ad }
 have hin:∀ b,b∈fps G.fp ns→∃ c p,c∈ns∧st.o c=some p∧b∈G.fp c:=by
  intro b hb
  obtain⟨c,hc,hm⟩:=mem_fps.1 hb
  obtain⟨p,hp⟩:=Option.isSome_iff_exists.1 (hlive c hc)
  exact⟨c,p,hc,hp,hm⟩
 have hXlt:∀ b,b∈fps G.fp ns→(κ.w0.heap.size≤b∨b∈κ.L)∧b<w.heap.size:=by
  intro b hb
  obtain⟨c,p,_,hp,hm⟩:=hin b hb
  exact(h.objs c p.1 p.2 hp).2.2 b hm
 have hlt:∀ b,Nof κ st G w b→b<w.heap.size:=fun b hb=>hb.lt h
 have hNX:∀ b,Nof κ st G w b→b∉fps G.fp ns:=by
  intro b hb hm
  obtain⟨c,p,_,hp,hm⟩:=hin b hm
  exact hb.2 (.inr ⟨c,p,hp,hm⟩)
 have hbX:∀ r,isBox (st.s r)=true→G.ad r∉fps G.fp ns:=by
  intro r hr hm
  obtain⟨c,p,_,hp,hm⟩:=hin _ hm
  exact h.bo r c p hr hp hm
 have hoX:∀ c p,c∉ns→st.o c=some p→∀ b∈G.fp c,b∉fps G.fp ns:=by
  intro c p hc ho b hb hm
  obtain⟨c',p',hc',hp',hm'⟩:=hin b hm
  exact h.oo c c' p p' ho hp' (fun e=>hc (e▸hc')) b hb hm'
 have hob:∀ c p,setO ns ob' st.o c=some p→(c∈ns∧ob' c=some p)∨(c∉ns∧st.o c=some p):=by
  intro c p hc
  simp only[setO] at hc
  by_cases hm:c∈ns
  ·simp only[hm,if_true] at hc; exact .inl ⟨hm,hc⟩
  ·simp only[hm,if_false] at hc; exact .inr ⟨hm,hc⟩
 have fin:∀ c,c∈ns→G'.fp c=fp' c:=fun c hc=>by simp[G',hc]
 have fout:∀ c,c∉ns→G'.fp c=G.fp c:=fun c hc=>by simp[G',hc]
 have hsubF:∀ c∈ns,∀ b∈fp' c,b∈fps fp' ns:=fun c hc b hb=>mem_fps.2 ⟨c,hc,hb⟩
 have hNw:∀ b,Nof κ st G w b→Nof κ { s:=st.s,o:=setO ns ob' st.o } G' w' b:=by
  intro b hb
  refine⟨?_,fun hp=>?_⟩
  ·rcases hb.1 with h1 | h1
   ·exact .inl h1
   ·exact .inr ⟨h1.1,Nat.lt_of_lt_of_le h1.2 hk.size⟩
  ·rcases hp with⟨r,h1,h2⟩ | ⟨c,p,h1,h2⟩
   ·exact hb.2 (.inl ⟨r,h1,h2⟩)
   ·rcases hob c p h1 with⟨hm,ho⟩ | ⟨hm,ho⟩
    ·rw[fin c hm] at h2
     rcases (hF b (hsubF c hm b h2)).1 with h3 | h3
     ·have:=hlt b hb; omega
     ·exact hNX b hb h3
    ·rw[fout c hm] at h2; exact hb.2 (.inr ⟨c,p,ho,h2⟩)
 have hNn:∀ b,(Nof κ st G w b∨((w.heap.size≤b∨b∈fps G.fp ns)∧b<w'.heap.size∧b∉fps fp' ns))→Nof κ { s:=st.s,o:=setO ns ob' st.o } G' w' b:=by
  rintro b (hb | ⟨h1,h2,h3⟩)
  ·exact hNw b hb
  ·refine⟨.inr ⟨?_,h2⟩,fun hp=>?_⟩
   ·rcases h1 with h1 | h1
    ·exact .inl (by omega)
    ·exact(hXlt b h1).1
   ·rcases hp with⟨r,g1,g2⟩ | ⟨c,p,g1,g2⟩
    ·rcases h1 with h1 | h1
     ·have:=(h.boxes r g1).2; simp only[G'] at g2; omega
     ·exact hbX r g1 (g2▸h1)
    ·rcases hob c p g1 with⟨hm,ho⟩ | ⟨hm,ho⟩
     ·rw[fin c hm] at g2; exact h3 (hsubF c hm b g2)
     ·rw[fout c hm] at g2
      rcases h1 with h1 | h1
      ·have:=((h.objs c p.1 p.2 ho).2.2 b g2).2; omega
      ·exact hoX c p hm ho b g2 h1
 have hw:∀ b,b<w.heap.size→b∉fps G.fp ns→w'.heap[b]?=w.heap[b]?:=hk.block
 have hFold:∀ b∈fps fp' ns,b<w.heap.size→b∈fps G.fp ns:=fun b hb hl=>by
  rcases (hF b hb).1 with h1 | h1
  ·omega
  ·exact h1
 refine⟨G',rfl,⟨h.keep.trans ⟨hk.os,hk.tape,hk.output,hk.size,fun k hk1 hkL=>hw k (by omega) (fun hm=>?_),hk.drawn⟩,h.defers,h.nt,
  fun k=>(h.slots k).frame hNw (fun b hb=>hw b (hlt b hb) (hNX b hb)) (fun _ _=>rfl) (fun _ _=>rfl) (fun hb=>⟨rfl,hw _ (h.boxes k hb).2 (hbX k hb)⟩),?_,fun r hr=>⟨(h.boxes r hr).1,Nat.lt_of_lt_of_le (h.boxes r hr).2 hk.size⟩,h.bb,?_,?_,h.held⟩,hNn⟩
 ·rcases (hXlt k hm).1 with h1 | h1
  ·omega
  ·exact hkL h1
 ·intro c sz es hc
  rcases hob c _ hc with⟨hm,ho⟩ | ⟨hm,ho⟩
  ·rw[fin c hm]
   refine⟨RepC.frame hNn (fun _ _=>rfl) _ _ _ (fun _ _=>rfl) (hrep c sz es hm ho),fps_nd ns hFn c hm,fun b hb=>⟨?_,(hF b (hsubF c hm b hb)).2⟩⟩
   rcases (hF b (hsubF c hm b hb)).1 with h1 | h1
   ·exact .inl (by omega)
   ·exact(hXlt b h1).1
  ·rw[fout c hm]
   obtain⟨g1,g2,g3⟩:=h.objs c sz es ho
   exact⟨RepC.frame hNw (fun b hb=>hw b (hlt b hb) (hNX b hb)) _ _ _ (fun b hb=>hw b (g3 b hb).2 (hoX c _ hm ho b hb)) g1,g2,fun b hb=>⟨(g3 b hb).1,Nat.lt_of_lt_of_le (g3 b hb).2 hk.size⟩⟩
 ·intro r c p hr hc hm
  rcases hob c p hc with⟨hcm,ho⟩ | ⟨hcm,ho⟩
  ·rw[fin c hcm] at hm
   exact hbX r hr (hFold _ (hsubF c hcm _ hm) (h.boxes r hr).2)
  ·rw[fout c hcm] at hm; exact h.bo r c p hr ho hm
 ·intro c c' p p' hc hc' hne b hb hb'
  rcases hob c p hc with⟨hm,ho⟩ | ⟨hm,ho⟩<;>rcases hob c' p' hc' with⟨hm',ho'⟩ | ⟨hm',ho'⟩
  ·rw[fin c hm] at hb; rw[fin c' hm'] at hb'; exact fps_dj ns hFn c hm c' hm' hne b hb hb'
  ·rw[fin c hm] at hb; rw[fout c' hm'] at hb'
   exact hoX c' p' hm' ho' b hb' (hFold b (hsubF c hm b hb) ((h.objs c' p'.1 p'.2 ho').2.2 b hb').2)
  ·rw[fout c hm] at hb; rw[fin c' hm'] at hb'
   exact hoX c p hm ho b hb (hFold b (hsubF c' hm' b hb') ((h.objs c p.1 p.2 ho).2.2 b hb).2)
  ·rw[fout c hm] at hb; rw[fout c' hm'] at hb'; exact h.oo c c' p p' ho ho' hne b hb hb'
end
section
theorem updAll_setO{ob':Nat→Option (Nat×List PV)}:∀ (ns:List Nat) (f:Nat→Option (Nat×List PV)),updAll f (ns.map fun c=>(c,ob' c))=setO ns ob' f
 | [],f=>by funext c; simp[updAll,setO]
 | n::ns,f=>by
  simp only[aF,updAll]
  rw[updAll_setO ns]
  funext c
  simp only[setO,upd,List.mem_cons]
  by_cases h:c∈ns
  ·simp[h]
  ·by_cases e:c=n
   ·subst e; simp[h]
   ·simp[h,e]
theorem valid_callIO{P:Program}{nt:Nat}{o:Oper}{st:St}{d:Nat}{g:Operand}{args:Array Operand}{tys:Array TypeId}{f:FuncId}{T1:TypeId}{u:Value}{xs:List CV}{ob':Nat→Option (Nat×List PV)}
 (hop:o.op=.call { callee:=.value g,args:=args,argTypes:=tys }) (hdst:o.dst=some d) (hd:d<nt)
 (hg:ev P st T1 g=.val (.pv (.clo f []))) (hxs:argCVs P st args.toList tys.toList=xs) (hw:aB st.o xs=true) (hcl:CV.cleans xs=true) (hn:(av xs).Nodup) (hw2:aB ob' xs=true)
 (hsat:SatIO P f (aD st.o xs) (aD ob' xs) (.lit u)):
 Valid P nt o st { rs:=rd g++args.toList.flatMap rd,ro:=av xs,us:=[(d,.val (.pv (.lit u)))],uo:=(av xs).map fun c=>(c,ob' c) }:=by
 intro κ st' a w hnt hsame hfresh hR next Q hnext
 obtain⟨G,hG⟩:=hR
 obtain⟨hci,hcalls⟩:=hsat
 have hob:∀ (xs:List CV),(∀ n∈av xs,st'.o n=st.o n)→aB st'.o xs=aB st.o xs∧aK st'.o xs=aK st.o xs∧aD st'.o xs=aD st.o xs:=by
  intro xs hx
  have key:∀ x:CV,(∀ n∈x.names,st'.o n=st.o n)→x.whole st'.o=x.whole st.o∧x.pvw st'.o=x.pvw st.o∧x.pvo st'.o=x.pvo st.o:=by
   intro x
   refine CV.rec (motive_1:=fun x=>(∀ n∈x.names,st'.o n=st.o n)→x.whole st'.o=x.whole st.o∧x.pvw st'.o=x.pvw st.o∧x.pvo st'.o=x.pvo st.o)
    (motive_2:=fun xs=>(∀ n∈av xs,st'.o n=st.o n)→aB st'.o xs=aB st.o xs∧aK st'.o xs=aK st.o xs∧aD st'.o xs=aD st.o xs) ?_ ?_ ?_ ?_ ?_ ?_ x
   ·intro v _; exact⟨rfl,rfl,rfl⟩
   ·intro n h; have:=h n (by simp[bn]); exact⟨by simp[CV.whole,this],by simp[CV.pvw,this],by simp[CV.pvo,this]⟩
   ·intro fs ih h; have:=ih (by simpa[bn] using h); exact⟨by simpa[CV.whole] using this.1,by simp[CV.pvw,this.2.1],by simp[CV.pvo,this.2.2]⟩
   ·intro n _; exact⟨rfl,rfl,rfl⟩
   ·intro _; exact⟨rfl,rfl,rfl⟩
   ·intro y ys i1 i2 h
    have h1:=i1 (fun n hn=>h n (by simp[av,hn]))
    have h2:=i2 (fun n hn=>h n (by simp[av,hn]))
    exact⟨by simp[aB,h1.1,h2.1],by simp[aK,h1.2.1,h2.2.1],by simp[aD,h1.2.2,h2.2.2]⟩
  induction xs with
  | nil=>exact⟨rfl,rfl,rfl⟩
  | cons y ys ih=>
   have h1:=key y (fun n hn=>hx n (by simp[av,hn]))
   have h2:=ih (fun n hn=>hx n (by simp[av,hn]))
   exact⟨by simp[aB,h1.1,h2.1],by simp[aK,h1.2.1,h2.2.1],by simp[aD,h1.2.2,h2.2.2]⟩
 obtain⟨hw',hv',ho'⟩:=hob xs hsame.2
 have hwx:aB st'.o xs=true:=by rw[hw']; exact hw
 have hcv:=args_ok (P:=P) (st:=st) hG args.toList tys.toList (fun k hk=>hsame.1 k (by simp only[aT]; exact .inr hk)) (by rw[hxs]; exact hwx)
 rw[hxs] at hcv
 have hgv:=ev_ok (P:=P) (T:=T1) hG g 0
 rw[ev_congr (fun k hk=>hsame.1 k (by simp[hk])),hg] at hgv
 rcases hgv with⟨hgv,_⟩ | ⟨_,hgv,_⟩
 ·simp[aR] at hgv
 simp only[RepCV,RepC] at hgv
 obtain⟨vals,hg1,_,hg3,_⟩:=hgv
 simp at hg1
 simp only[RepCs] at hg3
 obtain⟨rfl,_⟩:=hg3
 have hrun:(execOp a.eval o).run P w=.ok (.enter f (args.map a.eval)) w:=by
  simp[execOp,hop,resolve,hg1,Deferred.ofValue,invoke,run_callFunc hci]
 have harr:args.map a.eval=(args.toList.map a.eval).toArray:=by apply Array.ext'; simp
 have hlive:∀ c∈av xs,(st'.o c).isSome=true:=CV.namess_live _ hwx
 have hXlt:∀ b∈fps G.fp (av xs),b<w.heap.size:=by
  intro b hb
  obtain⟨c,hc,hm⟩:=mem_fps.1 hb
  obtain⟨p,hp⟩:=Option.isSome_iff_exists.1 (hlive c hc)
  exact((hG.objs c p.1 p.2 hp).2.2 b hm).2
 have hXn:(fps G.fp (av xs)).Nodup:=fps_nodup hG _ hn hlive
 have hNX:∀ b,Nof κ st' G w b→b∉fps G.fp (av xs):=by
  intro b hb hm
  obtain⟨c,hc,hm⟩:=mem_fps.1 hm
  obtain⟨p,hp⟩:=Option.isSome_iff_exists.1 (hlive c hc)
  exact hb.2 (.inr ⟨c,p,hp,hm⟩)
 have hown:=CVals.own (fun c sz es hc=>(hG.objs c sz es hc).1) hwx hcv
 rw[ho'] at hown
 unfold Oper.wp
 rw[hrun]
 simp only[Oper.upon]
 rw[harr]
 refine(hcalls w (Nof κ st' G w) _ _ (fun b hb=>⟨hb.lt hG,hNX b hb⟩) hXn hXlt hown).mono ?_
 rintro e w'' ⟨v,F,rfl,hk,hr,hFn,hF,hres⟩
 have hp:=CVals.inv (ob:=ob') xs _ F hcl hw2 hcv hr hn
 obtain⟨G',hhd,hG',hN'⟩:=hG.setObjs hlive hk hF hFn hp
 have hv:v=u∧u.oneCell'=true:=by
  simp only[RepR,RepV,RepC] at hres
  exact⟨by simpa using hres.1,hres.2.1⟩
 rw[hdst]
 refine hnext _ _ ?_
 have:=R.set (sv:=.val (.pv (.lit u))) (v:=v) (d:=d) G' hG' (by rw[hnt]; exact hd) rfl (by rw[hv.1]; exact slotOk_lit hv.2)
 simpa[St.app,updAll,St.set,updAll_setO] using this
end
section
/-! ### The caller's side, for simp -/
theorem CallH.io{P:Program}{nt:Nat}{st:St}{d ty:Nat}{pos:String}{af:Array Edge}{gd:Option (Nat×Bool)}{g:Operand}{as:List Operand}{ts:List TypeId}{K0:Rec→Prop}{f:FuncId}{v o c:List PV}{K:List Bool→PV→Prop}
 {args args':List PV} {u:Value} (xs:List CV) (ns:List (Nat×(Nat×List PV))) (h:SatIO P f args args' (.lit u))
 (hs:d<nt∧ev P st 0 g=.val (.pv (.clo f []))∧argCVs P st as ts=xs∧aB st.o xs=true∧CV.cleans xs=true∧(av xs).Nodup∧aB (mkO ns) xs=true∧args=aD st.o xs∧args'=aD (mkO ns) xs)
 (hK:K0 { rs:=rd g++as.flatMap rd,ro:=av xs,us:=[(d,.val (.pv (.lit u)))],uo:=(av xs).map fun c=>(c,mkO ns c) }):
 CallH P f v o c K (RecOk P nt st { dst:=some d,op:=.call { callee:=.value g,args:=⟨as⟩,argTypes:=⟨ts⟩ },type:=ty,pos:=pos,after:=af,guard:=gd } K0) .mk .mk:=by
 obtain⟨h1,h2,h3,h4,h5,h6,h7,h8,h9⟩:=hs
 subst h8; subst h9
 exact CallH.hatch ⟨_,valid_callIO (args:=⟨as⟩) (tys:=⟨ts⟩) rfl rfl h1 h2 h3 h4 h5 h6 h7 h,fresh_none rfl rfl,hK⟩
theorem FinIO.mk{P:Program}{st:St}{rs:List ResultVar}{res:PV}{cvs:List CV}{args':List PV}(h:aB st.o (resCVs P st rs)=true∧resOks P st rs∧res=asRes (aK st.o (resCVs P st rs))∧CV.pures (resCVs P st rs)=true∧aB st.o cvs=true∧(av cvs).Nodup∧args'=aD st.o cvs):FinIO P st rs res cvs args':=h
@[congr] theorem FinIO.cg {P:Program} {st st':St} {rs:List ResultVar} {res:PV} {cvs:List CV} {args':List PV} (h:∀ _:Unit,st=st'):FinIO P st rs res cvs args'=FinIO P st' rs res cvs args':=by rw[h ()]

/-! ### Regions, step by step -/
section
variable{P:Program}{nt:Nat}{ops:Array Oper}{i:Nat}{st:St}{K:St→Prop}
def VSeq(P:Program)(nt:Nat)(ops:Array Oper)(i:Nat)(st:St)(K:St→Prop):Prop:=
 ∀ κ a w,κ.nt=nt→R κ st a w→∀ Q:Exit→Act→World→Prop,(∀ st' a' w',K st'→R κ st' a' w'→Q .normal a' w')→wpOps P ops Q (List.range' i (ops.size-i)) a w
theorem VSeq.nil(hi:ops.size≤i)(h:K st):VSeq P nt ops i st K:=by
 intro κ a w hnt hR Q hQ
 have e:ops.size-i=0:=by omega
 rw[e]
 exact hQ _ _ _ h hR
theorem VSeq.one{o:Oper}(ho:ops[i]?=some o)(h:stepG P nt ops st o fun r=>VSeq P nt ops (i+1) (st.app r) K):VSeq P nt ops i st K:=by
 intro κ a w hnt hR Q hQ
 have hi:i<ops.size:=(Array.getElem?_eq_some_iff.1 ho).1
 have e:ops.size-i=(ops.size-(i+1))+1:=by omega
 rw[e,List.range'_succ,wpOps_cons]
 obtain⟨r,h1,h2,h3⟩:=stepG_ok ho h
 exact h1 κ _ a w hnt (Rec.same_refl _ _) h2 hR _ _ (fun a' w' hR'=>h3 κ a' w' hnt hR' Q hQ)
def stepV(P:Program)(nt:Nat)(ops:Array Oper)(i:Nat)(st:St)(K:St→Prop):Option Oper→Prop
 | some o=>stepG P nt ops st o fun r=>VSeq P nt ops (i+1) (st.app r) K
 | none=>False
@[congr] theorem stepV.cg {st':St} {x x':Option Oper} (h:∀ _:Unit,st=st') (h':∀ _:Unit,x=x'):stepV P nt ops i st K x=stepV P nt ops i st' K x':=by rw[h (),h' ()]
theorem stepV_some(o:Oper)(s:Nat→SlotV)(ob:Nat→Option (Nat×List PV)):stepV P nt ops i ⟨s,ob⟩ K (some o)=stepG P nt ops ⟨s,ob⟩ o fun r=>VSeq P nt ops (i+1) (St.app ⟨s,ob⟩ r) K:=rfl
@[congr] theorem VSeq.cg {st':St} (h:∀ _:Unit,st=st'):VSeq P nt ops i st K=VSeq P nt ops i st' K:=by rw[h ()]
theorem VSeq.step(h:stepV P nt ops i st K ops[i]?):VSeq P nt ops i st K:=by
 cases ho:ops[i]? with
 | none=>rw[ho] at h; exact h.elim
 | some o=>rw[ho] at h; exact VSeq.one ho h
theorem VSeq.sound{id:Nat}{Q:Exit→St→Prop}(h:VSeq P nt ops 0 st K)(hK:∀ st',K st'→Q .normal st'):VC P nt (.region id ops false) st Q:=by
 intro κ a w hnt hR Qc hQ
 refine wp_region ?_
 have:=h κ a w hnt hR Qc (fun st' a' w' hk hR'=>hQ _ _ _ _ (hK _ hk) hR')
 rwa [List.range_eq_range',← Nat.sub_zero ops.size]

/-- An element's own slice, handed to a function that writes into it: the load and the call, at once. -/
theorem VSeq.inner{o1 o2 o3:Oper}{x g y:Operand}{T:TypeId}{d1 d2 d3 c sz j off sz':Nat}{f:FuncId}{p:List Nat}{ts:Array TypeId}{es es' es'':List PV}{u v:Value}
 (h1:ops[i]?=some o1) (h3:ops[i+1]?=some o3) (h2:ops[i+2]?=some o2) (g1:o1.guard=none) (g3:o3.guard=none) (g2:o2.guard=none) (hop1:o1.op=.load T x) (hdst1:o1.dst=some d1) (hd1:d1<nt)
 (hop3:o3.op=.move y) (hdst3:o3.dst=some d3) (hd3:d3<nt) (h13:d1≠d3) (hop2:o2.op=.call { callee:=.value g,args:=#[.tmp d1,.tmp d3],argTypes:=ts }) (hdst2:o2.dst=some d2) (hd2:d2<nt)
 (hg:g=.func f) (hx:ev P st 0 x=.eptr c sz j p off) (hc:st.o c=some (sz,es)) (hj:j<es.length) (hok:(es.getD j default).okp p=true) (hoff:(es.getD j default).offs p=off)
 (hp:(es.getD j default).at p=.sl true sz' es') (hsz:((es.getD j default).setAt p (.sl true sz' es'')).size=sz) (hy:ev P st 0 y=.val (.pv (.lit v))) (hyd:d1∉rd y)
 (ht:TyIs P T false 1) (hsat:SatIO P f [.sl true sz' es',.lit v] [.sl true sz' es'',.lit v] (.lit u))
 (h:VSeq P nt ops (i+3) ⟨upd (upd (upd st.s d1 .dead) d3 (.val (.pv (.lit v)))) d2 (.val (.pv (.lit u))),upd st.o c (some (sz,es.set j ((es.getD j default).setAt p (.sl true sz' es''))))⟩ K):VSeq P nt ops i st K:=by
 intro κ a w hnt hR Q hQ
 obtain⟨G,hG⟩:=hR
 obtain⟨hci,hcalls⟩:=hsat
 have hi:i+2<ops.size:=(Array.getElem?_eq_some_iff.1 h2).1
 have e:ops.size-i=(ops.size-(i+3))+1+1+1:=by omega
 rw[e,List.range'_succ,List.range'_succ,List.range'_succ,wpOps_cons]
 have hs1:=ev_ok (P:=P) (T:=0) hG x d1
 rw[hx] at hs1
 obtain⟨b,n,cap,k1,k2⟩:=hs1
 have hyv:a.eval y=v:=ev_lit hG hy (fun _ _=>rfl)
 obtain⟨h4,h4n,h4l⟩:=hG.objs c sz es hc
 simp only[RepC] at h4
 rcases h4 with⟨_,h4,_⟩ | ⟨b',cap',cc,et,F',ccs,f1,f2,f3,f4,f5,f6,f7,f8,f9⟩
 ·subst h4; simp at hj
 rw[k1] at f1
 simp at f1
 obtain⟨rfl,rfl,rfl⟩:=f1
 obtain⟨c1,c2,c3,F1,F2,F3,e1,e2,e3,e4,e5,e6⟩:=RepCs.at' es j ccs F' hj f8
 obtain⟨m1,m2,m3,H1,H2,H3,q1,q2,q3,q4,q5⟩:=RepC.path p _ c2 F2 hok e4
 rw[hp] at q4
 rw[sizes_take f4 (by omega)] at e3
 have hlen:=RepC.length _ _ _ q4
 simp only[PV.size] at hlen
 obtain⟨hdr,rfl⟩:=List.length_eq_one_iff.1 hlen
 have hone:=RepC.one _ _ _ q4 hdr (by simp)
 -- the load
 have hrow:RowAt w ⟨b,j*sz+off,none⟩ [hdr]:=by
  have hall:cc.toList=(c1++m1)++[hdr]++(m3++c3++cc.toList.drop (es.length*sz)):=by
   have:=List.take_append_drop (es.length*sz) cc.toList
   rw[f7,e1,q1] at this
   refine this.symm.trans ?_
   simp only[aS]
  have h5:w.heap[b]?=some (.cells ((c1++m1)++[hdr]++(m3++c3++cc.toList.drop (es.length*sz))).toArray et (0,0)):=by rw[← hall]; simpa using f5
  have:=rowAt_of_block h5
  rw[aV,e3,q3,hoff] at this
  exact this
 have hload:(loadVar T ⟨b,j*sz+off,none⟩).run P w=.ok hdr w:=by
  obtain⟨u',r1,r2⟩:=run_loadVar (P:=P) (hd:=G.hd) (x:=.pv (.lit hdr)) (N:=Nof κ st G w) (T:=T) (by simpa[aR,CV.size,PV.size] using ht) rfl hrow (by simp[RepCV,RepC,hone]) (fun n=>by simp)
  rcases r2 with⟨r2,_⟩ | ⟨_,r2,_⟩
  ·simp[aR] at r2
  ·simp only[RepCV,RepC] at r2
   have:u'=hdr:=by simpa using r2.1
   rw[this] at r1; exact r1
 have hrun1:(execOp a.eval o1).run P w=.ok (.value hdr) w:=by simp[execOp,hop1,k2,Instr.loadAt,Instr.sureAddr,hload]
 unfold wpOp
 simp only[h1,Region.wanted,g1,if_true]
 refine .inl ?_
 unfold Oper.wp
 rw[hrun1]
 simp only[Oper.upon,hdst1]
 -- the call
 have hsz1:d1<a.tmps.size:=by rw[hG.nt,hnt]; exact hd1
 have hsz3:d3<a.tmps.size:=by rw[hG.nt,hnt]; exact hd3
 have hevy:(a.put (some d1) hdr).eval y=v:=by
  rw[← hyv]
  cases y with
  | tmp t=>
   have:t≠d1:=by rintro rfl; exact hyd (by simp[rd])
   simp[Act.put,Act.eval,Array.getElem?_setIfInBounds_ne (Ne.symm this)]
  | _=>rfl
 have hrun3:(execOp (a.put (some d1) hdr).eval o3).run P w=.ok (.value v) w:=by simp[execOp,hop3,hevy]
 rw[wpOps_cons]
 unfold wpOp
 simp only[h3,Region.wanted,g3,if_true]
 refine .inl ?_
 unfold Oper.wp
 rw[hrun3]
 simp only[Oper.upon,hdst3]
 have hev1:((a.put (some d1) hdr).put (some d3) v).eval (.tmp d1)=hdr:=by
  simp[Act.put,Act.eval,hsz1,Array.getElem_setIfInBounds,Ne.symm h13]
 have hev3:((a.put (some d1) hdr).put (some d3) v).eval (.tmp d3)=v:=by
  simp[Act.put,Act.eval,hsz3]
 have hrun2:(execOp ((a.put (some d1) hdr).put (some d3) v).eval o2).run P w=.ok (.enter f #[hdr,v]) w:=by
  subst hg
  have hgf:((a.put (some d1) hdr).put (some d3) v).eval (.func f)=.func (.func f) #[] #[]:=rfl
  simp[execOp,hop2,resolve,hgf,Deferred.ofValue,invoke,run_callFunc hci,hev1,hev3]
 have h2':ops[i+1+1]?=some o2:=h2
 rw[wpOps_cons]
 unfold wpOp
 simp only[h2',Region.wanted,g2,if_true]
 refine .inl ?_
 unfold Oper.wp
 rw[hrun2]
 simp only[Oper.upon]
 have hFn0:(b::F').Nodup:=by rw[← f9]; exact h4n
 have hF2sub:∀ k∈H2,k∈F':=by intro k hk; rw[e2,q2]; simp[hk]
 have hH2n:H2.Nodup:=by
  have:=(List.nodup_cons.1 hFn0).2
  rw[e2,q2] at this
  exact((List.nodup_append.1 (List.nodup_append.1 (List.nodup_append.1 (List.nodup_append.1 this).1).2.1).1).2.1)
 have hbH:b∉H2:=fun hm=>(List.nodup_cons.1 hFn0).1 (hF2sub b hm)
 have hFlt:∀ k∈G.fp c,k<w.heap.size:=fun k hk=>(h4l k hk).2
 have hH2lt:∀ k∈H2,k<w.heap.size:=fun k hk=>hFlt k (by rw[f9]; exact List.mem_cons_of_mem _ (hF2sub k hk))
 have hNP:∀ k,Nof κ st G w k→k∉G.fp c:=fun k hk hm=>hk.2 (.inr ⟨c,_,hc,hm⟩)
 have hH2fp:∀ k∈H2,k∈G.fp c:=fun k hk=>by rw[f9]; exact List.mem_cons_of_mem _ (hF2sub k hk)
 refine(hcalls w (Nof κ st G w) [hdr,v] H2 (fun k hk=>⟨hk.lt hG,fun hm=>hNP k hk (hH2fp k hm)⟩) hH2n hH2lt ?_).mono ?_
 ·simp only[RepVs]
  refine⟨hdr,[v],H2,[],rfl,by simp,q4,v,[],[],[],rfl,rfl,?_,rfl,rfl⟩
  have:=ev_ok (P:=P) (T:=0) hG y 0
  rw[hy,hyv] at this
  rcases this with⟨t1,_⟩ | ⟨_,t2,_⟩
  ·simp[aR] at t1
  ·simpa only[RepCV,RepV] using t2
 rintro e' w'' ⟨rv,F,rfl,hk,hr,hFn,hF,hres⟩
 have hrv:rv=u∧u.oneCell'=true:=by
  simp only[RepR,RepV,RepC] at hres
  exact⟨by simpa using hres.1,hres.2.1⟩
 simp only[RepVs] at hr
 obtain⟨r1,rs1,FA,FB,t1,t2,t3,r2,rs2,FC,FD,t4,t5,t6,t7⟩:=hr
 obtain⟨rfl,rfl⟩:=List.cons.inj t1
 have hFB:FB=[]:=by
  obtain⟨t8,t9⟩:=t7
  obtain⟨rfl,_⟩:=List.cons.inj t4
  simp only[RepV,RepC] at t6
  rw[t5,t6.2.2,t9]; rfl
 have hFA:F=FA:=by rw[t2,hFB,bj]
 subst hFA
 simp only[RepV] at t3
 -- the whole object anew
 let F0:=b::(F1++(H1++F++H3++F3))
 have hkeep:∀ k,k<w.heap.size→k∉H2→w''.heap[k]?=w.heap[k]?:=hk.block
 have hrest:∀ k,k∈F1++(H1++H3++F3)→k∈F'∧k∉H2:=by
  intro k hm
  have h0:=(List.nodup_cons.1 hFn0).2
  rw[e2,q2] at h0
  have hd1':=List.nodup_append.1 h0
  have hd2':=List.nodup_append.1 hd1'.1
  have hd3':=List.nodup_append.1 hd2'.2.1
  have hd4':=List.nodup_append.1 hd3'.1
  constructor
  ·rw[e2,q2]; simp only[aT] at hm ⊢
   rcases hm with hm | (hm | hm) | hm<;>simp[hm]
  ·intro hh
   simp only[aT] at hm
   rcases hm with hm | (hm | hm) | hm
   ·exact hd2'.2.2 k hm k (by simp[hh]) rfl
   ·exact hd4'.2.2 k hm k hh rfl
   ·exact hd3'.2.2 k (by simp[hh]) k hm rfl
   ·exact hd1'.2.2 k (by simp[hh]) k hm rfl
 have hrestlt:∀ k,k∈F1++(H1++H3++F3)→k<w.heap.size:=fun k hm=>hFlt k (by rw[f9]; exact List.mem_cons_of_mem _ (hrest k hm).1)
 have hrestnd:(F1++(H1++H3++F3)).Nodup:=by
  have h0:=(List.nodup_cons.1 hFn0).2
  rw[e2,q2] at h0
  refine List.Sublist.nodup ?_ h0
  simp only[aS]
  exact List.Sublist.append_left (List.Sublist.append_left (List.sublist_append_right _ _) _) _
 have hFrest:∀ k∈F,k∉F1++(H1++H3++F3):=by
  intro k hkF hm
  rcases (hF k hkF).1 with g | g
  ·have:=hrestlt k hm; omega
  ·exact(hrest k hm).2 g
 have hbF:b∉F:=by
  intro hm
  rcases (hF b hm).1 with g | g
  ·have:=hFlt b (by rw[f9]; simp); omega
  ·exact hbH g
 have hperm:(F1++(H1++F++H3++F3)).Perm (F++(F1++(H1++H3++F3))):=by
  simp only[aS]
  have p1:(H1++(F++(H3++F3))).Perm (F++(H1++(H3++F3))):=by
   rw[← aS,← aS F]; exact List.perm_append_comm.append_right _
  refine(List.Perm.append_left F1 p1).trans ?_
  rw[← aS,← aS F]
  exact List.perm_append_comm.append_right _
 have hF0n:F0.Nodup:=by
  refine List.nodup_cons.2 ⟨fun hm=>?_,hperm.nodup_iff.2 (List.nodup_append.2 ⟨hFn,hrestnd,fun k hk k' hk' e=>hFrest k hk (e▸hk')⟩)⟩
  rcases List.mem_append.1 (hperm.mem_iff.1 hm) with hm | hm
  ·exact hbF hm
  ·exact(List.nodup_cons.1 hFn0).1 (hrest b hm).1
 have hsubfp:∀ k,k∈fps G.fp [c]↔k∈G.fp c:=by intro k; simp[fps]
 have hF0:∀ k∈F0,(w.heap.size≤k∨k∈fps G.fp [c])∧k<w''.heap.size:=by
  intro k hm
  rcases List.mem_cons.1 hm with rfl | hm
  ·have hb:k∈G.fp c:=by rw[f9]; simp
   exact⟨.inr ((hsubfp _).2 hb),Nat.lt_of_lt_of_le (hFlt _ hb) hk.size⟩
  ·rcases List.mem_append.1 (hperm.mem_iff.1 hm) with hm | hm
   ·exact⟨(hF k hm).1.imp id (fun g=>(hsubfp _).2 (hH2fp k g)),(hF k hm).2⟩
   ·have hb:k∈G.fp c:=by rw[f9]; exact List.mem_cons_of_mem _ (hrest k hm).1
    exact⟨.inr ((hsubfp _).2 hb),Nat.lt_of_lt_of_le (hFlt _ hb) hk.size⟩
 let N':Nat→Prop:=fun k=>Nof κ st G w k∨((w.heap.size≤k∨k∈fps G.fp [c])∧k<w''.heap.size∧k∉F0)
 have hNw:∀ k,Nof κ st G w k→w''.heap[k]?=w.heap[k]?:=fun k hk=>hkeep k (hk.lt hG) (fun hm=>hNP k hk (hH2fp k hm))
 have hNN:∀ k,Nof κ st G w k→N' k:=fun k hk=>.inl hk
 have hin:RepC N' w'' (.sl true sz' es'') [hdr] F:=by
  refine RepC.frame (N:=fun k=>Nof κ st G w k∨((w.heap.size≤k∨k∈H2)∧k<w''.heap.size∧k∉F)) ?_ (fun _ _=>rfl) _ _ _ (fun _ _=>rfl) t3
  rintro k (hk | ⟨h1,h2,h3⟩)
  ·exact .inl hk
  ·refine .inr ⟨h1.imp id (fun g=>(hsubfp _).2 (hH2fp k g)),h2,fun hm=>?_⟩
   rcases List.mem_cons.1 hm with rfl | hm
   ·rcases h1 with g | g
    ·have:=hFlt k (by rw[f9]; simp); omega
    ·exact hbH g
   ·rcases List.mem_append.1 (hperm.mem_iff.1 hm) with hm | hm
    ·exact h3 hm
    ·rcases h1 with g | g
     ·have:=hrestlt k hm; omega
     ·exact(hrest k hm).2 g
 have hel:=q5 N' w'' hNN hNw (fun k hm=>hkeep k (hrestlt k (by simp only[aT] at hm ⊢; rcases hm with hm | hm<;>simp[hm])) ((hrest k (by simp only[aT] at hm ⊢; rcases hm with hm | hm<;>simp[hm])).2)) _ _ _ hin
 have hl1:RepCs N' w'' (es.take j) c1 F1:=RepCs.frame hNN hNw _ _ _ (fun k hm=>hkeep k (hrestlt k (by simp[hm])) ((hrest k (by simp[hm])).2)) e5
 have hl3:RepCs N' w'' (es.drop (j+1)) c3 F3:=RepCs.frame hNN hNw _ _ _ (fun k hm=>hkeep k (hrestlt k (by simp[hm])) ((hrest k (by simp[hm])).2)) e6
 have hmid:RepCs N' w'' ((es.getD j default).setAt p (.sl true sz' es'')::es.drop (j+1)) ((m1++[hdr]++m3)++c3) ((H1++F++H3)++F3):=by
  simp only[RepCs]; exact⟨_,_,_,_,rfl,rfl,hel,hl3⟩
 have hwhole:=RepCs.append _ _ _ _ _ _ hl1 hmid
 rw[← set_eq hj] at hwhole
 have hbw:w''.heap[b]?=w.heap[b]?:=hkeep b (hFlt b (by rw[f9]; simp)) hbH
 have hobj:RepC N' w'' (.sl true sz (es.set j ((es.getD j default).setAt p (.sl true sz' es'')))) [G.hd c] F0:=by
  simp only[RepC]
  refine .inr ⟨b,cap,cc,et,_,ccs,by rw[k1,List.length_set],by rw[List.length_set]; exact f2,f3,?_,by rw[hbw]; exact f5,f6,by rw[List.length_set]; exact f7,?_,rfl⟩
  ·intro q hq
   rcases List.mem_or_eq_of_mem_set hq with hq | rfl
   ·exact f4 q hq
   ·exact hsz
  ·have e8:ccs=c1++(m1++[hdr]++m3++c3):=by rw[e1,q1]; simp[aS]
   rw[e8]
   exact hwhole
 obtain⟨G',hhd,hG',_⟩:=hG.setObjs (ns:=[c]) (F:=F0) (ob':=fun _=>some (sz,es.set j ((es.getD j default).setAt p (.sl true sz' es''))))
  (by simp[hc]) (by refine⟨hk.os,hk.tape,hk.output,hk.size,fun k hk1 hk2=>hkeep k hk1 (fun hm=>hk2 ((hsubfp _).2 (hH2fp k hm))),hk.drawn⟩) hF0 hF0n
  ⟨fun _=>F0,fun c' sz'' es''' hc' ho=>by
   simp only[List.mem_singleton] at hc'; subst hc'
   cases ho
   exact hobj,by simp[fps]⟩
 have hG1:=hG'.set (v:=hdr) (sv:=.dead) (by rw[hnt]; exact hd1) rfl trivial
 have hvone:v.oneCell'=true:=by
  have:=ev_ok (P:=P) (T:=0) hG y 0
  rw[hy,hyv] at this
  rcases this with⟨t1,_⟩ | ⟨_,_,t2⟩
  ·simp[aR] at t1
  ·exact t2
 have hG3:=hG1.set (v:=v) (sv:=.val (.pv (.lit v))) (by rw[hnt]; exact hd3) rfl (slotOk_lit hvone)
 have hG2:=hG3.set (v:=rv) (sv:=.val (.pv (.lit u))) (by rw[hnt]; exact hd2) rfl (by rw[hrv.1]; exact slotOk_lit hrv.2)
 rw[hdst2]
 refine h κ _ _ hnt ⟨G',?_⟩ Q hQ
 have ho:setO [c] (fun _=>some (sz,es.set j ((es.getD j default).setAt p (.sl true sz' es'')))) st.o=upd st.o c (some (sz,es.set j ((es.getD j default).setAt p (.sl true sz' es'')))):=by
  funext k; simp[setO,upd]
 rw[ho] at hG2
 exact hG2
theorem VSeq.innerM{o1 o2 o3:Oper}{x y:Operand}{T:TypeId}{d1 d2 d3 c sz off sz':Nat}{f:FuncId}{p:List Nat}{ts:Array TypeId}{es' es'':List PV}{u v:Value}{α:Type}{fx:α→PV}{xs:List α}{e:Int}{x0:α}
 (h1:ops[i]?=some o1) (h3:ops[i+1]?=some o3) (h2:ops[i+2]?=some o2) (g1:o1.guard=none) (g3:o3.guard=none) (g2:o2.guard=none) (hop1:o1.op=.load T x) (hdst1:o1.dst=some d1)
 (hop3:o3.op=.move y) (hdst3:o3.dst=some d3) (hop2:o2.op=.call { callee:=.value (.func f),args:=#[.tmp d1,.tmp d3],argTypes:=ts }) (hdst2:o2.dst=some d2) (hidx:idx xs e=some x0)
 (hsat:SatIO P f [.sl true sz' es',.lit v] [.sl true sz' es'',.lit v] (.lit u))
 (hs:d1<nt∧d2<nt∧d3<nt∧(d1==d3)=false∧ev P st 0 x=.eptr c sz e.toNat p off∧st.o c=some (sz,xs.map fx)∧ev P st 0 y=.val (.pv (.lit v))∧(rd y).contains d1=false∧TyIs P T false 1)
 (hp:(fx x0).okp p=true∧(fx x0).offs p=off∧(fx x0).at p=.sl true sz' es'∧((fx x0).setAt p (.sl true sz' es'')).size=sz)
 (h:VSeq P nt ops (i+3) ⟨upd (upd (upd st.s d1 .dead) d3 (.val (.pv (.lit v)))) d2 (.val (.pv (.lit u))),upd st.o c (some (sz,(xs.map fx).set e.toNat ((fx x0).setAt p (.sl true sz' es''))))⟩ K):VSeq P nt ops i st K:=by
 obtain⟨k1,k2,k8,k9,k3,k4,k5,k6,k7⟩:=hs
 obtain⟨q1,q2,q3,q4⟩:=hp
 obtain⟨i1,i2,i3⟩:=idx_some hidx
 have hx:(xs.map fx).getD e.toNat default=fx x0:=by simp[List.getD,i3]
 refine VSeq.inner h1 h3 h2 g1 g3 g2 hop1 hdst1 k1 hop3 hdst3 k8 (by simpa using k9) hop2 hdst2 k2 rfl k3 k4 (by simp; omega) (by rw[hx]; exact q1) (by rw[hx]; exact q2) (by rw[hx]; exact q3) (by rw[hx]; exact q4) k5 ?_ k7 hsat (by rw[hx]; exact h)
 intro hm
 rw[List.contains_eq_mem] at k6
 simp[hm] at k6
end

/-! ### The machine over frames, with regions step by step -/
def MgI(P:Program)(nt:Nat)(F:St→Prop):Nat→Ctl→St→List Fr→Prop
 | 0,_,_,_=>False
 | n+1,.code c,st,k=>match c with
  | .seq x y=>MgI P nt F n (.code x) st (.sq y::k)
  | .skip=>MgI P nt F n .nrm st k
  | .exit id=>MgI P nt F n (.ex id) st k
  | .ret=>MgI P nt F n .rt st k
  | .block id x=>MgI P nt F n (.code x) st (.bl id::k)
  | .region _ ops dr=>if dr then P.follows .mixedOrders=true∧wpD P nt ops ops.toList st [] (fun recs st'=>DrawH ops st recs .mk .mk .mk∧MgI P nt F n .nrm st' k)
   else VSeq P nt ops 0 st (fun st'=>MgI P nt F n .nrm st' k)
  | .cond c x y=>boolOf (ev P st 0 c) fun b=>CondH b (MgI P nt F n (.code x) st k) (MgI P nt F n (.code y) st k) .mk .mk
  | c=>VC P nt c st (popQ P nt F k)
 | n+1,.nrm,st,k=>match k with
  | []=>F st
  | .sq y::k=>MgI P nt F n (.code y) st k
  | .bl _::k=>MgI P nt F n .nrm st k
  | .rd φ::_=>φ st
 | n+1,.ex id,st,k=>match k with
  | []=>False
  | .sq _::k=>MgI P nt F n (.ex id) st k
  | .bl id'::k=>if id=id' then MgI P nt F n .nrm st k else MgI P nt F n (.ex id) st k
  | .rd _::k=>MgI P nt F n (.ex id) st k
 | n+1,.rt,st,k=>match k with
  | []=>F st
  | _::k=>MgI P nt F n .rt st k
section
variable{P:Program}{nt:Nat}{F:St→Prop}{n:Nat}{st:St}{k:List Fr}
theorem MgI.sound:∀ (n:Nat) (c:Ctl) (st:St) (k:List Fr),MgI P nt F n c st k→c.means P nt st (popQ P nt F k)
 | 0,_,_,_,h=>h.elim
 | n+1,.code c,st,k,h=>by
  have ih:=MgI.sound n
  cases c with
  | seq x y=>exact VC.seq' (ih (.code x) st (.sq y::k) h)
  | skip=>exact VC.skip (ih .nrm st k h)
  | exit id=>exact VC.exit (ih (.ex id) st k h)
  | ret=>exact VC.ret (ih .rt st k h)
  | block id x=>exact VC.block (ih (.code x) st (.bl id::k) h)
  | region id ops dr=>
   cases dr with
   | false=>exact VSeq.sound h (fun st' hk=>ih .nrm st' k hk)
   | true=>exact VC.draw2 h.1 h.2 (fun st' hk=>ih .nrm st' k hk)
  | cond c x y=>
   refine VC.cond ?_
   simp only[MgI] at h
   unfold boolOf at h ⊢
   split at h
   ·exact⟨fun hb=>ih (.code x) st k (h.1 hb),fun hb=>ih (.code y) st k (h.2 hb)⟩
   ·intro v hv
    obtain⟨b,e,hb⟩:=h v hv
    exact⟨b,e,fun hh=>ih (.code x) st k (hb.1 hh),fun hh=>ih (.code y) st k (hb.2 hh)⟩
   ·exact h.elim
  | _=>exact h
 | n+1,.nrm,st,k,h=>by
  have ih:=MgI.sound n
  match k,h with
  | [],h=>exact⟨.inl rfl,h⟩
  | .sq y::k,h=>exact(ih (.code y) st k h)
  | .bl i::k,h=>exact(ih .nrm st k h)
  | .rd φ::k',h=>exact h
 | n+1,.ex id,st,k,h=>by
  have ih:=MgI.sound n
  match k,h with
  | [],h=>exact h.elim
  | .sq y::k,h=>exact(ih (.ex id) st k h)
  | .bl id'::k,h=>
   simp only[MgI] at h
   by_cases e:id=id'
   ·subst e; rw[if_pos rfl] at h; exact blockK_hit (ih .nrm st k h)
   ·rw[if_neg e] at h; exact blockK_miss e (ih (.ex id) st k h)
  | .rd φ::k',h=>exact(ih (.ex id) st k' h)
 | n+1,.rt,st,k,h=>by
  have ih:=MgI.sound n
  match k,h with
  | [],h=>exact⟨.inr rfl,h⟩
  | .sq y::k,h=>exact(ih .rt st k h)
  | .bl i::k,h=>exact(ih .rt st k h)
  | .rd φ::k',h=>exact(ih .rt st k' h)
@[congr] theorem MgI.cg {c:Ctl} {st':St} (h:∀ _:Unit,st=st'):MgI P nt F n c st k=MgI P nt F n c st' k:=by rw[h ()]
theorem MgI_seq(x y:Code):MgI P nt F (n+1) (.code (.seq x y)) st k=MgI P nt F n (.code x) st (.sq y::k):=rfl
theorem MgI_skip:MgI P nt F (n+1) (.code .skip) st k=MgI P nt F n .nrm st k:=rfl
theorem MgI_exit(id:Nat):MgI P nt F (n+1) (.code (.exit id)) st k=MgI P nt F n (.ex id) st k:=rfl
theorem MgI_ret:MgI P nt F (n+1) (.code .ret) st k=MgI P nt F n .rt st k:=rfl
theorem MgI_block(id:Nat)(x:Code):MgI P nt F (n+1) (.code (.block id x)) st k=MgI P nt F n (.code x) st (.bl id::k):=rfl
theorem MgI_reg(id:Nat)(l:List Oper):MgI P nt F (n+1) (.code (.region id ⟨l⟩ false)) st k=VSeq P nt ⟨l⟩ 0 st (fun st'=>MgI P nt F n .nrm st' k):=rfl
theorem MgI_drw(id:Nat)(l:List Oper):MgI P nt F (n+1) (.code (.region id ⟨l⟩ true)) st k=(P.follows .mixedOrders=true∧wpD P nt ⟨l⟩ l st [] (fun recs st'=>DrawH ⟨l⟩ st recs .mk .mk .mk∧MgI P nt F n .nrm st' k)):=rfl
theorem MgI_cond(c:Operand)(x y:Code):MgI P nt F (n+1) (.code (.cond c x y)) st k=boolOf (ev P st 0 c) fun b=>CondH b (MgI P nt F n (.code x) st k) (MgI P nt F n (.code y) st k) .mk .mk:=rfl
theorem MgI_n0:MgI P nt F (n+1) .nrm st []=F st:=rfl
theorem MgI_nsq(y:Code):MgI P nt F (n+1) .nrm st (.sq y::k)=MgI P nt F n (.code y) st k:=rfl
theorem MgI_nbl(id:Nat):MgI P nt F (n+1) .nrm st (.bl id::k)=MgI P nt F n .nrm st k:=rfl
theorem MgI_xsq(id:Nat)(y:Code):MgI P nt F (n+1) (.ex id) st (.sq y::k)=MgI P nt F n (.ex id) st k:=rfl
theorem MgI_xbl(id:Nat):MgI P nt F (n+1) (.ex id) st (.bl id::k)=MgI P nt F n .nrm st k:=by simp[MgI]
theorem MgI_xbm(id id':Nat)(h:(id==id')=false):MgI P nt F (n+1) (.ex id) st (.bl id'::k)=MgI P nt F n (.ex id) st k:=by
 have:id≠id':=by simpa using h
 simp[MgI,this]
theorem MgI_xrd(id:Nat)(φ:St→Prop):MgI P nt F (n+1) (.ex id) st (.rd φ::k)=MgI P nt F n (.ex id) st k:=rfl
theorem MgI_r0:MgI P nt F (n+1) .rt st []=F st:=rfl
theorem MgI_rc(f:Fr):MgI P nt F (n+1) .rt st (f::k)=MgI P nt F n .rt st k:=rfl
theorem MgI.whileN{c:Code}{ρ σ:Type}{f:σ→Option (Flow ρ σ)}{s0:σ}{ψ:ρ ⊕ σ→Prop}(h:Run (lim fun m=>Av.whileN f m s0) ψ)(S:σ→List (Nat×SlotV))(O:σ→List (Nat×(Nat×List PV)))
 (h0:st.le ⟨mkS (S s0),mkO (O s0)⟩)
 (round:∀ m s,Run (f s) (stepP (Av.whileN f m) ψ)→MgI P nt F n (.code c) ⟨mkS (S s),mkO (O s)⟩ (.rd (fun st'=>∃ s',Run (Av.whileN f m s') ψ∧st'.le ⟨mkS (S s'),mkO (O s')⟩)::k)):MgI P nt F (n+1) (.code (.loop c)) st k:=by
 show VC P nt (.loop c) st (popQ P nt F k)
 obtain⟨n0,h⟩:=run_lim h
 refine VC.loop (α:=Nat×σ) (fun x=>⟨mkS (S x.2),mkO (O x.2)⟩) (fun x=>Run (Av.whileN f x.1 x.2) ψ) (fun x=>x.1) (n0,s0) h h0 ?_
 rintro ⟨i,s⟩ h2
 simp only at h2 ⊢
 obtain⟨i',rfl,h3⟩:=run_while h2
 refine VC.mono (MgI.sound n _ _ _ (round i' s h3)) ?_
 intro ex st' hq
 cases ex with
 | normal=>obtain⟨s',g1,g2⟩:=hq; exact⟨(i',s'),g1,by simp only; omega,g2⟩
 | _=>exact hq
theorem SatIO.of_mi{n:Nat}{f:FuncId}{fn:Func}{c:Code}{args args':List PV}{res:PV}{rs:List ResultVar}(hf:P.funcs[f]?=some fn)(hname:(fn.name== "runtime.NumGoroutine")=false)(hb:fn.body=some c)
 (hnt:fn.ntmps=nt) (hrs:fn.results.toList=rs) (hle:args.length≤nt) (h:MgI P nt (fun st=>FinIO P st rs res (explodes args 10000).1 args') n (.code c) (argIO args) []):SatIO P f args args' res:=
 SatIO.of_body hf hname hb hnt hrs hle (MgI.sound n _ _ _ h)
theorem MgI_nrdH(φ:St→Prop):MgI P nt F (n+1) .nrm st (.rd φ::k)=RdH φ st .mk:=rfl
end
/-! ### What was one's own, looked at only from here on -/
section
variable{st:St}
theorem St.le_dem(j c sz:Nat)(es:List PV)(v':SlotV)(hc:st.o c=some (sz,es))(hb:isBox v'=isBox (st.s j))(h:∀ N w G v,RepC N w (.sl false sz (PV.views es)) [G.hd c] []→SlotOk N w G j v (st.s j)→SlotOk N w G j v v'):st.le ⟨upd st.s j v',upd st.o c none⟩:=by
 rintro κ a w ⟨G,hG⟩
 have hbx:∀ r,isBox ((⟨upd st.s j v',upd st.o c none⟩:St).s r)=isBox (st.s r):=by
  intro r
  simp only[upd]
  split
  ·rename_i e; subst e; exact hb
  ·rfl
 have ho:∀ m p,(⟨upd st.s j v',upd st.o c none⟩:St).o m=some p→m≠c∧st.o m=some p:=by
  intro m p hp
  simp only[upd] at hp
  split at hp
  ·cases hp
  ·rename_i e; exact⟨e,hp⟩
 have hP:∀ b,Nof κ st G w b→Nof κ ⟨upd st.s j v',upd st.o c none⟩ G w b:=by
  intro b hb
  refine⟨hb.1,fun hp=>hb.2 ?_⟩
  rcases hp with⟨r,h1,h2⟩ | ⟨m,p,h1,h2⟩
  ·exact .inl ⟨r,by rw[← hbx]; exact h1,h2⟩
  ·exact .inr ⟨m,p,(ho m p h1).2,h2⟩
 obtain⟨k1,k2,k3⟩:=hG.objs c sz es hc
 have hfp:∀ b∈G.fp c,Nof κ ⟨upd st.s j v',upd st.o c none⟩ G w b:=by
  intro b hb
  refine⟨.inr (k3 b hb),?_⟩
  rintro (⟨r,h1,h2⟩ | ⟨m,p,h1,h2⟩)
  ·rw[hbx] at h1; exact hG.bo r c _ h1 hc (h2▸hb)
  ·obtain⟨e,h3⟩:=ho m p h1
   exact hG.oo m c p _ h3 hc e b h2 hb
 have hdem:=RepC.demote hP _ _ _ hfp k1
 simp only[PV.view] at hdem
 refine⟨G,hG.keep,hG.defers,hG.nt,?_,?_,fun r hr=>hG.boxes r (by rw[← hbx]; exact hr),fun r r' h1 h2=>hG.bb r r' (by rw[← hbx]; exact h1) (by rw[← hbx]; exact h2),?_,?_,hG.held⟩
 ·intro i
  have h1:=(hG.slots i).frame (G':=G) hP (fun _ _=>rfl) (fun _ _=>rfl) (fun _ _=>rfl) (fun _=>⟨rfl,rfl⟩)
  simp only[upd]
  split
  ·rename_i e; subst e; exact h _ _ _ _ hdem h1
  ·exact h1
 ·intro m sz' es' hm
  obtain⟨e,h3⟩:=ho m _ hm
  obtain⟨h1,h2,h4⟩:=hG.objs m sz' es' h3
  exact⟨RepC.frame hP (fun _ _=>rfl) _ _ _ (fun _ _=>rfl) h1,h2,h4⟩
 ·intro r m p h1 h2
  exact hG.bo r m p (by rw[← hbx]; exact h1) (ho m p h2).2
 ·intro m m' p p' h1 h2 hne
  exact hG.oo m m' p p' (ho m p h1).2 (ho m' p' h2).2 hne
theorem St.le_demB{x:CV}{sz:Nat}{es:List PV}(j:Nat)(p:List Nat)(c:Nat)(hk:st.s j=.box x∧x.okp p=true∧x.at p=.own c∧st.o c=some (sz,es)):st.le ⟨upd st.s j (.box (x.setAt p (.pv (.sl false sz (PV.views es))))),upd st.o c none⟩:=by
 obtain⟨h1,h2,h3,h4⟩:=hk
 refine St.le_dem j c sz es _ h4 (by rw[h1]; rfl) fun N w G v hd h=>?_
 rw[h1] at h
 exact(slot_turn (z:=.pv (.sl false sz (PV.views es))) h2 h3 (fun cs hcs=>by simp only[RepCV] at hcs ⊢; rw[hcs.1]; exact hd) rfl).1 h
theorem St.le_demV{x:CV}{sz:Nat}{es:List PV}(j:Nat)(p:List Nat)(c:Nat)(hk:st.s j=.val x∧x.okp p=true∧x.at p=.own c∧st.o c=some (sz,es)):st.le ⟨upd st.s j (.val (x.setAt p (.pv (.sl false sz (PV.views es))))),upd st.o c none⟩:=by
 obtain⟨h1,h2,h3,h4⟩:=hk
 refine St.le_dem j c sz es _ h4 (by rw[h1]; rfl) fun N w G v hd h=>?_
 rw[h1] at h
 exact(slot_turn (z:=.pv (.sl false sz (PV.views es))) h2 h3 (fun cs hcs=>by simp only[RepCV] at hcs ⊢; rw[hcs.1]; exact hd) rfl).2 h
end
theorem St.le_frz{st:St}{x:CV}(j:Nat)(hk:st.s j=.box x∧x.pure=true):st.le ⟨upd st.s j (.val (.pv (.ptr (x.pvw st.o)))),st.o⟩:=by
 rintro κ a w ⟨G,hG⟩
 exact⟨G,R.freeze hG hk.1 hk.2⟩
/-! ### nil -/
theorem NilH.mk{es:List PV}{t:Bool}{K:Bool→Prop}(h1:es=[]→K t)(h2:K (!t)):boolOf (nilV t es) K:=by
 cases es with
 | cons p es=>exact h2
 | nil=>
  rintro v ⟨b,rfl,hb⟩
  refine⟨b,rfl,?_⟩
  by_cases e:b=t
  ·subst e; exact h1 rfl
  ·have:b=!t:=by cases b<;>cases t<;>simp at e ⊢
   rw[this]; exact h2
theorem app_nn{α:Type}:app ([]:List α) []=some []:=rfl
theorem clean_pv(v:PV):(CV.pv v).clean=v.noOwn:=rfl
theorem clean_own(c:Nat):(CV.own c).clean=true:=rfl
theorem clean_node(fs:List CV):(CV.node fs).clean=CV.cleans fs:=rfl
theorem cleans_nil:CV.cleans []=true:=rfl
theorem cleans_cons(x:CV)(xs:List CV):CV.cleans (x::xs)=(x.clean&&CV.cleans xs):=rfl
theorem contains_c{a b:Nat}{l:List Nat}:(a::l).contains b=(b==a||l.contains b):=List.contains_cons
def RI:=ae @MgI_seq<|ae @MgI_skip<|ae @MgI_exit<|ae @MgI_ret<|ae @MgI_block<|ae @MgI_reg<|ae @MgI_drw<|ae @MgI_cond<|ae @MgI_n0<|ae @MgI_nsq<|ae @MgI_nbl<|ae @MgI_nrdH<|ae @MgI_xsq<|ae @MgI_xbl<|ae @MgI_xbm<|ae @MgI_xrd<|ae @MgI_r0<|ae @MgI_rc<|@stepV_some
attribute [push_cast] argIO_eq clean_pv clean_own clean_node cleans_nil cleans_cons contains_c
/-! ### A call that hands on nil itself -/
end
section
theorem RepV.demote{N N':Nat→Prop}{w:World}(hN:∀ b,N b→N' b){p:PV}{v:Value}{F:List Nat}(hF:∀ b∈F,N' b)(h:RepV N w p v F):RepV N' w p.view v []:=by
 cases p with
 | agg fs=>obtain⟨cs,rfl,h⟩:=h; exact⟨cs,rfl,RepCs.demote hN fs cs F hF h⟩
 | lit u=>exact RepC.demote hN _ _ _ hF h
 | sl o sz es=>exact RepC.demote hN _ _ _ hF h
 | clo f cs=>exact RepC.demote hN _ _ _ hF h
 | ptr u=>exact RepC.demote hN _ _ _ hF h
 | mpv ks vs ck=>exact RepC.demote hN _ _ _ hF h
 | tup vs=>exact RepC.demote hN _ _ _ hF h
theorem RepVs.demote{N N':Nat→Prop}{w:World}(hN:∀ b,N b→N' b):∀ {ps:List PV} {vs:List Value} {F:List Nat},(∀ b∈F,N' b)→RepVs N w ps vs F→RepVs N' w (PV.views ps) vs []
 | [],vs,F,hF,h=>by simp only[RepVs,PV.views] at h ⊢; exact⟨h.1,trivial⟩
 | p::ps,vs,F,hF,h=>by
  simp only[RepVs,PV.views] at h ⊢
  obtain⟨v,vs',F1,F2,rfl,rfl,h3,h4⟩:=h
  exact⟨v,vs',[],[],rfl,rfl,h3.demote hN (fun b hb=>hF b (by simp[hb])),RepVs.demote hN (fun b hb=>hF b (by simp[hb])) h4⟩
theorem RepR.demote{N N':Nat→Prop}{w:World}(hN:∀ b,N b→N' b){p:PV}{v:Value}{F:List Nat}(hF:∀ b∈F,N' b)(h:RepR N w p v F):RepR N' w p.view v []:=by
 cases p with
 | tup ps=>obtain⟨vs,h1,h2⟩:=h; exact⟨vs,h1,h2.demote hN hF⟩
 | lit u=>exact RepV.demote (w:=w) (p:=.lit u) hN hF h
 | agg fs=>exact RepV.demote (w:=w) (p:=.agg fs) hN hF h
 | sl o sz es=>exact RepV.demote (w:=w) (p:=.sl o sz es) hN hF h
 | clo f cs=>exact RepV.demote (w:=w) (p:=.clo f cs) hN hF h
 | ptr u=>exact RepV.demote (w:=w) (p:=.ptr u) hN hF h
 | mpv ks vs ck=>exact RepV.demote (w:=w) (p:=.mpv ks vs ck) hN hF h
theorem Sat.vw{P:Program}{f:FuncId}{args:List PV}{res:PV}(h:Sat P f args res):Sat P f args res.view:=by
 refine⟨h.1,fun w N vs Fs hN hFn hFl hvs=>(h.2 w N vs Fs hN hFn hFl hvs).mono ?_⟩
 rintro e w' ⟨v,F,rfl,hk,hr,hFn',hF⟩
 refine⟨v,[],rfl,hk,hr.demote (fun b hb=>?_) (fun b hb=>.inr ⟨(hF b hb).1,(hF b hb).2,by simp⟩),List.nodup_nil,by simp⟩
 rcases hb with hb | hb
 ·exact .inl hb
 ·exact .inr ⟨hb.1,hb.2.1,by simp⟩
/-! ### A list that is given up in the middle of a region -/
/-! ### The names of the end, from the end's side -/
def rnS(c c':Nat):List (Nat×SlotV)→List (Nat×SlotV)
 | []=>[]
 | (j,v)::l=>(j,v.ren c c')::rnS c c' l
def rnO(c c':Nat):List (Nat×(Nat×List PV))→List (Nat×(Nat×List PV))
 | []=>[]
 | (j,v)::l=>(bif j==c then c' else j,v)::rnO c c' l
@[push_cast] theorem rnS_n (c c':Nat):rnS c c' []=[]:=rfl
@[push_cast] theorem rnS_c (c c' j:Nat) (v:SlotV) (l:List (Nat×SlotV)):rnS c c' ((j,v)::l)=(j,v.ren c c')::rnS c c' l:=rfl
@[push_cast] theorem rnO_n (c c':Nat):rnO c c' []=[]:=rfl
@[push_cast] theorem rnO_c (c c' j:Nat) (v:Nat×List PV) (l:List (Nat×(Nat×List PV))):rnO c c' ((j,v)::l)=(bif j==c then c' else j,v)::rnO c c' l:=rfl
theorem St.le_rt{a:St}{T T':List (Nat×SlotV)}{U U':List (Nat×(Nat×List PV))}(c c':Nat)(h:a.le ⟨mkS T',mkO U'⟩)(hne:c≠c':=by decide)(hT:rnS c' c T=T':=by simp only[push_cast]; rfl)(hU:rnO c' c U=U':=by simp only[push_cast,Nat.reduceBEq,cond_true,cond_false]; rfl)
 (hn:(⟨mkS T',mkO U'⟩:St).noC c':=by exact NM) (hb:(St.ren ⟨mkS T',mkO U'⟩ c c').le ⟨mkS T,mkO U⟩:=by exact St.le_mk2 SC):a.le ⟨mkS T,mkO U⟩:=St.le_rn c c' hne hn hb |> fun h2=>St.le_trans h h2
/-! ### Ways that meet at a loop -/
/-! ### nil, exactly -/
/-- The end of a body, its last state seen in a weaker form. -/
def FinN(P:Program)(st:St)(rs:List ResultVar)(res:PV):Prop:=∃ st':St,st.le st'∧FinH P st' rs res
@[congr] theorem FinN.cg {P:Program} {st st':St} {rs:List ResultVar} {res:PV} (h:∀ _:Unit,st=st'):FinN P st rs res=FinN P st' rs res:=by rw[h ()]
theorem FinN.mk{P:Program}{st:St}{rs:List ResultVar}{res:PV}(h:FinH P st rs res):FinN P st rs res:=⟨st,St.le_refl _,h⟩
/-- An empty own slice in a slot is nil. -/
theorem FinN.nil{P:Program}{st:St}{rs:List ResultVar}{res:PV}(j sz:Nat)(hj:st.s j=.val (.pv (.sl true sz [])))(h:FinH P ⟨upd st.s j (.val (.pv (.lit (.slice none 0 0)))),st.o⟩ rs res):FinN P st rs res:=by
 refine⟨_,St.le_slot j _ (by rw[hj]; rfl) fun N w G v hv=>?_,h⟩
 rw[hj] at hv
 rw[slot_nil hv]
 exact slotOk_lit rfl
theorem view_tup(vs:List PV):(PV.tup vs).view=.tup (PV.views vs):=rfl
theorem Sat.vwOf{P:Program}{f:FuncId}{args:List PV}{res res':PV}(h:Sat P f args res)(e:res.view=res'):Sat P f args res':=e▸h.vw
/-! ### Arrays -/
section
variable{P:Program}{nt:Nat}{st:St}
theorem idxK_arrH(T:TypeId)(x y:Operand)(K:List Nat→List Nat→SlotV→Prop)(r:Nat)(p:List Nat)(off:Nat)(k:IntKind)(n:Int):idxK P st T x y K (.bptr r p off) (.val (.pv (.lit (.int k n))))=ArrH P T n (fun k sz=>K (rd x++rd y) [] (.bptr r (p++[k]) (off+k*sz))) .mk:=rfl
theorem slcO_arr(d T:Nat)(rs:List Nat)(lo hi:Option Operand)(K:Rec→Prop)(r:Nat)(p:List Nat)(off:Nat):slcO P nt st d T rs lo hi K (.bptr r p off)=(d<nt∧slcArr P st T d rs lo hi K r p off (st.s r)):=rfl
theorem slcArr_box(T d:Nat)(rs:List Nat)(lo hi:Option Operand)(K:Rec→Prop)(r:Nat)(p:List Nat)(off:Nat)(c:CV):slcArr P st T d rs lo hi K r p off (.box c)=ArrSlH P T lo hi p off c.pure (c.pvw st.o) (fun sz es=>(r==d)=false∧K { rs:=r::rs,ro:=c.names,us:=[(r,.val (.pv (.ptr (.agg es)))),(d,.val (.pv (.sl false sz es)))] }) .mk:=rfl
theorem ArrSlH.mk{T m sz:Nat}{b:Bool}{v:PV}{es:List PV}{K:Nat→List PV→Prop}(hT:ArrIs P T m sz)(hm:m≤maxLen)(h:b=true∧v=.agg es∧es.length=m)(hs:∀ e∈es,PV.size e=sz)(hK:K sz es):ArrSlH P T none none [] 0 b v K .mk:=
 ⟨rfl,rfl,rfl,rfl,h.1,m,sz,es,hT,h.2.1,h.2.2,hs,hm,hK⟩
/-! ### Builtin copy -/
def CopyH(P:Program)(nt:Nat)(st:St)(o:Oper)(K:Rec→Prop)(_:Tok K):Prop:=RecOk P nt st o K
theorem callK_copy(o:Oper)(x y:Operand)(T T':TypeId)(K:Rec→Prop):callK P nt st o { callee:=.builtin .copy,args:=#[x,y],argTypes:=#[T,T'] } K=CopyH P nt st o K .mk:=rfl
theorem noOwns_map{α:Type}{f:α→PV}(hf:∀ a,(f a).noOwn=true):∀ xs:List α,PV.noOwns (xs.map f)=true
 | []=>rfl
 | x::xs=>by simp only[aF,PV.noOwns,hf x,noOwns_map hf xs,Bool.and_self]
theorem CopyH.view{α:Type}{f:α→PV}{o:Oper}{d c sz bytes:Nat}{x y:Operand}{T T':TypeId}{xs ys:List α}{es zs:List PV}{K:Rec→Prop}(hf:∀ a,(f a).noOwn=true)(hop:o.op=.call { callee:=.builtin .copy,args:=#[x,y],argTypes:=#[T,T'] })(hdst:o.dst=some d)(hd:d<nt)
 (hT:SlIs P T sz bytes) (hx:ev P st T x=.val (.own c)) (hc:st.o c=some (sz,es)) (hy:ev P st T' y=.val (.pv (.sl false sz zs))) (he:es=xs.map f) (hz:zs=ys.map f)
 (hK:K { rs:=rd x++rd y,ro:=[c],us:=[(d,.val (.pv (.lit (.int .i64 (min (ys.length:Int) (xs.length:Int))))))],uo:=[(c,some (sz,(ys.take xs.length++xs.drop ys.length).map f))] }):CopyH P nt st o K .mk:=by
 subst he; subst hz
 refine⟨_,valid_copy_view hop hdst hd hT hx hc hy (noOwns_map hf xs),fresh_none rfl rfl,?_⟩
 have e:((min (ys.map f).length (xs.map f).length:Nat):Int)=min (ys.length:Int) (xs.length:Int):=by simp only[List.length_map]; omega
 rw[e]
 simpa[List.map_append,List.map_take,List.map_drop] using hK
theorem ptrOf_fn(k:Nat)(cs rs:List Nat)(ps:List PV)(f:List Value→List Nat→List Value→Value):ptrOf k (.fn cs rs ps f)=.fn cs rs ps f:=rfl
section
variable{P:Program}{nt:Nat}
/-- A list that is built and at once a view. -/
def bslV(P:Program)(st:St)(d T:Nat)(rs:List Nat)(K:Rec→Prop)(es:List PV)(cvs:List CV):Prop:=
 aB st.o cvs=true∧(∀ x∈cvs,x.size=eSize P T)∧(av cvs).Nodup∧st.noC (16*d)∧PV.views (aD st.o cvs)=es∧
  K { rs:=rs,ro:=av cvs,fc:=[16*d],us:=[(d,.val (.pv (.sl false (eSize P T) es)))],uo:=deadObjs (av cvs) }
@[congr] theorem bslV.cg {st:St} {d T:Nat} {rs:List Nat} {K:Rec→Prop} {es:List PV} {c c':List CV} (h:∀ _:Unit,c=c'):bslV P st d T rs K es c=bslV P st d T rs K es c':=by rw[h ()]
theorem bslV_cons(st:St)(d T:Nat)(rs:List Nat)(K:Rec→Prop)(es:List PV)(c:CV)(cvs:List CV):bslV P st d T rs K es (c::cvs)=(aB st.o (c::cvs)=true∧(∀ x∈c::cvs,x.size=eSize P T)∧(av (c::cvs)).Nodup∧st.noC (16*d)∧PV.views (aD st.o (c::cvs))=es∧
 K { rs:=rs,ro:=av (c::cvs),fc:=[16*d],us:=[(d,.val (.pv (.sl false (eSize P T) es)))],uo:=deadObjs (av (c::cvs)) }):=rfl
theorem bslV_nil(st:St)(d T:Nat)(rs:List Nat)(K:Rec→Prop)(es:List PV):bslV P st d T rs K es ([]:List CV)=(aB st.o ([]:List CV)=true∧(∀ x∈([]:List CV),x.size=eSize P T)∧(av ([]:List CV)).Nodup∧st.noC (16*d)∧PV.views (aD st.o ([]:List CV))=es∧
 K { rs:=rs,ro:=av ([]:List CV),fc:=[16*d],us:=[(d,.val (.pv (.sl false (eSize P T) es)))],uo:=deadObjs (av ([]:List CV)) }):=rfl
end
theorem isIntB_int(k:IntKind):isIntB (some (.int k))=true:=rfl
theorem vws_nil:PV.views []=[]:=rfl
theorem vws_cons(p:PV)(ps:List PV):PV.views (p::ps)=p.view::PV.views ps:=rfl
def RX:=ae @idxK_arrH<|ae @slcO_arr<|ae @slcArr_box<|ae @callK_copy<|ae @binKK_nilT<|ae @binKK_nilL<|ae @nilX_eql<|ae @nilX_neq<|ae @nilV_c<|@ptrOf_fn
attribute [push_cast] isIntB_int bslV_cons bslV_nil vws_nil vws_cons view_sl view_agg view_lit view_tup idxK_arrH slcO_arr slcArr_box callK_copy ptrOf_fn
end
end
section
def byt(s:ByteArray)(i:Nat):Int:=((s.data.toList.getD i 0).toNat:Int)
theorem sidx_nat{s:ByteArray}{i:Nat}(h:i<s.size):sidx s (i:Int)=some (byt s i):=by
 unfold sidx byt
 rw[if_pos (by omega)]; simp
theorem sidx0{s:ByteArray}(h:0<s.size):sidx s 0=some (byt s 0):=sidx_nat (i:=0) h
theorem bnd_nat{n:Nat}(h:Big n):bnd (n:Int)=some n:=by
 unfold bnd
 simp only[Big] at h
 rw[if_pos (by omega)]; simp
theorem bytesLess_irrefl:∀ a:List UInt8,Op.bytesLess a a=false
 | []=>rfl
 | x::a=>by simp[Op.bytesLess,bytesLess_irrefl a]
theorem bytesLess_asymm:∀ {a b:List UInt8},Op.bytesLess a b=true→Op.bytesLess b a=false
 | _,[],h=>by simp[Op.bytesLess] at h
 | [],_::_,_=>rfl
 | x::a,y::b,h=>by
  simp only[Op.bytesLess,Bool.or_eq_true,decide_eq_true_eq,aw,beq_iff_eq] at h
  simp only[Op.bytesLess,Bool.or_eq_false_iff,decide_eq_false_iff_not,Bool.and_eq_false_iff]
  rcases h with h | ⟨rfl,h⟩
  ·refine⟨fun g=>?_,.inl ?_⟩
   ·exact absurd (UInt8.lt_trans h g) (UInt8.lt_irrefl _)
   ·simp only[beq_eq_false_iff_ne]; rintro rfl; exact absurd h (UInt8.lt_irrefl _)
  ·exact⟨UInt8.lt_irrefl _,.inr (bytesLess_asymm h)⟩
theorem bytesLess_total:∀ {a b:List UInt8},Op.bytesLess a b=false→Op.bytesLess b a=false→a=b
 | [],[],_,_=>rfl
 | [],_::_,h,_=>by simp[Op.bytesLess] at h
 | _::_,[],_,h=>by simp[Op.bytesLess] at h
 | x::a,y::b,h,h'=>by
  simp only[Op.bytesLess,Bool.or_eq_false_iff,decide_eq_false_iff_not,Bool.and_eq_false_iff,beq_eq_false_iff_ne] at h h'
  have e:x=y:=by
   rcases Nat.lt_trichotomy x.toNat y.toNat with g | g | g
   ·exact absurd (UInt8.lt_iff_toNat_lt.2 g) h.1
   ·exact UInt8.toNat_inj.1 g
   ·exact absurd (UInt8.lt_iff_toNat_lt.2 g) h'.1
  subst e
  have:=bytesLess_total (a:=a) (b:=b) (by simpa using h.2) (by simpa using h'.2)
  rw[this]
theorem bytesLess_trans:∀ {a b c:List UInt8},Op.bytesLess a b=true→Op.bytesLess b c=true→Op.bytesLess a c=true
 | _,[],_,h,_=>by simp[Op.bytesLess] at h
 | _,_::_,[],_,h=>by simp[Op.bytesLess] at h
 | [],_::_,_::_,_,_=>rfl
 | x::a,y::b,z::c,h,h'=>by
  simp only[Op.bytesLess,Bool.or_eq_true,decide_eq_true_eq,aw,beq_iff_eq] at h h' ⊢
  rcases h with h | ⟨rfl,h⟩
  ·rcases h' with h' | ⟨rfl,h'⟩
   ·exact .inl (UInt8.lt_trans h h')
   ·exact .inl h
  ·rcases h' with h' | ⟨rfl,h'⟩
   ·exact .inl h'
   ·exact .inr ⟨rfl,bytesLess_trans h h'⟩
def slt(a b:ByteArray):Bool:=Op.bytesLess a.data.toList b.data.toList
theorem ba_ext{a b:ByteArray}(h:a.data.toList=b.data.toList):a=b:=by
 cases a; cases b; simp at h; simpa using h
theorem szR_ok{t:Nat}(e:¬ szR t 1048576<0):t≤1048576:=by
 have:=mt (szR_neg (t:=t) (l:=1048576) (by omega)).2 e
 simp only[Classical.not_not] at this; omega
/-- The first place where a test holds. -/
theorem forN_find{p:Nat→Bool}{f:Nat→Unit→Option (Flow Int Unit)}{n:Nat}(h:∀ j,j<n→f j ()=some (bif p j then .rt (j:Int) else .nx ())):
 ∃ r:Int,thenL (forN f n 0 ()) (fun _=>some (-1))=some r∧decide (0≤r)=(List.range n).any p:=by
 have key:∀ (m i:Nat),i+m=n→(∀ j,j<i→p j=false)→∃ r:Int,thenL (forN f m i ()) (fun _=>some (-1))=some r∧decide (0≤r)=(List.range n).any p:=by
  intro m
  induction m with
  | zero=>
   intro i hi hp
   refine⟨-1,rfl,?_⟩
   have:(List.range n).any p=false:=List.any_eq_false.2 (fun x hx=>by rw[hp x (by simp at hx; omega)]; simp)
   rw[this]; rfl
  | succ m ih=>
   intro i hi hp
   have h0:=h i (by omega)
   by_cases e:p i=true
   ·refine⟨i,by rw[forN_rt (r:=(i:Int)) (by rw[h0,e]; rfl),thenL_inl],?_⟩
    have:(List.range n).any p=true:=List.any_eq_true.2 ⟨i,by simp; omega,e⟩
    rw[this]; simp
   ·have e1:p i=false:=by simpa using e
    rw[forN_nx (s':=()) (by rw[h0,e1]; rfl)]
    exact ih (i+1) (by omega) (fun j hj=>(Nat.lt_or_ge j i).elim (hp j) (fun g=>by rw[show j=i by omega]; exact e1))
 exact key n 0 (by omega) (fun j hj=>by omega)
theorem range_any_list{α:Type}[Inhabited α](xs:List α)(p:α→Bool):(List.range xs.length).any (fun i=>p (xs.getD i default))=xs.any p:=by
 have:=range_all_list xs (fun x=>!p x)
 rw[List.all_eq_not_any_not,List.all_eq_not_any_not] at this
 simpa using this
/-- A loop that answers at the first place where a test fails, from a later place on. -/
theorem forN_all1{ρ:Type}(c:Nat→Bool){f:Nat→Unit→Option (Flow ρ Unit)}{r0:ρ}{n:Nat}{k:Unit→Option ρ}(hn:0<n)(h0:c 0=true)(h:∀ j,0<j→j<n→(∀ k,k<j→c k=true)→f j ()=some (bif c j then .nx () else .rt r0)):
 thenL (forN f (n-1) 1 ()) k=bif (List.range n).all c then k () else some r0:=by
 have key:∀ (m i:Nat),0<i→(∀ j,j<i→c j=true)→i+m=n→forN f m i ()=some (bif (List.range n).all c then .inr () else .inl r0):=by
  intro m
  induction m with
  | zero=>
   intro i _ hc hi
   have:(List.range n).all c=true:=List.all_eq_true.2 (fun x hx=>hc x (by simp at hx; omega))
   rw[this]; rfl
  | succ m ih=>
   intro i hi0 hc hi
   have g:=h i hi0 (by omega) hc
   by_cases e:c i=true
   ·rw[forN_nx (s':=()) (by rw[g,e]; rfl)]
    exact ih (i+1) (by omega) (fun j hj=>(Nat.lt_or_ge j i).elim (hc j) (fun g=>by rw[show j=i by omega]; exact e)) (by omega)
   ·have e1:c i=false:=by simpa using e
    rw[forN_rt (r:=r0) (by rw[g,e1]; rfl)]
    have:(List.range n).all c=false:=List.all_eq_false.2 ⟨i,by simp; omega,by simp[e1]⟩
    rw[this]; rfl
 rw[key (n-1) 1 (by omega) (fun j hj=>by rw[show j=0 by omega]; exact h0) (by omega)]
 cases (List.range n).all c<;>rfl
end
section
end
section
theorem find_list{α:Type}[Inhabited α]{f:α→Option Bool}{p:α→Bool}(xs:List α)(h:∀ x∈xs,f x=some (p x)):
 (thenL (forN (fun (i:Nat) (_:Unit)=>(idx xs (i:Int)).bind fun v=>(f v).bind fun b=>bif b then some (.rt (i:Int)) else some (.nx ())) xs.length 0 ()) fun _=>some (-1)).bind (fun r=>some (decide ((0:Int)≤r)))=some (xs.any p):=by
 obtain⟨r,h1,h2⟩:=forN_find (n:=xs.length) (p:=fun i=>p (xs.getD i default)) (f:=fun (i:Nat) (_:Unit)=>(idx xs (i:Int)).bind fun v=>(f v).bind fun b=>bif b then some (.rt (i:Int)) else some (.nx ())) (fun j hj=>by
  simp only[idx_getD hj,ap,h _ (getD_mem hj)]
  cases p (xs.getD j default)<;>rfl)
 rw[h1,ap,h2,range_any_list]
end
section
theorem le_sum_mem{α:Type}(f:α→Nat){l:List α}{a:α}(h:a∈l):f a≤(l.map f).sum:=by
 induction l with
 | nil=>cases h
 | cons b l ih=>
  simp only[aF,bw]
  rcases List.mem_cons.1 h with rfl | h
  ·omega
  ·have:=ih h; omega
open Classical in
theorem mem_choice{α β:Type}[Inhabited β]{l:List α}{P:α→β→Prop}(h:∀ a∈l,∃ b,P a b):∃ R:α→β,∀ a∈l,P a (R a):=by
 refine⟨fun a=>if ha:a∈l then Classical.choose (h a ha) else default,fun a ha=>?_⟩
 simp only[ha,dif_pos]
 exact Classical.choose_spec (h a ha)
end
section
theorem whileN_nx{ρ σ:Type}{f:σ→Option (Flow ρ σ)}{n:Nat}{s s':σ}(h:f s=some (.nx s')):whileN f (n+1) s=whileN f n s':=by simp[whileN,h]
theorem whileN_br{ρ σ:Type}{f:σ→Option (Flow ρ σ)}{n:Nat}{s s':σ}(h:f s=some (.br s')):whileN f (n+1) s=some (.inr s'):=by simp[whileN,h]
theorem whileN_rt{ρ σ:Type}{f:σ→Option (Flow ρ σ)}{n:Nat}{s:σ}{r:ρ}(h:f s=some (.rt r)):whileN f (n+1) s=some (.inl r):=by simp[whileN,h]
end
section
def lcn{α:Type}(c:α→Nat)(xs:List α):Nat:=(xs.map c).sum
theorem lcn_nil{α:Type}(c:α→Nat):lcn c []=0:=rfl
theorem lcn_cons{α:Type}(c:α→Nat)(x:α)(xs:List α):lcn c (x::xs)=c x+lcn c xs:=by simp[lcn]
theorem lcn_len{α:Type}{c:α→Nat}{xs:List α}(h:∀ x,1≤c x):xs.length≤lcn c xs:=by
 induction xs with
 | nil=>simp
 | cons x xs ih=>have:=h x; rw[lcn_cons,aG]; omega
def MH{α ι:Type}(P:ι→Prop)(mk:ι→List α→Int→Option (Int×List α))(hd:ι→List α→Int→Option Int)(xs:List α)(c:Nat):Prop:=
 ∀ k:Int,1≤k→k+c≤2305843009213693952→∃ ys,∀ p,P p→mk p xs k=some (k+c,ys)∧hd p ys k=some (k+c)
theorem ev_nx{ρ σ:Type}{f:σ→Option (Flow ρ σ)}{s s':σ}{r:ρ ⊕ σ}(h:f s=some (.nx s'))(h':Ev (fun n=>whileN f n s') r):Ev (fun n=>whileN f n s) r:=by
 obtain⟨N,hN⟩:=h'
 refine⟨N+1,fun n hn=>?_⟩
 cases n with
 | zero=>omega
 | succ n=>simp only[whileN,h,ap]; exact hN n (by omega)
theorem ev_br{ρ σ:Type}{f:σ→Option (Flow ρ σ)}{s s':σ}(h:f s=some (.br s')):Ev (fun n=>whileN f n s) (.inr s'):=by
 refine⟨1,fun n hn=>?_⟩
 cases n with
 | zero=>omega
 | succ n=>simp[whileN,h]
theorem idx_mid{α:Type}(pre:List α)(x:α)(rest:List α):idx (pre++x::rest) (pre.length:Int)=some x:=by
 rw[idx_nat]; simp
theorem set_mid{α:Type}(pre:List α)(x y:α)(rest:List α):(pre++x::rest).set (pre.length:Int).toNat y=pre++y::rest:=by
 rw[Int.toNat_natCast]; simp
theorem dec_mid{α:Type}(pre:List α)(x:α)(rest:List α):decide ((pre.length:Int)<((pre++x::rest).length:Int))=true:=by
 refine decide_eq_true ?_; simp; omega
theorem dec_end{n:Nat}:decide ((n:Int)<(n:Int))=false:=decide_eq_false (by omega)
theorem rem3(k:Int):rem k 3=some (k.tmod 3):=by simp[rem]
theorem mark_loop{α ρ ι:Type}{P:ι→Prop}{fm:ι→List α×Int×Int→Option (Flow ρ (List α×Int×Int))}{fh:ι→List α→Nat→Int→Option (Flow Int Int)}{cnt:α→Nat}
 (hend:∀ p (l:List α) (k:Int),fm p (l,k,(l.length:Int))=some (.br (l,k,(l.length:Int)))):
 ∀ (xs pre:List α) (k:Int),1≤k→k+lcn cnt xs≤2305843009213693952→pre.length+xs.length≤4611686018427387904→
 (∀ x∈xs,∀ k:Int,1≤k→k+cnt x≤2305843009213693952→∃ y,∀ p,P p→(∀ pre rest:List α,pre.length<4611686018427387904→fm p (pre++x::rest,k,(pre.length:Int))=some (.nx (pre++y::rest,k+cnt x,((pre.length+1:Nat):Int))))∧
  ∀ (ys:List α) (i:Nat),ys[i]?=some y→fh p ys i k=some (.nx (k+cnt x)))→
 ∃ ys,∀ p,P p→Ev (fun n=>whileN (fm p) n (pre++xs,k,(pre.length:Int))) (.inr (pre++ys,k+lcn cnt xs,((pre++ys).length:Int)))∧
  ∀ pre':List α,forN (fh p (pre'++ys)) ys.length pre'.length k=some (.inr (k+lcn cnt xs))
 | [],pre,k,_,_,_,_=>by
  refine⟨[],fun p _=>⟨?_,fun pre'=>by simp[forN,lcn]⟩⟩
  have:=ev_br (hend p pre k)
  simpa[lcn] using this
 | x::xs,pre,k,h0,h1,h2,hel=>by
  rw[lcn_cons] at h1
  obtain⟨y,g⟩:=hel x (by simp) k h0 (by omega)
  simp only[aG] at h2
  obtain⟨ys,e⟩:=mark_loop hend xs (pre++[y]) (k+cnt x) (by omega) (by omega) (by simp; omega) (fun z hz=>hel z (by simp[hz]))
  have e3:k+((lcn cnt (x::xs):Nat):Int)=k+cnt x+lcn cnt xs:=by rw[lcn_cons]; omega
  refine⟨y::ys,fun p hp=>⟨ev_nx ((g p hp).1 pre xs (by omega)) ?_,fun pre'=>?_⟩⟩
  ·rw[e3]
   simpa using (e p hp).1
  ·rw[aG,forN_nx ((g p hp).2 _ _ (by simp))]
   have:=(e p hp).2 (pre'++[y])
   rw[e3]
   simpa using this
theorem MH.of{α ι:Type}{P:ι→Prop}{mk:ι→List α→Int→Option (Int×List α)}{hd:ι→List α→Int→Option Int}{fm:ι→List α×Int×Int→Option (Flow (Int×List α) (List α×Int×Int))}{fh:ι→List α→Nat→Int→Option (Flow Int Int)}{cnt:α→Nat}{xs:List α}
 (hmk:∀ p,P p→∀ k,mk p xs k=thenL (lim fun n=>whileN (fm p) n (xs,k,0)) fun s=>some (s.2.1,s.1)) (hhd:∀ p,P p→∀ ys k,hd p ys k=thenL (forN (fh p ys) ys.length 0 k) fun s=>some s)
 (hend:∀ p (l:List α) (k:Int),fm p (l,k,(l.length:Int))=some (.br (l,k,(l.length:Int)))) (hlen:(lcn cnt xs:Int)≤2305843009213693952→xs.length≤4611686018427387904)
 (hel:∀ x∈xs,∀ k:Int,1≤k→k+cnt x≤2305843009213693952→∃ y,∀ p,P p→(∀ pre rest:List α,pre.length<4611686018427387904→fm p (pre++x::rest,k,(pre.length:Int))=some (.nx (pre++y::rest,k+cnt x,((pre.length+1:Nat):Int))))∧
  ∀ (ys:List α) (i:Nat),ys[i]?=some y→fh p ys i k=some (.nx (k+cnt x))):MH P mk hd xs (lcn cnt xs):=by
 intro k h0 h1
 obtain⟨ys,e⟩:=mark_loop hend xs [] k h0 h1 (by simpa using hlen (by omega)) hel
 refine⟨ys,fun p hp=>⟨?_,?_⟩⟩
 ·rw[hmk p hp,show((0:Int))=(([]:List α).length:Int) from rfl,show xs=[]++xs from rfl,lim_eq (e p hp).1]; rfl
 ·rw[hhd p hp]
  have:=(e p hp).2 []
  simp only[List.nil_append,List.length_nil] at this
  rw[this]; rfl
/-- With fuel: from some bound on. -/
theorem MH.lim{α:Type}{mk:Nat→List α→Int→Option (Int×List α)}{hd:Nat→List α→Int→Option Int}{xs:List α}{c N:Nat}(h:MH (fun n=>N≤n) mk hd xs c):MH (fun _:Unit=>True) (fun _ xs k=>Av.lim fun n=>mk n xs k) (fun _ xs k=>Av.lim fun n=>hd n xs k) xs c:=by
 intro k h0 h1
 obtain⟨ys,e⟩:=h k h0 h1
 exact⟨ys,fun _ _=>⟨lim_eq ⟨N,fun n hn=>(e n hn).1⟩,lim_eq ⟨N,fun n hn=>(e n hn).2⟩⟩⟩
theorem MH.sub{α ι:Type}{P Q:ι→Prop}{mk:ι→List α→Int→Option (Int×List α)}{hd:ι→List α→Int→Option Int}{xs:List α}{c:Nat}(h:MH P mk hd xs c)(hs:∀ p,Q p→P p):MH Q mk hd xs c:=by
 intro k h0 h1
 obtain⟨ys,e⟩:=h k h0 h1
 exact⟨ys,fun p hp=>e p (hs p hp)⟩
/-- Marks that nothing reads again. -/
def MK{α ι:Type}(P:ι→Prop)(mk:ι→List α→Int→Option (Int×List α))(xs:List α)(c:Nat):Prop:=
 ∀ k:Int,1≤k→k+c≤2305843009213693952→∃ ys,∀ p,P p→mk p xs k=some (k+c,ys)
theorem mark_loop1{α ρ ι:Type}{P:ι→Prop}{fm:ι→List α×Int×Int→Option (Flow ρ (List α×Int×Int))}{cnt:α→Nat}
 (hend:∀ p (l:List α) (k:Int),fm p (l,k,(l.length:Int))=some (.br (l,k,(l.length:Int)))):
 ∀ (xs pre:List α) (k:Int),1≤k→k+lcn cnt xs≤2305843009213693952→pre.length+xs.length≤4611686018427387904→
 (∀ x∈xs,∀ k:Int,1≤k→k+cnt x≤2305843009213693952→∃ y,∀ p,P p→∀ pre rest:List α,pre.length<4611686018427387904→fm p (pre++x::rest,k,(pre.length:Int))=some (.nx (pre++y::rest,k+cnt x,((pre.length+1:Nat):Int))))→
 ∃ ys,∀ p,P p→Ev (fun n=>whileN (fm p) n (pre++xs,k,(pre.length:Int))) (.inr (pre++ys,k+lcn cnt xs,((pre++ys).length:Int)))
 | [],pre,k,_,_,_,_=>by
  refine⟨[],fun p _=>?_⟩
  have:=ev_br (hend p pre k)
  simpa[lcn] using this
 | x::xs,pre,k,h0,h1,h2,hel=>by
  rw[lcn_cons] at h1
  obtain⟨y,g⟩:=hel x (by simp) k h0 (by omega)
  simp only[aG] at h2
  obtain⟨ys,e⟩:=mark_loop1 hend xs (pre++[y]) (k+cnt x) (by omega) (by omega) (by simp; omega) (fun z hz=>hel z (by simp[hz]))
  have e3:k+((lcn cnt (x::xs):Nat):Int)=k+cnt x+lcn cnt xs:=by rw[lcn_cons]; omega
  refine⟨y::ys,fun p hp=>ev_nx (g p hp pre xs (by omega)) ?_⟩
  rw[e3]
  simpa using e p hp
theorem MK.of{α ι:Type}{P:ι→Prop}{mk:ι→List α→Int→Option (Int×List α)}{fm:ι→List α×Int×Int→Option (Flow (Int×List α) (List α×Int×Int))}{cnt:α→Nat}{xs:List α}
 (hmk:∀ p,P p→∀ k,mk p xs k=thenL (lim fun n=>whileN (fm p) n (xs,k,0)) fun s=>some (s.2.1,s.1))
 (hend:∀ p (l:List α) (k:Int),fm p (l,k,(l.length:Int))=some (.br (l,k,(l.length:Int)))) (hlen:(lcn cnt xs:Int)≤2305843009213693952→xs.length≤4611686018427387904)
 (hel:∀ x∈xs,∀ k:Int,1≤k→k+cnt x≤2305843009213693952→∃ y,∀ p,P p→∀ pre rest:List α,pre.length<4611686018427387904→fm p (pre++x::rest,k,(pre.length:Int))=some (.nx (pre++y::rest,k+cnt x,((pre.length+1:Nat):Int)))):MK P mk xs (lcn cnt xs):=by
 intro k h0 h1
 obtain⟨ys,e⟩:=mark_loop1 hend xs [] k h0 h1 (by simpa using hlen (by omega)) hel
 refine⟨ys,fun p hp=>?_⟩
 rw[hmk p hp,show((0:Int))=(([]:List α).length:Int) from rfl,show xs=[]++xs from rfl,lim_eq (e p hp)]; rfl
theorem MK.lim{α:Type}{mk:Nat→List α→Int→Option (Int×List α)}{xs:List α}{c N:Nat}(h:MK (fun n=>N≤n) mk xs c):MK (fun _:Unit=>True) (fun _ xs k=>Av.lim fun n=>mk n xs k) xs c:=by
 intro k h0 h1
 obtain⟨ys,e⟩:=h k h0 h1
 exact⟨ys,fun _ _=>lim_eq ⟨N,fun n hn=>e n hn⟩⟩
theorem MK.sub{α ι:Type}{P Q:ι→Prop}{mk:ι→List α→Int→Option (Int×List α)}{xs:List α}{c:Nat}(h:MK P mk xs c)(hs:∀ p,Q p→P p):MK Q mk xs c:=by
 intro k h0 h1
 obtain⟨ys,e⟩:=h k h0 h1
 exact⟨ys,fun p hp=>e p (hs p hp)⟩
theorem MK.shift{α:Type}{mk:Nat→List α→Int→Option (Int×List α)}{xs:List α}{c N:Nat}(hN:0<N)(h:MK (fun m=>N≤m+1) (fun m=>mk (m+1)) xs c):MK (fun n=>N≤n) mk xs c:=by
 intro k h0 h1
 obtain⟨ys,e⟩:=h k h0 h1
 refine⟨ys,fun n hn=>?_⟩
 cases n with
 | zero=>omega
 | succ m=>exact e m hn
theorem MK.unit{α:Type}{mk:List α→Int→Option (Int×List α)}{xs:List α}{c:Nat}(h:MK (fun _:Unit=>True) (fun _=>mk) xs c){k:Int}(h0:1≤k)(h1:k+c≤2305843009213693952):∃ ys,mk xs k=some (k+c,ys):=by
 obtain⟨ys,e⟩:=h k h0 h1
 exact⟨ys,e () trivial⟩
theorem wrapK{k:Int}(h0:0≤k)(h1:k<9223372036854775808):IntKind.i64.wrap k=k:=wrap64 (by omega) (by omega)
theorem quo10{k:Int}(h0:0<k)(h1:k≤2305843009213693952):quo k 10=some (k / 10):=by
 unfold quo
 rw[if_neg (by decide),Int.tdiv_eq_ediv_of_nonneg (by omega),wrapK (by omega) (by omega)]
theorem MH.unit{α:Type}{mk:List α→Int→Option (Int×List α)}{hd:List α→Int→Option Int}{xs:List α}{c:Nat}(h:MH (fun _:Unit=>True) (fun _=>mk) (fun _=>hd) xs c){k:Int}(h0:1≤k)(h1:k+c≤2305843009213693952):∃ ys,mk xs k=some (k+c,ys)∧hd ys k=some (k+c):=by
 obtain⟨ys,e⟩:=h k h0 h1
 exact⟨ys,e () trivial⟩
/-- Digits: a loop that ends. -/
theorem digits{ρ:Type}{f:Int×ByteArray→Option (Flow ρ (Int×ByteArray))}{d:Int→ByteArray}(hd:∀ k,(d k).size≤1)
 (hf:∀ k b,k≤2305843009213693952→f (k,b)=bif decide (0<k) then Option.bind (sapp (d k) b) fun v=>some (.nx (k / 10,v)) else some (.br (k,b))):
 ∀ (n:Nat) (k:Int) (b:ByteArray),k≤n→k≤2305843009213693952→b.size+n≤4611686018427387904→∃ b',Ev (fun m=>whileN f m (k,b)) (.inr ((if 0<k then 0 else k),b'))∧b'.size≤b.size+n
 | 0,k,b,hk,hk2,hb=>by
  have e:f (k,b)=some (.br (k,b)):=by rw[hf _ _ (by omega),decide_eq_false (by omega)]; rfl
  exact⟨b,by rw[if_neg (by omega)]; exact ev_br e,by omega⟩
 | n+1,k,b,hk,hk2,hb=>by
  by_cases h:0<k
  ·have hs:sapp (d k) b=some (d k++b):=by
    unfold sapp
    have:=hd k
    rw[if_pos (by omega)]
   have e:f (k,b)=some (.nx (k / 10,d k++b)):=by rw[hf _ _ (by omega),decide_eq_true h,hs]; rfl
   have hsz:(d k++b).size≤b.size+1:=by have:=hd k; rw[ByteArray.size_append]; omega
   obtain⟨b',g1,g2⟩:=digits hd hf n (k / 10) (d k++b) (by omega) (by omega) (by omega)
   refine⟨b',?_,by omega⟩
   rw[if_pos h]
   have:(if 0<k / 10 then 0 else k / 10)=(0:Int):=by split<;>omega
   rw[this] at g1
   exact ev_nx e g1
  ·have e:f (k,b)=some (.br (k,b)):=by rw[hf _ _ (by omega),decide_eq_false h]; rfl
   exact⟨b,by rw[if_neg h]; exact ev_br e,by omega⟩
end
section
section
variable{α β ρ σ:Type}
def OLe(a b:Option α):Prop:=∀ r,a=some r→b=some r
theorem OLe.refl(a:Option α):OLe a a:=fun _ h=>h
theorem OLe.none(a:Option α):OLe none a:=fun _ h=>by cases h
theorem OLe.trans{a b c:Option α}(h:OLe a b)(h':OLe b c):OLe a c:=fun r hr=>h' r (h r hr)
theorem OLe.bind{a b:Option α}{k k':α→Option β}(h:OLe a b)(hk:∀ v,OLe (k v) (k' v)):OLe (a.bind k) (b.bind k'):=by
 intro r hr
 cases ha:a with
 | none=>rw[ha] at hr; simp at hr
 | some v=>rw[ha,ap] at hr; rw[h v ha,ap]; exact hk v r hr
theorem OLe.cond{b:Bool}{x x' y y':Option α}(h:OLe x x')(h':OLe y y'):OLe (cond b x y) (cond b x' y'):=by cases b<;>assumption
def Mono(m:Nat→Option α):Prop:=∀ n,OLe (m n) (m (n+1))
theorem Mono.le{m:Nat→Option α}(h:Mono m){n k:Nat}(hnk:n≤k):OLe (m n) (m k):=by
 induction k with
 | zero=>
  have:n=0:=by omega
  subst this; exact OLe.refl _
 | succ k ih=>
  by_cases e:n=k+1
  ·subst e; exact OLe.refl _
  ·exact(ih (by omega)).trans (h k)
def LimIs(m:Nat→Option α)(l:Option α):Prop:=Mono m∧∀ r,l=some r↔∃ n,m n=some r
theorem LimIs.const(a:Option α):LimIs (fun _=>a) a:=⟨fun _=>OLe.refl _,fun r=>⟨fun h=>⟨0,h⟩,fun ⟨_,h⟩=>h⟩⟩
theorem LimIs.bind{m:Nat→Option α}{l:Option α}{k:Nat→α→Option β}{kl:α→Option β}(h:LimIs m l)(hk:∀ v,LimIs (fun n=>k n v) (kl v)):LimIs (fun n=>(m n).bind (k n)) (l.bind kl):=by
 refine⟨fun n=>OLe.bind (h.1 n) (fun v=>(hk v).1 n),fun r=>⟨fun hr=>?_,?_⟩⟩
 ·cases hl:l with
  | none=>rw[hl] at hr; simp at hr
  | some v=>
   rw[hl,ap] at hr
   obtain⟨n,hn⟩:=(h.2 v).1 hl
   obtain⟨n',hn'⟩:=((hk v).2 r).1 hr
   refine⟨max n n',?_⟩
   simp only
   rw[h.1.le (Nat.le_max_left n n') v hn,ap]
   exact(hk v).1.le (Nat.le_max_right n n') r hn'
 ·rintro ⟨n,hn⟩
  cases hm:m n with
  | none=>simp only[hm] at hn; simp at hn
  | some v=>
   simp only[hm,ap] at hn
   rw[(h.2 v).2 ⟨n,hm⟩,ap]
   exact((hk v).2 r).2 ⟨n,hn⟩
theorem LimIs.cond{b:Bool}{m m':Nat→Option α}{l l':Option α}(h:LimIs m l)(h':LimIs m' l'):LimIs (fun n=>cond b (m n) (m' n)) (cond b l l'):=by cases b<;>assumption
end
/-! ### Loops that end, by a count -/
end
end Go.Av
