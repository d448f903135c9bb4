/- A part of the proof: lemmas only; nothing is claimed here beyond what each lemma says. -/
/- Code, by abstract states. -/
import Derived.Test.YtkoghcphkdecoaaGreatAv6x
set_option linter.unusedSimpArgs false
set_option linter.unusedVariables false
set_option linter.defProp false
namespace Go.Av
open CV renaming namess→aB
open List renaming all_eq_true→a8

def fOff(P:Program)(T:TypeId)(k:Nat):Nat:=
 match P.underlying T with
 | some (.struct fs)=>((fs[k]?).map (·.offset)).getD 0
 | _=>0

def zcv(P:Program):Nat→TypeId→CV
 | 0,_=>.gone 0
 | n+1,T=>
  match P.underlying T with
  | some .bool=>.pv (.lit (.bool false))
  | some (.int k)=>.pv (.lit (.int k 0))
  | some .string=>.pv (.lit (.string ⟨#[]⟩))
  | some (.slice e)=>.pv (.sl true (((P.info? e).map (·.size)).getD 0) [])
  | some (.struct fs)=>.node (fs.toList.map fun f=>zcv P n f.type)
  | some (.array m e)=>.node (List.replicate m (zcv P n e))
  | some (.pointer _)=>.pv (.lit (.pointer none))
  | some (.func ..)=>.pv (.lit .nilFunc)
  | some (.map ..)=>.pv (.lit (.map none))
  | _=>.gone 0

def nG_:CV→Bool
 | .gone _=>false
 | _=>true

def CallV(P:Program)(f:FuncId)(views owns caps:List PV)(K:List Bool→PV→Prop):Prop:=∃ ms res,Sat P f (mix ms views owns++caps) res∧K ms res
theorem CallV.mk{P:Program}{f:FuncId}{views owns caps args:List PV}{K:List Bool→PV→Prop}(ms:List Bool){res:PV}(h:Sat P f args res)(ha:args=mix ms views owns++caps)(hK:K ms res):CallV P f views owns caps K:=
 ⟨ms,res,ha▸h,hK⟩

def Cond(b:Bool)(A B:Prop):Prop:=(b=true→A)∧(b=false→B)
def dstK(nt:Nat)(o:Oper)(K:Nat→Prop):Prop:=
 match o.dst with
 | some d=>d<nt∧K d
 | none=>False

def loadK(P:Program)(st:St)(T:TypeId)(x:Operand)(K:List Nat→List Nat→SlotV→Prop):SlotV→Prop
 | .bptr r p off=>
  match st.s r with
  | .box c=>(c.okp p=true∧c.offs p=off∧nG_ (c.at p)=true∧TyIs P T (c.at p).isAgg (c.at p).size)∧K (r::rd x) [] (.val (c.at p))
  | _=>False
 | .val (.pv (.ptr v))=>TyIs P T (CV.pv v).isAgg v.size∧K (rd x) [] (.val (.pv v))
 | .eptr c sz i p off=>
  match st.o c with
  | some (sz',es)=>(sz'=sz∧i<es.length∧(es.getD i default).okp p=true∧(es.getD i default).offs p=off∧((es.getD i default).at p).noOwn=true∧TyIs P T (CV.pv ((es.getD i default).at p)).isAgg ((es.getD i default).at p).size)∧K (rd x) [c] (.val (.pv ((es.getD i default).at p)))
  | none=>False
 | _=>False

def storeK(P:Program)(st:St)(T:TypeId)(x y:Operand)(z:SlotV)(K:Rec→Prop):SlotV→Prop
 | .bptr r p off=>
  match st.s r,z with
  | .box c,.val z=>(c.okp p=true∧c.offs p=off∧z.size=(c.at p).size∧TyIs P T z.isAgg z.size)∧K { rs:=r::(rd x++rd y),us:=[(r,.box (c.setAt p z))] }
  | _,_=>False
 | .eptr c sz i p off=>
  match st.o c,z with
  | some (sz',es),.val z=>(sz'=sz∧i<es.length∧(es.getD i default).okp p=true∧(es.getD i default).offs p=off∧z.whole st.o=true∧(c::z.names).Nodup∧TyIs P T z.isAgg z.size∧z.size=((es.getD i default).at p).size∧((es.getD i default).setAt p (z.pvo st.o)).size=sz)∧
   K { rs:=rd x++rd y,ro:=c::z.names,uo:=deadObjs z.names++[(c,some (sz,es.set i ((es.getD i default).setAt p (z.pvo st.o))))] }
  | _,_=>False
 | _=>False

def aggK(P:Program)(T:TypeId)(op:BinOp)(xs ys:List PV)(K:Value→Prop):Prop:=
 match op with
 | .eql=>EqS P T (kdsOf xs)∧kdsOf xs=kdsOf ys∧K (.bool (eqPVs xs ys))
 | .neq=>EqS P T (kdsOf xs)∧kdsOf xs=kdsOf ys∧K (.bool (!eqPVs xs ys))
 | _=>False
def nilK(op:BinOp)(es:List PV)(K:SlotV→Prop):Prop:=
 match op with
 | .eql=>K (.ex (nilQ es true))
 | .neq=>K (.ex (nilQ es false))
 | _=>False
def binKK(P:Program)(st:St)(T:TypeId)(op:BinOp)(x y:SlotV)(K:Value→Prop)(H:List Nat→SlotV→Prop):Prop:=
 match x,y with
 | .val (.pv (.lit vx)),.val (.pv (.lit vy))=>binK P T op vx vy K
 | .val (.pv (.agg xs)),.val (.pv (.agg ys))=>aggK P T op xs ys K
 | .val (.pv (.sl _ _ es)),.val (.pv (.sl true _ []))=>IsSl P T∧nilK op es (H [])
 | .val (.own c),.val (.pv (.sl true _ []))=>match st.o c with
  | some (_,es)=>IsSl P T∧nilK op es (H [c])
  | none=>False
 | _,_=>False

def unKK(op:UnOp)(x:SlotV)(K:Value→Prop):Prop:=
 match x with
 | .val (.pv (.lit vx))=>unK op vx K
 | _=>False

def pickK(c:SlotV)(A B:Prop):Prop:=
 match c with
 | .val (.pv (.lit (.bool t)))=>Cond t A B
 | _=>False

def extractK(x:SlotV)(i:Nat)(K:SlotV→Prop):Prop:=
 match x with
 | .tup xs=>match xs[i]? with
  | some c=>K (.val c)
  | none=>False
 | _=>False

def boxK(x:SlotV)(K:CV→Prop):Prop:=
 match x with
 | .val c=>K c
 | _=>False

def closK(x:SlotV)(K:FuncId→List PV→Prop):Prop:=
 match x with
 | .val (.pv (.clo f caps))=>K f caps
 | _=>False


def lenK(P:Program)(T:TypeId)(st:St)(x:SlotV)(K:List Nat→Nat→Prop):Prop:=
 match x with
 | .val (.pv (.lit (.string s)))=>P.underlying T=some .string∧K [] s.size
 | .val (.pv (.sl _ _ es))=>IsSl P T∧K [] es.length
 | .val (.own c)=>match st.o c with
  | some (_,es)=>IsSl P T∧K [c] es.length
  | none=>False
 | _=>False

def eBytes(P:Program)(T:TypeId):Nat:=
 match P.underlying T with
 | some (.slice e)=>((P.info? e).map (·.bytes)).getD 0
 | _=>0

def zel(P:Program)(T:TypeId):PV:=
 match P.underlying T with
 | some (.slice e)=>(zcv P 8 e).pvo (fun _=>none)
 | _=>.tup []

def buildK(P:Program)(st:St)(T:TypeId)(parts:Array (Nat×Operand))(K:List Nat→List Nat→SlotV→Prop):CV→Prop
 | .node zs=>ZeroIs P T (.node zs)∧LO_ P T zs∧((partFs P st T parts.toList).all fun p=>decide (p.1<zs.length)&&p.2.size==(zs.getD p.1 default).size)=true∧CV.wholes st.o ((partFs P st T parts.toList).map (·.2))=true∧
  K (parts.toList.flatMap fun p=>rd p.2) (aB ((partFs P st T parts.toList).map (·.2))) (.val (.node (setParts zs (partFs P st T parts.toList))))
 | _=>False

def idxK(P:Program)(st:St)(T:TypeId)(x y:Operand)(K:List Nat→List Nat→SlotV→Prop)(vx vy:SlotV):Prop:=
 match vy with
 | .val (.pv (.lit (.int _ n)))=>
  match vx with
  | .val (.pv (.sl _ sz es))=>SlIs P T sz (eBytes P T)∧(0≤n∧n<es.length)∧K (rd x++rd y) [] (.val (.pv (.ptr (es.getD n.toNat default))))
  | .val (.own c)=>match st.o c with
   | some (sz,es)=>SlIs P T sz (eBytes P T)∧(0≤n∧n<es.length)∧K (rd x++rd y) [c] (.eptr c sz n.toNat [] 0)
   | none=>False
  | .bptr r p off=>ArrIx P T n (fun k sz=>K (rd x++rd y) [] (.bptr r (p++[k]) (off+k*sz)))
  | _=>False
 | _=>False

def natOf(sv:SlotV)(K:Nat→Prop):Prop:=
 match sv with
 | .val (.pv (.lit (.int _ n)))=>0≤n∧K n.toNat
 | _=>False
def optNat(P:Program)(st:St)(dflt:Nat)(K:Nat→Prop):Option Operand→Prop
 | none=>K dflt
 | some y=>natOf (ev P st 0 y) K
def sliceK(P:Program)(st:St)(T:TypeId)(lo hi:Option Operand)(K:SlotV→Prop)(vx:SlotV):Prop:=
 match vx with
 | .val (.pv (.sl _ sz es))=>SlIs P T sz (eBytes P T)∧optNat P st 0 (fun l=>optNat P st es.length (fun h=>l≤h∧h≤es.length∧K (.val (.pv (.sl false sz ((es.take h).drop l))))) hi) lo
 | .val (.pv (.lit (.string s)))=>P.underlying T=some .string∧optNat P st 0 (fun l=>optNat P st s.size (fun h=>l≤h∧h≤s.size∧K (.val (.pv (.lit (.string (s.extract l h)))))) hi) lo
 | _=>False

def strIdxK(P:Program)(T:TypeId)(K:SlotV→Prop)(vx vy:SlotV):Prop:=
 match vx,vy with
 | .val (.pv (.lit (.string s))),.val (.pv (.lit (.int _ n)))=>P.underlying T=some .string∧(0≤n∧n<s.size)∧K (.val (.pv (.lit (.int .u8 ((s.data.toList.getD n.toNat 0).toNat:Int)))))
 | _,_=>False

def makeK(K:Int→Int→Prop)(vx vy:SlotV):Prop:=
 match vx,vy with
 | .val (.pv (.lit (.int _ n))),.val (.pv (.lit (.int _ m)))=>K n m
 | _,_=>False

def appK(a b:Option (List Nat×Nat×List PV))(K:List Nat→List Nat→Nat→List PV→List PV→Prop):Prop:=
 match a,b with
 | some (D1,sz,es),some (D2,sz',ys)=>sz=sz'∧K D1 D2 sz' es ys
 | _,_=>False

def capK(st:St)(K:List (Nat×PV)→Prop):Option (List (Nat×PV))→Prop
 | some cs=>K cs
 | none=>False
def bN_(st:St)(n:Nat):List Nat:=
 match st.s n with
 | .box x=>x.names
 | _=>[]

def convK(P:Program)(src dst:TypeId)(K:SlotV→Prop)(vx:SlotV):Prop:=
 match vx with
 | .val (.pv (.lit (.int _ n)))=>(∃ d,P.underlying src=some d)∧∃ k,P.underlying dst=some (.int k)∧K (.val (.pv (.lit (.int k (k.wrap n)))))
 | _=>False

def madeK(st:St)(nt:Nat)(o:Oper)(rs ro D:List Nat)(res:PV)(K:Rec→Prop):Prop:=
 dstK nt o fun d=>(∀ n∈(rO_ res (16*d)).map (·.1),st.noC n)∧
  K { rs:=rs,ro:=ro,fc:=(rO_ res (16*d)).map (·.1),us:=[(d,resSV res (16*d))],uo:=deadObjs D++newObjs (rO_ res (16*d)) }

def slcOK(P:Program)(nt:Nat)(st:St)(o:Oper)(T:TypeId)(x:Operand)(lo hi:Option Operand)(K:Rec→Prop)(vx:SlotV):Prop:=
 match vx with
 | .val (.own c)=>match st.o c with
  | some (sz,es)=>SlIs P T sz (eBytes P T)∧optNat P st 0 (fun l=>optNat P st es.length (fun h=>(l=0∧h≤es.length∧madeK st nt o (rd x++(lo.toList.flatMap rd++hi.toList.flatMap rd)) [c] [c] (.sl true sz (es.take h)) K)∨
   ((l≤h∧h≤es.length∧0<es.length)∧dstK nt o fun d=>K { rs:=rd x++(lo.toList.flatMap rd++hi.toList.flatMap rd),ro:=[c],us:=[(d,.fn [c] [] [] (subF sz l h))] })) hi) lo
  | none=>False
 | .val (.pv (.sl true sz []))=>SlIs P T (eSize P T) (eBytes P T)∧dstK nt o fun d=>optNat P st 0 (fun l=>l=0∧optNat P st 0 (fun h=>h=0∧K { rs:=rd x++(lo.toList.flatMap rd++hi.toList.flatMap rd),us:=[(d,.val (.pv (.sl true sz [])))] }) hi) lo
 | .bptr r p off=>dstK nt o fun d=>match st.s r with
  | .box c=>ArrSl P T lo hi p off c.pure (c.pvw st.o) (fun sz es=>(r==d)=false∧K { rs:=r::rd x,ro:=c.names,us:=[(r,.val (.pv (.ptr (.agg es)))),(d,.val (.pv (.sl false sz es)))] })
  | _=>False
 | vx=>dstK nt o fun d=>sliceK P st T lo hi (fun sv=>K { rs:=rd x++(lo.toList.flatMap rd++hi.toList.flatMap rd),us:=[(d,sv)] }) vx

def IB_(P:Program)(s:TypeId):Prop:=∃ e,P.underlying s=some (.slice e)∧P.underlying e=some (.int .u8)
def bytesK(P:Program)(s t:TypeId)(K:List Nat→List Int→Prop):Option (List Nat×Nat×List PV)→Prop
 | some (D,sz,es)=>sz=1∧IB_ P s∧P.underlying t=some .string∧∃ ns:List Int,es=ns.map (fun n=>.lit (.int .u8 n))∧K D ns
 | none=>False
def convOK(P:Program)(nt:Nat)(st:St)(o:Oper)(s t:TypeId)(x:Operand)(K:Rec→Prop)(vx:SlotV):Prop:=
 match vx with
 | .val (.pv (.lit _))=>dstK nt o fun d=>convK P s t (fun sv=>K { rs:=rd x,us:=[(d,sv)] }) vx
 | vx=>bytesK P s t (fun D ns=>dstK nt o fun d=>K { rs:=rd x,ro:=D,us:=[(d,.val (.pv (.lit (.string (bsOf ns)))))] }) (srcOf st vx)

def maxK(g:Bool)(K:Value→Prop)(x y:SlotV):Prop:=
 match x,y with
 | .val (.pv (.lit (.int k a))),.val (.pv (.lit (.int k' b)))=>k=k'∧K (.int k (if g then(if b>a then b else a) else(if b<a then b else a)))
 | _,_=>False

def capNil(P:Program)(T:TypeId)(A:Prop):SlotV→Prop
 | .val (.pv (.sl true _ []))=>IsSl P T∧A
 | _=>False
def appZ(P:Program)(nt:Nat)(st:St)(o:Oper)(T T':TypeId)(x y:Operand)(K:Rec→Prop)(vx vy:SlotV):Prop:=
 match vx,vy with
 | .val (.pv (.sl true _ [])),.val (.pv (.lit (.int _ n)))=>SlIs P T (eSize P T) (eBytes P T)∧(∃ kn,P.underlying T'=some (.int kn))∧ElemZero P T (zel P T)∧(zel P T).size=eSize P T∧(0<n∧n≤1073741824)∧eBytes P T≤65536∧
  madeK st nt o (rd x++rd y) [] [] (.sl true (eSize P T) (List.replicate n.toNat (zel P T))) K
 | _,_=>False
def RecOk(P:Program)(nt:Nat)(st:St)(o:Oper)(K:Rec→Prop):Prop:=∃ r,Valid P nt o st r∧r.fresh st∧K r
def bltK(P:Program)(nt:Nat)(st:St)(o:Oper)(K:Rec→Prop):Builtin→List Operand→List TypeId→Prop
 | .len,[x],[T]=>dstK nt o fun d=>lenK P T st (ev P st T x) fun ro n=>K { rs:=rd x,ro:=ro,us:=[(d,.val (.pv (.lit (.int .i64 n))))] }
 | .cap,[x],[T]=>dstK nt o fun d=>capNil P T (K { rs:=rd x,us:=[(d,.val (.pv (.lit (.int .i64 0))))] }) (ev P st T x)
 | .append,[x,y],[T,T']=>appZ P nt st o T T' x y K (ev P st T x) (ev P st T' y)∨T=T'∧appK (baseOf st (ev P st T x)) (srcOf st (ev P st T y)) fun D1 D2 sz es ys=>SlIs P T sz (eBytes P T)∧(D1++D2).Nodup∧(∀ e∈es,PV.size e=sz)∧(∀ e∈ys,PV.size e=sz)∧
  es.length+ys.length≤1073741824∧eBytes P T≤65536∧madeK st nt o (rd x++rd y) (D1++D2) (D1++D2) (.sl true sz (es++ys)) K
 | .max,[x,y],[T,T']=>dstK nt o fun d=>maxK true (fun v=>K { rs:=rd x++rd y,us:=[(d,.val (.pv (.lit v)))] }) (ev P st T x) (ev P st T' y)
 | .min,[x,y],[T,T']=>dstK nt o fun d=>maxK false (fun v=>K { rs:=rd x++rd y,us:=[(d,.val (.pv (.lit v)))] }) (ev P st T x) (ev P st T' y)
 | .copy,[_,_],[_,_]=>RecOk P nt st o K
 | .delete,[_,_],[_,_]=>RecOk P nt st o K
 | _,_,_=>False


def callK(P:Program)(nt:Nat)(st:St)(o:Oper)(c:Call)(K:Rec→Prop):Prop:=
 match c.callee with
 | .value g=>
  (closK (ev P st 0 g) fun f caps=>(∀ p∈caps,PV.size p=1∧(CV.pv p).isAgg=false)∧CV.wholes st.o (argCVs P st c.args.toList c.argTypes.toList)=true∧(∀ d,o.dst=some d→d<nt)∧
   ((CallV P f (CV.pvws st.o (argCVs P st c.args.toList c.argTypes.toList)) (CV.pvos st.o (argCVs P st c.args.toList c.argTypes.toList)) caps fun ms res=>
    (mixNames ms (argCVs P st c.args.toList c.argTypes.toList)).Nodup∧(mixNames ms (argCVs P st c.args.toList c.argTypes.toList)=[]∨o.dst.isSome=true)∧
    (mixPure ms (argCVs P st c.args.toList c.argTypes.toList)||(res.noView&&(viewNames ms (argCVs P st c.args.toList c.argTypes.toList)).all fun n=>!(mixNames ms (argCVs P st c.args.toList c.argTypes.toList)).contains n))=true∧
    (∀ n∈(rO_ res (16*o.dst.getD 0)).map (·.1),st.noC n)∧
    K { rs:=rd g++c.args.toList.flatMap rd,ro:=aB (argCVs P st c.args.toList c.argTypes.toList),fc:=(rO_ res (16*o.dst.getD 0)).map (·.1),us:=(o.dst.toList.map fun d=>(d,resSV res (16*o.dst.getD 0))),uo:=(o.dst.toList.flatMap fun _=>deadObjs (mixNames ms (argCVs P st c.args.toList c.argTypes.toList))++newObjs (rO_ res (16*o.dst.getD 0))) })∨RecOk P nt st o K))∨RecOk P nt st o K
 | .builtin b=>bltK P nt st o K b c.args.toList c.argTypes.toList
 | _=>False

def recO(P:Program)(nt:Nat)(st:St)(o:Oper)(K:Rec→Prop):Prop:=
 match o.op with
 | .move x=>dstK nt o fun d=>K { rs:=rd x,us:=[(d,ev P st o.type x)] }
 | .assign x=>dstK nt o fun d=>K { rs:=rd x,us:=[(d,ev P st o.type x)] }
 | .pick c x y=>dstK nt o fun d=>pickK (ev P st 0 c) (K { rs:=rd c++rd x,us:=[(d,ev P st o.type x)] }) (K { rs:=rd c++rd y,us:=[(d,ev P st o.type y)] })
 | .alloc T=>dstK nt o fun d=>ZeroIs P T (zcv P 8 T)∧st.noR d∧K { fr:=[d],us:=[(d,.box (zcv P 8 T))] }
 | .box T x=>dstK nt o fun d=>boxK (ev P st T x) fun c=>st.noR d∧K { rs:=rd x,fr:=[d],us:=[(d,.box c)] }
 | .load T x=>dstK nt o fun d=>loadK P st T x (fun rs ro sv=>K { rs:=rs,ro:=ro,us:=[(d,sv)] }) (ev P st 0 x)
 | .store T x y=>o.dst=none∧storeK P st T x y (ev P st T y) K (ev P st 0 x)
 | .binOp op T x y _=>dstK nt o fun d=>binKK P st T op (ev P st T x) (ev P st T y) (fun v=>K { rs:=rd x++rd y,us:=[(d,.val (.pv (.lit v)))] }) (fun ro sv=>K { rs:=rd x++rd y,ro:=ro,us:=[(d,sv)] })
 | .unOp op T x=>dstK nt o fun d=>unKK op (ev P st T x) fun v=>K { rs:=rd x,us:=[(d,.val (.pv (.lit v)))] }
 | .extract x i=>dstK nt o fun d=>extractK (ev P st 0 x) i fun sv=>K { rs:=rd x,us:=[(d,sv)] }
 | .fieldAddr T x k=>dstK nt o fun d=>FieldIs P T k (fOff P T k)∧addF (ev P st 0 x) k (fOff P T k) fun sv=>K { rs:=rd x,us:=[(d,sv)] }
 | .call c=>callK P nt st o c K
 | .build T parts=>dstK nt o fun d=>buildK P st T parts (fun rs ro sv=>K { rs:=rs,ro:=ro,us:=[(d,sv)] }) (zcv P 8 T)
 | .buildSlice T n parts=>(SlIs P T (eSize P T) (eBytes P T)∧parts.toList.map (·.1)=List.range n∧CV.wholes st.o (partCVs P st (eOT_ P T) parts.toList)=true∧(∀ x∈partCVs P st (eOT_ P T) parts.toList,x.size=eSize P T)∧
  (aB (partCVs P st (eOT_ P T) parts.toList)).Nodup∧n*eSize P T≤16777216∧
  madeK st nt o (parts.toList.flatMap fun p=>rd p.2) (aB (partCVs P st (eOT_ P T) parts.toList)) (aB (partCVs P st (eOT_ P T) parts.toList)) (.sl true (eSize P T) (CV.pvos st.o (partCVs P st (eOT_ P T) parts.toList))) K)∨RecOk P nt st o K
 | .makeSlice T x y=>makeK (fun n m=>SlIs P T (eSize P T) (eBytes P T)∧ElemZero P T (zel P T)∧(zel P T).size=eSize P T∧0≤n∧n≤m∧m≤1073741824∧eBytes P T≤65536∧
  madeK st nt o (rd x++rd y) [] [] (.sl true (eSize P T) (List.replicate n.toNat (zel P T))) K) (ev P st 0 x) (ev P st 0 y)
 | .indexAddr T x y=>dstK nt o fun d=>idxK P st T x y (fun rs ro sv=>K { rs:=rs,ro:=ro,us:=[(d,sv)] }) (ev P st 0 x) (ev P st 0 y)
 | .index T x y=>dstK nt o fun d=>strIdxK P T (fun sv=>K { rs:=rd x++rd y,us:=[(d,sv)] }) (ev P st 0 x) (ev P st 0 y)
 | .slice T x lo hi none=>slcOK P nt st o T x lo hi K (ev P st 0 x)
 | .convert s t x=>convOK P nt st o s t x K (ev P st 0 x)
 | .makeFunc (.func f) first captured=>first.isEmpty=true∧((dstK nt o fun d=>capK st (fun cs=>((captured.toList.flatMap rd).all fun n=>(bN_ st n).isEmpty)=true∧
  K { rs:=captured.toList.flatMap rd,us:=frozen cs++[(d,.val (.pv (.clo f (cs.map fun c=>.ptr c.2))))] }) (capsOf st captured.toList))∨RecOk P nt st o K)
 | .makeMap _ _=>RecOk P nt st o K
 | .lookup _ _ _ _=>RecOk P nt st o K
 | .mapUpdate _ _ _ _=>RecOk P nt st o K
 | .insert _ _ _ _=>RecOk P nt st o K
 | .range _ _=>RecOk P nt st o K
 | .entry _=>RecOk P nt st o K
 | _=>False


theorem fn_{st:St}{r:Rec}(h1:r.fr=[])(h2:r.fc=[]):r.fresh st:=⟨by simp[h1],by simp[h2]⟩

theorem dKi_{nt:Nat}{o:Oper}{K:Nat→Prop}(h:dstK nt o K):∃ d,o.dst=some d∧d<nt∧K d:=by
 unfold dstK at h
 split at h
 ·exact⟨_,by assumption,h.1,h.2⟩
 ·exact h.elim

theorem lKo_2{P:Program}{nt:Nat}{o:Oper}{st:St}{d:Nat}{x:Operand}{T:TypeId}{K:List Nat→Nat→Prop}(hop:o.op=.call { callee:=.builtin .len,args:=#[x],argTypes:=#[T] })(hdst:o.dst=some d)(hd:d<nt)
 (hx:lenK P T st (ev P st T x) K):∃ ro n,K ro n∧Valid P nt o st { rs:=rd x,ro:=ro,us:=[(d,.val (.pv (.lit (.int .i64 n))))] }:=by
 unfold lenK at hx
 split at hx
 ·rename_i s he
  refine⟨[],_,hx.2,vp_ hdst hd rfl ?_⟩
  intro κ G st' a w _ hsame hG
  have h1:=ev_lit (P:=P) (T:=T) hG he hsame.1
  exact⟨.int .i64 s.size,by simp[execOp,hop,resolve,invoke,builtin,Builtin.len_,run_underlying hx.1,h1,goInt],sOl_ rfl⟩
 ·rename_i o' sz es he
  refine⟨[],_,hx.2,vp_ hdst hd rfl ?_⟩
  intro κ G st' a w _ hsame hG
  have h1:=ev_ok (P:=P) (T:=T) hG x d
  rw[ec_ hsame.1,he] at h1
  obtain⟨b,cap,h2⟩:=sOs_ h1
  obtain⟨e,hT⟩:=hx.1
  exact⟨.int .i64 es.length,by simp[execOp,hop,resolve,invoke,builtin,Builtin.len_,run_underlying hT,h2,goInt],sOl_ rfl⟩
 ·rename_i c he
  split at hx
  ·rename_i sz es ho
   refine⟨[c],_,hx.2,vp_ hdst hd rfl ?_⟩
   intro κ G st' a w _ hsame hG
   have h1:=ev_ok (P:=P) (T:=T) hG x d
   rw[ec_ hsame.1,he] at h1
   have ho':st'.o c=some (sz,es):=by rw[hsame.2 c (by simp)]; exact ho
   obtain⟨b,cap,h2⟩:=own_sl hG ho'
   have h3:=sOo_ h1
   obtain⟨e,hT⟩:=hx.1
   exact⟨.int .i64 es.length,by simp[execOp,hop,resolve,invoke,builtin,Builtin.len_,run_underlying hT,h3,h2,goInt],sOl_ rfl⟩
  ·exact hx.elim
 ·exact hx.elim

theorem lKo_{P:Program}{nt:Nat}{o:Oper}{st:St}{d:Nat}{x:Operand}{T:TypeId}{K:List Nat→List Nat→SlotV→Prop}(hop:o.op=.load T x)(hdst:o.dst=some d)(hd:d<nt)(hx:loadK P st T x K (ev P st 0 x)):
 ∃ rs ro sv,K rs ro sv∧Valid P nt o st { rs:=rs,ro:=ro,us:=[(d,sv)] }:=by
 unfold loadK at hx
 split at hx
 ·rename_i r p off he
  split at hx
  ·rename_i c hr
   obtain⟨⟨h1,h2,h3,h4⟩,hK⟩:=hx
   exact⟨_,_,_,hK,vlb_ hop hdst hd he hr h1 h2 h4 (fun n e=>by rw[e] at h3; simp[nG_] at h3)⟩
  ·exact hx.elim
 ·rename_i v he
  exact⟨_,_,_,hx.2,vlp_ hop hdst hd he hx.1⟩
 ·rename_i c sz i p off he
  split at hx
  ·rename_i sz' es hc
   obtain⟨⟨rfl,h1,h2,h3,h4,h5⟩,hK⟩:=hx
   exact⟨_,_,_,hK,vle_ hop hdst hd he hc h1 h2 h3 rfl h4 h5⟩
  ·exact hx.elim
 ·exact hx.elim

theorem sKo_{P:Program}{nt:Nat}{o:Oper}{st:St}{x y:Operand}{T:TypeId}{K:Rec→Prop}(hop:o.op=.store T x y)(hdst:o.dst=none)(hx:storeK P st T x y (ev P st T y) K (ev P st 0 x)):
 RecOk P nt st o K:=by
 unfold storeK at hx
 split at hx
 ·rename_i r p off he
  split at hx
  ·rename_i c z hr hz
   obtain⟨⟨h1,h2,h3,h4⟩,hK⟩:=hx
   exact⟨_,vsb_ hop hdst he hr h1 h2 hz h4 h3,fn_ rfl rfl,hK⟩
  ·exact hx.elim
 ·rename_i c sz i p off he
  split at hx
  ·rename_i sz' es z hc hz
   obtain⟨⟨rfl,h1,h2,h3,h4,h5,h6,h7,h8⟩,hK⟩:=hx
   exact⟨_,vse_ hop hdst he hc h1 h2 h3 hz h4 h5 h6 h7 h8,fn_ rfl rfl,hK⟩
  ·exact hx.elim
 ·exact hx.elim

theorem mKo_{P:Program}{st:St}{nt:Nat}{o:Oper}{rs ro D:List Nat}{res:PV}{K:Rec→Prop}(h:madeK st nt o rs ro D res K)
 (H:∀ d,o.dst=some d→d<nt→Valid P nt o st { rs:=rs,ro:=ro,fc:=(rO_ res (16*d)).map (·.1),us:=[(d,resSV res (16*d))],uo:=deadObjs D++newObjs (rO_ res (16*d)) }):RecOk P nt st o K:=by
 obtain⟨d,h1,h2,h3,h4⟩:=dKi_ h
 exact⟨_,H d h1 h2,⟨by simp,h3⟩,h4⟩

theorem nOo_{P:Program}{st:St}{y:Operand}{K:Nat→Prop}(h:natOf (ev P st 0 y) K):∃ m,K m∧∃ k n,ev P st 0 y=.val (.pv (.lit (.int k n)))∧n=(m:Int):=by
 unfold natOf at h
 split at h
 ·rename_i k n he
  exact⟨n.toNat,h.2,k,n,he,by omega⟩
 ·exact h.elim
theorem oNo_{P:Program}{st:St}{dflt:Nat}{K:Nat→Prop}{y:Option Operand}(h:optNat P st dflt K y):∃ m,K m∧OptIs P st dflt m y:=by
 cases y with
 | none=>exact⟨dflt,h,rfl⟩
 | some y=>exact nOo_ h

theorem vss_1{P:Program}{nt:Nat}{o:Oper}{st:St}{d:Nat}{x:Operand}{lo hi:Option Operand}{T T1:TypeId}{s:ByteArray}{l h:Nat}(hop:o.op=.slice T x lo hi none)(hdst:o.dst=some d)(hd:d<nt)
 (hT:P.underlying T=some .string) (hx:ev P st T1 x=.val (.pv (.lit (.string s)))) (hlo:OptIs P st 0 l lo)
 (hhi:OptIs P st s.size h hi) (hlh:l≤h) (hhl:h≤s.size):
 Valid P nt o st { rs:=rd x++(lo.toList.flatMap rd++hi.toList.flatMap rd),us:=[(d,.val (.pv (.lit (.string (s.extract l h)))))] }:=by
 refine vp_ hdst hd rfl ?_
 intro κ G st' a w hnt hsame hG
 have e0:=ev_lit hG hx (fun k hk=>hsame.1 k (by simp[hk]))
 have elo:∃ lv:Option Value,lo.map a.eval=lv∧(match lv with | none=>l=0 | some v=>∃ k,v=.int k (l:Int)):=by
  cases lo with
  | none=>exact⟨none,rfl,hlo⟩
  | some y=>
   obtain⟨k,n,e1,rfl⟩:=hlo
   exact⟨_,rfl,k,ev_lit hG e1 (fun k hk=>hsame.1 k (by simp[hk]))⟩
 have ehi:∃ hv:Option Value,hi.map a.eval=hv∧(match hv with | none=>h=s.size | some v=>∃ k,v=.int k (h:Int)):=by
  cases hi with
  | none=>exact⟨none,rfl,hhi⟩
  | some y=>
   obtain⟨k,n,e1,rfl⟩:=hhi
   exact⟨_,rfl,k,ev_lit hG e1 (fun k hk=>hsame.1 k (by simp[hk]))⟩
 obtain⟨lv,e1,e2⟩:=elo
 obtain⟨hv,e3,e4⟩:=ehi
 have hlb:(Instr.sliceBounds false s.size s.size lv hv none).run P w=.ok (l,h,s.size) w:=by
  have hc:¬ s.size<h:=by omega
  have hl':¬ h<l:=by omega
  cases lv with
  | none=>
   simp only at e2; subst e2
   cases hv with
   | none=>simp only at e4; subst e4; simp[Instr.sliceBounds]
   | some v=>obtain⟨k,rfl⟩:=e4; simp[Instr.sliceBounds,Instr.sliceBound,asIntOf,hc,hhl]
  | some u=>
   obtain⟨k',rfl⟩:=e2
   cases hv with
   | none=>simp only at e4; subst e4; simp[Instr.sliceBounds,Instr.sliceBound,asIntOf,hl',hlh]
   | some v=>obtain⟨k,rfl⟩:=e4; simp[Instr.sliceBounds,Instr.sliceBound,asIntOf,hc,hl',hhl,hlh]
 exact⟨.string (s.extract l h),by simp[execOp,hop,Instr.sliceAt,run_underlying hT,Instr.slice,e0,e1,e3,hlb],sOl_ rfl⟩

theorem mKo_1{P:Program}{nt:Nat}{o:Oper}{st:St}{d:Nat}{x y:Operand}{T T':TypeId}{g:Bool}{K:Value→Prop}(hop:o.op=.call { callee:=.builtin (if g then .max else .min),args:=#[x,y],argTypes:=#[T,T'] })(hdst:o.dst=some d)(hd:d<nt)
 (h:maxK g K (ev P st T x) (ev P st T' y)):∃ v,K v∧Valid P nt o st { rs:=rd x++rd y,us:=[(d,.val (.pv (.lit v)))] }:=by
 unfold maxK at h
 split at h
 ·rename_i k a k' b hx hy
  obtain⟨rfl,h⟩:=h
  refine⟨_,h,vp_ hdst hd rfl ?_⟩
  intro κ G st' ac w _ hsame hG
  have e1:=ev_lit (P:=P) hG hx (fun k hk=>hsame.1 k (by simp[hk]))
  have e2:=ev_lit (P:=P) hG hy (fun k hk=>hsame.1 k (by simp[hk]))
  refine⟨_,?_,sOl_ rfl⟩
  cases g with
  | true=>simp[execOp,hop,resolve,invoke,builtin,Builtin.max_,Builtin.max2,e1,e2]
  | false=>simp[execOp,hop,resolve,invoke,builtin,Builtin.min_,Builtin.min2,e1,e2]
 ·exact h.elim

theorem bKo_{P:Program}{nt:Nat}{st:St}{o:Oper}{K:Rec→Prop}{b:Builtin}{args:Array Operand}{tys:Array TypeId}(hop:o.op=.call { callee:=.builtin b,args:=args,argTypes:=tys })
 (h:bltK P nt st o K b args.toList tys.toList):RecOk P nt st o K:=by
 unfold bltK at h
 split at h
 ·rename_i x T ha ht
  have e1:args=#[x]:=by apply Array.ext'; simpa using ha
  have e2:tys=#[T]:=by apply Array.ext'; simpa using ht
  subst e1; subst e2
  obtain⟨d,h1,h2,h3⟩:=dKi_ h
  obtain⟨ro,n,h4,h5⟩:=lKo_2 hop h1 h2 h3
  exact⟨_,h5,fn_ rfl rfl,h4⟩
 ·rename_i x T ha ht
  have e1:args=#[x]:=by apply Array.ext'; simpa using ha
  have e2:tys=#[T]:=by apply Array.ext'; simpa using ht
  subst e1; subst e2
  obtain⟨d,h1,h2,h3⟩:=dKi_ h
  unfold capNil at h3
  split at h3
  ·rename_i hx
   exact⟨_,vcn_ hop h1 h2 h3.1 hx,fn_ rfl rfl,h3.2⟩
  ·exact h3.elim
 ·rename_i x y T T' ha ht
  have e1:args=#[x,y]:=by apply Array.ext'; simpa using ha
  rcases h with h | ⟨rfl,h⟩
  ·have e2:tys=#[T,T']:=by apply Array.ext'; simpa using ht
   subst e1; subst e2
   unfold appZ at h
   split at h
   ·rename_i hx hy
    obtain⟨g1,⟨kn,g2⟩,g3,g4,⟨g5,g6⟩,g7,g8⟩:=h
    exact mKo_ g8 (fun d hd1 hd2=>vaz_ hop hd1 hd2 g1 g2 g3 g4 hx hy g5 g6 g7)
   ·exact h.elim
  have e2:tys=#[T,T]:=by apply Array.ext'; simpa using ht
  subst e1; subst e2
  unfold appK at h
  split at h
  ·rename_i D1 sz es D2 sz' ys hx hy
   obtain⟨rfl,h1,h2,h3,h4,h5,h6,h7⟩:=h
   refine mKo_ h7 (fun d hd1 hd2=>va_1 hop hd1 hd2 h1 hx hy h2 h3 h4 ?_ (by omega))
   calc (es.length+ys.length)*eBytes P T≤1073741824*65536:=Nat.mul_le_mul h5 h6
    _≤140737488355328:=by omega
  ·exact h.elim
 ·rename_i x y T T' ha ht
  have e1:args=#[x,y]:=by apply Array.ext'; simpa using ha
  have e2:tys=#[T,T']:=by apply Array.ext'; simpa using ht
  subst e1; subst e2
  obtain⟨d,h1,h2,h3⟩:=dKi_ h
  obtain⟨v,h4,h5⟩:=mKo_1 (g:=true) hop h1 h2 h3
  exact⟨_,h5,fn_ rfl rfl,h4⟩
 ·rename_i x y T T' ha ht
  have e1:args=#[x,y]:=by apply Array.ext'; simpa using ha
  have e2:tys=#[T,T']:=by apply Array.ext'; simpa using ht
  subst e1; subst e2
  obtain⟨d,h1,h2,h3⟩:=dKi_ h
  obtain⟨v,h4,h5⟩:=mKo_1 (g:=false) hop h1 h2 h3
  exact⟨_,h5,fn_ rfl rfl,h4⟩
 ·exact h
 ·exact h
 ·exact h.elim

theorem rOo_{P:Program}{nt:Nat}{st:St}{o:Oper}{K:Rec→Prop}(h:recO P nt st o K):RecOk P nt st o K:=by
 unfold recO at h
 split at h
 ·rename_i x hop
  obtain⟨d,h1,h2,h3⟩:=dKi_ h
  exact⟨_,vm_1 (.inl hop) h1 h2,fn_ rfl rfl,h3⟩
 ·rename_i x hop
  obtain⟨d,h1,h2,h3⟩:=dKi_ h
  exact⟨_,vm_1 (.inr hop) h1 h2,fn_ rfl rfl,h3⟩
 ·rename_i c x y hop
  obtain⟨d,h1,h2,h3⟩:=dKi_ h
  unfold pickK at h3
  split at h3
  ·rename_i t he
   cases t with
   | true=>exact⟨_,vp_1 (T:=o.type) (t:=true) hop h1 h2 he,fn_ rfl rfl,h3.1 rfl⟩
   | false=>exact⟨_,vp_1 (T:=o.type) (t:=false) hop h1 h2 he,fn_ rfl rfl,h3.2 rfl⟩
  ·exact h3.elim
 ·rename_i T hop
  obtain⟨d,h1,h2,h3,h4,h5⟩:=dKi_ h
  exact⟨_,va_2 hop h1 h2 h3,⟨by simpa using h4,by simp⟩,h5⟩
 ·rename_i T x hop
  obtain⟨d,h1,h2,h3⟩:=dKi_ h
  unfold boxK at h3
  split at h3
  ·rename_i c he
   exact⟨_,vb_1 hop h1 h2 he,⟨by simpa using h3.1,by simp⟩,h3.2⟩
  ·exact h3.elim
 ·rename_i T x hop
  obtain⟨d,h1,h2,h3⟩:=dKi_ h
  obtain⟨rs,ro,sv,h4,h5⟩:=lKo_ hop h1 h2 h3
  exact⟨_,h5,fn_ rfl rfl,h4⟩
 ·rename_i T x y hop
  exact sKo_ hop h.1 h.2
 ·rename_i op T x y U hop
  obtain⟨d,h1,h2,h3⟩:=dKi_ h
  unfold binKK at h3
  split at h3
  ·rename_i vx vy hx hy
   obtain⟨v,g1,g2,g3⟩:=bKr_2 h3
   exact⟨_,vb_2 hop h1 h2 hx hy g1 g2,fn_ rfl rfl,g3⟩
  ·rename_i xs ys hx hy
   unfold aggK at h3
   split at h3
   ·exact⟨_,ves_ (neg:=false) hop h1 h2 hx hy h3.1 h3.2.1,fn_ rfl rfl,h3.2.2⟩
   ·exact⟨_,ves_ (neg:=true) hop h1 h2 hx hy h3.1 h3.2.1,fn_ rfl rfl,h3.2.2⟩
   ·exact h3.elim
  ·rename_i hx hy
   unfold nilK at h3
   split at h3
   ·exact⟨_,vnv_ (neg:=false) hop h1 h2 h3.1 hx hy,fn_ rfl rfl,h3.2⟩
   ·exact⟨_,vnv_ (neg:=true) hop h1 h2 h3.1 hx hy,fn_ rfl rfl,h3.2⟩
   ·exact h3.2.elim
  ·rename_i hx hy
   split at h3
   ·rename_i ho
    unfold nilK at h3
    split at h3
    ·exact⟨_,vno_ (neg:=false) hop h1 h2 h3.1 hx ho hy,fn_ rfl rfl,h3.2⟩
    ·exact⟨_,vno_ (neg:=true) hop h1 h2 h3.1 hx ho hy,fn_ rfl rfl,h3.2⟩
    ·exact h3.2.elim
   ·exact h3.elim
  ·exact h3.elim
 ·rename_i op T x hop
  obtain⟨d,h1,h2,h3⟩:=dKi_ h
  unfold unKK at h3
  split at h3
  ·rename_i vx hx
   obtain⟨v,g1,g2,g3⟩:=uKr_ h3
   exact⟨_,vu_ hop h1 h2 hx g1 g2,fn_ rfl rfl,g3⟩
  ·exact h3.elim
 ·rename_i x i hop
  obtain⟨d,h1,h2,h3⟩:=dKi_ h
  unfold extractK at h3
  split at h3
  ·rename_i xs hx
   split at h3
   ·rename_i c hc
    exact⟨_,ve_ hop h1 h2 hx hc,fn_ rfl rfl,h3⟩
   ·exact h3.elim
  ·exact h3.elim
 ·rename_i T x k hop
  obtain⟨d,h1,h2,h3,h4⟩:=dKi_ h
  unfold addF at h4
  split at h4
  ·rename_i r p o' he
   exact⟨_,vfA_ hop h1 h2 h3 (by rw[he]; rfl),fn_ rfl rfl,h4⟩
  ·rename_i c sz i p o' he
   exact⟨_,vfA_ hop h1 h2 h3 (by rw[he]; rfl),fn_ rfl rfl,h4⟩
  ·rename_i v he
   exact⟨_,vfA_ hop h1 h2 h3 (by rw[he]; exact⟨h4.1,rfl⟩),fn_ rfl rfl,h4.2⟩
  ·exact h4.elim
 ·rename_i c hop
  unfold callK at h
  split at h
  ·rename_i g hc
   rcases h with h | h
   case inr=>exact h
   unfold closK at h
   split at h
   ·rename_i f caps he
    obtain⟨h1,h2,h3,⟨ms,res,h4,h5,h5',h6,h7,h8⟩ | hrec⟩:=h
    case inr=>exact hrec
    refine⟨_,vc_1 (by rw[hop]; cases c; simp only at hc; rw[hc]) rfl h3 h5' he h1 rfl h2 h5 ?_ h4,⟨by simp,h7⟩,h8⟩
    simpa[Bool.or_eq_true,Bool.and_eq_true,a8] using h6
   ·exact h.elim
  ·rename_i b hc
   exact bKo_ (by rw[hop]; cases c; simp only at hc; rw[hc]) h
  ·exact h.elim
 ·rename_i T parts hop
  obtain⟨d,h1,h2,h3⟩:=dKi_ h
  unfold buildK at h3
  split at h3
  ·rename_i zs hz
   obtain⟨g1,g2,g3,g4,g5⟩:=h3
   refine⟨_,vb_ hop h1 h2 g1 g2 (fun k c hm=>?_) g4,fn_ rfl rfl,g5⟩
   rw[a8] at g3
   have:=g3 _ hm
   simpa using this
  ·exact h3.elim
 ·rename_i T n parts hop
  rcases h with⟨g1,g2,g3,g4,g5,g6,g7⟩ | h
  ·exact mKo_ g7 (fun d hd1 hd2=>vbS_ hop hd1 hd2 g1 g2 rfl g3 g4 g5 g6)
  ·exact h
 ·rename_i T x y hop
  unfold makeK at h
  split at h
  ·rename_i k n k' m hx hy
   obtain⟨g1,g2,g3,g4,g5,g6,g7,g8⟩:=h
   refine mKo_ g8 (fun d hd1 hd2=>vmS_ hop hd1 hd2 g1 g2 g3 hx hy g4 g5 (by omega) ?_)
   have hm0:0≤m:=by omega
   calc ((eBytes P T:Nat):Int)*m≤65536*1073741824:=Int.mul_le_mul (by omega) g6 hm0 (by omega)
    _≤281474976710656:=by omega
  ·exact h.elim
 ·rename_i T x y hop
  obtain⟨d,h1,h2,h3⟩:=dKi_ h
  unfold idxK at h3
  split at h3
  ·rename_i k n hy
   split at h3
   ·rename_i b sz es hx
    obtain⟨g1,⟨g2,g3⟩,g4⟩:=h3
    exact⟨_,viv_ hop h1 h2 g1 hx hy g2 g3,fn_ rfl rfl,g4⟩
   ·rename_i c hx
    split at h3
    ·rename_i sz es hc
     obtain⟨g1,⟨g2,g3⟩,g4⟩:=h3
     exact⟨_,vio_ hop h1 h2 g1 hx hc hy g2 g3,fn_ rfl rfl,g4⟩
    ·exact h3.elim
   ·rename_i r p off hx
    obtain⟨m,sz,k,g1,g2,g3,g4⟩:=h3
    exact⟨_,via_ hop h1 h2 g1 hx hy g2 g3,fn_ rfl rfl,g4⟩
   ·exact h3.elim
  ·exact h3.elim
 ·rename_i T x y hop
  obtain⟨d,h1,h2,h3⟩:=dKi_ h
  unfold strIdxK at h3
  split at h3
  ·rename_i s k n hx hy
   obtain⟨g1,⟨g2,g3⟩,g4⟩:=h3
   exact⟨_,vis_ hop h1 h2 g1 hx hy g2 g3,fn_ rfl rfl,g4⟩
  ·exact h3.elim
 ·rename_i T x lo hi hop
  unfold slcOK at h
  split at h
  ·rename_i c hx
   split at h
   ·rename_i sz es hc
    obtain⟨g1,g2⟩:=h
    obtain⟨l,g3',g4⟩:=oNo_ g2
    obtain⟨hh,g5',g8⟩:=oNo_ g3'
    rcases g5' with⟨g3,g5,g6⟩ | ⟨⟨g5,g6,g7⟩,g9⟩
    ·subst g3
     exact mKo_ g6 (fun d hd1 hd2=>vso_ hop hd1 hd2 g1 hx hc g4 g8 g5)
    ·obtain⟨d,h1,h2,h3⟩:=dKi_ g9
     exact⟨_,vss_ hop h1 h2 g1 hx hc g4 g8 g5 g6 g7,fn_ rfl rfl,h3⟩
   ·exact h.elim
  ·rename_i hx
   obtain⟨g1,g2⟩:=h
   obtain⟨d,h1,h2,h3⟩:=dKi_ g2
   obtain⟨l,⟨g3,g3'⟩,g4⟩:=oNo_ h3
   subst g3
   obtain⟨hh,⟨g5,g6⟩,g8⟩:=oNo_ g3'
   subst g5
   exact⟨_,vsn_ hop h1 h2 g1 hx g4 g8,fn_ rfl rfl,g6⟩
  ·rename_i r p off hx
   obtain⟨d,h1,h2,h3⟩:=dKi_ h
   split at h3
   ·rename_i c hc
    obtain⟨rfl,rfl,rfl,rfl,g1,m,sz,es,g2,g3,g4,g5,g6,g7,g8⟩:=h3
    exact⟨_,vsa_ hop h1 h2 (by simpa using g7) g2 hx hc g1 g3 g4 g5 g6,fn_ rfl rfl,g8⟩
   ·exact h3.elim
  obtain⟨d,h1,h2,h3⟩:=dKi_ h
  unfold sliceK at h3
  split at h3
  ·rename_i b sz es hx
   obtain⟨g1,g2⟩:=h3
   obtain⟨l,g3,g4⟩:=oNo_ g2
   obtain⟨hh,⟨g5,g6,g7⟩,g8⟩:=oNo_ g3
   exact⟨_,vsv_ hop h1 h2 g1 hx g4 g8 g5 g6,fn_ rfl rfl,g7⟩
  ·rename_i s hx
   obtain⟨g1,g2⟩:=h3
   obtain⟨l,g3,g4⟩:=oNo_ g2
   obtain⟨hh,⟨g5,g6,g7⟩,g8⟩:=oNo_ g3
   exact⟨_,vss_1 hop h1 h2 g1 hx g4 g8 g5 g6,fn_ rfl rfl,g7⟩
  ·exact h3.elim
 ·rename_i s t x hop
  unfold convOK at h
  split at h
  case h_2=>
   unfold bytesK at h
   split at h
   ·rename_i D sz es hsrc
    obtain⟨rfl,⟨e,g1,g2⟩,g3,ns,rfl,g4⟩:=h
    obtain⟨d,h1,h2,h3⟩:=dKi_ g4
    exact⟨_,vcs_ hop h1 h2 hsrc g1 g2 g3,fn_ rfl rfl,h3⟩
   ·exact h.elim
  obtain⟨d,h1,h2,h3⟩:=dKi_ h
  unfold convK at h3
  split at h3
  ·rename_i k0 n hx
   obtain⟨⟨dd,g1⟩,k,g2,g3⟩:=h3
   refine⟨_,vp_ (rs:=rd x) (ro:=[]) h1 h2 rfl ?_,fn_ rfl rfl,g3⟩
   intro κ G st' a w _ hsame hG
   have e:=ev_lit hG hx hsame.1
   refine⟨.int k (k.wrap n),?_,sOl_ rfl⟩
   simp[execOp,hop,e,convert,run_underlying g1,run_underlying g2,Conv.intToInt]
  ·exact h3.elim
 ·rename_i f first captured hop
  obtain⟨hf,h⟩:=h
  rcases h with h | h
  case inr=>exact h
  obtain⟨d,h1,h2,h3⟩:=dKi_ h
  unfold capK at h3
  split at h3
  ·rename_i cs hcs
   obtain⟨g1,g2⟩:=h3
   have e:first=#[]:=by simpa using hf
   subst e
   refine⟨_,vmF_1 hop h1 h2 hcs (fun n hn x hx=>?_),fn_ rfl rfl,g2⟩
   rw[a8] at g1
   have:=g1 n hn
   simpa[bN_,hx] using this
  ·exact h3.elim
 ·exact h
 ·exact h
 ·exact h
 ·exact h
 ·exact h
 ·exact h
 ·exact h.elim
end Go.Av
