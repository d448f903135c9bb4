/- A part of the proof: lemmas only; nothing is claimed here beyond what each lemma says. -/
/- Rules by which a region is reckoned, from the first operation on: nothing that comes later is looked at. -/
import Derived.Test.YtkoghcphkdecoaaGreatAvA
set_option linter.unusedSimpArgs false
set_option linter.unusedVariables false
set_option linter.defProp false
namespace Go.Av
variable{P:Program}{nt:Nat}{ops:Array Oper}

universe u
inductive Tok{α:Sort u}(a:α):Type
 | mk:Tok a
def CallH(P:Program)(f:FuncId)(v o c:List PV)(K:List Bool→PV→Prop)(H:Prop)(_:Tok K)(_:Tok H):Prop:=CallV P f v o c K∨H
def CondH(b:Bool)(A B:Prop)(_:Tok A)(_:Tok B):Prop:=Cond b A B
theorem CondH.mk{b:Bool}{A B:Prop}(h1:b=true→A)(h2:b=false→B):CondH b A B .mk .mk:=⟨h1,h2⟩
@[congr] theorem CondH.cg {b b':Bool} {A B:Prop} (h:∀ _:Unit,b=b'):CondH b A B .mk .mk=CondH b' A B .mk .mk:=by rw[h ()]
theorem CallH.mk{f:FuncId}{views owns caps args:List PV}{K:List Bool→PV→Prop}(ms:List Bool){res:PV}(h:Sat P f args res)(ha:args=mix ms views owns++caps)(hK:K ms res){H:Prop}:CallH P f views owns caps K H .mk .mk:=.inl (CallV.mk ms h ha hK)
theorem CHh_{f:FuncId}{v o c:List PV}{K:List Bool→PV→Prop}{H:Prop}(h:H):CallH P f v o c K H .mk .mk:=.inr h

def HandH(H:Prop)(_:Tok H):Prop:=H
theorem HandH.mk{H:Prop}(h:H):HandH H .mk:=h
def OrH(A H:Prop)(_:Tok H):Prop:=A∨H
@[congr] theorem OrH.cg {A A' H:Prop} (h:∀ _:Unit,A=A'):OrH A H .mk=OrH A' H .mk:=by rw[h ()]
theorem OHc_(f:FuncId)(v o c:List PV)(K:List Bool→PV→Prop)(H:Prop):OrH (CallH P f v o c K H .mk .mk) H .mk=CallH P f v o c K H .mk .mk:=by
 simp only[OrH,CallH,or_assoc,or_self]
theorem OHf_(H:Prop):OrH False H .mk=HandH H .mk:=by simp only[OrH,HandH,false_or]
def MfH(A H:Prop)(_:Tok A)(_:Tok H):Prop:=A∨H
theorem MfH.fr{A H:Prop}(h:A):MfH A H .mk .mk:=.inl h
theorem MfH.sh{A H:Prop}(h:H):MfH A H .mk .mk:=.inr h
def objK'{α:Type}(x:Option α)(K:α→Prop):Prop:=
 match x with
 | some y=>K y
 | none=>False
@[congr] theorem objK'.cg {α:Type} {x x':Option α} {K:α→Prop} (h:∀ _:Unit,x=x'):objK' x K=objK' x' K:=by rw[h ()]
theorem oKs_{α:Type}(y:α)(K:α→Prop):objK' (some y) K=K y:=rfl
@[congr] theorem wpD.cg (l:List Oper) (st st':St) (acc:List Rec) (K:List Rec→St→Prop) (h:∀ _:Unit,st=st'):wpD P nt ops l st acc K=wpD P nt ops l st' acc K:=by rw[h ()]
theorem wpD_c(o:Oper)(os:List Oper)(s:Nat→SlotV)(ob:Nat→Option (Nat×List PV))(acc:List Rec)(K:List Rec→St→Prop):
 wpD P nt ops (o::os) ⟨s,ob⟩ acc K=stepG P nt ops ⟨s,ob⟩ o fun r=>wpD P nt ops os (St.app ⟨s,ob⟩ r) (r::acc) K:=rfl
theorem wpD_n(s:Nat→SlotV)(ob:Nat→Option (Nat×List PV))(acc:List Rec)(K:List Rec→St→Prop):wpD P nt ops [] ⟨s,ob⟩ acc K=K acc.reverse ⟨s,ob⟩:=rfl
theorem sGs_1(st:St)(d:Tmp)(op:Op)(T:TypeId)(pos:String)(af:Array Edge)(j:Nat)(want:Bool)(K:Rec→Prop):
 stepG P nt ops st { dst:=some d,op:=op,type:=T,pos:=pos,after:=af,guard:=some (j,want) } K=
  objK' (gst ops j) fun g=>guardK (st.s g) want (recO P nt st { dst:=some d,op:=op,type:=T,pos:=pos,after:=af,guard:=some (j,want) } fun r=>K { r with rs:=g::r.rs })
   (d<nt∧K { rs:=[g],us:=[(d,.tup [])] }):=by
 simp only[stepG,objK']
 cases h:gst ops j with
 | none=>simp
 | some g=>simp
theorem sGs_(st:St)(op:Op)(T:TypeId)(pos:String)(af:Array Edge)(j:Nat)(want:Bool)(K:Rec→Prop):
 stepG P nt ops st { dst:=none,op:=op,type:=T,pos:=pos,after:=af,guard:=some (j,want) } K=
  objK' (gst ops j) fun g=>guardK (st.s g) want (recO P nt st { dst:=none,op:=op,type:=T,pos:=pos,after:=af,guard:=some (j,want) } fun r=>K { r with rs:=g::r.rs })
   (K { rs:=[g],us:=[] }):=by
 simp only[stepG,objK']
 cases h:gst ops j with
 | none=>simp
 | some g=>simp
@[congr] theorem binKK.cg {st:St} {T:TypeId} {op:BinOp} {x x' y y':SlotV} {K:Value→Prop} {H:List Nat→SlotV→Prop} (h:∀ _:Unit,x=x') (h':∀ _:Unit,y=y'):binKK P st T op x y K H=binKK P st T op x' y' K H:=by rw[h (),h' ()]
@[congr] theorem aggK.cg {T:TypeId} {op:BinOp} {x x' y y':List PV} {K:Value→Prop} (h:∀ _:Unit,x=x') (h':∀ _:Unit,y=y'):aggK P T op x y K=aggK P T op x' y' K:=by rw[h (),h' ()]
@[congr] theorem unKK.cg {op:UnOp} {x x':SlotV} {K:Value→Prop} (h:∀ _:Unit,x=x'):unKK op x K=unKK op x' K:=by rw[h ()]
@[congr] theorem pickK.cg {c c':SlotV} {A B:Prop} (h:∀ _:Unit,c=c'):pickK c A B=pickK c' A B:=by rw[h ()]
@[congr] theorem extractK.cg {x x':SlotV} {i:Nat} {K:SlotV→Prop} (h:∀ _:Unit,x=x'):extractK x i K=extractK x' i K:=by rw[h ()]
@[congr] theorem boxK.cg {x x':SlotV} {K:CV→Prop} (h:∀ _:Unit,x=x'):boxK x K=boxK x' K:=by rw[h ()]
@[congr] theorem closK.cg {x x':SlotV} {K:FuncId→List PV→Prop} (h:∀ _:Unit,x=x'):closK x K=closK x' K:=by rw[h ()]
@[congr] theorem guardK.cg {x x':SlotV} {w:Bool} {A B:Prop} (h:∀ _:Unit,x=x'):guardK x w A B=guardK x' w A B:=by rw[h ()]
@[congr] theorem addF.cg {x x':SlotV} {k o o':Nat} {K:SlotV→Prop} (h:∀ _:Unit,x=x') (ho:∀ _:Unit,o=o'):addF x k o K=addF x' k o' K:=by rw[h (),ho ()]
@[congr] theorem loadK.cg {st:St} {T:TypeId} {x:Operand} {K:List Nat→List Nat→SlotV→Prop} {v v':SlotV} (h:∀ _:Unit,v=v'):loadK P st T x K v=loadK P st T x K v':=by rw[h ()]
@[congr] theorem storeK.cg {st:St} {T:TypeId} {x y:Operand} {z z':SlotV} {K:Rec→Prop} {v v':SlotV} (h:∀ _:Unit,v=v') (hz:∀ _:Unit,z=z'):storeK P st T x y z K v=storeK P st T x y z' K v':=by rw[h (),hz ()]
@[congr] theorem lenK.cg {st:St} {T:TypeId} {x x':SlotV} {K:List Nat→Nat→Prop} (h:∀ _:Unit,x=x'):lenK P T st x K=lenK P T st x' K:=by rw[h ()]
@[congr] theorem idxK.cg {st:St} {T:TypeId} {x y:Operand} {K:List Nat→List Nat→SlotV→Prop} {v v' u u':SlotV} (h:∀ _:Unit,v=v') (h':∀ _:Unit,u=u'):idxK P st T x y K v u=idxK P st T x y K v' u':=by rw[h (),h' ()]
@[congr] theorem Cond.cg {b b':Bool} {A B:Prop} (h:∀ _:Unit,b=b'):Cond b A B=Cond b' A B:=by rw[h ()]

@[congr] theorem boolOf.cg {x x':SlotV} {K:Bool→Prop} (h:∀ _:Unit,x=x'):boolOf x K=boolOf x' K:=by rw[h ()]
@[congr] theorem noC.cg {st:St} {c c':Nat} (h:∀ _:Unit,c=c'):St.noC st c=St.noC st c':=by rw[h ()]
@[congr] theorem objK.cg {α:Type} {x x':Option α} {f:α→Prop} (h:∀ _:Unit,x=x'):(∃ y,x=some y∧f y)=(∃ y,x'=some y∧f y):=by rw[h ()]

section
variable(st:St)(d:Nat)(ty T T':TypeId)(pos:String)(af:Array Edge)(g:Option (Nat×Bool))(K:Rec→Prop)(x y:Operand)
theorem rOm_4:recO P nt st { dst:=some d,op:=.move x,type:=ty,pos:=pos,after:=af,guard:=g } K=(d<nt∧K { rs:=rd x,us:=[(d,ev P st ty x)] }):=rfl
theorem rOa_1:recO P nt st { dst:=some d,op:=.assign x,type:=ty,pos:=pos,after:=af,guard:=g } K=(d<nt∧K { rs:=rd x,us:=[(d,ev P st ty x)] }):=rfl
theorem rOp_(c:Operand):recO P nt st { dst:=some d,op:=.pick c x y,type:=ty,pos:=pos,after:=af,guard:=g } K=(d<nt∧pickK (ev P st 0 c) (K { rs:=rd c++rd x,us:=[(d,ev P st ty x)] }) (K { rs:=rd c++rd y,us:=[(d,ev P st ty y)] })):=rfl
theorem rOa_2:recO P nt st { dst:=some d,op:=.alloc T,type:=ty,pos:=pos,after:=af,guard:=g } K=(d<nt∧ZeroIs P T (zcv P 8 T)∧st.noR d∧K { fr:=[d],us:=[(d,.box (zcv P 8 T))] }):=rfl
theorem rOb_2:recO P nt st { dst:=some d,op:=.box T x,type:=ty,pos:=pos,after:=af,guard:=g } K=(d<nt∧boxK (ev P st T x) fun c=>st.noR d∧K { rs:=rd x,fr:=[d],us:=[(d,.box c)] }):=rfl
theorem rOl_2:recO P nt st { dst:=some d,op:=.load T x,type:=ty,pos:=pos,after:=af,guard:=g } K=(d<nt∧loadK P st T x (fun rs ro sv=>K { rs:=rs,ro:=ro,us:=[(d,sv)] }) (ev P st 0 x)):=rfl
theorem rOs_2:recO P nt st { dst:=none,op:=.store T x y,type:=ty,pos:=pos,after:=af,guard:=g } K=(storeK P st T x y (ev P st T y) K (ev P st 0 x)):=by simp[recO]
theorem rOb_3(op:BinOp)(ex:TypeId):recO P nt st { dst:=some d,op:=.binOp op T x y ex,type:=ty,pos:=pos,after:=af,guard:=g } K=(d<nt∧binKK P st T op (ev P st T x) (ev P st T y) (fun v=>K { rs:=rd x++rd y,us:=[(d,.val (.pv (.lit v)))] }) (fun ro sv=>K { rs:=rd x++rd y,ro:=ro,us:=[(d,sv)] })):=rfl
theorem rOu_(op:UnOp):recO P nt st { dst:=some d,op:=.unOp op T x,type:=ty,pos:=pos,after:=af,guard:=g } K=(d<nt∧unKK op (ev P st T x) fun v=>K { rs:=rd x,us:=[(d,.val (.pv (.lit v)))] }):=rfl
theorem rOe_(i:Nat):recO P nt st { dst:=some d,op:=.extract x i,type:=ty,pos:=pos,after:=af,guard:=g } K=(d<nt∧extractK (ev P st 0 x) i fun sv=>K { rs:=rd x,us:=[(d,sv)] }):=rfl
theorem rOf_(k:Nat):recO P nt st { dst:=some d,op:=.fieldAddr T x k,type:=ty,pos:=pos,after:=af,guard:=g } K=(d<nt∧FieldIs P T k (fOff P T k)∧addF (ev P st 0 x) k (fOff P T k) fun sv=>K { rs:=rd x,us:=[(d,sv)] }):=rfl
theorem rOc_2(c:Call):recO P nt st { dst:=some d,op:=.call c,type:=ty,pos:=pos,after:=af,guard:=g } K=callK P nt st { dst:=some d,op:=.call c,type:=ty,pos:=pos,after:=af,guard:=g } c K:=rfl
theorem rOi_1:recO P nt st { dst:=some d,op:=.indexAddr T x y,type:=ty,pos:=pos,after:=af,guard:=g } K=(d<nt∧idxK P st T x y (fun rs ro sv=>K { rs:=rs,ro:=ro,us:=[(d,sv)] }) (ev P st 0 x) (ev P st 0 y)):=rfl
theorem rOm_5:recO P nt st { dst:=some d,op:=.makeSlice T x y,type:=ty,pos:=pos,after:=af,guard:=g } K=
 makeK (fun n m=>SlIs P T (eSize P T) (eBytes P T)∧ElemZero P T (zel P T)∧(zel P T).size=eSize P T∧0≤n∧n≤m∧m≤1073741824∧eBytes P T≤65536∧
  (d<nt∧(∀ c∈(rO_ (.sl true (eSize P T) (List.replicate n.toNat (zel P T))) (16*d)).map (·.1),st.noC c)∧
  K { rs:=rd x++rd y,ro:=[],fc:=(rO_ (.sl true (eSize P T) (List.replicate n.toNat (zel P T))) (16*d)).map (·.1),us:=[(d,resSV (.sl true (eSize P T) (List.replicate n.toNat (zel P T))) (16*d))],uo:=deadObjs []++newObjs (rO_ (.sl true (eSize P T) (List.replicate n.toNat (zel P T))) (16*d)) })) (ev P st 0 x) (ev P st 0 y):=rfl
end
@[congr] theorem makeK.cg {K:Int→Int→Prop} {x x' y y':SlotV} (h:∀ _:Unit,x=x') (h':∀ _:Unit,y=y'):makeK K x y=makeK K x' y':=by rw[h (),h' ()]
theorem makeK_int(K:Int→Int→Prop)(k k':IntKind)(n m:Int):makeK K (.val (.pv (.lit (.int k n)))) (.val (.pv (.lit (.int k' m))))=K n m:=rfl

theorem bKl_{st:St}(T:TypeId)(op:BinOp)(x y:Value)(K:Value→Prop)(H:List Nat→SlotV→Prop):binKK P st T op (.val (.pv (.lit x))) (.val (.pv (.lit y))) K H=binK P T op x y K:=rfl
theorem bKa_{st:St}(T:TypeId)(op:BinOp)(x y:List PV)(K:Value→Prop)(H:List Nat→SlotV→Prop):binKK P st T op (.val (.pv (.agg x))) (.val (.pv (.agg y))) K H=aggK P T op x y K:=rfl
theorem bKn_2{st:St}(T:TypeId)(op:BinOp)(b:Bool)(sz sz':Nat)(es:List PV)(K:Value→Prop)(H:List Nat→SlotV→Prop):binKK P st T op (.val (.pv (.sl b sz es))) (.val (.pv (.sl true sz' []))) K H=(IsSl P T∧nilK op es (H [])):=rfl
theorem bKn_3{st:St}(T:TypeId)(op:BinOp)(c sz':Nat)(K:Value→Prop)(H:List Nat→SlotV→Prop):binKK P st T op (.val (.own c)) (.val (.pv (.sl true sz' []))) K H=objK' (st.o c) fun q=>IsSl P T∧nilK op q.2 (H [c]):=by
 simp only[binKK]
 cases st.o c<;>rfl
theorem aKe_(T:TypeId)(x y:List PV)(K:Value→Prop):aggK P T .eql x y K=(EqS P T (kdsOf x)∧kdsOf x=kdsOf y∧K (.bool (eqPVs x y))):=rfl
theorem aKn_(T:TypeId)(x y:List PV)(K:Value→Prop):aggK P T .neq x y K=(EqS P T (kdsOf x)∧kdsOf x=kdsOf y∧K (.bool (!eqPVs x y))):=rfl
theorem nKe_(es:List PV)(K:SlotV→Prop):nilK .eql es K=K (.ex (nilQ es true)):=rfl
theorem nKn_(es:List PV)(K:SlotV→Prop):nilK .neq es K=K (.ex (nilQ es false)):=rfl
theorem kOn_:kdsOf []=[]:=rfl
theorem kOc_(p:PV)(ps:List PV):kdsOf (p::ps)=kdOf p::kdsOf ps:=rfl
theorem kOi_(k:IntKind)(n:Int):kdOf (.lit (.int k n))=some (.int k):=rfl
theorem kOb_(n:Bool):kdOf (.lit (.bool n))=some .bool:=rfl
theorem kOs_(n:ByteArray):kdOf (.lit (.string n))=some .str:=rfl
theorem ePs_1(x y:PV):eqPVs [x] [y]=eqPV x y:=rfl
theorem ePs_(x y x' y':PV)(xs ys:List PV):eqPVs (x::x'::xs) (y::y'::ys)=(eqPV x y&&eqPVs (x'::xs) (y'::ys)):=rfl
theorem ePi_(k k':IntKind)(a b:Int):eqPV (.lit (.int k a)) (.lit (.int k' b))=decide (a=b):=rfl
theorem ePb_(a b:Bool):eqPV (.lit (.bool a)) (.lit (.bool b))=(a==b):=rfl
theorem ePs_2(a b:ByteArray):eqPV (.lit (.string a)) (.lit (.string b))=decide (a=b):=rfl
theorem cKc_2(st:St)(d ty:Nat)(op:Op)(pos:String)(af:Array Edge)(gd:Option (Nat×Bool))(x:Operand)(T:TypeId)(K:Rec→Prop):
 callK P nt st { dst:=some d,op:=op,type:=ty,pos:=pos,after:=af,guard:=gd } { callee:=.builtin .cap,args:=⟨[x]⟩,argTypes:=⟨[T]⟩ } K=
  (d<nt∧capNil P T (K { rs:=rd x,us:=[(d,.val (.pv (.lit (.int .i64 0))))] }) (ev P st T x)):=rfl
@[congr] theorem capNil.cg {T:TypeId} {A:Prop} {v v':SlotV} (h:∀ _:Unit,v=v'):capNil P T A v=capNil P T A v':=by rw[h ()]
theorem cNn_(T:TypeId)(A:Prop)(sz:Nat):capNil P T A (.val (.pv (.sl true sz [])))=(IsSl P T∧A):=rfl
section
variable(T:TypeId)(k:IntKind)(a b:Int)(K:Value→Prop)
theorem bKa_2:binK P T .add (.int k a) (.int k b) K=K (.int k (k.wrap (a+b))):=by simp[binK]
theorem bKs_9:binK P T .sub (.int k a) (.int k b) K=K (.int k (k.wrap (a-b))):=by simp[binK]
theorem bKm_1:binK P T .mul (.int k a) (.int k b) K=K (.int k (k.wrap (a*b))):=by simp[binK]
theorem bKe_:binK P T .eql (.int k a) (.int k b) K=K (.bool (decide (a=b))):=by simp[binK]
theorem bKn_5:binK P T .neq (.int k a) (.int k b) K=K (.bool (!decide (a=b))):=by simp[binK]
theorem bKl_1:binK P T .lss (.int k a) (.int k b) K=K (.bool (decide (a<b))):=by simp[binK]
theorem bKl_2:binK P T .leq (.int k a) (.int k b) K=K (.bool (decide (a≤b))):=by simp[binK]
theorem bKg_:binK P T .gtr (.int k a) (.int k b) K=K (.bool (decide (b<a))):=by simp[binK]
theorem bKg_1:binK P T .geq (.int k a) (.int k b) K=K (.bool (decide (b≤a))):=by simp[binK]
theorem bKs_7(a b:ByteArray):binK P T .eql (.string a) (.string b) K=K (.bool (decide (a=b))):=rfl
theorem bKs_(a b:ByteArray):binK P T .neq (.string a) (.string b) K=K (.bool (!decide (a=b))):=rfl
theorem bKb_1(a b:Bool):binK P T .eql (.bool a) (.bool b) K=(P.underlying T=some .bool∧K (.bool (a==b))):=rfl
theorem bKb_(a b:Bool):binK P T .neq (.bool a) (.bool b) K=(P.underlying T=some .bool∧K (.bool (!(a==b)))):=rfl
theorem uKn_(b:Bool):unKK .not (.val (.pv (.lit (.bool b)))) K=K (.bool (!b)):=rfl
theorem uKn_1:unKK .neg (.val (.pv (.lit (.int k a)))) K=K (.int k (k.wrap (0-a))):=rfl
end
theorem pKb_(b:Bool)(A B:Prop):pickK (.val (.pv (.lit (.bool b)))) A B=CondH b A B .mk .mk:=rfl
theorem eKt_(xs:List CV)(i:Nat)(K:SlotV→Prop):extractK (.tup xs) i K=boxK (((xs[i]?).map SlotV.val).getD .dead) (fun c=>K (.val c)):=by
 simp only[extractK]
 cases xs[i]?<;>rfl
theorem bKv_(c:CV)(K:CV→Prop):boxK (.val c) K=K c:=rfl
theorem cKh_(r:Nat)(sh:Sh)(ps:List PV)(K:FuncId→List PV→Prop):closK (.hptr r sh ps) K=False:=rfl
theorem cKc_1(f:FuncId)(cs:List PV)(K:FuncId→List PV→Prop):closK (.val (.pv (.clo f cs))) K=K f cs:=rfl
theorem gKt_(b:Bool)(A B:Prop):guardK (.val (.pv (.lit (.bool b)))) true A B=CondH b A B .mk .mk:=rfl
theorem gKf_(b:Bool)(A B:Prop):guardK (.val (.pv (.lit (.bool b)))) false A B=CondH b B A .mk .mk:=rfl
theorem gKu_(w:Bool)(A B:Prop):guardK (.tup []) w A B=B:=rfl
theorem bOb_(b:Bool)(K:Bool→Prop):boolOf (.val (.pv (.lit (.bool b)))) K=K b:=rfl
theorem Cond_t(A B:Prop):CondH true A B .mk .mk=A:=by simp[CondH,Cond]
theorem Cond_f(A B:Prop):CondH false A B .mk .mk=B:=by simp[CondH,Cond]
theorem Cn_(b:Bool)(A B:Prop):CondH (!b) A B .mk .mk=CondH b B A .mk .mk:=by cases b<;>simp[CondH,Cond]
theorem addF_b(r:Nat)(p:List Nat)(o k off:Nat)(K:SlotV→Prop):addF (.bptr r p o) k off K=K (.bptr r (p++[k]) (o+off)):=rfl
theorem addF_e(c sz i:Nat)(p:List Nat)(o k off:Nat)(K:SlotV→Prop):addF (.eptr c sz i p o) k off K=K (.eptr c sz i (p++[k]) (o+off)):=rfl
theorem addF_p(fs:List PV)(k off:Nat)(K:SlotV→Prop):addF (.val (.pv (.ptr (.agg fs)))) k off K=((PV.sizes (fs.take k)=off∧k<fs.length)∧K (.val (.pv (.ptr (fs.getD k default))))):=by
 simp only[addF,eq_iff_iff]
 constructor
 ·rintro ⟨⟨fs',h,h1,h2⟩,h3⟩
  cases h
  exact⟨⟨h1,h2⟩,h3⟩
 ·rintro ⟨⟨h1,h2⟩,h3⟩
  exact⟨⟨fs,rfl,h1,h2⟩,h3⟩
def loadB(P:Program)(T:TypeId)(r:Nat)(p:List Nat)(off:Nat)(K:CV→Prop):SlotV→Prop
 | .box c=>(c.okp p=true∧c.offs p=off∧nG_ (c.at p)=true∧TyIs P T (c.at p).isAgg (c.at p).size)∧K (c.at p)
 | _=>False
@[congr] theorem loadB.cg {T:TypeId} {r:Nat} {p:List Nat} {off:Nat} {K:CV→Prop} {v v':SlotV} (h:∀ _:Unit,v=v'):loadB P T r p off K v=loadB P T r p off K v':=by rw[h ()]
theorem lBb_(T:TypeId)(r:Nat)(p:List Nat)(off:Nat)(K:CV→Prop)(c:CV):loadB P T r p off K (.box c)=((c.okp p=true∧c.offs p=off∧nG_ (c.at p)=true∧TyIs P T (c.at p).isAgg (c.at p).size)∧K (c.at p)):=rfl
theorem lKb_(st:St)(T:TypeId)(x:Operand)(K:List Nat→List Nat→SlotV→Prop)(r:Nat)(p:List Nat)(off:Nat):loadK P st T x K (.bptr r p off)=loadB P T r p off (fun c=>K (r::rd x) [] (.val c)) (st.s r):=by
 simp only[loadK]
 cases st.s r<;>rfl
theorem lKp_(st:St)(T:TypeId)(x:Operand)(K:List Nat→List Nat→SlotV→Prop)(v:PV):loadK P st T x K (.val (.pv (.ptr v)))=(TyIs P T (CV.pv v).isAgg v.size∧K (rd x) [] (.val (.pv v))):=rfl
def objK{α:Type}(x:Option α)(K:α→Prop):Prop:=
 match x with
 | some y=>K y
 | none=>False
@[congr] theorem objK.cg' {α:Type} {x x':Option α} {K:α→Prop} (h:∀ _:Unit,x=x'):objK x K=objK x' K:=by rw[h ()]
theorem oKs_1{α:Type}(y:α)(K:α→Prop):objK (some y) K=K y:=rfl
theorem lKs_(st:St)(T:TypeId)(s:ByteArray)(K:List Nat→Nat→Prop):lenK P T st (.val (.pv (.lit (.string s)))) K=(P.underlying T=some .string∧K [] s.size):=rfl
theorem lKs_1(st:St)(T:TypeId)(b:Bool)(sz:Nat)(es:List PV)(K:List Nat→Nat→Prop):lenK P T st (.val (.pv (.sl b sz es))) K=(IsSl P T∧K [] es.length):=rfl
theorem lKo_1(st:St)(T:TypeId)(c:Nat)(K:List Nat→Nat→Prop):lenK P T st (.val (.own c)) K=objK (st.o c) (fun q=>IsSl P T∧K [c] q.2.length):=by
 simp only[lenK]
 cases st.o c with
 | none=>rfl
 | some q=>rfl
def storeB(P:Program)(T:TypeId)(r:Nat)(p:List Nat)(off:Nat)(z:CV)(K:CV→Prop):SlotV→Prop
 | .box c=>(c.okp p=true∧c.offs p=off∧z.size=(c.at p).size∧TyIs P T z.isAgg z.size)∧K (c.setAt p z)
 | _=>False
@[congr] theorem storeB.cg {T:TypeId} {r:Nat} {p:List Nat} {off:Nat} {z:CV} {K:CV→Prop} {v v':SlotV} (h:∀ _:Unit,v=v'):storeB P T r p off z K v=storeB P T r p off z K v':=by rw[h ()]
theorem sBb_(T:TypeId)(r:Nat)(p:List Nat)(off:Nat)(z:CV)(K:CV→Prop)(c:CV):storeB P T r p off z K (.box c)=((c.okp p=true∧c.offs p=off∧z.size=(c.at p).size∧TyIs P T z.isAgg z.size)∧K (c.setAt p z)):=rfl
theorem sKb_(st:St)(T:TypeId)(x y:Operand)(z:CV)(K:Rec→Prop)(r:Nat)(p:List Nat)(off:Nat):storeK P st T x y (.val z) K (.bptr r p off)=storeB P T r p off z (fun c=>K { rs:=r::(rd x++rd y),us:=[(r,.box c)] }) (st.s r):=by
 simp only[storeK]
 cases st.s r<;>rfl
@[congr] theorem CallH.cg {f:FuncId} {v v' o o' c c':List PV} {K:List Bool→PV→Prop} {H:Prop} (h1:∀ _:Unit,v=v') (h2:∀ _:Unit,o=o') (h3:∀ _:Unit,c=c'):CallH P f v o c K H .mk .mk=CallH P f v' o' c' K H .mk .mk:=by rw[h1 (),h2 (),h3 ()]
def callW(P:Program)(nt:Nat)(st:St)(d f:Nat)(caps:List PV)(rs:List Nat)(cvs:List CV)(K:Rec→Prop)(H:Prop)(_:Tok H):Prop:=
 CV.wholes st.o cvs=true∧
  CallH P f (CV.pvws st.o cvs) (CV.pvos st.o cvs) caps (fun ms res=>
   (mixNames ms cvs).Nodup∧ 
   (mixPure ms cvs||(res.noView&&(viewNames ms cvs).all fun n=>!(mixNames ms cvs).contains n))=true∧
   (∀ n∈(rO_ res (16*d)).map (·.1),st.noC n)∧
   K { rs:=rs,ro:=CV.namess cvs,fc:=(rO_ res (16*d)).map (·.1),us:=[(d,resSV res (16*d))],uo:=deadObjs (mixNames ms cvs)++newObjs (rO_ res (16*d)) }) H .mk .mk
@[congr] theorem callW.cg {st:St} {d f:Nat} {caps caps':List PV} {rs:List Nat} {cvs cvs':List CV} {K:Rec→Prop} {H:Prop} (h:∀ _:Unit,caps=caps') (h':∀ _:Unit,cvs=cvs'):callW P nt st d f caps rs cvs K H .mk=callW P nt st d f caps' rs cvs' K H .mk:=by rw[h (),h' ()]
theorem cWc_{st:St}{d f:Nat}{caps:List PV}{rs:List Nat}{c:CV}{cvs:List CV}{K:Rec→Prop}{H:Prop}:callW P nt st d f caps rs (c::cvs) K H .mk=
 (CV.wholes st.o (c::cvs)=true∧
  CallH P f (CV.pvws st.o (c::cvs)) (CV.pvos st.o (c::cvs)) caps (fun ms res=>
   (mixNames ms (c::cvs)).Nodup∧ 
   (mixPure ms (c::cvs)||(res.noView&&(viewNames ms (c::cvs)).all fun n=>!(mixNames ms (c::cvs)).contains n))=true∧
   (∀ n∈(rO_ res (16*d)).map (·.1),st.noC n)∧
   K { rs:=rs,ro:=CV.namess (c::cvs),fc:=(rO_ res (16*d)).map (·.1),us:=[(d,resSV res (16*d))],uo:=deadObjs (mixNames ms (c::cvs))++newObjs (rO_ res (16*d)) }) H .mk .mk):=rfl
theorem cWn_{st:St}{d f:Nat}{caps:List PV}{rs:List Nat}{K:Rec→Prop}{H:Prop}:callW P nt st d f caps rs [] K H .mk=
 CallH P f [] [] caps (fun ms res=>
  (∀ n∈(rO_ res (16*d)).map (·.1),st.noC n)∧
  K { rs:=rs,ro:=[],fc:=(rO_ res (16*d)).map (·.1),us:=[(d,resSV res (16*d))],uo:=newObjs (rO_ res (16*d)) }) H .mk .mk:=by
 simp[callW,CallH,CV.wholes,CV.pvws,CV.pvos,mixNames,mixPure,CV.namess,deadObjs]
theorem vl_(v:Value):(PV.lit v).view=.lit v:=rfl
theorem vs_(b:Bool)(n:Nat)(l:List PV):(PV.sl b n l).view=.sl false n (PV.views l):=rfl
theorem va_(l:List PV):(PV.agg l).view=.agg (PV.views l):=rfl
theorem vc_(f:FuncId)(l:List PV):(PV.clo f l).view=.clo f l:=rfl
theorem vp_2(v:PV):(PV.ptr v).view=.ptr v:=rfl
theorem cKv_1(st:St)(d ty:Nat)(op:Op)(pos:String)(af:Array Edge)(gd:Option (Nat×Bool))(g:Operand)(as:List Operand)(ts:List TypeId)(K:Rec→Prop)(H:d<nt):
 callK P nt st { dst:=some d,op:=op,type:=ty,pos:=pos,after:=af,guard:=gd } { callee:=.value g,args:=⟨as⟩,argTypes:=⟨ts⟩ } K=
  OrH (closK (ev P st 0 g) fun f caps=>(∀ p∈caps,PV.size p=1∧(CV.pv p).isAgg=false)∧callW P nt st d f caps (rd g++as.flatMap rd) (argCVs P st as ts) K (RecOk P nt st { dst:=some d,op:=op,type:=ty,pos:=pos,after:=af,guard:=gd } K) .mk) (RecOk P nt st { dst:=some d,op:=op,type:=ty,pos:=pos,after:=af,guard:=gd } K) .mk:=by
 simp[callK,callW,CallH,H,OrH]
theorem cKl_(st:St)(d ty:Nat)(op:Op)(pos:String)(af:Array Edge)(gd:Option (Nat×Bool))(x:Operand)(T:TypeId)(K:Rec→Prop):
 callK P nt st { dst:=some d,op:=op,type:=ty,pos:=pos,after:=af,guard:=gd } { callee:=.builtin .len,args:=⟨[x]⟩,argTypes:=⟨[T]⟩ } K=
  (d<nt∧lenK P T st (ev P st T x) fun ro n=>K { rs:=rd x,ro:=ro,us:=[(d,.val (.pv (.lit (.int .i64 n))))] }):=rfl
theorem ev_tmp(st:St)(T:TypeId)(t:Nat):ev P st T (.tmp t)=ptrOf t (st.s t):=rfl
theorem ef_2(st:St)(T:TypeId)(f:FuncId):ev P st T (.func f)=.val (.pv (.clo f [])):=rfl
theorem ev_int(st:St)(T:TypeId)(k:IntKind)(n:Int):ev P st T (.const (.int k n))=.val (.pv (.lit (.int k n))):=rfl
theorem eb_(st:St)(T:TypeId)(b:Bool):ev P st T (.const (.bool b))=.val (.pv (.lit (.bool b))):=rfl
theorem ev_str(st:St)(T:TypeId)(b:ByteArray):ev P st T (.const (.string b))=.val (.pv (.lit (.string b))):=rfl
theorem ev_nil(st:St)(T:TypeId):ev P st T (.const (.slice none 0 0))=.val (.pv (.sl true (eSize P T) [])):=rfl
theorem pOb_1(k:Nat)(c:CV):ptrOf k (.box c)=.bptr k [] 0:=rfl
theorem pOh_1(k:Nat)(sh:Sh)(ps:List PV)(x:HC):ptrOf k (.hold sh ps x)=.hptr k sh ps:=rfl
theorem pOh_(k r:Nat)(sh:Sh)(ps:List PV):ptrOf k (.hptr r sh ps)=.hptr r sh ps:=rfl
theorem aCh_(r:Nat)(sh:Sh)(ps:List PV):argCV (.hptr r sh ps)=.gone 0:=rfl
theorem aCb_(r:Nat)(p:List Nat)(o:Nat):argCV (.bptr r p o)=.gone 0:=rfl
theorem pOv_(k:Nat)(c:CV):ptrOf k (.val c)=.val c:=rfl
theorem pOt_(k:Nat)(c:List CV):ptrOf k (.tup c)=.tup c:=rfl
theorem pOb_(k r:Nat)(p:List Nat)(o:Nat):ptrOf k (.bptr r p o)=.bptr r p o:=rfl
theorem pOe_1(k:Nat)(Q:Value→Prop):ptrOf k (.ex Q)=.ex Q:=rfl
theorem pOe_(k c sz i:Nat)(p:List Nat)(o:Nat):ptrOf k (.eptr c sz i p o)=.eptr c sz i p o:=rfl

theorem sKr_(K:St→Prop)(Q:Exit→St→Prop)(st:St):seqK K Q .ret st=Q .ret st:=rfl
theorem sKe_1(K:St→Prop)(Q:Exit→St→Prop)(i:Nat)(st:St):seqK K Q (.exit i) st=Q (.exit i) st:=rfl
theorem bKn_(i:Nat)(Q:Exit→St→Prop)(st:St):blockK i Q .normal st=Q .normal st:=rfl
theorem bKr_(i:Nat)(Q:Exit→St→Prop)(st:St):blockK i Q .ret st=Q .ret st:=rfl
end Go.Av
namespace Go.Av
variable{P:Program}{nt:Nat}
def RetL(P:Program)(st:St)(rs:List ResultVar)(res:PV):Prop:=CV.wholes st.o (resCVs P st rs)=true∧resOks P st rs∧(CV.namess (resCVs P st rs)).Nodup∧res=asRes (CV.pvos st.o (resCVs P st rs))
def RetR(P:Program)(st:St)(rs:List ResultVar)(res:PV):Prop:=CV.wholes st.o (resCVs P st rs)=true∧resOks P st rs∧res=asRes (CV.pvws st.o (resCVs P st rs))
theorem RetL.ok{st:St}{rs:List ResultVar}{res:PV}{e:Exit}(he:e=.normal∨e=.ret)(h:RetL P st rs res):(e=.normal∨e=.ret)∧RetOk P st rs res:=⟨he,h.1,h.2.1,.inl ⟨h.2.2.1,h.2.2.2⟩⟩
theorem RetR.ok{st:St}{rs:List ResultVar}{res:PV}{e:Exit}(he:e=.normal∨e=.ret)(h:RetR P st rs res):(e=.normal∨e=.ret)∧RetOk P st rs res:=⟨he,h.1,h.2.1,.inr h.2.2⟩
theorem rCs_2(st:St):resCVs P st []=[]:=rfl
theorem rCs_1(st:St)(t:Nat)(rs:List ResultVar):resCVs P st (.tmp t::rs)=argCV (st.s t)::resCVs P st rs:=rfl
def cellCV:SlotV→CV
 | .box x=>x
 | _=>.gone 0
theorem cCb_(x:CV):cellCV (.box x)=x:=rfl
theorem rCs_(st:St)(t T:Nat)(rs:List ResultVar):resCVs P st (.cell t T::rs)=cellCV (st.s t)::resCVs P st rs:=by
 simp only[resCVs,resCV]
 cases st.s t<;>rfl
theorem rOn_(st:St):resOks P st []=True:=rfl
theorem rOt_1(st:St)(t:Nat)(rs:List ResultVar):resOks P st (.tmp t::rs)=resOks P st rs:=by simp[resOks,resOk]
def cellOk(P:Program)(T:Nat):SlotV→Prop
 | .box x=>TyIs P T x.isAgg x.size
 | _=>False
theorem cOb_(T:Nat)(x:CV):cellOk P T (.box x)=TyIs P T x.isAgg x.size:=rfl
theorem rOc_(st:St)(t T:Nat)(rs:List ResultVar):resOks P st (.cell t T::rs)=(cellOk P T (st.s t)∧resOks P st rs):=by
 simp only[resOks,resOk]
 cases st.s t<;>rfl
theorem aCv_(c:CV):argCV (.val c)=c:=rfl
theorem aRo_(p:PV):asRes [p]=p:=rfl
theorem aRt_(p q:PV)(l:List PV):asRes (p::q::l)=.tup (p::q::l):=rfl
end Go.Av
namespace Go.Av
open CV renaming wholes→aE,namess→aB,pvos→aK
variable{P:Program}{nt:Nat}
def buildP(zs:List CV)(rs:List Nat)(o:Nat→Option (Nat×List PV))(K:List Nat→List Nat→SlotV→Prop)(ps:List (Nat×CV)):Prop:=
 (ps.all fun p=>decide (p.1<zs.length)&&p.2.size==(zs.getD p.1 default).size)=true∧aE o (ps.map (·.2))=true∧K rs (aB (ps.map (·.2))) (.val (.node (setParts zs ps)))
@[congr] theorem buildP.cg {zs:List CV} {rs:List Nat} {o:Nat→Option (Nat×List PV)} {K:List Nat→List Nat→SlotV→Prop} {ps ps':List (Nat×CV)} (h:∀ _:Unit,ps=ps'):buildP zs rs o K ps=buildP zs rs o K ps':=by rw[h ()]
theorem bPn_(zs:List CV)(rs:List Nat)(o:Nat→Option (Nat×List PV))(K:List Nat→List Nat→SlotV→Prop):buildP zs rs o K []=K rs [] (.val (.node zs)):=by simp[buildP,aE,aB,setParts]
theorem bPc_(zs:List CV)(rs:List Nat)(o:Nat→Option (Nat×List PV))(K:List Nat→List Nat→SlotV→Prop)(p:Nat×CV)(ps:List (Nat×CV)):buildP zs rs o K (p::ps)=
 (((p::ps).all fun p=>decide (p.1<zs.length)&&p.2.size==(zs.getD p.1 default).size)=true∧aE o ((p::ps).map (·.2))=true∧K rs (aB ((p::ps).map (·.2))) (.val (.node (setParts zs (p::ps))))):=rfl
@[congr] theorem buildK.cg {st:St} {T:TypeId} {parts:Array (Nat×Operand)} {K:List Nat→List Nat→SlotV→Prop} {z z':CV} (h:∀ _:Unit,z=z'):buildK P st T parts K z=buildK P st T parts K z':=by rw[h ()]
theorem bKn_1(st:St)(T:TypeId)(parts:List (Nat×Operand))(K:List Nat→List Nat→SlotV→Prop)(zs:List CV):buildK P st T ⟨parts⟩ K (.node zs)=
 (ZeroIs P T (.node zs)∧LO_ P T zs∧buildP zs (parts.flatMap fun p=>rd p.2) st.o K (partFs P st T parts)):=rfl
theorem rOb_(st:St)(d:Nat)(ty T:TypeId)(pos:String)(af:Array Edge)(g:Option (Nat×Bool))(K:Rec→Prop)(parts:Array (Nat×Operand)):
 recO P nt st { dst:=some d,op:=.build T parts,type:=ty,pos:=pos,after:=af,guard:=g } K=(d<nt∧buildK P st T parts (fun rs ro sv=>K { rs:=rs,ro:=ro,us:=[(d,sv)] }) (zcv P 8 T)):=rfl
def bslK(P:Program)(st:St)(d T:Nat)(rs:List Nat)(K:Rec→Prop)(cvs:List CV):Prop:=
 aE st.o cvs=true∧(∀ x∈cvs,x.size=eSize P T)∧(aB cvs).Nodup∧(∀ n∈(rO_ (.sl true (eSize P T) (aK st.o cvs)) (16*d)).map (·.1),st.noC n)∧
  K { rs:=rs,ro:=aB cvs,fc:=(rO_ (.sl true (eSize P T) (aK st.o cvs)) (16*d)).map (·.1),us:=[(d,resSV (.sl true (eSize P T) (aK st.o cvs)) (16*d))],uo:=deadObjs (aB cvs)++newObjs (rO_ (.sl true (eSize P T) (aK st.o cvs)) (16*d)) }
@[congr] theorem bslK.cg {st:St} {d T:Nat} {rs:List Nat} {K:Rec→Prop} {c c':List CV} (h:∀ _:Unit,c=c'):bslK P st d T rs K c=bslK P st d T rs K c':=by rw[h ()]
theorem bKn_4(st:St)(d T:Nat)(rs:List Nat)(K:Rec→Prop):bslK P st d T rs K []=((∀ n∈(rO_ (.sl true (eSize P T) (aK st.o [])) (16*d)).map (·.1),st.noC n)∧
 K { rs:=rs,ro:=[],fc:=(rO_ (.sl true (eSize P T) (aK st.o [])) (16*d)).map (·.1),us:=[(d,resSV (.sl true (eSize P T) (aK st.o [])) (16*d))],uo:=deadObjs []++newObjs (rO_ (.sl true (eSize P T) (aK st.o [])) (16*d)) }):=by
 simp[bslK,aE,aB]
theorem bKc_(st:St)(d T:Nat)(rs:List Nat)(K:Rec→Prop)(c:CV)(cvs:List CV):bslK P st d T rs K (c::cvs)=(aE st.o (c::cvs)=true∧(∀ x∈c::cvs,x.size=eSize P T)∧(aB (c::cvs)).Nodup∧(∀ n∈(rO_ (.sl true (eSize P T) (aK st.o (c::cvs))) (16*d)).map (·.1),st.noC n)∧
 K { rs:=rs,ro:=aB (c::cvs),fc:=(rO_ (.sl true (eSize P T) (aK st.o (c::cvs))) (16*d)).map (·.1),us:=[(d,resSV (.sl true (eSize P T) (aK st.o (c::cvs))) (16*d))],uo:=deadObjs (aB (c::cvs))++newObjs (rO_ (.sl true (eSize P T) (aK st.o (c::cvs))) (16*d)) }):=rfl
def OrR(A B:Prop)(_:Tok B):Prop:=A∨B
@[congr] theorem OrR.cg {A A' B:Prop} (h:∀ _:Unit,A=A'):OrR A B .mk=OrR A' B .mk:=by rw[h ()]
theorem OrR.l{A B:Prop}(h:A):OrR A B .mk:=.inl h
theorem ORt_(B:Prop):OrR True B .mk=True:=by simp[OrR]
theorem rOb_1(st:St)(d:Nat)(ty T:TypeId)(pos:String)(af:Array Edge)(g:Option (Nat×Bool))(K:Rec→Prop)(n:Nat)(parts:List (Nat×Operand))(H:d<nt):
 recO P nt st { dst:=some d,op:=.buildSlice T n ⟨parts⟩,type:=ty,pos:=pos,after:=af,guard:=g } K=OrR (parts.map (·.1)=List.range n∧SlIs P T (eSize P T) (eBytes P T)∧n*eSize P T≤16777216∧bslK P st d T (parts.flatMap fun p=>rd p.2) K (partCVs P st (eOT_ P T) parts)) (RecOk P nt st { dst:=some d,op:=.buildSlice T n ⟨parts⟩,type:=ty,pos:=pos,after:=af,guard:=g } K) .mk:=by
 simp only[recO,bslK,madeK,dstK,H,true_and,eq_iff_iff,OrR]
 refine or_congr_left ⟨?_,?_⟩
 ·rintro ⟨a,x,b,c,d,e,f,g⟩; exact⟨x,a,e,b,c,d,f,g⟩
 ·rintro ⟨x,a,e,b,c,d,f,g⟩; exact⟨a,x,b,c,d,e,f,g⟩
end Go.Av
namespace Go.Av
theorem uh_{α:Type}(f:Nat→α)(k:Nat)(x:α):upd f k x k=x:=by simp[upd]
theorem um_{α:Type}(f:Nat→α)(k j:Nat)(x:α)(h:(j==k)=false):upd f k x j=f j:=by
 have:j≠k:=by simpa using h
 simp[upd,this]
end Go.Av
