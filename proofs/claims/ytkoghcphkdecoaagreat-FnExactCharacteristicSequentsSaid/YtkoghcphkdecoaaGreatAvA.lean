/- A part of the proof: lemmas only; nothing is claimed here beyond what each lemma says. -/
/- Small rules for the reckoning. -/
import Derived.Test.YtkoghcphkdecoaaGreatAv9
set_option linter.unusedSimpArgs false
set_option linter.unusedVariables false
set_option linter.defProp false
namespace Go.Av

theorem ua_{α:Type}(f:Nat→α)(k:Nat)(x:α)(j:Nat):upd f k x j=if j=k then x else f j:=rfl
theorem uAn_1{α:Type}(f:Nat→α):updAll f []=f:=rfl
theorem uAc_1{α:Type}(f:Nat→α)(k:Nat)(v:α)(l:List (Nat×α)):updAll f ((k,v)::l)=updAll (upd f k v) l:=rfl
theorem sGn_(P:Program)(nt:Nat)(ops:Array Oper)(st:St)(d:Option Tmp)(op:Op)(T:TypeId)(pos:String)(af:Array Edge)(K:Rec→Prop):
 stepG P nt ops st { dst:=d,op:=op,type:=T,pos:=pos,after:=af,guard:=none } K=recO P nt st { dst:=d,op:=op,type:=T,pos:=pos,after:=af,guard:=none } K:=rfl
theorem app_mk(s:Nat→SlotV)(o:Nat→Option (Nat×List PV))(r:Rec):St.app ⟨s,o⟩ r=⟨updAll s r.us,updAll o r.uo⟩:=rfl
theorem sKn_(K:St→Prop)(Q:Exit→St→Prop)(st:St):seqK K Q .normal st=K st:=rfl
theorem gst_eq(ops:Array Oper)(j:Nat):gst ops j=(ops[j]?).bind (·.dst):=rfl

theorem CallV.congr{P:Program}{f:FuncId}{v v' o o' c:List PV}{K:List Bool→PV→Prop}(h1:v=v')(h2:o=o'):CallV P f v o c K=CallV P f v' o' c K:=by rw[h1,h2]
theorem Cond.congr{b b':Bool}{A B:Prop}(h:b=b'):Cond b A B=Cond b' A B:=by rw[h]

def updL:Nat→List CV→(Nat→SlotV)→Nat→SlotV
 | _,[],f=>f
 | i,x::xs,f=>updL (i+1) xs (upd f i (.val x))
theorem uLn_(i:Nat)(f:Nat→SlotV):updL i [] f=f:=rfl
theorem uLc_(i:Nat)(x:CV)(xs:List CV)(f:Nat→SlotV):updL i (x::xs) f=updL (i+1) xs (upd f i (.val x)):=rfl
theorem uLa_:∀ (xs:List CV) (i:Nat) (f:Nat→SlotV) (k:Nat),updL i xs f k=if k<i then f k else match xs[k-i]? with | some x=>.val x | none=>f k
 | [],i,f,k=>by simp[updL]
 | x::xs,i,f,k=>by
  rw[updL,uLa_ xs (i+1)]
  by_cases h:k<i
  ·have:k<i+1:=by omega
   rw[if_pos this,if_pos h,ua_,if_neg (by omega)]
  ·rw[if_neg h]
   by_cases h1:k=i
   ·subst h1; rw[if_pos (by omega)]; simp[ua_]
   ·rw[if_neg (by omega)]
    have e:k-i=(k-(i+1))+1:=by omega
    rw[e,List.getElem?_cons_succ,ua_,if_neg h1]
theorem aSe_(args:List PV):argSt args=⟨updL 0 (e_ args 9000).1 (fun _=>.dead),updAll (fun _=>none) (newObjs (e_ args 9000).2.1)⟩:=by
 simp only[argSt,St.mk.injEq,and_true]
 funext k
 rw[uLa_]
 simp only[Nat.not_lt_zero,if_false,Nat.sub_zero]
 cases (e_ args 9000).1[k]?<;>rfl
theorem en_(c:Nat):e_ [] c=([],[],c):=rfl
theorem ec_1(p:PV)(ps:List PV)(c:Nat):e_ (p::ps) c=((e_1 p c).1::(e_ ps (e_1 p c).2.2).1,(e_1 p c).2.1++(e_ ps (e_1 p c).2.2).2.1,(e_ ps (e_1 p c).2.2).2.2):=rfl
theorem el_(v:Value)(c:Nat):e_1 (.lit v) c=(.pv (.lit v),[],c):=rfl
theorem ev_(sz:Nat)(es:List PV)(c:Nat):e_1 (.sl false sz es) c=(.pv (.sl false sz es),[],c):=rfl
theorem eo_2(sz:Nat)(es:List PV)(c:Nat):e_1 (.sl true sz es) c=(.own c,[(c,(sz,es))],c+1):=rfl
theorem ec_2(f:FuncId)(cs:List PV)(c:Nat):e_1 (.clo f cs) c=(.pv (.clo f cs),[],c):=rfl
theorem ep_(v:PV)(c:Nat):e_1 (.ptr v) c=(.pv (.ptr v),[],c):=rfl
theorem ea_(fs:List PV)(c:Nat):e_1 (.agg fs) c=if PV.noOwns fs then(.pv (.agg fs),[],c) else(.node (e_ fs c).1,(e_ fs c).2.1,(e_ fs c).2.2):=rfl
theorem rSt_(ps:List PV)(c:Nat):resSV (.tup ps) c=.tup (e_ ps c).1:=rfl
theorem rOt_(ps:List PV)(c:Nat):rO_ (.tup ps) c=(e_ ps c).2.1:=rfl
theorem rSl_(v:Value)(c:Nat):resSV (.lit v) c=.val (.pv (.lit v)):=rfl
theorem rOl_(v:Value)(c:Nat):rO_ (.lit v) c=[]:=rfl
theorem rSs_(b:Bool)(sz:Nat)(es:List PV)(c:Nat):resSV (.sl b sz es) c=.val (e_1 (.sl b sz es) c).1:=rfl
theorem rOs_(b:Bool)(sz:Nat)(es:List PV)(c:Nat):rO_ (.sl b sz es) c=(e_1 (.sl b sz es) c).2.1:=rfl
theorem rSa_(fs:List PV)(c:Nat):resSV (.agg fs) c=.val (e_1 (.agg fs) c).1:=rfl
theorem rOa_(fs:List PV)(c:Nat):rO_ (.agg fs) c=(e_1 (.agg fs) c).2.1:=rfl
theorem noR_mk(s:Nat→SlotV)(o:Nat→Option (Nat×List PV))(r k:Nat)(v:SlotV)(h:v.noR r=true)(h':St.noR ⟨s,o⟩ r):St.noR ⟨upd s k v,o⟩ r:=by
 intro j
 simp only[upd]
 split
 ·exact h
 ·exact h' j
theorem nRe_(o:Nat→Option (Nat×List PV))(r:Nat):St.noR ⟨fun _=>.dead,o⟩ r:=fun _=>rfl
theorem noC_mk(s:Nat→SlotV)(o:Nat→Option (Nat×List PV))(c k:Nat)(v:SlotV)(h:v.noC c=true)(h':St.noC ⟨s,o⟩ c):St.noC ⟨upd s k v,o⟩ c:=by
 refine⟨h'.1,fun j=>?_⟩
 simp only[upd]
 split
 ·exact h
 ·exact h'.2 j
theorem nCe_(o:Nat→Option (Nat×List PV))(c:Nat)(h:c<10000∧o c=none):St.noC ⟨fun _=>.dead,o⟩ c:=⟨h,fun _=>rfl⟩
end Go.Av
