/- A part of the proof: lemmas only; nothing is claimed here beyond what each lemma says. -/
/- Models of functions on plain data, code as a machine over frames, loops. -/
import Derived.Test.YtkoghcphkdecoaaGreatAvH
set_option linter.unusedSimpArgs false
set_option linter.unusedVariables false
set_option linter.defProp false
namespace Go.Av
def Run{α:Type}(m:Option α)(φ:α→Prop):Prop:=∃ v,m=some v∧φ v
theorem Run.of{α:Type}{m:Option α}{r:α}(h:m=some r):Run m (fun v=>v=r):=⟨r,h,rfl⟩
theorem rb_{α β:Type}{x:Option α}{k:α→Option β}{φ:β→Prop}(h:Run (x.bind k) φ):∃ v,x=some v∧Run (k v) φ:=by
 obtain⟨w,h1,h2⟩:=h
 cases x with
 | none=>simp at h1
 | some v=>exact⟨v,rfl,w,h1,h2⟩
theorem run_t{α:Type}{b:Bool}{x y:Option α}{φ:α→Prop}(hb:b=true)(h:Run (cond b x y) φ):Run x φ:=by subst hb; exact h
theorem run_f{α:Type}{b:Bool}{x y:Option α}{φ:α→Prop}(hb:b=false)(h:Run (cond b x y) φ):Run y φ:=by subst hb; exact h
theorem rs_{α:Type}{v:α}{φ:α→Prop}(h:Run (some v) φ):φ v:=by
 obtain⟨w,h1,h2⟩:=h
 cases h1; exact h2
theorem rn_{α:Type}{φ:α→Prop}{A:Prop}(h:Run none φ):A:=by obtain⟨w,h1,h2⟩:=h; cases h1

inductive Flow(ρ σ:Type) where
 | nx (s:σ)
 | br (s:σ)
 | rt (r:ρ)
def forN{ρ σ:Type}(f:Nat→σ→Option (Flow ρ σ)):Nat→Nat→σ→Option (ρ ⊕ σ)
 | 0,_,s=>some (.inr s)
 | n+1,i,s=>(f i s).bind fun
  | .nx s'=>forN f n (i+1) s'
  | .br s'=>some (.inr s')
  | .rt r=>some (.inl r)
def whileN{ρ σ:Type}(f:σ→Option (Flow ρ σ)):Nat→σ→Option (ρ ⊕ σ)
 | 0,_=>none
 | n+1,s=>(f s).bind fun
  | .nx s'=>whileN f n s'
  | .br s'=>some (.inr s')
  | .rt r=>some (.inl r)
def thenL{ρ σ:Type}(m:Option (ρ ⊕ σ))(k:σ→Option ρ):Option ρ:=m.bind fun
 | .inl r=>some r
 | .inr s=>k s
def exitP{ρ σ:Type}(k:σ→Option ρ)(φ:ρ→Prop):ρ ⊕ σ→Prop
 | .inl r=>φ r
 | .inr s=>Run (k s) φ
def stepP{ρ σ:Type}(rest:σ→Option (ρ ⊕ σ))(ψ:ρ ⊕ σ→Prop):Flow ρ σ→Prop
 | .nx s=>Run (rest s) ψ
 | .br s=>ψ (.inr s)
 | .rt r=>ψ (.inl r)
theorem rl_{ρ σ:Type}{m:Option (ρ ⊕ σ)}{k:σ→Option ρ}{φ:ρ→Prop}(h:Run (thenL m k) φ):Run m (exitP k φ):=by
 obtain⟨v,h1,h2⟩:=rb_ h
 refine⟨v,h1,?_⟩
 cases v with
 | inl r=>have h3:=rs_ h2; exact h3
 | inr s=>exact h2
theorem rr_1{ρ σ:Type}{f:Nat→σ→Option (Flow ρ σ)}{N i:Nat}{s:σ}{ψ:ρ ⊕ σ→Prop}(h:Run (forN f (N-i) i s) ψ)(hi:i<N):Run (f i s) (stepP (forN f (N-(i+1)) (i+1)) ψ):=by
 have e:N-i=(N-(i+1))+1:=by omega
 rw[e] at h
 obtain⟨v,h1,h2⟩:=rb_ h
 refine⟨v,h1,?_⟩
 cases v with
 | nx s'=>exact h2
 | br s'=>have h3:=rs_ h2; exact h3
 | rt r=>have h3:=rs_ h2; exact h3
theorem rl_1{ρ σ:Type}{f:Nat→σ→Option (Flow ρ σ)}{N:Nat}{s:σ}{ψ:ρ ⊕ σ→Prop}(h:Run (forN f (N-N) N s) ψ):ψ (.inr s):=by
 rw[Nat.sub_self] at h
 have h3:=rs_ h
 exact h3
theorem rw_{ρ σ:Type}{f:σ→Option (Flow ρ σ)}{n:Nat}{s:σ}{ψ:ρ ⊕ σ→Prop}(h:Run (whileN f n s) ψ):∃ n',n=n'+1∧Run (f s) (stepP (whileN f n') ψ):=by
 cases n with
 | zero=>exact rn_ h
 | succ n=>
  refine⟨n,rfl,?_⟩
  obtain⟨v,h1,h2⟩:=rb_ h
  refine⟨v,h1,?_⟩
  cases v with
  | nx s'=>exact h2
  | br s'=>have h3:=rs_ h2; exact h3
  | rt r=>have h3:=rs_ h2; exact h3
def Ev{α:Type}(m:Nat→Option α)(r:α):Prop:=∃ N,∀ n,N≤n→m n=some r
theorem Ev.unique{α:Type}{m:Nat→Option α}{r r':α}(h:Ev m r)(h':Ev m r'):r=r':=by
 obtain⟨N,h⟩:=h
 obtain⟨N',h'⟩:=h'
 have h1:=h (max N N') (Nat.le_max_left _ _)
 rw[h' (max N N') (Nat.le_max_right _ _)] at h1
 exact(Option.some.inj h1).symm
open Classical in
noncomputable def lim{α:Type}(m:Nat→Option α):Option α:=if h:∃ r,Ev m r then some (Classical.choose h) else none
theorem lim_eq{α:Type}{m:Nat→Option α}{r:α}(h:Ev m r):lim m=some r:=by
 have hx:∃ r,Ev m r:=⟨r,h⟩
 simp only[lim,hx,dif_pos]
 exact congrArg some (Ev.unique (Classical.choose_spec hx) h)
theorem ls_{α:Type}{m:Nat→Option α}{r:α}(h:lim m=some r):∃ n,m n=some r:=by
 unfold lim at h
 split at h
 ·rename_i hx
  obtain⟨N,hN⟩:=Classical.choose_spec hx
  cases h
  exact⟨N,hN N (Nat.le_refl _)⟩
 ·cases h
theorem rl_2{α:Type}{m:Nat→Option α}{φ:α→Prop}(h:Run (lim m) φ):∃ n,Run (m n) φ:=by
 obtain⟨v,h1,h2⟩:=h
 obtain⟨n,hn⟩:=ls_ h1
 exact⟨n,v,hn,h2⟩

def idx{α:Type}(xs:List α)(e:Int):Option α:=if 0≤e then xs[e.toNat]? else none
def slc{α:Type}(xs:List α)(lo hi:Int):Option (List α):=if 0≤lo∧lo≤hi∧hi≤xs.length then some ((xs.take hi.toNat).drop lo.toNat) else none
def sslc(s:ByteArray)(lo hi:Int):Option ByteArray:=if 0≤lo∧lo≤hi∧hi≤s.size then some (s.extract lo.toNat hi.toNat) else none
def app{α:Type}(xs ys:List α):Option (List α):=if xs.length+ys.length≤1073741824 then some (xs++ys) else none
def sapp(a b:ByteArray):Option ByteArray:=if a.size+b.size≤9223372036854775807 then some (a++b) else none
def mkn(n:Int):Option Nat:=if 0≤n∧n≤1073741824 then some n.toNat else none
def sidx(s:ByteArray)(e:Int):Option Int:=if 0≤e∧e<s.size then some ((s.data.toList.getD e.toNat 0).toNat:Int) else none
def quo(a b:Int):Option Int:=if b=0 then none else some (IntKind.i64.wrap (a.tdiv b))
def rem(a b:Int):Option Int:=if b=0 then none else some (a.tmod b)
def bnd(n:Int):Option Nat:=if n≤9223372036854775807 then some n.toNat else none
theorem bs_{n:Int}{N:Nat}(h:bnd n=some N):n≤9223372036854775807∧N=n.toNat:=by
 unfold bnd at h
 split at h
 ·cases h; exact⟨by assumption,rfl⟩
 ·cases h
theorem is_1{α:Type}{xs:List α}{e:Int}{x:α}(h:idx xs e=some x):0≤e∧e<xs.length∧xs[e.toNat]?=some x:=by
 unfold idx at h
 split at h
 ·rename_i h0
  have:=(List.getElem?_eq_some_iff.1 h).1
  exact⟨h0,by omega,h⟩
 ·cases h

inductive Fr where
 | sq (y:Code)
 | bl (id:Nat)
 | rd (φ:St→Prop)
inductive Ctl where
 | code (c:Code)
 | nrm
 | ex (id:Nat)
 | rt
def popQ(P:Program)(nt:Nat)(F:St→Prop):List Fr→Exit→St→Prop
 | []=>fun e st=>(e=.normal∨e=.ret)∧F st
 | .sq y::k=>after P nt y (popQ P nt F k)
 | .bl id::k=>blockK id (popQ P nt F k)
 | .rd φ::k=>seqK φ (popQ P nt F k)
def Mg(P:Program)(nt:Nat)(F:St→Prop):Nat→Ctl→St→List Fr→Prop
 | 0,_,_,_=>False
 | n+1,.code c,st,k=>match c with
  | .seq x y=>Mg P nt F n (.code x) st (.sq y::k)
  | .skip=>Mg P nt F n .nrm st k
  | .exit id=>Mg P nt F n (.ex id) st k
  | .ret=>Mg P nt F n .rt st k
  | .block id x=>Mg P nt F n (.code x) st (.bl id::k)
  | .region _ ops dr=>if dr then P.follows .mixedOrders=true∧wpD P nt ops ops.toList st [] (fun recs st'=>DrawH ops st recs .mk .mk .mk∧Mg P nt F n .nrm st' k)
   else wpD P nt ops ops.toList st [] (fun _ st'=>Mg P nt F n .nrm st' k)
  | .cond c x y=>boolOf (ev P st 0 c) fun b=>CondH b (Mg P nt F n (.code x) st k) (Mg P nt F n (.code y) st k) .mk .mk
  | c=>VC P nt c st (popQ P nt F k)
 | n+1,.nrm,st,k=>match k with
  | []=>F st
  | .sq y::k=>Mg P nt F n (.code y) st k
  | .bl _::k=>Mg P nt F n .nrm st k
  | .rd φ::_=>φ st
 | n+1,.ex id,st,k=>match k with
  | []=>False
  | .sq _::k=>Mg P nt F n (.ex id) st k
  | .bl id'::k=>if id=id' then Mg P nt F n .nrm st k else Mg P nt F n (.ex id) st k
  | .rd _::k=>Mg P nt F n (.ex id) st k
 | n+1,.rt,st,k=>match k with
  | []=>F st
  | _::k=>Mg P nt F n .rt st k

section
variable{P:Program}{nt:Nat}{F:St→Prop}{n:Nat}{st:St}{k:List Fr}
def Ctl.means(P:Program)(nt:Nat)(st:St)(Q:Exit→St→Prop):Ctl→Prop
 | .code c=>VC P nt c st Q
 | .nrm=>Q .normal st
 | .ex id=>Q (.exit id) st
 | .rt=>Q .ret st
def onlyN(K:St→Prop):Exit→St→Prop
 | .normal,st=>K st
 | _,_=>False
theorem Vr_{id:Nat}{ops:Array Oper}{Q:Exit→St→Prop}{K:St→Prop}(h:wpD P nt ops ops.toList st [] (fun _ st'=>K st'))(hK:∀ st',K st'→Q .normal st'):VC P nt (.region id ops false) st Q:=
 VC.mono (VC.region (Q:=onlyN K) h) (fun e st' hq=>by cases e<;>first | exact hK _ hq | exact hq.elim)
theorem Vd_{id:Nat}{ops:Array Oper}{Q:Exit→St→Prop}{K:St→Prop}(hm:P.follows .mixedOrders=true)(h:wpD P nt ops ops.toList st [] (fun recs st'=>DrawH ops st recs .mk .mk .mk∧K st'))(hK:∀ st',K st'→Q .normal st'):VC P nt (.region id ops true) st Q:=
 VC.mono (Vd_1 (Q:=onlyN K) hm h) (fun e st' hq=>by cases e<;>first | exact hK _ hq | exact hq.elim)
theorem Mg.sound:∀ (n:Nat) (c:Ctl) (st:St) (k:List Fr),Mg P nt F n c st k→c.means P nt st (popQ P nt F k)
 | 0,_,_,_,h=>h.elim
 | n+1,.code c,st,k,h=>by
  have ih:=Mg.sound n
  cases c with
  | seq x y=>exact Vs_ (ih (.code x) st (.sq y::k) h)
  | skip=>exact VC.skip (ih .nrm st k h)
  | exit id=>exact VC.exit (ih (.ex id) st k h)
  | ret=>exact VC.ret (ih .rt st k h)
  | block id x=>exact VC.block (ih (.code x) st (.bl id::k) h)
  | region id ops dr=>
   cases dr with
   | false=>exact Vr_ h (fun st' hk=>ih .nrm st' k hk)
   | true=>exact Vd_ h.1 h.2 (fun st' hk=>ih .nrm st' k hk)
  | cond c x y=>
   refine VC.cond ?_
   simp only[Mg] at h
   unfold boolOf at h ⊢
   split at h
   ·exact⟨fun hb=>ih (.code x) st k (h.1 hb),fun hb=>ih (.code y) st k (h.2 hb)⟩
   ·intro v hv
    obtain⟨b,e,hb⟩:=h v hv
    exact⟨b,e,fun hh=>ih (.code x) st k (hb.1 hh),fun hh=>ih (.code y) st k (hb.2 hh)⟩
   ·exact h.elim
  | _=>exact h
 | n+1,.nrm,st,k,h=>by
  have ih:=Mg.sound n
  match k,h with
  | [],h=>exact⟨.inl rfl,h⟩
  | .sq y::k,h=>exact(ih (.code y) st k h)
  | .bl i::k,h=>exact(ih .nrm st k h)
  | .rd φ::k',h=>exact h
 | n+1,.ex id,st,k,h=>by
  have ih:=Mg.sound n
  match k,h with
  | [],h=>exact h.elim
  | .sq y::k,h=>exact(ih (.ex id) st k h)
  | .bl id'::k,h=>
   simp only[Mg] at h
   by_cases e:id=id'
   ·subst e; rw[if_pos rfl] at h; exact bKh_ (ih .nrm st k h)
   ·rw[if_neg e] at h; exact bKm_ e (ih (.ex id) st k h)
  | .rd φ::k',h=>exact(ih (.ex id) st k' h)
 | n+1,.rt,st,k,h=>by
  have ih:=Mg.sound n
  match k,h with
  | [],h=>exact⟨.inr rfl,h⟩
  | .sq y::k,h=>exact(ih .rt st k h)
  | .bl i::k,h=>exact(ih .rt st k h)
  | .rd φ::k',h=>exact(ih .rt st k' h)

@[congr] theorem Mg.cg {c:Ctl} {st':St} (h:∀ _:Unit,st=st'):Mg P nt F n c st k=Mg P nt F n c st' k:=by rw[h ()]
theorem Mg_seq(x y:Code):Mg P nt F (n+1) (.code (.seq x y)) st k=Mg P nt F n (.code x) st (.sq y::k):=rfl
theorem Ms_:Mg P nt F (n+1) (.code .skip) st k=Mg P nt F n .nrm st k:=rfl
theorem Me_1(id:Nat):Mg P nt F (n+1) (.code (.exit id)) st k=Mg P nt F n (.ex id) st k:=rfl
theorem Mg_ret:Mg P nt F (n+1) (.code .ret) st k=Mg P nt F n .rt st k:=rfl
theorem Mb_(id:Nat)(x:Code):Mg P nt F (n+1) (.code (.block id x)) st k=Mg P nt F n (.code x) st (.bl id::k):=rfl
theorem Mg_reg(id:Nat)(l:List Oper):Mg P nt F (n+1) (.code (.region id ⟨l⟩ false)) st k=wpD P nt ⟨l⟩ l st [] (fun _ st'=>Mg P nt F n .nrm st' k):=rfl
theorem Mg_drw(id:Nat)(l:List Oper):Mg P nt F (n+1) (.code (.region id ⟨l⟩ true)) st k=(P.follows .mixedOrders=true∧wpD P nt ⟨l⟩ l st [] (fun recs st'=>DrawH ⟨l⟩ st recs .mk .mk .mk∧Mg P nt F n .nrm st' k)):=rfl
theorem Mc_(c:Operand)(x y:Code):Mg P nt F (n+1) (.code (.cond c x y)) st k=boolOf (ev P st 0 c) fun b=>CondH b (Mg P nt F n (.code x) st k) (Mg P nt F n (.code y) st k) .mk .mk:=rfl
theorem Mg_n0:Mg P nt F (n+1) .nrm st []=F st:=rfl
theorem Mg_nsq(y:Code):Mg P nt F (n+1) .nrm st (.sq y::k)=Mg P nt F n (.code y) st k:=rfl
theorem Mg_nbl(id:Nat):Mg P nt F (n+1) .nrm st (.bl id::k)=Mg P nt F n .nrm st k:=rfl
theorem Mg_xsq(id:Nat)(y:Code):Mg P nt F (n+1) (.ex id) st (.sq y::k)=Mg P nt F n (.ex id) st k:=rfl
theorem Mg_xbl(id:Nat):Mg P nt F (n+1) (.ex id) st (.bl id::k)=Mg P nt F n .nrm st k:=by simp[Mg]
theorem Mg_xbm(id id':Nat)(h:(id==id')=false):Mg P nt F (n+1) (.ex id) st (.bl id'::k)=Mg P nt F n (.ex id) st k:=by
 have:id≠id':=by simpa using h
 simp[Mg,this]
theorem Mg_xrd(id:Nat)(φ:St→Prop):Mg P nt F (n+1) (.ex id) st (.rd φ::k)=Mg P nt F n (.ex id) st k:=rfl
theorem Mg_r0:Mg P nt F (n+1) .rt st []=F st:=rfl
theorem Mg_rc(f:Fr):Mg P nt F (n+1) .rt st (f::k)=Mg P nt F n .rt st k:=rfl

def mkS:List (Nat×SlotV)→Nat→SlotV
 | []=>fun _=>.dead
 | (j,v)::l=>upd (mkS l) j v
def mkO:List (Nat×(Nat×List PV))→Nat→Option (Nat×List PV)
 | []=>fun _=>none
 | (j,v)::l=>upd (mkO l) j (some v)
theorem mSh_(j:Nat)(v:SlotV)(l:List (Nat×SlotV)):mkS ((j,v)::l) j=v:=by simp[mkS,upd]
theorem mSm_1(i j:Nat)(v:SlotV)(l:List (Nat×SlotV))(h:(i==j)=false):mkS ((j,v)::l) i=mkS l i:=by
 have:i≠j:=by simpa using h
 simp[mkS,upd,this]
theorem mSn_(j:Nat):mkS [] j=.dead:=rfl
theorem mOh_(j:Nat)(v:Nat×List PV)(l:List (Nat×(Nat×List PV))):mkO ((j,v)::l) j=some v:=by simp[mkO,upd]
theorem mOm_(i j:Nat)(v:Nat×List PV)(l:List (Nat×(Nat×List PV)))(h:(i==j)=false):mkO ((j,v)::l) i=mkO l i:=by
 have:i≠j:=by simpa using h
 simp[mkO,upd,this]
theorem mOn_(j:Nat):mkO [] j=none:=rfl
theorem nRm_(l:List (Nat×SlotV))(o:Nat→Option (Nat×List PV))(r k:Nat)(v:SlotV)(h:v.noR r=true)(h':St.noR ⟨mkS l,o⟩ r):St.noR ⟨mkS ((k,v)::l),o⟩ r:=noR_mk _ _ _ _ _ h h'
theorem nRn_(o:Nat→Option (Nat×List PV))(r:Nat):St.noR ⟨mkS [],o⟩ r:=nRe_ o r
theorem nCm_(l:List (Nat×SlotV))(o:Nat→Option (Nat×List PV))(c k:Nat)(v:SlotV)(h:v.noC c=true)(h':St.noC ⟨mkS l,o⟩ c):St.noC ⟨mkS ((k,v)::l),o⟩ c:=noC_mk _ _ _ _ _ h h'
theorem nCn_(o:Nat→Option (Nat×List PV))(c:Nat)(h:c<10000∧o c=none):St.noC ⟨mkS [],o⟩ c:=nCe_ o c h
def LeL(f:Nat→SlotV):List (Nat×SlotV)→Prop
 | []=>True
 | (j,v)::l=>f j=v∧LeL f l
def LeP(f:Nat→Option (Nat×List PV)):List (Nat×(Nat×List PV))→Prop
 | []=>True
 | (j,v)::l=>f j=some v∧LeP f l
theorem LeL.ok{f:Nat→SlotV}:∀ {l:List (Nat×SlotV)},LeL f l→LeS f (mkS l)
 | [],_=>LeS.nil f
 | (j,v)::l,h=>LeS.cons h.1 h.2.ok
theorem LeP.ok{f:Nat→Option (Nat×List PV)}:∀ {l:List (Nat×(Nat×List PV))},LeP f l→LeO f (mkO l)
 | [],_=>LeO.nil f
 | (j,v)::l,h=>LeO.cons h.1 h.2.ok
theorem Slm_1{st:St}{S:List (Nat×SlotV)}{O:List (Nat×(Nat×List PV))}(hs:LeL st.s S)(ho:LeP st.o O):st.le ⟨mkS S,mkO O⟩:=Sll_ hs.ok ho.ok

theorem Slm_{st:St}{S:List (Nat×SlotV)}{O:List (Nat×(Nat×List PV))}(h:LeL st.s S∧LeP st.o O):st.le ⟨mkS S,mkO O⟩:=Slm_1 h.1 h.2
theorem Mg.know_sl{c:Code}{b:Bool}{sz:Nat}{es:List PV}(j:Nat)(hk:st.s j=.val (.pv (.sl b sz es)))(h:es.length≤9223372036854775807→Mg P nt F (n+1) (.code (.loop c)) st k):Mg P nt F (n+1) (.code (.loop c)) st k:=
 VC.know_sl (Q:=popQ P nt F k) j hk (fun g=>h (Nat.le_trans g (by decide)))
theorem Mg.know_own{c:Code}{sz:Nat}{es:List PV}(j:Nat)(hk:st.o j=some (sz,es))(h:es.length≤9223372036854775807→Mg P nt F (n+1) (.code (.loop c)) st k):Mg P nt F (n+1) (.code (.loop c)) st k:=
 VC.know_own (Q:=popQ P nt F k) j hk (fun g=>h (Nat.le_trans g (by decide)))
theorem Mg.forN{c:Code}{ρ σ:Type}{f:Nat→σ→Option (Flow ρ σ)}{N:Nat}{s0:σ}{ψ:ρ ⊕ σ→Prop}(h:Run (forN f N 0 s0) ψ)(S:Nat→σ→List (Nat×SlotV))(O:Nat→σ→List (Nat×(Nat×List PV)))
 (h0:st.le ⟨mkS (S 0 s0),mkO (O 0 s0)⟩)
 (round:∀ i s,i<N→Run (f i s) (stepP (forN f (N-(i+1)) (i+1)) ψ)→Mg P nt F n (.code c) ⟨mkS (S i s),mkO (O i s)⟩
  (.rd (fun st'=>∃ s',Run (Av.forN f (N-(i+1)) (i+1) s') ψ∧st'.le ⟨mkS (S (i+1) s'),mkO (O (i+1) s')⟩)::k))
 (last:∀ s,ψ (.inr s)→Mg P nt F n (.code c) ⟨mkS (S N s),mkO (O N s)⟩ (.rd (fun _=>False)::k)):Mg P nt F (n+1) (.code (.loop c)) st k:=by
 show VC P nt (.loop c) st (popQ P nt F k)
 refine VC.loop (α:=Nat×σ) (fun x=>⟨mkS (S x.1 x.2),mkO (O x.1 x.2)⟩) (fun x=>x.1≤N∧Run (Av.forN f (N-x.1) x.1 x.2) ψ) (fun x=>N-x.1) (0,s0) ⟨Nat.zero_le _,h⟩ h0 ?_
 rintro ⟨i,s⟩ ⟨h1,h2⟩
 simp only at h1 h2 ⊢
 by_cases e:i<N
 ·refine VC.mono (Mg.sound n _ _ _ (round i s e (rr_1 h2 e))) ?_
  intro ex st' hq
  cases ex with
  | normal=>obtain⟨s',g1,g2⟩:=hq; exact⟨(i+1,s'),⟨by simp only; omega,g1⟩,by simp only; omega,g2⟩
  | _=>exact hq
 ·have e2:i=N:=by omega
  subst e2
  refine VC.mono (Mg.sound n _ _ _ (last s (rl_1 h2))) ?_
  intro ex st' hq
  cases ex with
  | normal=>exact hq.elim
  | _=>exact hq
theorem MfA_{c:Code}{ρ σ:Type}{f:Nat→σ→Option (Flow ρ σ)}{a N:Nat}{s0:σ}{ψ:ρ ⊕ σ→Prop}(h:Run (Av.forN f (N-a) a s0) ψ)(S:Nat→σ→List (Nat×SlotV))(O:Nat→σ→List (Nat×(Nat×List PV)))
 (h0:st.le ⟨mkS (S a s0),mkO (O a s0)⟩)
 (round:∀ i s,i<N→a≤i→Run (f i s) (stepP (Av.forN f (N-(i+1)) (i+1)) ψ)→Mg P nt F n (.code c) ⟨mkS (S i s),mkO (O i s)⟩
  (.rd (fun st'=>∃ s',Run (Av.forN f (N-(i+1)) (i+1) s') ψ∧st'.le ⟨mkS (S (i+1) s'),mkO (O (i+1) s')⟩)::k))
 (last:∀ i s,¬ i<N→ψ (.inr s)→Mg P nt F n (.code c) ⟨mkS (S i s),mkO (O i s)⟩ (.rd (fun _=>False)::k)):Mg P nt F (n+1) (.code (.loop c)) st k:=by
 show VC P nt (.loop c) st (popQ P nt F k)
 refine VC.loop (α:=Nat×σ) (fun x=>⟨mkS (S x.1 x.2),mkO (O x.1 x.2)⟩) (fun x=>a≤x.1∧Run (Av.forN f (N-x.1) x.1 x.2) ψ) (fun x=>N-x.1) (a,s0) ⟨Nat.le_refl _,h⟩ h0 ?_
 rintro ⟨i,s⟩ ⟨h1,h2⟩
 simp only at h1 h2 ⊢
 by_cases e:i<N
 ·refine VC.mono (Mg.sound n _ _ _ (round i s e h1 (rr_1 h2 e))) ?_
  intro ex st' hq
  cases ex with
  | normal=>obtain⟨s',g1,g2⟩:=hq; exact⟨(i+1,s'),⟨by simp only; omega,g1⟩,by simp only; omega,g2⟩
  | _=>exact hq
 ·have e2:N-i=0:=by omega
  rw[e2] at h2
  have h3:=rs_ h2
  refine VC.mono (Mg.sound n _ _ _ (last i s e h3)) ?_
  intro ex st' hq
  cases ex with
  | normal=>exact hq.elim
  | _=>exact hq
theorem Mg.whileN{c:Code}{ρ σ:Type}{f:σ→Option (Flow ρ σ)}{s0:σ}{ψ:ρ ⊕ σ→Prop}(h:Run (lim fun m=>whileN f m s0) ψ)(S:σ→List (Nat×SlotV))(O:σ→List (Nat×(Nat×List PV)))
 (h0:st.le ⟨mkS (S s0),mkO (O s0)⟩)
 (round:∀ m s,Run (f s) (stepP (whileN f m) ψ)→Mg P nt F n (.code c) ⟨mkS (S s),mkO (O s)⟩ (.rd (fun st'=>∃ s',Run (Av.whileN f m s') ψ∧st'.le ⟨mkS (S s'),mkO (O s')⟩)::k)):Mg P nt F (n+1) (.code (.loop c)) st k:=by
 show VC P nt (.loop c) st (popQ P nt F k)
 obtain⟨n0,h⟩:=rl_2 h
 refine VC.loop (α:=Nat×σ) (fun x=>⟨mkS (S x.2),mkO (O x.2)⟩) (fun x=>Run (Av.whileN f x.1 x.2) ψ) (fun x=>x.1) (n0,s0) h h0 ?_
 rintro ⟨i,s⟩ h2
 simp only at h2 ⊢
 obtain⟨i',rfl,h3⟩:=rw_ h2
 refine VC.mono (Mg.sound n _ _ _ (round i' s h3)) ?_
 intro ex st' hq
 cases ex with
 | normal=>obtain⟨s',g1,g2⟩:=hq; exact⟨(i',s'),g1,by simp only; omega,g2⟩
 | _=>exact hq
theorem ws_{i:Nat}(h:i<9223372036854775807):IntKind.i64.wrap ((i:Int)+1)=((i+1:Nat):Int):=by rw[wrap64]<;>omega

def FinH(P:Program)(st:St)(rs:List ResultVar)(res:PV):Prop:=RetOk P st rs res
@[congr] theorem FinH.cg {rs:List ResultVar} {res:PV} {st':St} (h:∀ _:Unit,st=st'):FinH P st rs res=FinH P st' rs res:=by rw[h ()]
theorem FinH.l{rs:List ResultVar}{res:PV}(h:RetL P st rs res):FinH P st rs res:=⟨h.1,h.2.1,.inl ⟨h.2.2.1,h.2.2.2⟩⟩
theorem FinH.r{rs:List ResultVar}{res:PV}(h:RetR P st rs res):FinH P st rs res:=⟨h.1,h.2.1,.inr h.2.2⟩
theorem Sat.of_m{f:FuncId}{fn:Func}{c:Code}{args:List PV}{res:PV}{rs:List ResultVar}(hf:P.funcs[f]?=some fn)(hname:(fn.name== "runtime.NumGoroutine")=false)(hb:fn.body=some c)
 (hnt:fn.ntmps=nt) (hrs:fn.results.toList=rs) (hle:args.length≤nt) (h:Mg P nt (fun st=>FinH P st rs res) n (.code c) (argSt args) []):Sat P f args res:=
 Sat.of_body hf hname hb hnt hrs hle (Mg.sound n _ _ _ h)
end

section
variable{P:Program}{nt:Nat}{st:St}
theorem CHt_{b:Bool}{A B:Prop}(hb:b=true)(h:b=true→A):CondH b A B .mk .mk:=by subst hb; exact⟨fun _=>h rfl,fun e=>nomatch e⟩
theorem CHf_{b:Bool}{A B:Prop}(hb:b=false)(h:b=false→B):CondH b A B .mk .mk:=by subst hb; exact⟨fun e=>(nomatch e),fun _=>h rfl⟩
def IdxH(es:List PV)(n:Int)(K:PV→Prop)(_:Tok K):Prop:=(0≤n∧n<es.length)∧K (es.getD n.toNat default)
@[congr] theorem IdxH.cg {es es':List PV} {n n':Int} {K:PV→Prop} (h:∀ _:Unit,es=es') (h':∀ _:Unit,n=n'):IdxH es n K .mk=IdxH es' n' K .mk:=by rw[h (),h' ()]
theorem IdxH.mk{α:Type}{f:α→PV}{xs:List α}{x:α}{es:List PV}{e:Int}{K:PV→Prop}(h:idx xs e=some x)(he:es=xs.map f)(hK:K (f x)):IdxH es e K .mk:=by
 obtain⟨h1,h2,h3⟩:=is_1 h
 subst he
 refine⟨⟨h1,by simpa using h2⟩,?_⟩
 have:(xs.map f).getD e.toNat default=f x:=by simp[List.getD,h3]
 rw[this]; exact hK
def ArrH(P:Program)(T:TypeId)(n:Int)(K:Nat→Nat→Prop)(_:Tok K):Prop:=ArrIx P T n K
@[congr] theorem ArrH.cg {P:Program} {T:TypeId} {n n':Int} {K:Nat→Nat→Prop} (h:∀ _:Unit,n=n'):ArrH P T n K .mk=ArrH P T n' K .mk:=by rw[h ()]
theorem ArrH.mk{P:Program}{T:TypeId}{n:Int}{K:Nat→Nat→Prop}{m sz:Nat}(k:Nat)(hT:ArrIs P T m sz)(hk:k<m)(hn:n=(k:Int))(hK:K k sz):ArrH P T n K .mk:=⟨m,sz,k,hT,hk,hn,hK⟩
def EldH(es:List PV)(i:Nat)(K:PV→Prop)(_:Tok K):Prop:=i<es.length∧K (es.getD i default)
@[congr] theorem EldH.cg {es es':List PV} {n n':Nat} {K:PV→Prop} (h:∀ _:Unit,es=es') (h':∀ _:Unit,n=n'):EldH es n K .mk=EldH es' n' K .mk:=by rw[h (),h' ()]
theorem EldH.mk{α:Type}{f:α→PV}{xs:List α}{x:α}{es:List PV}{e:Int}{i:Nat}{K:PV→Prop}(h:idx xs e=some x)(hi:i=e.toNat)(he:es=xs.map f)(hK:K (f x)):EldH es i K .mk:=by
 obtain⟨h1,h2,h3⟩:=is_1 h
 subst he; subst hi
 refine⟨by simp; omega,?_⟩
 have:(xs.map f).getD e.toNat default=f x:=by simp[List.getD,h3]
 rw[this]; exact hK
theorem iKs_(T:TypeId)(x y:Operand)(K:List Nat→List Nat→SlotV→Prop)(b:Bool)(sz:Nat)(es:List PV)(k:IntKind)(n:Int):idxK P st T x y K (.val (.pv (.sl b sz es))) (.val (.pv (.lit (.int k n))))=
 (SlIs P T sz (eBytes P T)∧IdxH es n (fun e=>K (rd x++rd y) [] (.val (.pv (.ptr e)))) .mk):=rfl
theorem iKo_(T:TypeId)(x y:Operand)(K:List Nat→List Nat→SlotV→Prop)(c:Nat)(k:IntKind)(n:Int):idxK P st T x y K (.val (.own c)) (.val (.pv (.lit (.int k n))))=
 objK (st.o c) (fun q=>SlIs P T q.1 (eBytes P T)∧IdxH q.2 n (fun _=>K (rd x++rd y) [c] (.eptr c q.1 n.toNat [] 0)) .mk):=by
 simp only[idxK]
 cases st.o c with
 | none=>rfl
 | some q=>rfl
theorem lKe_(T:TypeId)(x:Operand)(K:List Nat→List Nat→SlotV→Prop)(c sz i:Nat)(p:List Nat)(off:Nat):loadK P st T x K (.eptr c sz i p off)=
 objK (st.o c) (fun q=>q.1=sz∧EldH q.2 i (fun e=>(e.okp p=true∧e.offs p=off∧(e.at p).noOwn=true∧TyIs P T (CV.pv (e.at p)).isAgg (e.at p).size)∧K (rd x) [c] (.val (.pv (e.at p)))) .mk):=by
 simp only[loadK]
 cases st.o c with
 | none=>rfl
 | some q=>
  simp only[objK,EldH,eq_iff_iff]
  constructor
  ·rintro ⟨⟨h1,h2,h3,h4,h5,h6⟩,h7⟩; exact⟨h1,h2,⟨h3,h4,h5,h6⟩,h7⟩
  ·rintro ⟨h1,h2,⟨h3,h4,h5,h6⟩,h7⟩; exact⟨⟨h1,h2,h3,h4,h5,h6⟩,h7⟩
theorem sKe_(T:TypeId)(x y:Operand)(z:CV)(K:Rec→Prop)(c sz i:Nat)(p:List Nat)(off:Nat):storeK P st T x y (.val z) K (.eptr c sz i p off)=
 objK (st.o c) (fun q=>q.1=sz∧EldH q.2 i (fun e=>(e.okp p=true∧e.offs p=off∧z.whole st.o=true∧(c::z.names).Nodup∧TyIs P T z.isAgg z.size∧z.size=(e.at p).size∧(e.setAt p (z.pvo st.o)).size=sz)∧
  K { rs:=rd x++rd y,ro:=c::z.names,uo:=deadObjs z.names++[(c,some (sz,q.2.set i (e.setAt p (z.pvo st.o))))] }) .mk):=by
 simp only[storeK]
 cases st.o c with
 | none=>rfl
 | some q=>
  simp only[objK,EldH,eq_iff_iff]
  constructor
  ·rintro ⟨⟨h1,h2,h3,h4,h5,h6,h7,h8,h9⟩,h10⟩; exact⟨h1,h2,⟨h3,h4,h5,h6,h7,h8,h9⟩,h10⟩
  ·rintro ⟨h1,h2,⟨h3,h4,h5,h6,h7,h8,h9⟩,h10⟩; exact⟨⟨h1,h2,h3,h4,h5,h6,h7,h8,h9⟩,h10⟩
end
end Go.Av
