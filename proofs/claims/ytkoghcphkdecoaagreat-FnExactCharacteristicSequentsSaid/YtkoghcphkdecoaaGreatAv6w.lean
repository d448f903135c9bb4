/- A part of the proof: lemmas only; nothing is claimed here beyond what each lemma says. -/
/- Arrays: an index into a variable of an array's type; such a variable as a slice. -/
import Derived.Test.YtkoghcphkdecoaaGreatAv6v
set_option linter.unusedSimpArgs false
set_option linter.unusedVariables false
set_option linter.defProp false
namespace Go.Av
def ArrIs(P:Program)(T:TypeId)(m sz:Nat):Prop:=∃ e,P.underlying T=some (.array m e)∧(P.info? e).map (·.size)=some sz
def ArrIx(P:Program)(T:TypeId)(n:Int)(K:Nat→Nat→Prop):Prop:=∃ m sz k,ArrIs P T m sz∧k<m∧n=(k:Int)∧K k sz
theorem rsO_{P:Program}{e:TypeId}{sz:Nat}(h:(P.info? e).map (·.size)=some sz)(w:World):(sizeOf e).run P w=.ok sz w:=by
 cases hq:P.info? e with
 | none=>rw[hq] at h; cases h
 | some i=>
  rw[hq] at h
  simp only[Option.map_some,Option.some.injEq] at h
  simp[sizeOf,typeInfo,hq,h]
theorem via_{P:Program}{nt:Nat}{o:Oper}{st:St}{d r off m sz k:Nat}{p:List Nat}{x y:Operand}{T T1 T2:TypeId}{kk:IntKind}{n:Int}(hop:o.op=.indexAddr T x y)(hdst:o.dst=some d)(hd:d<nt)
 (hT:ArrIs P T m sz) (hx:ev P st T1 x=.bptr r p off) (hy:ev P st T2 y=.val (.pv (.lit (.int kk n)))) (hk:k<m) (hn:n=(k:Int)):
 Valid P nt o st { rs:=rd x++rd y,us:=[(d,.bptr r (p++[k]) (off+k*sz))] }:=by
 refine vp_ hdst hd rfl ?_
 intro κ G st' a w hnt hsame hG
 have h1:=ev_ok (P:=P) (T:=T1) hG x d
 rw[ec_ (fun k hk=>hsame.1 k (by simp[hk])),hx] at h1
 have h2:=ev_lit hG hy (fun k hk=>hsame.1 k (by simp[hk]))
 simp only[SlotOk] at h1
 obtain⟨e,hu,hs⟩:=hT
 subst hn
 refine⟨.pointer (some ⟨G.ad r,off+k*sz,none⟩),?_,rfl⟩
 have hrun:(Instr.indexAt T (.pointer (some ⟨G.ad r,off,none⟩)) (.int kk (k:Int))).run P w=.ok (.pointer (some ⟨G.ad r,off+k*sz,none⟩)) w:=by
  have hkm:(0:Int)≤(k:Int)∧(k:Int)<(m:Int):=by omega
  simp only[Instr.indexAt,asIntOf,Sem.run_bind,Sem.run_pure,Result.andThen_ok,run_underlying hu,Instr.sureAddr]
  rw[if_pos hkm]
  simp only[Sem.run_bind,rsO_ hs w,Result.andThen_ok,Sem.run_pure,Int.toNat_natCast,ao_ _ _ (rfl:(⟨G.ad r,off,none⟩:Addr).spot=none)]
 simp[execOp,hop,h1,h2,hrun]
def ArrSl(P:Program)(T:TypeId)(lo hi:Option Operand)(p:List Nat)(off:Nat)(pure:Bool)(v:PV)(K:Nat→List PV→Prop):Prop:=
 lo=none∧hi=none∧p=[]∧off=0∧pure=true∧∃ m sz es,ArrIs P T m sz∧v=.agg es∧es.length=m∧(∀ e∈es,PV.size e=sz)∧m≤maxLen∧K sz es
theorem vsa_{P:Program}{nt:Nat}{o:Oper}{st:St}{d r m sz:Nat}{x:Operand}{T T1:TypeId}{c:CV}{es:List PV}(hop:o.op=.slice T x none none none)(hdst:o.dst=some d)(hd:d<nt)(hrd:r≠d)
 (hT:ArrIs P T m sz) (hx:ev P st T1 x=.bptr r [] 0) (hr:st.s r=.box c) (hp:c.pure=true) (hv:c.pvw st.o=.agg es) (hm:es.length=m) (hsz:∀ e∈es,PV.size e=sz) (hml:m≤maxLen):
 Valid P nt o st { rs:=r::rd x,ro:=c.names,us:=[(r,.val (.pv (.ptr (.agg es)))),(d,.val (.pv (.sl false sz es)))] }:=by
 intro κ st' a w hnt hsame hfresh hR next Q hnext
 obtain⟨G,hG⟩:=hR
 have hr':st'.s r=.box c:=by rw[hsame.1 r (by simp)]; exact hr
 have h1:=ev_ok (P:=P) (T:=T1) hG x d
 rw[ec_ (fun k hk=>hsame.1 k (by simp[hk])),hx] at h1
 simp only[SlotOk] at h1
 obtain⟨e,hu,hs⟩:=hT
 have hF:=Rf_ hG hr' hp
 have hv':c.pvw st'.o=.agg es:=by
  have:∀ c:CV,c.pure=true→c.pvw st'.o=c.pvw st.o:=by
   intro c
   refine CV.rec (motive_1:=fun c=>c.pure=true→c.pvw st'.o=c.pvw st.o) (motive_2:=fun cs=>CV.pures cs=true→CV.pvws st'.o cs=CV.pvws st.o cs) ?_ ?_ ?_ ?_ ?_ ?_ c
   ·intro v _; rfl
   ·intro n h; simp[CV.pure] at h
   ·intro fs ih h; simp only[CV.pvw]; rw[ih (by simpa[CV.pure] using h)]
   ·intro n h; simp[CV.pure] at h
   ·intro _; rfl
   ·intro y ys i1 i2 h
    simp only[CV.pures,Bool.and_eq_true] at h
    simp only[CV.pvws]; rw[i1 h.1,i2 h.2]
  rw[this c hp]; exact hv
 have hslot:=hF.slots r
 have hptr:(st'.set r (.val (.pv (.ptr (c.pvw st'.o))))).s r=.val (.pv (.ptr (.agg es))):=by simp[St.set,upd,hv']
 rw[hptr] at hslot
 rcases hslot with⟨hslot,_⟩ | ⟨_,hslot,hone⟩
 ·simp[CV.isAgg] at hslot
 simp only[RepCV,RepC] at hslot
 obtain⟨ad,ccs,q1,_,q3,q4,q5,q6⟩:=hslot
 have hbox:=hG.slots r
 rw[hr'] at hbox
 obtain⟨hp0,_⟩:=hbox
 have hadr:ad=⟨G.ad r,0,none⟩:=by
  rw[hp0] at q1
  simp at q1; exact q1.symm
 subst hadr
 have hrun:(Instr.sliceAt T (.pointer (some ⟨G.ad r,0,none⟩)) none none none).run P w=.ok (.slice (some ⟨G.ad r,0,none⟩) m m) w:=by
  simp only[Instr.sliceAt,Sem.run_bind,run_underlying hu,Result.andThen_ok,Instr.sureAddr,Sem.run_pure]
  have hb:(Instr.sliceBounds false m m none none none).run P w=.ok (0,m,m) w:=by
   simp[Instr.sliceBounds]
  rw[hb]
  simp only[Result.andThen_ok,Sem.run_bind,rsO_ hs w,Sem.run_pure]
  by_cases hm0:m=0
  ·simp[hm0]
  ·rw[if_neg hm0]
   simp[ao_]
 have hexec:(execOp a.eval o).run P w=.ok (.value (.slice (some ⟨G.ad r,0,none⟩) m m)) w:=by simp[execOp,hop,h1,hrun]
 unfold Oper.wp
 rw[hexec]
 simp only[Oper.upon]
 rw[hdst]
 refine hnext _ _ ?_
 have hres:SlotOk (Nof κ (st'.set r (.val (.pv (.ptr (c.pvw st'.o))))) G w) w G d (.slice (some ⟨G.ad r,0,none⟩) m m) (.val (.pv (.sl false sz es))):=by
  refine .inr ⟨rfl,?_,rfl⟩
  simp only[RepCV,RepC]
  refine⟨some ⟨G.ad r,0,none⟩,m,by rw[hm],trivial,by omega,hml,hsz,.inr ⟨_,ccs,rfl,rfl,q4,q5,by simpa only[RepC] using q6⟩⟩
 have:=R.set (sv:=.val (.pv (.sl false sz es))) (v:=.slice (some ⟨G.ad r,0,none⟩) m m) (d:=d) G hF (by rw[hnt]; exact hd) rfl hres
 simpa[St.app,updAll,St.set,hv'] using this
end Go.Av
