/- A part of the proof: lemmas only; nothing is claimed here beyond what each lemma says. -/
/- What every state knows of its lists; nil slices as one's own; structs opened. -/
import Derived.Test.YtkoghcphkdecoaaGreatAvM
set_option linter.unusedSimpArgs false
set_option linter.unusedVariables false
set_option linter.defProp false
namespace Go.Av
variable{P:Program}{nt:Nat}{F:St→Prop}{n:Nat}{st:St}{k:List Fr}
theorem sa_2{N:Nat→Prop}{w:World}{G:Gh}{j:Nat}{v:Value}{x:CV}(h:SlotOk N w G j v (.box x)∨SlotOk N w G j v (.val x))(p:List Nat)(hp:x.okp p=true):∃ cs,RepCV N w G.hd (x.at p) cs:=by
 have key:∀ cs,RepCV N w G.hd x cs→∃ cs,RepCV N w G.hd (x.at p) cs:=by
  intro cs h
  obtain⟨c1,c2,c3,_,_,h3,_⟩:=RepCV.path p x cs hp h
  exact⟨c2,h3⟩
 rcases h with⟨_,cs,e,_,h⟩ | ⟨_,cs,_,h⟩ | ⟨_,h,_⟩
 ·exact key cs h
 ·exact key cs h
 ·exact key _ h
theorem Vka_{c:Code}{Q:Exit→St→Prop}{b:Bool}{sz:Nat}{es:List PV}{x:CV}(j:Nat)(p:List Nat)(hk:st.s j=.box x∨st.s j=.val x)(hp:x.okp p=true)(ha:x.at p=.pv (.sl b sz es))(h:es.length≤maxLen→VC P nt c st Q):VC P nt c st Q:=by
 intro κ a w hnt hR
 refine h ?_ κ a w hnt hR
 obtain⟨G,hG⟩:=hR
 have h1:=hG.slots j
 have h2:∃ cs,RepCV (Nof κ st G w) w G.hd (x.at p) cs:=by
  rcases hk with hk | hk<;>rw[hk] at h1
  ·exact sa_2 (.inl h1) p hp
  ·exact sa_2 (.inr h1) p hp
 obtain⟨cs,h2⟩:=h2
 rw[ha] at h2
 simp only[RepCV] at h2
 cases b with
 | false=>simp only[RepC] at h2; obtain⟨a,cap,h1,h2,h3,h4,h5⟩:=h2; omega
 | true=>
  simp only[RepC] at h2
  rcases h2 with⟨_,rfl,_⟩ | ⟨b,cap,c,e,F',ccs,h1,h2,h3,_⟩
  ·simp
  ·omega
theorem Mkb_1{c:Code}{b:Bool}{sz:Nat}{es:List PV}{x:CV}(j:Nat)(p:List Nat)(hk:st.s j=.box x)(hp:x.okp p=true)(ha:x.at p=.pv (.sl b sz es))(h:es.length≤9223372036854775807→Mg P nt F (n+1) (.code (.loop c)) st k):Mg P nt F (n+1) (.code (.loop c)) st k:=
 Vka_ (Q:=popQ P nt F k) j p (.inl hk) hp ha (fun g=>h (Nat.le_trans g (by decide)))
theorem Mkv_1{c:Code}{b:Bool}{sz:Nat}{es:List PV}{x:CV}(j:Nat)(p:List Nat)(hk:st.s j=.val x)(hp:x.okp p=true)(ha:x.at p=.pv (.sl b sz es))(h:es.length≤9223372036854775807→Mg P nt F (n+1) (.code (.loop c)) st k):Mg P nt F (n+1) (.code (.loop c)) st k:=
 Vka_ (Q:=popQ P nt F k) j p (.inr hk) hp ha (fun g=>h (Nat.le_trans g (by decide)))

theorem Mkb_{c:Code}{b:Bool}{sz:Nat}{es:List PV}{x:CV}(j:Nat)(p:List Nat)(hk:st.s j=.box x∧x.okp p=true∧x.at p=.pv (.sl b sz es))(h:es.length≤9223372036854775807→Mg P nt F (n+1) (.code (.loop c)) st k):Mg P nt F (n+1) (.code (.loop c)) st k:=Mkb_1 j p hk.1 hk.2.1 hk.2.2 h
theorem Mkv_{c:Code}{b:Bool}{sz:Nat}{es:List PV}{x:CV}(j:Nat)(p:List Nat)(hk:st.s j=.val x∧x.okp p=true∧x.at p=.pv (.sl b sz es))(h:es.length≤9223372036854775807→Mg P nt F (n+1) (.code (.loop c)) st k):Mg P nt F (n+1) (.code (.loop c)) st k:=Mkv_1 j p hk.1 hk.2.1 hk.2.2 h

theorem Sls_(j:Nat)(v':SlotV)(hb:isBox v'=isBox (st.s j))(h:∀ N w G v,SlotOk N w G j v (st.s j)→SlotOk N w G j v v'):st.le ⟨upd st.s j v',st.o⟩:=by
 rintro κ a w ⟨G,hG⟩
 have hbx:∀ r,isBox ((⟨upd st.s j v',st.o⟩:St).s r)=isBox (st.s r):=by
  intro r
  simp only[upd]
  split
  ·rename_i e; subst e; exact hb
  ·rfl
 have hP:∀ b,Nof κ st G w b→Nof κ ⟨upd st.s j v',st.o⟩ G w b:=by
  intro b hb
  refine⟨hb.1,fun hp=>hb.2 ?_⟩
  rcases hp with⟨r,h1,h2⟩ | ⟨c,p,h1,h2⟩
  ·exact .inl ⟨r,by rw[← hbx]; exact h1,h2⟩
  ·exact .inr ⟨c,p,h1,h2⟩
 refine⟨G,hG.keep,hG.defers,hG.nt,?_,?_,fun r hr=>hG.boxes r (by rw[← hbx]; exact hr),fun r r' h1 h2=>hG.bb r r' (by rw[← hbx]; exact h1) (by rw[← hbx]; exact h2),fun r c p h1 h2=>hG.bo r c p (by rw[← hbx]; exact h1) h2,hG.oo,hG.held⟩
 ·intro i
  have h1:=(hG.slots i).frame hP (fun _ _=>rfl) (fun _ _=>rfl) (fun _ _=>rfl) (fun _=>⟨rfl,rfl⟩)
  simp only[upd]
  split
  ·rename_i e; subst e; exact h _ _ _ _ h1
  ·exact h1
 ·intro c sz es hc
  obtain⟨h1,h2,h3⟩:=hG.objs c sz es hc
  exact⟨RepC.frame hP (fun _ _=>rfl) _ _ _ (fun _ _=>rfl) h1,h2,h3⟩

theorem Sln_1(j c sz:Nat)(v':SlotV)(hn:st.noC c)(hb:isBox v'=isBox (st.s j))(h:∀ N w G v,G.hd c=.slice none 0 0→SlotOk N w G j v (st.s j)→SlotOk N w G j v v'):st.le ⟨upd st.s j v',upd st.o c (some (sz,[]))⟩:=by
 rintro κ a w ⟨G,hG⟩
 let G':Gh:={ hd:=upd G.hd c (.slice none 0 0),fp:=upd G.fp c [],ad:=G.ad }
 have g1:G'.hd c=.slice none 0 0:=by simp[G',upd]
 have g2:∀ n,n≠c→G'.hd n=G.hd n:=by intro n h; simp[G',upd,h]
 have f1:G'.fp c=[]:=by simp[G',upd]
 have f2:∀ n,n≠c→G'.fp n=G.fp n:=by intro n h; simp[G',upd,h]
 have hbx:∀ r,isBox ((⟨upd st.s j v',upd st.o c (some (sz,[]))⟩:St).s r)=isBox (st.s r):=by
  intro r
  simp only[upd]
  split
  ·rename_i e; subst e; exact hb
  ·rfl
 have ho:∀ m p,(⟨upd st.s j v',upd st.o c (some (sz,[]))⟩:St).o m=some p→(m=c∧p=(sz,[]))∨(m≠c∧st.o m=some p):=by
  intro m p hp
  simp only[upd] at hp
  split at hp
  ·rename_i e; exact .inl ⟨e,(Option.some.inj hp).symm⟩
  ·rename_i e; exact .inr ⟨e,hp⟩
 have hP:∀ b,Nof κ st G w b→Nof κ ⟨upd st.s j v',upd st.o c (some (sz,[]))⟩ G' w b:=by
  intro b hb
  refine⟨hb.1,fun hp=>hb.2 ?_⟩
  rcases hp with⟨r,h1,h2⟩ | ⟨m,p,h1,h2⟩
  ·exact .inl ⟨r,by rw[← hbx]; exact h1,h2⟩
  ·rcases ho m p h1 with⟨rfl,_⟩ | ⟨e,h3⟩
   ·rw[f1] at h2; simp at h2
   ·rw[f2 m e] at h2; exact .inr ⟨m,p,h3,h2⟩
 refine⟨G',hG.keep,hG.defers,hG.nt,?_,?_,fun r hr=>hG.boxes r (by rw[← hbx]; exact hr),fun r r' h1 h2=>hG.bb r r' (by rw[← hbx]; exact h1) (by rw[← hbx]; exact h2),?_,?_,fun m v hm=>(g2 m (by have:=κ.hH m v hm; have:=hn.1.1; omega)).trans (hG.held m v hm)⟩
 ·intro i
  have h1:=(hG.slots i).frame (G':=G') hP (fun _ _=>rfl) (fun m hm=>g2 m (by rintro rfl; rw[hn.2 i] at hm; cases hm)) (fun _ _=>rfl) (fun _=>⟨rfl,rfl⟩)
  simp only[upd]
  split
  ·rename_i e; subst e; exact h _ _ _ _ g1 h1
  ·exact h1
 ·intro m sz' es hc
  rcases ho m _ hc with⟨rfl,e⟩ | ⟨e,h3⟩
  ·cases e
   rw[g1,f1]
   refine⟨?_,List.nodup_nil,by simp⟩
   simp only[RepC]
   exact .inl (by simp)
  ·rw[g2 m e,f2 m e]
   obtain⟨h1,h2,h4⟩:=hG.objs m sz' es h3
   exact⟨RepC.frame hP (fun _ _=>rfl) _ _ _ (fun _ _=>rfl) h1,h2,h4⟩
 ·intro r m p h1 h2
  rcases ho m p h2 with⟨rfl,_⟩ | ⟨e,h3⟩
  ·rw[f1]; simp
  ·rw[f2 m e]; exact hG.bo r m p (by rw[← hbx]; exact h1) h3
 ·intro m m' p p' h1 h2 hne
  rcases ho m p h1 with⟨rfl,_⟩ | ⟨e,h3⟩
  ·rw[f1]; simp
  ·rcases ho m' p' h2 with⟨rfl,_⟩ | ⟨e',h3'⟩
   ·rw[f1]; simp
   ·rw[f2 m e,f2 m' e']; exact hG.oo m m' p p' h3 h3' hne

theorem nr_{N:Nat→Prop}{w:World}{hd:Nat→Value}{sz:Nat}{cs:List Value}(h:RepCV N w hd (.pv (.sl true sz [])) cs):cs=[.slice none 0 0]:=by
 simp only[RepCV,RepC] at h
 rcases h with⟨h,_⟩ | ⟨b,cap,c,e,F',ccs,_,_,_,_,_,_,_,_,h⟩
 ·exact h
 ·cases h
theorem iAs_(x y:CV)(i:Nat)(p:List Nat):(x.setAt (i::p) y).isAgg=true:=by simp[CV.setAt,CV.isAgg]
theorem iAo_1{x:CV}{i:Nat}{p:List Nat}(h:x.okp (i::p)=true):x.isAgg=true:=by
 simp only[CV.okp,Bool.and_eq_true,decide_eq_true_eq] at h
 cases x with
 | pv v=>cases v<;>simp[CV.parts] at h<;>rfl
 | node fs=>rfl
 | _=>simp[CV.parts] at h
theorem st_1{N:Nat→Prop}{w:World}{G:Gh}{j:Nat}{v:Value}{x y z:CV}{p:List Nat}(hp:x.okp p=true)(ha:x.at p=y)(hz:∀ cs,RepCV N w G.hd y cs→RepCV N w G.hd z cs)(hzy:z.isAgg=y.isAgg):
 (SlotOk N w G j v (.box x)→SlotOk N w G j v (.box (x.setAt p z)))∧(SlotOk N w G j v (.val x)→SlotOk N w G j v (.val (x.setAt p z))):=by
 have key:∀ cs,RepCV N w G.hd x cs→RepCV N w G.hd (x.setAt p z) cs:=by
  intro cs h
  obtain⟨c1,c2,c3,e1,_,h3,h4⟩:=RepCV.path p x cs hp h
  rw[e1]
  exact h4 z c2 (hz c2 (ha▸h3))
 constructor
 ·rintro ⟨h1,cs,e,h2,h3⟩; exact⟨h1,cs,e,h2,key cs h3⟩
 ·have hagg:(x.setAt p z).isAgg=x.isAgg:=by
   cases p with
   | nil=>simp only[CV.at] at ha; subst ha; simpa[CV.setAt] using hzy
   | cons i p=>rw[iAs_,iAo_1 hp]
  rintro (⟨h1,cs,h2,h3⟩ | ⟨h1,h2,h3⟩)
  ·exact .inl ⟨by rw[hagg]; exact h1,cs,h2,key cs h3⟩
  ·exact .inr ⟨by rw[hagg]; exact h1,key _ h2,h3⟩
theorem Sln_{x:CV}(j:Nat)(p:List Nat)(c sz:Nat)(hn:st.noC c)(hk:st.s j=.box x)(hp:x.okp p=true)(ha:x.at p=.pv (.sl true sz [])):st.le ⟨upd st.s j (.box (x.setAt p (.own c))),upd st.o c (some (sz,[]))⟩:=by
 refine Sln_1 j c sz _ hn (by rw[hk]; rfl) fun N w G v hc h=>?_
 rw[hk] at h
 exact(st_1 (z:=.own c) hp ha (fun cs hcs=>by rw[nr_ hcs]; simp[RepCV,hc,Value.oneCell']) rfl).1 h
theorem and_ac{A B C:Prop}(h:A∧B∧C):(A∧B)∧C:=⟨⟨h.1,h.2.1⟩,h.2.2⟩
end Go.Av
namespace Go.Av
def gv:List Bool→List PV→List PV
 | b::bs,p::ps=>(if b then p.view else p)::gv bs ps
 | _,ps=>ps
theorem rVg_1{N N':Nat→Prop}{w:World}{p:PV}{v:Value}{F:List Nat}(hN:∀ b,N b→N' b)(hF:∀ b∈F,N' b)(h:RepV N w p v F):RepV N' w p.view v []:=by
 cases p with
 | agg fs=>
  obtain⟨cs,rfl,h⟩:=h
  exact⟨cs,rfl,RepCs.demote hN fs cs F hF h⟩
 | sl o sz es=>exact RepC.demote hN _ [v] F hF h
 | lit u=>exact RepC.demote hN _ [v] F hF h
 | clo f c=>exact RepC.demote hN _ [v] F hF h
 | ptr u=>exact RepC.demote hN _ [v] F hF h
 | tup ps=>simp[RepV,RepC] at h
theorem rVg_{N:Nat→Prop}{w:World}:∀ (ms:List Bool) (ps:List PV) (vs:List Value) (F:List Nat),RepVs N w ps vs F→
 ∃ F' G:List Nat,(∀ b,b∈F↔b∈F'∨b∈G)∧(F.Nodup→F'.Nodup∧∀ b∈G,b∉F')∧∀ N':Nat→Prop,(∀ b,N b→N' b)→(∀ b∈G,N' b)→RepVs N' w (gv ms ps) vs F'
 | [],ps,vs,F,h=>⟨F,[],by simp,fun h=>⟨h,by simp⟩,fun N' hN _=>by
  have e:gv [] ps=ps:=by cases ps<;>rfl
  rw[e]; exact rVf_ hN (fun _ _=>rfl) (fun _ _=>rfl) h⟩
 | m::ms,[],vs,F,h=>⟨F,[],by simp,fun h=>⟨h,by simp⟩,fun N' hN _=>rVf_ hN (fun _ _=>rfl) (fun _ _=>rfl) h⟩
 | m::ms,p::ps,vs,F,h=>by
  simp only[RepVs] at h
  obtain⟨v,vs',F1,F2,rfl,rfl,h1,h2⟩:=h
  obtain⟨F',G,g1,g2,g3⟩:=rVg_ ms ps vs' F2 h2
  cases m with
  | true=>
   refine⟨F',F1++G,?_,?_,?_⟩
   ·intro b; simp only[List.mem_append,g1 b]
    constructor
    ·rintro (h | h | h); exact .inr (.inl h); exact .inl h; exact .inr (.inr h)
    ·rintro (h | h | h); exact .inr (.inl h); exact .inl h; exact .inr (.inr h)
   ·intro hn
    rw[List.nodup_append] at hn
    obtain⟨k1,k2⟩:=g2 hn.2.1
    refine⟨k1,fun b hb hb'=>?_⟩
    rcases List.mem_append.1 hb with hb | hb
    ·exact hn.2.2 b hb b ((g1 b).2 (.inl hb')) rfl
    ·exact k2 b hb hb'
   ·intro N' hN hG
    refine⟨v,vs',[],F',rfl,rfl,?_,g3 N' hN (fun b hb=>hG b (by simp[hb]))⟩
    exact rVg_1 hN (fun b hb=>hG b (by simp[hb])) h1
  | false=>
   refine⟨F1++F',G,?_,?_,?_⟩
   ·intro b; simp only[List.mem_append,g1 b]
    constructor
    ·rintro (h | h | h); exact .inl (.inl h); exact .inl (.inr h); exact .inr h
    ·rintro ((h | h) | h); exact .inl h; exact .inr (.inl h); exact .inr (.inr h)
   ·intro hn
    rw[List.nodup_append] at hn
    obtain⟨k1,k2⟩:=g2 hn.2.1
    refine⟨?_,fun b hb hb'=>?_⟩
    ·rw[List.nodup_append]
     exact⟨hn.1,k1,fun a ha b hb=>hn.2.2 a ha b ((g1 b).2 (.inl hb))⟩
    ·rcases List.mem_append.1 hb' with hb' | hb'
     ·exact hn.2.2 b hb' b ((g1 b).2 (.inr hb)) rfl
     ·exact k2 b hb hb'
   ·intro N' hN hG
    exact⟨v,vs',F1,F',rfl,rfl,h1.frame hN (fun _ _=>rfl) (fun _ _=>rfl),g3 N' hN hG⟩
theorem rRf_{N N':Nat→Prop}{w:World}{p:PV}{v:Value}{F:List Nat}(hN:∀ b,N b→N' b)(h:RepR N w p v F):RepR N' w p v F:=by
 cases p with
 | tup ps=>obtain⟨vs,h1,h2⟩:=h; exact⟨vs,h1,rVf_ hN (fun _ _=>rfl) (fun _ _=>rfl) h2⟩
 | lit u=>exact RepV.frame (w:=w) (w':=w) (p:=.lit u) hN (fun _ _=>rfl) (fun _ _=>rfl) h
 | agg u=>exact RepV.frame (w:=w) (w':=w) (p:=.agg u) hN (fun _ _=>rfl) (fun _ _=>rfl) h
 | sl o sz es=>exact RepV.frame (w:=w) (w':=w) (p:=.sl o sz es) hN (fun _ _=>rfl) (fun _ _=>rfl) h
 | clo f c=>exact RepV.frame (w:=w) (w':=w) (p:=.clo f c) hN (fun _ _=>rfl) (fun _ _=>rfl) h
 | ptr u=>exact RepV.frame (w:=w) (w':=w) (p:=.ptr u) hN (fun _ _=>rfl) (fun _ _=>rfl) h
theorem Sat.give{P:Program}{f:FuncId}{args:List PV}{res:PV}(ms:List Bool)(h:Sat P f (gv ms args) res):Sat P f args res:=by
 refine⟨h.1,fun w N vs Fs hN hnd hlt hvs=>?_⟩
 obtain⟨F',G,h1,h2,h3⟩:=rVg_ ms args vs Fs hvs
 obtain⟨k1,k2⟩:=h2 hnd
 have hG:∀ b∈G,b<w.heap.size:=fun b hb=>hlt b ((h1 b).2 (.inr hb))
 have:=h.2 w (fun b=>N b∨b∈G) vs F' (by
  rintro b (hb | hb)
  ·exact⟨(hN b hb).1,fun hb'=>(hN b hb).2 ((h1 b).2 (.inl hb'))⟩
  ·exact⟨hG b hb,k2 b hb⟩) k1 (fun b hb=>hlt b ((h1 b).2 (.inl hb))) (h3 _ (fun _ h=>.inl h) (fun _ h=>.inr h))
 refine this.mono fun e w' he=>?_
 obtain⟨v,F,rfl,hk,hr,hfn,hf⟩:=he
 refine⟨v,F,rfl,⟨hk.os,hk.tape,hk.output,hk.size,fun k hk1 hk2=>hk.block k hk1 (fun hb=>hk2 ((h1 k).2 (.inl hb)))⟩,rRf_ ?_ hr,hfn,fun b hb=>⟨(hf b hb).1.imp id (fun g=>(h1 b).2 (.inl g)),(hf b hb).2⟩⟩
 rintro b ((hb | hb) | hb)
 ·exact .inl hb
 ·refine .inr ⟨.inr ((h1 b).2 (.inr hb)),Nat.lt_of_lt_of_le (hG b hb) hk.size,fun hbF=>?_⟩
  rcases (hf b hbF).1 with g | g
  ·have:=hG b hb; omega
  ·exact k2 b hb g
 ·exact .inr ⟨hb.1.imp id (fun g=>(h1 b).2 (.inl g)),hb.2⟩
theorem vrB_(n:Nat)(b:Bool):PV.views (List.replicate n (B b))=List.replicate n (B b):=by
 induction n with
 | zero=>rfl
 | succ n ih=>rw[List.replicate_succ,PV.views,ih]; rfl
theorem vrI_(n:Nat)(i:Int):PV.views (List.replicate n (I i))=List.replicate n (I i):=by
 induction n with
 | zero=>rfl
 | succ n ih=>rw[List.replicate_succ,PV.views,ih]; rfl
theorem gv_t(bs:List Bool)(p:PV)(ps:List PV):gv (true::bs) (p::ps)=p.view::gv bs ps:=rfl
theorem gv_f(bs:List Bool)(p:PV)(ps:List PV):gv (false::bs) (p::ps)=p::gv bs ps:=rfl
theorem gv_n(ps:List PV):gv [] ps=ps:=by cases ps<;>rfl
theorem NM{st:St}{c:Nat}(h:St.noC st c:=by repeat (first | exact nCe_ _ _ ⟨by decide,rfl⟩ | exact nCn_ _ _ ⟨by decide,rfl⟩ | refine noC_mk _ _ _ _ _ rfl ?_ | refine nCm_ _ _ _ _ _ rfl ?_)):St.noC st c:=h
theorem NR{st:St}{r:Nat}(h:St.noR st r:=by repeat (first | exact nRe_ _ _ | exact nRn_ _ _ | refine noR_mk _ _ _ _ _ rfl ?_ | refine nRm_ _ _ _ _ _ rfl ?_)):St.noR st r:=h
theorem naA{st:St}{r:Nat}{K:Prop}(h:St.noR st r)(hK:K):St.noR st r∧K:=⟨h,hK⟩
theorem ncA{st:St}{c:Nat}{K:Prop}(h:St.noC st c)(hK:K):St.noC st c∧K:=⟨h,hK⟩
theorem ngA{l:List Nat}{n:Nat}{K:Prop}(h:l=List.range n)(hK:K):l=List.range n∧K:=⟨h,hK⟩
theorem an_{P:Nat→Prop}:∀ x∈([]:List Nat),P x:=fun _ h=>nomatch h
theorem ac_1{P:Nat→Prop}{a:Nat}{l:List Nat}(h:P a)(t:∀ x∈l,P x):∀ x∈a::l,P x:=fun x hx=>by
 rcases List.mem_cons.1 hx with rfl | hx
 ·exact h
 ·exact t x hx
def Dum:Bool:=true
theorem Ro_{α:Type}{m:Option α}{r:α}(h:m=some r):Run m (fun v=>v=r)∧Dum=true:=⟨Run.of h,rfl⟩
theorem S{G K:Prop}(k:K)(e:K→G:=by intro k; (try simp only[↓TP,push_cast,Nat.reduceLT,Nat.reduceAdd,Nat.reduceMul,Nat.reduceEqDiff,reduceIte,Nat.reduceBEq,Nat.reduceLeDiff,Nat.reduceSub,Int.reduceToNat,Int.reduceAdd,cs]); (repeat (first | (with_reducible refine naA ?_ ?_; exact NR) | (with_reducible refine ncA ?_ ?_; exact NM) | with_reducible refine and_ac ?_ | with_reducible refine OrR.l ?_ | (with_reducible refine ngA ?_ ?_; rfl))); exact k):G:=e k
theorem SB{G K:Prop}(k:K)(e:K→G:=by intro k; (try simp only[↓TP,push_cast,Nat.reduceLT,Nat.reduceAdd,Nat.reduceMul,Nat.reduceEqDiff,reduceIte,Nat.reduceBEq,Nat.reduceLeDiff,Nat.reduceSub,Int.reduceToNat,Int.reduceAdd,cs]); (repeat (first | (with_reducible refine naA ?_ ?_; exact NR) | (with_reducible refine ncA ?_ ?_; exact NM) | with_reducible refine and_ac ?_ | (with_reducible refine ngA ?_ ?_; rfl))); exact k):G:=e k
theorem SC{G:Prop}(h:G:=by simp only[↓TP,push_cast,Nat.reduceLT,Nat.reduceAdd,Nat.reduceMul,Nat.reduceEqDiff,reduceIte,Nat.reduceBEq,Nat.reduceLeDiff,Nat.reduceSub,Int.reduceToNat,Int.reduceAdd,cs]):G:=h
theorem SW{G:Prop}(h:G:=by simp only[↓TP,push_cast,Nat.reduceLT,Nat.reduceAdd,Nat.reduceMul,Nat.reduceEqDiff,reduceIte,Nat.reduceBEq,Nat.reduceLeDiff,Nat.reduceSub,Int.reduceToNat,Int.reduceAdd,cs,w]):G:=h
theorem CondH.run{α:Type}{b:Bool}{x y:Option α}{φ:α→Prop}{A B C:Prop}(cs:C)(h:Run (cond b x y) φ)(f:b=true∧C→Run x φ→A)(g:b=false∧C→Run y φ→B):CondH b A B .mk .mk:=
 CondH.mk (fun c=>f ⟨c,cs⟩ (run_t c h)) (fun c=>g ⟨c,cs⟩ (run_f c h))
theorem CondH.t2{p:Prop}[Decidable p]{A B C:Prop}(cs:C)(hp:p)(f:decide p=true∧C→A):CondH (decide p) A B .mk .mk:=CHt_ (decide_eq_true hp) fun c=>f ⟨c,cs⟩
theorem CondH.f2{p:Prop}[Decidable p]{A B C:Prop}(cs:C)(hp:¬ p)(f:decide p=false∧C→B):CondH (decide p) A B .mk .mk:=CHf_ (decide_eq_false hp) fun c=>f ⟨c,cs⟩
theorem DHa_{st:St}{l:List Oper}{recs:List Rec}(frs fcs:List Nat)(h1:edgesL l=true:=by rfl)(h2:pairsL l recs=true:=by first | rfl | (simp only[↓TP,push_cast,Nat.reduceLT,Nat.reduceAdd,Nat.reduceMul,Nat.reduceEqDiff,reduceIte,Nat.reduceBEq,Nat.reduceLeDiff,Nat.reduceSub,Int.reduceToNat,Int.reduceAdd,cs]<;>rfl))(h3:recs.flatMap (·.fr)=frs:=by rfl)(h4:recs.flatMap (·.fc)=fcs:=by first | rfl | (simp only[↓TP,push_cast,Nat.reduceLT,Nat.reduceAdd,Nat.reduceMul,Nat.reduceEqDiff,reduceIte,Nat.reduceBEq,Nat.reduceLeDiff,Nat.reduceSub,Int.reduceToNat,Int.reduceAdd,cs]<;>rfl))
 (h5:∀ x∈frs,st.noR x:=by repeat (first | exact an_ | refine ac_1 ?_ ?_ | exact nRe_ _ _ | exact nRn_ _ _ | refine noR_mk _ _ _ _ _ rfl ?_ | refine nRm_ _ _ _ _ _ rfl ?_))
 (h6:∀ c∈fcs,st.noC c:=by repeat (first | exact an_ | refine ac_1 ?_ ?_ | exact nCe_ _ _ ⟨by decide,rfl⟩ | exact nCn_ _ _ ⟨by decide,rfl⟩ | refine noC_mk _ _ _ _ _ rfl ?_ | refine nCm_ _ _ _ _ _ rfl ?_)):DrawH ⟨l⟩ st recs .mk .mk .mk:=DrawH.mk frs fcs h1 h2 h3 h4 h5 h6
end Go.Av
