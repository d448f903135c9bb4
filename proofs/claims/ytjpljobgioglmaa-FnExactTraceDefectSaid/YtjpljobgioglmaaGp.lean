/- Lemmas of the proof; each says what it shows. -/
import Derived.Test.YtjpljobgioglmaaGm
import Derived.Test.YtjpljobgioglmaaAvS
set_option linter.unusedSimpArgs false
set_option linter.unusedVariables false
set_option linter.defProp false
set_option maxRecDepth 4000
namespace Go.Proofs.Ytjpljobgioglmaa
open Go.Av
open Option renaming bind_some→aq
theorem szIntS_eq(a:List Int)(h:LOk InR a)(l:Int)(h0:0≤l)(h1:l≤1048576):szIntS a l=some (szR (ltot (fun _=>0) a) l):=by
 unfold szIntS
 exact szLflat h.1 h0 h1
theorem toIntS_eq(a:List Int)(h:ltot (fun _=>0) a≤1048576):toIntS a=some a:=by
 unfold toIntS
 exact toLplain (by have:=ltot_len (fun _=>0) a; omega)
theorem eqIntS_refl(a:List Int):eqIntS a a=some true:=by
 unfold eqIntS
 exact eqLplain
def Sa.tot(a:Sa):Nat:=0
def Sa.Ok(a:Sa):Prop:=InR a.From∧InR a.To∧(fun _:Bool=>True) a.Strict
theorem toSizeEdge_eq(a:Sa)(h:a.tot≤1048576):toSizeEdge a=some a:=by
 unfold toSizeEdge
 unfold Sa.tot at h

 rfl
theorem eqSizeEdge_refl(a:Sa):eqSizeEdge a a=some true:=by
 unfold eqSizeEdge
 simp only[decide_true,cond_true,aq,beq_self_eq_true]
theorem szSizeEdgeS_eq(a:List Sa)(h:LOk Sa.Ok a)(l:Int)(h0:0≤l)(h1:l≤1048576):szSizeEdgeS a l=some (szR (ltot Sa.tot a) l):=by
 unfold szSizeEdgeS
 exact szLflat h.1 h0 h1
theorem toSizeEdgeS_eq(a:List Sa)(h:ltot Sa.tot a≤1048576):toSizeEdgeS a=some a:=by
 unfold toSizeEdgeS
 have:=toL (f:=toSizeEdge) (g:=fun x=>x) (z:=(Sa.mk (0:Int) (0:Int) false)) (xs:=a) (fun x hx=>toSizeEdge_eq x (by have:=tot_mem Sa.tot hx; omega)) (by have:=ltot_len Sa.tot a; omega)
 simpa only[List.map_id'] using this
theorem eqSizeEdgeS_refl(a:List Sa):eqSizeEdgeS a a=some true:=by
 unfold eqSizeEdgeS
 exact eqL (fun x _=>eqSizeEdge_refl x)
def Sb.tot(a:Sb):Nat:=(ltot Sa.tot) a.Edges
def Sb.Ok(a:Sb):Prop:=InR a.Source∧InR a.Target∧(LOk Sa.Ok) a.Edges
theorem szSizeGraph_eq(a:Sb)(h:a.Ok)(l:Int)(h0:0≤l)(h1:l≤1048576):szSizeGraph a l=some (szR a.tot l):=by
 unfold szSizeGraph
 show _=some (szR _ l)
 unfold Sb.tot
 rw[szSizeEdgeS_eq _ h.2.2 _ h0 h1,aq]
 exact szLast h0
theorem toSizeGraph_eq(a:Sb)(h:a.tot≤1048576):toSizeGraph a=some a:=by
 unfold toSizeGraph
 unfold Sb.tot at h
 rw[toSizeEdgeS_eq _ (by omega),aq]
theorem eqSizeGraph_refl(a:Sb):eqSizeGraph a a=some true:=by
 unfold eqSizeGraph
 simp only[decide_true,cond_true,aq,beq_self_eq_true,eqSizeEdgeS_refl]
theorem szSizeGraphS_eq(a:List Sb)(h:LOk Sb.Ok a)(l:Int)(h0:0≤l)(h1:l≤1048576):szSizeGraphS a l=some (szR (ltot Sb.tot a) l):=by
 unfold szSizeGraphS
 exact szL (fun x hx l h0 h1=>szSizeGraph_eq x (h.2 x hx) l h0 h1) h.1 h0 h1
theorem toSizeGraphS_eq(a:List Sb)(h:ltot Sb.tot a≤1048576):toSizeGraphS a=some a:=by
 unfold toSizeGraphS
 have:=toL (f:=toSizeGraph) (g:=fun x=>x) (z:=(Sb.mk (0:Int) (0:Int) ([]))) (xs:=a) (fun x hx=>toSizeGraph_eq x (by have:=tot_mem Sb.tot hx; omega)) (by have:=ltot_len Sb.tot a; omega)
 simpa only[List.map_id'] using this
theorem eqSizeGraphS_refl(a:List Sb):eqSizeGraphS a a=some true:=by
 unfold eqSizeGraphS
 exact eqL (fun x _=>eqSizeGraph_refl x)
def Ct.tot(a:Ct):Nat:=(ltot (fun _=>0)) a.Arities+((ltot Sb.tot) a.Calls)
def Ct.Ok(a:Ct):Prop:=(LOk InR) a.Arities∧(LOk Sb.Ok) a.Calls
theorem szCyclicProof_eq(a:Ct)(h:a.Ok)(l:Int)(h0:0≤l)(h1:l≤1048576):szCyclicProof a l=some (szR a.tot l):=by
 unfold szCyclicProof
 show _=some (szR _ l)
 unfold Ct.tot
 rw[szIntS_eq _ h.1 _ h0 h1,aq]
 refine szStepM h0 h1 (fun h0 h1=>?_)
 rw[szSizeGraphS_eq _ h.2 _ h0 h1,aq]
 exact szLast h0
theorem toCyclicProof_eq(a:Ct)(h:a.tot≤1048576):toCyclicProof a=some a:=by
 unfold toCyclicProof
 unfold Ct.tot at h
 rw[toIntS_eq _ (by omega),aq]
 rw[toSizeGraphS_eq _ (by omega),aq]
theorem eqCyclicProof_refl(a:Ct):eqCyclicProof a a=some true:=by
 unfold eqCyclicProof
 simp only[decide_true,cond_true,aq,beq_self_eq_true,eqIntS_refl,eqSizeGraphS_refl]
def la.tot(a:la):Nat:=(ltot (fun _=>0)) a.code
def la.Ok(a:la):Prop:=(LOk (fun x:Int=>0≤x∧x≤255)) a.code∧InR a.at_f∧(fun _:Int=>True) a.seed
def ft.tot(a:ft):Nat:=Sb.tot a.graph+((ltot (fun _=>0)) a.path)
def ft.Ok(a:ft):Prop:=Sb.Ok a.graph∧(LOk InR) a.path
def At.tot(a:At):Nat:=0
def At.Ok(a:At):Prop:=InR a.f0∧InR a.f1∧InR a.f2∧InR a.f3
end Go.Proofs.Ytjpljobgioglmaa
