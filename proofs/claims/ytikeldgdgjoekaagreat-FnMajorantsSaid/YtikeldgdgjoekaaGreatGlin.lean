/- Lemmas of the proof; each says what it shows. -/
import Derived.Test.YtikeldgdgjoekaaGreatGsrl
set_option linter.unusedSimpArgs false
set_option linter.unusedVariables false
set_option linter.defProp false
set_option maxRecDepth 4000
namespace Go.Proofs.YtikeldgdgjoekaaGreat
open Go.Av
open Option renaming bind→ae,bind_some→ag
theorem ordN_forL{ε ρ σ:Type}(f:ε→σ→Option (Flow ρ σ))(ord:List ε)(s:σ):forN (ordN f ord) ord.length 0 s=forL (fun _=>f) ord 0 s:=
 forN_forL _ _ ord 0 s (fun j x s h=>by simp[ordN,h])
theorem app_one{α:Type}{xs:List α}{x:α}(h:xs.length+1≤1073741824):app xs [x]=some (xs++[x]):=by simp[app,h]
theorem fold_keys{ρ:Type}:∀ (xs:List (ByteArray×Int×Nat)) (i:Nat) (s:List ByteArray),s.length+xs.length≤1073741824→
 forL (ρ:=ρ) (fun _ (e:ByteArray×Int×Nat) (s:List ByteArray)=>bif decide (e.2.1=(0:Int)) then some (.nx s) else ae (app s ([e.1])) fun v=>some (.nx v)) xs i s=some (.inr (s++(xs.filter fun e=>!decide (e.2.1=0)).map fun e=>e.1))
 | [],i,s,_=>by simp[forL]
 | e::xs,i,s,h=>by
  simp only[List.length_cons] at h
  by_cases hz:e.2.1=0
  ·rw[forL_nx (s':=s) (by simp[hz]),fold_keys xs (i+1) s (by omega)]
   simp[hz]
  ·rw[forL_nx (s':=s++[e.1]) (by simp only[decide_eq_false hz,cond_false]; rw[app_one (by omega)]; rfl),fold_keys xs (i+1) _ (by simp; omega)]
   simp[hz]
theorem fold_map{ρ α β:Type}(g:α→β):∀ (xs:List α) (i:Nat) (s:List β),s.length+xs.length≤1073741824→
 forL (ρ:=ρ) (fun _ (x:α) (s:List β)=>ae (app s ([g x])) fun v=>some (.nx v)) xs i s=some (.inr (s++xs.map g))
 | [],i,s,_=>by simp[forL]
 | x::xs,i,s,h=>by
  simp only[List.length_cons] at h
  rw[forL_nx (s':=s++[g x]) (by rw[app_one (by omega)]; rfl),fold_map g xs (i+1) _ (by simp; omega)]
  simp
theorem linear_ord{ord:List (ByteArray×Int×Nat)}{a0:GMap Int}{a1:Int}{r:Lt×Bool}(ho:ord.Perm a0.es)(h:impl_linear a0 a1=some r):impl_linearR ord a0 a1=some r:=by
 unfold impl_linear at h
 split at h
 case isFalse=>cases h
 case isTrue hl=>
 unfold impl_linearR
 rw[ordN_forL,fold_keys ord 0 [] (by have:=ho.length_eq; simp; omega),thenL_inr,List.nil_append]
 have hp:((ord.filter fun e=>!decide (e.2.1=0)).map fun e=>e.1).Perm ((a0.es.filter fun e=>!decide (e.2.1=0)).map fun e=>e.1):=(ho.filter _).map _
 have hle:((a0.es.filter fun e=>!decide (e.2.1=0)).map fun e=>e.1).length≤1073741824:=by
  rw[List.length_map]; exact Nat.le_trans (List.length_filter_le _ _) hl
 unfold slices_SortS at h ⊢
 rw[if_pos (by rw[hp.length_eq]; omega),sortB_congr hp]
 rw[if_pos (by omega)] at h
 simp only[ag] at h ⊢
 generalize hk:sortB ((a0.es.filter fun e=>!decide (e.2.1=0)).map fun e=>e.1)=ks at h ⊢
 have hkl:ks.length≤1073741824:=by rw[← hk,(sortB_perm _).length_eq]; exact hle
 have e:forN (ρ:=Lt×Bool) (fun (i9:Nat) (s9:(List Int))=>ae (idx ks (i9:Int)) fun v36=>ae (idx ks (i9:Int)) fun v37=>ae (app s9 ([GMap.get a0 v37 (0:Int)])) fun v44=>some (.nx v44)) ks.length 0 []=some (.inr (ks.map fun k=>GMap.get a0 k 0)):=by
  rw[forN_forL _ (fun _ (x:ByteArray) (s:List Int)=>ae (app s ([GMap.get a0 x 0])) fun v=>some (.nx v)) ks 0 [] (fun j x s hx=>by simp only[Nat.zero_add,idx_nat,hx,ag]),fold_map (fun k=>GMap.get a0 k 0) ks 0 [] (by simpa using hkl)]
  simp
 rw[e,thenL_inr]
 obtain⟨b,hb⟩:∃ b,impl_IsValidLinear (Lt.mk ks (ks.map fun k=>GMap.get a0 k 0) a1)=some b:=by
  cases hb:impl_IsValidLinear (Lt.mk ks (ks.map fun k=>GMap.get a0 k 0) a1) with
  | none=>rw[hb] at h; cases h
  | some b=>exact⟨b,rfl⟩
 rw[hb] at h ⊢
 simp only[ag] at h ⊢
 cases b<;>exact h
end Go.Proofs.YtikeldgdgjoekaaGreat
