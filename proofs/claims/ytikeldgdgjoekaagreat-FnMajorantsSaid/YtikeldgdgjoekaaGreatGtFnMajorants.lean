/- Lemmas of the proof; each says what it shows. -/
import Derived.Test.YtikeldgdgjoekaaGreatGp
import Derived.Test.YtikeldgdgjoekaaGreatAvS
import Derived.Test.YtikeldgdgjoekaaGreatAvFs
import Derived.Test.YtikeldgdgjoekaaGreatGlin
import Derived.Test.YtikeldgdgjoekaaGreatGm
set_option linter.unusedSimpArgs false
set_option linter.unusedVariables false
set_option linter.defProp false
namespace Go.Proofs.YtikeldgdgjoekaaGreat
open Go.Av
open Bool renaming and_eq_true→av
open List renaming map_cons→aE,sum_cons→bA,length_cons→aR,mem_cons→bd,length_nil→bB,length_append→aZ,all_eq_true→bi,length_map→aG
open Nat renaming le_refl→aY
open Option renaming bind_some→ag,bind→ae
open SizeOf renaming sizeOf→bj
section
theorem within_eq(a lo hi:Int):impl_within a lo hi=some (inR a lo hi):=cond_inR a lo hi
theorem l1In_eq(a lo hi:Int):spec_l1In a lo hi=some (inR a lo hi):=cond_inR a lo hi
def cmpI(a b:Int):Int:=if a<b then -1 else if b<a then 1 else 0
theorem isNaN_eq(a:Int):cmp_isNaN_int a=some false:=by simp[cmp_isNaN_int]
theorem Compare_eq(a b:Int):cmp_Compare_int a b=some (cmpI a b):=by
 simp only[cmp_Compare_int,isNaN_eq,ag,cond_false]
 unfold cmpI
 by_cases h:a<b
 ·simp[h]
 ·by_cases h':b<a<;>simp[h,h']
theorem Or2_eq(a b:Int):cmp_Or_int [a,b]=some (if a=0 then b else a):=by
 unfold cmp_Or_int
 simp only[forN_idx]
 by_cases h:a=0
 ·rw[forL_nx (s':=()) (by simp[h])]
  by_cases h':b=0
  ·rw[forL_nx (s':=()) (by simp[h'])]; simp[forL,thenL_inr,h,h']
  ·rw[forL_rt (r:=b) (by simp[h']),thenL_inl]; simp[h]
 ·rw[forL_rt (r:=a) (by simp[h]),thenL_inl]; simp[h]
end
section
def cLow(c:Int):Bool:=inR c 97 122
def cUp(c:Int):Bool:=inR c 65 90
def cDig(c:Int):Bool:=inR c 48 57
theorem isLower_eq(c:Int):impl_isLower c=some (cLow c):=cond_inR c 97 122
theorem isUpper_eq(c:Int):impl_isUpper c=some (cUp c):=cond_inR c 65 90
theorem isDigit_eq(c:Int):impl_isDigit c=some (cDig c):=cond_inR c 48 57
theorem l2Small_eq(c:Int):spec_l2Small c=some (cLow c||cDig c):=by
 unfold spec_l2Small cLow cDig inR
 by_cases h1:(97:Int)≤c<;>by_cases h2:c≤(122:Int)<;>by_cases h3:(48:Int)≤c<;>by_cases h4:c≤(57:Int)<;>simp[h1,h2,h3,h4]
def varC(s:ByteArray)(j:Nat):Bool:=if j=0 then cUp (byt s 0) else(cLow (byt s j)||cDig (byt s j))
def isVarS(s:ByteArray):Bool:=inR (s.size:Int) 1 4&&(List.range s.size).all (varC s)
theorem isVariable_eq(s:ByteArray)(hb:Big s.size):impl_isVariable s=some (isVarS s):=by
 unfold impl_isVariable
 rw[bnd_nat hb,ag,forN_all (varC s)]
 ·simp only[within_eq,ag,isVarS]
  cases (List.range s.size).all (varC s)<;>cases inR (s.size:Int) 1 4<;>rfl
 ·intro j hj _
  simp only[sidx_nat hj,ag,isUpper_eq,isLower_eq,isDigit_eq,varC]
  by_cases h0:j=0
  ·subst h0
   cases cUp (byt s 0)<;>rfl
  ·have h1:¬ ((j:Int)=0):=by omega
   have h2:(0:Int)<(j:Int):=by omega
   rw[decide_eq_false h1,decide_eq_true h2,if_neg h0]
   cases cLow (byt s j)<;>cases cDig (byt s j)<;>rfl
theorem l2Var_eq(s:ByteArray)(hb:Big s.size):spec_l2Var s=some (isVarS s):=by
 unfold spec_l2Var
 rw[l1In_eq,ag]
 unfold isVarS
 cases hr:inR (s.size:Int) 1 4
 ·rfl
 ·have hs:0<s.size:=by have:=inR_iff.1 hr; omega
  simp only[cond_true,Bool.true_and]
  rw[sidx0 hs,ag]
  by_cases h0:cUp (byt s 0)=true
  ·have hu:=inR_iff.1 h0
   rw[decide_eq_false (by omega),cond_false,ag,decide_eq_false (by omega),cond_false,bnd_nat hb,ag,forN_all1 (varC s) hs (by simp[varC,h0])]
   ·cases (List.range s.size).all (varC s)<;>rfl
   ·intro j hj0 hj _
    simp only[sidx_nat hj,ag,l2Small_eq,varC]
    rw[if_neg (by omega)]
    cases (cLow (byt s j)||cDig (byt s j))<;>rfl
  ·have h1:(List.range s.size).all (varC s)=false:=List.all_eq_false.2 ⟨0,by simp; omega,by simp[varC,h0]⟩
   rw[h1]
   have hu:¬ (65≤byt s 0∧byt s 0≤90):=by intro g; exact h0 (inR_iff.2 g)
   by_cases g:byt s 0<65
   ·rw[decide_eq_true g]; rfl
   ·rw[decide_eq_false g,cond_false,ag,decide_eq_true (by omega)]; rfl
def linC(l:Lt)(j:Nat):Bool:=isVarS (l.Vars.getD j default)&&inR (l.Slopes.getD j default) 1 1000&&(decide (j=0)||slt (l.Vars.getD (j-1) default) (l.Vars.getD j default))
def validL(l:Lt):Bool:=decide (l.Vars.length≤8)&&decide (l.Slopes.length=l.Vars.length)&&inR l.Constant 0 100000&&(List.range l.Vars.length).all (linC l)
theorem okStr{l:List ByteArray}(h:LOk (fun s:ByteArray=>Big s.size) l){j:Nat}(hj:j<l.length):Big (l.getD j default).size:=h.2 _ (getD_mem hj)
theorem implL(l:Lt)(h:l.Ok):impl_IsValidLinear l=some (validL l):=by
 unfold impl_IsValidLinear validL
 by_cases h8:l.Vars.length≤8
 ·rw[decide_eq_false (show ¬ (8:Int)<(l.Vars.length:Int) by omega),cond_false,decide_eq_true h8]
  by_cases hs:l.Slopes.length=l.Vars.length
  ·rw[decide_eq_true (show(l.Slopes.length:Int)=(l.Vars.length:Int) by omega),cond_true,decide_eq_true hs,within_eq,ag]
   cases hc:inR l.Constant 0 100000
   ·rfl
   ·rw[cond_true,forN_all (linC l)]
    ·cases (List.range l.Vars.length).all (linC l)<;>rfl
    ·intro j hj _
     have hv:=okStr h.1 hj
     simp only[idx_getD hj,idx_getD (xs:=l.Slopes) (i:=j) (by omega),ag,isVariable_eq _ hv,within_eq,linC]
     by_cases h0:j=0
     ·subst h0
      cases isVarS (l.Vars.getD 0 default)<;>cases inR (l.Slopes.getD 0 default) 1 1000<;>rfl
     ·have h2:(0:Int)<(j:Int):=by omega
      rw[decide_eq_true h2,decide_eq_false h0,idx_pred hj (by omega) (by have:=h.1.1; simp only[Big] at this; omega),ag]
      have key:=slt_le (l.Vars.getD j default) (l.Vars.getD (j-1) default)
      unfold slt at key
      rw[key]
      unfold slt
      cases isVarS (l.Vars.getD j default)<;>cases inR (l.Slopes.getD j default) 1 1000<;>cases Op.bytesLess (l.Vars.getD (j-1) default).data.toList (l.Vars.getD j default).data.toList<;>rfl
  ·rw[decide_eq_false (show ¬ (l.Slopes.length:Int)=(l.Vars.length:Int) by omega),decide_eq_false hs]; rfl
 ·rw[decide_eq_true (show(8:Int)<(l.Vars.length:Int) by omega),decide_eq_false h8]; rfl
theorem specL(l:Lt)(h:l.Ok):spec_l25Linear l=some (validL l):=by
 unfold spec_l25Linear validL
 by_cases h8:l.Vars.length≤8
 ·rw[decide_eq_false (show ¬ (8:Int)<(l.Vars.length:Int) by omega),cond_false,decide_eq_true h8]
  by_cases hs:l.Slopes.length=l.Vars.length
  ·rw[decide_eq_true (show(l.Slopes.length:Int)=(l.Vars.length:Int) by omega),cond_true,decide_eq_true hs,l1In_eq,ag]
   cases hc:inR l.Constant 0 100000
   ·rfl
   ·rw[cond_true,forN_all (linC l)]
    ·cases (List.range l.Vars.length).all (linC l)<;>rfl
    ·intro j hj _
     have hv:=okStr h.1 hj
     simp only[idx_getD hj,idx_getD (xs:=l.Slopes) (i:=j) (by omega),ag,l2Var_eq _ hv,l1In_eq,linC]
     by_cases h0:j=0
     ·subst h0
      cases isVarS (l.Vars.getD 0 default)<;>cases inR (l.Slopes.getD 0 default) 1 1000<;>rfl
     ·have h2:(0:Int)<(j:Int):=by omega
      rw[decide_eq_true h2,decide_eq_false h0,idx_pred hj (by omega) (by have:=h.1.1; simp only[Big] at this; omega),ag]
      unfold slt
      cases isVarS (l.Vars.getD j default)<;>cases inR (l.Slopes.getD j default) 1 1000<;>cases Op.bytesLess (l.Vars.getD (j-1) default).data.toList (l.Vars.getD j default).data.toList<;>rfl
  ·rw[decide_eq_false (show ¬ (l.Slopes.length:Int)=(l.Vars.length:Int) by omega),decide_eq_false hs]; rfl
 ·rw[decide_eq_true (show(8:Int)<(l.Vars.length:Int) by omega),decide_eq_false h8]; rfl
end
section
theorem Contains_int{f:Int→Option Bool}{p:Int→Bool}(h:∀ x,f x=some (p x))(xs:List Int):slices_ContainsFunc_Sint_int xs f=some (xs.any p):=by
 unfold slices_ContainsFunc_Sint_int slices_IndexFunc_Sint_int
 obtain⟨r,h1,h2⟩:=forN_find (n:=xs.length) (p:=fun i=>p (xs.getD i default)) (f:=fun i2 s2=>(idx xs (i2:Int)).bind fun v14=>(f v14).bind fun v16=>bif v16 then some (.rt (i2:Int)) else some (.nx ())) (fun j hj=>by
  simp only[idx_getD hj,ag,h]
  cases p (xs.getD j default)<;>rfl)
 rw[h1,ag,h2,range_any_list]
theorem validL_len{l:Lt}(h:validL l=true):l.Slopes.length=l.Vars.length:=by
 simp only[validL,av,decide_eq_true_eq] at h
 exact h.1.1.2
end
section
def resv:List ByteArray:=[(⟨#[116,114,117,101]⟩:ByteArray),(⟨#[102,97,108,115,101]⟩:ByteArray),(⟨#[116,114,117,116,104]⟩:ByteArray),(⟨#[98,111,116,104]⟩:ByteArray),(⟨#[101,105,116,104,101,114]⟩:ByteArray),(⟨#[105,102]⟩:ByteArray),(⟨#[97,108,108]⟩:ByteArray),(⟨#[115,111,109,101]⟩:ByteArray)]
def symC(s:ByteArray)(j:Nat):Bool:=if j=0 then cLow (byt s 0) else(cLow (byt s j)||cDig (byt s j)||decide (byt s j=95))
def isSymS(s:ByteArray):Bool:=inR (s.size:Int) 1 6&&(List.range s.size).all (symC s)&&!resv.any (fun v=>decide (s=v))
theorem Contains_str(xs:List ByteArray)(s:ByteArray):slices_Contains_Sstring_string xs s=some (xs.any (fun v=>decide (s=v))):=by
 unfold slices_Contains_Sstring_string slices_Index_Sstring_string
 obtain⟨r,h1,h2⟩:=forN_find (n:=xs.length) (p:=fun i=>decide (s=xs.getD i default)) (f:=fun i2 s2=>(idx xs (i2:Int)).bind fun v14=>bif decide (s=v14) then some (.rt (i2:Int)) else some (.nx ())) (fun j hj=>by
  simp only[idx_getD hj,ag]
  cases decide (s=xs.getD j default)<;>rfl)
 rw[h1,ag,h2,range_any_list xs (fun v=>decide (s=v))]
theorem isSymbol_eq(s:ByteArray)(hb:Big s.size):impl_isSymbol s=some (isSymS s):=by
 unfold impl_isSymbol
 rw[bnd_nat hb,ag,forN_all (symC s)]
 ·simp only[within_eq,ag,isSymS,impl_reserved,Contains_str]
  rw[show resv.any (fun v=>decide (s=v))=_ from rfl]
  unfold resv
  cases (List.range s.size).all (symC s)<;>cases inR (s.size:Int) 1 6<;>rfl
 ·intro j hj _
  simp only[sidx_nat hj,ag,isLower_eq,isDigit_eq,symC]
  by_cases h0:j=0
  ·subst h0
   cases cLow (byt s 0)<;>rfl
  ·have h1:¬ ((j:Int)=0):=by omega
   rw[decide_eq_false h1,if_neg h0]
   cases cLow (byt s j)<;>cases cDig (byt s j)<;>cases decide (byt s j=95)<;>rfl
theorem l2Symbol_eq(s:ByteArray)(hb:Big s.size):spec_l2Symbol s=some (isSymS s):=by
 unfold spec_l2Symbol
 rw[l1In_eq,ag]
 unfold isSymS
 cases hr:inR (s.size:Int) 1 6
 ·rfl
 ·have hs:0<s.size:=by have:=inR_iff.1 hr; omega
  simp only[cond_true,Bool.true_and]
  rw[sidx0 hs,ag]
  by_cases h0:cLow (byt s 0)=true
  ·have hu:=inR_iff.1 h0
   rw[decide_eq_false (by omega),cond_false,ag,decide_eq_false (by omega),cond_false,bnd_nat hb,ag,forN_all1 (symC s) hs (by simp[symC,h0])]
   ·simp only[resv,List.any_cons,List.any_nil,Bool.or_false]
    generalize decide (s=_)=b1
    generalize decide (s=_)=b2
    generalize decide (s=_)=b3
    generalize decide (s=_)=b4
    generalize decide (s=_)=b5
    generalize decide (s=_)=b6
    generalize decide (s=_)=b7
    generalize decide (s=_)=b8
    cases (List.range s.size).all (symC s)<;>cases b1<;>cases b2<;>cases b3<;>cases b4<;>cases b5<;>cases b6<;>cases b7<;>cases b8<;>rfl
   ·intro j hj0 hj _
    simp only[sidx_nat hj,ag,l2Small_eq,symC]
    rw[if_neg (by omega)]
    cases (cLow (byt s j)||cDig (byt s j))<;>cases decide (byt s j=95)<;>rfl
  ·have h1:(List.range s.size).all (symC s)=false:=List.all_eq_false.2 ⟨0,by simp; omega,by simp[symC,h0]⟩
   rw[h1]
   have hu:¬ (97≤byt s 0∧byt s 0≤122):=by intro g; exact h0 (inR_iff.2 g)
   by_cases g:byt s 0<97
   ·rw[decide_eq_true g]; rfl
   ·rw[decide_eq_false g,cond_false,ag,decide_eq_true (by omega)]; rfl
end
section
def cmpS(a b:ByteArray):Int:=if slt a b=true then -1 else if a=b then 0 else 1
theorem isNaNS_eq(a:ByteArray):cmp_isNaN_string a=some false:=by simp[cmp_isNaN_string]
theorem CompareS_eq(a b:ByteArray):cmp_Compare_string a b=some (cmpS a b):=by
 simp only[cmp_Compare_string,isNaNS_eq,ag,cond_false]
 unfold cmpS slt
 by_cases h:Op.bytesLess a.data.toList b.data.toList=true
 ·rw[if_pos h,h]; rfl
 ·rw[if_neg h]
  have h':Op.bytesLess a.data.toList b.data.toList=false:=by simpa using h
  rw[h',cond_false]
  by_cases e:a=b
  ·rw[decide_eq_true e,if_pos e]; rfl
  ·rw[decide_eq_false e,if_neg e]; rfl
def cmpM(a b:Mt):Int:=if cmpS a.Name b.Name=0 then cmpI a.Slopes.length b.Slopes.length else cmpS a.Name b.Name
theorem compareM_eq(a b:Mt):impl_compareMajorants a b=some (cmpM a b):=by
 simp only[impl_compareMajorants,CompareS_eq,Compare_eq,Or2_eq,ag,cmpM]
def ltM(a b:Mt):Bool:=slt a.Name b.Name||(decide (a.Name=b.Name)&&decide (a.Slopes.length<b.Slopes.length))
theorem cmpM_lt(a b:Mt):decide (0≤cmpM a b)=!ltM a b:=by
 unfold cmpM ltM cmpS
 by_cases h:slt a.Name b.Name=true
 ·rw[if_pos h,if_neg (by decide),h]; rfl
 ·have h':slt a.Name b.Name=false:=by simpa using h
  rw[if_neg h,h',Bool.false_or]
  by_cases e:a.Name=b.Name
  ·rw[if_pos e,if_pos rfl,decide_eq_true e,Bool.true_and]
   unfold cmpI
   by_cases g:a.Slopes.length<b.Slopes.length
   ·rw[if_pos (by omega),decide_eq_true g]; rfl
   ·rw[if_neg (by omega),decide_eq_false g]
    split<;>rfl
  ·rw[if_neg e,if_neg (by decide),decide_eq_false e]; rfl
def majC(xs:List Mt)(j:Nat):Bool:=
 isSymS (xs.getD j default).Name&&decide ((xs.getD j default).Slopes.length≤4)&&inR (xs.getD j default).Constant 0 100000&&(xs.getD j default).Slopes.all (fun v=>inR v 0 1000)&&(decide (j=0)||ltM (xs.getD (j-1) default) (xs.getD j default))
def validM(xs:List Mt):Bool:=decide (xs.length≤8)&&(List.range xs.length).all (majC xs)
theorem cond_rt{ρ:Type}(b:Bool)(r:ρ):(bif b then some (Flow.rt r) else some (Flow.nx ()))=some (bif !b then(.nx ():Flow ρ Unit) else .rt r):=by cases b<;>rfl
theorem implMj(xs:List Mt)(h:LOk Mt.Ok xs):impl_IsValidMajorants xs=some (validM xs):=by
 unfold impl_IsValidMajorants validM
 rw[forN_all (majC xs)]
 ·by_cases h8:xs.length≤8
  ·rw[decide_eq_true h8,decide_eq_true (show(xs.length:Int)≤8 by omega)]
   cases (List.range xs.length).all (majC xs)<;>rfl
  ·rw[decide_eq_false h8,decide_eq_false (show ¬ (xs.length:Int)≤8 by omega)]
   cases (List.range xs.length).all (majC xs)<;>rfl
 ·intro j hj _
  have hm:=h.2 _ (getD_mem hj)
  have ec:slices_ContainsFunc_Sint_int (xs.getD j default).Slopes (fun y0=>impl_IsValidMajorants_1 y0)=some (!(xs.getD j default).Slopes.all (fun v=>inR v 0 1000)):=by
   rw[Contains_int (p:=fun x=>!inR x 0 1000) (fun x=>by simp only[impl_IsValidMajorants_1,within_eq,ag]),List.all_eq_not_any_not,Bool.not_not]
  simp only[idx_getD hj,ag,isSymbol_eq _ hm.1,within_eq,compareM_eq,ec,majC]
  cases isSymS (xs.getD j default).Name
  ·rfl
  by_cases h4:(xs.getD j default).Slopes.length≤4
  ·rw[decide_eq_true h4,decide_eq_false (show ¬ (4:Int)<((xs.getD j default).Slopes.length:Int) by omega)]
   cases inR (xs.getD j default).Constant 0 100000
   ·rfl
   by_cases h0:j=0
   ·subst h0
    cases (xs.getD 0 default).Slopes.all (fun v=>inR v 0 1000)<;>rfl
   ·have h2:(0:Int)<(j:Int):=by omega
    rw[decide_eq_true h2,decide_eq_false h0,idx_pred hj (by omega) (by have:=h.1; simp only[Big] at this; omega),ag,cmpM_lt]
    cases ltM (xs.getD (j-1) default) (xs.getD j default)<;>cases (xs.getD j default).Slopes.all (fun v=>inR v 0 1000)<;>rfl
  ·rw[decide_eq_false h4,decide_eq_true (show(4:Int)<((xs.getD j default).Slopes.length:Int) by omega)]; rfl
theorem specMj(xs:List Mt)(h:LOk Mt.Ok xs):spec_l25List xs=some (validM xs):=by
 unfold spec_l25List validM
 by_cases h8:xs.length≤8
 ·rw[decide_eq_true h8,decide_eq_false (show ¬ (8:Int)<(xs.length:Int) by omega),cond_false,forN_all (majC xs)]
  ·cases (List.range xs.length).all (majC xs)<;>rfl
  ·intro j hj _
   have hm:=h.2 _ (getD_mem hj)
   simp only[idx_getD hj,ag,l2Symbol_eq _ hm.1,l1In_eq,majC]
   cases isSymS (xs.getD j default).Name
   ·rfl
   by_cases h4:(xs.getD j default).Slopes.length≤4
   ·rw[decide_eq_true h4,decide_eq_false (show ¬ (4:Int)<((xs.getD j default).Slopes.length:Int) by omega)]
    cases inR (xs.getD j default).Constant 0 100000
    ·rfl
    rw[cond_true,cond_false,cond_true,forN_all (ρ:=Flow Bool Unit) (fun k=>inR ((xs.getD j default).Slopes.getD k default) 0 1000) (r0:=.rt false),range_all_list (xs.getD j default).Slopes (fun v=>inR v 0 1000)]
    ·by_cases h0:j=0
     ·subst h0
      cases (xs.getD 0 default).Slopes.all (fun v=>inR v 0 1000)<;>rfl
     ·have h2:(0:Int)<(j:Int):=by omega
      rw[decide_eq_true h2,decide_eq_false h0,idx_pred hj (by omega) (by have:=h.1; simp only[Big] at this; omega),ag]
      cases (xs.getD j default).Slopes.all (fun v=>inR v 0 1000)
      ·rfl
      ·simp only[cond_true,Bool.true_and,Bool.false_or,ag,ltM]
       have e1:Op.bytesLess (xs.getD (j-1) default).Name.data.toList (xs.getD j default).Name.data.toList=slt (xs.getD (j-1) default).Name (xs.getD j default).Name:=rfl
       rw[e1]
       by_cases e:(xs.getD (j-1) default).Name=(xs.getD j default).Name
       ·have e2:slt (xs.getD (j-1) default).Name (xs.getD j default).Name=false:=by rw[e]; exact bytesLess_irrefl _
        rw[e2,decide_eq_true e]
        by_cases g:(xs.getD (j-1) default).Slopes.length<(xs.getD j default).Slopes.length
        ·rw[decide_eq_true g,decide_eq_false (show ¬ ((xs.getD j default).Slopes.length:Int)≤((xs.getD (j-1) default).Slopes.length:Int) by omega)]; rfl
        ·rw[decide_eq_false g,decide_eq_true (show((xs.getD j default).Slopes.length:Int)≤((xs.getD (j-1) default).Slopes.length:Int) by omega)]; rfl
       ·rw[decide_eq_false e]
        cases slt (xs.getD (j-1) default).Name (xs.getD j default).Name<;>rfl
    ·intro k hk _
     simp only[idx_getD hk,ag]
     cases inR ((xs.getD j default).Slopes.getD k default) 0 1000<;>rfl
   ·rw[decide_eq_false h4,decide_eq_true (show(4:Int)<((xs.getD j default).Slopes.length:Int) by omega)]; rfl
 ·rw[decide_eq_false h8,decide_eq_true (show(8:Int)<(xs.length:Int) by omega)]; rfl
end
section
mutual
def Tt.cnt:Tt→Nat
 | .mk _ l=>1+Tt.cnts l
def Tt.cnts:List Tt→Nat
 | []=>0
 | a::l=>a.cnt+Tt.cnts l
end
theorem Tt.cnts_eq(l:List Tt):Tt.cnts l=(l.map Tt.cnt).sum:=by
 induction l with
 | nil=>rfl
 | cons a l ih=>rw[Tt.cnts,ih,aE,bA]
theorem Tt.cnt_mk(x:ByteArray)(l:List Tt):(Tt.mk x l).cnt=1+(l.map Tt.cnt).sum:=by rw[Tt.cnt,Tt.cnts_eq]
mutual
def Tt.dep:Tt→Nat
 | .mk _ l=>1+Tt.deps l
def Tt.deps:List Tt→Nat
 | []=>0
 | a::l=>max a.dep (Tt.deps l)
end
theorem Tt.dep_mk(x:ByteArray)(l:List Tt):(Tt.mk x l).dep=1+Tt.deps l:=by rw[Tt.dep]
theorem Tt.cnt_tot(t:Tt):t.cnt≤1+t.tot:=by
 refine Tt.ind (M:=fun t=>t.cnt≤1+t.tot) (fun x l ih=>?_) t
 rw[Tt.cnt_mk,Tt.tot_mk]
 have:(l.map Tt.cnt).sum≤ltot Tt.tot l:=by
  clear x
  induction l with
  | nil=>simp[ltot]
  | cons a l ihl=>
   have h1:=ih a (by simp)
   have h2:=ihl (fun b hb=>ih b (by simp[hb]))
   simp only[ltot,aE,bA,aR] at h2 ⊢
   omega
 omega
theorem Tt.dep_cnt(t:Tt):t.dep≤t.cnt:=by
 refine Tt.ind (M:=fun t=>t.dep≤t.cnt) (fun x l ih=>?_) t
 rw[Tt.cnt_mk,Tt.dep_mk]
 have:Tt.deps l≤(l.map Tt.cnt).sum:=by
  clear x
  induction l with
  | nil=>simp[Tt.deps]
  | cons a l ihl=>
   have h1:=ih a (by simp)
   have h2:=ihl (fun b hb=>ih b (by simp[hb]))
   simp only[Tt.deps,aE,bA]
   omega
 omega
theorem Tt.cnt_pos(t:Tt):1≤t.cnt:=by cases t; rw[Tt.cnt_mk]; omega
/-- A sum that stops when it is too great. -/
def Cap(L c:Nat)(r:Int):Prop:=1≤r∧r≤c∧(c≤L→r=c)∧(L<c→L<r)
theorem Cap.le{L c:Nat}{r:Int}(h:Cap L c r):decide (r≤(L:Int))=decide (c≤L):=by
 by_cases e:c≤L
 ·have:=h.2.2.1 e; rw[decide_eq_true e,decide_eq_true (by omega)]
 ·have:=h.2.2.2 (by omega); rw[decide_eq_false e,decide_eq_false (by omega)]
theorem size_loop(f:Tt→Option Int):∀ (l:List Tt) (i:Nat) (s:Int) (c0:Nat),(∀ a∈l,∃ r,f a=some r∧Cap 30 a.cnt r)→1≤s→s≤c0→(c0≤30→s=c0)→(30<c0→30<s)→c0+(l.map Tt.cnt).sum≤2097152→
 ∃ r,thenL (ρ:=Int) (forL (fun _ v s=>bif decide ((30:Int)<s) then some (.rt s) else(f v).bind fun w=>some (.nx (wr (s+w)))) l i s) (fun s=>some s)=some r∧Cap 30 (c0+(l.map Tt.cnt).sum) r
 | [],i,s,c0,_,h1,h2,h3,h4,_=>⟨s,rfl,by simpa using⟨h1,h2,h3,h4⟩⟩
 | a::l,i,s,c0,hf,h1,h2,h3,h4,hb=>by
  simp only[aE,bA] at hb ⊢
  by_cases e:(30:Int)<s
  ·rw[forL_rt (r:=s) (by rw[decide_eq_true e]; rfl),thenL_inl]
   exact⟨s,rfl,h1,by omega,fun g=>by omega,fun _=>e⟩
  ·obtain⟨r,hr,c1,c2,c3,c4⟩:=hf a (by simp)
   have hs:s=c0:=h3 (by omega)
   rw[forL_nx (s':=wr (s+r)) (by rw[decide_eq_false e,cond_false,hr]; rfl),wr64 (by omega) (by omega)]
   have:=size_loop f l (i+1) (s+r) (c0+a.cnt) (fun b hb=>hf b (by simp[hb])) (by omega) (by omega) (fun g=>by have:=c3 (by omega); omega) (fun g=>by
    by_cases g2:a.cnt≤30
    ·have:=c3 g2; omega
    ·have:=c4 (by omega); omega) (by omega)
   rwa [Nat.add_assoc] at this
theorem impl_size_eq(t:Tt):t.cnt≤2097152→∃ r,(∀ n,2*bj t≤n→impl_sizeN n t=some r)∧Cap 30 t.cnt r:=by
 refine Tt.ind (M:=fun t=>t.cnt≤2097152→∃ r,(∀ n,2*bj t≤n→impl_sizeN n t=some r)∧Cap 30 t.cnt r) (fun x l ih hc=>?_) t
 rw[Tt.cnt_mk] at hc ⊢
 obtain⟨R,hR⟩:=mem_choice (fun a ha=>ih a ha (by have:=le_sum_mem Tt.cnt ha; omega))
 obtain⟨r,h1,h2⟩:=size_loop (fun a=>some (R a)) l 0 1 1 (fun a ha=>⟨R a,rfl,(hR a ha).2⟩) (by omega) (by omega) (by omega) (by omega) hc
 refine⟨r,fun n hn=>?_,h2⟩
 cases n with
 | zero=>simp only[Tt.mk.sizeOf_spec] at hn; omega
 | succ n=>
  rw[impl_sizeN]
  simp only[Tt.Args_mk,forN_idx]
  rw[← h1]
  congr 1
  refine forL_congr l 0 1 (fun j a s ha=>?_)
  have ha:=List.mem_of_getElem? ha
  simp only[(hR a ha).1 n (by have:=List.sizeOf_lt_of_mem ha; simp only[Tt.mk.sizeOf_spec] at hn; omega)]
theorem impl_size_ok(t:Tt)(h:t.tot≤1048576):∃ r,impl_size t=some r∧Cap 30 t.cnt r:=by
 obtain⟨r,h1,h2⟩:=impl_size_eq t (by have:=Tt.cnt_tot t; omega)
 exact⟨r,lim_eq ⟨_,h1⟩,h2⟩
theorem many_loop(f:Tt→Int→Option Int)(L:Nat)(hL:L≤30):∀ (l:List Tt) (i:Nat) (s:Int) (c0:Nat),(∀ a∈l,∀ L':Nat,L'≤30→∃ r,f a L'=some r∧Cap L' a.cnt r)→1≤s→s≤c0→(c0≤L→s=c0)→(L<c0→L<s)→c0+(l.map Tt.cnt).sum≤2097152→
 ∃ r,thenL (ρ:=Int) (forL (fun _ v s=>bif decide (s≤(L:Int)) then(f v (wr ((L:Int)-s))).bind fun w=>some (.nx (wr (s+w))) else some (.rt s)) l i s) (fun s=>some s)=some r∧Cap L (c0+(l.map Tt.cnt).sum) r
 | [],i,s,c0,_,h1,h2,h3,h4,_=>⟨s,rfl,by simpa using⟨h1,h2,h3,h4⟩⟩
 | a::l,i,s,c0,hf,h1,h2,h3,h4,hb=>by
  simp only[aE,bA] at hb ⊢
  by_cases e:s≤(L:Int)
  ·have hs:s=c0:=h3 (by omega)
   have eL:wr ((L:Int)-s)=((L-c0:Nat):Int):=by rw[wr64 (by omega) (by omega)]; omega
   obtain⟨r,hr,c1,c2,c3,c4⟩:=hf a (by simp) (L-c0) (by omega)
   rw[forL_nx (s':=wr (s+r)) (by rw[decide_eq_true e,cond_true,eL,hr]; rfl),wr64 (by omega) (by omega)]
   have:=many_loop f L hL l (i+1) (s+r) (c0+a.cnt) (fun b hb=>hf b (by simp[hb])) (by omega) (by omega) (fun g=>by have:=c3 (by omega); omega) (fun g=>by
    by_cases g2:a.cnt≤L-c0
    ·omega
    ·have:=c4 (by omega); omega) (by omega)
   rwa [Nat.add_assoc] at this
  ·rw[forL_rt (r:=s) (by rw[decide_eq_false e]; rfl),thenL_inl]
   exact⟨s,rfl,h1,by omega,fun g=>by omega,fun _=>by omega⟩
theorem lim_st{α:Type}{m:Nat→Option α}{N:Nat}{r:α}(hs:∀ n,N≤n→m n=m N)(h:m N=some r):lim m=some r:=lim_eq ⟨N,fun n hn=>by rw[hs n hn,h]⟩
theorem spec_many_st(t:Tt):∀ n m,2*bj t≤n→2*bj t≤m→∀ L,spec_l2ManyN n t L=spec_l2ManyN m t L:=by
 refine Tt.ind (M:=fun t=>∀ n m,2*bj t≤n→2*bj t≤m→∀ L,spec_l2ManyN n t L=spec_l2ManyN m t L) (fun x l ih n m hn hm L=>?_) t
 simp only[Tt.mk.sizeOf_spec] at hn hm
 cases n with
 | zero=>omega
 | succ n=>
  cases m with
  | zero=>omega
  | succ m=>
   rw[spec_l2ManyN,spec_l2ManyN]
   congr 1
   refine forN_congr _ _ _ (fun j s hj=>?_)
   simp only[Tt.Args_mk,Nat.zero_add] at hj ⊢
   rw[idx_getD hj]
   simp only[ag]
   have hm':=getD_mem hj
   have:=List.sizeOf_lt_of_mem hm'
   rw[ih _ hm' n m (by omega) (by omega)]
theorem spec_many_eq(t:Tt):t.cnt≤2097152→∀ n,2*bj t≤n→∀ L:Nat,L≤30→∃ r,spec_l2ManyN n t L=some r∧Cap L t.cnt r:=by
 refine Tt.ind (M:=fun t=>t.cnt≤2097152→∀ n,2*bj t≤n→∀ L:Nat,L≤30→∃ r,spec_l2ManyN n t L=some r∧Cap L t.cnt r) (fun x l ih hc n hn L hL=>?_) t
 rw[Tt.cnt_mk] at hc ⊢
 simp only[Tt.mk.sizeOf_spec] at hn
 cases n with
 | zero=>omega
 | succ n=>
  rw[spec_l2ManyN]
  simp only[Tt.Args_mk]
  obtain⟨r,h1,h2⟩:=many_loop (spec_l2ManyN n) L hL l 0 1 1 (fun a ha L' hL'=>ih a ha (by have:=le_sum_mem Tt.cnt ha; omega) n (by have:=List.sizeOf_lt_of_mem ha; omega) L' hL') (by omega) (by omega) (by omega) (by omega) hc
  refine⟨r,?_,h2⟩
  rw[← h1]
  congr 1
  refine forN_forL _ _ l 0 1 (fun j a s ha=>?_)
  simp only[Nat.zero_add,idx_nat,ha,ag]
theorem spec_many_ok(t:Tt)(h:t.tot≤1048576):∃ r,spec_l2Many t 30=some r∧Cap 30 t.cnt r:=by
 obtain⟨r,h1,h2⟩:=spec_many_eq t (by have:=Tt.cnt_tot t; omega) _ (aY _) 30 (by omega)
 exact⟨r,lim_st (fun n hn=>spec_many_st t _ _ hn (aY _) _) h1,h2⟩
/-! depth -/
theorem dep_loop(f:Tt→Option Int)(g:Int→Int→Option Int)(hg:∀ a b,g a b=some (max a b)):∀ (l:List Tt) (i:Nat) (s:Nat),(∀ a∈l,f a=some (a.dep:Int))→
 thenL (ρ:=Int) (forL (fun _ v s=>(f v).bind fun w=>(g s w).bind fun z=>some (.nx z)) l i (s:Int)) (fun s=>some (wr (s+1)))=some (wr (((max s (Tt.deps l):Nat):Int)+1))
 | [],i,s,_=>by simp[forL,thenL_inr,Tt.deps]
 | a::l,i,s,h=>by
  have e:max (s:Int) (a.dep:Int)=((max s a.dep:Nat):Int):=by omega
  rw[forL_nx (s':=((max s a.dep:Nat):Int)) (by rw[h a (by simp),ag,hg,ag,e]),dep_loop f g hg l (i+1) _ (fun b hb=>h b (by simp[hb])),Tt.deps]
  congr 3; omega
theorem Most_eq(a b:Int):spec_l1Most a b=some (max a b):=by
 unfold spec_l1Most
 by_cases h:b<a
 ·rw[decide_eq_true h,cond_true]; congr 1; omega
 ·rw[decide_eq_false h,cond_false]; congr 1; omega
theorem deps_le(l:List Tt):Tt.deps l≤(l.map Tt.cnt).sum:=by
 induction l with
 | nil=>simp[Tt.deps]
 | cons a l ih=>simp only[Tt.deps,aE,bA]; have:=a.dep_cnt; omega
theorem impl_depthN_eq(t:Tt):t.cnt≤2097152→∀ n,2*bj t≤n→impl_depthN n t=some (t.dep:Int):=by
 refine Tt.ind (M:=fun t=>t.cnt≤2097152→∀ n,2*bj t≤n→impl_depthN n t=some (t.dep:Int)) (fun x l ih hc n hn=>?_) t
 rw[Tt.cnt_mk] at hc
 rw[Tt.dep_mk]
 simp only[Tt.mk.sizeOf_spec] at hn
 cases n with
 | zero=>omega
 | succ n=>
  rw[impl_depthN]
  simp only[Tt.Args_mk,forN_idx]
  have:=dep_loop (impl_depthN n) (fun a b=>some (max a b)) (fun _ _=>rfl) l 0 0 (fun a ha=>ih a ha (by have:=le_sum_mem Tt.cnt ha; omega) n (by have:=List.sizeOf_lt_of_mem ha; omega))
  simp only[ag] at this
  refine this.trans ?_
  have:=deps_le l
  rw[wr64 (by omega) (by omega)]; congr 1; omega
theorem spec_depthN_eq(t:Tt):t.cnt≤2097152→∀ n,2*bj t≤n→spec_l2DepthN n t=some (t.dep:Int):=by
 refine Tt.ind (M:=fun t=>t.cnt≤2097152→∀ n,2*bj t≤n→spec_l2DepthN n t=some (t.dep:Int)) (fun x l ih hc n hn=>?_) t
 rw[Tt.cnt_mk] at hc
 rw[Tt.dep_mk]
 simp only[Tt.mk.sizeOf_spec] at hn
 cases n with
 | zero=>omega
 | succ n=>
  rw[spec_l2DepthN]
  simp only[Tt.Args_mk,forN_idx]
  have:=dep_loop (spec_l2DepthN n) spec_l1Most Most_eq l 0 0 (fun a ha=>ih a ha (by have:=le_sum_mem Tt.cnt ha; omega) n (by have:=List.sizeOf_lt_of_mem ha; omega))
  refine this.trans ?_
  have:=deps_le l
  rw[wr64 (by omega) (by omega)]; congr 1; omega
theorem impl_depth_ok(t:Tt)(h:t.tot≤1048576):impl_depth t=some (t.dep:Int):=lim_eq ⟨_,impl_depthN_eq t (by have:=Tt.cnt_tot t; omega)⟩
theorem spec_depth_ok(t:Tt)(h:t.tot≤1048576):spec_l2Depth t=some (t.dep:Int):=lim_eq ⟨_,spec_depthN_eq t (by have:=Tt.cnt_tot t; omega)⟩
def smallT(t:Tt):Bool:=decide (t.cnt≤30)&&decide (t.dep≤8)
theorem isSmall_ok(t:Tt)(h:t.tot≤1048576):impl_isSmall t=some (smallT t):=by
 obtain⟨r,h1,h2⟩:=impl_size_ok t h
 have h3:=h2.le
 unfold impl_isSmall smallT
 rw[h1,ag,show decide (r≤30)=decide (t.cnt≤30) from h3,impl_depth_ok t h,ag]
 cases decide (t.cnt≤30)
 ·rfl
 ·rw[cond_true,Bool.true_and]; congr 1; exact decide_eq_decide.2 (by omega)
theorem l2Fits_ok(t:Tt)(h:t.tot≤1048576):spec_l2Fits t=some (smallT t):=by
 obtain⟨r,h1,h2⟩:=spec_many_ok t h
 have h3:=h2.le
 unfold spec_l2Fits smallT
 rw[h1,ag,show decide (r≤30)=decide (t.cnt≤30) from h3,spec_depth_ok t h,ag]
 cases decide (t.cnt≤30)
 ·rfl
 ·rw[cond_true,Bool.true_and]; congr 1; exact decide_eq_decide.2 (by omega)
/-! names -/
mutual
def Tt.good:Tt→Bool
 | .mk x l=>bif isVarS x then l.isEmpty else(isSymS x&&decide (l.length≤4)&&Tt.goods l)
def Tt.goods:List Tt→Bool
 | []=>true
 | a::l=>a.good&&Tt.goods l
end
theorem Tt.goods_eq(l:List Tt):Tt.goods l=l.all Tt.good:=by
 induction l with
 | nil=>rfl
 | cons a l ih=>rw[Tt.goods,ih]; rfl
theorem Tt.good_mk(x:ByteArray)(l:List Tt):(Tt.mk x l).good=bif isVarS x then l.isEmpty else(isSymS x&&decide (l.length≤4)&&l.all Tt.good):=by rw[Tt.good,Tt.goods_eq]
theorem Tt.good_u(t:Tt):t.good=bif isVarS t.Name then t.Args.isEmpty else(isSymS t.Name&&decide (t.Args.length≤4)&&t.Args.all Tt.good):=by cases t; exact Tt.good_mk _ _
theorem isEmpty_dec{α:Type}(l:List α):decide ((l.length:Int)=0)=l.isEmpty:=by cases l<;>simp; omega
theorem impl_hasNamesN_eq(t:Tt):t.Ok→∀ n,3*bj t≤n→impl_hasNamesN n t=some t.good:=by
 refine Tt.ind' (M:=fun t=>t.Ok→∀ n,3*bj t≤n→impl_hasNamesN n t=some t.good) (fun t ih hok n hn=>?_) t
 obtain⟨hx,hl,hall⟩:=hok.u
 rw[Tt.good_u]
 have hpos:=t.pos
 cases n with
 | zero=>omega
 | succ n=>
  rw[impl_hasNamesN]
  rw[isVariable_eq _ hx,ag,isSymbol_eq _ hx,ag,isEmpty_dec]
  cases isVarS t.Name
  ·rw[cond_false,cond_false]
   cases isSymS t.Name
   ·rfl
   ·by_cases h4:t.Args.length≤4
    ·rw[cond_true,decide_eq_true (show(t.Args.length:Int)≤4 by omega),cond_true,decide_eq_true h4,Bool.true_and,Bool.true_and]
     unfold slices_ContainsFunc_Simpl_Term_impl_Term slices_IndexFunc_Simpl_Term_impl_Term
     rw[find_list (p:=fun a=>!a.good) t.Args (fun a ha=>?_),ag,List.all_eq_not_any_not]
     have hs:=Tt.lt ha
     cases n with
     | zero=>omega
     | succ n=>
      rw[impl_hasNames_1N,ih a ha (hall a ha) n (by omega)]; rfl
    ·rw[cond_true,decide_eq_false (show ¬ (t.Args.length:Int)≤4 by omega),decide_eq_false h4]; rfl
  ·rfl
theorem spec_l2NodesN_eq(t:Tt):t.Ok→∀ n,3*bj t≤n→spec_l2NodesN n t=some t.good:=by
 refine Tt.ind' (M:=fun t=>t.Ok→∀ n,3*bj t≤n→spec_l2NodesN n t=some t.good) (fun t ih hok n hn=>?_) t
 obtain⟨hx,hl,hall⟩:=hok.u
 rw[Tt.good_u]
 have hpos:=t.pos
 cases n with
 | zero=>omega
 | succ n=>
  rw[spec_l2NodesN]
  rw[l2Var_eq _ hx,ag,l2Symbol_eq _ hx,ag,isEmpty_dec]
  cases isVarS t.Name
  ·rw[cond_false,cond_false]
   cases isSymS t.Name
   ·rfl
   ·by_cases h4:t.Args.length≤4
    ·rw[cond_true,decide_eq_false (show ¬ (4:Int)<(t.Args.length:Int) by omega),cond_false,decide_eq_true h4,Bool.true_and,Bool.true_and,
      forN_all (fun j=>(t.Args.getD j default).good) (fun j hj _=>?_),range_all_list t.Args Tt.good]
     ·cases t.Args.all Tt.good<;>rfl
     ·have ha:=getD_mem hj
      have hs:=Tt.lt ha
      simp only[idx_getD hj,ag,ih _ ha (hall _ ha) n (by omega)]
      cases (t.Args.getD j default).good<;>rfl
    ·rw[cond_true,decide_eq_true (show(4:Int)<(t.Args.length:Int) by omega),decide_eq_false h4]; rfl
  ·rfl
def goodT(t:Tt):Bool:=smallT t&&t.good
theorem IsValidTerm_ok(t:Tt)(h:t.tot≤1048576)(hok:t.Ok):impl_IsValidTerm t=some (goodT t):=by
 unfold impl_IsValidTerm goodT
 rw[isSmall_ok t h,ag,show impl_hasNames t=some t.good from lim_eq ⟨_,impl_hasNamesN_eq t hok⟩,ag]
 cases smallT t<;>rfl
theorem l2Good_ok(t:Tt)(h:t.tot≤1048576)(hok:t.Ok):spec_l2Good t=some (goodT t):=by
 unfold spec_l2Good goodT
 rw[l2Fits_ok t h,ag,show spec_l2Nodes t=some t.good from lim_eq ⟨_,spec_l2NodesN_eq t hok⟩,ag]
 cases smallT t<;>rfl
end
section
/-! Lt functions as maps from names to slopes. -/
def slopeZ:List ByteArray→List Int→ByteArray→Int
 | v::vs,s::ss,n=>if v=n then s else slopeZ vs ss n
 | _,_,_=>0
theorem slopeZ_notin:∀ (vs:List ByteArray) (ss:List Int) (n:ByteArray),n∉vs→slopeZ vs ss n=0
 | [],ss,n,_=>by cases ss<;>rfl
 | v::vs,[],n,_=>rfl
 | v::vs,s::ss,n,h=>by
  simp only[bd,not_or] at h
  simp only[slopeZ]
  rw[if_neg (Ne.symm h.1)]; exact slopeZ_notin vs ss n h.2
theorem slopeZ_in{lo hi:Int}:∀ (vs:List ByteArray) (ss:List Int) (n:ByteArray),n∈vs→vs.length=ss.length→(∀ s∈ss,lo≤s∧s≤hi)→lo≤slopeZ vs ss n∧slopeZ vs ss n≤hi
 | [],ss,n,h,_,_=>by simp at h
 | v::vs,[],n,_,h,_=>by simp at h
 | v::vs,s::ss,n,h,hl,hs=>by
  simp only[slopeZ]
  by_cases e:v=n
  ·rw[if_pos e]; exact hs s (by simp)
  ·rw[if_neg e]
   rcases List.mem_cons.1 h with h | h
   ·exact absurd h.symm e
   ·exact slopeZ_in vs ss n h (by simpa using hl) (fun s hs'=>hs s (by simp[hs']))
/-- The slope by name. -/
theorem l25Slope_eq(l:Lt)(n:ByteArray)(hl:l.Slopes.length=l.Vars.length):spec_l25Slope l n=some (slopeZ l.Vars l.Slopes n):=by
 unfold spec_l25Slope
 have key:∀ (vs pv:List ByteArray) (ss ps:List Int),ps.length=pv.length→ss.length=vs.length→
  thenL (ρ:=Int) (forN (fun (i2:Nat) (s2:Unit)=>ae (idx (pv++vs) (i2:Int)) fun v16=>bif decide (v16=n) then ae (idx (ps++ss) (i2:Int)) fun v23=>some (Flow.rt v23) else some (.nx ())) vs.length pv.length ()) (fun _=>some 0)=some (slopeZ vs ss n):=by
  intro vs
  induction vs with
  | nil=>intro pv ss ps _ h; cases ss<;>rfl
  | cons v vs ih=>
   intro pv ss ps hp h
   cases ss with
   | nil=>simp at h
   | cons s ss=>
    simp only[slopeZ,aR]
    by_cases e:v=n
    ·rw[forN_rt (r:=s) (by rw[idx_mid,ag,decide_eq_true e,cond_true,← hp,idx_mid]; rfl),if_pos e]; rfl
    ·rw[forN_nx (s':=()) (by rw[idx_mid,ag,decide_eq_false e]; rfl),if_neg e]
     have:=ih (pv++[v]) ss (ps++[s]) (by simp[hp]) (by simpa using h)
     simpa using this
 exact key l.Vars [] l.Slopes [] rfl hl
/-- Inserting, in the text. -/
theorem l2Put_eq(x:ByteArray)(l:List ByteArray)(hl:l.length≤1048576):spec_l2Put l x=some (putS x l):=by
 unfold spec_l2Put
 have tl:∀ {β:Type} (K:List ByteArray→Option β) (pre rest:List ByteArray),pre.length+rest.length≤1048576→(ae (slc (pre++rest) (0:Int) (pre.length:Int)) fun v36=>ae (app ([]) v36) fun v37=>ae (app v37 ([x])) fun v40=>ae (slc (pre++rest) (pre.length:Int) ((pre++rest).length:Int)) fun v43=>ae (app v40 v43) fun v44=>K v44)=K (pre++x::rest):=by
  intro β K pre rest h
  have e1:slc (pre++rest) (0:Int) (pre.length:Int)=some pre:=by
   unfold slc; rw[if_pos ⟨by omega,by omega,by simp; omega⟩]; simp
  have e2:slc (pre++rest) (pre.length:Int) ((pre++rest).length:Int)=some rest:=by
   unfold slc; rw[if_pos ⟨by omega,by simp; omega,by omega⟩]; simp only[Int.toNat_natCast,List.take_length,List.drop_left]
  rw[e1,e2]
  simp only[ag,app,bB,Nat.zero_add,List.nil_append]
  rw[if_pos (by omega)]
  simp only[ag,aR,bB]
  rw[if_pos (by omega)]
  simp only[ag,aZ,aR,bB]
  rw[if_pos (by omega)]
  simp
 have key:∀ (rest pre:List ByteArray),pre.length+rest.length≤1048576→
  thenL (ρ:=List ByteArray) (forN (fun (i2:Nat) (s2:Unit)=>
   ae (idx (pre++rest) (i2:Int)) fun v13=>
   bif Op.bytesLess v13.data.toList x.data.toList then some (.nx ())
   else ae (idx (pre++rest) (i2:Int)) fun v27=>bif decide (v27=x) then some (.rt (pre++rest)) else
    ae (slc (pre++rest) (0:Int) (i2:Int)) fun v36=>ae (app ([]) v36) fun v37=>ae (app v37 ([x])) fun v40=>ae (slc (pre++rest) (i2:Int) ((pre++rest).length:Int)) fun v43=>ae (app v40 v43) fun v44=>some (.rt v44)) rest.length pre.length ()) (fun _=>
   ae (slc (pre++rest) (0:Int) (((pre++rest).length:Nat):Int)) fun v36=>ae (app ([]) v36) fun v37=>ae (app v37 ([x])) fun v40=>ae (slc (pre++rest) (((pre++rest).length:Nat):Int) ((pre++rest).length:Int)) fun v43=>ae (app v40 v43) fun v44=>some v44)=some (pre++putS x rest):=by
  intro rest
  induction rest with
  | nil=>
   intro pre h
   have:=tl some pre [] (by simpa using h)
   simpa[putS,forN,thenL_inr] using this
  | cons y rest ih=>
   intro pre h
   simp only[putS,aR]
   by_cases hy:slt y x=true
   ·rw[forN_nx (s':=()) (by rw[idx_mid,ag,show Op.bytesLess y.data.toList x.data.toList=true from hy]; rfl),if_pos hy]
    have:=ih (pre++[y]) (by simp at h ⊢; omega)
    simpa using this
   ·have hy':Op.bytesLess y.data.toList x.data.toList=false:=by simpa[slt] using hy
    by_cases e:y=x
    ·rw[forN_rt (r:=pre++y::rest) (by rw[idx_mid,ag,hy',cond_false,ag,decide_eq_true e]; rfl),thenL_inl,if_neg hy,if_pos e]
    ·rw[forN_rt (r:=pre++x::y::rest) (by
      rw[idx_mid,ag,hy',cond_false,ag,decide_eq_false e,cond_false]
      exact tl (fun v=>some (Flow.rt v)) pre (y::rest) h),thenL_inl,if_neg hy,if_neg e]
 exact key l [] (by simpa using hl)
def putAll(xs:List ByteArray)(l:List ByteArray):List ByteArray:=xs.foldl (fun l x=>putS x l) l
theorem putAll_mem(z:ByteArray):∀ (xs l:List ByteArray),z∈putAll xs l↔z∈xs∨z∈l
 | [],l=>by simp[putAll]
 | x::xs,l=>by
  show z∈putAll xs (putS x l)↔_
  rw[putAll_mem z xs,putS_mem,bd]
  constructor
  ·rintro (h | h | h)<;>simp[h]
  ·rintro ((h | h) | h)<;>simp[h]
theorem putAll_srt:∀ (xs l:List ByteArray),Srt l→Srt (putAll xs l)
 | [],l,h=>h
 | x::xs,l,h=>putAll_srt xs _ (putS_srt x l h)
theorem putAll_len:∀ (xs l:List ByteArray),(putAll xs l).length≤l.length+xs.length
 | [],l=>by simp[putAll]
 | x::xs,l=>by
  have:=putAll_len xs (putS x l)
  have:=putS_len x l
  show(putAll xs (putS x l)).length≤_
  simp only[aR]; omega
theorem put_loop{ρ:Type}:∀ (xs:List ByteArray) (i:Nat) (l:List ByteArray),l.length+xs.length≤1048576→
 forL (ρ:=ρ) (fun _ (x:ByteArray) (s:List ByteArray)=>ae (spec_l2Put s x) fun v=>some (.nx v)) xs i l=some (.inr (putAll xs l))
 | [],i,l,_=>rfl
 | x::xs,i,l,h=>by
  simp only[aR] at h
  have:=putS_len x l
  rw[forL_nx (s':=putS x l) (by rw[l2Put_eq x l (by omega)]; rfl),put_loop xs (i+1) _ (by omega)]
  rfl
def namesOf(a b:Lt):List ByteArray:=putAll b.Vars (putAll a.Vars [])
theorem l25Names_eq(a b:Lt)(h:a.Vars.length+b.Vars.length≤1048576):spec_l25Names a b=some (namesOf a b):=by
 unfold spec_l25Names
 have:=putAll_len a.Vars []
 simp only[bB] at this
 rw[forN_idx a.Vars (fun _ v s=>ae (spec_l2Put s v) fun w=>some (.nx w)) [],put_loop a.Vars 0 [] (by simp; omega),thenL_inr,
  forN_idx b.Vars (fun _ v s=>ae (spec_l2Put s v) fun w=>some (.nx w)) _,put_loop b.Vars 0 _ (by omega),thenL_inr]
 rfl
theorem namesOf_mem(a b:Lt)(z:ByteArray):z∈namesOf a b↔z∈a.Vars∨z∈b.Vars:=by
 unfold namesOf
 rw[putAll_mem,putAll_mem]
 simp[or_comm]
theorem namesOf_srt(a b:Lt):Srt (namesOf a b):=putAll_srt _ _ (putAll_srt _ _ (by simp[Srt]))
theorem namesOf_len(a b:Lt):(namesOf a b).length≤a.Vars.length+b.Vars.length:=by
 have h1:=putAll_len a.Vars []
 have h2:=putAll_len b.Vars (putAll a.Vars [])
 simp only[bB] at h1
 unfold namesOf; omega
/-! Valid ones. -/
theorem validL_iff{l:Lt}(h:validL l=true):l.Vars.length≤8∧l.Slopes.length=l.Vars.length∧(0≤l.Constant∧l.Constant≤100000)∧Srt l.Vars∧(∀ s∈l.Slopes,1≤s∧s≤1000)∧∀ v∈l.Vars,isVarS v=true:=by
 simp only[validL,av,decide_eq_true_eq,bi,List.mem_range] at h
 obtain⟨⟨⟨h1,h2⟩,h3⟩,h4⟩:=h
 have h5:∀ j,j<l.Vars.length→isVarS (l.Vars.getD j default)=true∧(1≤l.Slopes.getD j default∧l.Slopes.getD j default≤1000)∧(j=0∨slt (l.Vars.getD (j-1) default) (l.Vars.getD j default)=true):=by
  intro j hj
  have:=h4 j hj
  simp only[linC,av,Bool.or_eq_true,decide_eq_true_eq] at this
  exact⟨this.1.1,inR_iff.1 this.1.2,this.2⟩
 refine⟨h1,h2,inR_iff.1 h3,?_,fun s hs=>?_,fun v hv=>?_⟩
 ·have gt:∀ (i k:Nat),i+(k+1)<l.Vars.length→slt (l.Vars.getD i default) (l.Vars.getD (i+(k+1)) default)=true:=by
   intro i k
   induction k with
   | zero=>
    intro hk
    have:=(h5 (i+1) (by omega)).2.2
    rcases this with h | h
    ·omega
    ·simpa using h
   | succ k ih=>
    intro hk
    have h6:=ih (by omega)
    have:=(h5 (i+(k+1)+1) (by omega)).2.2
    rcases this with h | h
    ·omega
    ·exact slt_trans h6 h
  rw[Srt,List.pairwise_iff_getElem]
  intro i j hi hj hij
  have:=gt i (j-i-1) (by omega)
  rw[show i+(j-i-1+1)=j by omega] at this
  simpa[List.getD,hi,hj] using this
 ·obtain⟨j,hj,rfl⟩:=List.mem_iff_getElem.1 hs
  have:=(h5 j (by omega)).2.1
  simpa[List.getD,hj] using this
 ·obtain⟨j,hj,rfl⟩:=List.mem_iff_getElem.1 hv
  have:=(h5 j hj).1
  simpa[List.getD,hj] using this
theorem big_var{v:ByteArray}(h:isVarS v=true):Big v.size:=by
 simp only[isVarS,av] at h
 have:=inR_iff.1 h.1
 simp only[Big]; omega
/-- What 'linear' gives. -/
theorem linear_eq{m:GMap Int}(hm:GOk m)(c:Int)(hl:m.es.length≤1048576)(hv:∀ k∈GMap.keys m,Big k.size)(hr:∀ k,InR (GMap.get m k 0))(hc:InR c):
 impl_linear m c=some (bif validL ⟨nzk m,(nzk m).map fun k=>GMap.get m k 0,c⟩ then(⟨nzk m,(nzk m).map fun k=>GMap.get m k 0,c⟩,true) else(⟨[],[],0⟩,false)):=by
 unfold impl_linear
 have hle:((m.es.filter fun e=>!decide (e.2.1=0)).map fun e=>e.1).length≤1048576:=by
  rw[aG]; exact Nat.le_trans (List.length_filter_le _ _) hl
 rw[if_pos (by omega)]
 unfold slices_SortS
 rw[if_pos (by omega),ag]
 show(ae (impl_IsValidLinear (Lt.mk (nzk m) ((nzk m).map fun k=>GMap.get m k 0) c)) _)=_
 have hn:(nzk m).length≤1048576:=by
  have:=(sortB_perm ((m.es.filter fun e=>!decide (e.2.1=0)).map fun e=>e.1)).length_eq
  unfold nzk; omega
 rw[implL _ ⟨⟨by simp only[Big]; omega,fun k hk=>?_⟩,⟨by simp only[Big,aG]; omega,fun x hx=>?_⟩,hc⟩,ag]
 ·cases validL (Lt.mk (nzk m) ((nzk m).map fun k=>GMap.get m k 0) c)<;>rfl
 ·refine hv k (Classical.byContradiction fun hn=>?_)
  exact(nzk_mem hm k).1 hk (get_notin hn)
 ·obtain⟨k,_,rfl⟩:=List.mem_map.1 hx
  exact hr k
/-- Into a map, one by one. -/
def foldP(u:Int→Int→Int):List ByteArray→List Int→GMap Int→GMap Int
 | v::vs,s::ss,m=>foldP u vs ss (GMap.put m v (u (GMap.get m v 0) s))
 | _,_,m=>m
theorem foldP_ok(u:Int→Int→Int):∀ (vs:List ByteArray) (ss:List Int) (m:GMap Int),GOk m→GOk (foldP u vs ss m)
 | [],ss,m,h=>by cases ss<;>exact h
 | v::vs,[],m,h=>h
 | v::vs,s::ss,m,h=>foldP_ok u vs ss _ (h.put _ _)
theorem foldP_len(u:Int→Int→Int):∀ (vs:List ByteArray) (ss:List Int) (m:GMap Int),(foldP u vs ss m).es.length≤m.es.length+vs.length
 | [],ss,m=>by cases ss<;>simp[foldP]
 | v::vs,[],m=>by simp[foldP]
 | v::vs,s::ss,m=>by
  have h1:=foldP_len u vs ss (GMap.put m v (u (GMap.get m v 0) s))
  have h2:=put_len m v (u (GMap.get m v 0) s)
  simp only[foldP,aR]; omega
theorem foldP_keys(u:Int→Int→Int)(z:ByteArray):∀ (vs:List ByteArray) (ss:List Int) (m:GMap Int),vs.length=ss.length→(z∈GMap.keys (foldP u vs ss m)↔z∈vs∨z∈GMap.keys m)
 | [],ss,m,_=>by cases ss<;>simp[foldP]
 | v::vs,[],m,h=>by simp at h
 | v::vs,s::ss,m,h=>by
  simp only[foldP,bd]
  rw[foldP_keys u z vs ss _ (by simpa using h),put_keys]
  constructor
  ·rintro (h | h | h)<;>simp[h]
  ·rintro ((h | h) | h)<;>simp[h]
theorem foldP_out(u:Int→Int→Int)(z:ByteArray):∀ (vs:List ByteArray) (ss:List Int) (m:GMap Int),z∉vs→GMap.get (foldP u vs ss m) z 0=GMap.get m z 0
 | [],ss,m,_=>by cases ss<;>rfl
 | v::vs,[],m,_=>rfl
 | v::vs,s::ss,m,h=>by
  simp only[bd,not_or] at h
  simp only[foldP]
  rw[foldP_out u z vs ss _ h.2,put_get,if_neg (Ne.symm h.1)]
theorem foldP_in(u:Int→Int→Int)(z:ByteArray):∀ (vs:List ByteArray) (ss:List Int) (m:GMap Int),vs.length=ss.length→vs.Nodup→z∈vs→GMap.get (foldP u vs ss m) z 0=u (GMap.get m z 0) (slopeZ vs ss z)
 | [],ss,m,_,_,h=>by simp at h
 | v::vs,[],m,h,_,_=>by simp at h
 | v::vs,s::ss,m,h,hn,hz=>by
  obtain⟨h1,h2⟩:=List.nodup_cons.1 hn
  simp only[foldP,slopeZ]
  by_cases e:v=z
  ·subst e
   rw[foldP_out u v vs ss _ h1,put_get,if_pos rfl,if_pos rfl]
  ·rw[foldP_in u z vs ss _ (by simpa using h) h2 ((List.mem_cons.1 hz).resolve_left (Ne.symm e)),put_get,if_neg e,if_neg e]
theorem foldP_loop{ρ:Type}(u:Int→Int→Int)(vs:List ByteArray)(ss:List Int)(hl:ss.length=vs.length)(m:GMap Int):
 forN (ρ:=ρ) (fun (i6:Nat) (s6:(GMap Int))=>ae (idx vs (i6:Int)) fun v26=>ae (idx ss (i6:Int)) fun v36=>some (.nx (GMap.put s6 v26 (u (GMap.get s6 v26 (0:Int)) v36)))) vs.length 0 m=some (.inr (foldP u vs ss m)):=by
 have key:∀ (vs pv:List ByteArray) (ss ps:List Int) (m:GMap Int),ps.length=pv.length→ss.length=vs.length→
  forN (ρ:=ρ) (fun (i6:Nat) (s6:(GMap Int))=>ae (idx (pv++vs) (i6:Int)) fun v26=>ae (idx (ps++ss) (i6:Int)) fun v36=>some (.nx (GMap.put s6 v26 (u (GMap.get s6 v26 (0:Int)) v36)))) vs.length pv.length m=some (.inr (foldP u vs ss m)):=by
  intro vs
  induction vs with
  | nil=>intro pv ss ps m _ h; cases ss<;>rfl
  | cons v vs ih=>
   intro pv ss ps m hp h
   cases ss with
   | nil=>simp at h
   | cons s ss=>
    simp only[foldP,aR]
    rw[forN_nx (s':=GMap.put m v (u (GMap.get m v 0) s)) (by rw[idx_mid,ag,← hp,idx_mid]; rfl)]
    have:=ih (pv++[v]) ss (ps++[s]) (GMap.put m v (u (GMap.get m v 0) s)) (by simp[hp]) (by simpa using h)
    simpa using this
 exact key vs [] ss [] m rfl hl
theorem inR_small{x:Int}(h0:0≤x)(h1:x≤1000000):InR x:=by simp only[InR]; omega
theorem slopeZ_bound{l:Lt}(hv:validL l=true)(n:ByteArray):0≤slopeZ l.Vars l.Slopes n∧slopeZ l.Vars l.Slopes n≤1000∧(n∈l.Vars↔slopeZ l.Vars l.Slopes n≠0):=by
 obtain⟨h1,h2,h3,h4,h5,h6⟩:=validL_iff hv
 by_cases hn:n∈l.Vars
 ·have:=slopeZ_in l.Vars l.Slopes n hn h2.symm h5
  exact⟨by omega,this.2,⟨fun _=>by omega,fun _=>hn⟩⟩
 ·rw[slopeZ_notin _ _ _ hn]; simp[hn]
theorem ones_len{α:Type}:∀ l:List α,lcn (fun _=>1) l=l.length
 | []=>by rw[lcn_nil]; rfl
 | e::l=>by rw[lcn_cons,ones_len l,aR]; omega
theorem tot_len(l:Lt):l.Vars.length+l.Slopes.length≤l.tot:=by
 have h1:=ltot_len ByteArray.size l.Vars
 have h2:=ltot0 l.Slopes
 unfold Lt.tot; omega
end
section
theorem wrap_small{x:Int}(h0:0≤x)(h1:x≤1000000000000):IntKind.i64.wrap x=x:=by rw[wrap64]<;>omega
/-- One plus a multiple of the other. -/
def plusU(f g s:Int):Int:=IntKind.i64.wrap (g+IntKind.i64.wrap (f*s))
def plusL(a b:Lt)(f:Int):Lt:=
 ⟨(namesOf a b).filter fun n=>decide (0<plusU f (slopeZ a.Vars a.Slopes n) (slopeZ b.Vars b.Slopes n)),((namesOf a b).filter fun n=>decide (0<plusU f (slopeZ a.Vars a.Slopes n) (slopeZ b.Vars b.Slopes n))).map fun n=>plusU f (slopeZ a.Vars a.Slopes n) (slopeZ b.Vars b.Slopes n),plusU f a.Constant b.Constant⟩
theorem fold_two{ρ:Type}(H:ByteArray→Int):∀ (xs:List ByteArray) (i:Nat) (s:List ByteArray×List Int),s.1.length+xs.length≤1073741824→s.2.length+xs.length≤1073741824→
 forL (ρ:=ρ) (fun _ (x:ByteArray) (s:List ByteArray×List Int)=>bif decide (0<H x) then ae (app s.1 ([x])) fun v=>ae (app s.2 ([H x])) fun w=>some (.nx (v,w)) else some (.nx (s.1,s.2))) xs i s=some (.inr (s.1++xs.filter (fun n=>decide (0<H n)),s.2++(xs.filter (fun n=>decide (0<H n))).map H))
 | [],i,s,_,_=>by simp[forL]
 | x::xs,i,s,h1,h2=>by
  simp only[aR] at h1 h2
  by_cases hz:0<H x
  ·rw[forL_nx (s':=(s.1++[x],s.2++[H x])) (by simp only[decide_eq_true hz,cond_true]; rw[app_one (by omega)]; simp only[ag]; rw[app_one (by omega)]; rfl),fold_two H xs (i+1) _ (by simp; omega) (by simp; omega)]
   simp[hz]
  ·rw[forL_nx (s':=s) (by simp only[decide_eq_false hz,cond_false]),fold_two H xs (i+1) _ (by omega) (by omega)]
   simp[hz]
theorem l25Plus_eq(a b:Lt)(f:Int)(ha:a.Slopes.length=a.Vars.length)(hb:b.Slopes.length=b.Vars.length)(h:a.Vars.length+b.Vars.length≤1048576):spec_l25Plus a b f=some (plusL a b f):=by
 unfold spec_l25Plus
 have hn:=namesOf_len a b
 rw[l25Names_eq a b h,ag]
 rw[forN_forL _ (fun _ (x:ByteArray) (s:List ByteArray×List Int)=>bif decide (0<plusU f (slopeZ a.Vars a.Slopes x) (slopeZ b.Vars b.Slopes x)) then ae (app s.1 ([x])) fun v=>ae (app s.2 ([plusU f (slopeZ a.Vars a.Slopes x) (slopeZ b.Vars b.Slopes x)])) fun w=>some (.nx (v,w)) else some (.nx (s.1,s.2))) (namesOf a b) 0 ([],[]) (fun j x s hx=>by
  simp only[Nat.zero_add,idx_nat,hx,ag,l25Slope_eq a x ha,l25Slope_eq b x hb,plusU]; rfl),
  fold_two (fun x=>plusU f (slopeZ a.Vars a.Slopes x) (slopeZ b.Vars b.Slopes x)) _ 0 _ (by simp; omega) (by simp; omega),thenL_inr]
 rfl
theorem add_eq(l:Lt)(m:GMap Int)(f:Int)(hl:l.Slopes.length=l.Vars.length):impl_Linear__add l m f=some (IntKind.i64.wrap (f*l.Constant),foldP (plusU f) l.Vars l.Slopes m):=by
 unfold impl_Linear__add
 have:=foldP_loop (ρ:=Int×GMap Int) (plusU f) l.Vars l.Slopes hl m
 rw[show(fun (i2:Nat) (s2:(GMap Int))=>ae (idx l.Vars (i2:Int)) fun v15=>ae (idx l.Slopes (i2:Int)) fun v24=>some (Flow.nx (GMap.put s2 v15 (IntKind.i64.wrap ((GMap.get s2 v15 (0:Int))+(IntKind.i64.wrap (f*v24))))):Flow (Int×GMap Int) (GMap Int)))=(fun (i6:Nat) (s6:(GMap Int))=>ae (idx l.Vars (i6:Int)) fun v26=>ae (idx l.Slopes (i6:Int)) fun v36=>some (.nx (GMap.put s6 v26 (plusU f (GMap.get s6 v26 (0:Int)) v36)))) from rfl,this,thenL_inr]
theorem plusU_zero{f g:Int}(h0:0≤g)(h1:g≤1000000000):plusU f g 0=g:=by
 unfold plusU
 rw[Int.mul_zero,show IntKind.i64.wrap 0=0 from wrap_small (by omega) (by omega),Int.add_zero,wrap_small h0 (by omega)]
theorem plusU_small{f g s:Int}(f0:0≤f)(f1:f≤1000)(g0:0≤g)(g1:g≤1000000000)(s0:0≤s)(s1:s≤100000):plusU f g s=g+f*s∧0≤f*s∧f*s≤100000000:=by
 have h1:0≤f*s:=Int.mul_nonneg f0 s0
 have h2:f*s≤1000*100000:=Int.mul_le_mul f1 s1 s0 (by omega)
 unfold plusU
 rw[wrap_small h1 (by omega),wrap_small (by omega) (by omega)]
 exact⟨rfl,h1,by omega⟩
end
section
def majI(xs:List Mt)(x:ByteArray)(n:Nat):Int:=ffind (fun i=>decide ((xs.getD i default).Name=x)&&decide ((xs.getD i default).Slopes.length=n)) xs.length 0
theorem specFind(xs:List Mt)(x:ByteArray)(n:Nat):spec_l25Find xs x (n:Int)=some (majI xs x n):=by
 unfold spec_l25Find majI
 refine forN_ffind _ 0 (fun j _ hj=>?_)
 rw[idx_getD (by omega),ag,ag,show decide (((xs.getD j default).Slopes.length:Int)=(n:Int))=decide ((xs.getD j default).Slopes.length=n) from decide_eq_decide.2 (by omega)]
 cases decide ((xs.getD j default).Name=x)<;>cases decide ((xs.getD j default).Slopes.length=n)<;>rfl
theorem implFind(xs:List Mt)(t:Tt):impl_majorant xs t=some (majI xs t.Name t.Args.length):=by
 unfold impl_majorant slices_IndexFunc_Simpl_Majorant_impl_Majorant majI
 rw[forN_ffind (q:=fun i=>decide ((xs.getD i default).Name=t.Name)&&decide ((xs.getD i default).Slopes.length=t.Args.length)) _ 0 (fun j _ hj=>?_),ag]
 rw[idx_getD (by omega),ag]
 simp only[impl_majorant_1]
 rw[show decide (((xs.getD j default).Slopes.length:Int)=(t.Args.length:Int))=decide ((xs.getD j default).Slopes.length=t.Args.length) from decide_eq_decide.2 (by omega)]
 cases decide ((xs.getD j default).Name=t.Name)<;>cases decide ((xs.getD j default).Slopes.length=t.Args.length)<;>rfl
theorem isVar_good{t:Tt}(hok:t.Ok)(h:t.good=true):impl_isVar t=some (isVarS t.Name):=by
 rw[Tt.good_u] at h
 unfold impl_isVar
 cases hv:isVarS t.Name
 ·rw[hv,cond_false,av,av] at h
  have hs:=h.1.1
  simp only[isSymS,av,inR_iff] at hs
  have h0:0<t.Name.size:=by omega
  have hc:=List.all_eq_true.1 hs.1.2 0 (by simp; omega)
  simp only[symC,if_pos,cLow,inR_iff] at hc
  rw[sidx0 h0,ag,isUpper_eq,ag]
  have:cUp (byt t.Name 0)=false:=by
   cases hu:cUp (byt t.Name 0)
   ·rfl
   ·simp only[cUp,inR_iff] at hu; omega
  rw[this]
 ·have hs:=hv
  simp only[isVarS,av,inR_iff] at hs
  have h0:0<t.Name.size:=by omega
  have hc:=List.all_eq_true.1 hs.2 0 (by simp; omega)
  simp only[varC,if_pos] at hc
  rw[sidx0 h0,ag,isUpper_eq,ag,hc]

/-- A map read as a linear function. -/
def LM(M:GMap Int)(c:Int):Lt:=⟨nzk M,(nzk M).map fun k=>GMap.get M k 0,c⟩
theorem slopeZ_map(h:ByteArray→Int)(z:ByteArray):∀ L:List ByteArray,z∈L→slopeZ L (L.map h) z=h z
 | [],hz=>by simp at hz
 | v::L,hz=>by
  simp only[aE,slopeZ]
  by_cases e:v=z
  ·rw[if_pos e,e]
  ·rw[if_neg e]
   exact slopeZ_map h z L ((List.mem_cons.1 hz).resolve_left (Ne.symm e))
theorem LM_slope{M:GMap Int}(hm:GOk M)(c:Int)(z:ByteArray):slopeZ (LM M c).Vars (LM M c).Slopes z=GMap.get M z 0:=by
 show slopeZ (nzk M) ((nzk M).map fun k=>GMap.get M k 0) z=_
 by_cases h:z∈nzk M
 ·rw[slopeZ_map _ _ _ h]
 ·rw[slopeZ_notin _ _ _ h]
  have:=fun g=>h ((nzk_mem hm z).2 g)
  exact(Classical.not_not.1 this).symm
structure BInv(j:Nat)(M:GMap Int)(c:Int):Prop where
 ok:GOk M
 rg:∀ z,0≤GMap.get M z 0∧GMap.get M z 0≤j*100000000
 cr:0≤c∧c≤100000+j*100000000
 big:∀ k∈GMap.keys M,Big k.size
 len:M.es.length≤j*8
theorem nzk_len(M:GMap Int):(nzk M).length≤M.es.length:=by
 have:=(sortB_perm ((M.es.filter fun e=>!decide (e.2.1=0)).map fun e=>e.1)).length_eq
 have h2:=List.length_filter_le (fun e:ByteArray×Int×Nat=>!decide (e.2.1=0)) M.es
 rw[aG] at this
 unfold nzk; omega
theorem BInv.step{j:Nat}{M:GMap Int}{c:Int}(h:BInv j M c)(hj:j≤4){l:Lt}(hv:validL l=true){f:Int}(f0:0≤f)(f1:f≤1000):
 spec_l25Plus (LM M c) l f=some (LM (foldP (plusU f) l.Vars l.Slopes M) (plusU f c l.Constant))∧BInv (j+1) (foldP (plusU f) l.Vars l.Slopes M) (plusU f c l.Constant):=by
 obtain⟨b1,b2,b3,b4,b5,b6⟩:=validL_iff hv
 have hok:=foldP_ok (plusU f) l.Vars l.Slopes M h.ok
 have hjz:(j:Int)*100000000≤400000000:=by omega
 have hg:∀ z,GMap.get (foldP (plusU f) l.Vars l.Slopes M) z 0=plusU f (GMap.get M z 0) (slopeZ l.Vars l.Slopes z):=by
  intro z
  have s1:=h.rg z
  by_cases hz:z∈l.Vars
  ·rw[foldP_in (plusU f) z _ _ _ b2.symm b4.nodup hz]
  ·rw[foldP_out (plusU f) z _ _ _ hz,slopeZ_notin _ _ _ hz,plusU_zero s1.1 (by omega)]
 have hH:∀ z,0≤plusU f (GMap.get M z 0) (slopeZ l.Vars l.Slopes z)∧plusU f (GMap.get M z 0) (slopeZ l.Vars l.Slopes z)≤GMap.get M z 0+100000000:=by
  intro z
  have s1:=h.rg z
  have s2:=slopeZ_bound hv z
  have:=plusU_small (f:=f) f0 f1 s1.1 (show GMap.get M z 0≤1000000000 by omega) s2.1 (by omega)
  omega
 have hcr:=h.cr
 have hcc:=plusU_small (f:=f) (g:=c) (s:=l.Constant) f0 f1 hcr.1 (by omega) b3.1 b3.2
 have hnl:=nzk_len M
 have hlen:=h.len
 have hfl:=foldP_len (plusU f) l.Vars l.Slopes M
 have hsub:∀ z,z∈(namesOf (LM M c) l).filter (fun n=>decide (0<plusU f (GMap.get M n 0) (slopeZ l.Vars l.Slopes n)))↔GMap.get (foldP (plusU f) l.Vars l.Slopes M) z 0≠0:=by
  intro z
  have h0:=hH z
  rw[List.mem_filter,hg,decide_eq_true_eq]
  constructor
  ·rintro ⟨_,h⟩; omega
  ·intro h'
   refine⟨Classical.byContradiction fun hno=>h' ?_,by omega⟩
   rw[namesOf_mem,not_or] at hno
   have e1:GMap.get M z 0=0:=Classical.not_not.1 fun g=>hno.1 ((nzk_mem h.ok z).2 g)
   rw[e1,slopeZ_notin _ _ _ hno.2,plusU_zero (by omega) (by omega)]
 have hnz:nzk (foldP (plusU f) l.Vars l.Slopes M)=(namesOf (LM M c) l).filter (fun n=>decide (0<plusU f (GMap.get M n 0) (slopeZ l.Vars l.Slopes n))):=nzk_eq hok ((namesOf_srt _ l).filter _) hsub
 constructor
 ·have:=l25Plus_eq (LM M c) l f (by simp[LM]) b2 (by show(nzk M).length+_≤_; omega)
  rw[this]
  unfold plusL
  simp only[LM_slope h.ok]
  show some _=some (LM _ _)
  unfold LM
  rw[hnz]
  congr 2
  exact List.map_congr_left fun k _=>(hg k).symm
 ·refine⟨hok,fun z=>?_,?_,fun k hk=>?_,by omega⟩
  ·have:=hH z
   have:=h.rg z
   rw[hg]
   refine⟨by omega,?_⟩
   have e:((j+1:Nat):Int)*100000000=(j:Int)*100000000+100000000:=by omega
   omega
  ·have e:((j+1:Nat):Int)*100000000=(j:Int)*100000000+100000000:=by omega
   omega
  ·rw[foldP_keys (plusU f) k _ _ _ b2.symm] at hk
   rcases hk with h' | h'
   ·exact big_var (b6 k h')
   ·exact h.big k h'
theorem BInv.LMok{j:Nat}{M:GMap Int}{c:Int}(h:BInv j M c)(hj:j≤4):(LM M c).Ok:=by
 have hnl:=nzk_len M
 have hlen:=h.len
 have hcr:=h.cr
 refine⟨⟨by simp only[Big,LM]; omega,fun k hk=>?_⟩,⟨by simp only[Big,LM,aG]; omega,fun x hx=>?_⟩,by simp only[InR,LM]; omega⟩
 ·exact h.big k (Classical.byContradiction fun hn=>(nzk_mem h.ok k).1 hk (get_notin hn))
 ·obtain⟨k,_,rfl⟩:=List.mem_map.1 hx
  have:=h.rg k
  simp only[InR]; omega
theorem BInv.fin{j:Nat}{M:GMap Int}{c:Int}(h:BInv j M c)(hj:j≤4):impl_linear M c=some (bif validL (LM M c) then(LM M c,true) else(⟨[],[],0⟩,false))∧spec_l25Linear (LM M c)=some (validL (LM M c)):=by
 have hlen:=h.len
 have hcr:=h.cr
 exact⟨linear_eq h.ok c (by omega) h.big (fun k=>by have:=h.rg k; simp only[InR]; omega) (by simp only[InR]; omega),specL _ (h.LMok hj)⟩
/-- Where two bounds agree. -/
def BRel(s i:Lt×Bool):Prop:=s.2=i.2∧(i.2=true→s.1=i.1∧validL i.1=true)∧(i.2=false→i.1=⟨[],[],0⟩)
theorem args_loop(xs:List Mt)(k:Nat)(hk:k<xs.length)(args:List Tt)(N:Nat)(F G:Nat→Tt→Option (Lt×Bool))(hl:(xs.getD k default).Slopes.length=args.length)(h4:args.length≤4)
 (hs:∀ s∈(xs.getD k default).Slopes,0≤s∧s≤1000) (hfg:∀ a∈args,∃ s i,BRel s i∧∀ n,N≤n→F n a=some s∧G n a=some i):
 ∀ (m j:Nat) (M:GMap Int) (c:Int),j+m=args.length→BInv j M c→
  ∃ r r',(∀ n,N≤n→forN (ρ:=Lt×Bool) (fun (i8:Nat) (s8:Int×(List ByteArray)×(List Int))=>
   ae (idx args (i8:Int)) fun v47=>
   ae (F n v47) fun v49=>
   bif v49.2 then
    ae (idx xs (k:Int)) fun v59=>
    ae (idx v59.Slopes (i8:Int)) fun v63=>
    ae (spec_l25Plus (Lt.mk s8.2.1 s8.2.2 s8.1) v49.1 v63) fun v65=>
    some (.nx (v65.Constant,v65.Vars,v65.Slopes))
   else
    some (.rt ((Lt.mk ([]) ([]) (0:Int)),false))) m j (c,(LM M c).Vars,(LM M c).Slopes)=some r∧
   forN (ρ:=Lt×Bool) (fun (i9:Nat) (s9:Int×(GMap Int))=>
    ae (idx args (i9:Int)) fun v38=>
    ae (G n v38) fun v43=>
    bif v43.2 then
     ae (idx xs (k:Int)) fun v54=>
     ae (idx v54.Slopes (i9:Int)) fun v58=>
     ae (impl_Linear__add v43.1 s9.2 v58) fun v60=>
     some (.nx (IntKind.i64.wrap (s9.1+v60.1),v60.2))
    else
     some (.rt ((Lt.mk ([]) ([]) (0:Int)),false))) m j (c,M)=some r')∧
   ((r=.inl (⟨[],[],0⟩,false)∧r'=.inl (⟨[],[],0⟩,false))∨∃ M' c',BInv args.length M' c'∧r=.inr (c',(LM M' c').Vars,(LM M' c').Slopes)∧r'=.inr (c',M'))
 | 0,j,M,c,hjm,h=>⟨_,_,fun n _=>⟨rfl,rfl⟩,.inr ⟨M,c,by rw[← hjm]; exact h,rfl,rfl⟩⟩
 | m+1,j,M,c,hjm,h=>by
  have hj:j<args.length:=by omega
  obtain⟨s,i,⟨e3,e4,e5⟩,e6⟩:=hfg _ (getD_mem (l:=args) (i:=j) hj)
  obtain⟨sl,sb⟩:=s
  obtain⟨il,ib⟩:=i
  simp only at e3 e4 e5
  subst e3
  cases sb
  ·refine⟨.inl (⟨[],[],0⟩,false),.inl (⟨[],[],0⟩,false),fun n hn=>⟨?_,?_⟩,.inl ⟨rfl,rfl⟩⟩
   ·rw[forN_rt]; rw[idx_getD hj,ag,(e6 n hn).1]; rfl
   ·rw[forN_rt]; rw[idx_getD hj,ag,(e6 n hn).2]; rfl
  ·obtain⟨rfl,hv⟩:=e4 rfl
   have hjs:j<(xs.getD k default).Slopes.length:=by omega
   have hf:=hs _ (getD_mem (l:=(xs.getD k default).Slopes) (i:=j) hjs)
   obtain⟨p1,p2⟩:=h.step (by omega) hv hf.1 hf.2
   obtain⟨_,b2,_⟩:=validL_iff hv
   have:=args_loop xs k hk args N F G hl h4 hs hfg m (j+1) _ _ (by omega) p2
   obtain⟨r,r',g0,g3⟩:=this
   refine⟨r,r',fun n hn=>⟨?_,?_⟩,g3⟩
   ·rw[forN_nx (s':=(plusU ((xs.getD k default).Slopes.getD j default) c sl.Constant,(LM (foldP (plusU ((xs.getD k default).Slopes.getD j default)) sl.Vars sl.Slopes M) (plusU ((xs.getD k default).Slopes.getD j default) c sl.Constant)).Vars,(LM (foldP (plusU ((xs.getD k default).Slopes.getD j default)) sl.Vars sl.Slopes M) (plusU ((xs.getD k default).Slopes.getD j default) c sl.Constant)).Slopes))]
    ·exact(g0 n hn).1
    ·rw[idx_getD hj,ag,(e6 n hn).1,ag,cond_true,idx_getD hk,ag,idx_getD hjs,ag]
     have:(Lt.mk (LM M c).Vars (LM M c).Slopes c)=LM M c:=rfl
     rw[this,p1]; rfl
   ·rw[forN_nx (s':=(plusU ((xs.getD k default).Slopes.getD j default) c sl.Constant,foldP (plusU ((xs.getD k default).Slopes.getD j default)) sl.Vars sl.Slopes M))]
    ·exact(g0 n hn).2
    ·rw[idx_getD hj,ag,(e6 n hn).2,ag,cond_true,idx_getD hk,ag,idx_getD hjs,ag,add_eq _ _ _ b2]; rfl
theorem varLin{x:ByteArray}(h:isVarS x=true):validL ⟨[x],[1],0⟩=true:=by
 simp[validL,linC,h,inR]
theorem majC_iff{xs:List Mt}(h:validM xs=true){k:Nat}(hk:k<xs.length):(0≤(xs.getD k default).Constant∧(xs.getD k default).Constant≤100000)∧∀ s∈(xs.getD k default).Slopes,0≤s∧s≤1000:=by
 simp only[validM,av,bi,List.mem_range] at h
 have:=h.2 k hk
 simp only[majC,av,bi] at this
 exact⟨inR_iff.1 this.1.1.2,fun s hs=>inR_iff.1 (this.1.2 s hs)⟩
theorem bndV(xs:List Mt)(hx:validM xs=true)(t:Tt):t.Ok→t.good=true→
 ∃ s i,BRel s i∧∀ n,2*bj t≤n→spec_l25BoundN n xs t=some s∧impl_boundOfN n xs t=some i:=by
 refine Tt.ind' (M:=fun t=>t.Ok→t.good=true→∃ s i,BRel s i∧∀ n,2*bj t≤n→spec_l25BoundN n xs t=some s∧impl_boundOfN n xs t=some i) (fun t ih hok hg=>?_) t
 have hpos:=t.pos
 have hiv:=isVar_good hok hg
 have hsv:=l2Var_eq t.Name hok.u.1
 cases hvar:isVarS t.Name
 ·rw[hvar] at hiv hsv
  have hg':=hg
  rw[Tt.good_u,hvar,cond_false,av,av,decide_eq_true_eq] at hg'
  have hga:∀ a∈t.Args,a.good=true:=fun a ha=>List.all_eq_true.1 hg'.2 a ha
  have hfi:=specFind xs t.Name t.Args.length
  have hfj:=implFind xs t
  rcases ffind_cases (fun i=>decide ((xs.getD i default).Name=t.Name)&&decide ((xs.getD i default).Slopes.length=t.Args.length)) xs.length 0 with⟨h1,h2⟩ | ⟨k,h1,h2,h3,h4,h5⟩
  ·have e:majI xs t.Name t.Args.length=-1:=h1
   refine⟨(⟨[],[],0⟩,false),(⟨[],[],0⟩,false),⟨rfl,by simp,fun _=>rfl⟩,fun n hn=>?_⟩
   cases n with
   | zero=>omega
   | succ n=>
    rw[spec_l25BoundN,impl_boundOfN,hiv,hsv,hfi,hfj,e]
    exact⟨rfl,rfl⟩
  ·have e:majI xs t.Name t.Args.length=(k:Int):=h1
   simp only[av,decide_eq_true_eq] at h4
   have hk:k<xs.length:=by omega
   obtain⟨hc,hsl⟩:=majC_iff hx hk
   have b0:BInv 0 GMap.empty (xs.getD k default).Constant:=⟨GOk.empty,fun z=>by rw[empty_get]; omega,by omega,fun k hk=>by simp[GMap.keys,GMap.empty] at hk,by simp[GMap.empty]⟩
   obtain⟨r,r',g0,g3⟩:=args_loop xs k hk t.Args (2*bj t-1) (fun n=>spec_l25BoundN n xs) (fun n=>impl_boundOfN n xs) (by omega) hg'.1.2 hsl
    (fun a ha=>by
     obtain⟨s,i,q1,q2⟩:=ih a ha (hok.u.2.2 a ha) (hga a ha)
     exact⟨s,i,q1,fun n hn=>q2 n (by have:=Tt.lt ha; omega)⟩) t.Args.length 0 _ _ (by omega) b0
   have n0:nzk (GMap.empty:GMap Int)=[]:=nzk_eq GOk.empty (by simp[Srt]) (fun z=>by simp[empty_get])
   have e0:(LM GMap.empty (xs.getD k default).Constant)=⟨[],[],(xs.getD k default).Constant⟩:=by unfold LM; rw[n0]; rfl
   rw[e0] at g0
   have dk:decide ((k:Int)<0)=false:=decide_eq_false (by omega)
   rcases g3 with⟨rfl,rfl⟩ | ⟨M',c',hb,rfl,rfl⟩
   ·refine⟨(⟨[],[],0⟩,false),(⟨[],[],0⟩,false),⟨rfl,by simp,fun _=>rfl⟩,fun n hn=>?_⟩
    cases n with
    | zero=>omega
    | succ n=>
     obtain⟨q1,q2⟩:=g0 n (by omega)
     simp only[ag,idx_getD hk] at q1 q2
     rw[spec_l25BoundN,impl_boundOfN,hiv,hsv,hfi,hfj,e]
     simp only[ag,cond_false,dk,idx_getD hk]
     constructor
     ·exact(congrArg (fun z=>thenL z _) q1).trans rfl
     ·exact(congrArg (fun z=>thenL z _) q2).trans rfl
   ·obtain⟨f1,f2⟩:=hb.fin hg'.1.2
    refine⟨(LM M' c',validL (LM M' c')),(bif validL (LM M' c') then(LM M' c',true) else(⟨[],[],0⟩,false)),?_,fun n hn=>?_⟩
    ·cases hv:validL (LM M' c')
     ·exact⟨rfl,by simp,fun _=>rfl⟩
     ·exact⟨rfl,fun _=>⟨rfl,hv⟩,by simp⟩
    ·cases n with
     | zero=>omega
     | succ n=>
      obtain⟨q1,q2⟩:=g0 n (by omega)
      simp only[ag,idx_getD hk] at q1 q2
      rw[spec_l25BoundN,impl_boundOfN,hiv,hsv,hfi,hfj,e]
      simp only[ag,cond_false,dk,idx_getD hk]
      constructor
      ·refine(congrArg (fun z=>thenL z _) q1).trans ?_
       rw[thenL_inr]
       have:(Lt.mk (LM M' c').Vars (LM M' c').Slopes c')=LM M' c':=rfl
       simp only[this,f2,ag]
      ·refine(congrArg (fun z=>thenL z _) q2).trans ?_
       rw[thenL_inr]
       simp only[f1,ag]
 ·rw[hvar] at hiv hsv
  refine⟨(⟨[t.Name],[1],0⟩,true),(⟨[t.Name],[1],0⟩,true),⟨rfl,fun _=>⟨rfl,varLin hvar⟩,by simp⟩,fun n hn=>?_⟩
  cases n with
  | zero=>omega
  | succ n=>
   rw[spec_l25BoundN,impl_boundOfN,hiv,hsv]
   exact⟨rfl,rfl⟩
end
section
theorem less_eq(a b:ByteArray):cmp_Less_string a b=some (slt a b):=by
 unfold cmp_Less_string
 simp only[isNaNS_eq,ag,cond_false]; rfl
theorem isNaN2_eq(a:ByteArray):slices_isNaN_string a=some false:=by simp[slices_isNaN_string]
theorem validL_asc{l:Lt}(h:validL l=true):∀ i j,i<j→j<l.Vars.length→slt (l.Vars.getD i default) (l.Vars.getD j default)=true:=by
 simp only[validL,av] at h
 have hc:∀ j,j<l.Vars.length→linC l j=true:=fun j hj=>List.all_eq_true.1 h.2 j (by simpa using hj)
 intro i j hij
 induction j with
 | zero=>omega
 | succ j ih=>
  intro hj
  have h1:=hc (j+1) hj
  simp only[linC,av,Bool.or_eq_true,decide_eq_true_eq] at h1
  have h2:slt (l.Vars.getD j default) (l.Vars.getD (j+1) default)=true:=by
   rcases h1.2 with g | g
   ·omega
   ·exact g
  by_cases e:i=j
  ·rw[e]; exact h2
  ·exact bytesLess_trans (ih (by omega) (by omega)) h2
def slopeOf(l:Lt)(x:ByteArray):Int:=
 if (ffind (fun i=>decide (l.Vars.getD i default=x)) l.Vars.length 0)<0 then 0 else l.Slopes.getD (ffind (fun i=>decide (l.Vars.getD i default=x)) l.Vars.length 0).toNat default
theorem specSlope(l:Lt)(x:ByteArray)(hv:validL l=true):spec_l25Slope l x=some (slopeOf l x):=by
 have hl:=validL_len hv
 unfold spec_l25Slope slopeOf
 rcases ffind_cases (fun i=>decide (l.Vars.getD i default=x)) l.Vars.length 0 with⟨h1,h2⟩ | ⟨k,h1,h2,h3,h4,h5⟩
 ·rw[h1,if_pos (by omega),forN_nohit]
  intro j _ hj
  have:=h2 j (by omega) hj
  rw[idx_getD (by omega),ag,this]; rfl
 ·rw[h1,if_neg (by omega)]
  refine forN_hit _ 0 k (by omega) h3 (fun j g1 g2=>?_) ?_
  ·have:=h5 j (by omega) g2
   rw[idx_getD (by omega),ag,this]; rfl
  ·rw[idx_getD (by omega),ag,h4,cond_true,idx_getD (by omega),ag,Int.toNat_natCast]
theorem implSlope(l:Lt)(x:ByteArray)(hv:validL l=true):impl_Linear__slope l x=some (slopeOf l x):=by
 have hl:=validL_len hv
 have h8:l.Vars.length≤8:=by simp only[validL,av,decide_eq_true_eq] at hv; exact hv.1.1.1
 have hasc:=validL_asc hv
 have mono:∀ i j,i<j→j<l.Vars.length→slt (l.Vars.getD j default) x=true→slt (l.Vars.getD i default) x=true:=fun i j h1 h2 h3=>bytesLess_trans (hasc i j h1 h2) h3
 have bs:∃ p:Nat,p≤l.Vars.length∧slices_BinarySearch_Sstring_string l.Vars x=some ((p:Int),decide (p<l.Vars.length)&&decide (l.Vars.getD p default=x))∧(∀ k,k<p→slt (l.Vars.getD k default) x=true)∧(∀ k,p≤k→k<l.Vars.length→slt (l.Vars.getD k default) x=false):=by
  unfold slices_BinarySearch_Sstring_string
  obtain⟨p,g1,g2,g3,g4⟩:=bs_loop (ρ:=Int×Bool) (q:=fun i=>slt (l.Vars.getD i default) x) (N:=l.Vars.length) (by omega) mono
   (f:=fun s3=>bif decide (s3.1<s3.2) then(shr .u64 (IntKind.u64.wrap (IntKind.i64.wrap (s3.1+s3.2))) 1).bind fun v20=>(idx l.Vars (IntKind.i64.wrap v20)).bind fun v24=>(cmp_Less_string v24 x).bind fun v27=>bif v27 then some (.nx (IntKind.i64.wrap (IntKind.i64.wrap v20+1),s3.2)) else some (.nx (s3.1,IntKind.i64.wrap v20)) else some (.br s3))
   (fun i j h1 h2=>by
    simp only
    rw[decide_eq_true (by omega),cond_true,bs_mid (by omega),ag]
    have e:IntKind.i64.wrap (((i+j) / 2:Nat):Int)=(((i+j) / 2:Nat):Int):=by rw[wrap64]<;>omega
    rw[e,idx_getD (by omega),ag,less_eq,ag]
    have e2:IntKind.i64.wrap ((((i+j) / 2:Nat):Int)+1)=(((i+j) / 2+1:Nat):Int):=by rw[wrap64]<;>omega
    rw[e2]
    cases slt (l.Vars.getD ((i+j) / 2) default) x<;>rfl)
   (fun i=>by simp only; rw[decide_eq_false (by omega)]; rfl)
  refine⟨p,g1,?_,g3,g4⟩
  rw[g2,thenL_inr]
  by_cases hp:p<l.Vars.length
  ·simp only
   rw[decide_eq_true (show(p:Int)<(l.Vars.length:Int) by omega),cond_true,idx_getD hp,ag,decide_eq_true hp,Bool.true_and,ag,isNaN2_eq,ag]
   cases decide (l.Vars.getD p default=x)<;>rfl
  ·simp only
   rw[decide_eq_false (show ¬ (p:Int)<(l.Vars.length:Int) by omega),decide_eq_false hp]; rfl
 obtain⟨p,g1,g2,g3,g4⟩:=bs
 unfold impl_Linear__slope slopeOf
 rw[g2,ag]
 simp only
 rcases ffind_cases (fun i=>decide (l.Vars.getD i default=x)) l.Vars.length 0 with⟨h1,h2⟩ | ⟨k,h1,h2,h3,h4,h5⟩
 ·rw[h1,if_pos (by omega)]
  by_cases hp:p<l.Vars.length
  ·have:=h2 p (by omega) (by omega)
   rw[this,Bool.and_false]; rfl
  ·rw[decide_eq_false hp]; rfl
 ·rw[h1,if_neg (by omega)]
  have hk:l.Vars.getD k default=x:=by simpa using h4
  have e:p=k:=by
   rcases Nat.lt_trichotomy p k with g | g | g
   ·have a:=g4 p (aY _) (by omega)
    have b:=hasc p k g (by omega)
    rw[hk] at b; rw[a] at b; cases b
   ·exact g
   ·have a:=g3 k g
    rw[hk] at a
    have:=bytesLess_irrefl x.data.toList
    unfold slt at a
    rw[this] at a; cases a
  subst e
  rw[decide_eq_true (show p<l.Vars.length by omega),h4,Bool.and_self,cond_true,idx_getD (by omega),ag,Int.toNat_natCast]
theorem Least_eq(a b:Int):spec_l1Least a b=some (min a b):=by
 unfold spec_l1Least
 by_cases h:a<b
 ·rw[decide_eq_true h,cond_true]; congr 1; omega
 ·rw[decide_eq_false h,cond_false]; congr 1; omega
theorem capV(xs:List Mt)(caps:List Int)(l:Lt)(hv:validL l=true)(hl:caps.length=xs.length)(t:Tt):t.Ok→t.good=true→
 ∃ r,∀ n,2*bj t≤n→spec_l25ValueN n xs caps t l=some r∧impl_cappedValueN n xs caps t l=some r:=by
 refine Tt.ind' (M:=fun t=>t.Ok→t.good=true→∃ r,∀ n,2*bj t≤n→spec_l25ValueN n xs caps t l=some r∧impl_cappedValueN n xs caps t l=some r) (fun t ih hok hg=>?_) t
 have hpos:=t.pos
 have hiv:=isVar_good hok hg
 have hsv:=l2Var_eq t.Name hok.u.1
 cases hvar:isVarS t.Name
 ·rw[hvar] at hiv hsv
  have hg':=hg
  rw[Tt.good_u,hvar,cond_false,av,av] at hg'
  have hga:∀ a∈t.Args,a.good=true:=fun a ha=>List.all_eq_true.1 hg'.2 a ha
  obtain⟨R,hR⟩:=mem_choice (fun a ha=>ih a ha (hok.u.2.2 a ha) (hga a ha))
  have hfi:=specFind xs t.Name t.Args.length
  have hfj:=implFind xs t
  rcases ffind_cases (fun i=>decide ((xs.getD i default).Name=t.Name)&&decide ((xs.getD i default).Slopes.length=t.Args.length)) xs.length 0 with⟨h1,h2⟩ | ⟨k,h1,h2,h3,h4,h5⟩
  ·have e:majI xs t.Name t.Args.length=-1:=h1
   refine⟨((0:Int),false),fun n hn=>?_⟩
   cases n with
   | zero=>omega
   | succ n=>
    rw[spec_l25ValueN,impl_cappedValueN,hiv,hsv,hfi,hfj,e]
    exact⟨rfl,rfl⟩
  ·have e:majI xs t.Name t.Args.length=(k:Int):=h1
   simp only[av,decide_eq_true_eq] at h4
   have hk:k<xs.length:=by omega
   let c:Nat→Bool:=fun j=>(R (t.Args.getD j default)).2
   let u:Nat→Int→Int:=fun j s=>wr (s+wr ((xs.getD k default).Slopes.getD j default*(R (t.Args.getD j default)).1))
   let r:Int×Bool:=bif (List.range' 0 t.Args.length).all c then(min (iterU u t.Args.length 0 (xs.getD k default).Constant) (caps.getD k default),true) else((0:Int),false)
   refine⟨r,fun n hn=>?_⟩
   cases n with
   | zero=>omega
   | succ n=>
    rw[spec_l25ValueN,impl_cappedValueN,hiv,hsv,hfi,hfj,e]
    simp only[ag,cond_false]
    rw[decide_eq_false (show ¬ (k:Int)<0 by omega),cond_false,cond_false,idx_getD hk,ag,ag]
    have hsz:∀ a∈t.Args,2*bj a≤n:=fun a ha=>by have:=Tt.lt ha; omega
    constructor
    ·rw[forN_chk c u (r0:=((0:Int),false))]
     ·cases hc:(List.range' 0 t.Args.length).all c
      ·simp only[r,hc]; rfl
      ·simp only[r,hc,cond_true,thenL_inr]
       rw[idx_getD (by omega),ag,Least_eq,ag]
     ·intro j s _ hj
      have ha:=getD_mem (l:=t.Args) (i:=j) (by omega)
      rw[idx_getD (xs:=t.Args) (i:=j) (by omega),ag,(hR _ ha n (hsz _ ha)).1,ag]
      rw[ag,idx_getD (xs:=(xs.getD k default).Slopes) (i:=j) (by omega),ag]
      simp only[c,u]
      cases (R (t.Args.getD j default)).2<;>rfl
    ·rw[forN_chk c u (r0:=((0:Int),false))]
     ·cases hc:(List.range' 0 t.Args.length).all c
      ·simp only[r,hc]; rfl
      ·simp only[r,hc,cond_true,thenL_inr]
       rw[idx_getD (by omega),ag]
     ·intro j s _ hj
      have ha:=getD_mem (l:=t.Args) (i:=j) (by omega)
      rw[idx_getD (xs:=t.Args) (i:=j) (by omega),ag,(hR _ ha n (hsz _ ha)).2,ag]
      rw[ag,idx_getD (xs:=(xs.getD k default).Slopes) (i:=j) (by omega),ag,Int.mul_comm]
      simp only[c,u]
      cases (R (t.Args.getD j default)).2<;>rfl
 ·rw[hvar] at hiv hsv
  refine⟨(slopeOf l t.Name,true),fun n hn=>?_⟩
  cases n with
  | zero=>omega
  | succ n=>
   rw[spec_l25ValueN,impl_cappedValueN,hiv,hsv]
   simp only[ag,cond_true,specSlope l _ hv,implSlope l _ hv]
   constructor<;>first | rfl | trivial
theorem cap_both(xs:List Mt)(caps:List Int)(l:Lt)(t:Tt)(hx:LOk Mt.Ok xs)(hl:l.Ok)(ht:t.Ok)(h:t.tot≤1048576):
 ∃ r,spec_CappedValue xs caps t l=some r∧impl_CappedValue xs caps t l=some r:=by
 unfold spec_CappedValue impl_CappedValue
 rw[specMj xs hx,implMj xs hx,ag,ag,l2Good_ok t h ht,IsValidTerm_ok t h ht,specL l hl,implL l hl]
 cases validM xs
 ·exact⟨_,rfl,rfl⟩
 by_cases hc:caps.length=xs.length
 ·rw[cond_true,cond_true,decide_eq_true (show(caps.length:Int)=(xs.length:Int) by omega),cond_true,cond_true]
  have ec:slices_ContainsFunc_Sint_int caps (fun y0=>impl_CappedValue_1 y0)=some (!caps.all (fun v=>inR v 0 100000)):=by
   rw[Contains_int (p:=fun x=>!inR x 0 100000) (fun x=>by simp only[impl_CappedValue_1,within_eq,ag]),List.all_eq_not_any_not,Bool.not_not]
  rw[ec,ag,ag,ag,ag,ag]
  cases hg:goodT t
  ·cases caps.all (fun v=>inR v 0 100000)<;>exact⟨_,rfl,rfl⟩
  cases hv:validL l
  ·cases caps.all (fun v=>inR v 0 100000)<;>exact⟨_,rfl,rfl⟩
  rw[cond_true,cond_true,cond_true,cond_true,forN_all (fun j=>inR (caps.getD j default) 0 100000) (r0:=((0:Int),false)),range_all_list caps (fun v=>inR v 0 100000)]
  ·cases caps.all (fun v=>inR v 0 100000)
   ·exact⟨_,rfl,rfl⟩
   ·have hg2:t.good=true:=by unfold goodT at hg; rw[av] at hg; exact hg.2
    obtain⟨r,hr⟩:=capV xs caps l hv hc t ht hg2
    have e1:spec_l25Value xs caps t l=some r:=lim_eq ⟨_,fun n hn=>(hr n hn).1⟩
    have e2:impl_cappedValue xs caps t l=some r:=lim_eq ⟨_,fun n hn=>(hr n hn).2⟩
    rw[e1,e2]
    exact⟨_,rfl,rfl⟩
  ·intro j hj _
   rw[idx_getD hj,ag,l1In_eq,ag]
   cases inR (caps.getD j default) 0 100000<;>rfl
 ·rw[cond_true,cond_true,decide_eq_false (show ¬ (caps.length:Int)=(xs.length:Int) by omega)]
  exact⟨_,rfl,rfl⟩
end
section
/-! A value is at most its bound. -/
def sumO(H:ByteArray→Int)(ns:List ByteArray):Int:=(ns.map H).sum
theorem sumO_cons(H:ByteArray→Int)(n:ByteArray)(ns:List ByteArray):sumO H (n::ns)=H n+sumO H ns:=by simp[sumO]
theorem sumO_step(f:Int)(H K W:ByteArray→Int):∀ ns,sumO (fun z=>(H z+f*K z)*W z) ns=sumO (fun z=>H z*W z) ns+f*sumO (fun z=>K z*W z) ns
 | []=>by simp[sumO]
 | n::ns=>by
  rw[sumO_cons,sumO_cons,sumO_cons,sumO_step f H K W ns,Int.add_mul,Int.mul_add,Int.mul_assoc]
  omega
def evL(l b:Lt):Int:=b.Constant+sumO (fun z=>slopeZ b.Vars b.Slopes z*slopeZ l.Vars l.Slopes z) l.Vars
def evM(l:Lt)(M:GMap Int)(c:Int):Int:=c+sumO (fun z=>GMap.get M z 0*slopeZ l.Vars l.Slopes z) l.Vars
theorem evM_step(l:Lt){j:Nat}{M:GMap Int}{c:Int}(h:BInv j M c)(hj:j≤4){b:Lt}(hv:validL b=true){f:Int}(f0:0≤f)(f1:f≤1000):
 evM l (foldP (plusU f) b.Vars b.Slopes M) (plusU f c b.Constant)=evM l M c+f*evL l b:=by
 obtain⟨b1,b2,b3,b4,b5,b6⟩:=validL_iff hv
 have hjz:(j:Int)*100000000≤400000000:=by omega
 have hcr:=h.cr
 have hcc:=plusU_small (f:=f) (g:=c) (s:=b.Constant) f0 f1 hcr.1 (by omega) b3.1 b3.2
 have hg:∀ z,GMap.get (foldP (plusU f) b.Vars b.Slopes M) z 0=GMap.get M z 0+f*slopeZ b.Vars b.Slopes z:=by
  intro z
  have s1:=h.rg z
  have s2:=slopeZ_bound hv z
  have hs:=(plusU_small (f:=f) f0 f1 s1.1 (show GMap.get M z 0≤1000000000 by omega) s2.1 (by omega)).1
  by_cases hz:z∈b.Vars
  ·rw[foldP_in (plusU f) z _ _ _ b2.symm b4.nodup hz,hs]
  ·rw[foldP_out (plusU f) z _ _ _ hz,slopeZ_notin _ _ _ hz,Int.mul_zero,Int.add_zero]
 unfold evM evL
 rw[hcc.1,show(fun z=>GMap.get (foldP (plusU f) b.Vars b.Slopes M) z 0*slopeZ l.Vars l.Slopes z)=(fun z=>(GMap.get M z 0+f*slopeZ b.Vars b.Slopes z)*slopeZ l.Vars l.Slopes z) from funext fun z=>by rw[hg z],sumO_step,Int.mul_add]
 omega
theorem forN_inr{ρ σ:Type}{f:Nat→σ→Option (Flow ρ σ)}{n i:Nat}{s x:σ}(h:forN f (n+1) i s=some (.inr x)):(∃ s1,f i s=some (.nx s1)∧forN f n (i+1) s1=some (.inr x))∨f i s=some (.br x):=by
 simp only[forN] at h
 cases e:f i s with
 | none=>rw[e] at h; cases h
 | some v=>
  rw[e] at h
  cases v with
  | nx s1=>exact .inl ⟨s1,rfl,h⟩
  | br y=>simp only[ag] at h; right; cases h; rfl
  | rt y=>simp at h
theorem loopS(xs:List Mt)(k:Nat)(hk:k<xs.length)(args:List Tt)(l:Lt)(F:Tt→Option (Int×Bool))(G:Tt→Option (Lt×Bool))(hsl:(xs.getD k default).Slopes.length=args.length)(h4:args.length≤4)
 (hs:∀ s∈(xs.getD k default).Slopes,0≤s∧s≤1000) (ih:∀ a∈args,∀ v b,F a=some (v,true)→G a=some (b,true)→(0≤v∧v≤100000)∧validL b=true∧v≤evL l b):
 ∀ (m j:Nat) (out c:Int) (M:GMap Int) (out':Int) (y:Int×GMap Int),j+m=args.length→BInv j M c→0≤out→out≤100000+j*100000000→out≤evM l M c→
  forN (ρ:=Int×Bool) (fun (i8:Nat) (s8:Int)=>
   ae (idx args (i8:Int)) fun v38=>
   ae (F v38) fun v45=>
   bif v45.2 then
    ae (idx xs (k:Int)) fun v54=>
    ae (idx v54.Slopes (i8:Int)) fun v58=>
    some (.nx (IntKind.i64.wrap (s8+(IntKind.i64.wrap (v45.1*v58)))))
   else
    some (.rt ((0:Int),false))) m j out=some (.inr out')→
  forN (ρ:=Lt×Bool) (fun (i9:Nat) (s9:Int×(GMap Int))=>
   ae (idx args (i9:Int)) fun v38=>
   ae (G v38) fun v43=>
   bif v43.2 then
    ae (idx xs (k:Int)) fun v54=>
    ae (idx v54.Slopes (i9:Int)) fun v58=>
    ae (impl_Linear__add v43.1 s9.2 v58) fun v60=>
    some (.nx (IntKind.i64.wrap (s9.1+v60.1),v60.2))
   else
    some (.rt ((Lt.mk ([]) ([]) (0:Int)),false))) m j (c,M)=some (.inr y)→
  0≤out'∧out'≤evM l y.2 y.1∧BInv args.length y.2 y.1:=by
 intro m
 induction m with
 | zero=>
  intro j out c M out' y hjm hB h0 h1 h2 e1 e2
  simp only[forN] at e1 e2
  cases e1; cases e2
  have:j=args.length:=by omega
  exact⟨h0,h2,this▸hB⟩
 | succ m ihm=>
  intro j out c M out' y hjm hB h0 h1 h2 e1 e2
  have hj:j<args.length:=by omega
  have hjs:j<(xs.getD k default).Slopes.length:=by omega
  have hf:=hs _ (getD_mem (l:=(xs.getD k default).Slopes) (i:=j) hjs)
  have ha:=getD_mem (l:=args) (i:=j) hj
  rcases forN_inr e1 with⟨s1,q1,q2⟩ | q1
  ·rcases forN_inr e2 with⟨s2,p1,p2⟩ | p1
   ·rw[idx_getD hj,ag] at q1 p1
    cases eF:F (args.getD j default) with
    | none=>rw[eF] at q1; cases q1
    | some vv=>
     obtain⟨v,vb⟩:=vv
     cases eG:G (args.getD j default) with
     | none=>rw[eG] at p1; cases p1
     | some bb=>
      obtain⟨b,okb⟩:=bb
      rw[eF] at q1; rw[eG] at p1
      simp only[ag] at q1 p1
      cases vb
      ·simp at q1
      cases okb
      ·simp at p1
      obtain⟨g1,g2,g3⟩:=ih _ ha v b eF eG
      obtain⟨_,b2,_⟩:=validL_iff g2
      simp only[cond_true,idx_getD hk,idx_getD hjs,ag,add_eq _ _ _ b2] at q1 p1
      have hmul0:0≤v*(xs.getD k default).Slopes.getD j default:=Int.mul_nonneg g1.1 hf.1
      have hmul1:v*(xs.getD k default).Slopes.getD j default≤100000*1000:=Int.mul_le_mul g1.2 hf.2 hf.1 (by omega)
      have hw:IntKind.i64.wrap (out+IntKind.i64.wrap (v*(xs.getD k default).Slopes.getD j default))=out+v*(xs.getD k default).Slopes.getD j default:=by
       rw[wrap_small hmul0 (by omega),wrap_small (by omega) (by omega)]
      rw[hw] at q1
      cases q1
      cases p1
      have hB':=(hB.step (by omega) g2 hf.1 hf.2).2
      have hev:=evM_step l hB (by omega) g2 hf.1 hf.2
      have hle:v*(xs.getD k default).Slopes.getD j default≤(xs.getD k default).Slopes.getD j default*evL l b:=by
       rw[Int.mul_comm]; exact Int.mul_le_mul_of_nonneg_left g3 hf.1
      refine ihm (j+1) _ _ _ out' y (by omega) hB' (by omega) (by omega) ?_ q2 p2
      rw[hev]; omega
   ·rw[idx_getD hj,ag] at p1
    cases eG:G (args.getD j default) with
    | none=>rw[eG] at p1; cases p1
    | some bb=>
     obtain⟨b,okb⟩:=bb
     rw[eG] at p1
     cases okb
     ·simp at p1
     ·simp only[ag,cond_true,idx_getD hk,idx_getD hjs] at p1
      cases eA:impl_Linear__add b M ((xs.getD k default).Slopes.getD j default) with
      | none=>rw[eA] at p1; cases p1
      | some z=>rw[eA] at p1; cases p1
  ·rw[idx_getD hj,ag] at q1
   cases eF:F (args.getD j default) with
   | none=>rw[eF] at q1; cases q1
   | some vv=>
    obtain⟨v,vb⟩:=vv
    rw[eF] at q1
    cases vb
    ·simp at q1
    ·simp only[ag,cond_true,idx_getD hk,idx_getD hjs] at q1
     cases q1
theorem sumO_ge{H:ByteArray→Int}:∀ ns:List ByteArray,(∀ z∈ns,0≤H z)→0≤sumO H ns∧∀ n∈ns,H n≤sumO H ns
 | [],_=>⟨by simp[sumO],fun n h=>by simp at h⟩
 | m::ns,h=>by
  obtain⟨h1,h2⟩:=sumO_ge ns (fun z hz=>h z (by simp[hz]))
  have h3:=h m (by simp)
  rw[sumO_cons]
  refine⟨by omega,fun n hn=>?_⟩
  rcases List.mem_cons.1 hn with rfl | hn
  ·omega
  ·have:=h2 n hn; omega
theorem slopeZ_first:∀ (vs:List ByteArray) (ss:List Int) (x:ByteArray) (k:Nat),ss.length=vs.length→k<vs.length→vs.getD k default=x→(∀ i,i<k→vs.getD i default≠x)→slopeZ vs ss x=ss.getD k default
 | [],ss,x,k,_,h,_,_=>by simp at h
 | v::vs,[],x,k,h,_,_,_=>by simp at h
 | v::vs,s::ss,x,0,_,_,h,_=>by
  have:v=x:=by simpa using h
  simp[slopeZ,this]
 | v::vs,s::ss,x,k+1,hl,hk,h,hf=>by
  have h0:v≠x:=by simpa using hf 0 (by omega)
  have:=slopeZ_first vs ss x k (by simpa using hl) (by simpa using hk) (by simpa using h) (fun i hi=>by simpa using hf (i+1) (by omega))
  simp only[slopeZ,if_neg h0,this]
  simp
theorem slopeOf_Z{l:Lt}(hv:validL l=true)(x:ByteArray):slopeOf l x=slopeZ l.Vars l.Slopes x:=by
 obtain⟨_,b2,_⟩:=validL_iff hv
 unfold slopeOf
 rcases ffind_cases (fun i=>decide (l.Vars.getD i default=x)) l.Vars.length 0 with⟨h1,h2⟩ | ⟨k,h1,h2,h3,h4,h5⟩
 ·rw[h1,if_pos (by omega),slopeZ_notin]
  intro hm
  obtain⟨i,hi,e⟩:=List.mem_iff_getElem.1 hm
  have:=h2 i (by omega) (by omega)
  simp[List.getD,hi,e] at this
 ·rw[h1,if_neg (by omega),Int.toNat_natCast]
  rw[slopeZ_first l.Vars l.Slopes x k b2 (by omega) (by simpa using h4) (fun i hi=>by have:=h5 i (by omega) hi; simpa using this)]
theorem forN_inl{ρ σ:Type}{f:Nat→σ→Option (Flow ρ σ)}{r0:ρ}(hf:∀ j s x,f j s=some (.rt x)→x=r0):∀ (n i:Nat) (s:σ) (r:ρ),forN f n i s=some (.inl r)→r=r0
 | 0,i,s,r,h=>by simp[forN] at h
 | n+1,i,s,r,h=>by
  simp only[forN] at h
  cases e:f i s with
  | none=>rw[e] at h; cases h
  | some v=>
   rw[e] at h
   cases v with
   | nx s1=>exact forN_inl hf n (i+1) s1 r h
   | br y=>simp at h
   | rt y=>simp only[ag] at h; cases h; exact hf i s _ e
theorem capSound(xs:List Mt)(hx:validM xs=true)(caps:List Int)(hc:caps.length=xs.length)(hcap:∀ x∈caps,0≤x∧x≤100000)(l:Lt)(hl:validL l=true):∀ (n:Nat) (t:Tt),t.Ok→t.good=true→∀ v b,impl_cappedValueN n xs caps t l=some (v,true)→impl_boundOfN n xs t=some (b,true)→
 (0≤v∧v≤100000)∧validL b=true∧v≤evL l b:=by
 intro n
 induction n with
 | zero=>intro t _ _ v b h; cases h
 | succ n ih=>
  intro t hok hg v b e1 e2
  have hiv:=isVar_good hok hg
  rw[impl_cappedValueN,hiv,ag] at e1
  rw[impl_boundOfN,hiv,ag] at e2
  cases hvar:isVarS t.Name with
  | true=>
   rw[hvar,cond_true] at e1 e2
   rw[implSlope l _ hl] at e1
   cases e1; cases e2
   have hb:=slopeZ_bound hl t.Name
   rw[slopeOf_Z hl]
   refine⟨⟨hb.1,by omega⟩,varLin hvar,?_⟩
   have hnn:=sumO_ge (H:=fun z=>slopeZ [t.Name] [(1:Int)] z*slopeZ l.Vars l.Slopes z) l.Vars (fun z _=>Int.mul_nonneg (by simp only[slopeZ]; split<;>omega) (slopeZ_bound hl z).1)
   show _≤0+sumO (fun z=>slopeZ [t.Name] [(1:Int)] z*slopeZ l.Vars l.Slopes z) l.Vars
   by_cases hm:t.Name∈l.Vars
   ·have h3:=hnn.2 _ hm
    have h4:slopeZ [t.Name] [(1:Int)] t.Name*slopeZ l.Vars l.Slopes t.Name=slopeZ l.Vars l.Slopes t.Name:=by simp[slopeZ]
    have h5:slopeZ l.Vars l.Slopes t.Name≤sumO (fun z=>slopeZ [t.Name] [(1:Int)] z*slopeZ l.Vars l.Slopes z) l.Vars:=h4▸h3
    omega
   ·rw[slopeZ_notin _ _ _ hm]; omega
  | false=>
   rw[hvar,cond_false] at e1 e2
   rw[implFind,ag] at e1 e2
   have hg':=hg
   rw[Tt.good_u,hvar,cond_false,av,av,decide_eq_true_eq] at hg'
   have hga:∀ a∈t.Args,a.good=true:=fun a ha=>List.all_eq_true.1 hg'.2 a ha
   rcases ffind_cases (fun i=>decide ((xs.getD i default).Name=t.Name)&&decide ((xs.getD i default).Slopes.length=t.Args.length)) xs.length 0 with⟨h1,h2⟩ | ⟨k,h1,h2,h3,h4,h5⟩
   ·have e:majI xs t.Name t.Args.length=-1:=h1
    rw[e] at e1; cases e1
   ·have e:majI xs t.Name t.Args.length=(k:Int):=h1
    simp only[av,decide_eq_true_eq] at h4
    have hk:k<xs.length:=by omega
    obtain⟨hcm,hsl⟩:=majC_iff hx hk
    have b0:BInv 0 GMap.empty (xs.getD k default).Constant:=⟨GOk.empty,fun z=>by rw[empty_get]; omega,by omega,fun k hk=>by simp[GMap.keys,GMap.empty] at hk,by simp[GMap.empty]⟩
    have dk:decide ((k:Int)<0)=false:=decide_eq_false (by omega)
    rw[e,dk,cond_false,idx_getD hk,ag] at e1 e2
    have ev0:evM l GMap.empty (xs.getD k default).Constant=(xs.getD k default).Constant:=by
     unfold evM
     have:∀ ns:List ByteArray,sumO (fun z=>GMap.get (GMap.empty:GMap Int) z 0*slopeZ l.Vars l.Slopes z) ns=0:=by
      intro ns
      induction ns with
      | nil=>rfl
      | cons n ns ih=>rw[sumO_cons,ih,empty_get]; simp
     rw[this]; omega
    have L:=loopS xs k hk t.Args l (fun a=>impl_cappedValueN n xs caps a l) (fun a=>impl_boundOfN n xs a) h4.2 hg'.1.2 hsl (fun a ha v b q1 q2=>ih a (hok.u.2.2 a ha) (hga a ha) v b q1 q2) t.Args.length 0 (xs.getD k default).Constant (xs.getD k default).Constant GMap.empty
    rw[idx_getD hk] at L
    generalize hF:forN (ρ:=Int×Bool) _ t.Args.length 0 (xs.getD k default).Constant=R1 at e1
    generalize hG:forN (ρ:=Lt×Bool) _ t.Args.length 0 ((xs.getD k default).Constant,(GMap.empty:GMap Int))=R2 at e2
    cases R1 with
    | none=>cases e1
    | some R1=>
     cases R2 with
     | none=>cases e2
     | some R2=>
      cases R1 with
      | inl r1=>
       have:=forN_inl (r0:=((0:Int),false)) (fun j s x hx=>by
        cases q1:idx t.Args (j:Int) with
        | none=>rw[q1] at hx; cases hx
        | some a=>
         rw[q1,ag] at hx
         cases q2:impl_cappedValueN n xs caps a l with
         | none=>rw[q2] at hx; cases hx
         | some z=>
          rw[q2,ag] at hx
          cases hz:z.2 with
          | false=>rw[hz,cond_false] at hx; cases hx; rfl
          | true=>
           rw[hz,cond_true,ag] at hx
           cases q3:idx (xs.getD k default).Slopes (j:Int) with
           | none=>rw[q3] at hx; cases hx
           | some w=>rw[q3] at hx; cases hx) _ _ _ _ hF
       rw[thenL_inl,this] at e1; cases e1
      | inr out=>
       cases R2 with
       | inl r2=>
        have:=forN_inl (r0:=((Lt.mk ([]) ([]) (0:Int)),false)) (fun j s x hx=>by
         cases q1:idx t.Args (j:Int) with
         | none=>rw[q1] at hx; cases hx
         | some a=>
          rw[q1,ag] at hx
          cases q2:impl_boundOfN n xs a with
          | none=>rw[q2] at hx; cases hx
          | some z=>
           rw[q2,ag] at hx
           cases hz:z.2 with
           | false=>rw[hz,cond_false] at hx; cases hx; rfl
           | true=>
            rw[hz,cond_true,ag] at hx
            cases q3:idx (xs.getD k default).Slopes (j:Int) with
            | none=>rw[q3] at hx; cases hx
            | some w=>
             rw[q3,ag] at hx
             cases q4:impl_Linear__add z.1 s.2 w with
             | none=>rw[q4] at hx; cases hx
             | some u=>rw[q4] at hx; cases hx) _ _ _ _ hG
        rw[thenL_inl,this] at e2; cases e2
       | inr y=>
        obtain⟨o1,o2,hB⟩:=L out y (by omega) b0 hcm.1 (by omega) (by rw[ev0]; exact Int.le_refl _) hF hG
        have hkc:k<caps.length:=by omega
        have hcb:=hcap _ (getD_mem (l:=caps) (i:=k) hkc)
        rw[thenL_inr,idx_getD hkc,ag] at e1
        rw[thenL_inr,(hB.fin hg'.1.2).1,ag] at e2
        cases hv:validL (LM y.2 y.1) with
        | false=>rw[hv] at e2; cases e2
        | true=>
         rw[hv,cond_true] at e2
         cases e1
         cases e2
         refine⟨⟨by omega,by omega⟩,hv,?_⟩
         have e3:evL l (LM y.2 y.1)=evM l y.2 y.1:=by
          unfold evL evM
          rw[show(fun z=>slopeZ (LM y.2 y.1).Vars (LM y.2 y.1).Slopes z*slopeZ l.Vars l.Slopes z)=(fun z=>GMap.get y.2 z 0*slopeZ l.Vars l.Slopes z) from funext fun z=>by rw[LM_slope hB.ok]]
          rfl
         rw[e3]; omega
end
section
/-- A cursor that has been moved at most n times, over bytes. -/
def CurOk(c:la)(n:Nat):Prop:=0≤c.at_f∧c.at_f≤(n:Int)∧∀ x∈c.code,0≤x∧x≤255
theorem CurOk.mono{c:la}{n m:Nat}(h:CurOk c n)(hm:n≤m):CurOk c m:=⟨h.1,by have:=h.2.1; omega,h.2.2⟩
theorem wrap_i64{x:Int}(h0:0≤x)(h1:x≤4611686018427387904):IntKind.i64.wrap x=x:=wrap64 (by omega) (by omega)
theorem bitand255(v:Int):0≤IntKind.i64.wrap (bitand .u64 v (255:Int))∧IntKind.i64.wrap (bitand .u64 v (255:Int))≤255:=by
 have h:∃ k:Nat,k≤255∧bitand .u64 v (255:Int)=(k:Int):=by
  refine⟨(BitVec.ofInt 64 v&&& BitVec.ofInt 64 255).toNat,?_,?_⟩
  ·rw[BitVec.toNat_and]
   exact Nat.le_trans Nat.and_le_right (by decide)
  ·have hk:(BitVec.ofInt 64 v&&& BitVec.ofInt 64 255).toNat≤255:=by
    rw[BitVec.toNat_and]; exact Nat.le_trans Nat.and_le_right (by decide)
   unfold bitand
   exact u64_nat (n:=(BitVec.ofInt 64 v&&& BitVec.ofInt 64 255).toNat) (by omega)
 obtain⟨k,hk,e⟩:=h
 rw[e,wrap_i64 (by omega) (by omega)]
 omega
theorem next_ok{c:la}{n:Nat}(h:CurOk c n)(hn:n≤1000000000):∃ v c',spec_l1Cur__next c=some (v,c')∧0≤v∧v≤255∧CurOk c' (n+1):=by
 obtain⟨h0,h1,h2⟩:=h
 have ha:IntKind.i64.wrap (c.at_f+1)=c.at_f+1:=wrap_i64 (by omega) (by omega)
 unfold spec_l1Cur__next
 have hs:∀ x:Int,shr .u64 x 40=some (x.fdiv (2 ^ (min (40:Int).toNat IntKind.u64.bits))):=fun x=>by simp[shr]
 by_cases e:c.at_f<(c.code.length:Int)
 ·rw[decide_eq_true e,cond_true]
  obtain⟨b,hb⟩:∃ b,c.code[c.at_f.toNat]?=some b:=⟨_,List.getElem?_eq_getElem (by omega)⟩
  have hbr:=h2 b (List.mem_of_getElem? hb)
  have hi:idx c.code c.at_f=some b:=by simp[idx,h0,hb]
  rw[hi,ag,ha,wrap_i64 hbr.1 (by omega)]
  cases decide (c.at_f+1≤(c.code.length:Int)) with
  | true=>exact⟨_,_,rfl,hbr.1,hbr.2,by simp only; omega,by simp only; omega,h2⟩
  | false=>
   rw[cond_false,hs,ag]
   exact⟨_,_,rfl,(bitand255 _).1,(bitand255 _).2,by simp only; omega,by simp only; omega,h2⟩
 ·rw[decide_eq_false e,cond_false,ha]
  cases decide (c.at_f+1≤(c.code.length:Int)) with
  | true=>exact⟨_,_,rfl,by omega,by omega,by simp only; omega,by simp only; omega,h2⟩
  | false=>
   rw[cond_false,hs,ag]
   exact⟨_,_,rfl,(bitand255 _).1,(bitand255 _).2,by simp only; omega,by simp only; omega,h2⟩
theorem rem_lt{x m:Int}(h0:0≤x)(hm:0<m):∃ v,rem x m=some v∧0≤v∧v<m:=
 ⟨x.tmod m,by simp[rem,show m≠0 by omega],Int.tmod_nonneg _ h0,Int.tmod_lt_of_pos _ hm⟩
theorem pick_ok{c:la}{n:Nat}(m:Int)(h:CurOk c n)(hn:n+2≤1000000000):∃ v c',spec_l1Cur__pick c m=some (v,c')∧0≤v∧(1≤m→v<m)∧CurOk c' (n+2):=by
 unfold spec_l1Cur__pick
 by_cases e:m≤1
 ·rw[decide_eq_true e,cond_true]
  exact⟨_,_,rfl,by omega,fun _=>by omega,h.mono (by omega)⟩
 ·rw[decide_eq_false e,cond_false]
  obtain⟨v,c',e1,hv0,hv1,hc⟩:=next_ok h (by omega)
  rw[e1,ag]
  by_cases e2:200<m
  ·rw[decide_eq_true e2,cond_true]
   obtain⟨u,c'',e3,hu0,hu1,hc'⟩:=next_ok hc (by omega)
   simp only[e3,ag]
   rw[wrap_i64 (x:=v*256) (by omega) (by omega),wrap_i64 (by omega) (by omega)]
   obtain⟨q,e4,hq0,hq1⟩:=rem_lt (x:=v*256+u) (m:=m) (by omega) (by omega)
   rw[e4]
   exact⟨_,_,rfl,hq0,fun _=>hq1,hc'⟩
  ·rw[decide_eq_false e2,cond_false]
   obtain⟨q,e4,hq0,hq1⟩:=rem_lt (x:=v) (m:=m) hv0 (by omega)
   simp only[e4]
   exact⟨_,_,rfl,hq0,fun _=>hq1,hc.mono (by omega)⟩
theorem among_ok{c:la}{n:Nat}(l:List Int)(hl:l≠[])(h:CurOk c n)(hn:n+2≤1000000000):∃ v c',spec_l1Cur__among c l=some (v,c')∧v∈l∧CurOk c' (n+2):=by
 unfold spec_l1Cur__among
 have hp:0<l.length:=List.length_pos_iff.2 hl
 obtain⟨k,c',e,h0,h1,hc⟩:=pick_ok (l.length:Int) h hn
 have hk:=h1 (by omega)
 obtain⟨b,hb⟩:∃ b,l[k.toNat]?=some b:=⟨_,List.getElem?_eq_getElem (by omega)⟩
 have hi:idx l k=some b:=by simp[idx,h0,hb]
 simp only[e,ag,hi]
 exact⟨_,_,rfl,List.mem_of_getElem? hb,hc⟩
theorem of_ok{c:la}{n:Nat}(l:List ByteArray)(hl:l≠[])(h:CurOk c n)(hn:n+2≤1000000000):∃ v c',spec_l1Cur__of c l=some (v,c')∧v∈l∧CurOk c' (n+2):=by
 unfold spec_l1Cur__of
 have hp:0<l.length:=List.length_pos_iff.2 hl
 obtain⟨k,c',e,h0,h1,hc⟩:=pick_ok (l.length:Int) h hn
 have hk:=h1 (by omega)
 obtain⟨b,hb⟩:∃ b,l[k.toNat]?=some b:=⟨_,List.getElem?_eq_getElem (by omega)⟩
 have hi:idx l k=some b:=by simp[idx,h0,hb]
 simp only[e,ag,hi]
 exact⟨_,_,rfl,List.mem_of_getElem? hb,hc⟩
theorem one_ok{c:la}{n:Nat}(m:Int)(h:CurOk c n)(hn:n+2≤1000000000):∃ b c',spec_l1Cur__one c m=some (b,c')∧CurOk c' (n+2):=by
 unfold spec_l1Cur__one
 obtain⟨k,c',e,_,_,hc⟩:=pick_ok m h hn
 simp only[e,ag]
 exact⟨_,_,rfl,hc⟩
/-- A loop that always goes on, with what holds at each turn. -/
theorem forN_inv{ρ σ:Type}{f:Nat→σ→Option (Flow ρ σ)}(I:Nat→σ→Prop):∀ (n i:Nat) (s:σ),I i s→(∀ j s,i≤j→j<i+n→I j s→∃ s',f j s=some (.nx s')∧I (j+1) s')→∃ s',forN f n i s=some (.inr s')∧I (i+n) s'
 | 0,i,s,h,_=>⟨s,rfl,h⟩
 | n+1,i,s,h,hf=>by
  obtain⟨s',e,h'⟩:=hf i s (by omega) (by omega) h
  rw[forN_nx e]
  obtain⟨s'',e2,h2⟩:=forN_inv I n (i+1) s' h' (fun j s hj hj'=>hf j s (by omega) (by omega))
  exact⟨s'',e2,by rw[show i+(n+1)=i+1+n by omega]; exact h2⟩
theorem app1{α:Type}{xs:List α}(x:α)(h:xs.length≤1000):app xs [x]=some (xs++[x]):=by
 unfold app; rw[if_pos (by simp; omega)]
structure DrawnL(l:Lt):Prop where
 vl:l.Vars.length≤4
 sl:l.Slopes.length≤4
 vs:∀ v∈l.Vars,v.size≤2
 ss:∀ x∈l.Slopes,0≤x∧x≤1000
 c0:-1≤l.Constant
 c1:l.Constant≤100001
theorem linear_ok{c:la}{n:Nat}(h:CurOk c n)(hn:n+30≤1000000000):∃ l c',spec_l1Cur__linear c=some (l,c')∧DrawnL l∧CurOk c' (n+30):=by
 unfold spec_l1Cur__linear
 obtain⟨k,c1,e1,hk,hc1⟩:=among_ok [(0:Int),1,7,90000] (by simp) h (by omega)
 simp only[e1,ag]
 have hk0:0≤k∧k≤90000:=by simp at hk; omega
 obtain⟨s,e2,hs⟩:=forN_inv (ρ:=Lt×la) (σ:=la×(List ByteArray)×(List Int)) (f:=fun (i4:Nat) (s4:la×(List ByteArray)×(List Int))=>
  ae (spec_l1Cur__one s4.1 (2:Int)) fun v16=>
  bif v16.1 then
   ae (idx ([(⟨#[88]⟩:ByteArray),(⟨#[89]⟩:ByteArray),(⟨#[90]⟩:ByteArray)]) (i4:Int)) fun v21=>
   ae (idx ([(⟨#[88]⟩:ByteArray),(⟨#[89]⟩:ByteArray),(⟨#[90]⟩:ByteArray)]) (i4:Int)) fun v22=>
   ae (app s4.2.1 ([v22])) fun v24=>
   ae (spec_l1Cur__among v16.2 ([(1:Int),(2:Int),(3:Int),(30:Int),(1000:Int)])) fun v30=>
   ae (app s4.2.2 ([v30.1])) fun v32=>
   some (.nx (v30.2,v24,v32))
  else
   some (.nx (v16.2,s4.2.1,s4.2.2)))
  (fun i s=>CurOk s.1 (n+2+4*i)∧s.2.1.length≤i∧s.2.2.length≤i∧(∀ v∈s.2.1,v.size≤2)∧(∀ x∈s.2.2,0≤x∧x≤1000)) 3 0 (c1,[],[]) ⟨hc1,by simp,by simp,by simp,by simp⟩ (by
  rintro j ⟨d,vs,ss⟩ _ hj ⟨i1,i2,i3,i4,i5⟩
  simp only at i1 i2 i3 i4 i5 ⊢
  obtain⟨b,d',f1,hd⟩:=one_ok 2 i1 (by omega)
  simp only[f1,ag]
  cases b with
  | false=>exact⟨_,rfl,hd.mono (by omega),by simp only; omega,by simp only; omega,i4,i5⟩
  | true=>
   obtain⟨x,hx,hxs⟩:∃ x:ByteArray,idx [(⟨#[88]⟩:ByteArray),⟨#[89]⟩,⟨#[90]⟩] (j:Int)=some x∧x.size≤2:=by
    have:j=0∨j=1∨j=2:=by omega
    rcases this with rfl | rfl | rfl<;>exact⟨_,rfl,by decide⟩
   obtain⟨q,d'',f2,hq,hd'⟩:=among_ok [(1:Int),2,3,30,1000] (by simp) hd (by omega)
   simp only[cond_true,hx,ag,app1 x (show vs.length≤1000 by omega),f2,app1 q (show ss.length≤1000 by omega)]
   refine⟨_,rfl,hd'.mono (by omega),by simp; omega,by simp; omega,?_,?_⟩
   ·intro v hv
    rcases List.mem_append.1 hv with hv | hv
    ·exact i4 v hv
    ·rw[List.mem_singleton.1 hv]; exact hxs
   ·intro v hv
    rcases List.mem_append.1 hv with hv | hv
    ·exact i5 v hv
    ·rw[List.mem_singleton.1 hv]; simp at hq; omega)
 rw[e2,thenL_inr]
 obtain⟨d,vs,ss⟩:=s
 obtain⟨i1,i2,i3,i4,i5⟩:=hs
 simp only at i1 i2 i3 i4 i5 ⊢
 obtain⟨p,d',f1,hp0,hp1,hd⟩:=pick_ok 30 i1 (by omega)
 simp only[f1,ag]
 by_cases h0:p=0
 ·obtain⟨w,d'',f2,hw,hd'⟩:=of_ok [(⟨#[65]⟩:ByteArray),⟨#[97]⟩,⟨#[90,49]⟩] (by simp) hd (by omega)
  have hws:w.size≤2:=by
   rcases List.mem_cons.1 hw with rfl | hw
   ·decide
   rcases List.mem_cons.1 hw with rfl | hw
   ·decide
   ·rw[List.mem_singleton.1 hw]; decide
  simp only[decide_eq_true h0,cond_true,f2,ag,app1 w (show vs.length≤1000 by omega),app1 (1:Int) (show ss.length≤1000 by omega)]
  refine⟨_,_,rfl,⟨by simp; omega,by simp; omega,?_,?_,by simp only; omega,by simp only; omega⟩,hd'.mono (by omega)⟩
  ·intro v hv
   rcases List.mem_append.1 hv with hv | hv
   ·exact i4 v hv
   ·rw[List.mem_singleton.1 hv]; exact hws
  ·intro v hv
   rcases List.mem_append.1 hv with hv | hv
   ·exact i5 v hv
   ·rw[List.mem_singleton.1 hv]; omega
 rw[decide_eq_false h0,cond_false]
 by_cases h1:p=1
 ·obtain⟨w,d'',f2,hw,hd'⟩:=among_ok [(-1:Int),100001] (by simp) hd (by omega)
  have hwb:-1≤w∧w≤100001:=by simp at hw; omega
  simp only[decide_eq_true h1,cond_true,f2,ag]
  exact⟨_,_,rfl,⟨by simp only; omega,by simp only; omega,i4,i5,hwb.1,hwb.2⟩,hd'.mono (by omega)⟩
 rw[decide_eq_false h1,cond_false]
 by_cases h2:p=2
 ·simp only[decide_eq_true h2,cond_true,app1 (0:Int) (show ss.length≤1000 by omega),ag]
  refine⟨_,_,rfl,⟨by simp only; omega,by simp; omega,i4,?_,by simp only; omega,by simp only; omega⟩,hd.mono (by omega)⟩
  intro v hv
  rcases List.mem_append.1 hv with hv | hv
  ·exact i5 v hv
  ·rw[List.mem_singleton.1 hv]; omega
 ·rw[decide_eq_false h2,cond_false]
  exact⟨_,_,rfl,⟨by simp only; omega,by simp only; omega,i4,i5,by simp only; omega,by simp only; omega⟩,hd.mono (by omega)⟩
end
section
/-! The drawn terms. -/
def SmT(k:Nat)(t:Tt):Prop:=t.Ok∧t.tot≤k
theorem smT_mk{x:ByteArray}{l:List Tt}{k m:Nat}(h:x.size≤8)(hl:∀ a∈l,SmT k a)(hn:l.length≤8)(hm:8+8*(k+1)≤m):SmT m (Tt.mk x l):=by
 refine⟨.mk x l (by simp only[Big]; omega) (by simp only[Big]; omega) (fun a ha=>(hl a ha).1),?_⟩
 have:∀ l:List Tt,(∀ a∈l,SmT k a)→ltot Tt.tot l≤l.length*(k+1):=by
  intro l
  induction l with
  | nil=>intro _; simp[ltot]
  | cons a l ih=>
   intro h
   have h1:=ih (fun x hx=>h x (by simp[hx]))
   have h2:=(h a (by simp)).2
   simp only[ltot,aE,bA,aR] at h1 ⊢
   rw[Nat.succ_mul]
   omega
 have h3:=this l hl
 have h4:l.length*(k+1)≤8*(k+1):=Nat.mul_le_mul_right _ hn
 rw[Tt.tot_mk]
 omega
theorem SmT.mono{k m:Nat}{t:Tt}(h:SmT k t)(hm:k≤m):SmT m t:=⟨h.1,Nat.le_trans h.2 hm⟩
def ksz:Nat→Nat
 | 0=>16
 | d+1=>8+8*(ksz d+1)
theorem ksz_16:∀ d,16≤ksz d
 | 0=>aY _
 | d+1=>by have:=ksz_16 d; simp only[ksz]; omega
def bud:Nat→Nat
 | 0=>10
 | d+1=>2*bud d+10
theorem bud_ge:∀ d,d+10≤bud d
 | 0=>aY _
 | d+1=>by have:=bud_ge d; simp only[bud]; omega
theorem grownN_ok:∀ (d:Nat) (c:la) (m:Nat),CurOk c m→m+bud d≤1000000000→∃ t c',(∀ n,d+1≤n→spec_l1Cur__grownN n c (d:Int)=some (t,c'))∧SmT (ksz d) t∧CurOk c' (m+bud d):=by
 intro d
 induction d with
 | zero=>
  intro c m hc hm
  have hp0:bud 0=10:=rfl
  obtain⟨v,c',e1,e2,e3⟩:=of_ok [(⟨#[88]⟩:ByteArray),(⟨#[89]⟩:ByteArray),(⟨#[90]⟩:ByteArray),(⟨#[97]⟩:ByteArray),(⟨#[98]⟩:ByteArray),(⟨#[88]⟩:ByteArray),(⟨#[97]⟩:ByteArray)] (by simp) hc (by omega)
  have hv:v.size≤8:=by
   simp only[bd,List.not_mem_nil,or_false] at e2
   rcases e2 with rfl | rfl | rfl | rfl | rfl | rfl | rfl<;>decide
  refine⟨Tt.mk v [],c',fun n hn=>?_,smT_mk (k:=0) hv (by simp) (by simp) (by simp[ksz]),e3.mono (by omega)⟩
  cases n with
  | zero=>omega
  | succ n=>rw[spec_l1Cur__grownN,decide_eq_true (by omega),cond_true,e1]; rfl
 | succ d ih=>
  intro c m hc hm
  have hp:bud (d+1)=2*bud d+10:=rfl
  have hp1:=bud_ge d
  have hk:=ksz_16 d
  have leaf:∀ (c:la) (m':Nat),CurOk c m'→m'+2≤m+bud (d+1)→∃ v c',spec_l1Cur__of c [(⟨#[88]⟩:ByteArray),(⟨#[89]⟩:ByteArray),(⟨#[90]⟩:ByteArray),(⟨#[97]⟩:ByteArray),(⟨#[98]⟩:ByteArray),(⟨#[88]⟩:ByteArray),(⟨#[97]⟩:ByteArray)]=some (v,c')∧SmT (ksz (d+1)) (Tt.mk v [])∧CurOk c' (m+bud (d+1)):=by
   intro c m' hc hm'
   obtain⟨v,c',e1,e2,e3⟩:=of_ok [(⟨#[88]⟩:ByteArray),(⟨#[89]⟩:ByteArray),(⟨#[90]⟩:ByteArray),(⟨#[97]⟩:ByteArray),(⟨#[98]⟩:ByteArray),(⟨#[88]⟩:ByteArray),(⟨#[97]⟩:ByteArray)] (by simp) hc (by omega)
   have hv:v.size≤8:=by
    simp only[bd,List.not_mem_nil,or_false] at e2
    rcases e2 with rfl | rfl | rfl | rfl | rfl | rfl | rfl<;>decide
   exact⟨v,c',e1,smT_mk (k:=0) hv (by simp) (by simp) (by simp only[ksz]; omega),e3.mono (by omega)⟩
  by_cases hd:((d+1:Nat):Int)≤1
  ·obtain⟨v,c',e1,e2,e3⟩:=leaf c m hc (by omega)
   refine⟨_,c',fun n hn=>?_,e2,e3⟩
   cases n with
   | zero=>omega
   | succ n=>rw[spec_l1Cur__grownN,decide_eq_true hd,cond_true,e1]; rfl
  ·have hw:IntKind.i64.wrap (((d+1:Nat):Int)-(1:Int))=(d:Int):=by
    rw[wrap64 (by omega) (by omega)]; omega
   obtain⟨b,c1,q1,q2⟩:=one_ok (3:Int) hc (by omega)
   cases b
   ·obtain⟨b2,c2,r1,r2⟩:=one_ok (2:Int) q2 (by omega)
    obtain⟨t1,c3,s1,s2,s3⟩:=ih c2 (m+2+2) r2 (by omega)
    cases b2
    ·obtain⟨t2,c4,u1,u2,u3⟩:=ih c3 _ s3 (by omega)
     refine⟨Tt.mk (⟨#[103]⟩:ByteArray) [t1,t2],c4,fun n hn=>?_,smT_mk (k:=ksz d) (by decide) (by intro a ha; simp at ha; rcases ha with rfl | rfl<;>assumption) (by simp) (by simp only[ksz]; omega),u3.mono (by omega)⟩
     cases n with
     | zero=>omega
     | succ n=>
      rw[spec_l1Cur__grownN,decide_eq_false hd,cond_false,q1,ag,cond_false,r1,ag,cond_false,hw,s1 n (by omega),ag,u1 n (by omega)]; rfl
    ·refine⟨Tt.mk (⟨#[102]⟩:ByteArray) [t1],c3,fun n hn=>?_,smT_mk (k:=ksz d) (by decide) (by intro a ha; simp at ha; rcases ha with rfl; assumption) (by simp) (by simp only[ksz]; omega),s3.mono (by omega)⟩
     cases n with
     | zero=>omega
     | succ n=>
      rw[spec_l1Cur__grownN,decide_eq_false hd,cond_false,q1,ag,cond_false,r1,ag,cond_true,hw,s1 n (by omega)]; rfl
   ·obtain⟨v,c',e1,e2,e3⟩:=leaf c1 _ q2 (by omega)
    refine⟨_,c',fun n hn=>?_,e2,e3⟩
    cases n with
    | zero=>omega
    | succ n=>rw[spec_l1Cur__grownN,decide_eq_false hd,cond_false,q1,ag,cond_true,e1]; rfl
theorem ksz_mono{a b:Nat}(h:a≤b):ksz a≤ksz b:=by
 induction h with
 | refl=>exact aY _
 | step _ ih=>simp only[ksz]; omega
theorem bud_mono{a b:Nat}(h:a≤b):bud a≤bud b:=by
 induction h with
 | refl=>exact aY _
 | step _ ih=>simp only[bud]; omega
theorem term_ok{c:la}{m:Nat}(h:CurOk c m)(hm:m+200≤1000000000):∃ t c',spec_l1Cur__term c=some (t,c')∧SmT 9360 t∧CurOk c' (m+200):=by
 obtain⟨v,c1,e1,e2,e3,e4⟩:=pick_ok (3:Int) h (by omega)
 have e3:=e3 (by omega)
 obtain⟨d,rfl⟩:∃ d:Nat,v=d:=⟨v.toNat,by omega⟩
 have hb:bud (1+d)≤bud 3:=bud_mono (by omega)
 have hk:ksz (1+d)≤ksz 3:=ksz_mono (by omega)
 have hb3:bud 3=150:=rfl
 have hk3:ksz 3=9360:=rfl
 obtain⟨t,c2,f1,f2,f3⟩:=grownN_ok (1+d) c1 _ e4 (by omega)
 have hw:IntKind.i64.wrap ((1:Int)+(d:Int))=((1+d:Nat):Int):=by rw[wrap64 (by omega) (by omega)]; omega
 have hg:spec_l1Cur__grown c1 ((1+d:Nat):Int)=some (t,c2):=lim_eq ⟨_,f1⟩
 exact⟨t,c2,by unfold spec_l1Cur__term; rw[e1,ag,hw,hg]; rfl,f2.mono (by omega),f3.mono (by omega)⟩
theorem tower_loop:∀ (d:Nat) (x:ByteArray) (l:List Tt) (k:Nat),d≤100→x.size≤8→(∀ a∈l,SmT k a)→l.length≤1→∃ y l',Ev (fun n2=>whileN (ρ:=Tt×la) (fun (s2:Int×ByteArray×(List Tt))=>
 bif decide ((1:Int)<s2.1) then
  some (.nx (IntKind.i64.wrap (s2.1-(1:Int)),(⟨#[102]⟩:ByteArray),[(Tt.mk s2.2.1 s2.2.2)]))
 else
  some (.br s2)) n2 ((d:Int),x,l)) (.inr (((if d=0 then 0 else 1:Nat):Int),y,l'))∧y.size≤8∧l'.length≤1∧∀ a∈l',SmT (k+9*d) a:=by
 intro d
 induction d with
 | zero=>intro x l k _ hx hl hn; exact⟨x,l,ev_br rfl,hx,hn,fun a ha=>(hl a ha).mono (by omega)⟩
 | succ d ih=>
  intro x l k hd hx hl hn
  by_cases h1:d=0
  ·subst h1; exact⟨x,l,ev_br rfl,hx,hn,fun a ha=>(hl a ha).mono (by omega)⟩
  ·have hs:SmT (k+9) (Tt.mk x l):=by
    refine⟨.mk x l (by simp only[Big]; omega) (by simp only[Big]; omega) (fun a ha=>(hl a ha).1),?_⟩
    rw[Tt.tot_mk]
    cases l with
    | nil=>simp only[ltot,List.map_nil,List.sum_nil,bB]; omega
    | cons a l=>
     cases l with
     | nil=>
      have:=(hl a (by simp)).2
      simp only[ltot,aE,List.map_nil,bA,List.sum_nil,aR,bB]; omega
     | cons b l=>simp at hn
   obtain⟨y,l',e1,e2,e3,e4⟩:=ih (⟨#[102]⟩:ByteArray) [Tt.mk x l] (k+9) (by omega) (by decide) (by intro a ha; simp at ha; rw[ha]; exact hs) (by simp)
   rw[if_neg h1] at e1
   refine⟨y,l',?_,e2,e3,fun a ha=>(e4 a ha).mono (by omega)⟩
   rw[if_neg (by omega)]
   refine ev_nx ?_ e1
   show(bif decide ((1:Int)<((d+1:Nat):Int)) then _ else _)=_
   rw[decide_eq_true (by omega),cond_true,show IntKind.i64.wrap (((d+1:Nat):Int)-(1:Int))=(d:Int) by rw[wrap64 (by omega) (by omega)]; omega]
theorem tower_ok{c:la}{m d:Nat}(h:CurOk c m)(hm:m+2≤1000000000)(hd:d≤100):∃ t c',spec_l1Cur__tower c (d:Int)=some (t,c')∧SmT 9360 t∧CurOk c' (m+2):=by
 obtain⟨v,c',e1,e2,e3⟩:=of_ok [(⟨#[88]⟩:ByteArray),(⟨#[97]⟩:ByteArray)] (by simp) h (by omega)
 have hv:v.size≤8:=by
  simp only[bd,List.not_mem_nil,or_false] at e2
  rcases e2 with rfl | rfl<;>decide
 obtain⟨y,l',f1,f2,f3,f4⟩:=tower_loop d v [] 0 hd hv (by simp) (by simp)
 refine⟨Tt.mk y l',c',?_,smT_mk (k:=900) f2 (fun a ha=>(f4 a ha).mono (by omega)) (by omega) (by omega),e3⟩
 unfold spec_l1Cur__tower
 rw[e1,ag]
 refine(congrArg (fun z=>thenL z _) (lim_eq f1)).trans ?_
 rw[thenL_inr]
def leafH:Tt:=Tt.mk (⟨#[104]⟩:ByteArray) (List.replicate 4 (Tt.mk (⟨#[102]⟩:ByteArray) ([(Tt.mk (⟨#[97]⟩:ByteArray) ([]))])))
theorem leafH_ok:SmT 1000 leafH:=by
 refine smT_mk (k:=100) (by decide) (fun a ha=>?_) (by simp) (by omega)
 rw[List.eq_of_mem_replicate ha]
 exact smT_mk (k:=8) (by decide) (fun b hb=>by
  simp at hb; subst hb
  exact⟨.mk _ _ (by simp only[Big]; decide) (by simp[Big]) (by simp),by rw[Tt.tot_mk]; decide⟩) (by simp) (by omega)
theorem wide_loop:forN (ρ:=Tt×la) (fun (i3:Nat) (s3:(List Tt))=>
 thenL (ρ:=(Flow (Tt×la) (List Tt))) (σ:=(List Tt)) (forN (fun (i7:Nat) (s7:(List Tt))=>
  ae (app s7 ([(Tt.mk (⟨#[102]⟩:ByteArray) ([(Tt.mk (⟨#[97]⟩:ByteArray) ([]))]))])) fun v23=>
  some (.nx v23)) 4 0 ([])) fun s7=>
 ae (app s3 ([(Tt.mk (⟨#[104]⟩:ByteArray) s7)])) fun v29=>
 some (.nx v29)) 4 0 ([])=some (.inr (List.replicate 4 leafH)):=by
 simp[forN,app,thenL,leafH,List.replicate]
end
section
/-! The drawn arguments of FnMajorants. -/
theorem thenL_eq{ρ σ:Type}{m:Option (ρ ⊕ σ)}{s:σ}{k:σ→Option ρ}(h:m=some (.inr s)):thenL m k=k s:=by rw[h]; rfl
theorem smT_re{k:Nat}{x:ByteArray}{t:Tt}(h:SmT k t)(hx:x.size≤8)(hk:k≤1000000):SmT (k+8) (Tt.mk x t.Args):=by
 obtain⟨h1,h2⟩:=h
 have h3:=h1.u
 have h4:=Tt.tot_u t
 refine⟨.mk _ _ (by simp only[Big]; omega) h3.2.1 h3.2.2,?_⟩
 rw[Tt.tot_mk]; omega
theorem smT_arg{k:Nat}{t:Tt}(h:SmT k t):∀ a∈t.Args,SmT k a:=by
 intro a ha
 obtain⟨h1,h2⟩:=h
 have h3:=h1.u
 refine⟨h3.2.2 a ha,?_⟩
 have h4:=Tt.tot_u t
 have:a.tot≤(t.Args.map Tt.tot).sum:=le_sum_mem Tt.tot ha
 unfold ltot at h4; omega
theorem wide_ok{c:la}{m:Nat}(h:CurOk c m)(hm:m+4≤1000000000):∃ t c',spec_l1Cur__wide c=some (t,c')∧SmT 10000 t∧CurOk c' (m+4):=by
 unfold spec_l1Cur__wide
 refine(fun {P:Option (Tt×la)→Prop} (H:P _)=>(congrArg (fun z=>P (thenL z _)) wide_loop).mpr H) (P:=fun z=>∃ t c',z=some (t,c')∧SmT 10000 t∧CurOk c' (m+4)) ?_
 rw[thenL_inr]
 obtain⟨b,c1,e1,h1⟩:=one_ok 2 h (by omega)
 obtain⟨b2,c2,e2,h2⟩:=one_ok 2 h1 (by omega)
 have hr:∀ n,n≤4→SmT 10000 (Tt.mk (⟨#[103]⟩:ByteArray) (List.replicate n leafH)):=fun n hn=>
  smT_mk (k:=1000) (by decide) (fun a ha=>by rw[List.eq_of_mem_replicate ha]; exact leafH_ok) (by simp; omega) (by omega)
 have hb:SmT 10000 (Tt.mk (⟨#[103]⟩:ByteArray) (List.replicate 3 leafH++[Tt.mk (⟨#[102]⟩:ByteArray) [Tt.mk (⟨#[98]⟩:ByteArray) []]])):=by
  refine smT_mk (k:=1000) (by decide) (fun a ha=>?_) (by simp) (by omega)
  rcases List.mem_append.1 ha with ha | ha
  ·rw[List.eq_of_mem_replicate ha]; exact leafH_ok
  ·rw[List.mem_singleton.1 ha]
   exact smT_mk (k:=8) (by decide) (fun b hb=>by
    simp at hb; subst hb
    exact⟨.mk _ _ (by simp only[Big]; decide) (by simp[Big]) (by simp),by rw[Tt.tot_mk]; decide⟩) (by simp) (by omega)
 rw[e1,ag]
 cases b
 ·rw[cond_false,e2,ag]
  cases b2
  ·exact⟨_,_,rfl,hr 4 (by omega),h2.mono (by omega)⟩
  ·exact⟨_,_,rfl,hr 4 (by omega),h2.mono (by omega)⟩
 ·rw[cond_true,show slc (List.replicate 4 leafH) 0 3=some (List.replicate 3 leafH) from rfl,ag,e2,ag]
  cases b2
  ·exact⟨_,_,rfl,hr 3 (by omega),h2.mono (by omega)⟩
  ·exact⟨_,_,rfl,hb,h2.mono (by omega)⟩
theorem anyTerm_ok{c:la}{m:Nat}(h:CurOk c m)(hm:m+1000≤1000000000):∃ t c',spec_l1Cur__anyTerm c=some (t,c')∧SmT 50000 t∧CurOk c' (m+1000):=by
 unfold spec_l1Cur__anyTerm
 obtain⟨t,c1,e1,ht,h1⟩:=term_ok h (by omega)
 obtain⟨v,c2,e2,_,_,h2⟩:=pick_ok 24 h1 (by omega)
 rw[e1,ag,e2,ag]
 by_cases q:v=0
 ·obtain⟨w,c3,e3,hw,h3⟩:=of_ok [(⟨#[]⟩:ByteArray),(⟨#[116,114,117,101]⟩:ByteArray),(⟨#[116,114,117,116,104]⟩:ByteArray),(⟨#[105,102]⟩:ByteArray),(⟨#[88,121,122,57]⟩:ByteArray),(⟨#[88,121,122,57,57]⟩:ByteArray),(⟨#[120,65]⟩:ByteArray),(⟨#[97,95,98]⟩:ByteArray),(⟨#[97,98,99,100,101,102]⟩:ByteArray),(⟨#[97,98,99,100,101,102,103]⟩:ByteArray),(⟨#[95,97]⟩:ByteArray),(⟨#[57]⟩:ByteArray),(⟨#[88,95]⟩:ByteArray),(⟨#[61]⟩:ByteArray)] (by simp) h2 (by omega)
  have hws:w.size≤8:=by
   simp only[bd,List.not_mem_nil,or_false] at hw
   rcases hw with rfl | rfl | rfl | rfl | rfl | rfl | rfl | rfl | rfl | rfl | rfl | rfl | rfl | rfl<;>decide
  rw[decide_eq_true q,cond_true,e3,ag]
  exact⟨_,_,rfl,(smT_re ht hws (by omega)).mono (by omega),h3.mono (by omega)⟩
 rw[decide_eq_false q,cond_false]
 by_cases q:v=1
 ·obtain⟨w,c3,e3,hw0,hw1,h3⟩:=pick_ok 3 h2 (by omega)
  have hw1:=hw1 (by omega)
  obtain⟨d,rfl⟩:∃ d:Nat,w=d:=⟨w.toNat,by omega⟩
  have hw:IntKind.i64.wrap ((7:Int)+(d:Int))=((7+d:Nat):Int):=by rw[wrap64 (by omega) (by omega)]; omega
  obtain⟨y,c4,e4,hy,h4⟩:=tower_ok (d:=7+d) h3 (by omega) (by omega)
  rw[decide_eq_true q,cond_true,e3,ag,hw,e4,ag]
  exact⟨_,_,rfl,hy.mono (by omega),h4.mono (by omega)⟩
 rw[decide_eq_false q,cond_false]
 by_cases q:v=2
 ·obtain⟨y,c4,e4,hy,h4⟩:=wide_ok h2 (by omega)
  rw[decide_eq_true q,cond_true,e4,ag]
  exact⟨_,_,rfl,hy.mono (by omega),h4.mono (by omega)⟩
 rw[decide_eq_false q,cond_false]
 by_cases q:v=3
 ·obtain⟨a,c3,e3,ha,h3⟩:=term_ok h2 (by omega)
  obtain⟨b,c4,e4,hb,h4⟩:=term_ok h3 (by omega)
  obtain⟨d,c5,e5,hd,h5⟩:=term_ok h4 (by omega)
  have h6:=ht.1.u
  have h7:=Tt.tot_u t
  have h8:=ht.2
  have hl:t.Args.length≤ltot Tt.tot t.Args:=by unfold ltot; omega
  rw[decide_eq_true q,cond_true,e3,ag,e4,ag,e5,ag,show app t.Args [a,b,d]=some (t.Args++[a,b,d]) by unfold app; rw[if_pos (by simp; omega)],ag]
  refine⟨_,_,rfl,⟨.mk _ _ h6.1 (by simp[Big]; omega) (fun x hx=>?_),?_⟩,h5.mono (by omega)⟩
  ·rcases List.mem_append.1 hx with hx | hx
   ·exact h6.2.2 x hx
   ·simp at hx; rcases hx with rfl | rfl | rfl
    ·exact ha.1
    ·exact hb.1
    ·exact hd.1
  ·rw[Tt.tot_mk]
   have:=ha.2; have:=hb.2; have:=hd.2
   simp only[ltot,aZ,List.map_append,List.sum_append,aE,List.map_nil,bA,List.sum_nil,aR,bB] at h7 ⊢
   omega
 rw[decide_eq_false q,cond_false]
 by_cases q:v=4
 ·rw[decide_eq_true q,cond_true]
  by_cases hl:(0:Int)<(t.Args.length:Int)
  ·obtain⟨w,c3,e3,hw,h3⟩:=of_ok [(⟨#[61]⟩:ByteArray),(⟨#[]⟩:ByteArray),(⟨#[81,49]⟩:ByteArray),(⟨#[98,50]⟩:ByteArray)] (by simp) h2 (by omega)
   have hws:w.size≤8:=by
    simp only[bd,List.not_mem_nil,or_false] at hw
    rcases hw with rfl | rfl | rfl | rfl<;>decide
   rw[decide_eq_true hl,cond_true,e3,ag]
   cases hA:t.Args with
   | nil=>rw[hA] at hl; simp at hl
   | cons a l=>
    have hs:=smT_re (smT_arg ht a (by rw[hA]; simp)) hws (by omega)
    have h6:=ht.1.u
    have h7:=Tt.tot_u t
    have h8:=ht.2
    rw[hA] at h6 h7
    rw[show idx (a::l) (0:Int)=some a from rfl,ag]
    refine⟨_,_,rfl,⟨.mk _ _ h6.1 (by simpa[LOk] using h6.2.1) (fun x hx=>?_),?_⟩,h3.mono (by omega)⟩
    ·have hx:x=Tt.mk w a.Args∨x∈l:=by simpa using hx
     rcases hx with rfl | hx
     ·exact hs.1
     ·exact h6.2.2 x (by simp[hx])
    ·rw[Tt.tot_mk]
     have:=hs.2
     show _+ltot Tt.tot (Tt.mk w a.Args::l)≤_
     simp only[ltot,aE,bA,aR] at h7 ⊢
     omega
  ·rw[decide_eq_false hl,cond_false]
   exact⟨_,_,rfl,ht.mono (by omega),h2.mono (by omega)⟩
 ·rw[decide_eq_false q,cond_false]
  exact⟨_,_,rfl,ht.mono (by omega),h2.mono (by omega)⟩
/-- A drawn majorant. -/
def MjOk(x:Mt):Prop:=x.Ok
theorem mjOk_mk{n:ByteArray}{s:List Int}{k:Int}(h:n.size≤8)(hs:s.length≤8)(hx:∀ x∈s,-1000000≤x∧x≤1000000)(hk:-1000000≤k∧k≤1000000):(Mt.mk n s k).Ok:=
 ⟨by simp only[Big]; omega,⟨by simp only[Big]; omega,fun x hx'=>by have:=hx x hx'; simp only[InR]; omega⟩,by simp only[InR]; omega⟩
theorem slopes_loop(i K:Nat)(hi:idx ([(0:Int),(0:Int),(1:Int),(2:Int)]) (i:Int)=some (K:Int))(hK:K≤2):∀ (d j:Nat) (c:la) (m:Nat) (l:List Int),j+d=K→CurOk c m→m+2*d≤1000000000→l.length≤j→(∀ x∈l,0≤x∧x≤40)→
 ∃ c' j' l',Ev (fun n10=>whileN (ρ:=Flow ((List Mt)×la) (la×(List Mt))) (fun (s10:la×Int×(List Int))=>
  ae (idx ([(0:Int),(0:Int),(1:Int),(2:Int)]) (i:Int)) fun v29=>
  ae (idx ([(0:Int),(0:Int),(1:Int),(2:Int)]) (i:Int)) fun v30=>
  bif decide (s10.2.1<v30) then
   ae (spec_l1Cur__among s10.1 ([(0:Int),(1:Int),(1:Int),(2:Int),(3:Int),(40:Int)])) fun v38=>
   ae (app s10.2.2 ([v38.1])) fun v40=>
   some (.nx (v38.2,IntKind.i64.wrap (s10.2.1+(1:Int)),v40))
  else
   some (.br s10)) n10 (c,(j:Int),l)) (.inr (c',j',l'))∧CurOk c' (m+2*d)∧l'.length≤2∧(∀ x∈l',0≤x∧x≤40):=by
 intro d
 induction d with
 | zero=>
  intro j c m l hj hc hm hl hx
  refine⟨c,(j:Int),l,ev_br ?_,hc,by omega,hx⟩
  simp only[hi,ag]
  rw[decide_eq_false (by omega)]; rfl
 | succ d ih=>
  intro j c m l hj hc hm hl hx
  obtain⟨v,c1,e1,hv,h1⟩:=among_ok [(0:Int),(1:Int),(1:Int),(2:Int),(3:Int),(40:Int)] (by simp) hc (by omega)
  obtain⟨c',j',l',f1,f2,f3,f4⟩:=ih (j+1) c1 _ (l++[v]) (by omega) h1 (by omega) (by simp; omega) (by
   intro x hx'
   rcases List.mem_append.1 hx' with hx' | hx'
   ·exact hx x hx'
   ·rw[List.mem_singleton.1 hx']; simp at hv; omega)
  refine⟨c',j',l',ev_nx ?_ f1,f2.mono (by omega),f3,f4⟩
  simp only[hi,ag]
  rw[decide_eq_true (by omega),cond_true,e1,ag,app1 _ (by omega),ag,show IntKind.i64.wrap ((j:Int)+1)=((j+1:Nat):Int) by rw[wrap64 (by omega) (by omega)]; omega]
theorem majorants_ok{c:la}{m:Nat}(h:CurOk c m)(hm:m+100≤900000000):∃ l c',spec_l1Cur__majorants c=some (l,c')∧(∀ x∈l,x.Ok)∧l.length≤5∧CurOk c' (m+100):=by
 unfold spec_l1Cur__majorants
 obtain⟨s,e1,hs⟩:=forN_inv (ρ:=(List Mt)×la) (σ:=la×(List Mt)) (f:=fun (i5:Nat) (s5:la×(List Mt))=>
  ae (spec_l1Cur__one s5.1 (12:Int)) fun v17=>
  bif v17.1 then
   some (.nx (v17.2,s5.2))
  else
   ae (idx ([(⟨#[97]⟩:ByteArray),(⟨#[98]⟩:ByteArray),(⟨#[102]⟩:ByteArray),(⟨#[103]⟩:ByteArray)]) (i5:Int)) fun v20=>
   ae (idx ([(⟨#[97]⟩:ByteArray),(⟨#[98]⟩:ByteArray),(⟨#[102]⟩:ByteArray),(⟨#[103]⟩:ByteArray)]) (i5:Int)) fun v21=>
   ae (spec_l1Cur__among v17.2 ([(0:Int),(1:Int),(2:Int),(5:Int),(100:Int),(40000:Int)])) fun v24=>
   thenL (ρ:=(Flow ((List Mt)×la) (la×(List Mt)))) (σ:=la×Int×(List Int)) (lim fun n10=>whileN (fun (s10:la×Int×(List Int))=>
    ae (idx ([(0:Int),(0:Int),(1:Int),(2:Int)]) (i5:Int)) fun v29=>
    ae (idx ([(0:Int),(0:Int),(1:Int),(2:Int)]) (i5:Int)) fun v30=>
    bif decide (s10.2.1<v30) then
     ae (spec_l1Cur__among s10.1 ([(0:Int),(1:Int),(1:Int),(2:Int),(3:Int),(40:Int)])) fun v38=>
     ae (app s10.2.2 ([v38.1])) fun v40=>
     some (.nx (v38.2,IntKind.i64.wrap (s10.2.1+(1:Int)),v40))
    else
     some (.br s10)) n10 (v24.2,(0:Int),[])) fun s10=>
   ae (app s5.2 ([(Mt.mk v21 s10.2.2 v24.1)])) fun v45=>
   some (.nx (s10.1,v45)))
  (fun i s=>CurOk s.1 (m+8*i)∧s.2.length≤i∧∀ x∈s.2,x.Ok) 4 0 (c,[]) ⟨h,by simp,by simp⟩ (by
  rintro j ⟨d,l⟩ _ hj ⟨i1,i2,i3⟩
  simp only at i1 i2 i3 ⊢
  obtain⟨b,d1,f1,h1⟩:=one_ok 12 i1 (by omega)
  rw[f1,ag]
  cases b with
  | true=>exact⟨_,rfl,h1.mono (by omega),by simp only; omega,i3⟩
  | false=>
   obtain⟨x,K,hx,hK,hxs,hK2⟩:∃ (x:ByteArray) (K:Nat),idx [(⟨#[97]⟩:ByteArray),(⟨#[98]⟩:ByteArray),(⟨#[102]⟩:ByteArray),(⟨#[103]⟩:ByteArray)] (j:Int)=some x∧idx ([(0:Int),(0:Int),(1:Int),(2:Int)]) (j:Int)=some (K:Int)∧x.size≤2∧K≤2:=by
    have:j=0∨j=1∨j=2∨j=3:=by omega
    rcases this with rfl | rfl | rfl | rfl
    ·exact⟨_,0,rfl,rfl,by decide,by decide⟩
    ·exact⟨_,0,rfl,rfl,by decide,by decide⟩
    ·exact⟨_,1,rfl,rfl,by decide,by decide⟩
    ·exact⟨_,2,rfl,rfl,by decide,by decide⟩
   obtain⟨q,d2,f2,hq,h2⟩:=among_ok [(0:Int),(1:Int),(2:Int),(5:Int),(100:Int),(40000:Int)] (by simp) h1 (by omega)
   obtain⟨d3,jj,ll,f3,h3,hl3,hx3⟩:=slopes_loop j K hK hK2 K 0 d2 _ [] (by omega) h2 (by omega) (by simp) (by simp)
   have f3':=lim_eq f3
   rw[cond_false,hx,ag,ag,f2,ag]
   refine⟨_,(thenL_eq f3').trans ((congrArg (fun z=>ae z _) (app1 _ (by omega))).trans rfl),h3.mono (by omega),by simp; omega,?_⟩
   intro y hy
   rcases List.mem_append.1 hy with hy | hy
   ·exact i3 y hy
   ·rw[List.mem_singleton.1 hy]
    exact mjOk_mk (by omega) (show ll.length≤8 by omega) (fun x hx=>by have:=hx3 x hx; omega) (by simp at hq; show _≤q∧q≤_; omega))
 rw[e1,thenL_inr]
 obtain⟨d,l⟩:=s
 obtain⟨i1,i2,i3⟩:=hs
 simp only at i1 i2 i3 ⊢
 have push:∀ y:Mt,y.Ok→∀ x∈l++[y],x.Ok:=by
  intro y hy x hx
  rcases List.mem_append.1 hx with hx | hx
  ·exact i3 x hx
  ·rw[List.mem_singleton.1 hx]; exact hy
 obtain⟨v,c2,e2,_,_,h2⟩:=pick_ok 30 i1 (by omega)
 rw[e2,ag]
 by_cases q:v=0
 ·obtain⟨w,c3,e3,hw,h3⟩:=of_ok [(⟨#[88]⟩:ByteArray),(⟨#[102]⟩:ByteArray),(⟨#[122]⟩:ByteArray)] (by simp) h2 (by omega)
  have hws:w.size≤8:=by
   simp only[bd,List.not_mem_nil,or_false] at hw
   rcases hw with rfl | rfl | rfl<;>decide
  rw[decide_eq_true q,cond_true,e3,ag,app1 _ (by omega),ag]
  exact⟨_,_,rfl,push _ (mjOk_mk hws (by simp) (by simp) (by omega)),by simp; omega,h3.mono (by omega)⟩
 rw[decide_eq_false q,cond_false]
 by_cases q:v=1
 ·obtain⟨w,c3,e3,hw,h3⟩:=among_ok [(-1:Int),(100001:Int),(100000:Int)] (by simp) h2 (by omega)
  rw[decide_eq_true q,cond_true,e3,ag,app1 _ (by omega),ag]
  exact⟨_,_,rfl,push _ (mjOk_mk (by decide) (by simp) (by simp) (by simp at hw; omega)),by simp; omega,h3.mono (by omega)⟩
 rw[decide_eq_false q,cond_false]
 by_cases q:v=2
 ·rw[decide_eq_true q,cond_true,show mkn 5=some 5 from rfl,ag,app1 _ (by omega),ag]
  exact⟨_,_,rfl,push _ (mjOk_mk (by decide) (by simp) (fun x hx=>by rw[List.eq_of_mem_replicate hx]; omega) (by omega)),by simp; omega,h2.mono (by omega)⟩
 ·rw[decide_eq_false q,cond_false]
  exact⟨_,_,rfl,i3,by omega,h2.mono (by omega)⟩
theorem drawnL_ok{l:Lt}(h:DrawnL l):l.Ok:=by
 obtain⟨h1,h2,h3,h4,h5,h6⟩:=h
 exact⟨⟨by simp only[Big]; omega,fun x hx=>by have:=h3 x hx; simp only[Big]; omega⟩,⟨by simp only[Big]; omega,fun x hx=>by have:=h4 x hx; simp only[InR]; omega⟩,by simp only[InR]; omega⟩
theorem drawCapped_ok(code:List Int)(hb:∀ x∈code,0≤x∧x≤255):∃ xs caps t l,spec_DrawCappedValue code=some (xs,caps,t,l)∧LOk Mt.Ok xs∧t.Ok∧t.tot≤1048576∧l.Ok:=by
 unfold spec_DrawCappedValue
 have h0:CurOk (la.mk code (0:Int) (0:Int)) 0:=⟨by simp,by simp,hb⟩
 obtain⟨xs,c1,e1,hx,hxl,h1⟩:=majorants_ok h0 (by omega)
 rw[e1,ag]
 obtain⟨s,e2,hs⟩:=forN_inv (ρ:=(List Mt)×(List Int)×Tt×Lt) (σ:=(List Int)×la) (f:=fun (i5:Nat) (s5:(List Int)×la)=>
  ae (spec_l1Cur__among s5.2 ([(0:Int),(1:Int),(3:Int),(50:Int),(100000:Int),(100000:Int)])) fun v26=>
  ae (app s5.1 ([v26.1])) fun v28=>
  some (.nx (v28,v26.2)))
  (fun i s=>CurOk s.2 (100+2*i)∧s.1.length≤i) xs.length 0 ([],c1) ⟨h1.mono (by omega),by simp⟩ (by
  rintro j ⟨l,d⟩ _ hj ⟨i1,i2⟩
  simp only at i1 i2 ⊢
  obtain⟨q,d1,f1,_,h1⟩:=among_ok [(0:Int),(1:Int),(3:Int),(50:Int),(100000:Int),(100000:Int)] (by simp) i1 (by omega)
  rw[f1,ag,app1 _ (by omega),ag]
  exact⟨_,rfl,h1.mono (by omega),by simp; omega⟩)
 rw[e2,thenL_inr]
 obtain⟨caps,d⟩:=s
 obtain⟨i1,i2⟩:=hs
 simp only at i1 i2 ⊢
 have hxo:LOk Mt.Ok xs:=⟨by simp only[Big]; omega,hx⟩
 have rest:∀ (caps':List Int) (d:la) (m:Nat),CurOk d m→m≤10000→∃ xs' caps t l,(ae (spec_l1Cur__term d) fun v38=>
  ae (spec_l1Cur__one v38.2 (12:Int)) fun v40=>
  bif v40.1 then
   ae (spec_l1Cur__anyTerm v40.2) fun v42=>
   ae (spec_l1Cur__linear v42.2) fun v47=>
   some (xs,caps',v42.1,v47.1)
  else
   ae (spec_l1Cur__linear v40.2) fun v47=>
   some (xs,caps',v38.1,v47.1))=some (xs',caps,t,l)∧LOk Mt.Ok xs'∧t.Ok∧t.tot≤1048576∧l.Ok:=by
  intro caps' d m hd hm
  obtain⟨t,d1,f1,ht,h1⟩:=term_ok hd (by omega)
  obtain⟨b,d2,f2,h2⟩:=one_ok 12 h1 (by omega)
  rw[f1,ag,f2,ag]
  cases b
  ·obtain⟨l,d3,f3,hl,_⟩:=linear_ok h2 (by omega)
   rw[cond_false,f3,ag]
   exact⟨_,_,_,_,rfl,hxo,ht.1,by have:=ht.2; simp only; omega,drawnL_ok hl⟩
  ·obtain⟨u,d4,f4,hu,h4⟩:=anyTerm_ok h2 (by omega)
   obtain⟨l,d3,f3,hl,_⟩:=linear_ok h4 (by omega)
   rw[cond_true,f4,ag,f3,ag]
   exact⟨_,_,_,_,rfl,hxo,hu.1,by have:=hu.2; simp only; omega,drawnL_ok hl⟩
 obtain⟨b,d1,f1,h2⟩:=one_ok 20 i1 (by omega)
 rw[f1,ag]
 cases b
 ·rw[cond_false]; exact rest caps d1 _ h2 (by omega)
 ·obtain⟨q,d2,f2,_,h3⟩:=among_ok [(-1:Int),(0:Int)] (by simp) h2 (by omega)
  rw[cond_true,f2,ag,app1 _ (by omega),ag]
  exact rest _ d2 _ h3 (by omega)
end
section
/-! The value of a term is at most its bound. -/
def sumW(W:ByteArray→Int):List ByteArray→List Int→Int
 | v::vs,s::ss=>s*W v+sumW W vs ss
 | _,_=>0
theorem sumO_add(H K:ByteArray→Int):∀ ns,sumO (fun z=>H z+K z) ns=sumO H ns+sumO K ns
 | []=>rfl
 | n::ns=>by rw[sumO_cons,sumO_cons,sumO_cons,sumO_add H K ns]; omega
theorem sumO_congr{H K:ByteArray→Int}:∀ ns,(∀ z∈ns,H z=K z)→sumO H ns=sumO K ns
 | [],_=>rfl
 | n::ns,h=>by rw[sumO_cons,sumO_cons,h n (by simp),sumO_congr ns fun z hz=>h z (by simp[hz])]
theorem sumO_no(v:ByteArray)(s:Int)(W:ByteArray→Int):∀ ns:List ByteArray,v∉ns→sumO (fun z=>(if v=z then s else 0)*W z) ns=0
 | [],_=>rfl
 | n::ns,h=>by
  simp only[bd,not_or] at h
  rw[sumO_cons,sumO_no v s W ns h.2,if_neg h.1]; simp
theorem sumO_one(v:ByteArray)(s:Int)(W:ByteArray→Int):∀ ns:List ByteArray,ns.Nodup→v∈ns→sumO (fun z=>(if v=z then s else 0)*W z) ns=s*W v
 | [],_,h=>by simp at h
 | n::ns,h,hm=>by
  obtain⟨h1,h2⟩:=List.nodup_cons.1 h
  rw[sumO_cons]
  by_cases e:v=n
  ·subst e; rw[if_pos rfl,sumO_no v s W ns h1]; omega
  ·rw[if_neg e,sumO_one v s W ns h2 ((List.mem_cons.1 hm).resolve_left e)]; simp
theorem sumO_slope(W:ByteArray→Int)(ns:List ByteArray)(hn:ns.Nodup):∀ (vs:List ByteArray) (ss:List Int),vs.Nodup→ss.length=vs.length→(∀ v∈vs,v∈ns)→sumO (fun z=>slopeZ vs ss z*W z) ns=sumW W vs ss
 | [],ss,_,_,_=>by
  have:∀ ns:List ByteArray,sumO (fun z=>slopeZ [] ss z*W z) ns=0:=fun ns=>by
   induction ns with
   | nil=>rfl
   | cons n ns ih=>rw[sumO_cons,ih,slopeZ_notin [] ss n (by simp)]; simp
  rw[this]; cases ss<;>rfl
 | v::vs,[],_,h,_=>by simp at h
 | v::vs,s::ss,hd,hl,hm=>by
  obtain⟨h1,h2⟩:=List.nodup_cons.1 hd
  have ih:=sumO_slope W ns hn vs ss h2 (by simpa using hl) (fun z hz=>hm z (by simp[hz]))
  have e:∀ z∈ns,slopeZ (v::vs) (s::ss) z*W z=(if v=z then s else 0)*W z+slopeZ vs ss z*W z:=by
   intro z _
   simp only[slopeZ]
   by_cases c:v=z
   ·subst c; rw[if_pos rfl,if_pos rfl,slopeZ_notin vs ss v h1]; omega
   ·rw[if_neg c,if_neg c]; omega
  rw[sumO_congr ns e,sumO_add,ih,sumO_one v s W ns hn (hm v (by simp))]
  rfl
theorem namesOf_nodup(a b:Lt):(namesOf a b).Nodup:=(namesOf_srt a b).nodup
def slopeD:List ByteArray→List Int→ByteArray→Int→Int
 | v::vs,s::ss,n,a=>slopeD vs ss n (if v=n then s else a)
 | _,_,_,a=>a
theorem slopeD_notin:∀ (vs:List ByteArray) (ss:List Int) (n:ByteArray) (a:Int),n∉vs→slopeD vs ss n a=a
 | [],ss,n,a,_=>by cases ss<;>rfl
 | v::vs,[],n,a,_=>rfl
 | v::vs,s::ss,n,a,h=>by
  simp only[bd,not_or] at h
  simp only[slopeD]
  rw[if_neg (Ne.symm h.1)]; exact slopeD_notin vs ss n a h.2
theorem slopeD_eq:∀ (vs:List ByteArray) (ss:List Int) (n:ByteArray),vs.Nodup→slopeD vs ss n 0=slopeZ vs ss n
 | [],ss,n,_=>by cases ss<;>rfl
 | v::vs,[],n,_=>rfl
 | v::vs,s::ss,n,h=>by
  obtain⟨h1,h2⟩:=List.nodup_cons.1 h
  simp only[slopeD,slopeZ]
  by_cases e:v=n
  ·rw[if_pos e,if_pos e]; exact slopeD_notin vs ss n s (by rw[← e]; exact h1)
  ·rw[if_neg e,if_neg e]; exact slopeD_eq vs ss n h2
theorem sum_swap(l b:Lt)(hl:validL l=true)(hb:validL b=true):sumO (fun z=>slopeZ b.Vars b.Slopes z*slopeZ l.Vars l.Slopes z) l.Vars=sumW (slopeZ l.Vars l.Slopes) b.Vars b.Slopes:=by
 obtain⟨a1,a2,a3,a4,a5,a6⟩:=validL_iff hl
 obtain⟨b1,b2,b3,b4,b5,b6⟩:=validL_iff hb
 have h1:=sumO_slope (slopeZ b.Vars b.Slopes) l.Vars a4.nodup l.Vars l.Slopes a4.nodup a2 (fun v hv=>hv)
 have h2:=sumO_slope (slopeZ b.Vars b.Slopes) (namesOf l b) (namesOf_nodup l b) l.Vars l.Slopes a4.nodup a2 (fun v hv=>(namesOf_mem l b v).2 (.inl hv))
 have h3:=sumO_slope (slopeZ l.Vars l.Slopes) (namesOf l b) (namesOf_nodup l b) b.Vars b.Slopes b4.nodup b2 (fun v hv=>(namesOf_mem l b v).2 (.inr hv))
 rw[← h3,← sumO_congr (namesOf l b) (fun z _=>Int.mul_comm _ _),h2,← h1]
 exact sumO_congr _ fun z _=>Int.mul_comm _ _
theorem val_loop{ρ:Type}(n:ByteArray)(E:Int→Option (Flow ρ Int)):∀ (vs pv:List ByteArray) (ss ps:List Int) (a:Int),ps.length=pv.length→ss.length=vs.length→
 forN (fun (i18:Nat) (s18:Int)=>
  bif decide ((i18:Int)<((ps++ss).length:Int)) then
   ae (idx (pv++vs) (i18:Int)) fun v102=>
   ae (idx (pv++vs) (i18:Int)) fun v103=>
   bif decide (v103=n) then
    ae (idx (ps++ss) (i18:Int)) fun v113=>
    ae (idx (ps++ss) (i18:Int)) fun v114=>
    some (.nx v114)
   else
    some (.nx s18)
  else E s18) vs.length pv.length a=some (.inr (slopeD vs ss n a))
 | [],pv,ss,ps,a,_,h=>by cases ss<;>simp[forN,slopeD]
 | v::vs,pv,[],ps,a,_,h=>by simp at h
 | v::vs,pv,s::ss,ps,a,hp,h=>by
  simp only[aR] at h ⊢
  rw[forN_nx (s':=if v=n then s else a) (by
   rw[decide_eq_true (by simp only[aZ,aR]; omega),cond_true,idx_mid,ag,ag,← hp,idx_mid,ag,ag]
   by_cases e:v=n
   ·rw[decide_eq_true e,if_pos e]; rfl
   ·rw[decide_eq_false e,if_neg e]; rfl)]
  have:=val_loop n E vs (pv++[v]) ss (ps++[s]) (if v=n then s else a) (by simp[hp]) (by omega)
  simpa[slopeD] using this
theorem ev_loop(W:ByteArray→Int):∀ (vs pv:List ByteArray) (ss ps:List Int) (a:Int),ps.length=pv.length→ss.length=vs.length→(∀ v∈vs,0≤W v∧W v≤1000)→(∀ s∈ss,1≤s∧s≤1000)→0≤a→a+1000000*(vs.length:Int)≤1000000000→
 forN (ρ:=Int×Bool) (fun (i5:Nat) (s5:Int)=>
  ae (idx (pv.map W++vs.map W) (i5:Int)) fun v31=>
  ae (idx (ps++ss) (i5:Int)) fun v38=>
  some (.nx (IntKind.i64.wrap (s5+(IntKind.i64.wrap (v31*v38)))))) vs.length pv.length a=some (.inr (a+sumW W vs ss))
 | [],pv,ss,ps,a,_,h,_,_,_,_=>by cases ss<;>simp[forN,sumW]
 | v::vs,pv,[],ps,a,_,h,_,_,_,_=>by simp at h
 | v::vs,pv,s::ss,ps,a,hp,h,hw,hs,h0,h1=>by
  simp only[aR] at h h1 ⊢
  have g1:=hw v (by simp)
  have g2:=hs s (by simp)
  have m0:0≤W v*s:=Int.mul_nonneg g1.1 (by omega)
  have m1:W v*s≤1000*1000:=Int.mul_le_mul g1.2 g2.2 (by omega) (by omega)
  rw[forN_nx (s':=a+W v*s) (by
   rw[aE,show pv.length=(pv.map W).length by simp,idx_mid,ag,aG,← hp,idx_mid,ag,wrap_small m0 (by omega),wrap_small (by omega) (by omega)])]
  have:=ev_loop W vs (pv++[v]) ss (ps++[s]) (a+W v*s) (by simp[hp]) (by omega) (fun v hv=>hw v (by simp[hv])) (fun s hs'=>hs s (by simp[hs'])) (by omega) (by omega)
  simp only[sumW]
  rw[show a+(s*W v+sumW W vs ss)=a+W v*s+sumW W vs ss by rw[Int.mul_comm s]; omega]
  simpa using this
theorem ev_ok(l b:Lt)(hl:validL l=true)(hb:validL b=true)(hok:b.Ok):impl_EvaluateLinear b (b.Vars.map (slopeZ l.Vars l.Slopes))=some (evL l b,true):=by
 obtain⟨b1,b2,b3,b4,b5,b6⟩:=validL_iff hb
 have hW:∀ v,0≤slopeZ l.Vars l.Slopes v∧slopeZ l.Vars l.Slopes v≤1000:=fun v=>⟨(slopeZ_bound hl v).1,(slopeZ_bound hl v).2.1⟩
 unfold impl_EvaluateLinear
 rw[implL b hok,ag,hb,cond_true,decide_eq_true (by simp),cond_true,Contains_int (p:=fun x=>!inR x 0 100000) (fun x=>by simp only[impl_EvaluateLinear_1,within_eq,ag])]
 have:((b.Vars.map (slopeZ l.Vars l.Slopes)).any fun x=>!inR x 0 100000)=false:=by
  rw[List.any_eq_false]
  intro x hx
  obtain⟨v,_,rfl⟩:=List.mem_map.1 hx
  have:=hW v
  simp[inR_iff.2 (show 0≤slopeZ l.Vars l.Slopes v∧slopeZ l.Vars l.Slopes v≤100000 by omega)]
 rw[this,ag,cond_false]
 have:=ev_loop (slopeZ l.Vars l.Slopes) b.Vars [] b.Slopes [] b.Constant rfl b2 (fun v _=>hW v) b5 b3.1 (by omega)
 simp only[List.nil_append,List.map_nil,bB] at this
 rw[aG]
 refine(congrArg (fun z=>thenL z _) this).trans ?_
 rw[thenL_inr,← sum_swap l b hl hb]; rfl
theorem major_more(xs:List Mt)(t:Tt)(hx:LOk Mt.Ok xs)(ht:t.Ok)(h:t.tot≤1048576):
 ∃ (s g:Lt) (c:Bool),spec_MajorantOf xs t=some (s,c)∧impl_MajorantOf xs t=some (g,c)∧(c=true→validL g=true∧impl_boundOf xs t=some (g,true)):=by
 unfold spec_MajorantOf impl_MajorantOf
 rw[specMj xs hx,implMj xs hx,ag,ag,l2Good_ok t h ht,IsValidTerm_ok t h ht]
 cases hv:validM xs
 ·exact⟨_,_,_,rfl,rfl,nofun⟩
 rw[cond_true,cond_true,ag,ag]
 cases hg:goodT t
 ·exact⟨_,_,_,rfl,rfl,nofun⟩
 have hg2:t.good=true:=by unfold goodT at hg; rw[av] at hg; exact hg.2
 obtain⟨⟨sl,sb⟩,⟨il,ib⟩,⟨e1,e2,e3⟩,hr⟩:=bndV xs hv t ht hg2
 have k1:spec_l25Bound xs t=some (sl,sb):=lim_eq ⟨_,fun n hn=>(hr n hn).1⟩
 have k2:impl_boundOf xs t=some (il,ib):=lim_eq ⟨_,fun n hn=>(hr n hn).2⟩
 simp only at e1 e2 e3
 subst e1
 rw[cond_true,cond_true,k1,k2,ag,ag]
 cases sb
 ·exact⟨_,_,_,rfl,rfl,nofun⟩
 ·exact⟨_,_,_,rfl,rfl,fun _=>⟨(e2 rfl).2,rfl⟩⟩
theorem cap_more(xs:List Mt)(caps:List Int)(l:Lt)(t:Tt)(hx:LOk Mt.Ok xs)(hl:l.Ok)(ht:t.Ok)(h:t.tot≤1048576){v:Int}(hc:impl_CappedValue xs caps t l=some (v,true)){g:Lt}(hb:impl_boundOf xs t=some (g,true)):
 validL l=true∧v≤evL l g:=by
 unfold impl_CappedValue at hc
 rw[implMj xs hx,ag] at hc
 cases hv:validM xs
 ·rw[hv] at hc; cases hc
 rw[hv,cond_true] at hc
 by_cases hcl:caps.length=xs.length
 ·have ec:slices_ContainsFunc_Sint_int caps (fun y0=>impl_CappedValue_1 y0)=some (!caps.all (fun v=>inR v 0 100000)):=by
   rw[Contains_int (p:=fun x=>!inR x 0 100000) (fun x=>by simp only[impl_CappedValue_1,within_eq,ag]),List.all_eq_not_any_not,Bool.not_not]
  rw[decide_eq_true (show(caps.length:Int)=(xs.length:Int) by omega),cond_true,ec,ag] at hc
  cases ha:caps.all (fun v=>inR v 0 100000)
  ·rw[ha] at hc; cases hc
  rw[ha,Bool.not_true,cond_false,IsValidTerm_ok t h ht,ag] at hc
  cases hg:goodT t
  ·rw[hg] at hc; cases hc
  rw[hg,cond_true,implL l hl,ag] at hc
  cases hw:validL l
  ·rw[hw] at hc; cases hc
  rw[hw,cond_true] at hc
  have hg2:t.good=true:=by unfold goodT at hg; rw[av] at hg; exact hg.2
  obtain⟨r,hr⟩:=capV xs caps l hw hcl t ht hg2
  obtain⟨s,i,_,hq⟩:=bndV xs hv t ht hg2
  have e1:impl_cappedValue xs caps t l=some r:=lim_eq ⟨_,fun n hn=>(hr n hn).2⟩
  have e2:impl_boundOf xs t=some i:=lim_eq ⟨_,fun n hn=>(hq n hn).2⟩
  rw[e1] at hc
  rw[e2] at hb
  cases hb
  have hc:r=(v,true):=by simp at hc; exact Prod.ext hc.1 hc.2
  subst hc
  exact⟨rfl,(capSound xs hv caps hcl (fun x hx=>inR_iff.1 (List.all_eq_true.1 ha x hx)) l hw _ t ht hg2 v g (hr _ (aY _)).2 (hq _ (aY _)).2).2.2⟩
 ·rw[decide_eq_false (show ¬ (caps.length:Int)=(xs.length:Int) by omega)] at hc; cases hc
theorem validL_Ok{l:Lt}(hv:validL l=true):l.Ok:=by
 obtain⟨a1,a2,a3,a4,a5,a6⟩:=validL_iff hv
 exact⟨⟨by simp only[Big]; omega,fun v hv=>big_var (a6 v hv)⟩,⟨by simp only[Big]; omega,fun x hx=>by have:=a5 x hx; exact inR_small (by omega) (by omega)⟩,inR_small (by omega) (by omega)⟩
theorem FnMajorants_true(a0:List Int)(h:LOk (fun x:Int=>0≤x∧x≤255) a0):FnMajorants a0=some true:=by
 unfold FnMajorants vBig
 rw[ag]
 by_cases hb:(65536:Int)<(a0.length:Int)
 ·rw[decide_eq_true hb]; rfl
 rw[decide_eq_false hb,cond_false]
 obtain⟨xs,caps,t,l,e1,hx,ht,htt,hl⟩:=drawCapped_ok a0 h.2
 obtain⟨⟨v,vb⟩,e2,e3⟩:=cap_both xs caps l t hx hl ht htt
 obtain⟨s,g,c,e4,e5,hc⟩:=major_more xs t hx ht htt
 rw[e1,ag,e3,ag,e5,ag,e2,ag,e4,ag,decide_eq_true (rfl:v=v)]
 simp only[beq_self_eq_true,cond_true]
 cases vb
 ·rfl
 cases c
 ·rfl
 obtain⟨hg,e6⟩:=hc rfl
 obtain⟨hw,hle⟩:=cap_more xs caps l t hx hl ht htt e3 e6
 obtain⟨a1,a2,a3,a4,a5,a6⟩:=validL_iff hw
 obtain⟨b1,b2,b3,b4,b5,b6⟩:=validL_iff hg
 simp only[cond_true]
 obtain⟨w,f1,f2⟩:=forN_inv (ρ:=Bool) (σ:=List Int) (f:=fun (i14:Nat) (s14:(List Int))=>
  thenL (ρ:=(Flow Bool (List Int))) (σ:=Int) (forN (fun (i18:Nat) (s18:Int)=>
   bif decide ((i18:Int)<(l.Slopes.length:Int)) then
    ae (idx l.Vars (i18:Int)) fun v102=>
    ae (idx l.Vars (i18:Int)) fun v103=>
    ae (idx g.Vars (i14:Int)) fun v107=>
    ae (idx g.Vars (i14:Int)) fun v108=>
    bif decide (v103=v108) then
     ae (idx l.Slopes (i18:Int)) fun v113=>
     ae (idx l.Slopes (i18:Int)) fun v114=>
     some (.nx v114)
    else
     some (.nx s18)
   else
    ae (app s14 ([s18])) fun v118=>
    some (.rt (.nx v118))) l.Vars.length 0 (0:Int)) fun s18=>
  ae (app s14 ([s18])) fun v118=>
  some (.nx v118)) (fun i s=>s=(g.Vars.take i).map (slopeZ l.Vars l.Slopes)) g.Vars.length 0 [] (by simp) (by
  rintro j _ _ hj rfl
  have hj':j<g.Vars.length:=by omega
  have q:=val_loop (ρ:=Flow Bool (List Int)) (g.Vars.getD j default) (fun s18=>ae (app ((g.Vars.take j).map (slopeZ l.Vars l.Slopes)) ([s18])) fun v118=>some (.rt (.nx v118))) l.Vars [] l.Slopes [] 0 rfl a2
  simp only[List.nil_append,bB] at q
  simp only[idx_getD hj',ag]
  refine⟨_,(thenL_eq q).trans ((congrArg (fun z=>ae z _) (app1 _ (by simp; omega))).trans rfl),?_⟩
  rw[slopeD_eq _ _ _ a4.nodup,List.take_add_one,List.map_append]
  simp[List.getD,List.getElem?_eq_getElem hj'])
 rw[Nat.zero_add,List.take_length] at f2
 subst f2
 refine(thenL_eq f1).trans ?_
 rw[ev_ok l g hw hg (validL_Ok hg),ag,cond_true,decide_eq_true hle]
end
end Go.Proofs.YtikeldgdgjoekaaGreat
