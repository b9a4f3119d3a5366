/- A part of the proof (K70 K71). -/
import Derived.Test.YtdofoappodmcoaaKP2
import Derived.Test.YtdofoappodmcoaaKP3
import Derived.Test.YtdofoappodmcoaaKP11
import Derived.Test.YtdofoappodmcoaaKP9
import Derived.Test.YtdofoappodmcoaaKP8
import Derived.Test.YtdofoappodmcoaaKP12
set_option linter.unusedSimpArgs false
set_option linter.unusedVariables false
set_option maxRecDepth 100000
set_option maxHeartbeats 80000000
namespace Go.Proofs.Ytdofoappodmcoaa
open Go.VL Go.Proofs.Try
def idxR (x:Int):List Int→Int→Int
 | [],_=>-1
 | y::l,i=>if x=y then i else idxR x l (i + 1)
theorem idxR_nn (x:Int):∀(l:List Int) (i:Int),0≤i→(decide (0≤idxR x l i)=decide (x∈l))∧-1≤idxR x l i∧idxR x l i≤i + l.length
 | [],i,h=>by simp [idxR]; omega
 | y::l,i,h=>by
  obtain⟨h1,h2,h3⟩:=idxR_nn x l (i + 1) (by omega)
  rw[idxR]
  by_cases c:x=y
  ·rw[if_pos c,decide_eq_true h,decide_eq_true (by rw[c]; simp)]
   refine⟨rfl,by omega,?_⟩
   simp only[List.length_cons,Int.natCast_add]; omega
  ·rw[if_neg c,h1]
   refine⟨by simp [c],h2,?_⟩
   simp only[List.length_cons,Int.natCast_add]; omega
theorem index_ok (l:List Int) (x:Int) (hl:l.length≤1000000000):PureOK prog 104 [.d (intsD l),i64 x] (i64 (idxR x l 0)):=by
 obtain⟨R,hR⟩:∃R,R=idxR x l 0:=⟨_,rfl⟩
 rw[← hR]
 refine fn_ok func104 rfl ntmps104 results104 rfl 0 435 (by simp) (by simp) ?_
 simp only[zX,simprocAttr,i64,iD,intsD,List.length_map]
 refine loop_rule (fun n e s=>∃i:Nat,n=l.length - i∧i≤l.length∧e 0=.d (intsD l)∧e 1=i64 x∧e 7=i64 l.length∧e 8=i64 i∧R=idxR x (l.drop i) i∧s=[])
  ⟨_,_,_,Cln.refl,0,rfl,by omega,rfl,rfl,rfl,rfl,hR,rfl⟩ ?_
 clear hR
 rintro n e s ⟨i,rfl,hi,h0,h1,h7,h8,hR,rfl⟩
 rcases Nat.lt_or_ge i l.length with hlt | hge
 ·have hlt':(i:Int) < (l.length:Int):=by omega
  have hi0:(0:Int)≤(i:Int):=by omega
  have hx:l[i]?=some l[i]:=List.getElem?_eq_getElem hlt
  rw[List.drop_eq_getElem_cons hlt,idxR] at hR
  generalize l[i]=y at *
  by_cases c:x=y
  ·rw[if_pos c] at hR
   subst hR
   simp only[zX,simprocAttr,i64,iD,intsD,h0,h1,h7,h8,hlt',hi0,Int.toNat_natCast,hlt,hx,List.length_map,c]
  ·rw[if_neg c] at hR
   simp only[zX,simprocAttr,i64,iD,intsD,h0,h1,h7,h8,hlt',hi0,Int.toNat_natCast,hlt,hx,List.length_map,c]
   refine⟨l.length - (i + 1),_,_,by omega,Cln.refl,i + 1,rfl,hlt,?_,?_,?_,?_,?_,rfl⟩ <;> (try simp only[zU,Nat.reduceBEq,Nat.reduceShiftRight,Nat.reduceMod,Nat.reduceEqDiff,reduceIte])
   ·exact h0
   ·exact h1
   ·exact h7
   ·rw[w64 _ (by omega)]; rfl
   ·rw[hR]; congr 1
 ·have hie:i=l.length:=by omega
  subst hie
  rw[List.drop_length,idxR] at hR
  subst hR
  simp only[zX,simprocAttr,i64,iD,intsD,h0,h1,h7,h8,Int.lt_irrefl,List.length_map]
theorem contains_okI (l:List Int) (x:Int) (hl:l.length≤1000000000):PureOK prog 79 [.d (intsD l),i64 x] (bV (decide (x∈l))):=by
 have h:=index_ok l x hl
 obtain⟨h1,_,_⟩:=idxR_nn x l 0 (Int.le_refl _)
 rw[← h1]
 generalize idxR x l 0=R at *
 simp only[i64,intsD] at h
 refine fn_ok func79 rfl ntmps79 results79 rfl 0 19 (by simp) (by simp) ?_
 simp only[zX,simprocAttr,i64,iD,bV,intsD]
 refine call_pure h rfl rfl ?_
 simp only[zX,simprocAttr,i64,iD,bV,intsD,ge_iff_le]
def insO (g:Nat) (E:List Int):VL.Obj:=⟨g,true,1,E.map fun x=>[i64 x]⟩
theorem insO_ok (n g:Nat) (E:List Int):objOk n (insO g E)=true:=by
 unfold objOk insO
 rw[List.all_eq_true]
 intro e he
 obtain⟨x,_,rfl⟩:=List.mem_map.1 he
 rfl
theorem insO_ren (ρ:List Nat) (g:Nat) (E:List Int):renO ρ (insO g E)=insO g E:=by
 unfold renO insO
 simp only[List.map_map]
 congr 1
theorem pf_take {L E:List Int} (h:L <+: E):E.take L.length=L:=by
 obtain⟨r,rfl⟩:=h
 simp
def cmpI (L:List Int) (re:Re):List Int:=if re.op=5 then L++[re.n] else L
theorem comp_eq2 (re:Re) (L:List Int) (hv:re.every valB=true):re.comp L=if re.op=4∧(re.mode=2∨(re.kids.headD re).anul=true) then false
  else if re.op=5∧re.n∈L then false
  else if 5 < re.op∧re.op≠11 then false
  else re.kids.all fun k=>k.comp (cmpI L re):=by
 rw[Re.comp_eq]
 obtain⟨h1,h2⟩:=(Re.every_iff re).1 hv
 cases hk:re.kids with
 | nil =>
  by_cases h4:re.op=4
  ·exfalso
   unfold valB at h1
   simp [h4,hk] at h1
  ·have e1:¬(re.op=4∧(re.mode=2∨Re.nul1 ([]:List Re)=true)):=fun h=>h4 h.1
   have e2:¬(re.op=4∧(re.mode=2∨(([]:List Re).headD re).anul=true)):=fun h=>h4 h.1
   rw[if_neg e1,if_neg e2]; rfl
 | cons k l =>
  have e:Re.nul1 (k::l)=k.anul:=by
   rw[anul_nul k (h2 k (by rw[hk]; simp))]; simp [Re.nul1]
  rw[e]; rfl
def CmpJ (re:Re) (L:List Int) (g:Nat) (e:VL.Env) (s:List VL.Obj):Prop :=
 e 0=.d (.el re.cells)∧re.comp L=(re.kids.all fun k=>k.comp (cmpI L re))∧((∃E,e 1=.so 0 g 0 (cmpI L re).length∧s=[insO g E]∧cmpI L re <+: E) ∨
  (∃E0 E1,e 1=.so 1 0 0 (cmpI L re).length∧s=[insO g E0,insO 0 E1]∧L <+: E0∧cmpI L re <+: E1))
theorem compilable_ok (re:Re):re.every valB=true→re.fine=true→∀(L E:List Int) (g:Nat),L <+: E→L.length + re.size≤1000000 →
  callWp prog 46 [.d (.el re.cells),.so 0 g 0 L.length] [insO g E] fun v s=>v=bV (re.comp L)∧∃E',s=[insO g E']∧L <+: E':=by
 refine Re.ind (Q:=fun re=>re.every valB=true→re.fine=true→∀(L E:List Int) (g:Nat),L <+: E→L.length + re.size≤1000000 →
  callWp prog 46 [.d (.el re.cells),.so 0 g 0 L.length] [insO g E] fun v s=>v=bV (re.comp L)∧∃E',s=[insO g E']∧L <+: E') (fun re ih hv hf L E g hpf hsz=>?_) re
 obtain⟨hset1,hlen,hfk⟩:=Re.fine_spec hf
 obtain⟨hv1,hvk⟩:=(Re.every_iff re).1 hv
 have hcomp:=comp_eq2 re L hv
 have hLE:L.length≤E.length:=hpf.length_le
 have htk:=pf_take hpf
 refine fn_ok2 func46 rfl ntmps46 results46 rfl 1 6755399441057331 [14] (by simp) (by simp) ?_
 rw[code2_seq]
 simp only[zX,Nat.reduceShiftRight,Nat.reduceMod,Nat.reduceLT,Nat.reduceMul,Nat.reduceSub,Int.reduceToNat,Int.reduceNeg,Int.reduceLT,Int.reduceLE,Int.reduceEq,Nat.reduceEqDiff,Nat.reduceAdd,Nat.reduceLeDiff,reduceIte,reduceCtorEq,Nat.reduceBEq,code2_region,List.contains_cons,List.contains_nil,Bool.or_false,Bool.false_eq_true,if_false,if_true,i64,bV]
 refine seq_join3 (CmpJ re L g) ?_ ?_
 ·intro B hB
  have hfin:((insO g E).els.all fun e=>e.all (refsV 1))=true:=insO_ok 1 g E
  have hkid:∀(op:Int),re.op=op→op≠5→cmpI L re=L:=fun op h h5=>if_neg (by omega)
  have hout:re.comp L=false→(((insO g E).els.all fun e=>e.all (refsV 1))=true∧V.d (D.sc (.bool false))=bV (re.comp L)∧∃E',[insO g E]=[insO g E']∧L <+: E'):=fun h=>⟨hfin,by rw[h]; rfl,E,rfl,hpf⟩
  by_cases o4:re.op=4
  ·obtain⟨k,hk⟩:∃k,re.kids=[k]:=by
    have h4:=(of_decide_eq_true hv1).2.2.1 o4
    exact List.length_eq_one_iff.1 h4.1
   by_cases m2:re.mode=2
   ·rw[if_pos ⟨o4,.inl m2⟩] at hcomp
    rw[hcomp]
    simp only[zX,Nat.reduceShiftRight,Nat.reduceMod,Nat.reduceLT,Nat.reduceMul,Nat.reduceSub,Int.reduceToNat,Int.reduceNeg,Int.reduceLT,Int.reduceLE,Int.reduceEq,Nat.reduceEqDiff,Nat.reduceAdd,Nat.reduceLeDiff,reduceIte,reduceCtorEq,Nat.reduceBEq,c2L,List.contains_cons,List.contains_nil,Bool.or_false,Bool.false_eq_true,if_false,if_true,i64,bV,iD,bD,Re.cells_eq re,o4,m2]
    exact⟨hfin,E,rfl,hpf⟩
   ·have hnl:=nullable_ok k (hfk k (by rw[hk]; simp))
    simp only[reV_eq,i64,bV,iD,bD] at hnl
    cases hn:k.anul with
    | true =>
     rw[if_pos ⟨o4,.inr (by rw[hk]; exact hn)⟩] at hcomp
     rw[hcomp]
     simp only[zX,Nat.reduceShiftRight,Nat.reduceMod,Nat.reduceLT,Nat.reduceMul,Nat.reduceSub,Int.reduceToNat,Int.reduceNeg,Int.reduceLT,Int.reduceLE,Int.reduceEq,Nat.reduceEqDiff,Nat.reduceAdd,Nat.reduceLeDiff,reduceIte,reduceCtorEq,Nat.reduceBEq,c2L,List.contains_cons,List.contains_nil,Bool.or_false,Bool.false_eq_true,if_false,if_true,i64,bV,iD,bD,Re.cells_eq re,o4,m2,hk,Re.cells_eq k,List.map_cons,List.map_nil]
     refine⟨by decide,call_pure hnl rfl rfl ?_⟩
     simp only[zX,Nat.reduceShiftRight,Nat.reduceMod,Nat.reduceLT,Nat.reduceMul,Nat.reduceSub,Int.reduceToNat,Int.reduceNeg,Int.reduceLT,Int.reduceLE,Int.reduceEq,Nat.reduceEqDiff,Nat.reduceAdd,Nat.reduceLeDiff,reduceIte,reduceCtorEq,Nat.reduceBEq,c2L,List.contains_cons,List.contains_nil,Bool.or_false,Bool.false_eq_true,if_false,if_true,i64,bV,iD,bD,hn]
     exact⟨hfin,E,rfl,hpf⟩
    | false =>
     have hJ:cmpI L re=L:=hkid 4 o4 (by decide)
     simp only[zX,Nat.reduceShiftRight,Nat.reduceMod,Nat.reduceLT,Nat.reduceMul,Nat.reduceSub,Int.reduceToNat,Int.reduceNeg,Int.reduceLT,Int.reduceLE,Int.reduceEq,Nat.reduceEqDiff,Nat.reduceAdd,Nat.reduceLeDiff,reduceIte,reduceCtorEq,Nat.reduceBEq,c2L,List.contains_cons,List.contains_nil,Bool.or_false,Bool.false_eq_true,if_false,if_true,i64,bV,iD,bD,Re.cells_eq re,o4,m2,hk,Re.cells_eq k,List.map_cons,List.map_nil]
     refine⟨by decide,call_pure hnl rfl rfl ?_⟩
     simp only[zX,Nat.reduceShiftRight,Nat.reduceMod,Nat.reduceLT,Nat.reduceMul,Nat.reduceSub,Int.reduceToNat,Int.reduceNeg,Int.reduceLT,Int.reduceLE,Int.reduceEq,Nat.reduceEqDiff,Nat.reduceAdd,Nat.reduceLeDiff,reduceIte,reduceCtorEq,Nat.reduceBEq,c2L,List.contains_cons,List.contains_nil,Bool.or_false,Bool.false_eq_true,if_false,if_true,i64,bV,iD,bD,hn]
     refine hB _ _ ⟨?_,?_,.inl ⟨E,?_,rfl,?_⟩⟩
     ·rw[Re.cells_eq re,o4,hk,List.map_cons,List.map_nil,Re.cells_eq k]; rfl
     ·rw[hcomp,if_neg (by rintro ⟨_,h | h⟩; exact m2 h; rw[hk] at h; rw[show ([k]:List Re).headD re=k from rfl,hn] at h; cases h),if_neg (fun h=>by omega),if_neg (by omega)]
     ·first | rfl | (rw[hJ]; rfl)
     ·rw[hJ]; exact hpf
  ·by_cases o5:re.op=5
   ·have hJ:cmpI L re=L++[re.n]:=if_pos o5
    have hct:=contains_okI L re.n (by omega)
    have hfz:frzV.go (killO [insO g E] [0]).length (killO [insO g E] [0]) [.so 0 g 0 L.length,i64 re.n]=some [.d (intsD L),i64 re.n]:=by
     have h1:frzV 1 [⟨g,false,1,E.map fun x=>[i64 x]⟩] (.so 0 g 0 L.length)=some (.d (intsD L)):=frz_ownK (live:=false) rfl (by rw[List.drop_zero,← List.map_take,htk,List.map_map]; rfl) (by rw[List.length_map]; omega) (.inr rfl)
     show frzV.go 1 [⟨g,false,1,E.map fun x=>[i64 x]⟩] [.so 0 g 0 L.length,i64 re.n]=_
     simp only[frzV.go,h1]
     rfl
    simp only[bV] at hct
    by_cases hc:re.n∈L
    ·rw[if_neg (fun h=>o4 h.1),if_pos ⟨o5,hc⟩] at hcomp
     rw[hcomp]
     simp only[zX,Nat.reduceShiftRight,Nat.reduceMod,Nat.reduceLT,Nat.reduceMul,Nat.reduceSub,Int.reduceToNat,Int.reduceNeg,Int.reduceLT,Int.reduceLE,Int.reduceEq,Nat.reduceEqDiff,Nat.reduceAdd,Nat.reduceLeDiff,reduceIte,reduceCtorEq,Nat.reduceBEq,c2L,List.contains_cons,List.contains_nil,Bool.or_false,Bool.false_eq_true,if_false,if_true,i64,bV,iD,bD,Re.cells_eq re,o5]
     refine call_lend [0] hct hfz rfl ?_
     simp only[zX,Nat.reduceShiftRight,Nat.reduceMod,Nat.reduceLT,Nat.reduceMul,Nat.reduceSub,Int.reduceToNat,Int.reduceNeg,Int.reduceLT,Int.reduceLE,Int.reduceEq,Nat.reduceEqDiff,Nat.reduceAdd,Nat.reduceLeDiff,reduceIte,reduceCtorEq,Nat.reduceBEq,c2L,List.contains_cons,List.contains_nil,Bool.or_false,Bool.false_eq_true,if_false,if_true,i64,bV,iD,bD,decide_eq_true hc]
     exact⟨hfin,E,rfl,hpf⟩
    ·simp only[zX,Nat.reduceShiftRight,Nat.reduceMod,Nat.reduceLT,Nat.reduceMul,Nat.reduceSub,Int.reduceToNat,Int.reduceNeg,Int.reduceLT,Int.reduceLE,Int.reduceEq,Nat.reduceEqDiff,Nat.reduceAdd,Nat.reduceLeDiff,reduceIte,reduceCtorEq,Nat.reduceBEq,c2L,List.contains_cons,List.contains_nil,Bool.or_false,Bool.false_eq_true,if_false,if_true,i64,bV,iD,bD,Re.cells_eq re,o5]
     refine call_lend [0] hct hfz rfl ?_
     simp only[zX,Nat.reduceShiftRight,Nat.reduceMod,Nat.reduceLT,Nat.reduceMul,Nat.reduceSub,Int.reduceToNat,Int.reduceNeg,Int.reduceLT,Int.reduceLE,Int.reduceEq,Nat.reduceEqDiff,Nat.reduceAdd,Nat.reduceLeDiff,reduceIte,reduceCtorEq,Nat.reduceBEq,c2L,List.contains_cons,List.contains_nil,Bool.or_false,Bool.false_eq_true,if_false,if_true,i64,bV,iD,bD,decide_eq_false hc,append2Wp]
     have hcl:re.comp L=(re.kids.all fun k=>k.comp (cmpI L re)):=by rw[hcomp,if_neg (fun h=>o4 h.1),if_neg (fun h=>hc h.2),if_neg (by omega)]
     refine⟨fun e he=>by rw[List.mem_singleton.1 he]; rfl,rfl,⟨rfl,rfl,?_,by omega⟩,?_,?_⟩
     ·show 0 + L.length≤(E.map fun x=>[i64 x]).length
      rw[List.length_map]; omega
     ·refine hB _ _ ⟨?_,hcl,.inl ⟨E.take L.length++[re.n]++E.drop (L.length + 1),?_,?_,?_⟩⟩
      ·rw[Re.cells_eq re,o5]; rfl
      ·rw[hJ,List.length_append]; rfl
      ·simp [insO,i64]
      ·rw[hJ,htk]; exact⟨_,rfl⟩
     ·refine hB _ _ ⟨?_,hcl,.inr ⟨E,L++[re.n],?_,?_,hpf,by rw[hJ]; exact List.prefix_refl _⟩⟩
      ·rw[Re.cells_eq re,o5]; rfl
      ·rw[hJ,List.length_append]; rfl
      ·have:List.take L.length (insO g E).els=L.map fun x=>[i64 x]:=by
        show List.take L.length (E.map fun x=>[i64 x])=_
        rw[← List.map_take,htk]
       rw[this]
       simp [insO,i64]
   ·by_cases oc:5 < re.op∧re.op≠11
    ·rw[if_neg (fun h=>o4 h.1),if_neg (fun h=>o5 h.1),if_pos oc] at hcomp
     rw[hcomp]
     have n0:¬re.op=0:=by omega
     have n1:¬re.op=1:=by omega
     have n11:¬re.op=11:=by omega
     have n2:¬re.op=2:=by omega
     have n3:¬re.op=3:=by omega
     simp only[zX,Nat.reduceShiftRight,Nat.reduceMod,Nat.reduceLT,Nat.reduceMul,Nat.reduceSub,Int.reduceToNat,Int.reduceNeg,Int.reduceLT,Int.reduceLE,Int.reduceEq,Nat.reduceEqDiff,Nat.reduceAdd,Nat.reduceLeDiff,reduceIte,reduceCtorEq,Nat.reduceBEq,c2L,List.contains_cons,List.contains_nil,Bool.or_false,Bool.false_eq_true,if_false,if_true,i64,bV,iD,bD,Re.cells_eq re,n0,n1,n11,n2,n3,o4,o5]
     exact⟨hfin,E,rfl,hpf⟩
    ·have hJ:cmpI L re=L:=if_neg o5
     have h0:=(of_decide_eq_true hv1).1
     have ho:re.op=0∨re.op=1∨re.op=11∨re.op=2∨re.op=3:=by omega
     rcases ho with ho | ho | ho | ho | ho
     all_goals
      simp only[zX,Nat.reduceShiftRight,Nat.reduceMod,Nat.reduceLT,Nat.reduceMul,Nat.reduceSub,Int.reduceToNat,Int.reduceNeg,Int.reduceLT,Int.reduceLE,Int.reduceEq,Nat.reduceEqDiff,Nat.reduceAdd,Nat.reduceLeDiff,reduceIte,reduceCtorEq,Nat.reduceBEq,c2L,List.contains_cons,List.contains_nil,Bool.or_false,Bool.false_eq_true,if_false,if_true,i64,bV,iD,bD,Re.cells_eq re,ho]
      refine hB _ _ ⟨?_,?_,.inl ⟨E,?_,rfl,?_⟩⟩
      ·rw[Re.cells_eq re,ho]; rfl
      ·rw[hcomp,if_neg (fun h=>o4 h.1),if_neg (fun h=>o5 h.1),if_neg oc]
      ·first | rfl | (rw[hJ]; rfl)
      ·rw[hJ]; exact hpf
 ·have hAs:(cmpI L re).length≤L.length + 1:=by unfold cmpI; split <;> simp
  have hLA:L <+: cmpI L re:=by unfold cmpI; split; exact List.prefix_append _ _; exact List.prefix_refl _
  have hll:=Re.len_le re.kids
  unfold CmpJ
  generalize cmpI L re=A at *
  rintro e s ⟨h0,hcl,⟨E,h1,rfl,hA⟩ | ⟨E0,E,h1,rfl,hL0,hA⟩⟩
  case inl =>
   simp only[zX,Nat.reduceShiftRight,Nat.reduceMod,Nat.reduceLT,Nat.reduceMul,Nat.reduceSub,Int.reduceToNat,Int.reduceNeg,Int.reduceLT,Int.reduceLE,Int.reduceEq,Nat.reduceEqDiff,Nat.reduceAdd,Nat.reduceLeDiff,reduceIte,reduceCtorEq,Nat.reduceBEq,c2L,List.contains_cons,List.contains_nil,Bool.or_false,Bool.false_eq_true,if_false,if_true,i64,bV,iD,bD,h0,h1,Re.cells_eq re,List.length_map]
   refine loop2_rule (fun n e s=>∃(i:Nat) (E:List Int),n=re.kids.length - i∧i≤re.kids.length∧e 0=.d (.el re.cells)∧e 1=.so 0 g 0 A.length∧e 51=i64 re.kids.length∧e 52=i64 i∧(∀k∈re.kids.take i,k.comp A=true)∧A <+: E∧s=[insO g E])
    ⟨_,_,_,Cln.refl,0,E,rfl,by omega,h0,h1,rfl,rfl,by simp,hA,rfl⟩ ?_
   clear hA
   rintro n e s ⟨i,E,rfl,hi,h0,h1,h51,h52,hall,hA,rfl⟩
   rcases Nat.lt_or_ge i re.kids.length with hlt | hge
   ·obtain⟨k,hk⟩:∃k,re.kids[i]?=some k:=⟨_,List.getElem?_eq_getElem hlt⟩
    have hm:=List.mem_of_getElem? hk
    have hlt':(i:Int) < (re.kids.length:Int):=by omega
    have hi0:(0:Int)≤(i:Int):=by omega
    simp only[zX,Nat.reduceShiftRight,Nat.reduceMod,Nat.reduceLT,Nat.reduceMul,Nat.reduceSub,Int.reduceToNat,Int.reduceNeg,Int.reduceLT,Int.reduceLE,Int.reduceEq,Nat.reduceEqDiff,Nat.reduceAdd,Nat.reduceLeDiff,reduceIte,reduceCtorEq,Nat.reduceBEq,c2L,List.contains_cons,List.contains_nil,Bool.or_false,Bool.false_eq_true,if_false,if_true,i64,bV,iD,bD,h0,h1,h51,h52,Re.cells_eq re,hlt',hi0,hlt,Int.toNat_natCast,hk,List.length_map]
    refine callWp_mono (ih k hm (hvk k hm) (hfk k hm) A E g hA (by have:=Re.size_kid hm; omega)) (fun v s' hv=>?_)
    obtain⟨rfl,E',rfl,hA'⟩:=hv
    cases hkn:k.comp A with
    | false =>
     have hr:re.comp L=false:=by rw[hcl,Bool.eq_false_iff]; intro h; rw[List.all_eq_true] at h; have:=h k hm; rw[hkn] at this; cases this
     rw[hr]
     simp only[zX,Nat.reduceShiftRight,Nat.reduceMod,Nat.reduceLT,Nat.reduceMul,Nat.reduceSub,Int.reduceToNat,Int.reduceNeg,Int.reduceLT,Int.reduceLE,Int.reduceEq,Nat.reduceEqDiff,Nat.reduceAdd,Nat.reduceLeDiff,reduceIte,reduceCtorEq,Nat.reduceBEq,c2L,List.contains_cons,List.contains_nil,Bool.or_false,Bool.false_eq_true,if_false,if_true,i64,bV,iD,bD,h0,h1,h51,h52]
     exact⟨insO_ok 1 g E',E',rfl,hLA.trans hA'⟩
    | true =>
     simp only[zX,Nat.reduceShiftRight,Nat.reduceMod,Nat.reduceLT,Nat.reduceMul,Nat.reduceSub,Int.reduceToNat,Int.reduceNeg,Int.reduceLT,Int.reduceLE,Int.reduceEq,Nat.reduceEqDiff,Nat.reduceAdd,Nat.reduceLeDiff,reduceIte,reduceCtorEq,Nat.reduceBEq,c2L,List.contains_cons,List.contains_nil,Bool.or_false,Bool.false_eq_true,if_false,if_true,i64,bV,iD,bD,h0,h1,h51,h52,Bool.not_true]
     refine⟨re.kids.length - (i + 1),_,_,by omega,Cln.refl,i + 1,E',rfl,hlt,?_,?_,?_,?_,?_,hA',rfl⟩ <;> (try simp only[zU,Nat.reduceBEq,Nat.reduceShiftRight,Nat.reduceMod,Nat.reduceEqDiff,reduceIte])
     ·rw[h0,Re.cells_eq re]; rfl
     ·exact h1
     ·exact h51
     ·rw[w64 _ (by omega)]; rfl
     ·intro x hx
      rcases mem_take_succ hk hx with h | rfl
      ·exact hall x h
      ·exact hkn
   ·have hie:i=re.kids.length:=by omega
    subst hie
    have hr:re.comp L=true:=by rw[hcl,List.all_eq_true]; exact fun k hk=>hall k (by rw[List.take_length]; exact hk)
    rw[hr]
    simp only[zX,Nat.reduceShiftRight,Nat.reduceMod,Nat.reduceLT,Nat.reduceMul,Nat.reduceSub,Int.reduceToNat,Int.reduceNeg,Int.reduceLT,Int.reduceLE,Int.reduceEq,Nat.reduceEqDiff,Nat.reduceAdd,Nat.reduceLeDiff,reduceIte,reduceCtorEq,Nat.reduceBEq,c2L,List.contains_cons,List.contains_nil,Bool.or_false,Bool.false_eq_true,if_false,if_true,i64,bV,iD,bD,h0,h1,h51,h52,Int.lt_irrefl]
    exact⟨insO_ok 1 g E,E,rfl,hLA.trans hA⟩
  case inr =>
   simp only[zX,Nat.reduceShiftRight,Nat.reduceMod,Nat.reduceLT,Nat.reduceMul,Nat.reduceSub,Int.reduceToNat,Int.reduceNeg,Int.reduceLT,Int.reduceLE,Int.reduceEq,Nat.reduceEqDiff,Nat.reduceAdd,Nat.reduceLeDiff,reduceIte,reduceCtorEq,Nat.reduceBEq,c2L,List.contains_cons,List.contains_nil,Bool.or_false,Bool.false_eq_true,if_false,if_true,i64,bV,iD,bD,h0,h1,Re.cells_eq re,List.length_map]
   refine loop2_rule (fun n e s=>∃(i:Nat) (E:List Int),n=re.kids.length - i∧i≤re.kids.length∧e 0=.d (.el re.cells)∧e 1=.so 1 0 0 A.length∧e 51=i64 re.kids.length∧e 52=i64 i∧(∀k∈re.kids.take i,k.comp A=true)∧A <+: E∧s=[insO g E0,insO 0 E])
    ⟨_,_,_,Cln.refl,0,E,rfl,by omega,h0,h1,rfl,rfl,by simp,hA,rfl⟩ ?_
   clear hA
   rintro n e s ⟨i,E,rfl,hi,h0,h1,h51,h52,hall,hA,rfl⟩
   rcases Nat.lt_or_ge i re.kids.length with hlt | hge
   ·obtain⟨k,hk⟩:∃k,re.kids[i]?=some k:=⟨_,List.getElem?_eq_getElem hlt⟩
    have hm:=List.mem_of_getElem? hk
    have hlt':(i:Int) < (re.kids.length:Int):=by omega
    have hi0:(0:Int)≤(i:Int):=by omega
    simp only[zX,Nat.reduceShiftRight,Nat.reduceMod,Nat.reduceLT,Nat.reduceMul,Nat.reduceSub,Int.reduceToNat,Int.reduceNeg,Int.reduceLT,Int.reduceLE,Int.reduceEq,Nat.reduceEqDiff,Nat.reduceAdd,Nat.reduceLeDiff,reduceIte,reduceCtorEq,Nat.reduceBEq,c2L,List.contains_cons,List.contains_nil,Bool.or_false,Bool.false_eq_true,if_false,if_true,i64,bV,iD,bD,h0,h1,h51,h52,Re.cells_eq re,hlt',hi0,hlt,Int.toNat_natCast,hk,List.length_map]
    refine call_frame (ih k hm (hvk k hm) (hfk k hm) A E 0 hA (by have:=Re.size_kid hm; omega)) [1] rfl (by simp) ?_ ?_ rfl (by simp only[List.all_cons,List.all_nil,insO_ok,Bool.and_true,List.length_cons,List.length_nil]) (fun v s' hv=>?_)
    ·intro j o hj
     match j with
     | 0 =>
      simp only[List.getElem?_cons_zero,Option.some.injEq] at hj
      subst hj
      show some (insO 0 E)=some (renO [1] (insO 0 E))
      rw[insO_ren]
     | j + 1=>simp at hj
    ·rfl
    obtain⟨rfl,E',rfl,hA'⟩:=hv
    refine⟨rfl,?_⟩
    rw[show renV [1] (bV (k.comp A))=bV (k.comp A) from rfl]
    simp only[List.map_cons,List.map_nil,insO_ren,putObjs,List.set_cons_succ,List.set_cons_zero]
    cases hkn:k.comp A with
    | false =>
     have hr:re.comp L=false:=by rw[hcl,Bool.eq_false_iff]; intro h; rw[List.all_eq_true] at h; have:=h k hm; rw[hkn] at this; cases this
     rw[hr]
     simp only[zX,Nat.reduceShiftRight,Nat.reduceMod,Nat.reduceLT,Nat.reduceMul,Nat.reduceSub,Int.reduceToNat,Int.reduceNeg,Int.reduceLT,Int.reduceLE,Int.reduceEq,Nat.reduceEqDiff,Nat.reduceAdd,Nat.reduceLeDiff,reduceIte,reduceCtorEq,Nat.reduceBEq,c2L,List.contains_cons,List.contains_nil,Bool.or_false,Bool.false_eq_true,if_false,if_true,i64,bV,iD,bD,h0,h1,h51,h52]
     exact⟨insO_ok 1 g E0,E0,rfl,hL0⟩
    | true =>
     simp only[zX,Nat.reduceShiftRight,Nat.reduceMod,Nat.reduceLT,Nat.reduceMul,Nat.reduceSub,Int.reduceToNat,Int.reduceNeg,Int.reduceLT,Int.reduceLE,Int.reduceEq,Nat.reduceEqDiff,Nat.reduceAdd,Nat.reduceLeDiff,reduceIte,reduceCtorEq,Nat.reduceBEq,c2L,List.contains_cons,List.contains_nil,Bool.or_false,Bool.false_eq_true,if_false,if_true,i64,bV,iD,bD,h0,h1,h51,h52,Bool.not_true]
     refine⟨re.kids.length - (i + 1),_,_,by omega,Cln.refl,i + 1,E',rfl,hlt,?_,?_,?_,?_,?_,hA',rfl⟩ <;> (try simp only[zU,Nat.reduceBEq,Nat.reduceShiftRight,Nat.reduceMod,Nat.reduceEqDiff,reduceIte])
     ·rw[h0,Re.cells_eq re]; rfl
     ·exact h1
     ·exact h51
     ·rw[w64 _ (by omega)]; rfl
     ·intro x hx
      rcases mem_take_succ hk hx with h | rfl
      ·exact hall x h
      ·exact hkn
   ·have hie:i=re.kids.length:=by omega
    subst hie
    have hr:re.comp L=true:=by rw[hcl,List.all_eq_true]; exact fun k hk=>hall k (by rw[List.take_length]; exact hk)
    rw[hr]
    simp only[zX,Nat.reduceShiftRight,Nat.reduceMod,Nat.reduceLT,Nat.reduceMul,Nat.reduceSub,Int.reduceToNat,Int.reduceNeg,Int.reduceLT,Int.reduceLE,Int.reduceEq,Nat.reduceEqDiff,Nat.reduceAdd,Nat.reduceLeDiff,reduceIte,reduceCtorEq,Nat.reduceBEq,c2L,List.contains_cons,List.contains_nil,Bool.or_false,Bool.false_eq_true,if_false,if_true,i64,bV,iD,bD,h0,h1,h51,h52,Int.lt_irrefl]
    exact⟨insO_ok 1 g E0,E0,rfl,hL0⟩
end Go.Proofs.Ytdofoappodmcoaa
