/- A part of the proof (S30). -/
import Derived.Test.YtpppfpaalcbggaaML30
import Derived.Test.YtpppfpaalcbggaaML42
set_option linter.unusedSimpArgs false
set_option linter.unusedVariables false
set_option maxRecDepth 100000
set_option maxHeartbeats 80000000
namespace Go.Proofs.Ytpppfpaalcbggaa
open Go.VL Go.Proofs.Try
theorem symbol_ok (x top:Int):PureOK prog 71 [i64 x,.bx (i64 top)] (bV (decide (x < 0)||decide (top < x))):=by
 refine fn_ok func71 rfl ntmps71 results71 rfl 0 11 (by simp) (by simp) ?_
 by_cases c:x < 0
 ·simp only[zX,Nat.reduceShiftRight,Nat.reduceMod,Nat.reduceLT,Nat.reduceMul,Nat.reduceSub,Int.reduceToNat,Int.reduceNeg,Int.reduceLT,Int.reduceLE,Int.reduceEq,Nat.reduceEqDiff,Nat.reduceAdd,Nat.reduceLeDiff,reduceIte,reduceCtorEq,Nat.reduceBEq,i64,bV,iD,rawAt_bx,c,decide_true,Bool.true_or]
 ·simp only[zX,Nat.reduceShiftRight,Nat.reduceMod,Nat.reduceLT,Nat.reduceMul,Nat.reduceSub,Int.reduceToNat,Int.reduceNeg,Int.reduceLT,Int.reduceLE,Int.reduceEq,Nat.reduceEqDiff,Nat.reduceAdd,Nat.reduceLeDiff,reduceIte,reduceCtorEq,Nat.reduceBEq,i64,bV,iD,rawAt_bx,c,gt_iff_lt,decide_false,Bool.false_or]
def topCl (top:Int):D:=.cl (.func 71) [] [.el [iD top]]
def badB (top x:Int):Bool:=decide (x < 0)||decide (top < x)
theorem index_ok (t:List Int) (top:Int) (ht:t.length≤1000000000):PureOK prog 68 [.d (intsD t),.d (topCl top)] (i64 (match t.findIdx? (badB top) with | some i=>(i:Int) | none=>-1)):=by
 refine fn_ok func68 rfl ntmps68 results68 rfl 0 435 (by simp) (by simp) ?_
 simp only[zX,Nat.reduceShiftRight,Nat.reduceMod,Nat.reduceLT,Nat.reduceMul,Nat.reduceSub,Int.reduceToNat,Int.reduceNeg,Int.reduceLT,Int.reduceLE,Int.reduceEq,Nat.reduceEqDiff,Nat.reduceAdd,Nat.reduceLeDiff,reduceIte,reduceCtorEq,Nat.reduceBEq,i64,iD,intsD,topCl,List.length_map]
 refine loop_rule (fun n e s=>∃i:Nat,n=t.length - i∧i≤t.length∧e 0=.d (intsD t)∧e 1=.d (topCl top)∧e 7=i64 t.length∧e 8=i64 i∧s=[]∧(t.take i).any (badB top)=false)
  ⟨_,_,_,Cln.refl,0,rfl,by omega,rfl,rfl,rfl,rfl,rfl,rfl⟩ ?_
 rintro n e s ⟨i,rfl,hi,h0,h1,h7,h8,rfl,hno⟩
 simp only[topCl,intsD] at h0 h1
 rcases Nat.lt_or_ge i t.length with hlt | hge
 ·obtain⟨x,hx⟩:∃x,t[i]?=some x:=⟨_,List.getElem?_eq_getElem hlt⟩
  have hlt':(i:Int) < t.length:=by omega
  have hs:=symbol_ok x top
  simp only[i64,bV] at hs
  simp only[zX,Nat.reduceShiftRight,Nat.reduceMod,Nat.reduceLT,Nat.reduceMul,Nat.reduceSub,Int.reduceToNat,Int.reduceNeg,Int.reduceLT,Int.reduceLE,Int.reduceEq,Nat.reduceEqDiff,Nat.reduceAdd,Nat.reduceLeDiff,reduceIte,reduceCtorEq,Nat.reduceBEq,i64,iD,h0,h1,h7,h8,hlt',hlt,hx]
  refine call_pure hs rfl rfl ?_
  by_cases c:(decide (x < 0)||decide (top < x))=true
  ·have hfi:t.findIdx? (badB top)=some i:=by
    rw[List.findIdx?_eq_some_iff_getElem]
    refine⟨hlt,?_,fun j hj=>?_⟩
    ·rw[(List.getElem?_eq_some_iff.1 hx).2]; exact c
    ·intro hc
     have hm:t[j]∈t.take i:=by
      rw[List.mem_take_iff_getElem]
      exact⟨j,by omega,rfl⟩
     have:(t.take i).any (badB top)=true:=List.any_eq_true.2 ⟨t[j],hm,hc⟩
     rw[hno] at this; cases this
   rw[hfi]
   simp only[zX,Nat.reduceShiftRight,Nat.reduceMod,Nat.reduceLT,Nat.reduceMul,Nat.reduceSub,Int.reduceToNat,Int.reduceNeg,Int.reduceLT,Int.reduceLE,Int.reduceEq,Nat.reduceEqDiff,Nat.reduceAdd,Nat.reduceLeDiff,reduceIte,reduceCtorEq,Nat.reduceBEq,i64,iD,h0,h1,h7,h8,c]
  ·have c:(decide (x < 0)||decide (top < x))=false:=by simpa using c
   simp only[zX,Nat.reduceShiftRight,Nat.reduceMod,Nat.reduceLT,Nat.reduceMul,Nat.reduceSub,Int.reduceToNat,Int.reduceNeg,Int.reduceLT,Int.reduceLE,Int.reduceEq,Nat.reduceEqDiff,Nat.reduceAdd,Nat.reduceLeDiff,reduceIte,reduceCtorEq,Nat.reduceBEq,i64,iD,h0,h1,h7,h8,c,Bool.false_eq_true]
   refine⟨t.length - (i + 1),_,_,by omega,Cln.refl,i + 1,rfl,hlt,?_,?_,?_,?_,rfl,?_⟩ <;> (try simp only[zU,Nat.reduceBEq,Nat.reduceShiftRight,Nat.reduceMod,Nat.reduceEqDiff,reduceIte])
   ·exact h0
   ·exact h1
   ·exact h7
   ·rw[w64 _ (by omega)]; rfl
   ·rw[take_get hx,List.any_append,hno]
    simp [badB,c]
 ·have hie:i=t.length:=by omega
  subst hie
  rw[List.take_length] at hno
  have hfi:t.findIdx? (badB top)=none:=by
   rw[List.findIdx?_eq_none_iff]
   intro x hx
   exact Bool.eq_false_iff.2 fun h=>by
    have:t.any (badB top)=true:=List.any_eq_true.2 ⟨x,hx,h⟩
    rw[hno] at this; cases this
  have hlt':¬(t.length:Int) < t.length:=by omega
  rw[hfi]
  simp only[zX,Nat.reduceShiftRight,Nat.reduceMod,Nat.reduceLT,Nat.reduceMul,Nat.reduceSub,Int.reduceToNat,Int.reduceNeg,Int.reduceLT,Int.reduceLE,Int.reduceEq,Nat.reduceEqDiff,Nat.reduceAdd,Nat.reduceLeDiff,reduceIte,reduceCtorEq,Nat.reduceBEq,i64,iD,h0,h1,h7,h8,hlt']
theorem bad_any (t:List Int) (top:Int):decide (0≤(match t.findIdx? (badB top) with | some i=>(i:Int) | none=>-1))=t.any (badB top):=by
 cases h:t.findIdx? (badB top) with
 | none =>
  rw[List.findIdx?_eq_none_iff] at h
  have:t.any (badB top)=false:=by
   rw[Bool.eq_false_iff]; intro hc
   obtain⟨x,hx,h1⟩:=List.any_eq_true.1 hc
   rw[h x hx] at h1; cases h1
  rw[this]; rfl
 | some i =>
  rw[List.findIdx?_eq_some_iff_getElem] at h
  obtain⟨h1,h2,_⟩:=h
  have:t.any (badB top)=true:=List.any_eq_true.2 ⟨t[i],List.getElem_mem h1,h2⟩
  rw[this]
  exact decide_eq_true (by show 0≤(i:Int); omega)
theorem contains_ok (t:List Int) (top:Int) (ht:t.length≤1000000000):PureOK prog 51 [.d (intsD t),.d (topCl top)] (bV (t.any (badB top))):=by
 have h1:=index_ok t top ht
 rw[← bad_any t top]
 simp only[i64,topCl,iD] at h1
 generalize (match t.findIdx? (badB top) with | some i=>(i:Int) | none=>-1)=r at *
 refine fn_ok func51 rfl ntmps51 results51 rfl 0 19 (by simp) (by simp) ?_
 simp only[zX,Nat.reduceShiftRight,Nat.reduceMod,Nat.reduceLT,Nat.reduceMul,Nat.reduceSub,Int.reduceToNat,Int.reduceNeg,Int.reduceLT,Int.reduceLE,Int.reduceEq,Nat.reduceEqDiff,Nat.reduceAdd,Nat.reduceLeDiff,reduceIte,reduceCtorEq,Nat.reduceBEq,i64,iD,topCl]
 refine call_pure h1 rfl rfl ?_
 simp only[zX,Nat.reduceShiftRight,Nat.reduceMod,Nat.reduceLT,Nat.reduceMul,Nat.reduceSub,Int.reduceToNat,Int.reduceNeg,Int.reduceLT,Int.reduceLE,Int.reduceEq,Nat.reduceEqDiff,Nat.reduceAdd,Nat.reduceLeDiff,reduceIte,reduceCtorEq,Nat.reduceBEq,i64,iD,ge_iff_le,bV]
def symE (p:Pat) (t:List Int):Int:=if t.any (badB (topR p.runes))=true then 1 else 0
theorem symbols_ok (p:Pat) (t:List Int) (ht:t.length≤1000000000):PureOK prog 61 [.ag ((patC p).map .d),.d (intsD t)] (i64 (symE p t)):=by
 have h1:=contains_ok t (topR p.runes) ht
 unfold symE
 generalize t.any (badB (topR p.runes))=r at *
 cases p with
 | mk re caps runes =>
 simp only[i64,topCl,iD,bV,topR] at h1
 simp only[patC,Re.cells_eq re,List.map_cons,List.map_nil,List.cons_append,List.nil_append,i64,iD,bD,bV]
 refine fn_ok func61 rfl ntmps61 results61 rfl 0 55 (by simp) (by simp) ?_
 cases runes with
 | true =>
  simp only[if_true] at h1
  simp only[zX,Nat.reduceShiftRight,Nat.reduceMod,Nat.reduceLT,Nat.reduceMul,Nat.reduceSub,Int.reduceToNat,Int.reduceNeg,Int.reduceLT,Int.reduceLE,Int.reduceEq,Nat.reduceEqDiff,Nat.reduceAdd,Nat.reduceLeDiff,reduceIte,reduceCtorEq,Nat.reduceBEq,i64,bV,iD,bD]
  refine call_give [1] (by simp [killO,kill1,frzV.go,frzV,frzD]; rfl) ?_
  refine call_pure h1 rfl rfl ?_
  cases r with
  | true=>simp only[zX,Nat.reduceShiftRight,Nat.reduceMod,Nat.reduceLT,Nat.reduceMul,Nat.reduceSub,Int.reduceToNat,Int.reduceNeg,Int.reduceLT,Int.reduceLE,Int.reduceEq,Nat.reduceEqDiff,Nat.reduceAdd,Nat.reduceLeDiff,reduceIte,reduceCtorEq,Nat.reduceBEq,i64,bV,iD,bD]
  | false=>simp only[zX,Nat.reduceShiftRight,Nat.reduceMod,Nat.reduceLT,Nat.reduceMul,Nat.reduceSub,Int.reduceToNat,Int.reduceNeg,Int.reduceLT,Int.reduceLE,Int.reduceEq,Nat.reduceEqDiff,Nat.reduceAdd,Nat.reduceLeDiff,reduceIte,reduceCtorEq,Nat.reduceBEq,i64,bV,iD,bD,Bool.false_eq_true]
 | false =>
  simp only[Bool.false_eq_true,if_false] at h1
  simp only[zX,Nat.reduceShiftRight,Nat.reduceMod,Nat.reduceLT,Nat.reduceMul,Nat.reduceSub,Int.reduceToNat,Int.reduceNeg,Int.reduceLT,Int.reduceLE,Int.reduceEq,Nat.reduceEqDiff,Nat.reduceAdd,Nat.reduceLeDiff,reduceIte,reduceCtorEq,Nat.reduceBEq,i64,bV,iD,bD,Bool.false_eq_true]
  refine call_give [1] (by simp [killO,kill1,frzV.go,frzV,frzD]; rfl) ?_
  refine call_pure h1 rfl rfl ?_
  cases r with
  | true=>simp only[zX,Nat.reduceShiftRight,Nat.reduceMod,Nat.reduceLT,Nat.reduceMul,Nat.reduceSub,Int.reduceToNat,Int.reduceNeg,Int.reduceLT,Int.reduceLE,Int.reduceEq,Nat.reduceEqDiff,Nat.reduceAdd,Nat.reduceLeDiff,reduceIte,reduceCtorEq,Nat.reduceBEq,i64,bV,iD,bD]
  | false=>simp only[zX,Nat.reduceShiftRight,Nat.reduceMod,Nat.reduceLT,Nat.reduceMul,Nat.reduceSub,Int.reduceToNat,Int.reduceNeg,Int.reduceLT,Int.reduceLE,Int.reduceEq,Nat.reduceEqDiff,Nat.reduceAdd,Nat.reduceLeDiff,reduceIte,reduceCtorEq,Nat.reduceBEq,i64,bV,iD,bD,Bool.false_eq_true]
def checkS (ps:List Pat) (t:List Int) (fuel:Int):Int :=
 match ps.find? (fun p=>decide (validR p≠0)) with
 | some p=>validR p
 | none=>if 65536 < t.length then 4 else match ps.find? (fun p=>decide (symE p t≠0)) with
  | some p=>symE p t
  | none=>if fuel < 0∨1099511627776 < fuel then 1 else 0
theorem find_take {α:Type} {P:α→Bool} {l:List α} {i:Nat} {x:α} (hx:l[i]?=some x) (h:(l.take i).find? P=none) (hp:P x=true):l.find? P=some x:=by
 conv=>lhs; rw[← List.take_append_drop i l]
 rw[List.find?_append,h]
 obtain⟨hlt,he⟩:=List.getElem?_eq_some_iff.1 hx
 rw[List.drop_eq_getElem_cons hlt,he,List.find?_cons_of_pos hp]
 rfl
theorem find_succ {α:Type} {P:α→Bool} {l:List α} {i:Nat} {x:α} (hx:l[i]?=some x) (h:(l.take i).find? P=none) (hp:P x=false):(l.take (i + 1)).find? P=none:=by
 rw[take_get hx,List.find?_append,h]
 simp [hp]
theorem check_okS (ps:List Pat) (t:List Int) (fuel:Int) (hps:ps.length≤1000000) (hf:∀p∈ps,p.re.fine=true) (ht:t.length≤1000000000):PureOK prog 38 [.d (intsD t),i64 fuel,.d (.sl (ps.map patC))] (i64 (checkS ps t fuel)):=by
 refine fn_ok func38 rfl ntmps38 results38 rfl 0 1879112519 (by simp) (by simp) ?_
 simp only[zX,Nat.reduceShiftRight,Nat.reduceMod,Nat.reduceLT,Nat.reduceMul,Nat.reduceSub,Int.reduceToNat,Int.reduceNeg,Int.reduceLT,Int.reduceLE,Int.reduceEq,Nat.reduceEqDiff,Nat.reduceAdd,Nat.reduceLeDiff,reduceIte,reduceCtorEq,Nat.reduceBEq,i64,iD,bD,intsD,List.length_map]
 refine loop_rule (fun n e s=>∃i:Nat,n=ps.length - i∧i≤ps.length∧e 0=.d (intsD t)∧e 1=i64 fuel∧e 2=.d (.sl (ps.map patC))∧e 13=.d (.sl (ps.map patC))∧e 14=i64 ps.length∧e 15=i64 i∧s=[]∧(ps.take i).find? (fun p=>decide (validR p≠0))=none)
  ⟨_,_,_,Cln.refl,0,rfl,by omega,rfl,rfl,rfl,rfl,rfl,rfl,rfl,rfl⟩ ?_
 rintro n e s ⟨i,rfl,hi,h0,h1,h2,h13,h14,h15,rfl,hno⟩
 simp only[intsD] at h0
 rcases Nat.lt_or_ge i ps.length with hlt | hge
 ·obtain⟨p,hp⟩:∃p,ps[i]?=some p:=⟨_,List.getElem?_eq_getElem hlt⟩
  have hlt':(i:Int) < ps.length:=by omega
  have hv:=valid_ok p (hf p (List.mem_of_getElem? hp))
  have hpc:patC p=p.re.cells++[iD p.caps,bD p.runes]:=rfl
  rw[hpc,Re.cells_eq p.re] at hv
  simp only[i64,iD,bD,List.map_cons,List.map_nil,List.cons_append,List.nil_append] at hv
  simp only[zX,Nat.reduceShiftRight,Nat.reduceMod,Nat.reduceLT,Nat.reduceMul,Nat.reduceSub,Int.reduceToNat,Int.reduceNeg,Int.reduceLT,Int.reduceLE,Int.reduceEq,Nat.reduceEqDiff,Nat.reduceAdd,Nat.reduceLeDiff,reduceIte,reduceCtorEq,Nat.reduceBEq,i64,iD,bD,h0,h1,h2,h13,h14,h15,hlt',hlt,hp,hpc,Re.cells_eq p.re,List.cons_append,List.nil_append,List.map_cons,List.map_nil,List.length_cons,List.length_nil]
  refine call_pure hv rfl rfl ?_
  by_cases c:validR p=0
  ·simp only[zX,Nat.reduceShiftRight,Nat.reduceMod,Nat.reduceLT,Nat.reduceMul,Nat.reduceSub,Int.reduceToNat,Int.reduceNeg,Int.reduceLT,Int.reduceLE,Int.reduceEq,Nat.reduceEqDiff,Nat.reduceAdd,Nat.reduceLeDiff,reduceIte,reduceCtorEq,Nat.reduceBEq,i64,iD,bD,h0,h1,h2,h13,h14,h15,c,ne_eq,not_true_eq_false]
   refine⟨ps.length - (i + 1),_,_,by omega,Cln.cut (s':=[]) 0 (Nat.le_refl _) rfl rfl [0,1,2,13,14,15] (by simp [updE,trimE_app,refsV,i64,h0,h1,h2,h13,h14,h15]),i + 1,rfl,hlt,?_,?_,?_,?_,?_,?_,rfl,find_succ hp hno (by simp [c])⟩ <;> (try simp only[zU,Nat.reduceBEq,Nat.reduceShiftRight,Nat.reduceMod,Nat.reduceEqDiff,reduceIte])
   ·exact h0
   ·exact h1
   ·exact h2
   ·exact h13
   ·exact h14
   ·rw[w64 _ (by omega)]; rfl
  ·have hfi:=find_take hp hno (by simpa using c)
   unfold checkS
   rw[hfi]
   simp only[zX,Nat.reduceShiftRight,Nat.reduceMod,Nat.reduceLT,Nat.reduceMul,Nat.reduceSub,Int.reduceToNat,Int.reduceNeg,Int.reduceLT,Int.reduceLE,Int.reduceEq,Nat.reduceEqDiff,Nat.reduceAdd,Nat.reduceLeDiff,reduceIte,reduceCtorEq,Nat.reduceBEq,i64,iD,bD,h0,h1,h2,h13,h14,h15,c,ne_eq,not_false_eq_true]
 ·have hie:i=ps.length:=by omega
  subst hie
  rw[List.take_length] at hno
  have hlt':¬(ps.length:Int) < ps.length:=by omega
  unfold checkS
  rw[hno]
  simp only
  by_cases cl:65536 < t.length
  ·have cl':(65536:Int) < (t.length:Int):=by omega
   rw[if_pos cl]
   simp only[zX,Nat.reduceShiftRight,Nat.reduceMod,Nat.reduceLT,Nat.reduceMul,Nat.reduceSub,Int.reduceToNat,Int.reduceNeg,Int.reduceLT,Int.reduceLE,Int.reduceEq,Nat.reduceEqDiff,Nat.reduceAdd,Nat.reduceLeDiff,reduceIte,reduceCtorEq,Nat.reduceBEq,i64,iD,h0,h1,h2,h13,h14,h15,hlt',gt_iff_lt,List.length_map,cl']
  have cl':¬(65536:Int) < (t.length:Int):=by omega
  rw[if_neg cl]
  simp only[zX,Nat.reduceShiftRight,Nat.reduceMod,Nat.reduceLT,Nat.reduceMul,Nat.reduceSub,Int.reduceToNat,Int.reduceNeg,Int.reduceLT,Int.reduceLE,Int.reduceEq,Nat.reduceEqDiff,Nat.reduceAdd,Nat.reduceLeDiff,reduceIte,reduceCtorEq,Nat.reduceBEq,i64,iD,h0,h1,h2,h13,h14,h15,hlt',gt_iff_lt,List.length_map,cl']
  refine loop_rule (fun n e s=>∃i:Nat,n=ps.length - i∧i≤ps.length∧e 0=.d (intsD t)∧e 1=i64 fuel∧e 28=.d (.sl (ps.map patC))∧e 29=i64 ps.length∧e 30=i64 i∧s=[]∧(ps.take i).find? (fun p=>decide (symE p t≠0))=none)
   ⟨_,_,_,Cln.refl,0,rfl,by omega,?_,?_,rfl,rfl,rfl,rfl,rfl⟩ ?_ <;> (try simp only[zU,Nat.reduceBEq,Nat.reduceShiftRight,Nat.reduceMod,Nat.reduceEqDiff,reduceIte])
  ·exact h0
  ·exact h1
  clear h0 h1 h2 h13 h14 h15 hlt' hi hno
  rintro n e s ⟨i,rfl,hi,h0,h1,h28,h29,h30,rfl,hno⟩
  simp only[intsD] at h0
  rcases Nat.lt_or_ge i ps.length with hlt | hge
  ·obtain⟨p,hp⟩:∃p,ps[i]?=some p:=⟨_,List.getElem?_eq_getElem hlt⟩
   have hlt':(i:Int) < ps.length:=by omega
   have hv:=symbols_ok p t ht
   have hpc:patC p=p.re.cells++[iD p.caps,bD p.runes]:=rfl
   rw[hpc,Re.cells_eq p.re] at hv
   simp only[i64,iD,bD,intsD,List.map_cons,List.map_nil,List.cons_append,List.nil_append] at hv
   simp only[zX,Nat.reduceShiftRight,Nat.reduceMod,Nat.reduceLT,Nat.reduceMul,Nat.reduceSub,Int.reduceToNat,Int.reduceNeg,Int.reduceLT,Int.reduceLE,Int.reduceEq,Nat.reduceEqDiff,Nat.reduceAdd,Nat.reduceLeDiff,reduceIte,reduceCtorEq,Nat.reduceBEq,i64,iD,bD,h0,h1,h28,h29,h30,hlt',hlt,hp,hpc,Re.cells_eq p.re,List.cons_append,List.nil_append,List.map_cons,List.map_nil,List.length_cons,List.length_nil]
   refine call_pure hv rfl rfl ?_
   by_cases c:symE p t=0
   ·simp only[zX,Nat.reduceShiftRight,Nat.reduceMod,Nat.reduceLT,Nat.reduceMul,Nat.reduceSub,Int.reduceToNat,Int.reduceNeg,Int.reduceLT,Int.reduceLE,Int.reduceEq,Nat.reduceEqDiff,Nat.reduceAdd,Nat.reduceLeDiff,reduceIte,reduceCtorEq,Nat.reduceBEq,i64,iD,bD,h0,h1,h28,h29,h30,c,ne_eq,not_true_eq_false]
    refine⟨ps.length - (i + 1),_,_,by omega,Cln.cut (s':=[]) 0 (Nat.le_refl _) rfl rfl [0,1,28,29,30] (by simp [updE,trimE_app,refsV,i64,h0,h1,h28,h29,h30]),i + 1,rfl,hlt,?_,?_,?_,?_,?_,rfl,find_succ hp hno (by simp [c])⟩ <;> (try simp only[zU,Nat.reduceBEq,Nat.reduceShiftRight,Nat.reduceMod,Nat.reduceEqDiff,reduceIte])
    ·exact h0
    ·exact h1
    ·exact h28
    ·exact h29
    ·rw[w64 _ (by omega)]; rfl
   ·have hfi:=find_take hp hno (by simpa using c)
    rw[hfi]
    simp only[zX,Nat.reduceShiftRight,Nat.reduceMod,Nat.reduceLT,Nat.reduceMul,Nat.reduceSub,Int.reduceToNat,Int.reduceNeg,Int.reduceLT,Int.reduceLE,Int.reduceEq,Nat.reduceEqDiff,Nat.reduceAdd,Nat.reduceLeDiff,reduceIte,reduceCtorEq,Nat.reduceBEq,i64,iD,bD,h0,h1,h28,h29,h30,c,ne_eq,not_false_eq_true]
  ·have hie:i=ps.length:=by omega
   subst hie
   rw[List.take_length] at hno
   have hlt':¬(ps.length:Int) < ps.length:=by omega
   rw[hno]
   simp only
   by_cases c1:fuel < 0
   ·rw[if_pos (.inl c1)]
    simp only[zX,Nat.reduceShiftRight,Nat.reduceMod,Nat.reduceLT,Nat.reduceMul,Nat.reduceSub,Int.reduceToNat,Int.reduceNeg,Int.reduceLT,Int.reduceLE,Int.reduceEq,Nat.reduceEqDiff,Nat.reduceAdd,Nat.reduceLeDiff,reduceIte,reduceCtorEq,Nat.reduceBEq,i64,iD,bD,h0,h1,h28,h29,h30,hlt',c1]
   by_cases c2:1099511627776 < fuel
   ·rw[if_pos (.inr c2)]
    simp only[zX,Nat.reduceShiftRight,Nat.reduceMod,Nat.reduceLT,Nat.reduceMul,Nat.reduceSub,Int.reduceToNat,Int.reduceNeg,Int.reduceLT,Int.reduceLE,Int.reduceEq,Nat.reduceEqDiff,Nat.reduceAdd,Nat.reduceLeDiff,reduceIte,reduceCtorEq,Nat.reduceBEq,i64,iD,bD,h0,h1,h28,h29,h30,hlt',c1,c2,gt_iff_lt]
   ·rw[if_neg (by omega)]
    simp only[zX,Nat.reduceShiftRight,Nat.reduceMod,Nat.reduceLT,Nat.reduceMul,Nat.reduceSub,Int.reduceToNat,Int.reduceNeg,Int.reduceLT,Int.reduceLE,Int.reduceEq,Nat.reduceEqDiff,Nat.reduceAdd,Nat.reduceLeDiff,reduceIte,reduceCtorEq,Nat.reduceBEq,i64,iD,bD,h0,h1,h28,h29,h30,hlt',c1,c2,gt_iff_lt]
theorem check_one (p:Pat) (t:List Int) (fuel:Int):checkS [p] t fuel=valid7 p t fuel:=by
 unfold checkS valid7 symE
 have hb:t.any (badB (topR p.runes))=!(t.all (symB p.runes)):=by
  rw[Bool.eq_iff_iff]
  simp only[List.any_eq_true,Bool.not_eq_true',Bool.eq_false_iff,ne_eq,List.all_eq_true,badB,symB,Bool.or_eq_true,Bool.and_eq_true,decide_eq_true_eq]
  constructor
  ·rintro ⟨x,hx,h⟩ hc
   have:=hc x hx
   omega
  ·intro h
   apply Classical.byContradiction
   intro hc
   apply h
   intro x hx
   apply Classical.byContradiction
   intro h2
   exact hc ⟨x,hx,by omega⟩
 have he:(if t.any (badB (topR p.runes))=true then (1:Int) else 0)=if t.all (symB p.runes)=false then 1 else 0:=by
  rw[hb]; cases t.all (symB p.runes) <;> rfl
 by_cases h:validR p=0
 ·simp only[List.find?,h,ne_eq,not_true_eq_false,decide_false,if_false,he]
  by_cases h2:65536 < t.length
  ·simp [h2]
  ·cases hs:t.all (symB p.runes) with
   | true=>simp [h2]
   | false =>
    have ha:t.any (badB (topR p.runes))=true:=by rw[hb,hs]; rfl
    obtain⟨x,hx⟩:=List.any_eq_true.1 ha
    simp [h2]
    exact⟨x,hx⟩
 ·simp [List.find?,h]
end Go.Proofs.Ytpppfpaalcbggaa
