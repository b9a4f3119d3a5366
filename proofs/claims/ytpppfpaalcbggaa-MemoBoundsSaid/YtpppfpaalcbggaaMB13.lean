/- A part of the proof (F36). -/
import Derived.Test.YtpppfpaalcbggaaMB10
import Derived.Test.YtpppfpaalcbggaaMB8
import Derived.Test.YtpppfpaalcbggaaMB12
set_option linter.unusedSimpArgs false
set_option linter.unusedVariables false
set_option maxRecDepth 100000
set_option maxHeartbeats 80000000
set_option linter.unusedSimpArgs false
set_option linter.unusedVariables false
namespace Go.Proofs.Ytpppfpaalcbggaa
open Go.VL Go.Proofs.Try
def Re.whole (re:Re) (caps top:Int):Bool:=re.every fun r=>nodeOk r caps top
theorem refWhole_ok (caps top:Int) (ht:top≤1114111) (re:Re) (hf:re.fine=true):PureOK prog 59 [reV re,i64 caps,i64 top] (bV (re.whole caps top)):=by
 revert hf
 refine Re.ind (Q:=fun re=>re.fine=true→PureOK prog 59 [reV re,i64 caps,i64 top] (bV (re.whole caps top))) (fun re ih hf=>?_) re
 obtain⟨hset1,hlen,hfk⟩:=Re.fine_spec hf
 have hfo:=refFormed_ok re hf caps top ht
 rw[reV_eq] at hfo
 simp only[i64,iD,bD] at hfo
 refine fn_ok func59 rfl ntmps59 results59 rfl 0 207 (by simp) (by simp) ?_
 simp only[zX,Nat.reduceShiftRight,Nat.reduceMod,Nat.reduceLT,Nat.reduceMul,Nat.reduceSub,Int.reduceToNat,Int.reduceNeg,Int.reduceLT,Int.reduceLE,Int.reduceEq,Nat.reduceEqDiff,Nat.reduceAdd,Nat.reduceLeDiff,reduceIte,reduceCtorEq,Nat.reduceBEq,i64,reV_eq re,iD,bD]
 refine call_pure hfo (by simp [refsV,refsV.go,reV_eq,i64,bV,reEl]) (by simp [refsV,refsV.go,reV_eq,i64,bV,reEl]) ?_
 cases hno:nodeOk re caps top with
 | false =>
  simp only[zX,Nat.reduceShiftRight,Nat.reduceMod,Nat.reduceLT,Nat.reduceMul,Nat.reduceSub,Int.reduceToNat,Int.reduceNeg,Int.reduceLT,Int.reduceLE,Int.reduceEq,Nat.reduceEqDiff,Nat.reduceAdd,Nat.reduceLeDiff,reduceIte,reduceCtorEq,Nat.reduceBEq,i64,bV]
  rw[show re.whole caps top=false by
   rw[Bool.eq_false_iff]; intro h; unfold Re.whole at h; rw[Re.every_iff,hno] at h; exact absurd h.1 (by decide)]
 | true =>
  simp only[zX,Nat.reduceShiftRight,Nat.reduceMod,Nat.reduceLT,Nat.reduceMul,Nat.reduceSub,Int.reduceToNat,Int.reduceNeg,Int.reduceLT,Int.reduceLE,Int.reduceEq,Nat.reduceEqDiff,Nat.reduceAdd,Nat.reduceLeDiff,reduceIte,reduceCtorEq,Nat.reduceBEq,i64,bV]
  refine loop_rule (fun n e s=>∃i:Nat,n=re.kids.length - i∧i≤re.kids.length∧e 1=i64 caps∧e 2=i64 top∧e 3=.rf 0 0 0 0∧e 7=i64 i∧(∀x∈re.kids.take i,x.whole caps top=true)∧s=[⟨0,true,8,[re.cells.map .d]⟩])
   ⟨_,_,_,Cln.refl,0,rfl,by omega,rfl,rfl,rfl,rfl,by simp,by simp [Re.cells_eq re,iD,bD]⟩ ?_
  rintro n e s ⟨i,rfl,hi,h1,h2,h3,h7,hn,rfl⟩
  rcases Nat.lt_or_ge i re.kids.length with hlt | hge
  ·obtain⟨k,hk⟩:∃k,re.kids[i]?=some k:=⟨_,List.getElem?_eq_getElem hlt⟩
   have hm:=List.mem_of_getElem? hk
   simp only[zX,Nat.reduceShiftRight,Nat.reduceMod,Nat.reduceLT,Nat.reduceMul,Nat.reduceSub,Int.reduceToNat,Int.reduceNeg,Int.reduceLT,Int.reduceLE,Int.reduceEq,Nat.reduceEqDiff,Nat.reduceAdd,Nat.reduceLeDiff,reduceIte,reduceCtorEq,Nat.reduceBEq,i64,Re.cells_eq re,iD,bD,h1,h2,h3,h7,hlt,hk]
   refine call_pure (ih k hm (hfk k hm)) (by simp [refsV,refsV.go,reV_eq,i64,bV,reEl]) (by simp [refsV,refsV.go,reV_eq,i64,bV,reEl]) ?_
   cases hkn:k.whole caps top with
   | false =>
    simp only[zX,Nat.reduceShiftRight,Nat.reduceMod,Nat.reduceLT,Nat.reduceMul,Nat.reduceSub,Int.reduceToNat,Int.reduceNeg,Int.reduceLT,Int.reduceLE,Int.reduceEq,Nat.reduceEqDiff,Nat.reduceAdd,Nat.reduceLeDiff,reduceIte,reduceCtorEq,Nat.reduceBEq,i64,bV]
    rw[show re.whole caps top=false by
     rw[Bool.eq_false_iff]; intro h; unfold Re.whole at h; rw[Re.every_iff] at h; have:=h.2 k hm; unfold Re.whole at hkn; rw[hkn] at this; cases this]
   | true =>
    simp only[zX,Nat.reduceShiftRight,Nat.reduceMod,Nat.reduceLT,Nat.reduceMul,Nat.reduceSub,Int.reduceToNat,Int.reduceNeg,Int.reduceLT,Int.reduceLE,Int.reduceEq,Nat.reduceEqDiff,Nat.reduceAdd,Nat.reduceLeDiff,reduceIte,reduceCtorEq,Nat.reduceBEq,i64,bV,Re.cells_eq re,iD,bD,h1,h2,h3,h7]
    refine⟨re.kids.length - (i + 1),_,_,by omega,Cln.refl,i + 1,rfl,hlt,?_,?_,?_,?_,?_,rfl⟩ <;> (try simp only[zU,Nat.reduceBEq,Nat.reduceShiftRight,Nat.reduceMod,Nat.reduceEqDiff,reduceIte])
    ·exact h1
    ·exact h2
    ·exact h3
    ·rw[w64 _ (by omega)]; rfl
    ·intro x hx
     rcases mem_take_succ hk hx with h | rfl
     ·exact hn x h
     ·exact hkn
  ·have hie:i=re.kids.length:=by omega
   subst hie
   simp only[zX,Nat.reduceShiftRight,Nat.reduceMod,Nat.reduceLT,Nat.reduceMul,Nat.reduceSub,Int.reduceToNat,Int.reduceNeg,Int.reduceLT,Int.reduceLE,Int.reduceEq,Nat.reduceEqDiff,Nat.reduceAdd,Nat.reduceLeDiff,reduceIte,reduceCtorEq,Nat.reduceBEq,i64,Re.cells_eq re,iD,bD,h1,h2,h3,h7,Nat.lt_irrefl]
   rw[show re.whole caps top=true from (Re.every_iff re).2 ⟨hno,fun k hk=>hn k (by rw[List.take_length]; exact hk)⟩]
def topR (runes:Bool):Int:=if runes=true then 1114111 else 255
def validR (p:Pat):Int :=
 if 256 < p.re.size∨24 < p.re.depth then 4 else if p.caps < 0∨9 < p.caps∨p.re.whole p.caps (topR p.runes)=false then 1 else 0
theorem refValid_ok (p:Pat) (hf:p.re.fine=true) (hs:p.re.size≤1000000000):PureOK prog 32 [patV p] (i64 (validR p)):=by
 have h1:=refSize_ok p.re hs
 have h2:=refDepth_ok p.re hs
 have h3:=refWhole_ok p.caps (topR p.runes) (by unfold topR; split <;> omega) p.re hf
 unfold validR
 rw[reV_eq] at h1 h2 h3
 cases p with
 | mk re caps runes =>
 simp only[i64,iD,bD] at h1 h2 h3
 simp only at *
 refine fn_ok func32 rfl ntmps32 results32 rfl 0 15 (by simp) (by simp) ?_
 simp only[zX,Nat.reduceShiftRight,Nat.reduceMod,Nat.reduceLT,Nat.reduceMul,Nat.reduceSub,Int.reduceToNat,Int.reduceNeg,Int.reduceLT,Int.reduceLE,Int.reduceEq,Nat.reduceEqDiff,Nat.reduceAdd,Nat.reduceLeDiff,reduceIte,reduceCtorEq,Nat.reduceBEq,i64,patV,Re.cells_eq re,bV,iD,bD]
 refine call_pure h1 (by simp [refsV,refsV.go,reV_eq,i64,bV,reEl]) (by simp [refsV,refsV.go,reV_eq,i64,bV,reEl]) ?_
 simp only[zX,Nat.reduceShiftRight,Nat.reduceMod,Nat.reduceLT,Nat.reduceMul,Nat.reduceSub,Int.reduceToNat,Int.reduceNeg,Int.reduceLT,Int.reduceLE,Int.reduceEq,Nat.reduceEqDiff,Nat.reduceAdd,Nat.reduceLeDiff,reduceIte,reduceCtorEq,Nat.reduceBEq,i64,patV,bV,iD,bD]
 by_cases c1:(256:Int) < re.size
 ·simp only[zX,Nat.reduceShiftRight,Nat.reduceMod,Nat.reduceLT,Nat.reduceMul,Nat.reduceSub,Int.reduceToNat,Int.reduceNeg,Int.reduceLT,Int.reduceLE,Int.reduceEq,Nat.reduceEqDiff,Nat.reduceAdd,Nat.reduceLeDiff,reduceIte,reduceCtorEq,Nat.reduceBEq,c1]
  rw[if_pos (by omega)]
 simp only[zX,Nat.reduceShiftRight,Nat.reduceMod,Nat.reduceLT,Nat.reduceMul,Nat.reduceSub,Int.reduceToNat,Int.reduceNeg,Int.reduceLT,Int.reduceLE,Int.reduceEq,Nat.reduceEqDiff,Nat.reduceAdd,Nat.reduceLeDiff,reduceIte,reduceCtorEq,Nat.reduceBEq,i64,patV,bV,iD,bD,c1]
 refine call_pure h2 (by simp [refsV,refsV.go,reV_eq,i64,bV,reEl]) (by simp [refsV,refsV.go,reV_eq,i64,bV,reEl]) ?_
 simp only[zX,Nat.reduceShiftRight,Nat.reduceMod,Nat.reduceLT,Nat.reduceMul,Nat.reduceSub,Int.reduceToNat,Int.reduceNeg,Int.reduceLT,Int.reduceLE,Int.reduceEq,Nat.reduceEqDiff,Nat.reduceAdd,Nat.reduceLeDiff,reduceIte,reduceCtorEq,Nat.reduceBEq,i64,patV,bV,iD,bD]
 by_cases c2:(24:Int) < re.depth
 ·simp only[zX,Nat.reduceShiftRight,Nat.reduceMod,Nat.reduceLT,Nat.reduceMul,Nat.reduceSub,Int.reduceToNat,Int.reduceNeg,Int.reduceLT,Int.reduceLE,Int.reduceEq,Nat.reduceEqDiff,Nat.reduceAdd,Nat.reduceLeDiff,reduceIte,reduceCtorEq,Nat.reduceBEq,c2]
 rw[if_neg (by omega)]
 simp only[zX,Nat.reduceShiftRight,Nat.reduceMod,Nat.reduceLT,Nat.reduceMul,Nat.reduceSub,Int.reduceToNat,Int.reduceNeg,Int.reduceLT,Int.reduceLE,Int.reduceEq,Nat.reduceEqDiff,Nat.reduceAdd,Nat.reduceLeDiff,reduceIte,reduceCtorEq,Nat.reduceBEq,i64,patV,bV,iD,bD,c2]
 cases runes
 all_goals
  simp only[topR,if_true,if_false,reduceIte,reduceCtorEq,Bool.false_eq_true] at h3 ⊢
  simp only[zX,Nat.reduceShiftRight,Nat.reduceMod,Nat.reduceLT,Nat.reduceMul,Nat.reduceSub,Int.reduceToNat,Int.reduceNeg,Int.reduceLT,Int.reduceLE,Int.reduceEq,Nat.reduceEqDiff,Nat.reduceAdd,Nat.reduceLeDiff,reduceIte,reduceCtorEq,Nat.reduceBEq,i64,patV,bV,iD,bD]
  by_cases c3:caps < 0
  ·simp only[zX,Nat.reduceShiftRight,Nat.reduceMod,Nat.reduceLT,Nat.reduceMul,Nat.reduceSub,Int.reduceToNat,Int.reduceNeg,Int.reduceLT,Int.reduceLE,Int.reduceEq,Nat.reduceEqDiff,Nat.reduceAdd,Nat.reduceLeDiff,reduceIte,reduceCtorEq,Nat.reduceBEq,i64,patV,bV,iD,bD,c3]
  by_cases c4:9 < caps
  ·simp only[zX,Nat.reduceShiftRight,Nat.reduceMod,Nat.reduceLT,Nat.reduceMul,Nat.reduceSub,Int.reduceToNat,Int.reduceNeg,Int.reduceLT,Int.reduceLE,Int.reduceEq,Nat.reduceEqDiff,Nat.reduceAdd,Nat.reduceLeDiff,reduceIte,reduceCtorEq,Nat.reduceBEq,i64,patV,bV,iD,bD,c3,c4,if_true,or_true,true_or]
  simp only[zX,Nat.reduceShiftRight,Nat.reduceMod,Nat.reduceLT,Nat.reduceMul,Nat.reduceSub,Int.reduceToNat,Int.reduceNeg,Int.reduceLT,Int.reduceLE,Int.reduceEq,Nat.reduceEqDiff,Nat.reduceAdd,Nat.reduceLeDiff,reduceIte,reduceCtorEq,Nat.reduceBEq,i64,patV,bV,iD,bD,c3,c4]
  refine call_pure h3 (by simp [refsV,refsV.go,reV_eq,i64,bV,reEl]) (by simp [refsV,refsV.go,reV_eq,i64,bV,reEl]) ?_
  first
   |(cases hw:re.whole caps 1114111 <;> (simp only[zX,Nat.reduceShiftRight,Nat.reduceMod,Nat.reduceLT,Nat.reduceMul,Nat.reduceSub,Int.reduceToNat,Int.reduceNeg,Int.reduceLT,Int.reduceLE,Int.reduceEq,Nat.reduceEqDiff,Nat.reduceAdd,Nat.reduceLeDiff,reduceIte,reduceCtorEq,Nat.reduceBEq,i64,bV]); done)
   |(cases hw:re.whole caps 255 <;> (simp only[zX,Nat.reduceShiftRight,Nat.reduceMod,Nat.reduceLT,Nat.reduceMul,Nat.reduceSub,Int.reduceToNat,Int.reduceNeg,Int.reduceLT,Int.reduceLE,Int.reduceEq,Nat.reduceEqDiff,Nat.reduceAdd,Nat.reduceLeDiff,reduceIte,reduceCtorEq,Nat.reduceBEq,i64,bV]); done)
end Go.Proofs.Ytpppfpaalcbggaa
