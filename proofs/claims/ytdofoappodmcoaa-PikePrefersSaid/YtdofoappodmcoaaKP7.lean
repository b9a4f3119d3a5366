/- A part of the proof (F51 F52 F61 F62). -/
import Derived.Test.YtdofoappodmcoaaKP2
import Derived.Test.YtdofoappodmcoaaKP6
set_option linter.unusedSimpArgs false
set_option linter.unusedVariables false
set_option maxRecDepth 100000
set_option maxHeartbeats 80000000
set_option linter.unusedSimpArgs false
set_option linter.unusedVariables false
namespace Go.Proofs.Ytdofoappodmcoaa
open Go.VL Go.Proofs.Try
end Go.Proofs.Ytdofoappodmcoaa
namespace Go.Proofs.Ytdofoappodmcoaa
open Go.VL Go.Proofs.Try
theorem sameInts_ok (a b:List Int) (ha:a.length≤1000000000):PureOK prog 18 [.d (intsD a),.d (intsD b)] (bV (decide (a=b))):=by
 refine fn_ok func18 rfl ntmps18 results18 rfl 0 51 (by simp) (by simp) ?_
 by_cases hl:(a.length:Int)=b.length
 rotate_left
 ·simp only[zX,simprocAttr,intsD,hl]
  rw[decide_eq_false (fun h=>hl (by rw[h]))]; rfl
 simp only[zX,simprocAttr,intsD,hl]
 refine loop_rule (fun n e s=>∃i:Nat,n=a.length - i∧i≤a.length∧e 0=.d (intsD a)∧e 1=.d (intsD b)∧e 5=i64 i∧s=[]∧a.take i=b.take i)
  ⟨_,_,_,Cln.refl,0,rfl,by omega,rfl,rfl,rfl,rfl,rfl⟩ ?_
 rintro n e s ⟨i,rfl,hi,h0,h1,h5,rfl,htk⟩
 rcases Nat.lt_or_ge i a.length with hlt | hge
 ·have hltb:i < b.length:=by omega
  obtain⟨x,hx⟩:∃x,a[i]?=some x:=⟨_,List.getElem?_eq_getElem hlt⟩
  obtain⟨y,hy⟩:∃y,b[i]?=some y:=⟨_,List.getElem?_eq_getElem hltb⟩
  by_cases hxy:x=y
  ·simp only[zX,simprocAttr,i64,intsD,h0,h1,h5,hlt,hltb,hl]
   refine draw_c mix [] [] (by rfl) ?_
   simp only[zX,simprocAttr,i64,intsD,h0,h1,h5,hlt,hltb,hx,hy,iD,hxy]
   refine⟨a.length - (i + 1),_,_,by omega,Cln.refl,i + 1,rfl,hlt,?_,?_,?_,rfl,by rw[take_get hx,take_get hy,htk,hxy]⟩ <;> (try simp only[zU,Nat.reduceBEq,Nat.reduceShiftRight,Nat.reduceMod,Nat.reduceEqDiff,reduceIte])
   ·exact h0
   ·exact h1
   ·rw[w64 _ (by omega)]; rfl
  ·simp only[zX,simprocAttr,i64,intsD,h0,h1,h5,hlt,hltb,hl]
   refine draw_c mix [] [] (by rfl) ?_
   simp only[zX,simprocAttr,i64,intsD,h0,h1,h5,hlt,hltb,hx,hy,iD,hxy]
   rw[decide_eq_false (fun h=>by subst h; rw[hx] at hy; simp only[Option.some.injEq] at hy; exact hxy hy)]
   all_goals first | exact⟨rfl,rfl⟩ | exact⟨rfl,trivial⟩ | rfl | trivial | (rw[reV_eq]; rfl)
 ·have hie:i=a.length:=by omega
  subst hie
  have hab:a=b:=by
   rw[List.take_length,List.take_of_length_le (by omega)] at htk; exact htk
  simp only[zX,simprocAttr,i64,intsD,h0,h1,h5,Nat.lt_irrefl]
  rw[decide_eq_true hab]
  all_goals first | exact⟨rfl,rfl⟩ | exact⟨rfl,trivial⟩ | rfl | trivial | (rw[reV_eq]; rfl)
theorem has_ok (l:List Int) (x:Int) (hl:l.length≤1000000000):PureOK prog 19 [.d (intsD l),i64 x] (bV (decide (x∈l))):=by
 refine fn_ok func19 rfl ntmps19 results19 rfl 0 51 (by simp) (by simp) ?_
 simp only[zX,simprocAttr,i64]
 refine loop_rule (fun n e s=>∃i:Nat,n=l.length - i∧i≤l.length∧e 0=.d (intsD l)∧e 1=i64 x∧e 5=i64 i∧s=[]∧x ∉ l.take i)
  ⟨_,_,_,Cln.refl,0,rfl,by omega,rfl,rfl,rfl,rfl,by simp⟩ ?_
 rintro n e s ⟨i,rfl,hi,h0,h1,h5,rfl,hno⟩
 rcases Nat.lt_or_ge i l.length with hlt | hge
 ·obtain⟨y,hy⟩:∃y,l[i]?=some y:=⟨_,List.getElem?_eq_getElem hlt⟩
  by_cases hxy:y=x
  ·simp only[zX,simprocAttr,i64,intsD,iD,h0,h1,h5,hlt,hy,hxy]
   rw[decide_eq_true (by rw[← hxy]; exact List.mem_of_getElem? hy)]
   all_goals first | exact⟨rfl,rfl⟩ | exact⟨rfl,trivial⟩ | rfl | trivial | (rw[reV_eq]; rfl)
  ·simp only[zX,simprocAttr,i64,intsD,iD,h0,h1,h5,hlt,hy,hxy]
   refine⟨l.length - (i + 1),_,_,by omega,Cln.refl,i + 1,rfl,hlt,?_,?_,?_,rfl,by rw[take_get hy]; simp [hno,Ne.symm hxy]⟩ <;> (try simp only[zU,Nat.reduceBEq,Nat.reduceShiftRight,Nat.reduceMod,Nat.reduceEqDiff,reduceIte])
   ·exact h0
   ·exact h1
   ·rw[w64 _ (by omega)]; rfl
 ·have hie:i=l.length:=by omega
  subst hie
  rw[List.take_length] at hno
  simp only[zX,simprocAttr,i64,intsD,iD,h0,h1,h5,Nat.lt_irrefl]
  rw[decide_eq_false hno]
  all_goals first | exact⟨rfl,rfl⟩ | exact⟨rfl,trivial⟩ | rfl | trivial | (rw[reV_eq]; rfl)
end Go.Proofs.Ytdofoappodmcoaa
