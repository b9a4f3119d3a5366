/- A part of the proof (S53). -/
import Derived.Test.YtimnnipoaafdfaaSU43
set_option linter.unusedSimpArgs false
set_option linter.unusedVariables false
set_option maxRecDepth 100000
set_option maxHeartbeats 80000000
namespace Go.Proofs.Ytimnnipoaafdfaa
open Go.VL Go.Proofs.Try
theorem capsEq_ok (c1 c2:CapsL) (hc:c1.length≤1000000000):PureOK prog 45 [.d (capD c1),.d (capD c2)] (bV (decide (c1=c2))):=by
 refine fn_ok func45 rfl ntmps45 results45 rfl 0 12339 (by simp) (by simp) ?_
 by_cases q3:(c1.length:Int)=c2.length
 case neg =>
  simp only[zX,simprocAttr,i64,iD,capD,q3,List.length_map]
  rw[decide_eq_false (fun h=>q3 (by rw[h]))]; rfl
 simp only[zX,simprocAttr,i64,iD,capD,q3,List.length_map]
 refine loop_rule (fun n e s=>∃i:Nat,n=c1.length - i∧i≤c1.length∧e 0=.d (capD c1)∧e 1=.d (capD c2)∧e 12=i64 c2.length∧e 13=i64 i∧s=[]∧c1.take i=c2.take i)
  ⟨_,_,_,Cln.refl,0,rfl,by omega,rfl,rfl,rfl,rfl,rfl,rfl⟩ ?_
 rintro n e s ⟨i,rfl,hi,h0,h1,h12,h13,rfl,htk⟩
 rcases Nat.lt_or_ge i c1.length with hlt | hge
 ·have hltb:i < c2.length:=by omega
  have hlt':(i:Int) < c2.length:=by omega
  have r0:(0:Int)≤(i:Int):=by omega
  obtain⟨x,hx⟩:∃x,c1[i]?=some x:=⟨_,List.getElem?_eq_getElem hlt⟩
  obtain⟨y,hy⟩:∃y,c2[i]?=some y:=⟨_,List.getElem?_eq_getElem hltb⟩
  simp only[zX,simprocAttr,i64,capD,h0,h1,h12,h13,hlt,hltb,q3,hlt',List.length_map]
  refine draw_c mix [] [] (by rfl) ?_
  simp only[zX,simprocAttr,i64,capD,h0,h1,h12,h13,r0,hlt,hltb,hx,hy,iD,spanC,q3,hlt',List.length_map,Int.toNat_natCast]
  by_cases hxy:x=y
  ·have hb:(x.1 == y.1&&x.2 == y.2)=true:=by simp [hxy]
   simp only[zX,simprocAttr,i64,capD,h0,h1,h12,h13,hb]
   refine⟨c1.length - (i + 1),_,_,by omega,Cln.refl,i + 1,rfl,hlt,?_,?_,?_,?_,rfl,by rw[take_get hx,take_get hy,htk,hxy]⟩ <;> (try simp only[zU,Nat.reduceBEq,Nat.reduceShiftRight,Nat.reduceMod,Nat.reduceEqDiff,reduceIte])
   ·exact h0
   ·exact h1
   ·exact h12
   ·rw[w64 _ (by omega)]; rfl
  ·have hb:(x.1 == y.1&&x.2 == y.2)=false:=by
    rw[Bool.eq_false_iff]; intro h; exact hxy (by simp at h; exact Prod.ext h.1 h.2)
   simp only[zX,simprocAttr,i64,capD,h0,h1,h12,h13,hb]
   rw[decide_eq_false (fun h=>by subst h; rw[hx] at hy; simp only[Option.some.injEq] at hy; exact hxy hy)]
   all_goals first | exact⟨rfl,rfl⟩ | exact⟨rfl,trivial⟩ | rfl | trivial | (rw[reV_eq]; rfl)
 ·have hie:i=c1.length:=by omega
  subst hie
  have hab:c1=c2:=by
   rw[List.take_length,List.take_of_length_le (by omega)] at htk; exact htk
  have hnl:¬(c1.length:Int) < c2.length:=by omega
  simp only[zX,simprocAttr,i64,capD,h0,h1,h12,h13,hnl,List.length_map]
  rw[decide_eq_true hab]
  all_goals first | exact⟨rfl,rfl⟩ | exact⟨rfl,trivial⟩ | rfl | trivial | (rw[reV_eq]; rfl)
theorem semEqual_ok (a b:Mat) (hc:a.c.length≤1000000000):PureOK prog 19 [a.v,b.v] (bV (decide (a=b))):=by
 obtain⟨s1,e1,c1⟩:=a
 obtain⟨s2,e2,c2⟩:=b
 simp only at hc
 have hE:=capsEq_ok c1 c2 hc
 simp only[capD,bV] at hE
 refine fn_ok func19 rfl ntmps19 results19 rfl 0 31 (by simp) (by simp) ?_
 by_cases q1:s1=s2
 case neg =>
  simp only[zX,simprocAttr,i64,iD,capD,Mat.v,q1]
  rw[decide_eq_false (fun h=>q1 (by simp only[Mat.mk.injEq] at h; exact h.1))]; rfl
 by_cases q2:e1=e2
 case neg =>
  simp only[zX,simprocAttr,i64,iD,capD,Mat.v,q1,q2]
  rw[decide_eq_false (fun h=>q2 (by simp only[Mat.mk.injEq] at h; exact h.2.1))]; rfl
 subst q1 q2
 simp only[zX,simprocAttr,i64,iD,capD,Mat.v]
 refine call_pure hE rfl rfl ?_
 simp only[zX,simprocAttr,i64,iD,capD,Mat.v,bV]
 exact decide_eq_decide.2 ⟨fun h=>by rw[h],fun h=>by simp only[Mat.mk.injEq] at h; exact h.2.2⟩
end Go.Proofs.Ytimnnipoaafdfaa
