/- A part of the proof (G21 G22 G23 G24 G25 G26 G27 G33). -/
import Derived.Test.YtpppfpaalcbggaaML29
set_option linter.unusedSimpArgs false
set_option linter.unusedVariables false
set_option maxRecDepth 100000
set_option maxHeartbeats 80000000
namespace Go.Proofs.Ytpppfpaalcbggaa
open Go.VL Go.Proofs.Try
inductive BRef where
 | nil
 | root
 | el (re:Re)
inductive BGoal where
 | nil
 | mk (kind:Int) (re:BRef) (n at_:Int) (next:BGoal)
structure BPlace where
 at_:Int
 caps:CapsL
 todo:BGoal
structure Mst where
 p:Pat
 t:List Int
 ownText:Bool
 own:List Int
 ogen:Nat
 stk:List (Option BPlace)
 top:Nat
 gen:Nat
 deepest:Int
 start:Int
 steps:Int
 fuel:Int
 spent:Bool
 ready:Bool
def Mst.step (m:Mst):Mst:=if m.steps < m.fuel then { m with steps:=m.steps + 1 } else { m with spent:=true }
def Mst.same (m:Mst):Prop:=m.ownText=true→m.own=m.t
instance (m:Mst):Decidable m.same:=by unfold Mst.same; infer_instance
def Mst.good (m:Mst) (p:BPlace):Prop:=(0≤m.steps∧m.steps≤10000000000000∧m.top≤m.stk.length∧m.top≤1200000000000)∧(0≤p.at_∧p.at_≤m.t.length∧p.caps.length≤1000000000)∧m.t.length≤1000000∧m.same
instance decGoodB (m:Mst) (p:BPlace):Decidable (m.good p):=by unfold Mst.good; infer_instance
end Go.Proofs.Ytpppfpaalcbggaa
namespace Go.Proofs.Ytpppfpaalcbggaa
open Go.VL Go.Proofs.Try
theorem slEqual_ok (a b:List Int) (ha:a.length≤1000000000):PureOK prog 96 [.d (intsD a),.d (intsD b)] (bV (decide (a=b))):=by
 refine fn_ok func96 rfl ntmps96 results96 rfl 0 12339 (by simp) (by simp) ?_
 by_cases hl:a.length=b.length
 ·have hli:(a.length:Int)=b.length:=by omega
  simp only[zX,Nat.reduceShiftRight,Nat.reduceMod,Nat.reduceLT,Nat.reduceMul,Nat.reduceSub,Int.reduceToNat,Int.reduceNeg,Int.reduceLT,Int.reduceLE,Int.reduceEq,Nat.reduceEqDiff,Nat.reduceAdd,Nat.reduceLeDiff,reduceIte,reduceCtorEq,Nat.reduceBEq,i64,bV,intsD,hli,ne_eq,not_true_eq_false,if_false]
  refine loop_rule (fun n e s=>∃i:Nat,n=a.length - i∧i≤a.length∧e 0=.d (intsD a)∧e 1=.d (intsD b)∧e 12=i64 a.length∧e 13=i64 i∧s=[]∧a.take i=b.take i)
   ⟨_,_,_,Cln.refl,0,rfl,by omega,rfl,rfl,?_,rfl,rfl,rfl⟩ ?_
  ·rw[hli]; rfl
  rintro n e s ⟨i,rfl,hi,h0,h1,h12,h13,rfl,he⟩
  rcases Nat.lt_or_ge i a.length with hlt | hge
  ·obtain⟨x,hx⟩:∃x,a[i]?=some x:=⟨_,List.getElem?_eq_getElem hlt⟩
   obtain⟨y,hy⟩:∃y,b[i]?=some y:=⟨_,List.getElem?_eq_getElem (by omega)⟩
   have hlb:i < b.length:=by omega
   by_cases c:x=y
   ·subst c
    simp only[zX,Nat.reduceShiftRight,Nat.reduceMod,Nat.reduceLT,Nat.reduceMul,Nat.reduceSub,Int.reduceToNat,Int.reduceNeg,Int.reduceLT,Int.reduceLE,Int.reduceEq,Nat.reduceEqDiff,Nat.reduceAdd,Nat.reduceLeDiff,reduceIte,reduceCtorEq,Nat.reduceBEq,i64,bV,intsD,iD,h0,h1,h12,h13,hlt,hlb,hx,hy,ne_eq,not_true_eq_false]
    refine draw_c mix [] [] (by rfl) ?_
    simp only[zX,Nat.reduceShiftRight,Nat.reduceMod,Nat.reduceLT,Nat.reduceMul,Nat.reduceSub,Int.reduceToNat,Int.reduceNeg,Int.reduceLT,Int.reduceLE,Int.reduceEq,Nat.reduceEqDiff,Nat.reduceAdd,Nat.reduceLeDiff,reduceIte,reduceCtorEq,Nat.reduceBEq,i64,bV,intsD,iD,h0,h1,h12,h13,hlt,hlb,hx,hy,ne_eq,not_true_eq_false]
    refine⟨a.length - (i + 1),_,_,by omega,Cln.refl,i + 1,rfl,hlt,?_,?_,?_,?_,rfl,?_⟩ <;> (try simp only[zU,Nat.reduceBEq,Nat.reduceShiftRight,Nat.reduceMod,Nat.reduceEqDiff,reduceIte])
    ·exact h0
    ·exact h1
    ·exact h12
    ·rw[w64 _ (by omega)]; rfl
    ·rw[take_get hx,take_get hy,he]
   ·have hne:¬a=b:=by
     intro h
     rw[h] at hx
     rw[hx] at hy
     exact c (Option.some.inj hy)
    rw[decide_eq_false hne]
    simp only[zX,Nat.reduceShiftRight,Nat.reduceMod,Nat.reduceLT,Nat.reduceMul,Nat.reduceSub,Int.reduceToNat,Int.reduceNeg,Int.reduceLT,Int.reduceLE,Int.reduceEq,Nat.reduceEqDiff,Nat.reduceAdd,Nat.reduceLeDiff,reduceIte,reduceCtorEq,Nat.reduceBEq,i64,bV,intsD,iD,h0,h1,h12,h13,hlt,hlb,hx,hy,ne_eq,c,not_false_eq_true]
    refine draw_c mix [] [] (by rfl) ?_
    simp only[zX,Nat.reduceShiftRight,Nat.reduceMod,Nat.reduceLT,Nat.reduceMul,Nat.reduceSub,Int.reduceToNat,Int.reduceNeg,Int.reduceLT,Int.reduceLE,Int.reduceEq,Nat.reduceEqDiff,Nat.reduceAdd,Nat.reduceLeDiff,reduceIte,reduceCtorEq,Nat.reduceBEq,i64,bV,intsD,iD,h0,h1,h12,h13,hlt,hlb,hx,hy,ne_eq,c,not_false_eq_true]
    all_goals first | exact⟨rfl,rfl⟩ | exact⟨rfl,trivial⟩ | rfl | trivial | (rw[reV_eq]; rfl)
  ·have hia:i=a.length:=by omega
   subst hia
   rw[List.take_length,hl,List.take_length] at he
   rw[decide_eq_true he]
   simp only[zX,Nat.reduceShiftRight,Nat.reduceMod,Nat.reduceLT,Nat.reduceMul,Nat.reduceSub,Int.reduceToNat,Int.reduceNeg,Int.reduceLT,Int.reduceLE,Int.reduceEq,Nat.reduceEqDiff,Nat.reduceAdd,Nat.reduceLeDiff,reduceIte,reduceCtorEq,Nat.reduceBEq,i64,bV,intsD,iD,h0,h1,h12,h13,Nat.lt_irrefl]
   all_goals first | exact⟨rfl,rfl⟩ | exact⟨rfl,trivial⟩ | rfl | trivial | (rw[reV_eq]; rfl)
 ·have hli:¬(a.length:Int)=b.length:=by omega
  have hne:¬a=b:=fun h=>hl (by rw[h])
  rw[decide_eq_false hne]
  simp only[zX,Nat.reduceShiftRight,Nat.reduceMod,Nat.reduceLT,Nat.reduceMul,Nat.reduceSub,Int.reduceToNat,Int.reduceNeg,Int.reduceLT,Int.reduceLE,Int.reduceEq,Nat.reduceEqDiff,Nat.reduceAdd,Nat.reduceLeDiff,reduceIte,reduceCtorEq,Nat.reduceBEq,i64,bV,intsD,hli,ne_eq,not_false_eq_true,if_true]
  all_goals first | exact⟨rfl,rfl⟩ | exact⟨rfl,trivial⟩ | rfl | trivial | (rw[reV_eq]; rfl)
theorem same_take {t:List Int} {a i:Nat}:∀{n:Nat},a + n≤t.length→i + n≤t.length→decide ((t.drop a).take n=(t.drop i).take n)=sameR t a i n
 | 0,_,_=>by simp [sameR]
 | n + 1,h1,h2=>by
  have e:∀k:Nat,k + (n + 1)≤t.length→(t.drop k).take (n + 1)=(t.drop k).take n++[tAt t ((k:Int) + (n:Int))]:=by
   intro k hk
   have hx:(t.drop k)[n]?=some (tAt t ((k:Int) + (n:Int))):=by
    rw[List.getElem?_drop]
    have:=tAt_get (t:=t) (i:=(k:Int) + (n:Int)) (by omega) (by omega)
    rw[show ((k:Int) + (n:Int)).toNat=k + n by omega] at this
    exact this
   exact take_get hx
  rw[e a h1,e i h2,sameR_succ,← same_take (n:=n) (by omega) (by omega)]
  rw[Bool.eq_iff_iff]
  simp only[decide_eq_true_eq,Bool.and_eq_true,beq_iff_eq]
  constructor
  ·intro h
   have:=List.append_inj' h rfl
   exact⟨this.1,by simpa using this.2⟩
  ·rintro ⟨h,h'⟩
   rw[h,h']
theorem tword_ok (x:Int):PureOK prog 108 [i64 x] (bV (wordB x)):=by
 refine fn_ok func108 rfl ntmps108 results108 rfl 0 5 (by simp) (by simp) ?_
 simp only[zX,Nat.reduceShiftRight,Nat.reduceMod,Nat.reduceLT,Nat.reduceMul,Nat.reduceSub,Int.reduceToNat,Int.reduceNeg,Int.reduceLT,Int.reduceLE,Int.reduceEq,Nat.reduceEqDiff,Nat.reduceAdd,Nat.reduceLeDiff,reduceIte,reduceCtorEq,Nat.reduceBEq,i64]
 repeat' (first
 |(with_reducible refine And.intro (by first | omega | exact⟨by omega,by omega⟩ | (simp; done)) ?_)
 |(with_reducible refine condS (fun hc=>?_) (fun hc=>?_) <;> simp only[zX,Nat.reduceShiftRight,Nat.reduceMod,Nat.reduceLT,Nat.reduceMul,Nat.reduceSub,Int.reduceToNat,Int.reduceNeg,Int.reduceLT,Int.reduceLE,Int.reduceEq,Nat.reduceEqDiff,Nat.reduceAdd,Nat.reduceLeDiff,reduceIte,reduceCtorEq,Nat.reduceBEq,i64,ge_iff_le,hc])
 |(with_reducible refine guardS_t (fun hc=>?_) (fun hc=>?_) <;> simp only[zX,Nat.reduceShiftRight,Nat.reduceMod,Nat.reduceLT,Nat.reduceMul,Nat.reduceSub,Int.reduceToNat,Int.reduceNeg,Int.reduceLT,Int.reduceLE,Int.reduceEq,Nat.reduceEqDiff,Nat.reduceAdd,Nat.reduceLeDiff,reduceIte,reduceCtorEq,Nat.reduceBEq,i64,ge_iff_le,hc])
 |(with_reducible refine guardS_f (fun hc=>?_) (fun hc=>?_) <;> simp only[zX,Nat.reduceShiftRight,Nat.reduceMod,Nat.reduceLT,Nat.reduceMul,Nat.reduceSub,Int.reduceToNat,Int.reduceNeg,Int.reduceLT,Int.reduceLE,Int.reduceEq,Nat.reduceEqDiff,Nat.reduceAdd,Nat.reduceLeDiff,reduceIte,reduceCtorEq,Nat.reduceBEq,i64,ge_iff_le,hc])
 |(with_reducible refine guardS_nt (fun hc=>?_) (fun hc=>?_) <;> simp only[zX,Nat.reduceShiftRight,Nat.reduceMod,Nat.reduceLT,Nat.reduceMul,Nat.reduceSub,Int.reduceToNat,Int.reduceNeg,Int.reduceLT,Int.reduceLE,Int.reduceEq,Nat.reduceEqDiff,Nat.reduceAdd,Nat.reduceLeDiff,reduceIte,reduceCtorEq,Nat.reduceBEq,i64,ge_iff_le,hc])
 |(with_reducible refine guardS_nf (fun hc=>?_) (fun hc=>?_) <;> simp only[zX,Nat.reduceShiftRight,Nat.reduceMod,Nat.reduceLT,Nat.reduceMul,Nat.reduceSub,Int.reduceToNat,Int.reduceNeg,Int.reduceLT,Int.reduceLE,Int.reduceEq,Nat.reduceEqDiff,Nat.reduceAdd,Nat.reduceLeDiff,reduceIte,reduceCtorEq,Nat.reduceBEq,i64,ge_iff_le,hc])
 |(with_reducible refine condSb (fun hc=>?_) (fun hc=>?_) <;> simp only[zX,Nat.reduceShiftRight,Nat.reduceMod,Nat.reduceLT,Nat.reduceMul,Nat.reduceSub,Int.reduceToNat,Int.reduceNeg,Int.reduceLT,Int.reduceLE,Int.reduceEq,Nat.reduceEqDiff,Nat.reduceAdd,Nat.reduceLeDiff,reduceIte,reduceCtorEq,Nat.reduceBEq,i64,ge_iff_le,hc])
 |(with_reducible refine guardS_b (fun hc=>?_) (fun hc=>?_) <;> simp only[zX,Nat.reduceShiftRight,Nat.reduceMod,Nat.reduceLT,Nat.reduceMul,Nat.reduceSub,Int.reduceToNat,Int.reduceNeg,Int.reduceLT,Int.reduceLE,Int.reduceEq,Nat.reduceEqDiff,Nat.reduceAdd,Nat.reduceLeDiff,reduceIte,reduceCtorEq,Nat.reduceBEq,i64,ge_iff_le,hc]))
 all_goals (simp only[wordB,bV]; simp [*]; try omega)
theorem assert_ok (n:Int) (t:List Int) (i:Int) (hn0:0≤n) (hn1:n≤5) (ht:t.length≤1000000) (h0:0≤i) (h1:i≤t.length):PureOK prog 99 [i64 n,.d (intsD t),i64 i] (bV (holdsR n t i)):=by
 have w1:IntKind.i64.wrap (i - 1)=i - 1:=w64 _ (by omega)
 have hw:=tword_ok (tAt t (i - 1))
 have hw2:=tword_ok (tAt t i)
 simp only[i64,bV] at hw hw2
 have u1:¬i < 0:=by omega
 have u2:¬(t.length:Int) < i:=by omega
 have hg1:0 < i→t[(i - 1).toNat]?=some (tAt t (i - 1)):=fun h=>tAt_get (by omega) (by omega)
 have hg2:i < t.length→t[i.toNat]?=some (tAt t i):=fun h=>tAt_get h0 h
 have hcase:n=0∨n=1∨n=2∨n=3∨n=4∨n=5:=by omega
 rcases hcase with rfl | rfl | rfl | rfl | rfl | rfl
 ·refine fn_ok func99 rfl ntmps99 results99 rfl 0 9007199254872519 (by simp) (by simp) ?_
  simp only[zX,Nat.reduceShiftRight,Nat.reduceMod,Nat.reduceLT,Nat.reduceMul,Nat.reduceSub,Int.reduceToNat,Int.reduceNeg,Int.reduceLT,Int.reduceLE,Int.reduceEq,Nat.reduceEqDiff,Nat.reduceAdd,Nat.reduceLeDiff,reduceIte,reduceCtorEq,Nat.reduceBEq,i64,iD,intsD,u1,u2,gt_iff_lt]
  simp [holdsR,bV]
 ·refine fn_ok func99 rfl ntmps99 results99 rfl 0 9007199254872519 (by simp) (by simp) ?_
  simp only[zX,Nat.reduceShiftRight,Nat.reduceMod,Nat.reduceLT,Nat.reduceMul,Nat.reduceSub,Int.reduceToNat,Int.reduceNeg,Int.reduceLT,Int.reduceLE,Int.reduceEq,Nat.reduceEqDiff,Nat.reduceAdd,Nat.reduceLeDiff,reduceIte,reduceCtorEq,Nat.reduceBEq,i64,iD,intsD,u1,u2,gt_iff_lt]
  simp [holdsR,bV]
 ·by_cases c:i=0
  ·have e:=eq_true c
   refine fn_ok func99 rfl ntmps99 results99 rfl 0 9007199254872519 (by simp) (by simp) ?_
   simp only[zX,Nat.reduceShiftRight,Nat.reduceMod,Nat.reduceLT,Nat.reduceMul,Nat.reduceSub,Int.reduceToNat,Int.reduceNeg,Int.reduceLT,Int.reduceLE,Int.reduceEq,Nat.reduceEqDiff,Nat.reduceAdd,Nat.reduceLeDiff,reduceIte,reduceCtorEq,Nat.reduceBEq,i64,iD,intsD,u1,u2,gt_iff_lt,e]
   simp [holdsR,bV,c]
  ·have b1:0≤i - 1:=by omega
   have b2:i - 1 < (t.length:Int):=by omega
   have g1:=hg1 (by omega)
   refine fn_ok func99 rfl ntmps99 results99 rfl 0 9007199254872519 (by simp) (by simp) ?_
   simp only[zX,Nat.reduceShiftRight,Nat.reduceMod,Nat.reduceLT,Nat.reduceMul,Nat.reduceSub,Int.reduceToNat,Int.reduceNeg,Int.reduceLT,Int.reduceLE,Int.reduceEq,Nat.reduceEqDiff,Nat.reduceAdd,Nat.reduceLeDiff,reduceIte,reduceCtorEq,Nat.reduceBEq,i64,iD,intsD,u1,u2,gt_iff_lt,c,w1,b1,b2,g1]
   simp [holdsR,bV,c]
 ·by_cases c:i=(t.length:Int)
  ·have e:=eq_true c
   refine fn_ok func99 rfl ntmps99 results99 rfl 0 9007199254872519 (by simp) (by simp) ?_
   simp only[zX,Nat.reduceShiftRight,Nat.reduceMod,Nat.reduceLT,Nat.reduceMul,Nat.reduceSub,Int.reduceToNat,Int.reduceNeg,Int.reduceLT,Int.reduceLE,Int.reduceEq,Nat.reduceEqDiff,Nat.reduceAdd,Nat.reduceLeDiff,reduceIte,reduceCtorEq,Nat.reduceBEq,i64,iD,intsD,u1,u2,gt_iff_lt,e]
   simp [holdsR,bV,c]
  ·have b2:i < (t.length:Int):=by omega
   have g2:=hg2 b2
   refine fn_ok func99 rfl ntmps99 results99 rfl 0 9007199254872519 (by simp) (by simp) ?_
   simp only[zX,Nat.reduceShiftRight,Nat.reduceMod,Nat.reduceLT,Nat.reduceMul,Nat.reduceSub,Int.reduceToNat,Int.reduceNeg,Int.reduceLT,Int.reduceLE,Int.reduceEq,Nat.reduceEqDiff,Nat.reduceAdd,Nat.reduceLeDiff,reduceIte,reduceCtorEq,Nat.reduceBEq,i64,iD,intsD,u1,u2,gt_iff_lt,c,h0,b2,g2]
   simp [holdsR,bV,c]
 all_goals
  by_cases c1:0 < i
  ·have b1:0≤i - 1:=by omega
   have b2:i - 1 < (t.length:Int):=by omega
   have g1:=hg1 c1
   by_cases c2:i < (t.length:Int)
   ·have g2:=hg2 c2
    refine fn_ok func99 rfl ntmps99 results99 rfl 0 9007199254872519 (by simp) (by simp) ?_
    simp only[zX,Nat.reduceShiftRight,Nat.reduceMod,Nat.reduceLT,Nat.reduceMul,Nat.reduceSub,Int.reduceToNat,Int.reduceNeg,Int.reduceLT,Int.reduceLE,Int.reduceEq,Nat.reduceEqDiff,Nat.reduceAdd,Nat.reduceLeDiff,reduceIte,reduceCtorEq,Nat.reduceBEq,i64,iD,intsD,u1,u2,gt_iff_lt,c1,c2,w1,b1,b2,g1,g2,h0]
    refine call_pure hw rfl rfl ?_
    simp only[zX,Nat.reduceShiftRight,Nat.reduceMod,Nat.reduceLT,Nat.reduceMul,Nat.reduceSub,Int.reduceToNat,Int.reduceNeg,Int.reduceLT,Int.reduceLE,Int.reduceEq,Nat.reduceEqDiff,Nat.reduceAdd,Nat.reduceLeDiff,reduceIte,reduceCtorEq,Nat.reduceBEq,i64,iD,intsD,u1,u2,gt_iff_lt,c1,c2,w1,b1,b2,g1,g2,h0]
    refine call_pure hw2 rfl rfl ?_
    simp only[zX,Nat.reduceShiftRight,Nat.reduceMod,Nat.reduceLT,Nat.reduceMul,Nat.reduceSub,Int.reduceToNat,Int.reduceNeg,Int.reduceLT,Int.reduceLE,Int.reduceEq,Nat.reduceEqDiff,Nat.reduceAdd,Nat.reduceLeDiff,reduceIte,reduceCtorEq,Nat.reduceBEq,i64,iD,intsD,u1,u2,gt_iff_lt,c1,c2,w1,b1,b2,g1,g2,h0]
    simp [holdsR,bV,leftB,rightB,c1,c2] <;> (cases wordB (tAt t (i - 1)) <;> cases wordB (tAt t i) <;> rfl)
   ·refine fn_ok func99 rfl ntmps99 results99 rfl 0 9007199254872519 (by simp) (by simp) ?_
    simp only[zX,Nat.reduceShiftRight,Nat.reduceMod,Nat.reduceLT,Nat.reduceMul,Nat.reduceSub,Int.reduceToNat,Int.reduceNeg,Int.reduceLT,Int.reduceLE,Int.reduceEq,Nat.reduceEqDiff,Nat.reduceAdd,Nat.reduceLeDiff,reduceIte,reduceCtorEq,Nat.reduceBEq,i64,iD,intsD,u1,u2,gt_iff_lt,c1,c2,w1,b1,b2,g1,h0]
    refine call_pure hw rfl rfl ?_
    simp only[zX,Nat.reduceShiftRight,Nat.reduceMod,Nat.reduceLT,Nat.reduceMul,Nat.reduceSub,Int.reduceToNat,Int.reduceNeg,Int.reduceLT,Int.reduceLE,Int.reduceEq,Nat.reduceEqDiff,Nat.reduceAdd,Nat.reduceLeDiff,reduceIte,reduceCtorEq,Nat.reduceBEq,i64,iD,intsD,u1,u2,gt_iff_lt,c1,c2,w1,b1,b2,g1,h0]
    simp [holdsR,bV,leftB,rightB,c1,c2]
  ·by_cases c2:i < (t.length:Int)
   ·have g2:=hg2 c2
    refine fn_ok func99 rfl ntmps99 results99 rfl 0 9007199254872519 (by simp) (by simp) ?_
    simp only[zX,Nat.reduceShiftRight,Nat.reduceMod,Nat.reduceLT,Nat.reduceMul,Nat.reduceSub,Int.reduceToNat,Int.reduceNeg,Int.reduceLT,Int.reduceLE,Int.reduceEq,Nat.reduceEqDiff,Nat.reduceAdd,Nat.reduceLeDiff,reduceIte,reduceCtorEq,Nat.reduceBEq,i64,iD,intsD,u1,u2,gt_iff_lt,c1,c2,g2,h0]
    refine call_pure hw2 rfl rfl ?_
    simp only[zX,Nat.reduceShiftRight,Nat.reduceMod,Nat.reduceLT,Nat.reduceMul,Nat.reduceSub,Int.reduceToNat,Int.reduceNeg,Int.reduceLT,Int.reduceLE,Int.reduceEq,Nat.reduceEqDiff,Nat.reduceAdd,Nat.reduceLeDiff,reduceIte,reduceCtorEq,Nat.reduceBEq,i64,iD,intsD,u1,u2,gt_iff_lt,c1,c2,g2,h0]
    simp [holdsR,bV,leftB,rightB,c1,c2]
   ·refine fn_ok func99 rfl ntmps99 results99 rfl 0 9007199254872519 (by simp) (by simp) ?_
    simp only[zX,Nat.reduceShiftRight,Nat.reduceMod,Nat.reduceLT,Nat.reduceMul,Nat.reduceSub,Int.reduceToNat,Int.reduceNeg,Int.reduceLT,Int.reduceLE,Int.reduceEq,Nat.reduceEqDiff,Nat.reduceAdd,Nat.reduceLeDiff,reduceIte,reduceCtorEq,Nat.reduceBEq,i64,iD,intsD,u1,u2,gt_iff_lt,c1,c2,h0]
    simp [holdsR,bV,leftB,rightB,c1,c2]
end Go.Proofs.Ytpppfpaalcbggaa
