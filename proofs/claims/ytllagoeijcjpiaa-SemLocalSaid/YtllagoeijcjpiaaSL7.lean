/- A part of the proof (G4 G5 G6 G7). -/
import Derived.Test.YtllagoeijcjpiaaSL2
import Derived.Test.YtllagoeijcjpiaaSL3
import Derived.Test.YtllagoeijcjpiaaSL6
set_option linter.unusedSimpArgs false
set_option linter.unusedVariables false
set_option maxRecDepth 100000
set_option maxHeartbeats 80000000
namespace Go.Proofs.Ytllagoeijcjpiaa
open Go.VL Go.Proofs.Try
theorem word_ok (x:Int):PureOK prog 159 [i64 x] (bV (wordB x)):=by
 refine fn_ok func159 rfl ntmps159 results159 rfl 0 5 (by simp) (by simp) ?_
 simp only[zX,simprocAttr,i64]
 repeat' (first
 |(with_reducible refine And.intro (by first | omega | exact⟨by omega,by omega⟩ | (simp; done)) ?_)
 |(with_reducible refine condS (fun hc=>?_) (fun hc=>?_) <;> simp only[zX,simprocAttr,i64,ge_iff_le,hc])
 |(with_reducible refine guardS_t (fun hc=>?_) (fun hc=>?_) <;> simp only[zX,simprocAttr,i64,ge_iff_le,hc])
 |(with_reducible refine guardS_f (fun hc=>?_) (fun hc=>?_) <;> simp only[zX,simprocAttr,i64,ge_iff_le,hc])
 |(with_reducible refine guardS_nt (fun hc=>?_) (fun hc=>?_) <;> simp only[zX,simprocAttr,i64,ge_iff_le,hc])
 |(with_reducible refine guardS_nf (fun hc=>?_) (fun hc=>?_) <;> simp only[zX,simprocAttr,i64,ge_iff_le,hc])
 |(with_reducible refine condSb (fun hc=>?_) (fun hc=>?_) <;> simp only[zX,simprocAttr,i64,ge_iff_le,hc])
 |(with_reducible refine guardS_b (fun hc=>?_) (fun hc=>?_) <;> simp only[zX,simprocAttr,i64,ge_iff_le,hc]))
 all_goals (simp only[wordB,bV]; simp [*]; try omega)
theorem in_ok (l:List (Int × Int)) (x:Int) (hl:l.length≤1000000000):PureOK prog 147 [.d (.sl (l.map spanC)),i64 x] (bV (inB l x)):=by
 refine fn_ok func147 rfl ntmps147 results147 rfl 0 51 (by simp) (by simp) ?_
 simp only[zX,simprocAttr,i64]
 refine loop_rule (fun n e s=>∃i:Nat,n=l.length - i∧i≤l.length∧e 0=.d (.sl (l.map spanC))∧e 1=i64 x∧e 5=i64 i∧s=[]∧inB (l.take i) x=false)
  ⟨_,_,_,Cln.refl,0,rfl,by omega,rfl,rfl,rfl,rfl,rfl⟩ ?_
 rintro n e s ⟨i,rfl,hi,h0,h1,h5,rfl,hno⟩
 rcases Nat.lt_or_ge i l.length with hlt | hge
 ·obtain⟨y,hy⟩:∃y,l[i]?=some y:=⟨_,List.getElem?_eq_getElem hlt⟩
  have hm:=List.mem_of_getElem? hy
  have hyes:decide (y.1≤x)=true→decide (x≤y.2)=true→inB l x=true:=fun h1 h2=>by
   unfold inB; rw[List.any_eq_true]; exact⟨y,hm,by rw[h1,h2]; rfl⟩
  have hnot:¬(y.1≤x∧x≤y.2)→inB (l.take (i + 1)) x=false:=fun h=>by
   rw[take_get hy]
   unfold inB at hno ⊢
   rw[List.any_append,hno]
   have:(decide (y.1≤x)&&decide (x≤y.2))=false:=by
    rw[Bool.eq_false_iff]; intro hc
    simp only[Bool.and_eq_true,decide_eq_true_eq] at hc
    exact h hc
   simp [this]
  by_cases c1:y.1≤x
  ·by_cases c2:x≤y.2
   ·rw[hyes (decide_eq_true c1) (decide_eq_true c2)]
    simp only[zX,simprocAttr,i64,h0,h1,h5,hlt,hy,spanC,iD,c1,c2]
    all_goals first | exact⟨rfl,rfl⟩ | exact⟨rfl,trivial⟩ | rfl | trivial | (rw[reV_eq]; rfl)
   ·simp only[zX,simprocAttr,i64,h0,h1,h5,hlt,hy,spanC,iD,c1,c2]
    refine⟨l.length - (i + 1),_,_,by omega,Cln.refl,i + 1,rfl,hlt,?_,?_,?_,rfl,hnot (fun h=>c2 h.2)⟩ <;> (try simp only[zU,Nat.reduceBEq,Nat.reduceShiftRight,Nat.reduceMod,Nat.reduceEqDiff,reduceIte])
    ·exact h0
    ·exact h1
    ·rw[w64 _ (by omega)]; rfl
  ·simp only[zX,simprocAttr,i64,h0,h1,h5,hlt,hy,spanC,iD,c1]
   refine⟨l.length - (i + 1),_,_,by omega,Cln.refl,i + 1,rfl,hlt,?_,?_,?_,rfl,hnot (fun h=>c1 h.1)⟩ <;> (try simp only[zU,Nat.reduceBEq,Nat.reduceShiftRight,Nat.reduceMod,Nat.reduceEqDiff,reduceIte])
   ·exact h0
   ·exact h1
   ·rw[w64 _ (by omega)]; rfl
 ·have hie:i=l.length:=by omega
  subst hie
  rw[List.take_length] at hno
  rw[hno]
  simp only[zX,simprocAttr,i64,h0,h1,h5,Nat.lt_irrefl]
  all_goals first | exact⟨rfl,rfl⟩ | exact⟨rfl,trivial⟩ | rfl | trivial | (rw[reV_eq]; rfl)
theorem tAt_get {t:List Int} {i:Int} (h0:0≤i) (h1:i < t.length):t[i.toNat]?=some (tAt t i):=by
 unfold tAt
 rw[List.getElem?_eq_getElem (by omega)]
 simp [List.getD,List.getElem?_eq_getElem (show i.toNat < t.length by omega)]
theorem holds_ok (n:Int) (t:List Int) (i:Int) (ht:t.length≤1000000) (h0:0≤i) (h1:i≤t.length):PureOK prog 127 [i64 n,.d (intsD t),i64 i] (bV (holdsR n t i)):=by
 have w1:IntKind.i64.wrap (i - 1)=i - 1:=w64 _ (by omega)
 have hw:=word_ok (tAt t (i - 1))
 have hw2:=word_ok (tAt t i)
 simp only[i64,bV] at hw hw2
 have hcase:(n=0)∨(¬n=0∧n=1)∨(¬n=0∧¬n=1∧n=2)∨(¬n=0∧¬n=1∧¬n=2∧n=3)∨(¬n=0∧¬n=1∧¬n=2∧¬n=3∧n=4)∨(¬n=0∧¬n=1∧¬n=2∧¬n=3∧¬n=4):=by omega
 have hg1:0 < i→t[(i - 1).toNat]?=some (tAt t (i - 1)):=fun h=>tAt_get (by omega) (by omega)
 have hg2:i < t.length→t[i.toNat]?=some (tAt t i):=fun h=>tAt_get h0 h
 by_cases c1:0 < i
 ·by_cases c2:i < (t.length:Int)
  ·have hl:leftB t i=wordB (tAt t (i - 1)):=by simp [leftB,c1]
   have hr:rightB t i=wordB (tAt t i):=by simp [rightB,c2]
   have b1:0≤i - 1:=by omega
   have b2:i - 1 < (t.length:Int):=by omega
   have g1:=hg1 c1
   have n0:¬i=0:=by omega
   have hd0:decide (i=0)=false:=decide_eq_false n0
   have g2:=hg2 c2
   have n1:¬i=(t.length:Int):=by omega
   have hd1:decide (i=(t.length:Int))=false:=decide_eq_false n1
   refine fn_ok func127 rfl ntmps127 results127 rfl 0 1073742279 (by simp) (by simp) ?_
   simp only[zX,simprocAttr,i64,iD,intsD,c1,c2,w1,gt_iff_lt,h0,g1,b1,b2,g2]
   refine call_pure hw rfl rfl ?_
   simp only[zX,simprocAttr,i64,iD,intsD,c1,c2,w1,gt_iff_lt,h0,g1,b1,b2,g2]
   refine call_pure hw2 rfl rfl ?_
   rcases hcase with a | ⟨a,b⟩ | ⟨a,b,c⟩ | ⟨a,b,c,d⟩ | ⟨a,b,c,d,f⟩ | ⟨a,b,c,d,f⟩
   ·simp only[zX,simprocAttr,i64,iD,intsD,c1,c2,w1,gt_iff_lt,h0,g1,b1,b2,g2,n0,n1,a]
    all_goals (simp only[holdsR,a,hl,hr,hd0,hd1,bV,Int.reduceEq,if_true,if_false,reduceIte,Bool.true_or,Bool.false_or]; try rfl)
   ·simp only[zX,simprocAttr,i64,iD,intsD,c1,c2,w1,gt_iff_lt,h0,g1,b1,b2,g2,n0,n1,a,b]
    all_goals (simp only[holdsR,a,b,hl,hr,hd0,hd1,bV,Int.reduceEq,if_true,if_false,reduceIte,Bool.true_or,Bool.false_or]; try rfl)
   ·simp only[zX,simprocAttr,i64,iD,intsD,c1,c2,w1,gt_iff_lt,h0,g1,b1,b2,g2,n0,n1,a,b,c]
    all_goals (simp only[holdsR,a,b,c,hl,hr,hd0,hd1,bV,Int.reduceEq,if_true,if_false,reduceIte,Bool.true_or,Bool.false_or]; try rfl)
   ·simp only[zX,simprocAttr,i64,iD,intsD,c1,c2,w1,gt_iff_lt,h0,g1,b1,b2,g2,n0,n1,a,b,c,d]
    all_goals (simp only[holdsR,a,b,c,d,hl,hr,hd0,hd1,bV,Int.reduceEq,if_true,if_false,reduceIte,Bool.true_or,Bool.false_or]; try rfl)
   ·simp only[zX,simprocAttr,i64,iD,intsD,c1,c2,w1,gt_iff_lt,h0,g1,b1,b2,g2,n0,n1,a,b,c,d,f]
    all_goals (simp only[holdsR,a,b,c,d,f,hl,hr,hd0,hd1,bV,Int.reduceEq,if_true,if_false,reduceIte,Bool.true_or,Bool.false_or]; try rfl)
   ·simp only[zX,simprocAttr,i64,iD,intsD,c1,c2,w1,gt_iff_lt,h0,g1,b1,b2,g2,n0,n1,a,b,c,d,f]
    all_goals (simp only[holdsR,a,b,c,d,f,hl,hr,hd0,hd1,bV,Int.reduceEq,if_true,if_false,reduceIte,Bool.true_or,Bool.false_or]; try rfl)
  ·have hl:leftB t i=wordB (tAt t (i - 1)):=by simp [leftB,c1]
   have hr:rightB t i=false:=by simp [rightB,c2]
   have b1:0≤i - 1:=by omega
   have b2:i - 1 < (t.length:Int):=by omega
   have g1:=hg1 c1
   have n0:¬i=0:=by omega
   have hd0:decide (i=0)=false:=decide_eq_false n0
   have n1:i=(t.length:Int):=by omega
   have hd1:decide (i=(t.length:Int))=true:=decide_eq_true n1
   refine fn_ok func127 rfl ntmps127 results127 rfl 0 1073742279 (by simp) (by simp) ?_
   simp only[zX,simprocAttr,i64,iD,intsD,c1,c2,w1,gt_iff_lt,h0,g1,b1,b2]
   refine call_pure hw rfl rfl ?_
   simp only[zX,simprocAttr,i64,iD,intsD,c1,c2,w1,gt_iff_lt,h0,g1,b1,b2]
   have e1:(i=(t.length:Int))=True:=eq_true n1
   rcases hcase with a | ⟨a,b⟩ | ⟨a,b,c⟩ | ⟨a,b,c,d⟩ | ⟨a,b,c,d,f⟩ | ⟨a,b,c,d,f⟩
   ·simp only[zX,simprocAttr,i64,iD,intsD,c1,c2,w1,gt_iff_lt,h0,g1,b1,b2,n0,e1,a]
    all_goals (simp only[holdsR,a,hl,hr,hd0,hd1,bV,Int.reduceEq,if_true,if_false,reduceIte,Bool.true_or,Bool.false_or]; try rfl)
   ·simp only[zX,simprocAttr,i64,iD,intsD,c1,c2,w1,gt_iff_lt,h0,g1,b1,b2,n0,e1,a,b]
    all_goals (simp only[holdsR,a,b,hl,hr,hd0,hd1,bV,Int.reduceEq,if_true,if_false,reduceIte,Bool.true_or,Bool.false_or]; try rfl)
   ·simp only[zX,simprocAttr,i64,iD,intsD,c1,c2,w1,gt_iff_lt,h0,g1,b1,b2,n0,e1,a,b,c]
    all_goals (simp only[holdsR,a,b,c,hl,hr,hd0,hd1,bV,Int.reduceEq,if_true,if_false,reduceIte,Bool.true_or,Bool.false_or]; try rfl)
   ·simp only[zX,simprocAttr,i64,iD,intsD,c1,c2,w1,gt_iff_lt,h0,g1,b1,b2,n0,e1,a,b,c,d]
    all_goals (simp only[holdsR,a,b,c,d,hl,hr,hd0,hd1,bV,Int.reduceEq,if_true,if_false,reduceIte,Bool.true_or,Bool.false_or]; try rfl)
   ·simp only[zX,simprocAttr,i64,iD,intsD,c1,c2,w1,gt_iff_lt,h0,g1,b1,b2,n0,e1,a,b,c,d,f]
    all_goals (simp only[holdsR,a,b,c,d,f,hl,hr,hd0,hd1,bV,Int.reduceEq,if_true,if_false,reduceIte,Bool.true_or,Bool.false_or]; try rfl)
   ·simp only[zX,simprocAttr,i64,iD,intsD,c1,c2,w1,gt_iff_lt,h0,g1,b1,b2,n0,e1,a,b,c,d,f]
    all_goals (simp only[holdsR,a,b,c,d,f,hl,hr,hd0,hd1,bV,Int.reduceEq,if_true,if_false,reduceIte,Bool.true_or,Bool.false_or]; try rfl)
 ·by_cases c2:i < (t.length:Int)
  ·have hl:leftB t i=false:=by simp [leftB,c1]
   have hr:rightB t i=wordB (tAt t i):=by simp [rightB,c2]
   have n0:i=0:=by omega
   have hd0:decide (i=0)=true:=decide_eq_true n0
   have g2:=hg2 c2
   have n1:¬i=(t.length:Int):=by omega
   have hd1:decide (i=(t.length:Int))=false:=decide_eq_false n1
   refine fn_ok func127 rfl ntmps127 results127 rfl 0 1073742279 (by simp) (by simp) ?_
   simp only[zX,simprocAttr,i64,iD,intsD,c1,c2,w1,gt_iff_lt,h0,g2]
   refine call_pure hw2 rfl rfl ?_
   have e0:(i=0)=True:=eq_true n0
   rcases hcase with a | ⟨a,b⟩ | ⟨a,b,c⟩ | ⟨a,b,c,d⟩ | ⟨a,b,c,d,f⟩ | ⟨a,b,c,d,f⟩
   ·simp only[zX,simprocAttr,i64,iD,intsD,c1,c2,w1,gt_iff_lt,h0,g2,n1,e0,a]
    all_goals (simp only[holdsR,a,hl,hr,hd0,hd1,bV,Int.reduceEq,if_true,if_false,reduceIte,Bool.true_or,Bool.false_or]; try rfl)
   ·simp only[zX,simprocAttr,i64,iD,intsD,c1,c2,w1,gt_iff_lt,h0,g2,n1,e0,a,b]
    all_goals (simp only[holdsR,a,b,hl,hr,hd0,hd1,bV,Int.reduceEq,if_true,if_false,reduceIte,Bool.true_or,Bool.false_or]; try rfl)
   ·simp only[zX,simprocAttr,i64,iD,intsD,c1,c2,w1,gt_iff_lt,h0,g2,n1,e0,a,b,c]
    all_goals (simp only[holdsR,a,b,c,hl,hr,hd0,hd1,bV,Int.reduceEq,if_true,if_false,reduceIte,Bool.true_or,Bool.false_or]; try rfl)
   ·simp only[zX,simprocAttr,i64,iD,intsD,c1,c2,w1,gt_iff_lt,h0,g2,n1,e0,a,b,c,d]
    all_goals (simp only[holdsR,a,b,c,d,hl,hr,hd0,hd1,bV,Int.reduceEq,if_true,if_false,reduceIte,Bool.true_or,Bool.false_or]; try rfl)
   ·simp only[zX,simprocAttr,i64,iD,intsD,c1,c2,w1,gt_iff_lt,h0,g2,n1,e0,a,b,c,d,f]
    all_goals (simp only[holdsR,a,b,c,d,f,hl,hr,hd0,hd1,bV,Int.reduceEq,if_true,if_false,reduceIte,Bool.true_or,Bool.false_or]; try rfl)
   ·simp only[zX,simprocAttr,i64,iD,intsD,c1,c2,w1,gt_iff_lt,h0,g2,n1,e0,a,b,c,d,f]
    all_goals (simp only[holdsR,a,b,c,d,f,hl,hr,hd0,hd1,bV,Int.reduceEq,if_true,if_false,reduceIte,Bool.true_or,Bool.false_or]; try rfl)
  ·have hl:leftB t i=false:=by simp [leftB,c1]
   have hr:rightB t i=false:=by simp [rightB,c2]
   have n0:i=0:=by omega
   have hd0:decide (i=0)=true:=decide_eq_true n0
   have n1:i=(t.length:Int):=by omega
   have hd1:decide (i=(t.length:Int))=true:=decide_eq_true n1
   refine fn_ok func127 rfl ntmps127 results127 rfl 0 1073742279 (by simp) (by simp) ?_
   simp only[zX,simprocAttr,i64,iD,intsD,c1,c2,w1,gt_iff_lt,h0]
   have e0:(i=0)=True:=eq_true n0
   have e1:(i=(t.length:Int))=True:=eq_true n1
   rcases hcase with a | ⟨a,b⟩ | ⟨a,b,c⟩ | ⟨a,b,c,d⟩ | ⟨a,b,c,d,f⟩ | ⟨a,b,c,d,f⟩
   ·simp only[zX,simprocAttr,i64,iD,intsD,c1,c2,w1,gt_iff_lt,h0,e0,e1,a]
    all_goals (simp only[holdsR,a,hl,hr,hd0,hd1,bV,Int.reduceEq,if_true,if_false,reduceIte,Bool.true_or,Bool.false_or]; try rfl)
   ·simp only[zX,simprocAttr,i64,iD,intsD,c1,c2,w1,gt_iff_lt,h0,e0,e1,a,b]
    all_goals (simp only[holdsR,a,b,hl,hr,hd0,hd1,bV,Int.reduceEq,if_true,if_false,reduceIte,Bool.true_or,Bool.false_or]; try rfl)
   ·simp only[zX,simprocAttr,i64,iD,intsD,c1,c2,w1,gt_iff_lt,h0,e0,e1,a,b,c]
    all_goals (simp only[holdsR,a,b,c,hl,hr,hd0,hd1,bV,Int.reduceEq,if_true,if_false,reduceIte,Bool.true_or,Bool.false_or]; try rfl)
   ·simp only[zX,simprocAttr,i64,iD,intsD,c1,c2,w1,gt_iff_lt,h0,e0,e1,a,b,c,d]
    all_goals (simp only[holdsR,a,b,c,d,hl,hr,hd0,hd1,bV,Int.reduceEq,if_true,if_false,reduceIte,Bool.true_or,Bool.false_or]; try rfl)
   ·simp only[zX,simprocAttr,i64,iD,intsD,c1,c2,w1,gt_iff_lt,h0,e0,e1,a,b,c,d,f]
    all_goals (simp only[holdsR,a,b,c,d,f,hl,hr,hd0,hd1,bV,Int.reduceEq,if_true,if_false,reduceIte,Bool.true_or,Bool.false_or]; try rfl)
   ·simp only[zX,simprocAttr,i64,iD,intsD,c1,c2,w1,gt_iff_lt,h0,e0,e1,a,b,c,d,f]
    all_goals (simp only[holdsR,a,b,c,d,f,hl,hr,hd0,hd1,bV,Int.reduceEq,if_true,if_false,reduceIte,Bool.true_or,Bool.false_or]; try rfl)
theorem span_ok (c:CapsL) (n:Int) (hc:c.length≤1000000000):PureOK prog 148 [.d (capD c),i64 n] (.ag [i64 (spanR c n).1,i64 (spanR c n).2]):=by
 by_cases c1:n < 1
 ·have hs:spanR c n=(-1,-1):=by simp [spanR,c1]
  rw[hs]
  refine fn_ok func148 rfl ntmps148 results148 rfl 0 19 (by simp) (by simp) ?_
  simp only[zX,simprocAttr,i64,iD,capD,spanC,c1]
 ·by_cases c2:(c.length:Int) < n
  ·have hs:spanR c n=(-1,-1):=by simp [spanR,c2]
   rw[hs]
   refine fn_ok func148 rfl ntmps148 results148 rfl 0 19 (by simp) (by simp) ?_
   simp only[zX,simprocAttr,i64,iD,capD,spanC,c1,c2,gt_iff_lt]
  ·have hs:spanR c n=c.getD (n - 1).toNat (-1,-1):=by rw[spanR,if_neg (by omega)]
   have w1:IntKind.i64.wrap (n - 1)=n - 1:=w64 _ (by omega)
   have hlt:(n - 1).toNat < c.length:=by omega
   have hg:c[(n - 1).toNat]?=some c[(n - 1).toNat]:=List.getElem?_eq_getElem hlt
   have b1:0≤n - 1:=by omega
   have b2:n - 1 < (c.length:Int):=by omega
   rw[hs,List.getD,hg,Option.getD_some]
   refine fn_ok func148 rfl ntmps148 results148 rfl 0 19 (by simp) (by simp) ?_
   simp only[zX,simprocAttr,i64,iD,capD,spanC,c1,c2,gt_iff_lt,w1,hg,b1,b2]
theorem with_ok (c:CapsL) (n frm to:Int) (hc:c.length≤1000000000):PureOK prog 113 [.d (capD c),i64 n,i64 frm,i64 to] (.d (capD (withR c n frm to))):=by
 have hel:∀e∈(c.map spanC).map (fun x=>x.map V.d),e.length=2:=fun e he=>by
  obtain⟨x,hx,rfl⟩:=List.mem_map.1 he
  obtain⟨p,_,rfl⟩:=List.mem_map.1 hx
  rfl
 refine fn_ok func113 rfl ntmps113 results113 rfl 0 783 (by simp) (by simp) ?_
 simp only[zX,simprocAttr,i64,capD]
 refine⟨hel,⟨by omega,by simp⟩,?_⟩
 by_cases c1:1≤n
 ·by_cases c2:n≤(c.length:Int)
  ·have w1:IntKind.i64.wrap (n - 1)=n - 1:=w64 _ (by omega)
   have hlt:(n - 1).toNat < c.length:=by omega
   have b1:0≤n - 1:=by omega
   have b2:n - 1 < (c.length:Int):=by omega
   have hw:withR c n frm to=c.set (n - 1).toNat (frm,to):=by rw[withR,if_pos ⟨c1,c2⟩]
   have hset:((c.map spanC).map (fun x=>x.map V.d)).set (n - 1).toNat [i64 frm,i64 to]=((c.set (n - 1).toNat (frm,to)).map spanC).map (fun x=>x.map V.d):=by
    rw[List.map_set,List.map_set]; rfl
   have hgc:c[(n - 1).toNat]?=some c[(n - 1).toNat]:=List.getElem?_eq_getElem hlt
   rw[hw]
   simp only[zX,simprocAttr,i64,Nat.zero_add,c1,c2,w1,hlt,b1,b2,hgc,spanC]
   simp only[i64] at hset
   rw[hset,frz_data 7 0 _ _ _ (by simp),if_pos (by simp)]
   rfl
  ·have hw:withR c n frm to=c:=by rw[withR,if_neg (by omega)]
   rw[hw]
   simp only[zX,simprocAttr,i64,Nat.zero_add,c1,c2]
   rw[frz_data 7 0 _ _ _ (by simp),if_pos (by simp)]
   rfl
 ·have hw:withR c n frm to=c:=by rw[withR,if_neg (by omega)]
  rw[hw]
  simp only[zX,simprocAttr,i64,Nat.zero_add,c1]
  rw[frz_data 7 0 _ _ _ (by simp),if_pos (by simp)]
  rfl
theorem bare_ok (n:Int) (hn:n≤1000000):PureOK prog 89 [i64 n] (.d (capD (List.replicate n.toNat (-1,-1)))):=by
 refine fn_ok func89 rfl ntmps89 results89 rfl 0 29 (by simp) (by simp) ?_
 simp only[vsL,vsB,vsC,simprocAttr,tysA,i64]
 refine loop_rule (fun m e s=>∃i:Nat,m=n.toNat - i∧i≤n.toNat∧e 0=i64 n∧e 4=i64 i∧Acc [] 2 (e 3) s ((List.replicate i (-1,-1)).map spanC))
  ⟨_,_,_,Cln.refl,0,rfl,by omega,rfl,rfl,.inl ⟨rfl,rfl⟩⟩ ?_
 rintro m e s ⟨i,rfl,hi,h0,h4,hacc⟩
 rcases Nat.lt_or_ge i n.toNat with hlt | hge
 ·have hlt':(i:Int) < n:=by omega
  simp only[vsL,vsB,vsC,simprocAttr,tysA,i64,h0,h4,hlt']
  refine hacc.append slTy49 rfl (by decide) (by decide) (by intro y hy; obtain⟨z,_,rfl⟩:=List.mem_map.1 hy; rfl) (by simp) (by simp) (by simp only[List.length_map,List.length_replicate,List.length_cons,List.length_nil]; omega) (fun v' s' hacc'=>?_)
  simp only[vsL,vsB,vsC,simprocAttr,tysA,i64,h0,h4]
  refine⟨n.toNat - (i + 1),_,_,by omega,Cln.refl,i + 1,rfl,hlt,?_,?_,?_⟩ <;> (try simp only[zU,Nat.reduceBEq,Nat.reduceShiftRight,Nat.reduceMod,Nat.reduceEqDiff,reduceIte])
  ·exact h0
  ·rw[w64 _ (by omega)]; rfl
  ·rw[List.replicate_succ',List.map_append]; exact hacc'
 ·have hie:i=n.toNat:=by omega
  subst hie
  have hlt':¬(n.toNat:Int) < n:=by omega
  simp only[vsL,vsB,vsC,simprocAttr,tysA,i64,h0,h4,hlt']
  rw[hacc.frz (by simp)]
  rfl
theorem allD {α:Type} (l:List α) (f:α→D) (n:Nat):((l.map fun x=>[V.d (f x)]).all fun e=>e.all (refsV n))=true:=by
 rw[List.all_eq_true]
 intro e he
 obtain⟨x,_,rfl⟩:=List.mem_map.1 he
 rfl
def srO (g0:Nat) (t:List Int) (most F:Int) (st:Sst):VL.Obj :=
 ⟨g0,true,7,[[.d (intsD t),i64 most,i64 F,i64 st.steps,bV st.empty,.so 1 st.ends.length 0 st.ends.length,.so 2 st.ends.length 0 st.caps.length]]⟩
def srS (g0:Nat) (t:List Int) (most F:Int) (st:Sst):List VL.Obj :=
 [srO g0 t most F st,⟨st.ends.length,true,1,st.ends.map fun x=>[V.d (iD x)]⟩,⟨st.ends.length,true,1,st.caps.map fun c=>[V.d (capD c)]⟩]
theorem step_ok (g0:Nat) (t:List Int) (most F:Int) (st:Sst) (h0:0≤st.steps) (h1:st.steps≤10000000000000) :
  callWp prog 146 [.rf 0 g0 0 0] (srS g0 t most F st) fun v s=>v=bV (!(st.step F).empty)∧s=srS g0 t most F (st.step F):=by
 have w1:IntKind.i64.wrap (st.steps + 1)=st.steps + 1:=w64 _ (by omega)
 unfold srS srO Sst.step
 by_cases c:F < st.steps + 1
 ·refine fn_ok func146 rfl ntmps146 results146 rfl 3 5 (by simp) (by simp) ?_
  simp only[zX,simprocAttr,i64,bV,w1]
  refine draw_c mix [] [] (by rfl) ?_
  simp only[zX,simprocAttr,i64,bV,w1,gt_iff_lt,c,Bool.or_true]
  simp only[allD,Bool.and_self]
 ·refine fn_ok func146 rfl ntmps146 results146 rfl 3 5 (by simp) (by simp) ?_
  simp only[zX,simprocAttr,i64,bV,w1]
  refine draw_c mix [] [] (by rfl) ?_
  simp only[zX,simprocAttr,i64,bV,w1,gt_iff_lt,c,decide_eq_false c,Bool.or_false]
  simp only[allD,Bool.and_self]
def taskF:Task→FuncId
 | .run _ _ _=>88
 | .rep _ _ _=>112
 | .node _ _ _=>114
def taskA (g0:Nat):Task→List V
 | .run g i c=>[.rf 0 g0 0 0,.d g.d,i64 i,.d (capD c)]
 | .rep g i c=>[.rf 0 g0 0 0,.d g.d,i64 i,.d (capD c)]
 | .node g i c=>[.rf 0 g0 0 0,.d g.d,i64 i,.d (capD c)]
def RunOK (t:List Int) (F:Int) (n:Nat):Prop:=∀g0 most task st b st',evR t F n most task st=some (b,st')→callWp prog (taskF task) (taskA g0 task) (srS g0 t most F st) fun v s=>v=bV b∧s=srS g0 t most F st'
theorem renO_d {α:Type} (ρ:List Nat) (g:Nat) (lv:Bool) (z:Nat) (l:List α) (f:α→D):renO ρ ⟨g,lv,z,l.map fun x=>[V.d (f x)]⟩=⟨g,lv,z,l.map fun x=>[V.d (f x)]⟩:=by
 simp only[renO,List.map_map]
 congr 1
theorem renO_sr (g0:Nat) (t:List Int) (most F:Int) (st:Sst):renO [0,1,2] (srO g0 t most F st)=srO g0 t most F st:=rfl
theorem andAll (l1:List Int) (l2:List CapsL):(((l1.map fun x=>[V.d (D.sc (Value.int IntKind.i64 x))]).all fun e=>e.all (refsV 3))&&((l2.map fun c=>[V.d (capD c)]).all fun e=>e.all (refsV 3)))=true:=by
 rw[Bool.and_eq_true]
 exact⟨allD l1 iD 3,allD l2 capD 3⟩
theorem Goal.d_mk (kind:Int) (re:Re) (k frm:Int) (next:Goal):(Goal.mk kind re k frm next).d=.el [iD kind,iD re.op,.sl (re.set.map spanC),.sl (re.kids.map Re.cells),iD re.mn,iD re.mx,iD re.mode,iD re.n,bD re.neg,iD k,iD frm,next.d]:=by
 rw[Goal.d,Re.cells_eq]; rfl
theorem call_sr {f:FuncId} {g0:Nat} {cargs:List V} {t:List Int} {most F:Int} {st st':Sst} {b:V} {ext:List VL.Obj} {K:V→List VL.Obj→Prop}
  (h:callWp prog f cargs (srS g0 t most F st) fun v s=>v=b∧s=srS g0 t most F st') (ha:cargs.map (renV [0,1,2])=cargs) (hra:refsV.go 3 cargs=true) (hb:renV [0,1,2] b=b) (hk:K b (srS g0 t most F st'++ext)) :
  callWp prog f cargs (srS g0 t most F st++ext) K:=by
 refine call_map [0,1,2] h (by decide) rfl ?_ ha.symm hra ?_ hb ?_
 ·unfold srS
  simp only[List.map_cons,List.map_nil,List.cons_append,List.nil_append,List.getElem?_cons_zero,List.getElem?_cons_succ,renO_sr,renO_d]
 ·unfold srS srO
  simp only[List.all_cons,List.all_nil,objOk,allD]
  simp [refsV,refsV.go,i64,bV]
 ·have:putObjs (srS g0 t most F st++ext) [0,1,2] ((srS g0 t most F st').map (renO [0,1,2]))=srS g0 t most F st'++ext:=by
   unfold srS
   simp only[List.map_cons,List.map_nil,List.cons_append,List.nil_append,renO_sr,renO_d,putObjs,List.set_cons_zero,List.set_cons_succ]
  rw[this]; exact hk
theorem ren_task (g0:Nat) (task:Task):(taskA g0 task).map (renV [0,1,2])=taskA g0 task:=by cases task <;> rfl
theorem refs_task (g0:Nat) (task:Task):refsV.go 3 (taskA g0 task)=true:=by cases task <;> rfl
theorem sr_ext {t:List Int} {most F:Int} {g0:Nat} {task:Task} {st st':Sst} {b:Bool} (h:callWp prog (taskF task) (taskA g0 task) (srS g0 t most F st) fun v s=>v=bV b∧s=srS g0 t most F st') (ext:List VL.Obj) :
  callWp prog (taskF task) (taskA g0 task) (srS g0 t most F st++ext) fun v s=>v=bV b∧s=srS g0 t most F st'++ext:=call_sr h (ren_task g0 _) (refs_task g0 _) rfl ⟨rfl,rfl⟩
def foundV:Option (Int × CapsL)→V
 | none=>.tu [i64 0,.d (.sl []),bV false]
 | some (e,d)=>.tu [i64 e,.d (capD d),bV true]
theorem first_ok {t:List Int} {F:Int} {n:Nat} (ih:RunOK t F n) {g0:Nat} {most:Int} {g:Goal} {i:Int} {c:CapsL} {st st':Sst} {r:Option (Int × CapsL)} (hr:firstR (evR t F n) g i c st=some (r,st')) :
  callWp prog 145 [.rf 0 g0 0 0,.d g.d,i64 i,.d (capD c)] (srS g0 t most F st) fun v s=>v=foundV r∧s=srS g0 t most F st':=by
 unfold firstR at hr
 cases hx:evR t F n 1 (.run g i c) ⟨st.steps,false,[],[]⟩ with
 | none=>rw[hx] at hr; cases hr
 | some bx =>
  obtain⟨b,x⟩:=bx
  rw[hx] at hr
  simp only at hr
  have hrun:=ih 1 _ _ _ _ _ hx
  unfold srS srO taskF taskA at hrun
  unfold srS srO
  simp only[i64,bV] at hrun
  refine fn_ok func145 rfl ntmps145 results145 rfl 3 3855 (by simp) (by simp) ?_
  simp only[zX,simprocAttr,i64,bV]
  refine draw_first Cln0.reserve ?_
  refine draw_c mix [] [(13,[3],[3])] (by rfl) ?_
  simp only[zX,simprocAttr,i64,bV,hole]
  refine call_reserve (pre:=[.d (intsD t),.d (.sc (.int .i64 1)),.d (.sc (.int .i64 F)),.d (.sc (.int .i64 st.steps)),.d (.sc (.bool false))]) (post:=[.fu []]) 3 1 rfl rfl rfl ?_
  simp only[List.set_cons_succ,List.set_cons_zero,List.cons_append,List.nil_append,List.length_cons,List.length_nil,Nat.reduceAdd]
  refine call_reserve (pre:=[.d (intsD t),.d (.sc (.int .i64 1)),.d (.sc (.int .i64 F)),.d (.sc (.int .i64 st.steps)),.d (.sc (.bool false)),.so 4 0 0 0]) (post:=[]) 3 1 rfl rfl rfl ?_
  simp only[List.set_cons_succ,List.set_cons_zero,List.cons_append,List.nil_append,List.length_cons,List.length_nil,Nat.reduceAdd]
  refine call_map [3,4,5] hrun (by decide) rfl rfl rfl rfl ?_ rfl ?_
  ·rfl
  simp only[List.map_cons,List.map_nil,renO_d,putObjs,List.set_cons_zero,List.set_cons_succ,renO,renV,renV.go,List.getD_cons_zero,List.getD_cons_succ]
  obtain⟨xs,xe,xends,xcaps⟩:=x
  simp only at hr
  cases xe with
  | true =>
   simp only[if_true,Option.some.injEq,Prod.mk.injEq] at hr
   obtain⟨rfl,rfl⟩:=hr
   simp only[zX,simprocAttr,i64,bV]
   exact⟨by simp only[allD,Bool.and_self],rfl⟩
  | false =>
   simp only[Bool.false_eq_true,if_false] at hr
   cases xends with
   | nil =>
    simp only[Option.some.injEq,Prod.mk.injEq] at hr
    obtain⟨rfl,rfl⟩:=hr
    simp only[zX,simprocAttr,i64,bV,List.length_nil,Int.natCast_zero]
    exact⟨by simp only[allD,Bool.and_self],rfl⟩
   | cons e es =>
    cases xcaps with
    | nil=>cases hr
    | cons d ds =>
     simp only[Option.some.injEq,Prod.mk.injEq] at hr
     obtain⟨rfl,rfl⟩:=hr
     have hne:¬((es.length:Int) + 1=0):=by omega
     simp only[zX,simprocAttr,i64,bV,List.length_cons,Int.natCast_add,Int.natCast_one,hne]
     refine draw_c mix [] [] (by rfl) ?_
     simp only[renV.go,renV]
     simp only[zX,simprocAttr,i64,bV,iD,List.length_cons]
     refine⟨by omega,by omega,?_,rfl⟩
     rw[Bool.and_eq_true]
     exact⟨allD st.ends iD 3,allD st.caps capD 3⟩
theorem ren_found (r:Option (Int × CapsL)):renV [0,1,2] (foundV r)=foundV r:=by cases r <;> rfl
theorem first_ext {t:List Int} {F:Int} {n:Nat} (ih:RunOK t F n) {g0:Nat} {most:Int} {g:Goal} {i:Int} {c:CapsL} {st st':Sst} {r:Option (Int × CapsL)} (hr:firstR (evR t F n) g i c st=some (r,st')) (ext:List VL.Obj) :
  callWp prog 145 [.rf 0 g0 0 0,.d g.d,i64 i,.d (capD c)] (srS g0 t most F st++ext) fun v s=>v=foundV r∧s=srS g0 t most F st'++ext :=
 call_sr (first_ok ih hr) rfl rfl (ren_found r) ⟨rfl,rfl⟩
theorem step_ext (g0:Nat) (t:List Int) (most F:Int) (st:Sst) (h0:0≤st.steps) (h1:st.steps≤10000000000000) (ext:List VL.Obj) :
  callWp prog 146 [.rf 0 g0 0 0] (srS g0 t most F st++ext) fun v s=>v=bV (!(st.step F).empty)∧s=srS g0 t most F (st.step F)++ext :=
 call_sr (step_ok g0 t most F st h0 h1) rfl rfl rfl ⟨rfl,rfl⟩
theorem run_nil {t:List Int} {F:Int} {g0:Nat} {most:Int} {i:Int} {c:CapsL} {st:Sst} (he:st.ends.length < 2000000000000) (hs:st.caps.length=st.ends.length) :
  callWp prog 88 [.rf 0 g0 0 0,.d Goal.nil.d,i64 i,.d (capD c)] (srS g0 t most F st) fun v s=>v=bV (decide (0≤most)&&decide (most≤(st.ends.length:Int) + 1))∧s=srS g0 t most F { st with ends:=st.ends++[i],caps:=st.caps++[c] }:=by
 obtain⟨steps,empty,ends,caps⟩:=st
 simp only at he hs
 have hd:Goal.nil.d=.sc (.pointer none):=rfl
 have hca:(capD c)=.sl (c.map spanC):=rfl
 have t1:(ends.map fun x=>[V.d (iD x)]).take ends.length=ends.map fun x=>[V.d (iD x)]:=List.take_of_length_le (by simp)
 have t2:(caps.map fun c=>[V.d (capD c)]).take ends.length=caps.map fun c=>[V.d (capD c)]:=List.take_of_length_le (by simp [hs])
 unfold srS srO
 simp only[hs]
 refine fn_ok func88 rfl ntmps88 results88 rfl 3 2251799813685519 (by simp) (by simp) ?_
 simp only[zX,simprocAttr,i64,bV,hd,iD]
 refine⟨⟨_,rfl⟩,by simp,⟨by omega,by omega⟩,by simp,⟨by omega,by omega⟩,?_⟩
 simp only[iD] at t1
 rw[t1,t2]
 have l1:(ends++[i]).length=ends.length + 1:=by simp
 have l2:(caps++[c]).length=ends.length + 1:=by simp [hs]
 have m1:(ends++[i]).map (fun x=>[V.d (D.sc (Value.int .i64 x))])=ends.map (fun x=>[V.d (D.sc (Value.int .i64 x))])++[[V.d (D.sc (Value.int .i64 i))]]:=by simp
 have m2:(caps++[c]).map (fun c=>[V.d (capD c)])=caps.map (fun c=>[V.d (capD c)])++[[V.d (capD c)]]:=by simp
 rw[l1,l2,m1,m2]
 have hall:(((ends.map (fun x=>[V.d (D.sc (Value.int .i64 x))])++[[V.d (D.sc (Value.int .i64 i))]]).all fun e=>e.all (refsV 3))&&((caps.map (fun c=>[V.d (capD c)])++[[V.d (capD c)]]).all fun e=>e.all (refsV 3)))=true:=by
  rw[← m1,← m2]; exact andAll _ _
 generalize ends.map (fun x=>[V.d (D.sc (Value.int .i64 x))])++[[V.d (D.sc (Value.int .i64 i))]]=E1 at *
 generalize caps.map (fun c=>[V.d (capD c)])++[[V.d (capD c)]]=C1 at *
 refine draw_c mix [] [] (by rfl) ?_
 by_cases q:0≤most
 ·simp only[zX,simprocAttr,i64,bV,iD,ge_iff_le,q,decide_true,Bool.true_and,Int.natCast_add,Int.natCast_one]
  exact hall
 ·simp only[zX,simprocAttr,i64,bV,iD,ge_iff_le,q,decide_false,Bool.false_and]
  exact hall
theorem run_mk {t:List Int} {F:Int} {n:Nat} (ih:RunOK t F n) {g0:Nat} {most:Int} {kind:Int} {re:Re} {k frm:Int} {next:Goal} {i:Int} {c:CapsL} {st st':Sst} {b:Bool}
  (hr:evStep t F (evR t F n) most (.run (.mk kind re k frm next) i c) st=some (b,st')) :
  callWp prog 88 [.rf 0 g0 0 0,.d (Goal.mk kind re k frm next).d,i64 i,.d (capD c)] (srS g0 t most F st) fun v s=>v=bV b∧s=srS g0 t most F st':=by
 simp only[evStep] at hr
 by_cases hi:i < 0∨(t.length:Int) < i
 ·rw[if_pos hi] at hr; cases hr
 rw[if_neg hi] at hr
 by_cases k1:kind=1
 ·rw[if_pos k1] at hr
  have hc:=ih g0 _ _ _ _ _ hr
  unfold taskF taskA srS srO at hc; simp only[Goal.d_mk,i64,iD,bD,bV] at hc
  simp only[k1] at hc
  unfold srS srO
  refine fn_ok func88 rfl ntmps88 results88 rfl 3 2251799813685519 (by simp) (by simp) ?_
  simp only[zX,simprocAttr,i64,bV,Goal.d_mk,iD,bD,k1]
  refine⟨⟨_,rfl⟩,?_⟩
  (refine callWp_mono hc (fun v s' hv=>?_); obtain⟨rfl,rfl⟩:=hv)
  simp only[zX,simprocAttr,i64,bV,iD]
  exact andAll _ _
 rw[if_neg k1] at hr
 by_cases k2:kind=2
 ·rw[if_pos k2] at hr
  by_cases c1:re.mn≤k∧i=frm
  ·rw[if_pos c1] at hr
   simp only[Option.some.injEq,Prod.mk.injEq] at hr
   obtain⟨rfl,rfl⟩:=hr
   unfold srS srO
   refine fn_ok func88 rfl ntmps88 results88 rfl 3 2251799813685519 (by simp) (by simp) ?_
   simp only[zX,simprocAttr,i64,bV,Goal.d_mk,iD,bD,k2]
   refine⟨⟨_,rfl⟩,?_⟩
   refine draw_c mix [] [] (by rfl) ?_
   simp only[zX,simprocAttr,i64,bV,iD,ge_iff_le,c1.1,c1.2]
   exact andAll _ _
  rw[if_neg c1] at hr
  by_cases c2:k < 0∨10000000000000 < k
  ·rw[if_pos c2] at hr; cases hr
  rw[if_neg c2] at hr
  have hc0:=ih g0 _ _ _ _ _ hr
  have hc:∀X,callWp prog _ _ (srS g0 t most F st++[X]) (fun v s=>v=bV b∧s=srS g0 t most F st'++[X]):=fun X=>call_sr hc0 (ren_task g0 _) (refs_task g0 _) rfl ⟨rfl,rfl⟩
  unfold taskF taskA srS srO at hc; simp only[Goal.d_mk,i64,iD,bD,bV] at hc
  simp only[List.cons_append,List.nil_append] at hc
  have w1:IntKind.i64.wrap (k + 1)=k + 1:=w64 _ (by omega)
  unfold srS srO
  refine fn_ok func88 rfl ntmps88 results88 rfl 3 2251799813685519 (by simp) (by simp) ?_
  simp only[zX,simprocAttr,i64,bV,Goal.d_mk,iD,bD,k2]
  refine⟨⟨_,rfl⟩,?_⟩
  refine draw_c mix [] [] (by rfl) ?_
  by_cases q1:re.mn≤k
  case' pos =>
   have q2:¬i=frm:=fun h=>c1 ⟨q1,h⟩
   simp only[zX,simprocAttr,i64,bV,iD,ge_iff_le,q1,q2]
  case' neg =>
   simp only[zX,simprocAttr,i64,bV,iD,ge_iff_le,q1]
  all_goals
   refine draw_first Cln0.reserve ?_
   refine draw_c mix [18] [(15,[3],[3])] (by rfl) ?_
   simp only[zX,simprocAttr,i64,bV,iD,bD,hole,w1]
   refine callD_of (call_give [3] ?_ (hc _)) ?_
   ·simp [killO,kill1,frzV.go,frzV,frzD]
   ·simp only[zX,simprocAttr,i64,bV,iD]
    exact andAll _ _
 rw[if_neg k2] at hr
 by_cases k3:kind=3
 ·rw[if_pos k3] at hr
  by_cases c1:1000000000 < c.length
  ·rw[if_pos c1] at hr; cases hr
  rw[if_neg c1] at hr
  have hc:=ih g0 _ _ _ _ _ hr
  unfold taskF taskA srS srO at hc; simp only[Goal.d_mk,i64,iD,bD,bV] at hc
  have hw:=with_ok c re.n frm i (by omega)
  simp only[i64] at hw
  unfold srS srO
  refine fn_ok func88 rfl ntmps88 results88 rfl 3 2251799813685519 (by simp) (by simp) ?_
  simp only[zX,simprocAttr,i64,bV,Goal.d_mk,iD,bD,k3]
  refine⟨⟨_,rfl⟩,?_⟩
  refine draw_c mix [18] [] (by rfl) ?_
  simp only[zX,simprocAttr,i64,bV,iD,bD]
  refine callC_pure hw rfl rfl ?_
  simp only[zX,simprocAttr,i64,bV,iD,bD]
  refine callD_of hc ?_
  simp only[zX,simprocAttr,i64,bV,iD]
  exact andAll _ _
 rw[if_neg k3] at hr
 by_cases k4:kind=4
 ·rw[if_pos k4] at hr
  by_cases c1:i=frm
  ·rw[if_pos c1] at hr
   have hc:=ih g0 _ _ _ _ _ hr
   unfold taskF taskA srS srO at hc; simp only[Goal.d_mk,i64,iD,bD,bV] at hc
   unfold srS srO
   refine fn_ok func88 rfl ntmps88 results88 rfl 3 2251799813685519 (by simp) (by simp) ?_
   simp only[zX,simprocAttr,i64,bV,Goal.d_mk,iD,bD,k4]
   refine⟨⟨_,rfl⟩,?_⟩
   simp only[zX,simprocAttr,i64,bV,iD,bD,c1]
   simp only[c1] at hc
   (refine callWp_mono hc (fun v s' hv=>?_); obtain⟨rfl,rfl⟩:=hv)
   simp only[zX,simprocAttr,i64,bV,iD]
   exact andAll _ _
  ·rw[if_neg c1] at hr
   simp only[Option.some.injEq,Prod.mk.injEq] at hr
   obtain⟨rfl,rfl⟩:=hr
   unfold srS srO
   refine fn_ok func88 rfl ntmps88 results88 rfl 3 2251799813685519 (by simp) (by simp) ?_
   simp only[zX,simprocAttr,i64,bV,Goal.d_mk,iD,bD,k4,c1]
   exact⟨⟨_,rfl⟩,andAll _ _⟩
 rw[if_neg k4] at hr
 have hc:=ih g0 _ _ _ _ _ hr
 unfold taskF taskA srS srO at hc; simp only[Goal.d_mk,i64,iD,bD,bV] at hc
 unfold srS srO
 refine fn_ok func88 rfl ntmps88 results88 rfl 3 2251799813685519 (by simp) (by simp) ?_
 simp only[zX,simprocAttr,i64,bV,Goal.d_mk,iD,bD,k1,k2,k3,k4]
 refine⟨⟨_,rfl⟩,?_⟩
 (refine callWp_mono hc (fun v s' hv=>?_); obtain⟨rfl,rfl⟩:=hv)
 simp only[zX,simprocAttr,i64,bV,iD]
 exact andAll _ _
end Go.Proofs.Ytllagoeijcjpiaa
