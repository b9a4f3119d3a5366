/- A part of the proof (G21 G22 G23 G33 K16). -/
import Derived.Test.YtdofoappodmcoaaKP2
import Derived.Test.YtdofoappodmcoaaKP15
import Derived.Test.YtdofoappodmcoaaKP31
set_option linter.unusedSimpArgs false
set_option linter.unusedVariables false
set_option maxRecDepth 100000
set_option maxHeartbeats 80000000
namespace Go.Proofs.Ytdofoappodmcoaa
open Go.VL Go.Proofs.Try
inductive BRef where
 | nil
 | root
 | el (re:Re)
inductive BGoal where
 | nil
 | mk (kind:Int) (re:BRef) (n at_:Int) (next:BGoal)
structure BPlace where
 at_:Int
 caps:CapsL
 todo:BGoal
structure Mst where
 p:Pat
 t:List Int
 ownText:Bool
 own:List Int
 ogen:Nat
 stk:List (Option BPlace)
 top:Nat
 gen:Nat
 deepest:Int
 start:Int
 steps:Int
 fuel:Int
 spent:Bool
 ready:Bool
def Mst.step (m:Mst):Mst:=if m.steps < m.fuel then { m with steps:=m.steps + 1 } else { m with spent:=true }
def Mst.same (m:Mst):Prop:=m.ownText=true→m.own=m.t
instance (m:Mst):Decidable m.same:=by unfold Mst.same; infer_instance
def Mst.good (m:Mst) (p:BPlace):Prop:=(0≤m.steps∧m.steps≤10000000000000∧m.top≤m.stk.length∧m.top≤1200000000000)∧(0≤p.at_∧p.at_≤m.t.length∧p.caps.length≤1000000000)∧m.t.length≤1000000∧m.same
instance (m:Mst) (p:BPlace):Decidable (m.good p):=by unfold Mst.good; infer_instance
theorem tword_ok (x:Int):PureOK prog 86 [i64 x] (bV (wordB x)):=by
 refine fn_ok func86 rfl ntmps86 results86 rfl 0 5 (by simp) (by simp) ?_
 simp only[zX,simprocAttr,i64]
 repeat' (first
 |(with_reducible refine And.intro (by first | omega | exact⟨by omega,by omega⟩ | (simp; done)) ?_)
 |(with_reducible refine condS (fun hc=>?_) (fun hc=>?_) <;> simp only[zX,simprocAttr,i64,ge_iff_le,hc])
 |(with_reducible refine guardS_t (fun hc=>?_) (fun hc=>?_) <;> simp only[zX,simprocAttr,i64,ge_iff_le,hc])
 |(with_reducible refine guardS_f (fun hc=>?_) (fun hc=>?_) <;> simp only[zX,simprocAttr,i64,ge_iff_le,hc])
 |(with_reducible refine guardS_nt (fun hc=>?_) (fun hc=>?_) <;> simp only[zX,simprocAttr,i64,ge_iff_le,hc])
 |(with_reducible refine guardS_nf (fun hc=>?_) (fun hc=>?_) <;> simp only[zX,simprocAttr,i64,ge_iff_le,hc])
 |(with_reducible refine condSb (fun hc=>?_) (fun hc=>?_) <;> simp only[zX,simprocAttr,i64,ge_iff_le,hc])
 |(with_reducible refine guardS_b (fun hc=>?_) (fun hc=>?_) <;> simp only[zX,simprocAttr,i64,ge_iff_le,hc]))
 all_goals (simp only[wordB,bV]; simp [*]; try omega)
theorem assert_ok (n:Int) (t:List Int) (i:Int) (hn0:0≤n) (hn1:n≤5) (ht:t.length≤1000000) (h0:0≤i) (h1:i≤t.length):PureOK prog 54 [i64 n,.d (intsD t),i64 i] (bV (holdsR n t i)):=by
 have w1:IntKind.i64.wrap (i - 1)=i - 1:=w64 _ (by omega)
 have hw:=tword_ok (tAt t (i - 1))
 have hw2:=tword_ok (tAt t i)
 simp only[i64,bV] at hw hw2
 have u1:¬i < 0:=by omega
 have u2:¬(t.length:Int) < i:=by omega
 have hg1:0 < i→t[(i - 1).toNat]?=some (tAt t (i - 1)):=fun h=>tAt_get (by omega) (by omega)
 have hg2:i < t.length→t[i.toNat]?=some (tAt t i):=fun h=>tAt_get h0 h
 have hcase:n=0∨n=1∨n=2∨n=3∨n=4∨n=5:=by omega
 rcases hcase with rfl | rfl | rfl | rfl | rfl | rfl
 ·refine fn_ok func54 rfl ntmps54 results54 rfl 0 9007199254872519 (by simp) (by simp) ?_
  simp only[zX,simprocAttr,i64,iD,intsD,u1,u2,gt_iff_lt]
  simp [holdsR,bV]
 ·refine fn_ok func54 rfl ntmps54 results54 rfl 0 9007199254872519 (by simp) (by simp) ?_
  simp only[zX,simprocAttr,i64,iD,intsD,u1,u2,gt_iff_lt]
  simp [holdsR,bV]
 ·by_cases c:i=0
  ·have e:=eq_true c
   refine fn_ok func54 rfl ntmps54 results54 rfl 0 9007199254872519 (by simp) (by simp) ?_
   simp only[zX,simprocAttr,i64,iD,intsD,u1,u2,gt_iff_lt,e]
   simp [holdsR,bV,c]
  ·have b1:0≤i - 1:=by omega
   have b2:i - 1 < (t.length:Int):=by omega
   have g1:=hg1 (by omega)
   refine fn_ok func54 rfl ntmps54 results54 rfl 0 9007199254872519 (by simp) (by simp) ?_
   simp only[zX,simprocAttr,i64,iD,intsD,u1,u2,gt_iff_lt,c,w1,b1,b2,g1]
   simp [holdsR,bV,c]
 ·by_cases c:i=(t.length:Int)
  ·have e:=eq_true c
   refine fn_ok func54 rfl ntmps54 results54 rfl 0 9007199254872519 (by simp) (by simp) ?_
   simp only[zX,simprocAttr,i64,iD,intsD,u1,u2,gt_iff_lt,e]
   simp [holdsR,bV,c]
  ·have b2:i < (t.length:Int):=by omega
   have g2:=hg2 b2
   refine fn_ok func54 rfl ntmps54 results54 rfl 0 9007199254872519 (by simp) (by simp) ?_
   simp only[zX,simprocAttr,i64,iD,intsD,u1,u2,gt_iff_lt,c,h0,b2,g2]
   simp [holdsR,bV,c]
 all_goals
  by_cases c1:0 < i
  ·have b1:0≤i - 1:=by omega
   have b2:i - 1 < (t.length:Int):=by omega
   have g1:=hg1 c1
   by_cases c2:i < (t.length:Int)
   ·have g2:=hg2 c2
    refine fn_ok func54 rfl ntmps54 results54 rfl 0 9007199254872519 (by simp) (by simp) ?_
    simp only[zX,simprocAttr,i64,iD,intsD,u1,u2,gt_iff_lt,c1,c2,w1,b1,b2,g1,g2,h0]
    refine call_pure hw rfl rfl ?_
    simp only[zX,simprocAttr,i64,iD,intsD,u1,u2,gt_iff_lt,c1,c2,w1,b1,b2,g1,g2,h0]
    refine call_pure hw2 rfl rfl ?_
    simp only[zX,simprocAttr,i64,iD,intsD,u1,u2,gt_iff_lt,c1,c2,w1,b1,b2,g1,g2,h0]
    simp [holdsR,bV,leftB,rightB,c1,c2] <;> (cases wordB (tAt t (i - 1)) <;> cases wordB (tAt t i) <;> rfl)
   ·refine fn_ok func54 rfl ntmps54 results54 rfl 0 9007199254872519 (by simp) (by simp) ?_
    simp only[zX,simprocAttr,i64,iD,intsD,u1,u2,gt_iff_lt,c1,c2,w1,b1,b2,g1,h0]
    refine call_pure hw rfl rfl ?_
    simp only[zX,simprocAttr,i64,iD,intsD,u1,u2,gt_iff_lt,c1,c2,w1,b1,b2,g1,h0]
    simp [holdsR,bV,leftB,rightB,c1,c2]
  ·by_cases c2:i < (t.length:Int)
   ·have g2:=hg2 c2
    refine fn_ok func54 rfl ntmps54 results54 rfl 0 9007199254872519 (by simp) (by simp) ?_
    simp only[zX,simprocAttr,i64,iD,intsD,u1,u2,gt_iff_lt,c1,c2,g2,h0]
    refine call_pure hw2 rfl rfl ?_
    simp only[zX,simprocAttr,i64,iD,intsD,u1,u2,gt_iff_lt,c1,c2,g2,h0]
    simp [holdsR,bV,leftB,rightB,c1,c2]
   ·refine fn_ok func54 rfl ntmps54 results54 rfl 0 9007199254872519 (by simp) (by simp) ?_
    simp only[zX,simprocAttr,i64,iD,intsD,u1,u2,gt_iff_lt,c1,c2,h0]
    simp [holdsR,bV,leftB,rightB,c1,c2]
end Go.Proofs.Ytdofoappodmcoaa
