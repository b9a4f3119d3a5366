/- A part of the proof (F41 F32 F33 F43 F44). -/
import Derived.Test.YtimnnipoaafdfaaSU3
import Derived.Test.YtimnnipoaafdfaaSU5
import Derived.Test.YtimnnipoaafdfaaSU18
import Derived.Test.YtimnnipoaafdfaaSU19
set_option linter.unusedSimpArgs false
set_option linter.unusedVariables false
set_option maxRecDepth 100000
set_option maxHeartbeats 80000000
set_option linter.unusedSimpArgs false
set_option linter.unusedVariables false
namespace Go.Proofs.Ytimnnipoaafdfaa
open Go.VL Go.Proofs.Try
end Go.Proofs.Ytimnnipoaafdfaa
namespace Go.Proofs.Ytimnnipoaafdfaa
open Go.VL Go.Proofs.Try
def valB (re:Re):Bool:=decide (0≤re.op∧re.op≤11∧(re.op=4→re.kids.length=1∧0≤re.mn∧re.mn≤32∧(re.mx=-1∨(1≤re.mx∧re.mx≤32∧re.mn≤re.mx))) ∧
 (re.op=3∨re.op=10∨re.op=5∨re.op=9→re.kids≠[])∧(re.op=5∨re.op=9→re.kids.length=1))
theorem val_of_ok {re:Re} {caps top:Int} (h:nodeOk re caps top=true):valB re=true:=by
 obtain⟨⟨h1,h2,h3,h4⟩,_,h5,_,_⟩:=nodeOk_iff.1 h
 refine decide_eq_true ⟨h1,h2,fun o=>?_,fun o=>?_,fun o=>?_⟩
 ·rw[o] at h3 h4 h5
  simp only[kidsR,Int.reduceEq,or_self,if_false,or_true,true_or,or_false,false_or,if_true,reduceIte] at h3 h4 h5
  omega
 ·intro hn
  rw[hn] at h3
  rcases o with o | o | o | o <;> rw[o] at h3 <;> simp [kidsR] at h3
 ·rcases o with o | o
  all_goals
   rw[o] at h3 h4
   simp only[kidsR,Int.reduceEq,or_self,if_false,or_true,true_or,or_false,false_or,if_true,reduceIte] at h3 h4
   omega
theorem val_whole {re:Re} {caps top:Int} (h:re.whole caps top=true):re.every valB=true:=every_mono' (fun _=>val_of_ok) re h
def patC (p:Pat):List D:=p.re.cells++[iD p.caps,bD p.runes]
theorem patV_C (p:Pat):patV p=.ag ((patC p).map .d):=by
 unfold patV patC; rw[List.map_append]; rfl
theorem patC_eq (p:Pat):patC p=[iD p.re.op,.sl (p.re.set.map spanC),.sl (p.re.kids.map Re.cells),iD p.re.mn,iD p.re.mx,iD p.re.mode,iD p.re.n,bD p.re.neg,iD p.caps,bD p.runes]:=by
 unfold patC; rw[Re.cells_eq]; rfl
end Go.Proofs.Ytimnnipoaafdfaa
