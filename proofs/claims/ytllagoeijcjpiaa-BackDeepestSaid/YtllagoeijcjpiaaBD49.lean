/- A part of the proof (G53). -/
import Derived.Test.YtllagoeijcjpiaaBD48
set_option linter.unusedSimpArgs false
set_option linter.unusedVariables false
set_option maxRecDepth 100000
set_option maxHeartbeats 80000000
namespace Go.Proofs.Ytllagoeijcjpiaa
open Go.VL Go.Proofs.Try
theorem I9 {m:aB} (h:m.top≤m.dY.length):m.kept.top≤m.kept.dY.length:=by
 unfold aB.kept;split <;> exact h
theorem Ho:bI prog 27 [] (bV true):=by
 have cY:∀b a:Nat,az prog 24 [.pp 0 0 0 0 b a,.d (ay [97,98]),i64 0,i64 9] ((fresh pL).aA 0 b a (.fu [])) fun v s=>v=.tu [.ag [i64 0,i64 1,.d (bd [])],bV true,i64 2,i64 0]∧s=MQ.aA 0 b a MQ.text:=fun b a=>by
  have h:=A1 (k:=30) (m2:=IT wP) (p2:=Nx wP) (found:=Kh wP) 0 b a (fresh pL) (.fu []) rfl rfl (VA _) [97,98] 0 9 (by simp) (by intro x hx;simp at hx;rcases hx with rfl|rfl <;> (unfold iV;omega)) K0 0 rfl (by omega) (A8 Hq) (by decide)
  rw[Ju,Qx]at h
  exact h
 have kv:∀b a:Nat,az prog 26 [.pp 0 0 0 0 b a] (MQ.aA 0 b a MQ.text) fun v s=>v=.tu [.ag [i64 0,i64 2,.d (bd [])],bV true,i64 5,i64 0]∧s=NT.aA 0 b a NT.text:=fun b a=>by
  have h:=sB (k:=30) (m2:=IT s9) (p2:=Nx s9) (found:=Kh s9) 0 b a MQ Hi (A8 Fz) (by decide)
  rw[He]at h
  exact h
 have UX:∀b a:Nat,az prog 26 [.pp 0 0 0 0 b a] (NT.aA 0 b a NT.text) fun v s=>v=.tu [.ag [i64 0,i64 0,.d (.sl [])],bV false,i64 5,i64 0]∧s=Lv.aA 0 b a Lv.text:=fun b a=>by
  have h:=sB (k:=30) (m2:=IT oh) (p2:=Nx oh) (found:=Kh oh) 0 b a NT GV (A8 DK) (by decide)
  rw[El]at h
  exact h
 have gT:∀b a:Nat,az prog 23 [.pp 0 0 0 0 b a] (Lv.aA 0 b a Lv.text) fun v s=>v=i64 1∧s=Lv.aA 0 b a Lv.text:=fun b a=>by
  have h:=bU 0 b a Lv Lv.text (gx _)
  rw[Ll]at h
  exact h
 refine av func27 rfl ntmps27 results27 rfl 0 122879 (by simp) (by simp) ?_
 simp only[zX,Nat.reduceShiftRight,Nat.reduceMod,Nat.reduceLT,Nat.reduceMul,Nat.reduceSub,Int.reduceToNat,Int.reduceNeg,Int.reduceLT,Int.reduceLE,Int.reduceEq,Nat.reduceEqDiff,Nat.reduceAdd,Nat.reduceLeDiff,reduceIte,reduceCtorEq,Nat.reduceBEq,i64,bV]
 refine aP [] (cargs:=[eb pL]) (by rfl) (CP (by decide) JZ fun b a=>?_)
 simp only[zX,Nat.reduceShiftRight,Nat.reduceMod,Nat.reduceLT,Nat.reduceMul,Nat.reduceSub,Int.reduceToNat,Int.reduceNeg,Int.reduceLT,Int.reduceLE,Int.reduceEq,Nat.reduceEqDiff,Nat.reduceAdd,Nat.reduceLeDiff,reduceIte,reduceCtorEq,Nat.reduceBEq,i64,bV,bk,VC,VK,Vz,Vx]
 refine⟨rfl,⟨_,rfl⟩,?_⟩
 refine aP [] (cargs:=[.pp 2 0 0 0 b a,.d (ay [97,98]),i64 0,i64 9]) (by rfl) ?_
 refine cV (X:=2) (Y:=3) (Z:=4) (r':=.tu [.ag [i64 0,i64 1,.d (bd [])],bV true,i64 2,i64 0]) (cY b a) rfl rfl rfl (by decide) rfl rfl rfl rfl rfl rfl ?_
 simp only[zX,Nat.reduceShiftRight,Nat.reduceMod,Nat.reduceLT,Nat.reduceMul,Nat.reduceSub,Int.reduceToNat,Int.reduceNeg,Int.reduceLT,Int.reduceLE,Int.reduceEq,Nat.reduceEqDiff,Nat.reduceAdd,Nat.reduceLeDiff,reduceIte,reduceCtorEq,Nat.reduceBEq,i64,bV,bk,V5,V9,ne_eq,not_true_eq_false,Vt,Vs]
 refine cV (X:=2) (Y:=3) (Z:=4) (r':=.tu [.ag [i64 0,i64 2,.d (bd [])],bV true,i64 5,i64 0]) (kv b a) (gx _) rfl rfl (by decide) rfl rfl rfl rfl rfl rfl ?_
 simp only[zX,Nat.reduceShiftRight,Nat.reduceMod,Nat.reduceLT,Nat.reduceMul,Nat.reduceSub,Int.reduceToNat,Int.reduceNeg,Int.reduceLT,Int.reduceLE,Int.reduceEq,Nat.reduceEqDiff,Nat.reduceAdd,Nat.reduceLeDiff,reduceIte,reduceCtorEq,Nat.reduceBEq,i64,bV,bk,V5,V9,ne_eq,not_true_eq_false,Vt,Vs]
 refine cV (X:=2) (Y:=3) (Z:=4) (r':=.tu [.ag [i64 0,i64 0,.d (.sl [])],bV false,i64 5,i64 0]) (UX b a) (gx _) rfl rfl (by decide) rfl rfl rfl rfl rfl rfl ?_
 simp only[zX,Nat.reduceShiftRight,Nat.reduceMod,Nat.reduceLT,Nat.reduceMul,Nat.reduceSub,Int.reduceToNat,Int.reduceNeg,Int.reduceLT,Int.reduceLE,Int.reduceEq,Nat.reduceEqDiff,Nat.reduceAdd,Nat.reduceLeDiff,reduceIte,reduceCtorEq,Nat.reduceBEq,i64,bV,bk,V5,V9,ne_eq,not_true_eq_false,Vt,Vs]
 refine cV (X:=2) (Y:=3) (Z:=4) (r':=i64 1) (gT b a) (gx _) rfl rfl (by decide) rfl rfl rfl rfl rfl rfl ?_
 simp only[zX,Nat.reduceShiftRight,Nat.reduceMod,Nat.reduceLT,Nat.reduceMul,Nat.reduceSub,Int.reduceToNat,Int.reduceNeg,Int.reduceLT,Int.reduceLE,Int.reduceEq,Nat.reduceEqDiff,Nat.reduceAdd,Nat.reduceLeDiff,reduceIte,reduceCtorEq,Nat.reduceBEq,i64,bV,bk,V5,V9,ne_eq,not_true_eq_false,Vt,Vs]
end Go.Proofs.Ytllagoeijcjpiaa
