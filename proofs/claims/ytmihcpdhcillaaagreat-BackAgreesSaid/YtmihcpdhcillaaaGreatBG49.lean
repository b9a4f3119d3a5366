/- A part of the proof (G53). -/
import Derived.Test.YtmihcpdhcillaaaGreatBG48
set_option linter.unusedSimpArgs false
set_option linter.unusedVariables false
set_option maxRecDepth 100000
set_option maxHeartbeats 80000000
namespace Go.Proofs.YtmihcpdhcillaaaGreat
open Go.VL Go.Proofs.Tryz
theorem JM {m:aC} (h:m.top≤m.cO.length):m.kept.top≤m.kept.cO.length:=by
 unfold aC.kept;split <;> exact h
theorem HT:br prog 10 [] (bV true):=by
 have c8:∀b a:Nat,av prog 7 [.pp 0 0 0 0 b a,.d (aB [97,98]),i64 0,i64 9] ((fresh pL).az 0 b a (.fu [])) fun v s=>v=.tu [.ag [i64 0,i64 1,.d (bH [])],bV true,i64 2,i64 0]∧s=NA.az 0 b a NA.text:=fun b a=>by
  have h:=GI (k:=30) (m2:=JI xg) (p2:=Ol xg) (found:=KS xg) 0 b a (fresh pL) (.fu []) rfl rfl (W4 _) [97,98] 0 9 (by simp) (by intro x hx;simp at hx;rcases hx with rfl|rfl <;> (unfold jX;omega)) JH 0 rfl (by omega) (A3 G8) (by decide)
  rw[KO,QI]at h
  exact h
 have fY:∀b a:Nat,av prog 26 [.pp 0 0 0 0 b a] (NA.az 0 b a NA.text) fun v s=>v=.tu [.ag [i64 0,i64 2,.d (bH [])],bV true,i64 5,i64 0]∧s=N6.az 0 b a N6.text:=fun b a=>by
  have h:=C9 (k:=30) (m2:=JI sC) (p2:=Ol sC) (found:=KS sC) 0 b a NA H3 (A3 Fc) (by decide)
  rw[HF]at h
  exact h
 have RK:∀b a:Nat,av prog 26 [.pp 0 0 0 0 b a] (N6.az 0 b a N6.text) fun v s=>v=.tu [.ag [i64 0,i64 0,.d (.sl [])],bV false,i64 5,i64 0]∧s=Lx.az 0 b a Lx.text:=fun b a=>by
  have h:=C9 (k:=30) (m2:=JI nY) (p2:=Ol nY) (found:=KS nY) 0 b a N6 Is (A3 B8) (by decide)
  rw[ED]at h
  exact h
 have U1:∀b a:Nat,av prog 27 [.pp 0 0 0 0 b a] (Lx.az 0 b a Lx.text) fun v s=>v=i64 1∧s=Lx.az 0 b a Lx.text:=fun b a=>by
  have h:=CC 0 b a Lx Lx.text (iE _)
  rw[MH]at h
  exact h
 refine aw func10 rfl ntmps10 results10 rfl 0 122879 (by simp) (by simp) ?_
 simp only[zX,Nat.reduceShiftRight,Nat.reduceMod,Nat.reduceLT,Nat.reduceMul,Nat.reduceSub,Int.reduceToNat,Int.reduceNeg,Int.reduceLT,Int.reduceLE,Int.reduceEq,Nat.reduceEqDiff,Nat.reduceAdd,Nat.reduceLeDiff,reduceIte,reduceCtorEq,Nat.reduceBEq,i64,bV]
 refine aO [] (cargs:=[cN pL]) (by rfl) (CF (by decide) J6 fun b a=>?_)
 simp only[zX,Nat.reduceShiftRight,Nat.reduceMod,Nat.reduceLT,Nat.reduceMul,Nat.reduceSub,Int.reduceToNat,Int.reduceNeg,Int.reduceLT,Int.reduceLE,Int.reduceEq,Nat.reduceEqDiff,Nat.reduceAdd,Nat.reduceLeDiff,reduceIte,reduceCtorEq,Nat.reduceBEq,i64,bV,aM,W3,Xa,WR,WS]
 refine⟨rfl,⟨_,rfl⟩,?_⟩
 refine aO [] (cargs:=[.pp 2 0 0 0 b a,.d (aB [97,98]),i64 0,i64 9]) (by rfl) ?_
 refine uD (X:=2) (Y:=3) (Z:=4) (r':=.tu [.ag [i64 0,i64 1,.d (bH [])],bV true,i64 2,i64 0]) (c8 b a) rfl rfl rfl (by decide) rfl rfl rfl rfl rfl rfl ?_
 simp only[zX,Nat.reduceShiftRight,Nat.reduceMod,Nat.reduceLT,Nat.reduceMul,Nat.reduceSub,Int.reduceToNat,Int.reduceNeg,Int.reduceLT,Int.reduceLE,Int.reduceEq,Nat.reduceEqDiff,Nat.reduceAdd,Nat.reduceLeDiff,reduceIte,reduceCtorEq,Nat.reduceBEq,i64,bV,aM,Xh,Xl,ne_eq,not_true_eq_false,W0,WY]
 refine uD (X:=2) (Y:=3) (Z:=4) (r':=.tu [.ag [i64 0,i64 2,.d (bH [])],bV true,i64 5,i64 0]) (fY b a) (iE _) rfl rfl (by decide) rfl rfl rfl rfl rfl rfl ?_
 simp only[zX,Nat.reduceShiftRight,Nat.reduceMod,Nat.reduceLT,Nat.reduceMul,Nat.reduceSub,Int.reduceToNat,Int.reduceNeg,Int.reduceLT,Int.reduceLE,Int.reduceEq,Nat.reduceEqDiff,Nat.reduceAdd,Nat.reduceLeDiff,reduceIte,reduceCtorEq,Nat.reduceBEq,i64,bV,aM,Xh,Xl,ne_eq,not_true_eq_false,W0,WY]
 refine uD (X:=2) (Y:=3) (Z:=4) (r':=.tu [.ag [i64 0,i64 0,.d (.sl [])],bV false,i64 5,i64 0]) (RK b a) (iE _) rfl rfl (by decide) rfl rfl rfl rfl rfl rfl ?_
 simp only[zX,Nat.reduceShiftRight,Nat.reduceMod,Nat.reduceLT,Nat.reduceMul,Nat.reduceSub,Int.reduceToNat,Int.reduceNeg,Int.reduceLT,Int.reduceLE,Int.reduceEq,Nat.reduceEqDiff,Nat.reduceAdd,Nat.reduceLeDiff,reduceIte,reduceCtorEq,Nat.reduceBEq,i64,bV,aM,Xh,Xl,ne_eq,not_true_eq_false,W0,WY]
 refine uD (X:=2) (Y:=3) (Z:=4) (r':=i64 1) (U1 b a) (iE _) rfl rfl (by decide) rfl rfl rfl rfl rfl rfl ?_
 simp only[zX,Nat.reduceShiftRight,Nat.reduceMod,Nat.reduceLT,Nat.reduceMul,Nat.reduceSub,Int.reduceToNat,Int.reduceNeg,Int.reduceLT,Int.reduceLE,Int.reduceEq,Nat.reduceEqDiff,Nat.reduceAdd,Nat.reduceLeDiff,reduceIte,reduceCtorEq,Nat.reduceBEq,i64,bV,aM,Xh,Xl,ne_eq,not_true_eq_false,W0,WY]
end Go.Proofs.YtmihcpdhcillaaaGreat
