/- A part of the proof (G53). -/
import Derived.Test.YtilapneoohcplaaBO44
set_option linter.unusedSimpArgs false
set_option linter.unusedVariables false
set_option maxRecDepth 100000
set_option maxHeartbeats 80000000
namespace Go.Proofs.Ytilapneoohcplaa
open Go.VL Go.Proofs.Try
theorem kept_len {m : Mst} (h : m.top ≤ m.stk.length) : m.kept.top ≤ m.kept.stk.length := by
 unfold Mst.kept; split <;> exact h
theorem lives8_ok : PureOK prog 18 [] (bV true) := by
 have hrun : ∀ b a : Nat, callWp prog 15 [.pp 0 0 0 0 b a, .d (intsD [97, 98]), i64 0, i64 9] ((fresh pL).objsT 0 b a (.fu [])) fun v s => v = .tu [.ag [i64 0, i64 1, .d (capD [])], bV true, i64 2, i64 0] ∧ s = mL1.objsT 0 b a mL1.text := fun b a => by
  have h := mrun_ok (k := 30) (m2 := rsM runL) (p2 := rsP runL) (found := rsF runL) 0 b a (fresh pL) (.fu []) rfl rfl (Nat.le_refl _) [97, 98] 0 9 (by simp) (by intro x hx; simp at hx; rcases hx with rfl | rfl <;> (unfold I64; omega)) mL_check 0 rfl (by omega) (rs_some runL_some) (by decide)
  rw [runL_res, mL1_T] at h
  exact h
 have hn1 : ∀ b a : Nat, callWp prog 19 [.pp 0 0 0 0 b a] (mL1.objsT 0 b a mL1.text) fun v s => v = .tu [.ag [i64 0, i64 2, .d (capD [])], bV true, i64 5, i64 0] ∧ s = mL2.objsT 0 b a mL2.text := fun b a => by
  have h := mnext_ok (k := 30) (m2 := rsM nextL) (p2 := rsP nextL) (found := rsF nextL) 0 b a mL1 mL1_ready (rs_some nextL_some) (by decide)
  rw [nextL_res] at h
  exact h
 have hn2 : ∀ b a : Nat, callWp prog 19 [.pp 0 0 0 0 b a] (mL2.objsT 0 b a mL2.text) fun v s => v = .tu [.ag [i64 0, i64 0, .d (.sl [])], bV false, i64 5, i64 0] ∧ s = mL3.objsT 0 b a mL3.text := fun b a => by
  have h := mnext_ok (k := 30) (m2 := rsM nextL2) (p2 := rsP nextL2) (found := rsF nextL2) 0 b a mL2 mL2_ready (rs_some nextL2_some) (by decide)
  rw [nextL2_res] at h
  exact h
 have hdp : ∀ b a : Nat, callWp prog 20 [.pp 0 0 0 0 b a] (mL3.objsT 0 b a mL3.text) fun v s => v = i64 1 ∧ s = mL3.objsT 0 b a mL3.text := fun b a => by
  have h := deepest_ok' 0 b a mL3 mL3.text (mtext_refs _)
  rw [mL_deep] at h
  exact h
 refine fn_ok func18 rfl ntmps18 results18 rfl 0 122879 (by simp) (by simp) ?_
 simp only [zX, Nat.reduceShiftRight, Nat.reduceMod, Nat.reduceLT, Nat.reduceMul, Nat.reduceSub, Int.reduceToNat, Int.reduceNeg, Int.reduceLT, Int.reduceLE, Int.reduceEq, Nat.reduceEqDiff, Nat.reduceAdd, Nat.reduceLeDiff, reduceIte, reduceCtorEq, Nat.reduceBEq, i64, bV]
 refine call_give [] (cargs := [patV pL]) (by rfl) (call_new (by decide) mL_valid fun b a => ?_)
 simp only [zX, Nat.reduceShiftRight, Nat.reduceMod, Nat.reduceLT, Nat.reduceMul, Nat.reduceSub, Int.reduceToNat, Int.reduceNeg, Int.reduceLT, Int.reduceLE, Int.reduceEq, Nat.reduceEqDiff, Nat.reduceAdd, Nat.reduceLeDiff, reduceIte, reduceCtorEq, Nat.reduceBEq, i64, bV, killO, List.length_cons, List.length_nil, List.cons_append, List.nil_append]
 refine ⟨rfl, ⟨_, rfl⟩, ?_⟩
 refine call_give [] (cargs := [.pp 2 0 0 0 b a, .d (intsD [97, 98]), i64 0, i64 9]) (by rfl) ?_
 refine call_m (X := 2) (Y := 3) (Z := 4) (r' := .tu [.ag [i64 0, i64 1, .d (capD [])], bV true, i64 2, i64 0]) (hrun b a) rfl rfl rfl (by decide) rfl rfl rfl rfl rfl rfl ?_
 simp only [zX, Nat.reduceShiftRight, Nat.reduceMod, Nat.reduceLT, Nat.reduceMul, Nat.reduceSub, Int.reduceToNat, Int.reduceNeg, Int.reduceLT, Int.reduceLE, Int.reduceEq, Nat.reduceEqDiff, Nat.reduceAdd, Nat.reduceLeDiff, reduceIte, reduceCtorEq, Nat.reduceBEq, i64, bV, killO, List.set_cons_zero, List.set_cons_succ, ne_eq, not_true_eq_false, Bool.not_false, Bool.not_true]
 refine call_m (X := 2) (Y := 3) (Z := 4) (r' := .tu [.ag [i64 0, i64 2, .d (capD [])], bV true, i64 5, i64 0]) (hn1 b a) (mtext_refs _) rfl rfl (by decide) rfl rfl rfl rfl rfl rfl ?_
 simp only [zX, Nat.reduceShiftRight, Nat.reduceMod, Nat.reduceLT, Nat.reduceMul, Nat.reduceSub, Int.reduceToNat, Int.reduceNeg, Int.reduceLT, Int.reduceLE, Int.reduceEq, Nat.reduceEqDiff, Nat.reduceAdd, Nat.reduceLeDiff, reduceIte, reduceCtorEq, Nat.reduceBEq, i64, bV, killO, List.set_cons_zero, List.set_cons_succ, ne_eq, not_true_eq_false, Bool.not_false, Bool.not_true]
 refine call_m (X := 2) (Y := 3) (Z := 4) (r' := .tu [.ag [i64 0, i64 0, .d (.sl [])], bV false, i64 5, i64 0]) (hn2 b a) (mtext_refs _) rfl rfl (by decide) rfl rfl rfl rfl rfl rfl ?_
 simp only [zX, Nat.reduceShiftRight, Nat.reduceMod, Nat.reduceLT, Nat.reduceMul, Nat.reduceSub, Int.reduceToNat, Int.reduceNeg, Int.reduceLT, Int.reduceLE, Int.reduceEq, Nat.reduceEqDiff, Nat.reduceAdd, Nat.reduceLeDiff, reduceIte, reduceCtorEq, Nat.reduceBEq, i64, bV, killO, List.set_cons_zero, List.set_cons_succ, ne_eq, not_true_eq_false, Bool.not_false, Bool.not_true]
 refine call_m (X := 2) (Y := 3) (Z := 4) (r' := i64 1) (hdp b a) (mtext_refs _) rfl rfl (by decide) rfl rfl rfl rfl rfl rfl ?_
 simp only [zX, Nat.reduceShiftRight, Nat.reduceMod, Nat.reduceLT, Nat.reduceMul, Nat.reduceSub, Int.reduceToNat, Int.reduceNeg, Int.reduceLT, Int.reduceLE, Int.reduceEq, Nat.reduceEqDiff, Nat.reduceAdd, Nat.reduceLeDiff, reduceIte, reduceCtorEq, Nat.reduceBEq, i64, bV, killO, List.set_cons_zero, List.set_cons_succ, ne_eq, not_true_eq_false, Bool.not_false, Bool.not_true]
end Go.Proofs.Ytilapneoohcplaa
