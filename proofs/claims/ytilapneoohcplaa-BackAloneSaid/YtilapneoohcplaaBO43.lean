/- A part of the proof (G41 G49). -/
import Derived.Test.YtilapneoohcplaaBO3
import Derived.Test.YtilapneoohcplaaBO42
import Derived.Test.YtilapneoohcplaaBO35
set_option linter.unusedSimpArgs false
set_option linter.unusedVariables false
set_option maxRecDepth 100000
set_option maxHeartbeats 80000000
namespace Go.Proofs.Ytilapneoohcplaa
open Go.VL Go.Proofs.Try
def bcloneO (re : Re) (v : V) : VL.Obj := ⟨0, true, 8, [[i64 re.op, .d (.sl (re.set.map spanC)), v, i64 re.mn, i64 re.mx, i64 re.mode, i64 re.n, bV re.neg]]⟩
def bzeroO : VL.Obj := ⟨0, true, 8, [[i64 0, .fu [], .fu [], i64 0, i64 0, i64 0, i64 0, bV false]]⟩
theorem bclone_ok (re : Re) (hs : re.fine = true) : PureOK prog 29 [reV re] (reV re) := by
 revert hs
 refine Re.ind (Q := fun re => re.fine = true → PureOK prog 29 [reV re] (reV re)) (fun re ih hs => ?_) re
 obtain ⟨hset1, hlen, hfk⟩ := Re.fine_spec hs
 refine fn_ok func29 rfl ntmps29 results29 rfl 0 57391 (by simp) (by simp) ?_
 simp only [zW, Nat.reduceShiftRight, Nat.reduceMod, Nat.reduceLT, Nat.reduceMul, Nat.reduceSub, Int.reduceToNat, Int.reduceNeg, Int.reduceLT, Int.reduceLE, Int.reduceEq, Nat.reduceEqDiff, Nat.reduceAdd, Nat.reduceLeDiff, reduceIte, reduceCtorEq, Nat.reduceBEq, i64, reV_eq re, iD, bD]
 refine call_pure (cloneSpans_ok re.set hset1) (by simp [refsV, refsV.go, reV_eq, i64, bV, reEl]) (by simp [refsV, refsV.go, reV_eq, i64, bV, reEl]) ?_
 simp only [zW, Nat.reduceShiftRight, Nat.reduceMod, Nat.reduceLT, Nat.reduceMul, Nat.reduceSub, Int.reduceToNat, Int.reduceNeg, Int.reduceLT, Int.reduceLE, Int.reduceEq, Nat.reduceEqDiff, Nat.reduceAdd, Nat.reduceLeDiff, reduceIte, reduceCtorEq, Nat.reduceBEq, i64, iD, bD]
 refine loop_rule (fun n e s => ∃ i : Nat, n = re.kids.length - i ∧ i ≤ re.kids.length ∧ e 1 = .rf 0 0 0 0 ∧ e 2 = .rf 1 0 0 0 ∧ e 13 = .d (.sl (re.kids.map Re.cells)) ∧ e 14 = i64 re.kids.length ∧ e 15 = i64 i ∧
   ((i = 0 ∧ s = [bcloneO re (.fu []), bzeroO]) ∨ ∃ g X, objOk 4 X = true ∧ s = [bcloneO re (.so 3 g 0 i), bzeroO, X, ⟨g, true, 8, ((re.kids.take i).map Re.cells).map fun c => c.map V.d⟩]))
  ⟨_, _, _, Cln.refl, 0, rfl, by omega, rfl, rfl, rfl, rfl, rfl, .inl ⟨rfl, rfl⟩⟩ ?_
 rintro n e s ⟨i, rfl, hi, h1, h2, h13, h14, h15, hacc⟩
 rcases Nat.lt_or_ge i re.kids.length with hlt | hge
 ·obtain ⟨k, hk⟩ : ∃ k, re.kids[i]? = some k := ⟨_, List.getElem?_eq_getElem hlt⟩
  have hm := List.mem_of_getElem? hk
  have hks := hfk k hm
  rcases hacc with ⟨rfl, rfl⟩ | ⟨g, X, hX, rfl⟩
  ·simp only [zW, Nat.reduceShiftRight, Nat.reduceMod, Nat.reduceLT, Nat.reduceMul, Nat.reduceSub, Int.reduceToNat, Int.reduceNeg, Int.reduceLT, Int.reduceLE, Int.reduceEq, Nat.reduceEqDiff, Nat.reduceAdd, Nat.reduceLeDiff, reduceIte, reduceCtorEq, Nat.reduceBEq, h1, h2, h13, h14, h15, i64, bV, hlt, hk, bcloneO, bzeroO]
   refine draw_c mix [5, 7] [] (by rfl) ?_
   simp only [zW, Nat.reduceShiftRight, Nat.reduceMod, Nat.reduceLT, Nat.reduceMul, Nat.reduceSub, Int.reduceToNat, Int.reduceNeg, Int.reduceLT, Int.reduceLE, Int.reduceEq, Nat.reduceEqDiff, Nat.reduceAdd, Nat.reduceLeDiff, reduceIte, reduceCtorEq, Nat.reduceBEq, h1, h2, h13, h14, h15, i64, bV]
   refine callC_pure (ih k hm hks) (by simp [refsV, refsV.go, reV_eq, i64, bV, reEl]) (by simp [refsV, refsV.go, reV_eq, i64, bV, reEl]) ?_
   simp only [zW, Nat.reduceShiftRight, Nat.reduceMod, Nat.reduceLT, Nat.reduceMul, Nat.reduceSub, Int.reduceToNat, Int.reduceNeg, Int.reduceLT, Int.reduceLE, Int.reduceEq, Nat.reduceEqDiff, Nat.reduceAdd, Nat.reduceLeDiff, reduceIte, reduceCtorEq, Nat.reduceBEq, h1, h2, h13, h14, h15, i64, bV]
   refine ⟨fun x hx => by rw [List.mem_singleton.1 hx]; simp [Re.cells_len], by simp, re.kids.length - 1, _, _, by omega, Cln.refl, 1, rfl, by omega, ?_, ?_, ?_, ?_, ?_, .inr ⟨0, _, ?_, by rw [take_get hk]; rfl⟩⟩ <;> (try simp only [zU, Nat.reduceBEq, Nat.reduceShiftRight, Nat.reduceMod, Nat.reduceEqDiff, reduceIte])
   ·exact h1
   ·exact h2
   ·exact h13
   ·exact h14
   ·rw [w64 _ (by omega)]; rfl
   ·simp [refsV]
  ·simp only [zW, Nat.reduceShiftRight, Nat.reduceMod, Nat.reduceLT, Nat.reduceMul, Nat.reduceSub, Int.reduceToNat, Int.reduceNeg, Int.reduceLT, Int.reduceLE, Int.reduceEq, Nat.reduceEqDiff, Nat.reduceAdd, Nat.reduceLeDiff, reduceIte, reduceCtorEq, Nat.reduceBEq, h1, h2, h13, h14, h15, i64, bV, hlt, hk, bcloneO, bzeroO]
   refine draw_c mix [5, 7] [] (by rfl) ?_
   simp only [zW, Nat.reduceShiftRight, Nat.reduceMod, Nat.reduceLT, Nat.reduceMul, Nat.reduceSub, Int.reduceToNat, Int.reduceNeg, Int.reduceLT, Int.reduceLE, Int.reduceEq, Nat.reduceEqDiff, Nat.reduceAdd, Nat.reduceLeDiff, reduceIte, reduceCtorEq, Nat.reduceBEq, h1, h2, h13, h14, h15, i64, bV]
   refine callC_pure (ih k hm hks) (by simp [refsV, refsV.go, reV_eq, i64, bV, reEl]) (by simp [refsV, refsV.go, reV_eq, i64, bV, reEl]) ?_
   simp only [zW, Nat.reduceShiftRight, Nat.reduceMod, Nat.reduceLT, Nat.reduceMul, Nat.reduceSub, Int.reduceToNat, Int.reduceNeg, Int.reduceLT, Int.reduceLE, Int.reduceEq, Nat.reduceEqDiff, Nat.reduceAdd, Nat.reduceLeDiff, reduceIte, reduceCtorEq, Nat.reduceBEq, h1, h2, h13, h14, h15, i64, bV]
   have hcut : ((((re.kids.take i).map Re.cells).map fun c => c.map V.d).take i) = ((re.kids.take i).map Re.cells).map fun c => c.map V.d := List.take_of_length_le (by simp; omega)
   refine ⟨fun x hx => by rw [List.mem_singleton.1 hx]; simp [Re.cells_len], ⟨by simp; omega, by omega⟩, re.kids.length - (i + 1), _, _, by omega, Cln.cut 4 (by omega) rfl ?_ [1, 2, 13, 14, 15] ?_, i + 1, rfl, by omega, ?_, ?_, ?_, ?_, ?_, .inr ⟨g + 1, X, hX, ?_⟩⟩ <;> (try simp only [zU, Nat.reduceBEq, Nat.reduceShiftRight, Nat.reduceMod, Nat.reduceEqDiff, reduceIte])
   ·rw [hcut]
    simp only [objOk] at hX
    simp [objOk, refsV, hX]
    intro x hx y hy
    obtain ⟨r, _, rfl⟩ := List.mem_map.1 (List.mem_of_mem_take hx)
    obtain ⟨d, _, rfl⟩ := List.mem_map.1 hy
    rfl
   ·simp [updE, trimE_app, refsV, h1, h2, h13, h14, i64]
   ·exact h1
   ·exact h2
   ·exact h13
   ·exact h14
   ·rw [w64 _ (by omega)]; rfl
   ·rw [take_get hk]
    simp [List.take_take]
 ·have hie : i = re.kids.length := by omega
  subst hie
  rcases hacc with ⟨h0, rfl⟩ | ⟨g, X, hX, rfl⟩
  ·simp only [zW, Nat.reduceShiftRight, Nat.reduceMod, Nat.reduceLT, Nat.reduceMul, Nat.reduceSub, Int.reduceToNat, Int.reduceNeg, Int.reduceLT, Int.reduceLE, Int.reduceEq, Nat.reduceEqDiff, Nat.reduceAdd, Nat.reduceLeDiff, reduceIte, reduceCtorEq, Nat.reduceBEq, h1, h2, h13, h14, h15, i64, bV, Nat.lt_irrefl, bcloneO, bzeroO]
   have : re.kids = [] := List.eq_nil_of_length_eq_zero h0
   rw [this]
   rfl
  ·simp only [zW, Nat.reduceShiftRight, Nat.reduceMod, Nat.reduceLT, Nat.reduceMul, Nat.reduceSub, Int.reduceToNat, Int.reduceNeg, Int.reduceLT, Int.reduceLE, Int.reduceEq, Nat.reduceEqDiff, Nat.reduceAdd, Nat.reduceLeDiff, reduceIte, reduceCtorEq, Nat.reduceBEq, h1, h2, h13, h14, h15, i64, bV, Nat.lt_irrefl, bcloneO, bzeroO]
   rw [List.take_length, frz_data 7 0 _ _ _ (by simp), if_pos (by omega)]
   rfl
def newO (p : Pat) : VL.Obj := ⟨0, true, 19, [[.d (iD p.re.op), .d (.sl (p.re.set.map spanC)), .d (.sl (p.re.kids.map Re.cells)), .d (iD p.re.mn), .d (iD p.re.mx), .d (iD p.re.mode), .d (iD p.re.n), .d (bD p.re.neg), i64 p.caps, bV p.runes,
 .fu [], .fu [], .fu [], i64 0, i64 0, i64 0, i64 0, bV false, bV false]]⟩
theorem new_err (p : Pat) (hf : p.re.fine = true) (hv : validR p ≠ 0) : PureOK prog 12 [patV p] (.tu [.d (.sc (.pointer none)), i64 (validR p)]) := by
 have h1 := valid_ok p hf
 generalize validR p = v at *
 cases p with
 | mk re caps runes =>
 simp only [patC, Re.cells_eq re, List.map_cons, List.map_nil, List.cons_append, List.nil_append, i64, iD, bD, bV] at h1
 refine fn_ok func12 rfl ntmps12 results12 rfl 0 31 (by simp) (by simp) ?_
 simp only [zX, Nat.reduceShiftRight, Nat.reduceMod, Nat.reduceLT, Nat.reduceMul, Nat.reduceSub, Int.reduceToNat, Int.reduceNeg, Int.reduceLT, Int.reduceLE, Int.reduceEq, Nat.reduceEqDiff, Nat.reduceAdd, Nat.reduceLeDiff, reduceIte, reduceCtorEq, Nat.reduceBEq, i64, patV, Re.cells_eq, bV, iD, bD]
 refine call_pure h1 rfl rfl ?_
 simp only [zX, Nat.reduceShiftRight, Nat.reduceMod, Nat.reduceLT, Nat.reduceMul, Nat.reduceSub, Int.reduceToNat, Int.reduceNeg, Int.reduceLT, Int.reduceLE, Int.reduceEq, Nat.reduceEqDiff, Nat.reduceAdd, Nat.reduceLeDiff, reduceIte, reduceCtorEq, Nat.reduceBEq, i64, patV, Re.cells_eq, bV, iD, bD, hv, ne_eq, not_false_eq_true]
theorem new_own (p : Pat) (hf : p.re.fine = true) (hv : validR p = 0) : callWp prog 12 [patV p] [] fun v s => v = .tu [.rf 0 0 0 0, i64 0] ∧ s = [newO p] := by
 have h1 := valid_ok p hf
 rw [hv] at h1
 have h2 := bclone_ok p.re hf
 cases p with
 | mk re caps runes =>
 simp only [patC, Re.cells_eq re, List.map_cons, List.map_nil, List.cons_append, List.nil_append, i64, iD, bD, bV] at h1
 simp only [reV_eq re, iD, bD] at h2
 refine fn_own func12 rfl ntmps12 results12 rfl 0 31 (by simp) (by simp) ?_
 simp only [zX, Nat.reduceShiftRight, Nat.reduceMod, Nat.reduceLT, Nat.reduceMul, Nat.reduceSub, Int.reduceToNat, Int.reduceNeg, Int.reduceLT, Int.reduceLE, Int.reduceEq, Nat.reduceEqDiff, Nat.reduceAdd, Nat.reduceLeDiff, reduceIte, reduceCtorEq, Nat.reduceBEq, i64, patV, Re.cells_eq, bV, iD, bD]
 refine call_pure h1 rfl rfl ?_
 simp only [zX, Nat.reduceShiftRight, Nat.reduceMod, Nat.reduceLT, Nat.reduceMul, Nat.reduceSub, Int.reduceToNat, Int.reduceNeg, Int.reduceLT, Int.reduceLE, Int.reduceEq, Nat.reduceEqDiff, Nat.reduceAdd, Nat.reduceLeDiff, reduceIte, reduceCtorEq, Nat.reduceBEq, i64, patV, Re.cells_eq, bV, iD, bD, ne_eq, not_true_eq_false]
 refine call_pure h2 rfl rfl ?_
 simp only [zX, Nat.reduceShiftRight, Nat.reduceMod, Nat.reduceLT, Nat.reduceMul, Nat.reduceSub, Int.reduceToNat, Int.reduceNeg, Int.reduceLT, Int.reduceLE, Int.reduceEq, Nat.reduceEqDiff, Nat.reduceAdd, Nat.reduceLeDiff, reduceIte, reduceCtorEq, Nat.reduceBEq, i64, patV, Re.cells_eq, bV, iD, bD, Qown, ownWp]
 exact ⟨[1], by decide, rfl, rfl⟩
end Go.Proofs.Ytilapneoohcplaa
