/- A part of the proof (S52). -/
import Derived.Test.YtimnnipoaafdfaaSC50
set_option linter.unusedSimpArgs false
set_option linter.unusedVariables false
set_option maxRecDepth 100000
set_option maxHeartbeats 80000000
namespace Go.Proofs.Ytimnnipoaafdfaa
open Go.VL Go.Proofs.Try
theorem semSpansL_ok (l : List Int) (hl : ∀ x ∈ l, I64 x) (m : List Int) (hm : ∀ x ∈ m, I64 x) (at_ : Int) (ha : I64 at_) :
  PureOK prog 8 [.d (intsD l), .d (intsD m), i64 at_] (bV true) := by
 obtain ⟨p, t, hfit, hgood, hf, htl, hgen⟩ := fits_gen2 l m hl hm 127 20 6000 (by omega) (by omega) (by omega) (by omega)
 have hlv := lives7_ok
 have har := around_ok at_ ((t.length : Int) + 1) (by omega) ha
 have hrr := around_range at_ ((t.length : Int) + 1) (by omega) ha
 have wt : IntKind.i64.wrap ((t.length : Int) + 1) = (t.length : Int) + 1 := w64 _ (by omega)
 generalize around at_ ((t.length : Int) + 1) = aa at *
 have hg := hgood aa (by omega) (by omega)
 obtain ⟨hv7, _, _, _⟩ := allE_valid hg
 obtain ⟨w1, _, _, _, _⟩ := valid7_spec hv7
 obtain ⟨_, _, hc0, hc9, _⟩ := validR_spec w1
 clear hv7 w1
 have hle := steps_le hg
 have hel := ends_le hg
 have hlen := allM_len hg
 have hbig := prefix_full (n := 1073741824) hg (by omega)
 have k1 := semAll_fit hf htl (by omega) hgood aa 6000 (n := 1073741824) (by omega)
 have e : ((1073741824 : Nat) : Int) = 1073741824 := rfl
 rw [hbig.1, hbig.2.1, hbig.2.2, e] at k1
 have hsp := spans_law hgen htl hg
 have hAl : (matsL aa (allM p t aa (-1) 6000)).length ≤ 7000 := by unfold matsL; rw [List.length_map]; omega
 have k2 := lengths_ok p.re hf
 clear hbig hlen hel
 generalize matsL aa (allM p t aa (-1) 6000) = A at *
 generalize allN p t aa (-1) 6000 = N at *
 simp only [patV_C, patC_eq, List.map_cons, List.map_nil, i64, iD, bD, bV, intsD] at hfit k1 har
 simp only [reV, Re.cells_eq, List.map_cons, List.map_nil, i64, iD, bD, bV] at k2
 clear hgood
 refine fn_ok func8 rfl ntmps8 results8 rfl 0 522183 (by simp) (by simp) ?_
 simp only [zX, Nat.reduceShiftRight, Nat.reduceMod, Nat.reduceLT, Nat.reduceMul, Nat.reduceSub, Int.reduceToNat, Int.reduceNeg, Int.reduceLT, Int.reduceLE, Int.reduceEq, Nat.reduceEqDiff, Nat.reduceAdd, Nat.reduceLeDiff, reduceIte, reduceCtorEq, Nat.reduceBEq, i64, bV, iD, bD, Mat.v, intsD, killO, List.length_map, List.set_cons_zero, List.set_cons_succ, List.length_cons, List.length_nil, List.cons_append, List.nil_append, ne_eq, not_true_eq_false, not_false_eq_true, Bool.not_false, Bool.not_true, gt_iff_lt, decide_true]
 refine call_pure hfit rfl rfl ?_
 simp only [zX, Nat.reduceShiftRight, Nat.reduceMod, Nat.reduceLT, Nat.reduceMul, Nat.reduceSub, Int.reduceToNat, Int.reduceNeg, Int.reduceLT, Int.reduceLE, Int.reduceEq, Nat.reduceEqDiff, Nat.reduceAdd, Nat.reduceLeDiff, reduceIte, reduceCtorEq, Nat.reduceBEq, i64, bV, iD, bD, Mat.v, intsD, killO, List.length_map, List.set_cons_zero, List.set_cons_succ, List.length_cons, List.length_nil, List.cons_append, List.nil_append, ne_eq, not_true_eq_false, not_false_eq_true, Bool.not_false, Bool.not_true, gt_iff_lt, decide_true, wt]
 refine call_pure har rfl rfl ?_
 simp only [zX, Nat.reduceShiftRight, Nat.reduceMod, Nat.reduceLT, Nat.reduceMul, Nat.reduceSub, Int.reduceToNat, Int.reduceNeg, Int.reduceLT, Int.reduceLE, Int.reduceEq, Nat.reduceEqDiff, Nat.reduceAdd, Nat.reduceLeDiff, reduceIte, reduceCtorEq, Nat.reduceBEq, i64, bV, iD, bD, Mat.v, intsD, killO, List.length_map, List.set_cons_zero, List.set_cons_succ, List.length_cons, List.length_nil, List.cons_append, List.nil_append, ne_eq, not_true_eq_false, not_false_eq_true, Bool.not_false, Bool.not_true, gt_iff_lt, decide_true]
 refine call_pure k1 rfl rfl ?_
 simp only [zX, Nat.reduceShiftRight, Nat.reduceMod, Nat.reduceLT, Nat.reduceMul, Nat.reduceSub, Int.reduceToNat, Int.reduceNeg, Int.reduceLT, Int.reduceLE, Int.reduceEq, Nat.reduceEqDiff, Nat.reduceAdd, Nat.reduceLeDiff, reduceIte, reduceCtorEq, Nat.reduceBEq, i64, bV, iD, bD, Mat.v, intsD, killO, List.length_map, List.set_cons_zero, List.set_cons_succ, List.length_cons, List.length_nil, List.cons_append, List.nil_append, ne_eq, not_true_eq_false, not_false_eq_true, Bool.not_false, Bool.not_true, gt_iff_lt, decide_true]
 refine call_pure k2 rfl rfl ?_
 simp only [zX, Nat.reduceShiftRight, Nat.reduceMod, Nat.reduceLT, Nat.reduceMul, Nat.reduceSub, Int.reduceToNat, Int.reduceNeg, Int.reduceLT, Int.reduceLE, Int.reduceEq, Nat.reduceEqDiff, Nat.reduceAdd, Nat.reduceLeDiff, reduceIte, reduceCtorEq, Nat.reduceBEq, i64, bV, iD, bD, Mat.v, intsD, killO, List.length_map, List.set_cons_zero, List.set_cons_succ, List.length_cons, List.length_nil, List.cons_append, List.nil_append, ne_eq, not_true_eq_false, not_false_eq_true, Bool.not_false, Bool.not_true, gt_iff_lt, decide_true]
 refine loop_rule (fun n e s => ∃ j : Nat, n = A.length - j ∧ j ≤ A.length ∧ e 7 = .rf 0 0 0 0 ∧ e 8 = .d (intsD t) ∧ e 9 = i64 aa ∧ e 10 = .d (.sl (A.map matD)) ∧ e 13 = i64 p.re.lens.1 ∧ e 14 = i64 p.re.lens.2 ∧ e 15 = i64 j ∧ s = [⟨0, true, 10, [(patC p).map .d]⟩])
  ⟨_, _, _, Cln.refl, 0, rfl, by omega, ?_, ?_, ?_, ?_, ?_, ?_, ?_, ?_⟩ ?_
 ·rfl
 ·rfl
 ·rfl
 ·rfl
 ·rfl
 ·rfl
 ·rfl
 ·rw [patC_eq]; rfl
 rintro n e s ⟨j, rfl, hj, h7, h8, h9, h10, h13, h14, h15, rfl⟩
 rw [patC_eq]
 simp only [intsD, iD, bD, List.map_cons, List.map_nil] at h8 ⊢
 rcases Nat.lt_or_ge j A.length with hlt | hge
 ·obtain ⟨x, hx⟩ : ∃ x, A[j]? = some x := ⟨_, List.getElem?_eq_getElem hlt⟩
  have hS := hsp x (List.mem_of_getElem? hx)
  have q1 : (j : Int) < (A.length : Int) := by omega
  have q0 : (0 : Int) ≤ (j : Int) := by omega
  simp only [zX, Nat.reduceShiftRight, Nat.reduceMod, Nat.reduceLT, Nat.reduceMul, Nat.reduceSub, Int.reduceToNat, Int.reduceNeg, Int.reduceLT, Int.reduceLE, Int.reduceEq, Nat.reduceEqDiff, Nat.reduceAdd, Nat.reduceLeDiff, reduceIte, reduceCtorEq, Nat.reduceBEq, i64, bV, iD, bD, Mat.v, intsD, killO, List.length_map, List.set_cons_zero, List.set_cons_succ, List.length_cons, List.length_nil, List.cons_append, List.nil_append, ne_eq, not_true_eq_false, not_false_eq_true, Bool.not_false, Bool.not_true, gt_iff_lt, decide_true, h7, h8, h9, h10, h13, h14, h15, q1, List.length_map]
  refine draw_c mix [] [] (by rfl) ?_
  have wd : IntKind.i64.wrap (x.e - aa) = x.e - aa := w64 _ (by have := hS.s; have := hS.e0; have := hS.e1; omega)
  simp only [zX, Nat.reduceShiftRight, Nat.reduceMod, Nat.reduceLT, Nat.reduceMul, Nat.reduceSub, Int.reduceToNat, Int.reduceNeg, Int.reduceLT, Int.reduceLE, Int.reduceEq, Nat.reduceEqDiff, Nat.reduceAdd, Nat.reduceLeDiff, reduceIte, reduceCtorEq, Nat.reduceBEq, i64, bV, iD, bD, Mat.v, intsD, killO, List.length_map, List.set_cons_zero, List.set_cons_succ, List.length_cons, List.length_nil, List.cons_append, List.nil_append, ne_eq, not_true_eq_false, not_false_eq_true, Bool.not_false, Bool.not_true, gt_iff_lt, decide_true, h7, h8, h9, h10, h13, h14, h15, q0, q1, hlt, List.length_map, Int.toNat_natCast, hx, matD, hS.s, wd]
  refine draw_c mix [] [] (by rfl) ?_
  have c2 : ¬ (t.length : Int) < x.e := by have := hS.e1; omega
  have c3 : ¬ x.e - aa < p.re.lens.1 := by have := hS.len.1; have := hS.s; omega
  have c5 : (x.c.length : Int) = p.caps := hS.caps
  have hSs := hS.s
  have hSo := hS.ok
  clear hS
  rcases Decidable.em (0 ≤ p.re.lens.2) with hh | hh
  case' inl =>
   have c4 : ¬ p.re.lens.2 < x.e - aa := by
    have := (hsp x (List.mem_of_getElem? hx)).len.2 hh
    omega
   simp only [zX, Nat.reduceShiftRight, Nat.reduceMod, Nat.reduceLT, Nat.reduceMul, Nat.reduceSub, Int.reduceToNat, Int.reduceNeg, Int.reduceLT, Int.reduceLE, Int.reduceEq, Nat.reduceEqDiff, Nat.reduceAdd, Nat.reduceLeDiff, reduceIte, reduceCtorEq, Nat.reduceBEq, i64, bV, iD, bD, Mat.v, intsD, killO, List.length_map, List.set_cons_zero, List.set_cons_succ, List.length_cons, List.length_nil, List.cons_append, List.nil_append, ne_eq, not_true_eq_false, not_false_eq_true, Bool.not_false, Bool.not_true, gt_iff_lt, decide_true, h7, h8, h9, h10, h13, h14, h15, q0, q1, hlt, List.length_map, Int.toNat_natCast, hx, matD, hSs, capD, c2, c3, c4, c5, hh]
  case' inr =>
   simp only [zX, Nat.reduceShiftRight, Nat.reduceMod, Nat.reduceLT, Nat.reduceMul, Nat.reduceSub, Int.reduceToNat, Int.reduceNeg, Int.reduceLT, Int.reduceLE, Int.reduceEq, Nat.reduceEqDiff, Nat.reduceAdd, Nat.reduceLeDiff, reduceIte, reduceCtorEq, Nat.reduceBEq, i64, bV, iD, bD, Mat.v, intsD, killO, List.length_map, List.set_cons_zero, List.set_cons_succ, List.length_cons, List.length_nil, List.cons_append, List.nil_append, ne_eq, not_true_eq_false, not_false_eq_true, Bool.not_false, Bool.not_true, gt_iff_lt, decide_true, h7, h8, h9, h10, h13, h14, h15, q0, q1, hlt, List.length_map, Int.toNat_natCast, hx, matD, hSs, capD, c2, c3, c5, hh]
  all_goals
   refine loop_rule (fun n e s => ∃ k : Nat, n = x.c.length - k ∧ k ≤ x.c.length ∧ e 7 = .rf 0 0 0 0 ∧ e 8 = .d (intsD t) ∧ e 9 = i64 aa ∧ e 10 = .d (.sl (A.map matD)) ∧ e 13 = i64 p.re.lens.1 ∧ e 14 = i64 p.re.lens.2 ∧ e 15 = i64 j ∧ e 17 = i64 k ∧ s = [⟨0, true, 10, [(patC p).map .d]⟩])
    ⟨_, _, _, Cln.refl, 0, rfl, by omega, ?_, ?_, ?_, ?_, ?_, ?_, ?_, ?_, ?_⟩ ?_ <;> (try simp only [zU, Nat.reduceBEq, Nat.reduceShiftRight, Nat.reduceMod, Nat.reduceEqDiff, reduceIte])
   ·exact h7
   ·exact h8
   ·exact h9
   ·exact h10
   ·exact h13
   ·exact h14
   ·exact h15
   ·rfl
   ·rw [patC_eq]; rfl
   clear h7 h8 h9 h10 h13 h14 h15
   rintro n e s ⟨k, rfl, hk, h7, h8, h9, h10, h13, h14, h15, h17, rfl⟩
   rw [patC_eq]
   simp only [intsD, iD, bD, List.map_cons, List.map_nil] at h8 ⊢
   rcases Nat.lt_or_ge k x.c.length with hkl | hkg
   ·obtain ⟨q, hq⟩ : ∃ q, x.c[k]? = some q := ⟨_, List.getElem?_eq_getElem hkl⟩
    have hqs := hSo q (List.mem_of_getElem? hq)
    have r1 : (k : Int) < p.caps := by omega
    have r0 : (0 : Int) ≤ (k : Int) := by omega
    have r2 : (k : Int) < (x.c.length : Int) := by omega
    have wk : IntKind.i64.wrap ((k : Int) + 1) = ((k + 1 : Nat) : Int) := by rw [w64 _ (by omega)]; omega
    rcases Decidable.em (q = (-1, -1)) with hqq | hqq
    case' inl =>
     have hb : (q.1 == -1 && q.2 == -1) = true := by rw [hqq]; rfl
     simp only [zX, Nat.reduceShiftRight, Nat.reduceMod, Nat.reduceLT, Nat.reduceMul, Nat.reduceSub, Int.reduceToNat, Int.reduceNeg, Int.reduceLT, Int.reduceLE, Int.reduceEq, Nat.reduceEqDiff, Nat.reduceAdd, Nat.reduceLeDiff, reduceIte, reduceCtorEq, Nat.reduceBEq, i64, bV, iD, bD, Mat.v, intsD, killO, List.length_map, List.set_cons_zero, List.set_cons_succ, List.length_cons, List.length_nil, List.cons_append, List.nil_append, ne_eq, not_true_eq_false, not_false_eq_true, Bool.not_false, Bool.not_true, gt_iff_lt, decide_true, h7, h8, h9, h10, h13, h14, h15, h17, q0, q1, hlt, r0, r1, r2, hkl, List.length_map, Int.toNat_natCast, hx, hq, matD, capD, spanC, hb]
    case' inr =>
     have hb : (q.1 == -1 && q.2 == -1) = false := by
      rw [Bool.eq_false_iff]; intro h; exact hqq (by simp at h; exact Prod.ext h.1 h.2)
     have hqt := hqs.resolve_left hqq
     have n02 : (0 : Int) < ((2 : Nat) : Int) := by decide
     have n12 : (1 : Int) < ((2 : Nat) : Int) := by decide
     have b1 : ¬ q.1 < 0 := by omega
     have b2 : ¬ q.2 < q.1 := by omega
     have b3 : ¬ (t.length : Int) < q.2 := by omega
     simp only [zX, Nat.reduceShiftRight, Nat.reduceMod, Nat.reduceLT, Nat.reduceMul, Nat.reduceSub, Int.reduceToNat, Int.reduceNeg, Int.reduceLT, Int.reduceLE, Int.reduceEq, Nat.reduceEqDiff, Nat.reduceAdd, Nat.reduceLeDiff, reduceIte, reduceCtorEq, Nat.reduceBEq, i64, bV, iD, bD, Mat.v, intsD, killO, List.length_map, List.set_cons_zero, List.set_cons_succ, List.length_cons, List.length_nil, List.cons_append, List.nil_append, ne_eq, not_true_eq_false, not_false_eq_true, Bool.not_false, Bool.not_true, gt_iff_lt, decide_true, h7, h8, h9, h10, h13, h14, h15, h17, q0, q1, hlt, r0, r1, r2, hkl, List.length_map, Int.toNat_natCast, hx, hq, matD, capD, spanC, hb, b1, b2, b3, n02, n12]
    all_goals
     refine ⟨x.c.length - (k + 1), _, _, by omega, Cln.cut 1 (by omega) ?_ ?_ [7, 8, 9, 10, 13, 14, 15, 17] ?_, k + 1, rfl, hkl, ?_, ?_, ?_, ?_, ?_, ?_, ?_, ?_, rfl⟩ <;> (try simp only [zU, Nat.reduceBEq, Nat.reduceShiftRight, Nat.reduceMod, Nat.reduceEqDiff, reduceIte])
     ·rfl
     ·rfl
     ·simp [updE, trimE_app, refsV, i64, h7, h8, h9, h10, h13, h14, h15]
     ·exact h7
     ·exact h8
     ·exact h9
     ·exact h10
     ·exact h13
     ·exact h14
     ·exact h15
     ·rw [wk]
   ·have r1 : ¬ (k : Int) < p.caps := by omega
    have wj : IntKind.i64.wrap ((j : Int) + 1) = ((j + 1 : Nat) : Int) := by rw [w64 _ (by omega)]; omega
    simp only [zX, Nat.reduceShiftRight, Nat.reduceMod, Nat.reduceLT, Nat.reduceMul, Nat.reduceSub, Int.reduceToNat, Int.reduceNeg, Int.reduceLT, Int.reduceLE, Int.reduceEq, Nat.reduceEqDiff, Nat.reduceAdd, Nat.reduceLeDiff, reduceIte, reduceCtorEq, Nat.reduceBEq, i64, bV, iD, bD, Mat.v, intsD, killO, List.length_map, List.set_cons_zero, List.set_cons_succ, List.length_cons, List.length_nil, List.cons_append, List.nil_append, ne_eq, not_true_eq_false, not_false_eq_true, Bool.not_false, Bool.not_true, gt_iff_lt, decide_true, h7, h8, h9, h10, h13, h14, h15, h17, r1]
    refine ⟨A.length - (j + 1), _, _, by omega, Cln.refl, j + 1, rfl, hlt, ?_, ?_, ?_, ?_, ?_, ?_, ?_, rfl⟩ <;> (try simp only [zU, Nat.reduceBEq, Nat.reduceShiftRight, Nat.reduceMod, Nat.reduceEqDiff, reduceIte])
    ·exact h7
    ·exact h8
    ·exact h9
    ·exact h10
    ·exact h13
    ·exact h14
    ·rw [wj]
 ·have hjj : j = A.length := by omega
  subst hjj
  simp only [zX, Nat.reduceShiftRight, Nat.reduceMod, Nat.reduceLT, Nat.reduceMul, Nat.reduceSub, Int.reduceToNat, Int.reduceNeg, Int.reduceLT, Int.reduceLE, Int.reduceEq, Nat.reduceEqDiff, Nat.reduceAdd, Nat.reduceLeDiff, reduceIte, reduceCtorEq, Nat.reduceBEq, i64, bV, iD, bD, Mat.v, intsD, killO, List.length_map, List.set_cons_zero, List.set_cons_succ, List.length_cons, List.length_nil, List.cons_append, List.nil_append, ne_eq, not_true_eq_false, not_false_eq_true, Bool.not_false, Bool.not_true, gt_iff_lt, decide_true, h7, h8, h9, h10, h13, h14, h15, Int.lt_irrefl, List.length_map]
  refine call_pure hlv rfl rfl ?_
  simp only [zX, Nat.reduceShiftRight, Nat.reduceMod, Nat.reduceLT, Nat.reduceMul, Nat.reduceSub, Int.reduceToNat, Int.reduceNeg, Int.reduceLT, Int.reduceLE, Int.reduceEq, Nat.reduceEqDiff, Nat.reduceAdd, Nat.reduceLeDiff, reduceIte, reduceCtorEq, Nat.reduceBEq, i64, bV, iD, bD, Mat.v, intsD, killO, List.length_map, List.set_cons_zero, List.set_cons_succ, List.length_cons, List.length_nil, List.cons_append, List.nil_append, ne_eq, not_true_eq_false, not_false_eq_true, Bool.not_false, Bool.not_true, gt_iff_lt, decide_true]
end Go.Proofs.Ytimnnipoaafdfaa
