/- A part of the proof (S50). -/
import Derived.Test.YtimnnipoaafdfaaSB53
set_option linter.unusedSimpArgs false
set_option linter.unusedVariables false
set_option maxRecDepth 100000
set_option maxHeartbeats 80000000
namespace Go.Proofs.Ytimnnipoaafdfaa
open Go.VL Go.Proofs.Try
theorem semFirstL_ok (l : List Int) (hl : ∀ x ∈ l, I64 x) (m : List Int) (hm : ∀ x ∈ m, I64 x) (frm little : Int) (ha : I64 frm) (hli : I64 little) :
  PureOK prog 6 [.d (intsD l), .d (intsD m), i64 frm, i64 little] (bV true) := by
 obtain ⟨p, t, hfit, hgood, hf, htl⟩ := fits_gen l m hl hm 127 16 6000 (by omega) (by omega) (by omega) (by omega)
 obtain ⟨hv0, _, _, _⟩ := allE_valid (hgood 0 (by omega) (by omega))
 obtain ⟨hp, _, hsym, _, _⟩ := valid7_spec hv0
 have hsz : p.re.size ≤ 1000000000 := by have := (validR_spec hp).1; omega
 have hlv := lives7_ok
 have har := around_ok frm ((t.length : Int) + 1) (by omega) ha
 have hlr := around_ok little 200 (by omega) hli
 have wt : IntKind.i64.wrap ((t.length : Int) + 1) = (t.length : Int) + 1 := w64 _ (by omega)
 generalize around frm ((t.length : Int) + 1) = aa at *
 generalize around little 200 = ll at *
 have hfd := fun x f => first_data hf hsz htl hgood x f
 have hed := fun f => every_data hf hsz htl hgood f
 simp only [patV_C, patC_eq, List.map_cons, List.map_nil, i64, iD, bD, bV, Mat.v] at hfit hfd hed har hlr
 clear hgood hv0 hsym
 refine fn_ok func6 rfl ntmps6 results6 rfl 0 268435215 (by simp) (by simp) ?_
 simp only [zX, simprocAttr, i64, bV, iD, bD, Mat.v, intsD, killO, List.length_map, List.set_cons_zero, List.set_cons_succ, List.length_cons, List.length_nil, List.cons_append, List.nil_append, ne_eq, not_true_eq_false, not_false_eq_true, Bool.not_false, Bool.not_true, gt_iff_lt, decide_true]
 refine call_pure hfit rfl rfl ?_
 simp only [zX, simprocAttr, i64, bV, iD, bD, Mat.v, intsD, killO, List.length_map, List.set_cons_zero, List.set_cons_succ, List.length_cons, List.length_nil, List.cons_append, List.nil_append, ne_eq, not_true_eq_false, not_false_eq_true, Bool.not_false, Bool.not_true, gt_iff_lt, decide_true, wt]
 refine call_pure har rfl rfl ?_
 simp only [zX, simprocAttr, i64, bV, iD, bD, Mat.v, intsD, killO, List.length_map, List.set_cons_zero, List.set_cons_succ, List.length_cons, List.length_nil, List.cons_append, List.nil_append, ne_eq, not_true_eq_false, not_false_eq_true, Bool.not_false, Bool.not_true, gt_iff_lt, decide_true]
 refine call_pure hlr rfl rfl ?_
 simp only [zX, simprocAttr, i64, bV, iD, bD, Mat.v, intsD, killO, List.length_map, List.set_cons_zero, List.set_cons_succ, List.length_cons, List.length_nil, List.cons_append, List.nil_append, ne_eq, not_true_eq_false, not_false_eq_true, Bool.not_false, Bool.not_true, gt_iff_lt, decide_true]
 obtain ⟨S, hS⟩ : ∃ S : List (List D), S = [[.sc (.int .i64 0)], [.sc (.int .i64 aa)], [.sc (.int .i64 frm)]] := ⟨_, rfl⟩
 obtain ⟨FU, hFU⟩ : ∃ S : List (List D), S = [[.sc (.int .i64 120000)], [.sc (.int .i64 ll)], [.sc (.int .i64 little)]] := ⟨_, rfl⟩
 refine loop_rule (fun n e s => ∃ j : Nat, n = 9 - j ∧ j ≤ 9 ∧ e 9 = .rf 0 0 0 0 ∧ e 10 = .d (intsD t) ∧ e 11 = .d (.sl S) ∧ e 12 = .d (.sl FU) ∧ e 13 = i64 j ∧ s = [⟨0, true, 10, [(patC p).map .d]⟩])
  ⟨_, _, _, Cln.freeze [] [11, 12], 0, rfl, by omega, ?_, ?_, ?_, ?_, ?_, ?_⟩ ?_
 ·rfl
 ·rfl
 ·rw [hS]; rfl
 ·rw [hFU]; rfl
 ·rfl
 ·rw [patC_eq]; rfl
 have hSl : S.length = 3 := by rw [hS]; rfl
 have hFl : FU.length = 3 := by rw [hFU]; rfl
 have get3 : ∀ {L : List (List D)} {a b c : Int}, L = [[.sc (.int .i64 a)], [.sc (.int .i64 b)], [.sc (.int .i64 c)]] → ∀ r, r < 3 → ∃ sv, L[r]? = some [.sc (.int .i64 sv)] := by
  intro L a b c hL r hr
  subst hL
  match r, hr with
  | 0, _ => exact ⟨_, rfl⟩
  | 1, _ => exact ⟨_, rfl⟩
  | 2, _ => exact ⟨_, rfl⟩
 have hSr := get3 hS
 have hFr := get3 hFU
 clear get3 hS hFU hfit har hlr
 rintro n e s ⟨j, rfl, hj, h9, h10, h11, h12, h13, rfl⟩
 rw [patC_eq]
 simp only [intsD, iD, bD, List.map_cons, List.map_nil] at h10 ⊢
 simp only [intsD] at hfd hed
 rcases Nat.lt_or_ge j 9 with hlt | hge
 ·obtain ⟨xv, hxv⟩ := hSr (j % 3) (by omega)
  obtain ⟨fv, hfv⟩ := hFr (j / 3) (by omega)
  have q1 : (j : Int) < 9 := by omega
  have q2 : Int.tmod (j : Int) 3 = ((j % 3 : Nat) : Int) := by rw [Int.tmod_eq_emod_of_nonneg (by omega)]; omega
  have q3 : Int.tdiv (j : Int) 3 = ((j / 3 : Nat) : Int) := by rw [Int.tdiv_eq_ediv_of_nonneg (by omega)]; omega
  have q4 : ((j % 3 : Nat) : Int) < (S.length : Int) := by omega
  have q5 : ((j / 3 : Nat) : Int) < (FU.length : Int) := by omega
  have q6 : (0 : Int) ≤ ((j % 3 : Nat) : Int) := by omega
  have q7 : (0 : Int) ≤ ((j / 3 : Nat) : Int) := by omega
  have q8 : j % 3 < S.length := by omega
  have q9 : j / 3 < FU.length := by omega
  have qw : IntKind.i64.wrap ((j / 3 : Nat) : Int) = ((j / 3 : Nat) : Int) := w64 _ (by omega)
  have wk : IntKind.i64.wrap ((j : Int) + 1) = (j : Int) + 1 := w64 _ (by omega)
  obtain ⟨M, fd, N, E, k1, k2, k3⟩ := hfd xv fv
  obtain ⟨L, E2, k4, k5, k6⟩ := hed fv
  generalize L.map matD = LD at *
  simp only [zX, simprocAttr, i64, bV, iD, bD, Mat.v, intsD, killO, List.length_map, List.set_cons_zero, List.set_cons_succ, List.length_cons, List.length_nil, List.cons_append, List.nil_append, ne_eq, not_true_eq_false, not_false_eq_true, Bool.not_false, Bool.not_true, gt_iff_lt, decide_true, h9, h10, h11, h12, h13, q1, q2, q3, q4, q5, q6, q7, q8, q9, qw, hxv, hfv, Int.toNat_natCast]
  refine call_pure k1 rfl rfl ?_
  simp only [zX, simprocAttr, i64, bV, iD, bD, Mat.v, intsD, killO, List.length_map, List.set_cons_zero, List.set_cons_succ, List.length_cons, List.length_nil, List.cons_append, List.nil_append, ne_eq, not_true_eq_false, not_false_eq_true, Bool.not_false, Bool.not_true, gt_iff_lt, decide_true, h9, h10, h11, h12, h13]
  refine call_pure k2 rfl rfl ?_
  have hbf : (!(fd == fd)) = false := by cases fd <;> rfl
  simp only [zX, simprocAttr, i64, bV, iD, bD, Mat.v, intsD, killO, List.length_map, List.set_cons_zero, List.set_cons_succ, List.length_cons, List.length_nil, List.cons_append, List.nil_append, ne_eq, not_true_eq_false, not_false_eq_true, Bool.not_false, Bool.not_true, gt_iff_lt, decide_true, h9, h10, h11, h12, h13, hbf]
  refine call_pure k3 rfl rfl ?_
  simp only [zX, simprocAttr, i64, bV, iD, bD, Mat.v, intsD, killO, List.length_map, List.set_cons_zero, List.set_cons_succ, List.length_cons, List.length_nil, List.cons_append, List.nil_append, ne_eq, not_true_eq_false, not_false_eq_true, Bool.not_false, Bool.not_true, gt_iff_lt, decide_true, h9, h10, h11, h12, h13]
  refine call_pure k4 rfl rfl ?_
  simp only [zX, simprocAttr, i64, bV, iD, bD, Mat.v, intsD, killO, List.length_map, List.set_cons_zero, List.set_cons_succ, List.length_cons, List.length_nil, List.cons_append, List.nil_append, ne_eq, not_true_eq_false, not_false_eq_true, Bool.not_false, Bool.not_true, gt_iff_lt, decide_true, h9, h10, h11, h12, h13]
  refine call_pure k5 rfl rfl ?_
  simp only [zX, simprocAttr, i64, bV, iD, bD, Mat.v, intsD, killO, List.length_map, List.set_cons_zero, List.set_cons_succ, List.length_cons, List.length_nil, List.cons_append, List.nil_append, ne_eq, not_true_eq_false, not_false_eq_true, Bool.not_false, Bool.not_true, gt_iff_lt, decide_true, h9, h10, h11, h12, h13]
  refine call_pure k6 rfl rfl ?_
  simp only [zX, simprocAttr, i64, bV, iD, bD, Mat.v, intsD, killO, List.length_map, List.set_cons_zero, List.set_cons_succ, List.length_cons, List.length_nil, List.cons_append, List.nil_append, ne_eq, not_true_eq_false, not_false_eq_true, Bool.not_false, Bool.not_true, gt_iff_lt, decide_true, h9, h10, h11, h12, h13]
  refine ⟨9 - (j + 1), _, _, by omega, Cln.cut 1 (by omega) ?_ ?_ [9, 10, 11, 12, 13] ?_, j + 1, rfl, hlt, ?_, ?_, ?_, ?_, ?_, rfl⟩ <;> (try simp only [zU, Nat.reduceBEq, Nat.reduceShiftRight, Nat.reduceMod, Nat.reduceEqDiff, reduceIte])
  ·rfl
  ·rfl
  ·simp [updE, trimE_app, refsV, i64, h9, h10, h11, h12]
  ·exact h9
  ·exact h10
  ·exact h11
  ·exact h12
  ·rw [wk]; rfl
 ·have hjj : j = 9 := by omega
  subst hjj
  have q1 : ¬ ((9 : Nat) : Int) < 9 := by omega
  simp only [zX, simprocAttr, i64, bV, iD, bD, Mat.v, intsD, killO, List.length_map, List.set_cons_zero, List.set_cons_succ, List.length_cons, List.length_nil, List.cons_append, List.nil_append, ne_eq, not_true_eq_false, not_false_eq_true, Bool.not_false, Bool.not_true, gt_iff_lt, decide_true, h9, h10, h11, h12, h13, q1]
  refine call_pure hlv rfl rfl ?_
  simp only [zX, simprocAttr, i64, bV, iD, bD, Mat.v, intsD, killO, List.length_map, List.set_cons_zero, List.set_cons_succ, List.length_cons, List.length_nil, List.cons_append, List.nil_append, ne_eq, not_true_eq_false, not_false_eq_true, Bool.not_false, Bool.not_true, gt_iff_lt, decide_true]
end Go.Proofs.Ytimnnipoaafdfaa
