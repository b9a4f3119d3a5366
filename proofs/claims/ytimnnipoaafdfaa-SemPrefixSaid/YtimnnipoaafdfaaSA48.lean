/- A part of the proof (S43). -/
import Derived.Test.YtimnnipoaafdfaaSA47
set_option linter.unusedSimpArgs false
set_option linter.unusedVariables false
set_option maxRecDepth 100000
set_option maxHeartbeats 80000000
namespace Go.Proofs.Ytimnnipoaafdfaa
open Go.VL Go.Proofs.Try
def matsL (i : Int) (L : List (Int × CapsL)) : List Mat := L.map fun x => ⟨i, x.1, x.2⟩
theorem matsL_D (i : Int) (L : List (Int × CapsL)) : L.map (matchD i) = (matsL i L).map matD := by unfold matsL; rw [List.map_map]; rfl
theorem mats_caps {p : Pat} {t : List Int} {i n f : Int} : ∀ m ∈ matsL i (allM p t i n f), m.c.length ≤ 1000000000 := by
 intro m hm
 obtain ⟨x, hx, rfl⟩ := List.mem_map.1 hm
 by_cases h : allE p t i n f = 0
 ·obtain ⟨hv7, h0, h1, he⟩ := allE_valid h
  obtain ⟨_, _, e2⟩ := search_ends (most := n) hv7 h0 h1
  obtain ⟨new, newc, z1, z2, z3, z4, z5, z6⟩ := e2.more
  unfold allM at hx
  rw [if_pos h] at hx
  have hd := (List.of_mem_zip hx).2
  rw [z2] at hd
  exact (z6 _ (by simpa using hd)).1.1
 ·unfold allM at hx; rw [if_neg h] at hx; cases hx
theorem allM_len {p : Pat} {t : List Int} {i n f : Int} (h : allE p t i n f = 0) : ((allM p t i n f).length : Int) ≤ allN p t i n f + 1 ∧ (allM p t i n f).length = (searchX p t i n f).2.ends.length := by
 have h1 := ends_le h
 have h2 := searchX_caps h
 unfold allM
 rw [if_pos h, List.length_zip, h2]
 simp only [Nat.min_self]
 exact ⟨h1, trivial⟩
theorem semAll_fit {p : Pat} {t : List Int} (hf : p.re.fine = true) (ht : t.length ≤ 12) {F0 : Int} (hF0 : F0 ≤ 50000000) (hgood : ∀ i : Int, 0 ≤ i → i ≤ t.length → allE p t i (-1) F0 = 0) (x f : Int) {n : Nat} (hn : 1 ≤ n) :
  PureOK prog 12 [patV p, .d (intsD t), i64 x, i64 (n : Nat), i64 f] (.tu [.d (.sl ((matsL x (allM p t x n f)).map matD)), i64 (allN p t x n f), i64 (allE p t x n f)]) := by
 have h := semAll_ok p t x n f hf (by omega) (by omega) (fun hv h0 h1 => (steps_bound hF0 hgood h0 h1 hv).2 n hn)
 rw [matsL_D] at h
 exact h
theorem prefix_data {p : Pat} {t : List Int} (hf : p.re.fine = true) (ht : t.length ≤ 12) (hgood : ∀ i : Int, 0 ≤ i → i ≤ t.length → allE p t i (-1) 6000 = 0) {x : Int} (h0 : 0 ≤ x) (h1 : x ≤ t.length) {n : Nat} (hn : 1 ≤ n) :
  ∃ (A : List Mat) (s r : Int), (A.length ≤ 7000 ∧ (∀ m ∈ A, m.c.length ≤ 1000000000) ∧ 1 ≤ r ∧ r ≤ s ∧ s ≤ 6000) ∧
   PureOK prog 12 [patV p, .d (intsD t), i64 x, i64 1073741824, i64 6000] (.tu [.d (.sl (A.map matD)), i64 s, i64 0]) ∧ PureOK prog 12 [patV p, .d (intsD t), i64 x, i64 (n : Nat), i64 6000] (.tu [.d (.sl ((A.take n).map matD)), i64 r, i64 0]) ∧
   PureOK prog 12 [patV p, .d (intsD t), i64 x, i64 (n : Nat), i64 r] (.tu [.d (.sl ((A.take n).map matD)), i64 r, i64 0]) ∧ (∃ B u, PureOK prog 12 [patV p, .d (intsD t), i64 x, i64 (n : Nat), i64 (r - 1)] (.tu [.d (.sl (B : List (List D))), i64 u, i64 11])) ∧
   PureOK prog 15 [patV p, .d (intsD t), i64 x, i64 s] (.tu [i64 s, i64 0]) ∧ (∃ u, PureOK prog 15 [patV p, .d (intsD t), i64 x, i64 (s - 1)] (.tu [i64 u, i64 11])) := by
 have hg := hgood x h0 h1
 have hsl := steps_le hg
 have hel := ends_le hg
 have hlen := allM_len hg
 have hbig := prefix_full (n := 1073741824) hg (by omega)
 have hpre := prefix_law hn hg
 have hsl2 := steps_le hpre.1
 have hpos := steps_pos hpre.1
 have hpos2 := steps_pos hg
 have hsame := fuel_same (f' := allN p t x n 6000) hpre.1 (Int.le_refl _) (by omega)
 have hless := fuel_less (f' := allN p t x n 6000 - 1) hpre.1 (by omega) (by omega)
 have hsame2 := fuel_same (f' := allN p t x (-1) 6000) hg (Int.le_refl _) (by omega)
 have hless2 := fuel_less (f' := allN p t x (-1) 6000 - 1) hg (by omega) (by omega)
 have k1 := semAll_fit hf ht (by omega) hgood x 6000 (n := 1073741824) (by omega)
 have k2 := semAll_fit hf ht (by omega) hgood x 6000 hn
 have k3 := semAll_fit hf ht (by omega) hgood x (allN p t x n 6000) hn
 have k4 := semAll_fit hf ht (by omega) hgood x (allN p t x n 6000 - 1) hn
 have k5 := semSteps_ok p t x (allN p t x (-1) 6000) hf (by omega) (fun hv a b => (steps_bound (F0 := 6000) (by omega) hgood a b hv).1)
 have k6 := semSteps_ok p t x (allN p t x (-1) 6000 - 1) hf (by omega) (fun hv a b => (steps_bound (F0 := 6000) (by omega) hgood a b hv).1)
 have hmt : matsL x (allM p t x n 6000) = (matsL x (allM p t x (-1) 6000)).take n := by rw [hpre.2.1]; unfold matsL; rw [List.map_take]
 rw [hless] at k4
 rw [hless2] at k6
 refine ⟨matsL x (allM p t x (-1) 6000), allN p t x (-1) 6000, allN p t x n 6000, ⟨?_, mats_caps, by omega, hpre.2.2, hsl.2⟩, ?_, ?_, ?_, ⟨_, _, k4⟩, ?_, ⟨_, k6⟩⟩
 ·unfold matsL; rw [List.length_map]; omega
 ·have e : ((1073741824 : Nat) : Int) = 1073741824 := rfl
  rw [hbig.1, hbig.2.1, hbig.2.2, e] at k1
  exact k1
 ·rw [hpre.1, hmt] at k2; exact k2
 ·rw [hsame.1, hsame.2.1, hsame.2.2.1, hmt] at k3; exact k3
 ·rw [hsame2.1, hsame2.2.2.1] at k5; exact k5
theorem semPrefixL_ok (l : List Int) (hl : ∀ x ∈ l, I64 x) (m : List Int) (hm : ∀ x ∈ m, I64 x) (at_ most : Int) (ha : I64 at_) (hmo : I64 most) :
  PureOK prog 4 [.d (intsD l), .d (intsD m), i64 at_, i64 most] (bV true) := by
 obtain ⟨p, t, hfit, hgood, hf, htl⟩ := fits_gen l m hl hm 127 20 6000 (by omega) (by omega) (by omega) (by omega)
 have hlv := lives7_ok
 have har := around_ok at_ ((t.length : Int) + 1) (by omega) ha
 have hrr := around_range at_ ((t.length : Int) + 1) (by omega) ha
 have hmr := around_ok most 9 (by omega) hmo
 have hm9 := around_range most 9 (by omega) hmo
 have wt : IntKind.i64.wrap ((t.length : Int) + 1) = (t.length : Int) + 1 := w64 _ (by omega)
 have wm : IntKind.i64.wrap (1 + around most 9) = 1 + around most 9 := w64 _ (by omega)
 generalize around at_ ((t.length : Int) + 1) = aa at *
 generalize around most 9 = mm at *
 obtain ⟨n, hn, hnm⟩ : ∃ n : Nat, 1 ≤ n ∧ 1 + mm = n := ⟨(1 + mm).toNat, by omega, by omega⟩
 obtain ⟨A, s, r, ⟨hA1, hA2, hr1, hrs, hs6⟩, k1, k2, k3, ⟨B4, u4, k4⟩, k5, ⟨u6, k6⟩⟩ := prefix_data hf htl hgood (x := aa) (by omega) (by omega) hn
 have hEq := equals_refl (A.take n) (by rw [List.length_take]; omega) (fun m hm => hA2 m (List.mem_of_mem_take hm))
 have hlenT : (A.take n).length = min n A.length := List.length_take ..
 have hltk : List.take (A.take n).length (A.map matD) = (A.take n).map matD := by
  rw [hlenT, ← List.map_take]
  congr 1
  rcases Nat.le_total n A.length with h | h
  ·rw [Nat.min_eq_left h]
  ·rw [Nat.min_eq_right h, List.take_of_length_le h, List.take_length]
 have wr : IntKind.i64.wrap (r - 1) = r - 1 := w64 _ (by omega)
 have ws : IntKind.i64.wrap (s - 1) = s - 1 := w64 _ (by omega)
 have wn : IntKind.i64.wrap (n : Int) = n := w64 _ (by omega)
 have c1 : ¬ s < r := by omega
 have c2 : ¬ s < 1 := by omega
 have c3 : (((A.take n).length : Nat) : Int) = min (n : Int) (A.length : Int) := by rw [hlenT]; omega
 simp only [patV_C, patC_eq, List.map_cons, List.map_nil, i64, iD, bD, bV, intsD] at hfit k1 k2 k3 k4 k5 k6 har hmr hEq
 clear hgood
 refine fn_ok func4 rfl ntmps4 results4 rfl 0 390070031 (by simp) (by simp) ?_
 simp only [zX, simprocAttr, i64, bV, iD, bD, Mat.v, intsD, killO, List.length_map, List.set_cons_zero, List.set_cons_succ, List.length_cons, List.length_nil, List.cons_append, List.nil_append, ne_eq, not_true_eq_false, not_false_eq_true, Bool.not_false, Bool.not_true, gt_iff_lt, decide_true]
 refine call_pure hfit rfl rfl ?_
 simp only [zX, simprocAttr, i64, bV, iD, bD, Mat.v, intsD, killO, List.length_map, List.set_cons_zero, List.set_cons_succ, List.length_cons, List.length_nil, List.cons_append, List.nil_append, ne_eq, not_true_eq_false, not_false_eq_true, Bool.not_false, Bool.not_true, gt_iff_lt, decide_true, wt]
 refine call_pure har rfl rfl ?_
 simp only [zX, simprocAttr, i64, bV, iD, bD, Mat.v, intsD, killO, List.length_map, List.set_cons_zero, List.set_cons_succ, List.length_cons, List.length_nil, List.cons_append, List.nil_append, ne_eq, not_true_eq_false, not_false_eq_true, Bool.not_false, Bool.not_true, gt_iff_lt, decide_true]
 refine call_pure hmr rfl rfl ?_
 simp only [zX, simprocAttr, i64, bV, iD, bD, Mat.v, intsD, killO, List.length_map, List.set_cons_zero, List.set_cons_succ, List.length_cons, List.length_nil, List.cons_append, List.nil_append, ne_eq, not_true_eq_false, not_false_eq_true, Bool.not_false, Bool.not_true, gt_iff_lt, decide_true, wm, hnm, wn]
 refine call_pure k1 rfl rfl ?_
 simp only [zX, simprocAttr, i64, bV, iD, bD, Mat.v, intsD, killO, List.length_map, List.set_cons_zero, List.set_cons_succ, List.length_cons, List.length_nil, List.cons_append, List.nil_append, ne_eq, not_true_eq_false, not_false_eq_true, Bool.not_false, Bool.not_true, gt_iff_lt, decide_true]
 refine call_pure k2 rfl rfl ?_
 simp only [zX, simprocAttr, i64, bV, iD, bD, Mat.v, intsD, killO, List.length_map, List.set_cons_zero, List.set_cons_succ, List.length_cons, List.length_nil, List.cons_append, List.nil_append, ne_eq, not_true_eq_false, not_false_eq_true, Bool.not_false, Bool.not_true, gt_iff_lt, decide_true, c1, c2, c3]
 refine call_pure k3 rfl rfl ?_
 simp only [zX, simprocAttr, i64, bV, iD, bD, Mat.v, intsD, killO, List.length_map, List.set_cons_zero, List.set_cons_succ, List.length_cons, List.length_nil, List.cons_append, List.nil_append, ne_eq, not_true_eq_false, not_false_eq_true, Bool.not_false, Bool.not_true, gt_iff_lt, decide_true, wr]
 refine call_pure k4 rfl rfl ?_
 simp only [zX, simprocAttr, i64, bV, iD, bD, Mat.v, intsD, killO, List.length_map, List.set_cons_zero, List.set_cons_succ, List.length_cons, List.length_nil, List.cons_append, List.nil_append, ne_eq, not_true_eq_false, not_false_eq_true, Bool.not_false, Bool.not_true, gt_iff_lt, decide_true]
 refine call_pure k5 rfl rfl ?_
 simp only [zX, simprocAttr, i64, bV, iD, bD, Mat.v, intsD, killO, List.length_map, List.set_cons_zero, List.set_cons_succ, List.length_cons, List.length_nil, List.cons_append, List.nil_append, ne_eq, not_true_eq_false, not_false_eq_true, Bool.not_false, Bool.not_true, gt_iff_lt, decide_true, ws]
 refine call_pure k6 rfl rfl ?_
 simp only [zX, simprocAttr, i64, bV, iD, bD, Mat.v, intsD, killO, List.length_map, List.set_cons_zero, List.set_cons_succ, List.length_cons, List.length_nil, List.cons_append, List.nil_append, ne_eq, not_true_eq_false, not_false_eq_true, Bool.not_false, Bool.not_true, gt_iff_lt, decide_true]
 refine ⟨by rw [hlenT]; omega, ?_⟩
 rw [Int.sub_zero, Int.toNat_natCast, hltk]
 refine call_pure hEq rfl rfl ?_
 simp only [zX, simprocAttr, i64, bV, iD, bD, Mat.v, intsD, killO, List.length_map, List.set_cons_zero, List.set_cons_succ, List.length_cons, List.length_nil, List.cons_append, List.nil_append, ne_eq, not_true_eq_false, not_false_eq_true, Bool.not_false, Bool.not_true, gt_iff_lt, decide_true]
 refine call_pure hEq rfl rfl ?_
 simp only [zX, simprocAttr, i64, bV, iD, bD, Mat.v, intsD, killO, List.length_map, List.set_cons_zero, List.set_cons_succ, List.length_cons, List.length_nil, List.cons_append, List.nil_append, ne_eq, not_true_eq_false, not_false_eq_true, Bool.not_false, Bool.not_true, gt_iff_lt, decide_true]
 refine call_pure hlv rfl rfl ?_
 simp only [zX, simprocAttr, i64, bV, iD, bD, Mat.v, intsD, killO, List.length_map, List.set_cons_zero, List.set_cons_succ, List.length_cons, List.length_nil, List.cons_append, List.nil_append, ne_eq, not_true_eq_false, not_false_eq_true, Bool.not_false, Bool.not_true, gt_iff_lt, decide_true]
end Go.Proofs.Ytimnnipoaafdfaa
