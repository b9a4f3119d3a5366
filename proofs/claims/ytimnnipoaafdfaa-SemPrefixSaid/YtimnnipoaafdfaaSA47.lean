/- A part of the proof (S42). -/
import Derived.Test.YtimnnipoaafdfaaSA46
set_option linter.unusedSimpArgs false
set_option linter.unusedVariables false
set_option maxRecDepth 100000
set_option maxHeartbeats 80000000
namespace Go.Proofs.Ytimnnipoaafdfaa
open Go.VL Go.Proofs.Try
theorem mats_of {p : Pat} {t : List Int} {i n f : Int} (hv : allE p t i n f = 0 → (searchX p t i n f).2.steps ≤ 100000000) : ∃ L : List Mat, (allM p t i n f).map (matchD i) = L.map matD ∧ L.length ≤ 1000000000 ∧ ∀ m ∈ L, m.c.length ≤ 1000000000 := by
 refine ⟨(allM p t i n f).map fun x => ⟨i, x.1, x.2⟩, by rw [List.map_map]; rfl, ?_, ?_⟩
 ·by_cases h : allE p t i n f = 0
  ·obtain ⟨hv7, h0, h1, he⟩ := allE_valid h
   obtain ⟨_, _, e2⟩ := search_ends (most := n) hv7 h0 h1
   obtain ⟨new, newc, z1, z2, z3, z4, _⟩ := e2.more
   have := hv h
   unfold allM
   rw [if_pos h, List.length_map, List.length_zip, z1]
   simp only [List.nil_append] at *
   omega
  ·unfold allM; rw [if_neg h]; simp
 ·intro m hm
  obtain ⟨x, hx, rfl⟩ := List.mem_map.1 hm
  by_cases h : allE p t i n f = 0
  ·obtain ⟨hv7, h0, h1, he⟩ := allE_valid h
   obtain ⟨_, _, e2⟩ := search_ends (most := n) hv7 h0 h1
   obtain ⟨new, newc, z1, z2, z3, z4, z5, z6⟩ := e2.more
   unfold allM at hx
   rw [if_pos h] at hx
   have hd := (List.of_mem_zip hx).2
   rw [z2] at hd
   exact (z6 _ (by simpa using hd)).1.1
  ·unfold allM at hx; rw [if_neg h] at hx; cases hx
theorem both_all {p : Pat} {t : List Int} (hf : p.re.fine = true) (hs : p.re.size ≤ 1000000000) (ht : t.length ≤ 12) {F0 : Int} (hF0 : F0 ≤ 50000000) (hgood : ∀ i : Int, 0 ≤ i → i ≤ t.length → allE p t i (-1) F0 = 0) (x n f : Int) (hn : 1 ≤ n) :
  ∃ (L : List Mat) (N E : Int), PureOK prog 12 [patV p, .d (intsD t), i64 x, i64 n, i64 f] (.tu [.d (.sl (L.map matD)), i64 N, i64 E]) ∧ PureOK prog 13 [patV p, .d (intsD t), i64 x, i64 n, i64 f] (.tu [.d (.sl (L.map matD)), i64 N, i64 E]) ∧
   PureOK prog 14 [.d (.sl (L.map matD)), .d (.sl (L.map matD))] (bV true) := by
 have hb : valid7 p t f = 0 → 0 ≤ x → x ≤ t.length → (searchX p t x n f).2.steps ≤ 100000000 := fun hv h0 h1 => by
  have := (steps_bound hF0 hgood h0 h1 hv).2 n.toNat (by omega)
  rwa [show ((n.toNat : Nat) : Int) = n by omega] at this
 obtain ⟨L, h1, h2, h3⟩ := mats_of (p := p) (t := t) (i := x) (n := n) (f := f) fun h => by
  obtain ⟨a, b, c, _⟩ := allE_valid h
  exact hb a b c
 have h4 := semAll_ok p t x n f hf (by omega) hn hb
 have h5 := refAll_ok p t x n f hf hs (by omega)
 rw [h1] at h4 h5
 exact ⟨L, _, _, h4, h5, equals_refl L h2 h3⟩
theorem none_all {p : Pat} {t : List Int} (hf : p.re.fine = true) (hs : p.re.size ≤ 1000000000) (ht : t.length ≤ 12) (hp : validR p = 0) (hsym : t.all (symB p.runes) = true) (x n f : Int) (hn : n < 1) :
  PureOK prog 12 [patV p, .d (intsD t), i64 x, i64 n, i64 f] (.tu [.d (.sl []), i64 0, i64 1]) ∧ ∃ (B : List (List D)) (r g : Int), PureOK prog 13 [patV p, .d (intsD t), i64 x, i64 1, i64 f] (.tu [.d (.sl B), i64 r, i64 g]) ∧ (g = 1 → B = [] ∧ r = 0) := by
 have hv : valid7 p t f = 0 ∨ valid7 p t f = 1 := by
  unfold valid7
  rw [if_neg (by rw [hp]; simp), if_neg (by omega), if_neg (by rw [hsym]; simp)]
  split
  ·exact .inr rfl
  ·exact .inl rfl
 have hE : allErrS p t x n f = 1 := by
  unfold allErrS
  rcases hv with h | h
  ·rw [if_neg (by rw [h]; simp), if_pos hn]
  ·rw [if_pos (by rw [h]; simp), h]
 have h1 := semAll_err p t x n f hf (by omega) (by rw [hE]; decide)
 rw [hE] at h1
 refine ⟨h1, _, _, _, refAll_ok p t x 1 f hf hs (by omega), fun hg => ?_⟩
 have hne : allE p t x 1 f ≠ 0 := by rw [hg]; decide
 unfold allM allN
 rw [if_neg hne, if_neg hne]
 exact ⟨rfl, rfl⟩
theorem both_steps {p : Pat} {t : List Int} (hf : p.re.fine = true) (hs : p.re.size ≤ 1000000000) (ht : t.length ≤ 12) {F0 : Int} (hF0 : F0 ≤ 50000000) (hgood : ∀ i : Int, 0 ≤ i → i ≤ t.length → allE p t i (-1) F0 = 0) (x f : Int) :
  ∃ N E : Int, PureOK prog 15 [patV p, .d (intsD t), i64 x, i64 f] (.tu [i64 N, i64 E]) ∧ PureOK prog 16 [patV p, .d (intsD t), i64 x, i64 f] (.tu [i64 N, i64 E]) :=
 ⟨_, _, semSteps_ok p t x f hf (by omega) (fun hv h0 h1 => (steps_bound hF0 hgood h0 h1 hv).1), refSteps_ok p t x f hf hs (by omega)⟩
theorem semAllL_ok (l : List Int) (hl : ∀ x ∈ l, I64 x) (m : List Int) (hm : ∀ x ∈ m, I64 x) (at_ most little : Int) (ha : I64 at_) (hmo : I64 most) (hli : I64 little) :
  PureOK prog 3 [.d (intsD l), .d (intsD m), i64 at_, i64 most, i64 little] (bV true) := by
 obtain ⟨p, t, hfit, hgood, hf, htl⟩ := fits_gen l m hl hm 127 16 6000 (by omega) (by omega) (by omega) (by omega)
 obtain ⟨hv0, _, _, _⟩ := allE_valid (hgood 0 (by omega) (by omega))
 obtain ⟨hp, _, hsym, _, _⟩ := valid7_spec hv0
 have hsz : p.re.size ≤ 1000000000 := by have := (validR_spec hp).1; omega
 have hlv := lives7_ok
 have har := around_ok at_ ((t.length : Int) + 1) (by omega) ha
 have hrr := around_range at_ ((t.length : Int) + 1) (by omega) ha
 have hmr := around_ok most 6 (by omega) hmo
 have hm6 := around_range most 6 (by omega) hmo
 have hlr := around_ok little 60 (by omega) hli
 have hl60 := around_range little 60 (by omega) hli
 have wt : IntKind.i64.wrap ((t.length : Int) + 1) = (t.length : Int) + 1 := w64 _ (by omega)
 have wm : IntKind.i64.wrap (1 + around most 6) = 1 + around most 6 := w64 _ (by omega)
 generalize around at_ ((t.length : Int) + 1) = aa at *
 generalize around most 6 = mm at *
 generalize around little 60 = ll at *
 have hall1 := fun x n f hn => both_all hf hsz htl (by omega) hgood x n f hn
 have hall0 := fun x n f hn => none_all hf hsz htl hp hsym x n f hn
 have hstp := fun x f => both_steps hf hsz htl (by omega) hgood x f
 simp only [patV_C, patC_eq, List.map_cons, List.map_nil, i64, iD, bD, bV] at hfit hall1 hall0 hstp har hmr hlr
 clear hgood hv0 hsym
 refine fn_ok func3 rfl ntmps3 results3 rfl 0 1073740831 (by simp) (by simp) ?_
 simp only [zX, Nat.reduceShiftRight, Nat.reduceMod, Nat.reduceLT, Nat.reduceMul, Nat.reduceSub, Int.reduceToNat, Int.reduceNeg, Int.reduceLT, Int.reduceLE, Int.reduceEq, Nat.reduceEqDiff, Nat.reduceAdd, Nat.reduceLeDiff, reduceIte, reduceCtorEq, Nat.reduceBEq, i64, bV, iD, bD, Mat.v, intsD, killO, List.length_map, List.set_cons_zero, List.set_cons_succ, List.length_cons, List.length_nil, List.cons_append, List.nil_append, ne_eq, not_true_eq_false, not_false_eq_true, Bool.not_false, Bool.not_true, gt_iff_lt, decide_true]
 refine call_pure hfit rfl rfl ?_
 simp only [zX, Nat.reduceShiftRight, Nat.reduceMod, Nat.reduceLT, Nat.reduceMul, Nat.reduceSub, Int.reduceToNat, Int.reduceNeg, Int.reduceLT, Int.reduceLE, Int.reduceEq, Nat.reduceEqDiff, Nat.reduceAdd, Nat.reduceLeDiff, reduceIte, reduceCtorEq, Nat.reduceBEq, i64, bV, iD, bD, Mat.v, intsD, killO, List.length_map, List.set_cons_zero, List.set_cons_succ, List.length_cons, List.length_nil, List.cons_append, List.nil_append, ne_eq, not_true_eq_false, not_false_eq_true, Bool.not_false, Bool.not_true, gt_iff_lt, decide_true, wt]
 refine call_pure har rfl rfl ?_
 simp only [zX, Nat.reduceShiftRight, Nat.reduceMod, Nat.reduceLT, Nat.reduceMul, Nat.reduceSub, Int.reduceToNat, Int.reduceNeg, Int.reduceLT, Int.reduceLE, Int.reduceEq, Nat.reduceEqDiff, Nat.reduceAdd, Nat.reduceLeDiff, reduceIte, reduceCtorEq, Nat.reduceBEq, i64, bV, iD, bD, Mat.v, intsD, killO, List.length_map, List.set_cons_zero, List.set_cons_succ, List.length_cons, List.length_nil, List.cons_append, List.nil_append, ne_eq, not_true_eq_false, not_false_eq_true, Bool.not_false, Bool.not_true, gt_iff_lt, decide_true]
 refine call_pure hmr rfl rfl ?_
 simp only [zX, Nat.reduceShiftRight, Nat.reduceMod, Nat.reduceLT, Nat.reduceMul, Nat.reduceSub, Int.reduceToNat, Int.reduceNeg, Int.reduceLT, Int.reduceLE, Int.reduceEq, Nat.reduceEqDiff, Nat.reduceAdd, Nat.reduceLeDiff, reduceIte, reduceCtorEq, Nat.reduceBEq, i64, bV, iD, bD, Mat.v, intsD, killO, List.length_map, List.set_cons_zero, List.set_cons_succ, List.length_cons, List.length_nil, List.cons_append, List.nil_append, ne_eq, not_true_eq_false, not_false_eq_true, Bool.not_false, Bool.not_true, gt_iff_lt, decide_true, wm]
 refine call_pure hlr rfl rfl ?_
 simp only [zX, Nat.reduceShiftRight, Nat.reduceMod, Nat.reduceLT, Nat.reduceMul, Nat.reduceSub, Int.reduceToNat, Int.reduceNeg, Int.reduceLT, Int.reduceLE, Int.reduceEq, Nat.reduceEqDiff, Nat.reduceAdd, Nat.reduceLeDiff, reduceIte, reduceCtorEq, Nat.reduceBEq, i64, bV, iD, bD, Mat.v, intsD, killO, List.length_map, List.set_cons_zero, List.set_cons_succ, List.length_cons, List.length_nil, List.cons_append, List.nil_append, ne_eq, not_true_eq_false, not_false_eq_true, Bool.not_false, Bool.not_true, gt_iff_lt, decide_true]
 obtain ⟨S, hS⟩ : ∃ S : List (List D), S = [[.sc (.int .i64 aa)], [.sc (.int .i64 at_)], [.sc (.int .i64 (-1))]] := ⟨_, rfl⟩
 obtain ⟨NU, hNU⟩ : ∃ S : List (List D), S = [[.sc (.int .i64 (1 + mm))], [.sc (.int .i64 100000)], [.sc (.int .i64 most)]] := ⟨_, rfl⟩
 obtain ⟨FU, hFU⟩ : ∃ S : List (List D), S = [[.sc (.int .i64 6000)], [.sc (.int .i64 ll)], [.sc (.int .i64 little)]] := ⟨_, rfl⟩
 refine loop_rule (fun n e s => ∃ j : Nat, n = 9 - j ∧ j ≤ 9 ∧ e 11 = .d (.el (patC p)) ∧ e 12 = .d (intsD t) ∧ e 13 = .d (.sl S) ∧ e 14 = .d (.sl NU) ∧ e 15 = .d (.sl FU) ∧ e 16 = i64 j ∧ s = [])
  ⟨_, _, _, Cln.drop 0 (by omega) [11, 12, 13, 14, 15, 16], 0, rfl, by omega, ?_, ?_, ?_, ?_, ?_, ?_, rfl⟩ ?_
 ·rw [patC_eq]; rfl
 ·rfl
 ·rw [hS]; rfl
 ·rw [hNU]; rfl
 ·rw [hFU]; rfl
 ·rfl
 have hSl : S.length = 3 := by rw [hS]; rfl
 have hNl : NU.length = 3 := by rw [hNU]; rfl
 have hFl : FU.length = 3 := by rw [hFU]; rfl
 have get3 : ∀ {L : List (List D)} {a b c : Int}, L = [[.sc (.int .i64 a)], [.sc (.int .i64 b)], [.sc (.int .i64 c)]] → ∀ r, r < 3 → ∃ sv, L[r]? = some [.sc (.int .i64 sv)] := by
  intro L a b c hL r hr
  subst hL
  match r, hr with
  | 0, _ => exact ⟨_, rfl⟩
  | 1, _ => exact ⟨_, rfl⟩
  | 2, _ => exact ⟨_, rfl⟩
 have hSr := get3 hS
 have hNr := get3 hNU
 have hFr := get3 hFU
 clear get3 hS hNU hFU hfit har hmr hlr
 rintro n e s ⟨j, rfl, hj, h11, h12, h13, h14, h15, h16, rfl⟩
 rw [patC_eq] at h11
 simp only [intsD, iD, bD] at h11 h12
 simp only [intsD] at hall1 hall0 hstp
 rcases Nat.lt_or_ge j 9 with hlt | hge
 ·obtain ⟨xv, hxv⟩ := hSr (j % 3) (by omega)
  obtain ⟨nv, hnv⟩ := hNr (j / 3) (by omega)
  obtain ⟨fv, hfv⟩ := hFr ((j + j / 3) % 3) (by omega)
  have q1 : (j : Int) < 9 := by omega
  have q2 : Int.tmod (j : Int) 3 = ((j % 3 : Nat) : Int) := by rw [Int.tmod_eq_emod_of_nonneg (by omega)]; omega
  have q3 : Int.tdiv (j : Int) 3 = ((j / 3 : Nat) : Int) := by rw [Int.tdiv_eq_ediv_of_nonneg (by omega)]; omega
  have q3b : IntKind.i64.wrap ((j : Int) + ((j / 3 : Nat) : Int)) = ((j + j / 3 : Nat) : Int) := by rw [w64 _ (by omega)]; omega
  have q3c : Int.tmod ((j + j / 3 : Nat) : Int) 3 = (((j + j / 3) % 3 : Nat) : Int) := by rw [Int.tmod_eq_emod_of_nonneg (by omega)]; omega
  have q4 : ((j % 3 : Nat) : Int) < (S.length : Int) := by omega
  have q5 : ((j / 3 : Nat) : Int) < (NU.length : Int) := by omega
  have q5b : (((j + j / 3) % 3 : Nat) : Int) < (FU.length : Int) := by omega
  have q6 : (0 : Int) ≤ ((j % 3 : Nat) : Int) := by omega
  have q7 : (0 : Int) ≤ ((j / 3 : Nat) : Int) := by omega
  have q7b : (0 : Int) ≤ (((j + j / 3) % 3 : Nat) : Int) := by omega
  have qw : IntKind.i64.wrap ((j / 3 : Nat) : Int) = ((j / 3 : Nat) : Int) := w64 _ (by omega)
  have q8 : j % 3 < S.length := by omega
  have q9 : j / 3 < NU.length := by omega
  have q9b : (j + j / 3) % 3 < FU.length := by omega
  have wk : IntKind.i64.wrap ((j : Int) + 1) = (j : Int) + 1 := w64 _ (by omega)
  obtain ⟨N2, E2, hs1, hs2⟩ := hstp xv fv
  by_cases hn : 1 ≤ nv
  ·obtain ⟨L, N, E, hA, hR, hEq⟩ := hall1 xv nv fv hn
   have hmax : max nv 1 = nv := by omega
   have hnlt : ¬ nv < 1 := by omega
   generalize L.map matD = LD at *
   simp only [zX, Nat.reduceShiftRight, Nat.reduceMod, Nat.reduceLT, Nat.reduceMul, Nat.reduceSub, Int.reduceToNat, Int.reduceNeg, Int.reduceLT, Int.reduceLE, Int.reduceEq, Nat.reduceEqDiff, Nat.reduceAdd, Nat.reduceLeDiff, reduceIte, reduceCtorEq, Nat.reduceBEq, i64, bV, iD, bD, Mat.v, intsD, killO, List.length_map, List.set_cons_zero, List.set_cons_succ, List.length_cons, List.length_nil, List.cons_append, List.nil_append, ne_eq, not_true_eq_false, not_false_eq_true, Bool.not_false, Bool.not_true, gt_iff_lt, decide_true, h11, h12, h13, h14, h15, h16, q1, q2, q3, q3b, q3c, q4, q5, q5b, q6, q7, q7b, q8, q9, q9b, qw, hxv, hnv, hfv, Int.toNat_natCast]
   refine call_pure hA rfl rfl ?_
   simp only [zX, Nat.reduceShiftRight, Nat.reduceMod, Nat.reduceLT, Nat.reduceMul, Nat.reduceSub, Int.reduceToNat, Int.reduceNeg, Int.reduceLT, Int.reduceLE, Int.reduceEq, Nat.reduceEqDiff, Nat.reduceAdd, Nat.reduceLeDiff, reduceIte, reduceCtorEq, Nat.reduceBEq, i64, bV, iD, bD, Mat.v, intsD, killO, List.length_map, List.set_cons_zero, List.set_cons_succ, List.length_cons, List.length_nil, List.cons_append, List.nil_append, ne_eq, not_true_eq_false, not_false_eq_true, Bool.not_false, Bool.not_true, gt_iff_lt, decide_true, h11, h12, h13, h14, h15, h16, hmax]
   refine call_pure hR rfl rfl ?_
   simp only [zX, Nat.reduceShiftRight, Nat.reduceMod, Nat.reduceLT, Nat.reduceMul, Nat.reduceSub, Int.reduceToNat, Int.reduceNeg, Int.reduceLT, Int.reduceLE, Int.reduceEq, Nat.reduceEqDiff, Nat.reduceAdd, Nat.reduceLeDiff, reduceIte, reduceCtorEq, Nat.reduceBEq, i64, bV, iD, bD, Mat.v, intsD, killO, List.length_map, List.set_cons_zero, List.set_cons_succ, List.length_cons, List.length_nil, List.cons_append, List.nil_append, ne_eq, not_true_eq_false, not_false_eq_true, Bool.not_false, Bool.not_true, gt_iff_lt, decide_true, h11, h12, h13, h14, h15, h16, hnlt]
   refine call_pure hEq rfl rfl ?_
   simp only [zX, Nat.reduceShiftRight, Nat.reduceMod, Nat.reduceLT, Nat.reduceMul, Nat.reduceSub, Int.reduceToNat, Int.reduceNeg, Int.reduceLT, Int.reduceLE, Int.reduceEq, Nat.reduceEqDiff, Nat.reduceAdd, Nat.reduceLeDiff, reduceIte, reduceCtorEq, Nat.reduceBEq, i64, bV, iD, bD, Mat.v, intsD, killO, List.length_map, List.set_cons_zero, List.set_cons_succ, List.length_cons, List.length_nil, List.cons_append, List.nil_append, ne_eq, not_true_eq_false, not_false_eq_true, Bool.not_false, Bool.not_true, gt_iff_lt, decide_true, h11, h12, h13, h14, h15, h16, hnlt]
   refine call_pure hs1 rfl rfl ?_
   simp only [zX, Nat.reduceShiftRight, Nat.reduceMod, Nat.reduceLT, Nat.reduceMul, Nat.reduceSub, Int.reduceToNat, Int.reduceNeg, Int.reduceLT, Int.reduceLE, Int.reduceEq, Nat.reduceEqDiff, Nat.reduceAdd, Nat.reduceLeDiff, reduceIte, reduceCtorEq, Nat.reduceBEq, i64, bV, iD, bD, Mat.v, intsD, killO, List.length_map, List.set_cons_zero, List.set_cons_succ, List.length_cons, List.length_nil, List.cons_append, List.nil_append, ne_eq, not_true_eq_false, not_false_eq_true, Bool.not_false, Bool.not_true, gt_iff_lt, decide_true, h11, h12, h13, h14, h15, h16]
   refine call_pure hs2 rfl rfl ?_
   simp only [zX, Nat.reduceShiftRight, Nat.reduceMod, Nat.reduceLT, Nat.reduceMul, Nat.reduceSub, Int.reduceToNat, Int.reduceNeg, Int.reduceLT, Int.reduceLE, Int.reduceEq, Nat.reduceEqDiff, Nat.reduceAdd, Nat.reduceLeDiff, reduceIte, reduceCtorEq, Nat.reduceBEq, i64, bV, iD, bD, Mat.v, intsD, killO, List.length_map, List.set_cons_zero, List.set_cons_succ, List.length_cons, List.length_nil, List.cons_append, List.nil_append, ne_eq, not_true_eq_false, not_false_eq_true, Bool.not_false, Bool.not_true, gt_iff_lt, decide_true, h11, h12, h13, h14, h15, h16]
   refine ⟨9 - (j + 1), _, _, by omega, Cln.refl, j + 1, rfl, hlt, ?_, ?_, ?_, ?_, ?_, ?_, rfl⟩ <;> (try simp only [zU, Nat.reduceBEq, Nat.reduceShiftRight, Nat.reduceMod, Nat.reduceEqDiff, reduceIte])
   ·rw [h11, patC_eq]; rfl
   ·exact h12
   ·exact h13
   ·exact h14
   ·exact h15
   ·rw [wk]; rfl
  ·obtain ⟨hA, B, r, g, hR, hg1⟩ := hall0 xv nv fv (by omega)
   have hmax : max nv 1 = 1 := by omega
   have hnlt : nv < 1 := by omega
   have hEq := equals_refl [] (by simp) (by simp)
   simp only [List.map_nil, bV] at hEq
   simp only [zX, Nat.reduceShiftRight, Nat.reduceMod, Nat.reduceLT, Nat.reduceMul, Nat.reduceSub, Int.reduceToNat, Int.reduceNeg, Int.reduceLT, Int.reduceLE, Int.reduceEq, Nat.reduceEqDiff, Nat.reduceAdd, Nat.reduceLeDiff, reduceIte, reduceCtorEq, Nat.reduceBEq, i64, bV, iD, bD, Mat.v, intsD, killO, List.length_map, List.set_cons_zero, List.set_cons_succ, List.length_cons, List.length_nil, List.cons_append, List.nil_append, ne_eq, not_true_eq_false, not_false_eq_true, Bool.not_false, Bool.not_true, gt_iff_lt, decide_true, h11, h12, h13, h14, h15, h16, q1, q2, q3, q3b, q3c, q4, q5, q5b, q6, q7, q7b, q8, q9, q9b, qw, hxv, hnv, hfv, Int.toNat_natCast]
   refine call_pure hA rfl rfl ?_
   simp only [zX, Nat.reduceShiftRight, Nat.reduceMod, Nat.reduceLT, Nat.reduceMul, Nat.reduceSub, Int.reduceToNat, Int.reduceNeg, Int.reduceLT, Int.reduceLE, Int.reduceEq, Nat.reduceEqDiff, Nat.reduceAdd, Nat.reduceLeDiff, reduceIte, reduceCtorEq, Nat.reduceBEq, i64, bV, iD, bD, Mat.v, intsD, killO, List.length_map, List.set_cons_zero, List.set_cons_succ, List.length_cons, List.length_nil, List.cons_append, List.nil_append, ne_eq, not_true_eq_false, not_false_eq_true, Bool.not_false, Bool.not_true, gt_iff_lt, decide_true, h11, h12, h13, h14, h15, h16, hmax]
   refine call_pure hR rfl rfl ?_
   by_cases hg : g = 1
   ·obtain ⟨rfl, rfl⟩ := hg1 hg
    subst hg
    simp only [zX, Nat.reduceShiftRight, Nat.reduceMod, Nat.reduceLT, Nat.reduceMul, Nat.reduceSub, Int.reduceToNat, Int.reduceNeg, Int.reduceLT, Int.reduceLE, Int.reduceEq, Nat.reduceEqDiff, Nat.reduceAdd, Nat.reduceLeDiff, reduceIte, reduceCtorEq, Nat.reduceBEq, i64, bV, iD, bD, Mat.v, intsD, killO, List.length_map, List.set_cons_zero, List.set_cons_succ, List.length_cons, List.length_nil, List.cons_append, List.nil_append, ne_eq, not_true_eq_false, not_false_eq_true, Bool.not_false, Bool.not_true, gt_iff_lt, decide_true, h11, h12, h13, h14, h15, h16, hnlt]
    refine call_pure hEq rfl rfl ?_
    simp only [zX, Nat.reduceShiftRight, Nat.reduceMod, Nat.reduceLT, Nat.reduceMul, Nat.reduceSub, Int.reduceToNat, Int.reduceNeg, Int.reduceLT, Int.reduceLE, Int.reduceEq, Nat.reduceEqDiff, Nat.reduceAdd, Nat.reduceLeDiff, reduceIte, reduceCtorEq, Nat.reduceBEq, i64, bV, iD, bD, Mat.v, intsD, killO, List.length_map, List.set_cons_zero, List.set_cons_succ, List.length_cons, List.length_nil, List.cons_append, List.nil_append, ne_eq, not_true_eq_false, not_false_eq_true, Bool.not_false, Bool.not_true, gt_iff_lt, decide_true, h11, h12, h13, h14, h15, h16, hnlt]
    refine call_pure hs1 rfl rfl ?_
    simp only [zX, Nat.reduceShiftRight, Nat.reduceMod, Nat.reduceLT, Nat.reduceMul, Nat.reduceSub, Int.reduceToNat, Int.reduceNeg, Int.reduceLT, Int.reduceLE, Int.reduceEq, Nat.reduceEqDiff, Nat.reduceAdd, Nat.reduceLeDiff, reduceIte, reduceCtorEq, Nat.reduceBEq, i64, bV, iD, bD, Mat.v, intsD, killO, List.length_map, List.set_cons_zero, List.set_cons_succ, List.length_cons, List.length_nil, List.cons_append, List.nil_append, ne_eq, not_true_eq_false, not_false_eq_true, Bool.not_false, Bool.not_true, gt_iff_lt, decide_true, h11, h12, h13, h14, h15, h16]
    refine call_pure hs2 rfl rfl ?_
    simp only [zX, Nat.reduceShiftRight, Nat.reduceMod, Nat.reduceLT, Nat.reduceMul, Nat.reduceSub, Int.reduceToNat, Int.reduceNeg, Int.reduceLT, Int.reduceLE, Int.reduceEq, Nat.reduceEqDiff, Nat.reduceAdd, Nat.reduceLeDiff, reduceIte, reduceCtorEq, Nat.reduceBEq, i64, bV, iD, bD, Mat.v, intsD, killO, List.length_map, List.set_cons_zero, List.set_cons_succ, List.length_cons, List.length_nil, List.cons_append, List.nil_append, ne_eq, not_true_eq_false, not_false_eq_true, Bool.not_false, Bool.not_true, gt_iff_lt, decide_true, h11, h12, h13, h14, h15, h16]
    refine ⟨9 - (j + 1), _, _, by omega, Cln.refl, j + 1, rfl, hlt, ?_, ?_, ?_, ?_, ?_, ?_, rfl⟩ <;> (try simp only [zU, Nat.reduceBEq, Nat.reduceShiftRight, Nat.reduceMod, Nat.reduceEqDiff, reduceIte])
    ·rw [h11, patC_eq]; rfl
    ·exact h12
    ·exact h13
    ·exact h14
    ·exact h15
    ·rw [wk]; rfl
   ·simp only [zX, Nat.reduceShiftRight, Nat.reduceMod, Nat.reduceLT, Nat.reduceMul, Nat.reduceSub, Int.reduceToNat, Int.reduceNeg, Int.reduceLT, Int.reduceLE, Int.reduceEq, Nat.reduceEqDiff, Nat.reduceAdd, Nat.reduceLeDiff, reduceIte, reduceCtorEq, Nat.reduceBEq, i64, bV, iD, bD, Mat.v, intsD, killO, List.length_map, List.set_cons_zero, List.set_cons_succ, List.length_cons, List.length_nil, List.cons_append, List.nil_append, ne_eq, not_true_eq_false, not_false_eq_true, Bool.not_false, Bool.not_true, gt_iff_lt, decide_true, h11, h12, h13, h14, h15, h16, hnlt, hg]
    refine call_give [] (cargs := [.d (.sl []), .d (.sl [])]) (by rfl) ?_
    refine call_pure hEq rfl rfl ?_
    simp only [zX, Nat.reduceShiftRight, Nat.reduceMod, Nat.reduceLT, Nat.reduceMul, Nat.reduceSub, Int.reduceToNat, Int.reduceNeg, Int.reduceLT, Int.reduceLE, Int.reduceEq, Nat.reduceEqDiff, Nat.reduceAdd, Nat.reduceLeDiff, reduceIte, reduceCtorEq, Nat.reduceBEq, i64, bV, iD, bD, Mat.v, intsD, killO, List.length_map, List.set_cons_zero, List.set_cons_succ, List.length_cons, List.length_nil, List.cons_append, List.nil_append, ne_eq, not_true_eq_false, not_false_eq_true, Bool.not_false, Bool.not_true, gt_iff_lt, decide_true, h11, h12, h13, h14, h15, h16, hnlt]
    refine call_pure hs1 rfl rfl ?_
    simp only [zX, Nat.reduceShiftRight, Nat.reduceMod, Nat.reduceLT, Nat.reduceMul, Nat.reduceSub, Int.reduceToNat, Int.reduceNeg, Int.reduceLT, Int.reduceLE, Int.reduceEq, Nat.reduceEqDiff, Nat.reduceAdd, Nat.reduceLeDiff, reduceIte, reduceCtorEq, Nat.reduceBEq, i64, bV, iD, bD, Mat.v, intsD, killO, List.length_map, List.set_cons_zero, List.set_cons_succ, List.length_cons, List.length_nil, List.cons_append, List.nil_append, ne_eq, not_true_eq_false, not_false_eq_true, Bool.not_false, Bool.not_true, gt_iff_lt, decide_true, h11, h12, h13, h14, h15, h16]
    refine call_pure hs2 rfl rfl ?_
    simp only [zX, Nat.reduceShiftRight, Nat.reduceMod, Nat.reduceLT, Nat.reduceMul, Nat.reduceSub, Int.reduceToNat, Int.reduceNeg, Int.reduceLT, Int.reduceLE, Int.reduceEq, Nat.reduceEqDiff, Nat.reduceAdd, Nat.reduceLeDiff, reduceIte, reduceCtorEq, Nat.reduceBEq, i64, bV, iD, bD, Mat.v, intsD, killO, List.length_map, List.set_cons_zero, List.set_cons_succ, List.length_cons, List.length_nil, List.cons_append, List.nil_append, ne_eq, not_true_eq_false, not_false_eq_true, Bool.not_false, Bool.not_true, gt_iff_lt, decide_true, h11, h12, h13, h14, h15, h16]
    refine ⟨9 - (j + 1), _, _, by omega, Cln.refl, j + 1, rfl, hlt, ?_, ?_, ?_, ?_, ?_, ?_, rfl⟩ <;> (try simp only [zU, Nat.reduceBEq, Nat.reduceShiftRight, Nat.reduceMod, Nat.reduceEqDiff, reduceIte])
    ·rw [h11, patC_eq]; rfl
    ·exact h12
    ·exact h13
    ·exact h14
    ·exact h15
    ·rw [wk]; rfl
 ·have hjj : j = 9 := by omega
  subst hjj
  have q1 : ¬ ((9 : Nat) : Int) < 9 := by omega
  simp only [zX, Nat.reduceShiftRight, Nat.reduceMod, Nat.reduceLT, Nat.reduceMul, Nat.reduceSub, Int.reduceToNat, Int.reduceNeg, Int.reduceLT, Int.reduceLE, Int.reduceEq, Nat.reduceEqDiff, Nat.reduceAdd, Nat.reduceLeDiff, reduceIte, reduceCtorEq, Nat.reduceBEq, i64, bV, iD, bD, Mat.v, intsD, killO, List.length_map, List.set_cons_zero, List.set_cons_succ, List.length_cons, List.length_nil, List.cons_append, List.nil_append, ne_eq, not_true_eq_false, not_false_eq_true, Bool.not_false, Bool.not_true, gt_iff_lt, decide_true, h11, h12, h13, h14, h15, h16, q1]
  refine call_pure hlv rfl rfl ?_
  simp only [zX, Nat.reduceShiftRight, Nat.reduceMod, Nat.reduceLT, Nat.reduceMul, Nat.reduceSub, Int.reduceToNat, Int.reduceNeg, Int.reduceLT, Int.reduceLE, Int.reduceEq, Nat.reduceEqDiff, Nat.reduceAdd, Nat.reduceLeDiff, reduceIte, reduceCtorEq, Nat.reduceBEq, i64, bV, iD, bD, Mat.v, intsD, killO, List.length_map, List.set_cons_zero, List.set_cons_succ, List.length_cons, List.length_nil, List.cons_append, List.nil_append, ne_eq, not_true_eq_false, not_false_eq_true, Bool.not_false, Bool.not_true, gt_iff_lt, decide_true]
end Go.Proofs.Ytimnnipoaafdfaa
