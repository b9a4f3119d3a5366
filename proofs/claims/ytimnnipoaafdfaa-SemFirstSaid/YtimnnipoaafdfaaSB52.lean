/- A part of the proof (S48). -/
import Derived.Test.YtimnnipoaafdfaaSB51
set_option linter.unusedSimpArgs false
set_option linter.unusedVariables false
set_option maxRecDepth 100000
set_option maxHeartbeats 80000000
namespace Go.Proofs.Ytimnnipoaafdfaa
open Go.VL Go.Proofs.Try
theorem semEvery_ok (p : Pat) (t : List Int) (F : Int) (hf : p.re.fine = true) (ht : t.length ≤ 1000)
  (hB : valid7 p t F = 0 → ∀ i f : Int, 0 ≤ i → i ≤ t.length → 0 ≤ f → f ≤ F → (searchX p t i 1 f).2.steps ≤ 7000) :
  PureOK prog 23 [patV p, .d (intsD t), i64 F] (.tu [.d (.sl ((everyX p t F).1.map matD)), i64 (everyX p t F).2]) := by
 have hck := check_okS [p] t F (by simp) (fun q hq => by rw [List.mem_singleton.1 hq]; exact hf) (by omega)
 rw [check_one] at hck
 have hpc : patC p = p.re.cells ++ [iD p.caps, bD p.runes] := rfl
 simp only [List.map_cons, List.map_nil, hpc, Re.cells_eq p.re, List.cons_append, List.nil_append, i64, iD, bD] at hck
 unfold everyX
 by_cases hv : valid7 p t F = 0
 case neg =>
  rw [if_pos hv]
  generalize valid7 p t F = v at *
  refine fn_ok func23 rfl ntmps23 results23 rfl 0 16335 (by simp) (by simp) ?_
  simp only [zX, simprocAttr, i64, patV, Re.cells_eq p.re, bV, iD, bD, List.map_cons, List.map_nil, List.cons_append, List.nil_append]
  refine call_give [] (by simp [killO, frzV.go, frzV, frzD]; rfl) ?_
  refine call_pure hck rfl rfl ?_
  simp only [killO]
  simp only [zX, simprocAttr, i64, patV, bV, iD, bD, ne_eq, hv, not_false_eq_true, List.map_nil]
 rw [hv] at hck
 rw [if_neg (by rw [hv]; simp)]
 replace hB := hB hv
 obtain ⟨w1, _, _, v4, v5⟩ := valid7_spec hv
 obtain ⟨_, _, hc0, hc9, _⟩ := validR_spec w1
 generalize hR : everyF p t F (t.length + 1) 0 0 = R
 have hnew := fun K hk => call_newS (p := p) (t := t) (fuel := F) (s := [boxP p]) (K := K) hk
 refine fn_ok func23 rfl ntmps23 results23 rfl 0 16335 (by simp) (by simp) ?_
 simp only [zX, simprocAttr, i64, patV, Re.cells_eq p.re, bV, iD, bD, List.map_cons, List.map_nil, List.cons_append, List.nil_append]
 refine call_give [] (by simp [killO, frzV.go, frzV, frzD]; rfl) ?_
 refine call_pure hck rfl rfl ?_
 simp only [killO]
 simp only [zX, simprocAttr, i64, patV, bV, iD, bD, ne_eq, not_true_eq_false, intsD, gt_iff_lt, List.length_map]
 refine call_give [0] (by simp [killO, kill1, frzV.go, frzV, frzD]; rfl) ?_
 simp only [killO, kill1, List.getElem?_cons_zero, List.set_cons_zero]
 have hbo : boxP p = boxP p := rfl
 conv at hbo => rhs; simp only [boxP, hpc, Re.cells_eq p.re, i64, iD, bD, List.map_cons, List.map_nil, List.cons_append, List.nil_append]
 rw [← hbo]
 have hbok := boxP_ok p
 generalize boxP p = bo at *
 clear hbo
 simp only [hpc, Re.cells_eq p.re, i64, iD, bD, intsD, List.map_cons, List.map_nil, List.cons_append, List.nil_append, List.length_cons, List.length_nil, Nat.zero_add, Nat.reduceAdd] at hnew
 refine hnew _ (fun b a => ?_)
 simp only [zX, simprocAttr, i64, patV, bV, iD, bD, List.cons_append, List.nil_append]
 refine loop_rule (fun n e s => ∃ (i k : Int) (m1 : Smt) (A : List Mat) (g : Nat), i + n = t.length + 1 ∧ 0 ≤ i ∧ 0 ≤ k ∧ k ≤ F ∧ k ≤ 7000 * i ∧ m1.p = p ∧ m1.t = t ∧ m1.fuel = F ∧ m1.steps = k ∧ m1.spent = false ∧ m1.top ≤ m1.stk.length ∧ (A.length : Int) ≤ i ∧ (everyF p t F n i k).map (A ++ ·) = R ∧
   e 1 = .d (intsD t) ∧ e 9 = .pp 1 0 0 0 b a ∧ e 10 = .so 4 g 0 A.length ∧ e 11 = i64 i ∧
   s = [bo, sO1 2 3 m1, sO2, sO3 b a m1, ⟨g, true, 3, (A.map matD).map (·.map .d)⟩])
  ⟨t.length + 1, _, _, nilS1 10 3 rfl, 0, 0, freshS p t F, [], 0, by omega, by omega, Int.le_refl _, v4, by omega, rfl, rfl, rfl, rfl, rfl, Nat.le_refl _, by simp, by rw [hR]; cases R <;> rfl, rfl, rfl, rfl, rfl, rfl⟩ ?_
 clear hR hnew
 rintro n e s ⟨i, k, m1, A, g, hin, hi0, hk0, hkF, hki, mp, mt, mf, ms, msp, mtop, hAl, hR, h1, h9, h10, h11, rfl⟩
 simp only [intsD, iD, bD] at h1
 cases n with
 | zero =>
  have hle : ¬ i ≤ (t.length : Int) := by omega
  simp only [everyF, Option.map_some, List.append_nil] at hR
  subst hR
  have hmf := mat_frz A A.length rfl
  simp only [zX, simprocAttr, i64, bV, iD, bD, h1, h9, h10, h11, hle, List.length_map, intsD, hmf, Nat.zero_add, Nat.le_refl, if_true, Option.map_some]
 | succ n =>
  have hle : i ≤ (t.length : Int) := by omega
  have hbd := hB i (F - k) hi0 hle (by omega) (by omega)
  have hbd0 : allN p t i 1 (F - k) ≤ 7000 := by
   unfold allN
   split
   ·exact hbd
   ·omega
  obtain ⟨L, m2, q1, q2, ql, q3, q4⟩ := pos_law hv hi0 hle hk0 hkF mp mt mf ms msp (by omega)
  have wi : IntKind.i64.wrap (i + 1) = i + 1 := w64 _ (by omega)
  have f1 : m2.p = p := q2.p.trans mp
  have f2 : m2.t = t := q2.t.trans mt
  have f3 : m2.fuel = F := q2.fuel.trans mf
  simp only [everyF] at hR
  simp only [zX, simprocAttr, i64, bV, iD, bD, h1, h9, h10, h11, hle, List.length_map, intsD]
  refine call_sx (X := 1) (Y := 2) (Z := 3) (begin_okS 0 b a m1 i mtop) (by decide) rfl rfl rfl rfl rfl rfl ?_
  simp only [List.set_cons_zero, List.set_cons_succ]
  simp only [zX, simprocAttr, i64, patV, bV, iD, bD, h1, h9, h10, h11, List.cons_append, List.nil_append]
  cases q1 with
  | stop hs =>
   have hnx := next_no 0 b a (sev_wp _ _ _ _ _ _ hs 0 b a)
   refine call_sx (X := 1) (Y := 2) (Z := 3) (r' := .tu [.ag [i64 0, i64 0, .d (.sl [])], bV false]) hnx (by decide) rfl rfl rfl rfl rfl rfl ?_
   simp only [List.set_cons_zero, List.set_cons_succ]
   by_cases hE : allE p t i 1 (F - k) = 0
   ·obtain ⟨r1, r2, r3, r4⟩ := q3 hE
    have hst := steps_le hE
    have hM : allM p t i 1 (F - k) = [] := List.map_eq_nil_iff.1 r3.symm
    rw [if_neg (by rw [hE]; simp), hM] at hR
    have e1 : sO1 2 3 m2 = sO1 2 3 m2 := rfl
    conv at e1 => rhs; unfold sO1
    rw [e1]
    simp only [zX, simprocAttr, i64, bV, iD, bD, h1, h9, h10, h11, r1, Bool.false_eq_true]
    refine ⟨n, _, _, Nat.lt_succ_self n, Cln.cut (s' := [bo, sO1 2 3 m2, sO2, sO3 b a m2, ⟨g, true, 3, (A.map matD).map (·.map .d)⟩]) 5 (by omega) ?_ ?_ [1, 9, 10, 11] ?_, i + 1, k + allN p t i 1 (F - k), m2, A, g, by omega, by omega, by omega, by omega, by omega, f1, f2, f3, r2, r1, r4, by omega, ?_, ?_, ?_, ?_, ?_, rfl⟩ <;> (try simp only [zU, Nat.reduceBEq, Nat.reduceShiftRight, Nat.reduceMod, Nat.reduceEqDiff, reduceIte])
    ·unfold sO1; rw [r1]; rfl
    ·have h1 := sO_ok (Y := 2) (Z := 3) (n := 5) m2 b a (by decide) (by decide)
     simp only [List.all_cons, List.all_nil, Bool.and_true, hbok, Bool.true_and, matD_ok]
     exact h1
    ·simp [updE, trimE_app, refsV, i64, h1, h9, h10]
    ·rw [← hR]
     unfold matsL
     cases everyF p t F n (i + 1) (k + allN p t i 1 (F - k)) <;> simp
    ·exact h1
    ·exact h9
    ·exact h10
    ·rw [wi]
   ·rw [if_pos hE] at hR
    simp only [Option.map_none] at hR
    subst hR
    have r1 := q4 hE
    unfold sO1
    simp only [zX, simprocAttr, i64, bV, iD, bD, h1, h9, h10, h11, r1, List.map_nil]
  | @more _ k2 _ m3 _ r c L3 hs hc hl hx2 =>
   cases hx2
   have hfr := sev_fr hs
   have hnx := next_yes 0 b a (sev_wp _ _ _ _ _ _ hs 0 b a) hc hl (by rw [f1]; exact hc0) (by rw [f1]; exact hc9)
   rw [f1, q2.start] at hnx
   refine call_sx (X := 1) (Y := 2) (Z := 3) (r' := .tu [.ag [i64 i, i64 r.at_, .d (capD (c.take p.caps.toNat))], bV true]) hnx (by decide) rfl rfl rfl rfl rfl rfl ?_
   simp only [List.set_cons_zero, List.set_cons_succ]
   have e1 : sO1 2 3 m2 = sO1 2 3 m2 := rfl
   conv at e1 => rhs; unfold sO1
   rw [e1]
   by_cases hE : allE p t i 1 (F - k) = 0
   ·obtain ⟨r1, r2, r3, r4⟩ := q3 hE
    have hst := steps_le hE
    rw [if_neg (by rw [hE]; simp)] at hR
    cases hM : allM p t i 1 (F - k) with
    | nil => rw [hM] at r3; simp at r3
    | cons y l =>
     obtain ⟨e1, d1⟩ := y
     rw [hM] at hR r3
     simp only [List.map_cons, List.map_nil, matchC, matchD, List.cons.injEq, true_and, and_true] at r3
     obtain ⟨⟨r3, r5⟩, r6⟩ := r3
     have hl0 : l = [] := List.map_eq_nil_iff.1 r6.symm
     subst hl0
     rw [r5]
     simp only [iD] at r3
     have hml : matsL i [(e1, d1)] = [⟨i, e1, d1⟩] := rfl
     rw [hml] at hR
     simp only [zX, simprocAttr, i64, bV, iD, bD, h1, h9, h10, h11, r1, Bool.false_eq_true]
     rw [r3]
     refine ⟨by simp, ⟨by omega, by omega⟩, n, _, _, Nat.lt_succ_self n, Cln.cut (s' := [bo, sO1 2 3 m2, sO2, sO3 b a m2, ⟨g + 1, true, 3, ((A ++ [Mat.mk i e1 d1]).map matD).map (·.map V.d)⟩]) 5 (by omega) ?_ ?_ [1, 9, 10, 11] ?_, i + 1, k + allN p t i 1 (F - k), m2, A ++ [Mat.mk i e1 d1], g + 1, by omega, by omega, by omega, by omega, by omega, f1, f2, f3, r2, r1, r4, by rw [List.length_append]; simp; omega, ?_, ?_, ?_, ?_, ?_, rfl⟩ <;> (try simp only [zU, Nat.reduceBEq, Nat.reduceShiftRight, Nat.reduceMod, Nat.reduceEqDiff, reduceIte])
     ·have htk : List.take A.length (List.map (fun x => List.map V.d x) (List.map matD A)) = List.map (fun x => List.map V.d x) (List.map matD A) := List.take_of_length_le (by simp)
      rw [htk, List.map_append, List.map_append]
      unfold sO1; rw [r1]; rfl
     ·have h1 := sO_ok (Y := 2) (Z := 3) (n := 5) m2 b a (by decide) (by decide)
      simp only [List.all_cons, List.all_nil, Bool.and_true, hbok, Bool.true_and, matD_ok]
      exact h1
     ·simp [updE, trimE_app, refsV, i64, h1, h9, h10]
     ·rw [← hR]
      cases everyF p t F n (i + 1) (k + allN p t i 1 (F - k)) <;> simp [List.append_assoc]
     ·exact h1
     ·exact h9
     ·rw [List.length_append]; rfl
     ·rw [wi]
   ·rw [if_pos hE] at hR
    simp only [Option.map_none] at hR
    subst hR
    have r1 := q4 hE
    simp only [zX, simprocAttr, i64, bV, iD, bD, h1, h9, h10, h11, r1, List.map_nil]
end Go.Proofs.Ytimnnipoaafdfaa
