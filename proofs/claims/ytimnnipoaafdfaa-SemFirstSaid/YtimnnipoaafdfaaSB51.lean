/- A part of the proof (S46 S47). -/
import Derived.Test.YtimnnipoaafdfaaSB50
import Derived.Test.YtimnnipoaafdfaaSB49
set_option linter.unusedSimpArgs false
set_option linter.unusedVariables false
set_option maxRecDepth 100000
set_option maxHeartbeats 80000000
namespace Go.Proofs.Ytimnnipoaafdfaa
open Go.VL Go.Proofs.Try
theorem pos_law {p : Pat} {t : List Int} {F i k : Int} (hv : valid7 p t F = 0) (a0 : 0 ≤ i) (a1 : i ≤ t.length) (hk0 : 0 ≤ k) (hkF : k ≤ F) {m : Smt} (hmp : m.p = p) (hmt : m.t = t) (hmf : m.fuel = F) (hms : m.steps = k) (hsp : m.spent = false)
  (hB : (searchX p t i 1 (F - k)).2.steps + k ≤ 100000000) :
  ∃ L m', NextsS 1 (m.begin i) L m' ∧ FrS (m.begin i) m' ∧ L.length ≤ 1 ∧ (allE p t i 1 (F - k) = 0 → m'.spent = false ∧ m'.steps = k + allN p t i 1 (F - k) ∧ L.map (matchC p.caps.toNat i) = (allM p t i 1 (F - k)).map (matchD i) ∧ m'.top ≤ m'.stk.length) ∧ (allE p t i 1 (F - k) ≠ 0 → m'.spent = true) := by
 subst hmp hmt
 obtain ⟨h1, h2, h3, h4, h5⟩ := valid7_spec hv
 obtain ⟨k1, k2, k3, k4, k5⟩ := validR_spec h1
 have hv' := valid7_fuel (f' := F - k) hv (by omega) (by omega)
 obtain ⟨n, e1, _⟩ := search_ends (most := 1) hv' a0 a1
 have hsa := (shift_all (d := k) hk0 n _ _ _ _ _ e1).2 (by show (searchX m.p m.t i 1 (F - k)).2.steps + k ≤ _; omega)
 have hup : (⟨0, false, [], []⟩ : Sst).up k = ⟨k, false, [], []⟩ := by unfold Sst.up; simp
 rw [show F - k + k = F by omega, hup] at hsa
 have hst : StkS (m.begin i) ([] ++ [m.startP i]) := ⟨rfl, rfl⟩
 have hcon := sem_con (s := k) h1 h2 a0 a1 (fun h => by omega) hk0 hkF hsa hB (m := (m.begin i).pop) rfl rfl hmf hms hsp hst.last.2
 obtain ⟨L, m', q1, q2, q3, q4, q5, q6⟩ := con_nexts (n := 1) (most := 1) (by omega) (by omega) (Nat.le_refl _) (.inl rfl) hst hsp hcon
 have hE : allE m.p m.t i 1 (F - k) = if (searchX m.p m.t i 1 (F - k)).2.empty = true then 11 else 0 := by
  unfold allE; rw [if_neg (by rw [hv']; simp), if_neg (by omega)]
 refine ⟨L, m', q1, q2, ?_, fun hE0 => ?_, fun hE1 => ?_⟩
 ·have : ∀ {n : Nat} {a b : Smt} {L : List (Int × CapsL)}, NextsS n a L b → L.length ≤ n := by
   intro n a b L h
   induction h with
   | full => simp
   | stop => simp
   | more _ _ _ _ ih => simp; omega
  exact this q1
 ·have he : (searchX m.p m.t i 1 (F - k)).2.empty = false := by
   cases h : (searchX m.p m.t i 1 (F - k)).2.empty with
   | false => rfl
   | true => rw [hE, h, if_pos rfl] at hE0; omega
  obtain ⟨r1, r2, r3, r4, r5, r6⟩ := q4 he
  refine ⟨r1, ?_, ?_, r5⟩
  ·unfold allN
   rw [if_pos hE0, r2]
   show (searchX m.p m.t i 1 (F - k)).2.steps + k = _
   omega
  ·unfold allM
   rw [if_pos hE0, r4, List.map_map]
   refine List.map_congr_left fun y hy => ?_
   obtain ⟨e, d⟩ := y
   have hd := r6 d (List.of_mem_zip hy).2
   simp only [Function.comp_apply, padP, matchC, matchD]
   congr 4
   unfold padC
   rw [← hd, List.take_left']
   rfl
 ·have he : (searchX m.p m.t i 1 (F - k)).2.empty = true := by
   cases h : (searchX m.p m.t i 1 (F - k)).2.empty with
   | true => rfl
   | false => rw [hE, h, if_neg Bool.false_ne_true] at hE1; exact absurd rfl hE1
  exact (q5 he).1
def resC : VL.Obj := ⟨0, true, 3, [[.d (iD 0), .d (iD 0), .fu []]]⟩
theorem semFirst_ok (p : Pat) (t : List Int) (frm F : Int) (hf : p.re.fine = true) (ht : t.length ≤ 1000)
  (hB : valid7 p t F = 0 → ∀ i f : Int, 0 ≤ i → i ≤ t.length → 0 ≤ f → f ≤ F → (searchX p t i 1 f).2.steps ≤ 7000) :
  PureOK prog 20 [patV p, .d (intsD t), i64 frm, i64 F] (firstV (firstX p t frm F)) := by
 have hck := check_okS [p] t F (by simp) (fun q hq => by rw [List.mem_singleton.1 hq]; exact hf) (by omega)
 rw [check_one] at hck
 have hpc : patC p = p.re.cells ++ [iD p.caps, bD p.runes] := rfl
 simp only [List.map_cons, List.map_nil, hpc, Re.cells_eq p.re, List.cons_append, List.nil_append, i64, iD, bD] at hck
 unfold firstX
 by_cases hv : valid7 p t F = 0
 case neg =>
  rw [if_pos hv]
  generalize valid7 p t F = v at *
  refine fn_ok func20 rfl ntmps20 results20 rfl 0 130847 (by simp) (by simp) ?_
  simp only [zX, simprocAttr, i64, patV, Re.cells_eq p.re, bV, iD, bD, List.map_cons, List.map_nil, List.cons_append, List.nil_append]
  refine call_give [] (by simp [killO, frzV.go, frzV, frzD]; rfl) ?_
  refine call_pure hck rfl rfl ?_
  simp only [killO]
  simp only [zX, simprocAttr, i64, patV, bV, iD, bD, ne_eq, hv, not_false_eq_true, firstV]
 rw [hv] at hck
 rw [if_neg (by rw [hv]; simp)]
 by_cases c1 : frm < 0
 ·rw [if_pos (.inl c1)]
  refine fn_ok func20 rfl ntmps20 results20 rfl 0 130847 (by simp) (by simp) ?_
  simp only [zX, simprocAttr, i64, patV, Re.cells_eq p.re, bV, iD, bD, List.map_cons, List.map_nil, List.cons_append, List.nil_append]
  refine call_give [] (by simp [killO, frzV.go, frzV, frzD]; rfl) ?_
  refine call_pure hck rfl rfl ?_
  simp only [killO]
  simp only [zX, simprocAttr, i64, patV, bV, iD, bD, ne_eq, not_true_eq_false, c1, firstV]
 by_cases c2 : (t.length : Int) < frm
 ·rw [if_pos (.inr c2)]
  refine fn_ok func20 rfl ntmps20 results20 rfl 0 130847 (by simp) (by simp) ?_
  simp only [zX, simprocAttr, i64, patV, Re.cells_eq p.re, bV, iD, bD, List.map_cons, List.map_nil, List.cons_append, List.nil_append]
  refine call_give [] (by simp [killO, frzV.go, frzV, frzD]; rfl) ?_
  refine call_pure hck rfl rfl ?_
  simp only [killO]
  simp only [zX, simprocAttr, i64, patV, bV, iD, bD, ne_eq, not_true_eq_false, c1, c2, intsD, gt_iff_lt, List.length_map, firstV]
 rw [if_neg (by omega)]
 replace hB := hB hv
 obtain ⟨w1, _, _, v4, v5⟩ := valid7_spec hv
 obtain ⟨_, _, hc0, hc9, _⟩ := validR_spec w1
 generalize hR : firstF p t F ((t.length : Int) + 1 - frm).toNat frm 0 = R
 have hnew := fun K hk => call_newS (p := p) (t := t) (fuel := F) (s := [boxP p, resC]) (K := K) hk
 refine fn_ok func20 rfl ntmps20 results20 rfl 0 130847 (by simp) (by simp) ?_
 simp only [zX, simprocAttr, i64, patV, Re.cells_eq p.re, bV, iD, bD, List.map_cons, List.map_nil, List.cons_append, List.nil_append]
 refine call_give [] (by simp [killO, frzV.go, frzV, frzD]; rfl) ?_
 refine call_pure hck rfl rfl ?_
 simp only [killO]
 simp only [zX, simprocAttr, i64, patV, bV, iD, bD, ne_eq, not_true_eq_false, c1, c2, intsD, gt_iff_lt, List.length_map]
 refine call_give [0] (by simp [killO, kill1, frzV.go, frzV, frzD]; rfl) ?_
 simp only [killO, kill1, List.getElem?_cons_zero, List.set_cons_zero]
 have hbo : boxP p = boxP p := rfl
 conv at hbo => rhs; simp only [boxP, hpc, Re.cells_eq p.re, i64, iD, bD, List.map_cons, List.map_nil, List.cons_append, List.nil_append]
 rw [← hbo]
 have hro : resC = resC := rfl
 conv at hro => rhs; simp only [resC, iD]
 rw [← hro]
 have hbok := boxP_ok p
 generalize boxP p = bo at *
 clear hbo
 simp only [hpc, Re.cells_eq p.re, i64, iD, bD, intsD, List.map_cons, List.map_nil, List.cons_append, List.nil_append, List.length_cons, List.length_nil, Nat.zero_add, Nat.reduceAdd] at hnew
 refine hnew _ (fun b a => ?_)
 simp only [zX, simprocAttr, i64, patV, bV, iD, bD, List.cons_append, List.nil_append]
 refine loop_rule (fun n e s => ∃ (i k : Int) (m1 : Smt), i + n = t.length + 1 ∧ 0 ≤ i ∧ 0 ≤ k ∧ k ≤ F ∧ k ≤ 7000 * i ∧ m1.p = p ∧ m1.t = t ∧ m1.fuel = F ∧ m1.steps = k ∧ m1.spent = false ∧ m1.top ≤ m1.stk.length ∧ firstF p t F n i k = R ∧ e 1 = .d (intsD t) ∧ e 8 = .rf 1 0 0 0 ∧ e 13 = .pp 2 0 0 0 b a ∧ e 14 = i64 i ∧
   s = [bo, resC, sO1 3 4 m1, sO2, sO3 b a m1])
  ⟨_, _, _, Cln.refl, frm, 0, freshS p t F, by omega, by omega, Int.le_refl _, v4, by omega, rfl, rfl, rfl, rfl, rfl, Nat.le_refl _, hR, rfl, rfl, rfl, rfl, rfl⟩ ?_
 clear hR hnew
 rintro n e s ⟨i, k, m1, hin, hi0, hk0, hkF, hki, mp, mt, mf, ms, msp, mtop, hR, h1, h8, h13, h14, rfl⟩
 simp only [intsD, iD, bD] at h1
 cases n with
 | zero =>
  have hle : ¬ i ≤ (t.length : Int) := by omega
  simp only [firstF] at hR
  subst hR
  unfold sO1 resC
  simp only [zX, simprocAttr, i64, bV, iD, bD, h1, h8, h13, h14, hle, List.length_map, intsD]
  refine draw_c mix [] [(4,[2],[]),(5,[1],[1])] (by rfl) ?_
  simp only [zX, simprocAttr, i64, bV, iD, bD, h1, h8, h13, h14, hle, List.length_map, intsD, ms, firstV]
 | succ n =>
  have hle : i ≤ (t.length : Int) := by omega
  have hbd := hB i (F - k) hi0 hle (by omega) (by omega)
  have hbd0 : allN p t i 1 (F - k) ≤ 7000 := by
   unfold allN
   split
   ·exact hbd
   ·omega
  obtain ⟨L, m2, q1, q2, ql, q3, q4⟩ := pos_law hv hi0 hle hk0 hkF mp mt mf ms msp (by omega)
  have wi : IntKind.i64.wrap (i + 1) = i + 1 := w64 _ (by omega)
  have f1 : m2.p = p := q2.p.trans mp
  have f2 : m2.t = t := q2.t.trans mt
  have f3 : m2.fuel = F := q2.fuel.trans mf
  simp only [firstF] at hR
  simp only [zX, simprocAttr, i64, bV, iD, bD, h1, h8, h13, h14, hle, List.length_map, intsD]
  refine call_sx (X := 2) (Y := 3) (Z := 4) (begin_okS 0 b a m1 i mtop) (by decide) rfl rfl rfl rfl rfl rfl ?_
  simp only [List.set_cons_zero, List.set_cons_succ]
  simp only [zX, simprocAttr, i64, patV, bV, iD, bD, h1, h8, h13, h14, List.cons_append, List.nil_append]
  cases q1 with
  | stop hs =>
   have hnx := next_no 0 b a (sev_wp _ _ _ _ _ _ hs 0 b a)
   refine call_sx (X := 2) (Y := 3) (Z := 4) (r' := .tu [.ag [i64 0, i64 0, .d (.sl [])], bV false]) hnx (by decide) rfl rfl rfl rfl rfl rfl ?_
   simp only [List.set_cons_zero, List.set_cons_succ]
   by_cases hE : allE p t i 1 (F - k) = 0
   ·obtain ⟨r1, r2, r3, r4⟩ := q3 hE
    have hst := steps_le hE
    have hM : allM p t i 1 (F - k) = [] := List.map_eq_nil_iff.1 r3.symm
    rw [if_neg (by rw [hE]; simp), hM] at hR
    simp only at hR
    have e1 : sO1 3 4 m2 = sO1 3 4 m2 := rfl
    conv at e1 => rhs; unfold sO1
    rw [e1]
    simp only [zX, simprocAttr, i64, bV, iD, bD, h1, h8, h13, h14, r1, Bool.false_eq_true]
    refine ⟨n, _, _, Nat.lt_succ_self n, Cln.cut (s' := [bo, resC, sO1 3 4 m2, sO2, sO3 b a m2]) 5 (by omega) ?_ ?_ [1, 8, 13, 14] ?_, i + 1, k + allN p t i 1 (F - k), m2, by omega, by omega, by omega, by omega, by omega, f1, f2, f3, r2, r1, r4, hR, ?_, ?_, ?_, ?_, rfl⟩ <;> (try simp only [zU, Nat.reduceBEq, Nat.reduceShiftRight, Nat.reduceMod, Nat.reduceEqDiff, reduceIte])
    ·unfold sO1; rw [r1]; rfl
    ·have h1 := sO_ok (Y := 3) (Z := 4) (n := 5) m2 b a (by decide) (by decide)
     have h2 : objOk 5 resC = true := by rfl
     simp only [List.all_cons, List.all_nil, Bool.and_true, hbok, h2, Bool.true_and]
     exact h1
    ·simp [updE, trimE_app, refsV, i64, h1, h8, h13]
    ·exact h1
    ·exact h8
    ·exact h13
    ·rw [wi]
   ·rw [if_pos hE] at hR
    subst hR
    have r1 := q4 hE
    unfold sO1 resC
    simp only [zX, simprocAttr, i64, bV, iD, bD, h1, h8, h13, h14, r1, firstV]
  | @more _ k2 _ m3 _ r c L3 hs hc hl hx2 =>
   cases hx2
   have hfr := sev_fr hs
   have hnx := next_yes 0 b a (sev_wp _ _ _ _ _ _ hs 0 b a) hc hl (by rw [f1]; exact hc0) (by rw [f1]; exact hc9)
   rw [f1, q2.start] at hnx
   refine call_sx (X := 2) (Y := 3) (Z := 4) (r' := .tu [.ag [i64 i, i64 r.at_, .d (capD (c.take p.caps.toNat))], bV true]) hnx (by decide) rfl rfl rfl rfl rfl rfl ?_
   simp only [List.set_cons_zero, List.set_cons_succ]
   unfold sO1 resC
   by_cases hE : allE p t i 1 (F - k) = 0
   ·obtain ⟨r1, r2, r3, r4⟩ := q3 hE
    rw [if_neg (by rw [hE]; simp)] at hR
    cases hM : allM p t i 1 (F - k) with
    | nil => rw [hM] at r3; simp at r3
    | cons y l =>
     obtain ⟨e1, d1⟩ := y
     rw [hM] at hR r3
     simp only at hR
     subst hR
     simp only [List.map_cons, List.map_nil, matchC, matchD, List.cons.injEq, true_and, and_true] at r3
     obtain ⟨⟨r3, r5⟩, _⟩ := r3
     rw [r5]
     simp only [iD] at r3
     simp only [zX, simprocAttr, i64, bV, iD, bD, h1, h8, h13, h14, r1, Bool.false_eq_true]
     refine draw_c mix [] [(0,[5],[]),(4,[2],[]),(5,[1],[1])] (by rfl) ?_
     simp only [zX, simprocAttr, i64, bV, iD, bD, h1, h8, h13, h14, r1, r2, r3, firstV]
   ·rw [if_pos hE] at hR
    subst hR
    have r1 := q4 hE
    simp only [zX, simprocAttr, i64, bV, iD, bD, h1, h8, h13, h14, r1, firstV]
end Go.Proofs.Ytimnnipoaafdfaa
