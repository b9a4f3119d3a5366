/- A part of the proof (S44 S45). -/
import Derived.Test.YtimnnipoaafdfaaSB48
import Derived.Test.YtimnnipoaafdfaaSB49
set_option linter.unusedSimpArgs false
set_option linter.unusedVariables false
set_option maxRecDepth 100000
set_option maxHeartbeats 80000000
namespace Go.Proofs.Ytimnnipoaafdfaa
open Go.VL Go.Proofs.Try
noncomputable def firstF (p : Pat) (t : List Int) (F : Int) : Nat → Int → Int → Option (Int × Int × CapsL) × Int × Int
 | 0, _, s => (none, s, 0)
 | n + 1, i, s => if allE p t i 1 (F - s) ≠ 0 then (none, 0, 11) else match allM p t i 1 (F - s) with
  | [] => firstF p t F n (i + 1) (s + allN p t i 1 (F - s))
  |(e, d) :: _ => (some (i, e, d), s + allN p t i 1 (F - s), 0)
noncomputable def firstX (p : Pat) (t : List Int) (frm F : Int) : Option (Int × Int × CapsL) × Int × Int :=
 if valid7 p t F ≠ 0 then (none, 0, valid7 p t F) else if frm < 0 ∨ (t.length : Int) < frm then (none, 0, 5) else firstF p t F ((t.length : Int) + 1 - frm).toNat frm 0
def firstV (r : Option (Int × Int × CapsL) × Int × Int) : V := match r.1 with
 | none => .tu [.ag [i64 0, i64 0, .d (.sl [])], bV false, i64 r.2.1, i64 r.2.2]
 | some (i, e, d) => .tu [.ag [i64 i, i64 e, .d (capD d)], bV true, i64 r.2.1, i64 r.2.2]
theorem refFirst_ok (p : Pat) (t : List Int) (frm F : Int) (hf : p.re.fine = true) (hs : p.re.size ≤ 1000000000) (ht : t.length ≤ 1000000000) :
  PureOK prog 21 [patV p, .d (intsD t), i64 frm, i64 F] (firstV (firstX p t frm F)) := by
 have h1 := valid7_ok p t F hf hs ht
 have hall := fun i f => refAll_ok p t i 1 f hf hs ht
 unfold firstX
 by_cases hv : valid7 p t F = 0
 case neg =>
  rw [if_pos hv]
  generalize valid7 p t F = v at *
  simp only [patV_C, patC_eq, List.map_cons, List.map_nil, i64, iD, bD, bV] at h1
  refine fn_ok func21 rfl ntmps21 results21 rfl 0 261919 (by simp) (by simp) ?_
  simp only [zX, simprocAttr, i64, bV, iD, bD, Mat.v, intsD, killO, List.length_map, List.set_cons_zero, List.set_cons_succ, List.length_cons, List.length_nil, List.cons_append, List.nil_append, ne_eq, not_true_eq_false, not_false_eq_true, Bool.not_false, Bool.not_true, gt_iff_lt, decide_true, patV_C, patC_eq]
  refine call_pure h1 rfl rfl ?_
  simp only [zX, simprocAttr, i64, bV, iD, bD, Mat.v, intsD, killO, List.length_map, List.set_cons_zero, List.set_cons_succ, List.length_cons, List.length_nil, List.cons_append, List.nil_append, ne_eq, not_true_eq_false, not_false_eq_true, Bool.not_false, Bool.not_true, gt_iff_lt, decide_true, hv, firstV]
 rw [hv] at h1
 rw [if_neg (by rw [hv]; simp)]
 simp only [patV_C, patC_eq, List.map_cons, List.map_nil, i64, iD, bD, bV, intsD] at h1 hall
 by_cases c1 : frm < 0
 ·rw [if_pos (.inl c1)]
  refine fn_ok func21 rfl ntmps21 results21 rfl 0 261919 (by simp) (by simp) ?_
  simp only [zX, simprocAttr, i64, bV, iD, bD, Mat.v, intsD, killO, List.length_map, List.set_cons_zero, List.set_cons_succ, List.length_cons, List.length_nil, List.cons_append, List.nil_append, ne_eq, not_true_eq_false, not_false_eq_true, Bool.not_false, Bool.not_true, gt_iff_lt, decide_true, patV_C, patC_eq]
  refine call_pure h1 rfl rfl ?_
  simp only [zX, simprocAttr, i64, bV, iD, bD, Mat.v, intsD, killO, List.length_map, List.set_cons_zero, List.set_cons_succ, List.length_cons, List.length_nil, List.cons_append, List.nil_append, ne_eq, not_true_eq_false, not_false_eq_true, Bool.not_false, Bool.not_true, gt_iff_lt, decide_true, c1, firstV]
 by_cases c2 : (t.length : Int) < frm
 ·rw [if_pos (.inr c2)]
  refine fn_ok func21 rfl ntmps21 results21 rfl 0 261919 (by simp) (by simp) ?_
  simp only [zX, simprocAttr, i64, bV, iD, bD, Mat.v, intsD, killO, List.length_map, List.set_cons_zero, List.set_cons_succ, List.length_cons, List.length_nil, List.cons_append, List.nil_append, ne_eq, not_true_eq_false, not_false_eq_true, Bool.not_false, Bool.not_true, gt_iff_lt, decide_true, patV_C, patC_eq]
  refine call_pure h1 rfl rfl ?_
  simp only [zX, simprocAttr, i64, bV, iD, bD, Mat.v, intsD, killO, List.length_map, List.set_cons_zero, List.set_cons_succ, List.length_cons, List.length_nil, List.cons_append, List.nil_append, ne_eq, not_true_eq_false, not_false_eq_true, Bool.not_false, Bool.not_true, gt_iff_lt, decide_true, c1, c2, firstV]
 rw [if_neg (by omega)]
 obtain ⟨_, _, _, v4, v5⟩ := valid7_spec hv
 generalize hR : firstF p t F ((t.length : Int) + 1 - frm).toNat frm 0 = R
 refine fn_ok func21 rfl ntmps21 results21 rfl 0 261919 (by simp) (by simp) ?_
 simp only [zX, simprocAttr, i64, bV, iD, bD, Mat.v, intsD, killO, List.length_map, List.set_cons_zero, List.set_cons_succ, List.length_cons, List.length_nil, List.cons_append, List.nil_append, ne_eq, not_true_eq_false, not_false_eq_true, Bool.not_false, Bool.not_true, gt_iff_lt, decide_true, patV_C, patC_eq]
 refine call_pure h1 rfl rfl ?_
 simp only [zX, simprocAttr, i64, bV, iD, bD, Mat.v, intsD, killO, List.length_map, List.set_cons_zero, List.set_cons_succ, List.length_cons, List.length_nil, List.cons_append, List.nil_append, ne_eq, not_true_eq_false, not_false_eq_true, Bool.not_false, Bool.not_true, gt_iff_lt, decide_true, c1, c2]
 refine loop_rule (fun n e s => ∃ i k : Int, i + n = t.length + 1 ∧ 0 ≤ i ∧ 0 ≤ k ∧ k ≤ F ∧ firstF p t F n i k = R ∧ e 1 = .d (intsD t) ∧ e 3 = i64 F ∧ e 4 = .rf 0 0 0 0 ∧ e 8 = .rf 1 0 0 0 ∧ e 13 = i64 k ∧ e 14 = i64 i ∧
   s = [⟨0, true, 10, [(patC p).map .d]⟩, ⟨0, true, 3, [[.d (iD 0), .d (iD 0), .fu []]]⟩])
  ⟨_, _, _, Cln.refl, frm, 0, by omega, by omega, Int.le_refl _, v4, hR, rfl, rfl, rfl, rfl, rfl, rfl, by rw [patC_eq]; rfl⟩ ?_
 clear hR
 rintro n e s ⟨i, k, hin, hi0, hk0, hkF, hR, h1', h3, h4, h8, h13, h14, rfl⟩
 rw [patC_eq]
 simp only [intsD, iD, bD, List.map_cons, List.map_nil] at h1' ⊢
 cases n with
 | zero =>
  have hle : ¬ i ≤ (t.length : Int) := by omega
  simp only [firstF] at hR
  subst hR
  simp only [zX, simprocAttr, i64, bV, iD, bD, Mat.v, intsD, killO, List.length_map, List.set_cons_zero, List.set_cons_succ, List.length_cons, List.length_nil, List.cons_append, List.nil_append, ne_eq, not_true_eq_false, not_false_eq_true, Bool.not_false, Bool.not_true, gt_iff_lt, decide_true, h1', h3, h4, h8, h13, h14, hle, firstV]
 | succ n =>
  have hle : i ≤ (t.length : Int) := by omega
  have wF : IntKind.i64.wrap (F - k) = F - k := w64 _ (by omega)
  have hA := hall i (F - k)
  simp only [firstF] at hR
  simp only [zX, simprocAttr, i64, bV, iD, bD, Mat.v, intsD, killO, List.length_map, List.set_cons_zero, List.set_cons_succ, List.length_cons, List.length_nil, List.cons_append, List.nil_append, ne_eq, not_true_eq_false, not_false_eq_true, Bool.not_false, Bool.not_true, gt_iff_lt, decide_true, h1', h3, h4, h8, h13, h14, hle, wF]
  refine call_pure hA rfl rfl ?_
  by_cases hE : allE p t i 1 (F - k) = 0
  ·rw [if_neg (by rw [hE]; simp)] at hR
   have hst := steps_le hE
   have wk : IntKind.i64.wrap (k + allN p t i 1 (F - k)) = k + allN p t i 1 (F - k) := w64 _ (by omega)
   have wi : IntKind.i64.wrap (i + 1) = i + 1 := w64 _ (by omega)
   cases hM : allM p t i 1 (F - k) with
   | nil =>
    rw [hM] at hR
    simp only at hR
    simp only [zX, simprocAttr, i64, bV, iD, bD, Mat.v, intsD, killO, List.length_map, List.set_cons_zero, List.set_cons_succ, List.length_cons, List.length_nil, List.cons_append, List.nil_append, ne_eq, not_true_eq_false, not_false_eq_true, Bool.not_false, Bool.not_true, gt_iff_lt, decide_true, h1', h3, h4, h8, h13, h14, hle, hE, wk, Int.natCast_zero]
    refine ⟨n, _, _, Nat.lt_succ_self n, Cln.refl, i + 1, k + allN p t i 1 (F - k), by omega, by omega, by omega, by omega, hR, ?_, ?_, ?_, ?_, ?_, ?_, ?_⟩ <;> (try simp only [zU, Nat.reduceBEq, Nat.reduceShiftRight, Nat.reduceMod, Nat.reduceEqDiff, reduceIte])
    ·exact h1'
    ·exact h3
    ·exact h4
    ·exact h8
    ·rw [wi]
   | cons y l =>
    obtain ⟨e1, d1⟩ := y
    rw [hM] at hR
    simp only at hR
    subst hR
    have qln : (0 : Int) < ((l.length + 1 : Nat) : Int) := by omega
    simp only [zX, simprocAttr, i64, bV, iD, bD, Mat.v, intsD, killO, List.length_map, List.set_cons_zero, List.set_cons_succ, List.length_cons, List.length_nil, List.cons_append, List.nil_append, ne_eq, not_true_eq_false, not_false_eq_true, Bool.not_false, Bool.not_true, gt_iff_lt, decide_true, h1', h3, h4, h8, h13, h14, hle, hE, wk, qln, matchD, firstV]
  ·rw [if_pos hE] at hR
   subst hR
   simp only [zX, simprocAttr, i64, bV, iD, bD, Mat.v, intsD, killO, List.length_map, List.set_cons_zero, List.set_cons_succ, List.length_cons, List.length_nil, List.cons_append, List.nil_append, ne_eq, not_true_eq_false, not_false_eq_true, Bool.not_false, Bool.not_true, gt_iff_lt, decide_true, h1', h3, h4, h8, h13, h14, hle, hE, firstV]
noncomputable def everyF (p : Pat) (t : List Int) (F : Int) : Nat → Int → Int → Option (List Mat)
 | 0, _, _ => some []
 | n + 1, i, s => if allE p t i 1 (F - s) ≠ 0 then none else (everyF p t F n (i + 1) (s + allN p t i 1 (F - s))).map (matsL i (allM p t i 1 (F - s)) ++ ·)
noncomputable def everyX (p : Pat) (t : List Int) (F : Int) : List Mat × Int :=
 if valid7 p t F ≠ 0 then ([], valid7 p t F) else match everyF p t F (t.length + 1) 0 0 with
  | some L => (L, 0)
  | none => ([], 11)
theorem mat_frz (L : List Mat) (n : Nat) (hn : n = L.length) (s : List VL.Obj) : List.mapM (fun e => List.mapM (frzD 7 0 s) e) (List.take n (List.map (fun x => List.map V.d x) (List.map matD L))) = some (L.map matD) := by
 rw [List.take_of_length_le (by simp; omega)]
 exact mapM_frzE 7 0 s _
theorem matD_ok (n : Nat) (L : List Mat) (g sz : Nat) : objOk n ⟨g, true, sz, (L.map matD).map (·.map V.d)⟩ = true := by
 unfold objOk
 rw [List.all_eq_true]
 intro e he
 obtain ⟨x, _, rfl⟩ := List.mem_map.1 he
 rw [List.all_eq_true]
 intro v hv
 obtain ⟨d, _, rfl⟩ := List.mem_map.1 hv
 rfl
theorem refEvery_ok (p : Pat) (t : List Int) (F : Int) (hf : p.re.fine = true) (hs : p.re.size ≤ 1000000000) (ht : t.length ≤ 1000000000) :
  PureOK prog 24 [patV p, .d (intsD t), i64 F] (.tu [.d (.sl ((everyX p t F).1.map matD)), i64 (everyX p t F).2]) := by
 have h1 := valid7_ok p t F hf hs ht
 have hall := fun i f => refAll_ok p t i 1 f hf hs ht
 unfold everyX
 by_cases hv : valid7 p t F = 0
 case neg =>
  rw [if_pos hv]
  generalize valid7 p t F = v at *
  simp only [patV_C, patC_eq, List.map_cons, List.map_nil, i64, iD, bD, bV] at h1
  refine fn_ok func24 rfl ntmps24 results24 rfl 0 32719 (by simp) (by simp) ?_
  simp only [zX, simprocAttr, i64, bV, iD, bD, Mat.v, intsD, killO, List.length_map, List.set_cons_zero, List.set_cons_succ, List.length_cons, List.length_nil, List.cons_append, List.nil_append, ne_eq, not_true_eq_false, not_false_eq_true, Bool.not_false, Bool.not_true, gt_iff_lt, decide_true, patV_C, patC_eq]
  refine call_pure h1 rfl rfl ?_
  simp only [zX, simprocAttr, i64, bV, iD, bD, Mat.v, intsD, killO, List.length_map, List.set_cons_zero, List.set_cons_succ, List.length_cons, List.length_nil, List.cons_append, List.nil_append, ne_eq, not_true_eq_false, not_false_eq_true, Bool.not_false, Bool.not_true, gt_iff_lt, decide_true, hv, List.map_nil]
 rw [hv] at h1
 rw [if_neg (by rw [hv]; simp)]
 simp only [patV_C, patC_eq, List.map_cons, List.map_nil, i64, iD, bD, bV, intsD, matsL_D] at h1 hall
 obtain ⟨_, v2, _, v4, v5⟩ := valid7_spec hv
 generalize hR : everyF p t F (t.length + 1) 0 0 = R
 refine fn_ok func24 rfl ntmps24 results24 rfl 0 32719 (by simp) (by simp) ?_
 simp only [zX, simprocAttr, i64, bV, iD, bD, Mat.v, intsD, killO, List.length_map, List.set_cons_zero, List.set_cons_succ, List.length_cons, List.length_nil, List.cons_append, List.nil_append, ne_eq, not_true_eq_false, not_false_eq_true, Bool.not_false, Bool.not_true, gt_iff_lt, decide_true, patV_C, patC_eq]
 refine call_pure h1 rfl rfl ?_
 simp only [zX, simprocAttr, i64, bV, iD, bD, Mat.v, intsD, killO, List.length_map, List.set_cons_zero, List.set_cons_succ, List.length_cons, List.length_nil, List.cons_append, List.nil_append, ne_eq, not_true_eq_false, not_false_eq_true, Bool.not_false, Bool.not_true, gt_iff_lt, decide_true]
 refine loop_rule (fun n e s => ∃ (i k : Int) (A : List Mat) (g : Nat), i + n = t.length + 1 ∧ 0 ≤ i ∧ 0 ≤ k ∧ k ≤ F ∧ (A.length : Int) ≤ k + i ∧ (everyF p t F n i k).map (A ++ ·) = R ∧ e 1 = .d (intsD t) ∧ e 2 = i64 F ∧ e 3 = .rf 0 0 0 0 ∧ e 9 = .so 1 g 0 A.length ∧ e 10 = i64 k ∧ e 11 = i64 i ∧
   s = [⟨0, true, 10, [(patC p).map .d]⟩, ⟨g, true, 3, (A.map matD).map (·.map .d)⟩])
  ⟨t.length + 1, _, _, nilS1 9 3 rfl, 0, 0, [], 0, by omega, by omega, Int.le_refl _, v4, by simp, by rw [hR]; cases R <;> rfl, rfl, rfl, rfl, rfl, rfl, rfl, by rw [patC_eq]; rfl⟩ ?_
 clear hR
 rintro n e s ⟨i, k, A, g, hin, hi0, hk0, hkF, hAl, hR, h1', h2, h3, h9, h10, h11, rfl⟩
 rw [patC_eq]
 simp only [intsD, iD, bD, List.map_cons, List.map_nil] at h1' ⊢
 cases n with
 | zero =>
  have hle : ¬ i ≤ (t.length : Int) := by omega
  simp only [everyF, Option.map_some, List.append_nil] at hR
  subst hR
  have hmf := mat_frz A A.length rfl
  simp only [zX, simprocAttr, i64, bV, iD, bD, Mat.v, intsD, killO, List.length_map, List.set_cons_zero, List.set_cons_succ, List.length_cons, List.length_nil, List.cons_append, List.nil_append, ne_eq, not_true_eq_false, not_false_eq_true, Bool.not_false, Bool.not_true, gt_iff_lt, decide_true, h1', h2, h3, h9, h10, h11, hle, hmf, Nat.zero_add, Nat.le_refl, if_true, Option.map_some]
 | succ n =>
  have hle : i ≤ (t.length : Int) := by omega
  have wF : IntKind.i64.wrap (F - k) = F - k := w64 _ (by omega)
  have hA := hall i (F - k)
  simp only [everyF] at hR
  simp only [zX, simprocAttr, i64, bV, iD, bD, Mat.v, intsD, killO, List.length_map, List.set_cons_zero, List.set_cons_succ, List.length_cons, List.length_nil, List.cons_append, List.nil_append, ne_eq, not_true_eq_false, not_false_eq_true, Bool.not_false, Bool.not_true, gt_iff_lt, decide_true, h1', h2, h3, h9, h10, h11, hle, wF]
  refine call_pure hA rfl rfl ?_
  by_cases hE : allE p t i 1 (F - k) = 0
  ·rw [if_neg (by rw [hE]; simp)] at hR
   have hst := steps_le hE
   have hml := (allM_len hE).1
   have wk : IntKind.i64.wrap (k + allN p t i 1 (F - k)) = k + allN p t i 1 (F - k) := w64 _ (by omega)
   have wi : IntKind.i64.wrap (i + 1) = i + 1 := w64 _ (by omega)
   have hll : (matsL i (allM p t i 1 (F - k))).length = (allM p t i 1 (F - k)).length := by unfold matsL; rw [List.length_map]
   generalize matsL i (allM p t i 1 (F - k)) = M at *
   generalize allN p t i 1 (F - k) = N at *
   simp only [zX, simprocAttr, i64, bV, iD, bD, Mat.v, intsD, killO, List.length_map, List.set_cons_zero, List.set_cons_succ, List.length_cons, List.length_nil, List.cons_append, List.nil_append, ne_eq, not_true_eq_false, not_false_eq_true, Bool.not_false, Bool.not_true, gt_iff_lt, decide_true, h1', h2, h3, h9, h10, h11, hle, hE, wk, Nat.zero_add]
   refine ⟨?_, ⟨Nat.le_refl _, by omega⟩, ?_⟩
   ·simp [matD]
   refine ⟨n, _, _, Nat.lt_succ_self n, Cln.refl, i + 1, k + N, A ++ M, g + 1, by omega, by omega, by omega, by omega, by rw [List.length_append]; omega, ?_, h1', h2, h3, by rw [List.length_append]; rfl, rfl, show V.d (.sc (.int .i64 (IntKind.i64.wrap (i + 1)))) = i64 (i + 1) by rw [wi]; rfl, by rw [List.map_append, List.map_append, List.take_of_length_le (by simp)]⟩
   rw [← hR]
   cases everyF p t F n (i + 1) (k + N) <;> simp [List.append_assoc]
  ·rw [if_pos hE] at hR
   simp only [Option.map_none] at hR
   subst hR
   simp only [zX, simprocAttr, i64, bV, iD, bD, Mat.v, intsD, killO, List.length_map, List.set_cons_zero, List.set_cons_succ, List.length_cons, List.length_nil, List.cons_append, List.nil_append, ne_eq, not_true_eq_false, not_false_eq_true, Bool.not_false, Bool.not_true, gt_iff_lt, decide_true, h1', h2, h3, h9, h10, h11, hle, hE]
end Go.Proofs.Ytimnnipoaafdfaa
