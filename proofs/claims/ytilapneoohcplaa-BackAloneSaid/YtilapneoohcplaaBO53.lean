/- A part of the proof (G70). -/
import Derived.Test.YtilapneoohcplaaBO21
import Derived.Test.YtilapneoohcplaaBO31
import Derived.Test.YtilapneoohcplaaBO52
set_option linter.unusedSimpArgs false
set_option linter.unusedVariables false
set_option maxRecDepth 100000
set_option maxHeartbeats 80000000
namespace Go.Proofs.Ytilapneoohcplaa
open Go.VL Go.Proofs.Try
theorem sym_text (o : List Int) (n : Int) : (textR o n).length ≤ n.toNat ∧ ∀ x ∈ textR o n, I64 x := by
 unfold textR
 refine ⟨by simp; omega, fun x hx => ?_⟩
 obtain ⟨i, _, rfl⟩ := List.mem_map.1 hx
 have : ∀ k : Nat, I64 (textSyms.getD k 0) := by
  intro k
  rw [List.getD_eq_getElem?_getD]
  rcases Nat.lt_or_ge k textSyms.length with h | h
  ·rw [List.getElem?_eq_getElem h]
   have : ∀ y ∈ textSyms, I64 y := by unfold I64; decide
   exact this _ (List.getElem_mem h)
  ·rw [List.getElem?_eq_none h]; unfold I64; decide
 exact this _
theorem same_lend {t : List Int} {s : List VL.Obj} {K : V → List VL.Obj → Prop} (k : Nat) (h : PureOK prog 24 [.d (intsD t), .d (intsD t)] (.d (.sc (.bool true))))
  (hs : s[k]? = some ⟨0, true, 1, (t.map fun x => [D.sc (.int .i64 x)]).map fun e => e.map V.d⟩) (hk : K (.d (.sc (.bool true))) s) :
  callWp prog 24 [.d (.sl (t.map fun x => [D.sc (.int .i64 x)])), .so k 0 0 (0 + t.length)] s K := by
 refine call_lend [k] h ?_ rfl hk
 have hk2 : (killO s [k])[k]? = some ⟨0, false, 1, t.map fun x => [V.d (iD x)]⟩ := by
  simp only [killO, kill1, hs]
  rw [List.getElem?_set_self (List.getElem?_eq_some_iff.1 hs).1, List.map_map]
  rfl
 have : frzV (killO s [k]).length (killO s [k]) (.so k 0 0 (0 + t.length)) = some (.d (intsD t)) := by
  unfold frzV
  simp only [frzD, hk2]
  rw [if_pos (by simp), ← List.map_drop, ← List.map_take, frz_map, List.drop_zero, Nat.zero_add, List.take_length]
  rfl
 simp only [frzV.go, this]
 rfl
theorem backAloneL_ok (l : List Int) (hl : ∀ x ∈ l, I64 x) (m : List Int) (hm : ∀ x ∈ m, I64 x) (o : List Int) (ho : ∀ x ∈ o, I64 x) (at_ : Int) (ha : I64 at_) : PureOK prog 8 [.d (intsD l), .d (intsD m), .d (intsD o), i64 at_] (bV true) := by
 obtain ⟨p, t, hfit, hgood, hfine, hlen⟩ := fits_all l m hl hm
 have har := around_ok at_ ((t.length : Int) + 1) (by omega) ha
 have hin := around_range at_ ((t.length : Int) + 1) (by omega) ha
 generalize around at_ ((t.length : Int) + 1) = i at *
 have hE := allE_first (hgood i hin.1 (by omega))
 obtain ⟨hv, h0i, h1i, _⟩ := allE_valid hE
 have hvr := (valid7_spec hv).1
 have hvs := validR_spec hvr
 have hlv := lives8_ok
 have htx := text_ok o ho 9 (by omega)
 have hts := sym_text o 9
 generalize textR o 9 = u at *
 have hsm := sameInts_ok t t (by omega)
 rw [decide_eq_true rfl] at hsm
 have hnew := fun s K hk => call_new hfine hvr (s := s) (K := K) hk
 obtain ⟨m1, T1, r1, t1, t1', _, _, d1, _, c1⟩ := run_any hvr (t := u) (by omega) hts.2 0 50 (m := fresh p) ⟨rfl, Nat.le_refl _⟩ (.fu []) rfl rfl
 have hdz : (fresh p).deepest = 0 := rfl
 obtain ⟨x1, x2, x3, x4, xn, xe, hx, xn0, xn1, _, _⟩ := resX_shape (p := p) (t := u) (i := 0) (f := 50) hvr
 rw [hx] at c1
 obtain ⟨m2, T2, y1, y2, y3, y4, yn, ye, r2, t2, t2', d2, yn0, yn1, c2, next⟩ := run_next (valid7_fuel hv (f' := 2) (by omega) (by omega)) (i := 0) (by omega) (by omega) r1 t1 t1'
 -- the machine before the last run
 have last : ∀ {m3 : Mst} {T3 : V}, Rst p m3 → refsV 3 T3 = true → renV [0, 1, 2] T3 = T3 → m3.deepest ≤ 50 → ∃ (m4 : Mst) (T4 : V), refsV 3 T4 = true ∧ renV [0, 1, 2] T4 = T4 ∧ m4.deepest ≤ max 50 (allN p t i 1 3000) ∧ ∀ b a : Nat, callWp prog 15 [.pp 0 0 0 0 b a, .d (intsD t), i64 i, i64 3000] (m3.objsT 0 b a T3) fun v s => v = outV (resX p t i 3000) ∧ s = m4.objsT 0 b a T4 := by
  intro m3 T3 r3 t3 t3' h3
  obtain ⟨m4, T4, _, t4, t4', _, _, _, d4, c4⟩ := run_any hvr (t := t) (by omega) (sym_i64 hv) i 3000 r3 T3 t3 t3'
  exact ⟨m4, T4, t4, t4', by have := d4 hE; omega, c4⟩
 obtain ⟨mz, Tz, rz, tz, tz', _, _, _, dz, cz⟩ := run_any hvr (t := t) (by omega) (sym_i64 hv) i 3000 (m := fresh p) ⟨rfl, Nat.le_refl _⟩ (.fu []) rfl rfl
 have dz := dz hE
 obtain ⟨z1, z2, z3, z4, zn, ze, hz, zn0, zn1, hzl, _⟩ := resX_shape (p := p) (t := t) (i := i) (f := 3000) hvr
 have hze : ze = 0 ∧ zn = allN p t i 1 3000 := by
  unfold resX at hz
  rw [if_neg (show ¬ (allE p t i 1 3000 ≠ 0) from by rw [hE]; simp)] at hz
  cases hM : allM p t i 1 3000 with
  | nil => rw [hM] at hz; simp [i64] at hz; exact ⟨hz.2.2.2.2.2.symm, hz.2.2.2.2.1.symm⟩
  | cons e l => rw [hM] at hz; simp [i64] at hz; exact ⟨hz.2.2.2.2.2.symm, hz.2.2.2.2.1.symm⟩
 obtain ⟨rfl, hzn⟩ := hze
 rw [hz] at cz last
 rw [← hzn] at dz last
 clear hzn hz
 have q2 : mz.deepest ≤ zn := by omega
 have hEq := equal_ok ⟨z1, z2, z3⟩ ⟨z1, z2, z3⟩ hzl
 simp only [decide_true, Mat.v, i64, bV, iD] at hEq
 have he4 : (z4 == z4) = true := by cases z4 <;> rfl
 have w1 : IntKind.i64.wrap ((t.length : Int) + 1) = (t.length : Int) + 1 := w64 _ (by omega)
 have wa : ∀ {q : Int}, 0 ≤ q → q ≤ 100000 → IntKind.i64.wrap q = q := fun h1 h2 => w64 _ (by omega)
 simp only [patV, Re.cells_eq p.re, List.map_cons, List.map_nil, List.cons_append, List.nil_append, i64, iD, bD, bV] at hfit hnew
 simp only [i64] at har htx
 refine fn_ok func8 rfl ntmps8 results8 rfl 0 8586395407 (by simp) (by simp) ?_
 simp only [zX, simprocAttr, zY, bbeq, w1]
 refine call_pure hfit rfl rfl ?_
 simp only [zX, simprocAttr, zY, bbeq, w1]
 refine call_pure har rfl rfl ?_
 simp only [zX, simprocAttr, zY, bbeq, w1]
 refine hnew _ _ (fun b a => ?_)
 simp only [zX, simprocAttr, zY, bbeq, w1]
 refine hnew _ _ (fun b2 a2 => ?_)
 simp only [zX, simprocAttr, zY, bbeq, w1]
 refine ⟨rfl, ⟨_, rfl⟩, rfl, ⟨_, rfl⟩, ?_⟩
 refine ⟨by simp, ⟨by omega, by simp⟩, ?_⟩
 refine call_pure htx rfl rfl ?_
 simp only [zX, simprocAttr, zY, bbeq, w1]
 refine call_m (X := 1) (Y := 2) (Z := 3) (r' := .tu [.ag [i64 x1, i64 x2, .d (capD x3)], bV x4, i64 xn, i64 xe]) (c1 b a) rfl rfl rfl (by decide) rfl rfl rfl rfl rfl rfl ?_
 simp only [zX, simprocAttr, zY, bbeq, w1]
 refine call_m (X := 1) (Y := 2) (Z := 3) (r' := .tu [.ag [i64 y1, i64 y2, .d (capD y3)], bV y4, i64 yn, i64 ye]) (c2 b a) t1 rfl rfl (by decide) rfl rfl rfl rfl rfl rfl ?_
 cases y4 with
 | false =>
  obtain ⟨m4, T4, t4, t4', d4, c4⟩ := last r2 t2 t2' (by omega)
  simp only [zX, simprocAttr, zY, bbeq, w1]
  refine call_m (X := 1) (Y := 2) (Z := 3) (r' := .tu [.ag [i64 z1, i64 z2, .d (capD z3)], bV z4, i64 zn, i64 0]) (c4 b a) t2 rfl rfl (by decide) rfl rfl rfl rfl rfl rfl ?_
  simp only [zX, simprocAttr, zY, bbeq, w1]
  refine call_m (X := 4) (Y := 5) (Z := 6) (r' := .tu [.ag [i64 z1, i64 z2, .d (capD z3)], bV z4, i64 zn, i64 0]) (cz b2 a2) rfl rfl rfl (by decide) rfl rfl rfl rfl rfl rfl ?_
  simp only [zX, simprocAttr, zY, bbeq, w1, he4]
  refine call_pure hEq rfl rfl ?_
  simp only [zX, simprocAttr, zY, bbeq, w1]
  refine same_lend 7 hsm rfl ?_
  simp only [zX, simprocAttr, zY, bbeq, w1]
  refine call_m (X := 1) (Y := 2) (Z := 3) (r' := i64 m4.deepest) (deepest_ok' 0 b a m4 T4 t4) t4 rfl rfl (by decide) rfl rfl rfl rfl rfl rfl ?_
  have q1 : m4.deepest ≤ IntKind.i64.wrap (IntKind.i64.wrap (IntKind.i64.wrap (max xn 50 + max yn 2) + 3000) + zn) := by
   rw [wa (q := max xn 50 + max yn 2) (by omega) (by omega), wa (q := max xn 50 + max yn 2 + 3000) (by omega) (by omega), wa (by omega) (by omega)]
   omega
  simp only [zX, simprocAttr, zY, bbeq, w1, q1]
  refine call_m (X := 4) (Y := 5) (Z := 6) (r' := i64 mz.deepest) (deepest_ok' 0 b2 a2 mz Tz tz) tz rfl rfl (by decide) rfl rfl rfl rfl rfl rfl ?_
  simp only [zX, simprocAttr, zY, bbeq, w1, q2]
  refine call_pure hlv rfl rfl ?_
  simp only [zX, simprocAttr, zY, bbeq, w1]
 | true =>
  obtain ⟨rfl, m3, T3, f1, f2, f3, f4, fn, fe, r3, t3, t3', d3, c3⟩ := next rfl
  obtain ⟨m4, T4, t4, t4', d4, c4⟩ := last r3 t3 t3' (by omega)
  simp only [zX, simprocAttr, zY, bbeq, w1]
  refine call_m (X := 1) (Y := 2) (Z := 3) (r' := .tu [.ag [i64 f1, i64 f2, .d (capD f3)], bV f4, i64 fn, i64 fe]) (c3 b a) t2 rfl rfl (by decide) rfl rfl rfl rfl rfl rfl ?_
  simp only [zX, simprocAttr, zY, bbeq, w1]
  refine call_m (X := 1) (Y := 2) (Z := 3) (r' := .tu [.ag [i64 z1, i64 z2, .d (capD z3)], bV z4, i64 zn, i64 0]) (c4 b a) t3 rfl rfl (by decide) rfl rfl rfl rfl rfl rfl ?_
  simp only [zX, simprocAttr, zY, bbeq, w1]
  refine call_m (X := 4) (Y := 5) (Z := 6) (r' := .tu [.ag [i64 z1, i64 z2, .d (capD z3)], bV z4, i64 zn, i64 0]) (cz b2 a2) rfl rfl rfl (by decide) rfl rfl rfl rfl rfl rfl ?_
  simp only [zX, simprocAttr, zY, bbeq, w1, he4]
  refine call_pure hEq rfl rfl ?_
  simp only [zX, simprocAttr, zY, bbeq, w1]
  refine same_lend 7 hsm rfl ?_
  simp only [zX, simprocAttr, zY, bbeq, w1]
  refine call_m (X := 1) (Y := 2) (Z := 3) (r' := i64 m4.deepest) (deepest_ok' 0 b a m4 T4 t4) t4 rfl rfl (by decide) rfl rfl rfl rfl rfl rfl ?_
  have q1 : m4.deepest ≤ IntKind.i64.wrap (IntKind.i64.wrap (IntKind.i64.wrap (max xn 50 + max yn 2) + 3000) + zn) := by
   rw [wa (q := max xn 50 + max yn 2) (by omega) (by omega), wa (q := max xn 50 + max yn 2 + 3000) (by omega) (by omega), wa (by omega) (by omega)]
   omega
  simp only [zX, simprocAttr, zY, bbeq, w1, q1]
  refine call_m (X := 4) (Y := 5) (Z := 6) (r' := i64 mz.deepest) (deepest_ok' 0 b2 a2 mz Tz tz) tz rfl rfl (by decide) rfl rfl rfl rfl rfl rfl ?_
  simp only [zX, simprocAttr, zY, bbeq, w1, q2]
  refine call_pure hlv rfl rfl ?_
  simp only [zX, simprocAttr, zY, bbeq, w1]
end Go.Proofs.Ytilapneoohcplaa
