/- Part of the proof: the program logic, or what some functions compute (G66). -/
import Derived.Test.YtilapneoohcplaaBK50
set_option linter.unusedSimpArgs false
set_option linter.unusedVariables false
set_option maxRecDepth 100000
set_option maxHeartbeats 80000000
namespace Go.Proofs.Ytilapneoohcplaa
open Go.VL
def patOb (p : Pat) : VL.Obj := ⟨0, true, 10, [[.d (.sc (.int .i64 p.re.op)), .d (.sl (p.re.set.map spanC)), .d (.sl (p.re.kids.map Re.cells)), .d (.sc (.int .i64 p.re.mn)), .d (.sc (.int .i64 p.re.mx)), .d (.sc (.int .i64 p.re.mode)), .d (.sc (.int .i64 p.re.n)), .d (.sc (.bool p.re.neg)), .d (.sc (.int .i64 p.caps)), .d (.sc (.bool p.runes))]]⟩
theorem backNextL_ok (l : List Int) (hl : ∀ x ∈ l, I64 x) (m : List Int) (hm : ∀ x ∈ m, I64 x) (at_ : Int) (ha : I64 at_) : PureOK Try.prog 4 [.d (intsD l), .d (intsD m), i64 at_] (bV true) := by
 obtain ⟨p, t, hfit, hgood, hfine, hlen⟩ := fits_all l m hl hm
 have har := around_ok at_ ((t.length : Int) + 1) (by omega) ha
 have hin := around_range at_ ((t.length : Int) + 1) (by omega) ha
 generalize around at_ ((t.length : Int) + 1) = i at *
 have hE := hgood i hin.1 (by omega)
 obtain ⟨hv, h0i, h1i, _⟩ := allE_valid hE
 have hvr := (valid7_spec hv).1
 have hvs := validR_spec hvr
 obtain ⟨L, mE, hM, hL, hO, hs, hN, _, _⟩ := outs_most hE (m := fresh p) rfl
 have hst : ∀ r ∈ L, r.2.2.start = i := outs_start hO
 have hLl : L.length ≤ 3001 := by
  obtain ⟨n, _, e2⟩ := search_ends (most := -1) hv h0i h1i
  obtain ⟨new, newc, m1, m2, m3, m4, _⟩ := e2.more
  have hs1 := e2.s1
  have : (allM p t i (-1) 3000).length = L.length := by rw [hM, List.length_map]
  unfold allM at this
  rw [if_pos hE, m1, m2] at this
  simp only [List.nil_append, List.length_zip] at this
  simp only at m4
  omega
 have hall := refAll_ok p t i (-1) 3000 hfine (by omega) (by omega)
 have hallk := fun k : Int => refAll_ok p t i k 3000 hfine (by omega) (by omega)
 rw [hE, ← hN] at hall
 have hW0 : ∀ (k : Nat) (r : Int × CapsL × Mst), L[k]? = some r → ((allM p t i (-1) 3000).map (matchD i))[k]? = some [iD i, iD r.1, capD r.2.1] := by
  intro k r hr
  rw [hM, List.getElem?_map, List.getElem?_map, hr]; rfl
 have hWl : ((allM p t i (-1) 3000).map (matchD i)).length = L.length := by rw [hM, List.length_map, List.length_map]
 generalize (allM p t i (-1) 3000).map (matchD i) = W at *
 have hne := fun b a => mnext_err 0 b a (fresh p) (.fu []) rfl rfl
 have hlv := lives8_ok
 have w1 : IntKind.i64.wrap ((t.length : Int) + 1) = (t.length : Int) + 1 := w64 _ (by omega)
 have hnew := fun s K hk => call_new hfine hvr (s := s) (K := K) hk
 simp only [patV, Re.cells_eq p.re, List.map_cons, List.map_nil, List.cons_append, List.nil_append, i64, iD, bD, bV] at hfit hnew hall hallk
 simp only [i64] at har
 refine fn_ok Try.func4 rfl Try.ntmps4 Try.results4 rfl 0 998014919 (by simp) (by simp) ?_
 simp only [zX, simprocAttr, zY, bbeq, w1]
 refine call_pure hfit rfl rfl ?_
 simp only [zX, simprocAttr, zY, bbeq, w1]
 refine call_pure har rfl rfl ?_
 simp only [zX, simprocAttr, zY, bbeq, w1]
 refine hnew _ _ (fun b a => ?_)
 simp only [zX, simprocAttr, zY, bbeq, w1]
 refine call_pure hall rfl rfl ?_
 simp only [zX, simprocAttr, zY, bbeq, w1]
 refine ⟨rfl, ⟨_, rfl⟩, ?_⟩
 refine call_m (X := 1) (Y := 2) (Z := 3) (r' := .tu [.ag [i64 0, i64 0, .d (.sl [])], bV false, i64 0, i64 20]) (hne b a) rfl rfl rfl (by decide) rfl rfl rfl rfl rfl rfl ?_
 simp only [zX, simprocAttr, zY, bbeq, w1]
 refine loop_rule (fun n e s => ∃ (k : Nat) (m : Mst) (T : V), n = L.length + 1 - k ∧ k ≤ L.length + 1 ∧ NSt p L k m T ∧ e 7 = .rf 0 0 0 0 ∧ e 8 = .d (intsD t) ∧ e 9 = i64 i ∧ e 10 = .pp 1 0 0 0 b a ∧ e 12 = .d (.sl W) ∧ e 13 = i64 mE.steps ∧ e 19 = i64 k ∧
   s = [patOb p, mO1 2 3 m (renV [1, 2, 3] T), mO2 b a m, mO3 m, ⟨0, true, 3, [[i64 0, i64 0, .d (.sl [])]]⟩])
  ⟨_, _, _, Cln.refl, 0, fresh p, .fu [], rfl, by omega, ⟨rfl, rfl, ⟨rfl, rfl⟩⟩, rfl, rfl, rfl, rfl, rfl, rfl, rfl, rfl⟩ ?_
 rintro n e s ⟨k, m, T, rfl, hk, hN, h7, h8, h9, h10, h12, h13, h19, rfl⟩
 rcases Nat.lt_or_ge k (L.length + 1) with hlt | hge
 ·rcases Nat.eq_zero_or_pos k with rfl | hpos
  ·obtain ⟨rfl, rfl⟩ : m = fresh p ∧ T = .fu [] := by simpa using hN.2.2
   obtain ⟨m', T', hN', hc⟩ := step_run hE hL hO hs
   have l1 : (0 : Int) ≤ (W.length : Int) := by omega
   have h19 : e 19 = i64 0 := h19
   cases h0 : L[0]? with
   | some r =>
    obtain ⟨n1, n2, n3, n4, _⟩ := outs_nth hv h0i h1i (m := fresh p) rfl hO h0
    have hall1 := hallk 1
    rw [show (((0 : Nat) : Int) + 1) = 1 from rfl] at n1 n2 n3
    rw [n1, n3] at hall1
    have hWr := hW0 0 r h0
    have hw1 : IntKind.i64.wrap (0 + 1) = 1 := rfl
    have l2 : (0 : Int) < (W.length : Int) := by have := (List.getElem?_eq_some_iff.1 h0).1; omega
    have l5 : 0 < W.length := by omega
    have hEq := equal_ok ⟨i, r.1, r.2.1⟩ ⟨i, r.1, r.2.1⟩ (by have := (hL r (List.mem_of_getElem? h0)).2; show r.2.1.length ≤ _; omega)
    simp only [decide_true, Mat.v, i64, bV, iD] at hEq
    have hro : outV (outRes i L mE 0) = .tu [.ag [i64 i, i64 r.1, .d (capD r.2.1)], bV true, i64 r.2.2.steps, i64 0] := by unfold outRes; rw [h0]; rfl
    rw [hro] at hc
    simp only [zX, simprocAttr, zY, bbeq, w1, h7, h8, h9, h10, h12, h13, h19, l1]
    refine call_m (X := 1) (Y := 2) (Z := 3) (r' := .tu [.ag [i64 i, i64 r.1, .d (capD r.2.1)], bV true, i64 r.2.2.steps, i64 0]) (hc b a) rfl rfl rfl (by decide) rfl rfl rfl rfl rfl rfl ?_
    simp only [zX, simprocAttr, zY, bbeq, w1, h7, h8, h9, h10, h12, h13, h19, l1, l2]
    refine draw_c mix [] [] (by rfl) ?_
    simp only [zX, simprocAttr, zY, bbeq, w1, h7, h8, h9, h10, h12, h13, h19, l1, l2, l5, hWr]
    refine callC_pure hEq rfl rfl ?_
    simp only [zX, simprocAttr, zY, bbeq, w1, h7, h8, h9, h10, h12, h13, h19, l1, l2, l5, hWr]
    simp only [zX, simprocAttr, zY, bbeq, w1, h7, h8, h9, h10, h12, h13, h19, hw1, patOb]
    refine call_pure hall1 rfl rfl ?_
    simp only [zX, simprocAttr, zY, bbeq, w1, h7, h8, h9, h10, h12, h13, h19, hw1]
    refine ⟨L.length + 1 - (0 + 1), _, _, by omega, Cln.cut 5 (by omega) rfl ?_ [7, 8, 9, 10, 12, 13, 19] ?_, 0 + 1, m', T', rfl, by omega, hN', ?_, ?_, ?_, ?_, ?_, ?_, ?_, rfl⟩ <;> (try simp only [zU, Nat.reduceBEq, Nat.reduceShiftRight, Nat.reduceMod, Nat.reduceEqDiff, reduceIte])
    ·have := mO_ok (m := m') b a (Y := 2) (Z := 3) (n := 5) (by omega) (by omega) (ren3 (X := 1) (Y := 2) (Z := 3) (n := 5) (by omega) (by omega) (by omega) hN'.1)
     show (objOk 5 (patOb p) && (objOk 5 (mO1 2 3 m' (renV [1, 2, 3] T')) && (objOk 5 (mO2 b a m') && (objOk 5 (mO3 m') && _)))) = true
     rw [this.1, this.2.1, this.2.2]
     rfl
    ·simp [trimE_app, keepE_app, updE, refsV, h7, h8, h9, h10, h12, h13, h19, i64, intsD]
    ·exact h7
    ·exact h8
    ·exact h9
    ·exact h10
    ·exact h12
    ·exact h13
    ·rfl
   | none =>
    have hw1 : IntKind.i64.wrap (0 + 1) = 1 := rfl
    have l0 : True := trivial
    have l2 : ¬ (0 : Int) < (W.length : Int) := by
     have : L.length ≤ 0 := by simpa using h0
     omega
    have hro : outV (outRes i L mE (0)) = .tu [.ag [i64 0, i64 0, .d (.sl [])], bV false, i64 mE.steps, i64 0] := by unfold outRes; rw [h0]; rfl
    rw [hro] at hc
    have hLk : L.length ≤ 0 := by simpa using h0
    simp only [zX, simprocAttr, zY, bbeq, w1, h7, h8, h9, h10, h12, h13, h19, hw1, l0, l1]
    refine call_m (X := 1) (Y := 2) (Z := 3) (r' := .tu [.ag [i64 0, i64 0, .d (.sl [])], bV false, i64 mE.steps, i64 0]) (hc b a) rfl rfl rfl (by decide) rfl rfl rfl rfl rfl rfl ?_
    simp only [zX, simprocAttr, zY, bbeq, w1, h7, h8, h9, h10, h12, h13, h19, hw1, l1, l2]
    refine draw_c mix [] [] (by rfl) ?_
    simp only [zX, simprocAttr, zY, bbeq, w1, h7, h8, h9, h10, h12, h13, h19, hw1, l1, l2]
    refine ⟨L.length + 1 - (0 + 1), _, _, by omega, Cln.cut 5 (by omega) rfl ?_ [7, 8, 9, 10, 12, 13, 19] ?_, 0 + 1, m', T', rfl, by omega, hN', ?_, ?_, ?_, ?_, ?_, ?_, ?_, rfl⟩ <;> (try simp only [zU, Nat.reduceBEq, Nat.reduceShiftRight, Nat.reduceMod, Nat.reduceEqDiff, reduceIte])
    ·have := mO_ok (m := m') b a (Y := 2) (Z := 3) (n := 5) (by omega) (by omega) (ren3 (X := 1) (Y := 2) (Z := 3) (n := 5) (by omega) (by omega) (by omega) hN'.1)
     show (objOk 5 (patOb p) && (objOk 5 (mO1 2 3 m' (renV [1, 2, 3] T')) && (objOk 5 (mO2 b a m') && (objOk 5 (mO3 m') && _)))) = true
     rw [this.1, this.2.1, this.2.2]
     rfl
    ·simp [trimE_app, keepE_app, updE, refsV, h7, h8, h9, h10, h12, h13, h19, i64, intsD]
    ·exact h7
    ·exact h8
    ·exact h9
    ·exact h10
    ·exact h12
    ·exact h13
    ·rfl
  ·obtain ⟨j, rfl⟩ : ∃ j, k = j + 1 := ⟨k - 1, by omega⟩
   have hq := List.getElem?_eq_getElem (l := L) (show j < L.length by omega)
   generalize L[j]'(show j < L.length by omega) = q at hq
   obtain ⟨m', T', hN', hc⟩ := step_next hE hL hO hs hst hq hN
   have l0 : ¬ (((j + 1 : Nat) : Int) = 0) := by omega
   have l1 : ((j + 1 : Nat) : Int) ≤ (W.length : Int) := by omega
   have hw1 : IntKind.i64.wrap (((j + 1 : Nat) : Int) + 1) = ((j + 1 : Nat) : Int) + 1 := w64 _ (by omega)
   cases h0 : L[j + 1]? with
   | some r =>
    obtain ⟨n1, n2, n3, n4, _⟩ := outs_nth hv h0i h1i (m := fresh p) rfl hO h0
    have hall1 := hallk (((j + 1 : Nat) : Int) + 1)
    rw [n1, n3] at hall1
    have hWr := hW0 (j + 1) r h0
    have l5 : j + 1 < W.length := by have := (List.getElem?_eq_some_iff.1 h0).1; omega
    have l2 : ((j + 1 : Nat) : Int) < (W.length : Int) := by omega
    have hEq := equal_ok ⟨i, r.1, r.2.1⟩ ⟨i, r.1, r.2.1⟩ (by have := (hL r (List.mem_of_getElem? h0)).2; show r.2.1.length ≤ _; omega)
    simp only [decide_true, Mat.v, i64, bV, iD] at hEq
    have hro : outV (outRes i L mE (j + 1)) = .tu [.ag [i64 i, i64 r.1, .d (capD r.2.1)], bV true, i64 r.2.2.steps, i64 0] := by unfold outRes; rw [h0]; rfl
    rw [hro] at hc
    have hpz : (0 : Int) ≤ ((j + 1 : Nat) : Int) := by omega
    have htn : ((j + 1 : Nat) : Int).toNat = j + 1 := Int.toNat_natCast _
    by_cases l3 : ((j + 1 : Nat) : Int) < 5
    ·simp only [zX, simprocAttr, zY, bbeq, w1, h7, h8, h9, h10, h12, h13, h19, hw1, l0, l1]
     refine call_m (X := 1) (Y := 2) (Z := 3) (r' := .tu [.ag [i64 i, i64 r.1, .d (capD r.2.1)], bV true, i64 r.2.2.steps, i64 0]) (hc b a) hN.1 rfl rfl (by decide) rfl rfl rfl rfl rfl rfl ?_
     simp only [zX, simprocAttr, zY, bbeq, w1, h7, h8, h9, h10, h12, h13, h19, hw1, l1, l2]
     refine draw_c mix [] [] (by rfl) ?_
     simp only [zX, simprocAttr, zY, bbeq, w1, h7, h8, h9, h10, h12, h13, h19, hw1, l1, l2, l5, hpz, htn, hWr]
     refine callC_pure hEq rfl rfl ?_
     simp only [zX, simprocAttr, zY, bbeq, w1, h7, h8, h9, h10, h12, h13, h19, hw1, l1, l2, l3, l5, hWr]
     try simp only [zX, simprocAttr, zY, bbeq, w1, h7, h8, h9, h10, h12, h13, h19, hw1, l3, patOb]
     refine call_pure hall1 rfl rfl ?_
     simp only [zX, simprocAttr, zY, bbeq, w1, h7, h8, h9, h10, h12, h13, h19, hw1]
     refine ⟨L.length + 1 - ((j + 1) + 1), _, _, by omega, Cln.cut 5 (by omega) rfl ?_ [7, 8, 9, 10, 12, 13, 19] ?_, (j + 1) + 1, m', T', rfl, by omega, hN', ?_, ?_, ?_, ?_, ?_, ?_, ?_, rfl⟩ <;> (try simp only [zU, Nat.reduceBEq, Nat.reduceShiftRight, Nat.reduceMod, Nat.reduceEqDiff, reduceIte])
     ·have := mO_ok (m := m') b a (Y := 2) (Z := 3) (n := 5) (by omega) (by omega) (ren3 (X := 1) (Y := 2) (Z := 3) (n := 5) (by omega) (by omega) (by omega) hN'.1)
      show (objOk 5 (patOb p) && (objOk 5 (mO1 2 3 m' (renV [1, 2, 3] T')) && (objOk 5 (mO2 b a m') && (objOk 5 (mO3 m') && _)))) = true
      rw [this.1, this.2.1, this.2.2]
      rfl
     ·simp [trimE_app, keepE_app, updE, refsV, h7, h8, h9, h10, h12, h13, h19, i64, intsD]
     ·exact h7
     ·exact h8
     ·exact h9
     ·exact h10
     ·exact h12
     ·exact h13
     ·rfl
    ·simp only [zX, simprocAttr, zY, bbeq, w1, h7, h8, h9, h10, h12, h13, h19, hw1, l0, l1]
     refine call_m (X := 1) (Y := 2) (Z := 3) (r' := .tu [.ag [i64 i, i64 r.1, .d (capD r.2.1)], bV true, i64 r.2.2.steps, i64 0]) (hc b a) hN.1 rfl rfl (by decide) rfl rfl rfl rfl rfl rfl ?_
     simp only [zX, simprocAttr, zY, bbeq, w1, h7, h8, h9, h10, h12, h13, h19, hw1, l1, l2]
     refine draw_c mix [] [] (by rfl) ?_
     simp only [zX, simprocAttr, zY, bbeq, w1, h7, h8, h9, h10, h12, h13, h19, hw1, l1, l2, l5, hpz, htn, hWr]
     refine callC_pure hEq rfl rfl ?_
     simp only [zX, simprocAttr, zY, bbeq, w1, h7, h8, h9, h10, h12, h13, h19, hw1, l1, l2, l3, l5, hWr]
     refine ⟨L.length + 1 - ((j + 1) + 1), _, _, by omega, Cln.cut 5 (by omega) rfl ?_ [7, 8, 9, 10, 12, 13, 19] ?_, (j + 1) + 1, m', T', rfl, by omega, hN', ?_, ?_, ?_, ?_, ?_, ?_, ?_, rfl⟩ <;> (try simp only [zU, Nat.reduceBEq, Nat.reduceShiftRight, Nat.reduceMod, Nat.reduceEqDiff, reduceIte])
     ·have := mO_ok (m := m') b a (Y := 2) (Z := 3) (n := 5) (by omega) (by omega) (ren3 (X := 1) (Y := 2) (Z := 3) (n := 5) (by omega) (by omega) (by omega) hN'.1)
      show (objOk 5 (patOb p) && (objOk 5 (mO1 2 3 m' (renV [1, 2, 3] T')) && (objOk 5 (mO2 b a m') && (objOk 5 (mO3 m') && _)))) = true
      rw [this.1, this.2.1, this.2.2]
      rfl
     ·simp [trimE_app, keepE_app, updE, refsV, h7, h8, h9, h10, h12, h13, h19, i64, intsD]
     ·exact h7
     ·exact h8
     ·exact h9
     ·exact h10
     ·exact h12
     ·exact h13
     ·rfl
   | none =>
    have l2 : ¬ ((j + 1 : Nat) : Int) < (W.length : Int) := by
     have : L.length ≤ j + 1 := by simpa using h0
     omega
    have hro : outV (outRes i L mE (j + 1)) = .tu [.ag [i64 0, i64 0, .d (.sl [])], bV false, i64 mE.steps, i64 0] := by unfold outRes; rw [h0]; rfl
    rw [hro] at hc
    have hLk : L.length ≤ j + 1 := by simpa using h0
    simp only [zX, simprocAttr, zY, bbeq, w1, h7, h8, h9, h10, h12, h13, h19, hw1, l0, l1]
    refine call_m (X := 1) (Y := 2) (Z := 3) (r' := .tu [.ag [i64 0, i64 0, .d (.sl [])], bV false, i64 mE.steps, i64 0]) (hc b a) hN.1 rfl rfl (by decide) rfl rfl rfl rfl rfl rfl ?_
    simp only [zX, simprocAttr, zY, bbeq, w1, h7, h8, h9, h10, h12, h13, h19, hw1, l1, l2]
    refine draw_c mix [] [] (by rfl) ?_
    simp only [zX, simprocAttr, zY, bbeq, w1, h7, h8, h9, h10, h12, h13, h19, hw1, l1, l2]
    refine ⟨L.length + 1 - ((j + 1) + 1), _, _, by omega, Cln.cut 5 (by omega) rfl ?_ [7, 8, 9, 10, 12, 13, 19] ?_, (j + 1) + 1, m', T', rfl, by omega, hN', ?_, ?_, ?_, ?_, ?_, ?_, ?_, rfl⟩ <;> (try simp only [zU, Nat.reduceBEq, Nat.reduceShiftRight, Nat.reduceMod, Nat.reduceEqDiff, reduceIte])
    ·have := mO_ok (m := m') b a (Y := 2) (Z := 3) (n := 5) (by omega) (by omega) (ren3 (X := 1) (Y := 2) (Z := 3) (n := 5) (by omega) (by omega) (by omega) hN'.1)
     show (objOk 5 (patOb p) && (objOk 5 (mO1 2 3 m' (renV [1, 2, 3] T')) && (objOk 5 (mO2 b a m') && (objOk 5 (mO3 m') && _)))) = true
     rw [this.1, this.2.1, this.2.2]
     rfl
    ·simp [trimE_app, keepE_app, updE, refsV, h7, h8, h9, h10, h12, h13, h19, i64, intsD]
    ·exact h7
    ·exact h8
    ·exact h9
    ·exact h10
    ·exact h12
    ·exact h13
    ·rfl
 ·have hkk : k = L.length + 1 := by omega
  subst hkk
  have hr : m.ready = false := by
   have := hN.2.2
   rw [if_neg (by omega)] at this
   simpa using this
  have c4 := fun b a => mnext_err 0 b a m T hN.1 hr
  have l1 : ¬ (((L.length + 1 : Nat) : Int) ≤ (W.length : Int)) := by omega
  simp only [zX, simprocAttr, zY, bbeq, w1, h7, h8, h9, h10, h12, h13, h19, l1]
  refine call_m (X := 1) (Y := 2) (Z := 3) (r' := .tu [.ag [i64 0, i64 0, .d (.sl [])], bV false, i64 0, i64 20]) (c4 b a) hN.1 rfl rfl (by decide) rfl rfl rfl rfl rfl rfl ?_
  simp only [zX, simprocAttr, zY, bbeq, w1]
  refine call_pure hlv rfl rfl ?_
  simp only [zX, simprocAttr, zY, bbeq, w1]
end Go.Proofs.Ytilapneoohcplaa
