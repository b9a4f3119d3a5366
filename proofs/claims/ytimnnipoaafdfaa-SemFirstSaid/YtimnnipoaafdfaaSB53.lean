/- A part of the proof (S49). -/
import Derived.Test.YtimnnipoaafdfaaSB52
set_option linter.unusedSimpArgs false
set_option linter.unusedVariables false
set_option maxRecDepth 100000
set_option maxHeartbeats 80000000
namespace Go.Proofs.Ytimnnipoaafdfaa
open Go.VL Go.Proofs.Try
theorem small_bound {p : Pat} {t : List Int} (hgood : ∀ i : Int, 0 ≤ i → i ≤ t.length → allE p t i (-1) 6000 = 0) {F : Int} (hv : valid7 p t F = 0) (i f : Int) (h0 : 0 ≤ i) (h1 : i ≤ t.length) (f0 : 0 ≤ f) (f1 : f ≤ F) : (searchX p t i 1 f).2.steps ≤ 7000 := by
 obtain ⟨_, _, _, v4, v5⟩ := valid7_spec hv
 have hv' := valid7_fuel (f' := f) hv f0 (by omega)
 by_cases hf : f ≤ 6500
 ·obtain ⟨_, _, e2⟩ := search_ends (most := 1) hv' h0 h1
  have := e2.s1
  omega
 ·have hg := hgood i h0 h1
  have hle := steps_le hg
  obtain ⟨g1, _, g3, g4⟩ := fuel_same (f' := f) hg (by omega) (by omega)
  obtain ⟨q1, _, q3⟩ := prefix_law (n := 1) (Nat.le_refl _) g1
  have hN2 : allN p t i 1 f = (searchX p t i 1 f).2.steps := by
   have q1 : allE p t i 1 f = 0 := q1
   unfold allN; rw [if_pos q1]
  have q3 : allN p t i 1 f ≤ allN p t i (-1) f := q3
  omega
theorem allM_caps {p : Pat} {t : List Int} {i n f : Int} : ∀ x ∈ allM p t i n f, x.2.length ≤ 1000000000 := by
 intro x hx
 exact mats_caps (i := i) ⟨i, x.1, x.2⟩ (List.mem_map.2 ⟨x, hx, rfl⟩)
theorem firstF_caps {p : Pat} {t : List Int} {F : Int} : ∀ (n : Nat) (i s : Int) (x : Int × Int × CapsL), (firstF p t F n i s).1 = some x → x.2.2.length ≤ 1000000000
 | 0, _, _, _, h => by simp [firstF] at h
 | n + 1, i, s, x, h => by
  simp only [firstF] at h
  split at h
  ·simp at h
  ·cases hM : allM p t i 1 (F - s) with
   | nil => rw [hM] at h; exact firstF_caps n _ _ x h
   | cons y l =>
    rw [hM] at h
    simp only [Option.some.injEq] at h
    subst h
    exact allM_caps (p := p) (t := t) (i := i) (n := 1) (f := F - s) y (by rw [hM]; simp)
theorem firstX_shape (p : Pat) (t : List Int) (x f : Int) : ∃ (M : Mat) (fd : Bool) (n e : Int), firstV (firstX p t x f) = .tu [M.v, bV fd, i64 n, i64 e] ∧ M.c.length ≤ 1000000000 := by
 have key : ∀ r : Option (Int × Int × CapsL) × Int × Int, (∀ x, r.1 = some x → x.2.2.length ≤ 1000000000) → ∃ (M : Mat) (fd : Bool) (n e : Int), firstV r = .tu [M.v, bV fd, i64 n, i64 e] ∧ M.c.length ≤ 1000000000 := by
  rintro ⟨o, n, e⟩ h
  cases o with
  | none => exact ⟨⟨0, 0, []⟩, false, n, e, rfl, by simp⟩
  | some y => exact ⟨⟨y.1, y.2.1, y.2.2⟩, true, n, e, rfl, h y rfl⟩
 refine key _ fun y hy => ?_
 unfold firstX at hy
 split at hy
 ·simp at hy
 ·split at hy
  ·simp at hy
  ·exact firstF_caps _ _ _ y hy
theorem everyF_caps {p : Pat} {t : List Int} {F : Int} (hB : ∀ i f : Int, 0 ≤ i → i ≤ t.length → 0 ≤ f → f ≤ F → (searchX p t i 1 f).2.steps ≤ 7000) : ∀ (n : Nat) (i s : Int) (L : List Mat), i + n ≤ t.length + 1 → 0 ≤ i → 0 ≤ s → s ≤ F → everyF p t F n i s = some L → L.length ≤ 7001 * n ∧ ∀ m ∈ L, m.c.length ≤ 1000000000
 | 0, _, _, L, _, _, _, _, h => by
  simp only [everyF, Option.some.injEq] at h
  subst h
  exact ⟨by simp, by simp⟩
 | n + 1, i, s, L, hn, h0, s0, s1, h => by
  simp only [everyF] at h
  split at h
  ·cases h
  ·rename_i hE
   have hE : allE p t i 1 (F - s) = 0 := Classical.not_not.1 hE
   have hst := steps_le hE
   have hml := allM_len hE
   have hbd := hB i (F - s) h0 (by omega) (by omega) (by omega)
   have hN : allN p t i 1 (F - s) = (searchX p t i 1 (F - s)).2.steps := by unfold allN; rw [if_pos hE]
   cases hx : everyF p t F n (i + 1) (s + allN p t i 1 (F - s)) with
   | none => rw [hx] at h; cases h
   | some L2 =>
    rw [hx] at h
    simp only [Option.map_some, Option.some.injEq] at h
    subst h
    obtain ⟨k1, k2⟩ := everyF_caps hB n _ _ L2 (by omega) (by omega) (by omega) (by omega) hx
    refine ⟨?_, fun m hm => ?_⟩
    ·rw [List.length_append]
     have : (matsL i (allM p t i 1 (F - s))).length = (allM p t i 1 (F - s)).length := by unfold matsL; rw [List.length_map]
     omega
    ·rcases List.mem_append.1 hm with hm | hm
     ·exact mats_caps m hm
     ·exact k2 m hm
theorem everyX_shape {p : Pat} {t : List Int} (ht : t.length ≤ 1000) (f : Int) (hB : valid7 p t f = 0 → ∀ i f' : Int, 0 ≤ i → i ≤ t.length → 0 ≤ f' → f' ≤ f → (searchX p t i 1 f').2.steps ≤ 7000) : (everyX p t f).1.length ≤ 1000000000 ∧ ∀ m ∈ (everyX p t f).1, m.c.length ≤ 1000000000 := by
 unfold everyX
 split
 ·exact ⟨by simp, by simp⟩
 ·rename_i hv
  have hv : valid7 p t f = 0 := Classical.not_not.1 hv
  obtain ⟨_, _, _, v4, v5⟩ := valid7_spec hv
  cases hx : everyF p t f (t.length + 1) 0 0 with
  | none => exact ⟨by simp, by simp⟩
  | some L =>
   obtain ⟨h1, h2⟩ := everyF_caps (hB hv) _ _ _ L (by omega) (by omega) (Int.le_refl _) v4 hx
   exact ⟨by show L.length ≤ _; omega, h2⟩
theorem first_data {p : Pat} {t : List Int} (hf : p.re.fine = true) (hs : p.re.size ≤ 1000000000) (ht : t.length ≤ 12) (hgood : ∀ i : Int, 0 ≤ i → i ≤ t.length → allE p t i (-1) 6000 = 0) (x f : Int) :
  ∃ (M : Mat) (fd : Bool) (n e : Int), PureOK prog 20 [patV p, .d (intsD t), i64 x, i64 f] (.tu [M.v, bV fd, i64 n, i64 e]) ∧ PureOK prog 21 [patV p, .d (intsD t), i64 x, i64 f] (.tu [M.v, bV fd, i64 n, i64 e]) ∧ PureOK prog 22 [M.v, M.v] (bV true) := by
 obtain ⟨M, fd, n, e, h1, h2⟩ := firstX_shape p t x f
 have k1 := semFirst_ok p t x f hf (by omega) (fun hv => small_bound hgood hv)
 have k2 := refFirst_ok p t x f hf hs (by omega)
 have k3 := equal_ok M M h2
 rw [h1] at k1 k2
 simp only [decide_true] at k3
 exact ⟨M, fd, n, e, k1, k2, k3⟩
theorem every_data {p : Pat} {t : List Int} (hf : p.re.fine = true) (hs : p.re.size ≤ 1000000000) (ht : t.length ≤ 12) (hgood : ∀ i : Int, 0 ≤ i → i ≤ t.length → allE p t i (-1) 6000 = 0) (f : Int) :
  ∃ (L : List Mat) (e : Int), PureOK prog 23 [patV p, .d (intsD t), i64 f] (.tu [.d (.sl (L.map matD)), i64 e]) ∧ PureOK prog 24 [patV p, .d (intsD t), i64 f] (.tu [.d (.sl (L.map matD)), i64 e]) ∧
   PureOK prog 14 [.d (.sl (L.map matD)), .d (.sl (L.map matD))] (bV true) := by
 have hB := fun hv : valid7 p t f = 0 => small_bound hgood hv
 obtain ⟨h1, h2⟩ := everyX_shape (p := p) (by omega) f hB
 exact ⟨_, _, semEvery_ok p t f hf (by omega) hB, refEvery_ok p t f hf hs (by omega), equals_refl _ h1 h2⟩
end Go.Proofs.Ytimnnipoaafdfaa
