/- A part of the proof (G61). -/
import Derived.Test.YtilapneoohcplaaBO47
import Derived.Test.YtilapneoohcplaaBO48
set_option linter.unusedSimpArgs false
set_option linter.unusedVariables false
set_option maxRecDepth 100000
set_option maxHeartbeats 80000000
namespace Go.Proofs.Ytilapneoohcplaa
open Go.VL Go.Proofs.Try
theorem check_all {p : Pat} (hv : validR p = 0) (t : List Int) (i f : Int) : (checkR p.runes t i f = 0 ∧ valid7 p t f = 0 ∧ 0 ≤ i ∧ i ≤ t.length) ∨ (checkR p.runes t i f ≠ 0 ∧ ∀ most, allE p t i most f = checkR p.runes t i f) := by
 unfold checkR allE valid7
 rw [if_neg (show ¬ validR p ≠ 0 by rw [hv]; simp)]
 by_cases c1 : 65536 < t.length
 ·rw [if_pos c1, if_pos c1]
  exact .inr ⟨by decide, fun most => by rw [if_pos (by decide)]⟩
 rw [if_neg c1, if_neg c1]
 by_cases c2 : t.all (symB p.runes) = false
 ·rw [if_pos c2, if_pos c2]
  exact .inr ⟨by decide, fun most => by rw [if_pos (by decide)]⟩
 rw [if_neg c2, if_neg c2]
 by_cases c3 : f < 0 ∨ 1099511627776 < f
 ·rw [if_pos c3, if_pos c3]
  exact .inr ⟨by decide, fun most => by rw [if_pos (by decide)]⟩
 rw [if_neg c3, if_neg c3]
 by_cases c4 : i < 0 ∨ (t.length : Int) < i
 ·rw [if_pos c4]
  exact .inr ⟨by decide, fun most => by rw [if_neg (by decide), if_pos c4]⟩
 ·rw [if_neg c4]
  exact .inl ⟨rfl, rfl, by omega, by omega⟩
theorem run_any {p : Pat} (hv : validR p = 0) {t : List Int} (ht : t.length ≤ 1000000) (hI : ∀ x ∈ t, I64 x) (i f : Int) {m : Mst} (hm : Rst p m) (T : V) (hT : refsV 3 T = true) (hT2 : renV [0, 1, 2] T = T) :
  ∃ (m' : Mst) (T' : V), Rst p m' ∧ refsV 3 T' = true ∧ renV [0, 1, 2] T' = T' ∧ m'.ready = (decide (allE p t i 1 f = 0) && !(allM p t i 1 f).isEmpty) ∧ m.deepest ≤ m'.deepest ∧ m'.deepest ≤ max m.deepest (max 0 f) ∧ (allE p t i 1 f = 0 → m'.deepest ≤ max m.deepest (allN p t i 1 f)) ∧
   ∀ b a : Nat, callWp prog 15 [.pp 0 0 0 0 b a, .d (intsD t), i64 i, i64 f] (m.objsT 0 b a T) fun v s => v = outV (resX p t i f) ∧ s = m'.objsT 0 b a T' := by
 rcases check_all hv t i f with ⟨hck, hv7, h0, h1⟩ | ⟨hck, hE⟩
 ·obtain ⟨v1, v2, v3, v4, v5⟩ := valid7_spec hv7
  obtain ⟨k1, k2, k3, k4, k5⟩ := validR_spec v1
  obtain ⟨k, m2, r, found, j1, j2, j3, j4, j5, j6⟩ := run_law hv7 h0 h1 hm.p
  have hk := kept_T (m2.done found)
  have hfu : m2.fuel = f := j2.fr.fuel
  have hlim : m2.steps ≤ f := by have := j2.lim (by show (0 : Int) ≤ f; omega); rw [hfu] at this; exact this
  have hd : (m2.done found).kept.deepest = m2.deepest := by unfold Mst.kept; split <;> rfl
  have hd0 : m.deepest ≤ m2.deepest := j2.deep0
  have hd1 : m2.deepest ≤ max m.deepest m2.steps := j2.deep1
  refine ⟨(m2.done found).kept, (m2.done found).keptT, ⟨?_, kept_len (m := m2.done found) j3⟩, hk.1, hk.2, ?_, by rw [hd]; exact hd0, by rw [hd]; omega, fun hE => ?_, fun b a => ?_⟩
  ·have h1 : m2.p = p := by rw [j2.fr.p]; exact hm.p
   unfold Mst.kept
   split <;> exact h1
  ·rw [← j6]
   unfold Mst.kept
   split <;> rfl
  ·rw [hd]
   have hst : m2.steps = allN p t i 1 f := by
    unfold Mst.res resX at j5
    rw [if_neg (show ¬ allE p t i 1 f ≠ 0 from by rw [hE]; simp)] at j5
    cases hM : allM p t i 1 f with
    | nil =>
     rw [hM] at j5
     simp only at j5
     split at j5
     ·simp [i64] at j5
     ·split at j5
      ·simp [bV] at j5
      ·simp [i64] at j5; omega
    | cons e l =>
     rw [hM] at j5
     obtain ⟨e1, e2⟩ := e
     simp only at j5
     split at j5
     ·simp [i64] at j5
     ·split at j5
      ·simp [i64] at j5; omega
      ·simp [bV] at j5
   rw [hst] at hd1
   exact hd1
  ·have hck : checkR m.p.runes t i f = 0 := by rw [hm.p]; exact hck
   have := mrun_ok 0 b a m T hT hT2 hm.top t i f ht hI hck p.caps.toNat (by rw [hm.p]; omega) (by omega) j1 j4
   rw [j5] at this
   exact this
 ·refine ⟨m.rest, T, ⟨hm.p, Nat.zero_le _⟩, hT, hT2, ?_, Int.le_refl _, by show m.deepest ≤ _; omega, fun h => ?_, fun b a => ?_⟩
  ·rw [hE 1, decide_eq_false hck]; rfl
  ·rw [hE 1] at h; exact absurd h hck
  ·have hck' : checkR m.p.runes t i f ≠ 0 := by rw [hm.p]; exact hck
   have := mrun_err 0 b a m T hT hT2 hm.top t i f (by omega) hI hck'
   have hres : resX p t i f = [i64 0, i64 0, .d (.sl []), bV false, i64 0, i64 (checkR m.p.runes t i f)] := by
    unfold resX
    rw [hE 1, if_pos hck, hm.p]
   rw [hres]
   exact this
end Go.Proofs.Ytilapneoohcplaa
