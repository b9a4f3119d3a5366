/- A part of the proof (G58). -/
import Derived.Test.YtilapneoohcplaaBO46
set_option linter.unusedSimpArgs false
set_option linter.unusedVariables false
set_option maxRecDepth 100000
set_option maxHeartbeats 80000000
namespace Go.Proofs.Ytilapneoohcplaa
open Go.VL Go.Proofs.Try
theorem bbeq : (true == true) = true ∧ (false == false) = true ∧ (true == false) = false ∧ (false == true) = false := ⟨rfl, rfl, rfl, rfl⟩
theorem zY : type_of% (And.intro @i64.eq_1 <| And.intro @bV.eq_1 <| And.intro @iD.eq_1 <| And.intro @bD.eq_1 <| And.intro @Mat.v.eq_1 <| And.intro @intsD.eq_1 <| And.intro @killO.eq_1 <| And.intro @killO.eq_2 <| And.intro @List.length_map.{0, 0} <| And.intro @List.set_cons_zero.{0} <| And.intro @List.set_cons_succ.{0} <| And.intro @List.length_cons.{0} <| And.intro @List.length_nil.{0} <| And.intro @List.cons_append.{0} <| And.intro @List.nil_append.{0} <| And.intro @ne_eq.{1} <| And.intro @not_true_eq_false <| And.intro @not_false_eq_true <| And.intro @Bool.not_false <| And.intro @Bool.not_true <| And.intro @gt_iff_lt.{0} @decide_true) := (And.intro @i64.eq_1 <| And.intro @bV.eq_1 <| And.intro @iD.eq_1 <| And.intro @bD.eq_1 <| And.intro @Mat.v.eq_1 <| And.intro @intsD.eq_1 <| And.intro @killO.eq_1 <| And.intro @killO.eq_2 <| And.intro @List.length_map.{0, 0} <| And.intro @List.set_cons_zero.{0} <| And.intro @List.set_cons_succ.{0} <| And.intro @List.length_cons.{0} <| And.intro @List.length_nil.{0} <| And.intro @List.cons_append.{0} <| And.intro @List.nil_append.{0} <| And.intro @ne_eq.{1} <| And.intro @not_true_eq_false <| And.intro @not_false_eq_true <| And.intro @Bool.not_false <| And.intro @Bool.not_true <| And.intro @gt_iff_lt.{0} @decide_true)
structure Rst (p : Pat) (m : Mst) : Prop where
 p : m.p = p
 top : m.top ≤ m.stk.length
theorem kept_T (m : Mst) : refsV 3 m.keptT = true ∧ renV [0, 1, 2] m.keptT = m.keptT := by
 unfold Mst.keptT; split <;> exact ⟨rfl, rfl⟩
theorem run_valid {p : Pat} {t : List Int} {i f : Int} (hv : valid7 p t f = 0) (h0 : 0 ≤ i) (h1 : i ≤ t.length) {m : Mst} (hm : Rst p m) (T : V) (hT : refsV 3 T = true) (hT2 : renV [0, 1, 2] T = T) :
  ∃ (m' : Mst) (T' : V), Rst p m' ∧ refsV 3 T' = true ∧ renV [0, 1, 2] T' = T' ∧ m'.ready = (decide (allE p t i 1 f = 0) && !(allM p t i 1 f).isEmpty) ∧
   ∀ b a : Nat, callWp prog 15 [.pp 0 0 0 0 b a, .d (intsD t), i64 i, i64 f] (m.objsT 0 b a T) fun v s => v = outV (resX p t i f) ∧ s = m'.objsT 0 b a T' := by
 obtain ⟨v1, v2, v3, v4, v5⟩ := valid7_spec hv
 obtain ⟨k1, k2, k3, k4, k5⟩ := validR_spec v1
 obtain ⟨k, m2, r, found, j1, j2, j3, j4, j5, j6⟩ := run_law hv h0 h1 hm.p
 have hk := kept_T (m2.done found)
 refine ⟨(m2.done found).kept, (m2.done found).keptT, ⟨?_, kept_len (m := m2.done found) j3⟩, hk.1, hk.2, ?_, fun b a => ?_⟩
 ·have h1 : m2.p = p := by rw [j2.fr.p]; exact hm.p
  unfold Mst.kept
  split <;> exact h1
 ·rw [← j6]
  unfold Mst.kept
  split <;> rfl
 ·have hck : checkR m.p.runes t i f = 0 := by rw [hm.p]; exact check_valid hv h0 h1
  have := mrun_ok 0 b a m T hT hT2 hm.top t i f (by omega) (sym_i64 hv) hck p.caps.toNat (by rw [hm.p]; omega) (by omega) j1 j4
  rw [j5] at this
  exact this
end Go.Proofs.Ytilapneoohcplaa
