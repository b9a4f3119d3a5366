/- A part of the proof (S43). -/
import Derived.Test.YtimnnipoaafdfaaSC47
set_option linter.unusedSimpArgs false
set_option linter.unusedVariables false
set_option maxRecDepth 100000
set_option maxHeartbeats 80000000
namespace Go.Proofs.Ytimnnipoaafdfaa
open Go.VL Go.Proofs.Try
def matsL (i : Int) (L : List (Int × CapsL)) : List Mat := L.map fun x => ⟨i, x.1, x.2⟩
theorem matsL_D (i : Int) (L : List (Int × CapsL)) : L.map (matchD i) = (matsL i L).map matD := by unfold matsL; rw [List.map_map]; rfl
theorem allM_len {p : Pat} {t : List Int} {i n f : Int} (h : allE p t i n f = 0) : ((allM p t i n f).length : Int) ≤ allN p t i n f + 1 ∧ (allM p t i n f).length = (searchX p t i n f).2.ends.length := by
 have h1 := ends_le h
 have h2 := searchX_caps h
 unfold allM
 rw [if_pos h, List.length_zip, h2]
 simp only [Nat.min_self]
 exact ⟨h1, trivial⟩
theorem semAll_fit {p : Pat} {t : List Int} (hf : p.re.fine = true) (ht : t.length ≤ 12) {F0 : Int} (hF0 : F0 ≤ 50000000) (hgood : ∀ i : Int, 0 ≤ i → i ≤ t.length → allE p t i (-1) F0 = 0) (x f : Int) {n : Nat} (hn : 1 ≤ n) :
  PureOK prog 12 [patV p, .d (intsD t), i64 x, i64 (n : Nat), i64 f] (.tu [.d (.sl ((matsL x (allM p t x n f)).map matD)), i64 (allN p t x n f), i64 (allE p t x n f)]) := by
 have h := semAll_ok p t x n f hf (by omega) (by omega) (fun hv h0 h1 => (steps_bound hF0 hgood h0 h1 hv).2 n hn)
 rw [matsL_D] at h
 exact h
end Go.Proofs.Ytimnnipoaafdfaa
