/- For every two slices of integers and every three integers, rexmilllaw14.OracleRuns returns true, and the slices read as before; no condition. -/
import Derived.Test.YtfmdmlfhigocaaaOR55
set_option linter.unusedSimpArgs false
set_option linter.unusedVariables false
namespace Go.Proofs.Ytfmdmlfhigocaaa
open Go.ChangeShapes Go.WideShapes Go.ChangeAt Go.RowKit

theorem U3 : ownKnob Try.prog.godebug = none := by kernel_rfl
theorem BX : laidOutB Try.prog = true := by kernel_rfl
theorem Hv : Try.prog.cellsOf 3 = 1 := by kernel_rfl
theorem uv : Try.prog.underlying 3 = some (.int .i64) := by kernel_rfl
theorem YH : Try.prog.underlying 4 = some .bool := by kernel_rfl
theorem Df : Try.prog.underlying 22 = some (.slice 3) := by kernel_rfl

theorem DT {n : Int} (h : (Lit.int .i64 n).wf = true) : fx n := by simp only [Lit.wf, Bool.and_eq_true, decide_eq_true_eq] at h;exact h

set_option maxHeartbeats 1600000 in
set_option maxRecDepth 100000 in
theorem y8 (os : Os) (started : os.Started) (H : Type) (enc : TypeId × Value -> H) :
    ReturnsInHanded {} Try.checked os 3 .any (Rows.oracleRunsSpec.pre6 enc Try.prog Try.f3 Rows.oracleRunsRow.domain false) (Rows.oracleRunsSpec.post enc Try.prog Try.f3 false true false false) := by
  refine returnsInHanded_of_change (C := Try.checked) U3 started (by kernel_rfl) Try.func3
    (ChangeSpec.witness6 (enc := enc) (C := Try.checked) false ⟨#[], #[.slice none 0 0, .slice none 0 0, .int .i64 0, .int .i64 0, .int .i64 0], []⟩ 8 (by kernel_rfl) (by kernel_rfl) (by kernel_rfl) (by kernel_rfl)) ?_
  intro W base args ds gs before W2 hW afV _;have FL : ∀ (j : Nat) t v, Try.f3.params[j]? = some t -> args[j]? = some v -> Value.okWide Try.prog W .any base t v := W2;have hW' := hW;obtain ⟨p, q, hA0, hV, rfl, hfz, zF⟩ := hW;have hA : DataW.TrodAll enc Try.prog W 0 (λ_ => true) true Try.f3.params.toList args.toList ds p := hA0;rw [Try.params3] at hA FL;obtain ⟨v0, v1, v2, v3, v4, d0, d1, d2, d3, d4, p0, p1, p2, p3, p4, rfl, rfl, rfl, h0, h1, h2, h3, h4⟩ := Go.VL.Qa hA;obtain ⟨rfl, rfl⟩ := trodVars_none hV;obtain ⟨a0, Y2, oB, rfl⟩ := okWide_slice Df (FL 0 22 v0 rfl rfl);obtain ⟨a1, YA, aaK, rfl⟩ := okWide_slice Df (FL 1 22 v1 rfl rfl);obtain ⟨n2, rfl, rfl, rfl, wb2⟩ := open_int uv (FL 2 3 v2 rfl rfl) h2;obtain ⟨n3, rfl, rfl, rfl, wb3⟩ := open_int uv (FL 3 3 v3 rfl rfl) h3;obtain ⟨n4, rfl, rfl, rfl, wb4⟩ := open_int uv (FL 4 3 v4 rfl rfl) h4;clear hA0 W2;have ac7 : ∀ x ∈ p0, x.block < W.heap.size := λx hx => by simpa using hW'.lt x (by simp [hx])
  have Y5 : ∀ W' : World, Below W.heap.size W W' -> DataW.Trod enc Try.prog W' 0 (λb => decide (b < W.heap.size)) true 22 (.slice a0 Y2 oB) d0 p0 :=
    λW' hn => Below.trod BX (by kernel_rfl) (of_decide_eq_true (by kernel_rfl)) h0 hn ac7
  have aex : ∀ x ∈ p1, x.block < W.heap.size := λx hx => by simpa using hW'.lt x (by simp [hx])
  have Yr : ∀ W' : World, Below W.heap.size W W' -> DataW.Trod enc Try.prog W' 0 (λb => decide (b < W.heap.size)) true 22 (.slice a1 YA aaK) d1 p1 :=
    λW' hn => Below.trod BX (by kernel_rfl) (of_decide_eq_true (by kernel_rfl)) h1 hn aex
  obtain ⟨l0, wl0, rl0⟩ := Go.VL.Mz Df uv Hv h0;obtain ⟨l1, wl1, rl1⟩ := Go.VL.Mz Df uv Hv h1;have fin : Calls Try.prog 3 #[.slice a0 Y2 oB, .slice a1 YA aaK, .int .i64 n2, .int .i64 n3, .int .i64 n4] W λe w' => e = .returned (.bool true) /\ Below W.heap.size W w' := by
    refine Go.VL.run_pure (EB l0 (λx hx => DT (wl0 x hx)) l1 (λx hx => DT (wl1 x hx)) n2 n3 n4 (DT wb2) (DT wb3) (DT wb4)) rfl λi x hx => ?_
    match i with
    | 0 => simp at hx; subst hx; exact rl0
    | 1 => simp at hx; subst hx; exact rl1
    | 2 => simp at hx; subst hx; exact Go.VL.H0 _ _
    | 3 => simp at hx; subst hx; exact Go.VL.H0 _ _
    | 4 => simp at hx; subst hx; exact Go.VL.H0 _ _
    | i + 5 => simp at hx
  refine fin.mono λe W' ⟨he, hB⟩ => ?_;subst he;exact ⟨_, rfl, [d0, d1, .lit (.int .i64 n2), .lit (.int .i64 n3), .lit (.int .i64 n4)], [], _, [], p0 ++ (p1 ++ ([] ++ ([] ++ ([])))), [], hW', trodAll_mk1 (shut_bool YH true), trodAll_cons_mk (Y5 W' hB) (trodAll_mk4 (Yr W' hB) (shut_int uv wb2) (shut_int uv wb3) (shut_int uv wb4)), rfl, hB.frame _, λh => by cases h⟩

theorem oracleRuns_holds : Rows.OracleRunsSaid :=
  OpenClaim.holds_of_wide 3 Try.f3 rfl rfl rfl rfl rfl rfl rfl ⟨rfl, rfl, rfl, rfl, rfl⟩ rfl rfl rfl rfl rfl (by kernel_rfl) Try.func3 (by kernel_rfl)
    (of_decide_eq_true (by kernel_rfl)) (by unfold Func.isWrapper; first | (rw [if_pos (by decide +kernel)]; kernel_rfl) | (rw [if_neg (by decide +kernel)]; exact ⟨rfl, rfl⟩))
    (λos started H enc _ => y8 os started H enc)

#print axioms oracleRuns_holds
end Go.Proofs.Ytfmdmlfhigocaaa
