/- For every two slices of integers and every integer, rexmilllaw14.OracleNegates returns true, and the slices read as before; no condition. -/
import Derived.Test.YtfmdmlfhigocaaaON55
set_option linter.unusedSimpArgs false
set_option linter.unusedVariables false
namespace Go.Proofs.Ytfmdmlfhigocaaa
open Go.ChangeShapes Go.WideShapes Go.ChangeAt Go.RowKit

theorem RY : ownKnob Try.prog.godebug = none := by kernel_rfl
theorem zQ : laidOutB Try.prog = true := by kernel_rfl
theorem EW : Try.prog.cellsOf 3 = 1 := by kernel_rfl
theorem FT : Try.prog.underlying 3 = some (.int .i64) := by kernel_rfl
theorem VB : Try.prog.underlying 4 = some .bool := by kernel_rfl
theorem AY : Try.prog.underlying 22 = some (.slice 3) := by kernel_rfl

theorem KD {n : Int} (h : (Lit.int .i64 n).wf = true) : jC n := by simp only [Lit.wf, Bool.and_eq_true, decide_eq_true_eq] at h;exact h

set_option maxHeartbeats 1600000 in
set_option maxRecDepth 100000 in
theorem sM (os : Os) (started : os.Started) (H : Type) (enc : TypeId × Value -> H) :
    ReturnsInHanded {} Try.checked os 5 .any (Rows.oracleNegatesSpec.pre6 enc Try.prog Try.f5 Rows.oracleNegatesRow.domain false) (Rows.oracleNegatesSpec.post enc Try.prog Try.f5 false true false false) := by
  refine returnsInHanded_of_change (C := Try.checked) RY started (by kernel_rfl) Try.func5
    (ChangeSpec.witness6 (enc := enc) (C := Try.checked) false ⟨#[], #[.slice none 0 0, .slice none 0 0, .int .i64 0], []⟩ 8 (by kernel_rfl) (by kernel_rfl) (by kernel_rfl) (by kernel_rfl)) ?_
  intro W base args ds gs before T1 hW acR _;have Ss : ∀ (j : Nat) t v, Try.f5.params[j]? = some t -> args[j]? = some v -> Value.okWide Try.prog W .any base t v := T1;have hW' := hW;obtain ⟨p, q, hA0, hV, rfl, hfz, rR⟩ := hW;have hA : DataW.TrodAll enc Try.prog W 0 (λ_ => true) true Try.f5.params.toList args.toList ds p := hA0;rw [Try.params5] at hA Ss;obtain ⟨v0, v1, v2, d0, d1, d2, p0, p1, p2, rfl, rfl, rfl, h0, h1, h2⟩ := trodAll_three hA;obtain ⟨rfl, rfl⟩ := trodVars_none hV;obtain ⟨a0, VV, sf, rfl⟩ := okWide_slice AY (Ss 0 22 v0 rfl rfl);obtain ⟨a1, Vv, XE, rfl⟩ := okWide_slice AY (Ss 1 22 v1 rfl rfl);obtain ⟨n2, rfl, rfl, rfl, wb2⟩ := open_int FT (Ss 2 3 v2 rfl rfl) h2;clear hA0 T1;have ZU : ∀ x ∈ p0, x.block < W.heap.size := λx hx => by simpa using hW'.lt x (by simp [hx])
  have VY : ∀ W' : World, Below W.heap.size W W' -> DataW.Trod enc Try.prog W' 0 (λb => decide (b < W.heap.size)) true 22 (.slice a0 VV sf) d0 p0 :=
    λW' hn => Below.trod zQ (by kernel_rfl) (of_decide_eq_true (by kernel_rfl)) h0 hn ZU
  have abq : ∀ x ∈ p1, x.block < W.heap.size := λx hx => by simpa using hW'.lt x (by simp [hx])
  have Vm : ∀ W' : World, Below W.heap.size W W' -> DataW.Trod enc Try.prog W' 0 (λb => decide (b < W.heap.size)) true 22 (.slice a1 Vv XE) d1 p1 :=
    λW' hn => Below.trod zQ (by kernel_rfl) (of_decide_eq_true (by kernel_rfl)) h1 hn abq
  obtain ⟨l0, wl0, rl0⟩ := Go.VL.JR AY FT EW h0;obtain ⟨l1, wl1, rl1⟩ := Go.VL.JR AY FT EW h1;have fin : Calls Try.prog 5 #[.slice a0 VV sf, .slice a1 Vv XE, .int .i64 n2] W λe w' => e = .returned (.bool true) /\ Below W.heap.size W w' := by
    refine Go.VL.run_pure (xc l0 (λx hx => KD (wl0 x hx)) l1 (λx hx => KD (wl1 x hx)) n2 (KD wb2)) rfl λi x hx => ?_
    match i with
    | 0 => simp at hx; subst hx; exact rl0
    | 1 => simp at hx; subst hx; exact rl1
    | 2 => simp at hx; subst hx; exact Go.VL.RV _ _
    | i + 3 => simp at hx
  refine fin.mono λe W' ⟨he, hB⟩ => ?_;subst he;exact ⟨_, rfl, [d0, d1, .lit (.int .i64 n2)], [], _, [], p0 ++ (p1 ++ ([])), [], hW', trodAll_mk1 (shut_bool VB true), trodAll_mk3 (VY W' hB) (Vm W' hB) (shut_int FT wb2), rfl, hB.frame _, λh => by cases h⟩

theorem oracleNegates_holds : Rows.OracleNegatesSaid :=
  OpenClaim.holds_of_wide 5 Try.f5 rfl rfl rfl rfl rfl rfl rfl ⟨rfl, rfl, rfl, rfl, rfl⟩ rfl rfl rfl rfl rfl (by kernel_rfl) Try.func5 (by kernel_rfl)
    (of_decide_eq_true (by kernel_rfl)) (by unfold Func.isWrapper; first | (rw [if_pos (by decide +kernel)]; kernel_rfl) | (rw [if_neg (by decide +kernel)]; exact ⟨rfl, rfl⟩))
    (λos started H enc _ => sM os started H enc)

#print axioms oracleNegates_holds
end Go.Proofs.Ytfmdmlfhigocaaa
