/- For every two slices of integers rexmilllaw14.OracleAgrees returns true, and the slices read as before; no condition. -/
import Derived.Test.YtjjfioalgbecmaaGreatOA29
import Derived.Test.YtjjfioalgbecmaaGreatOA30
set_option linter.unusedSimpArgs false
set_option linter.unusedVariables false
namespace Go.Proofs.YtjjfioalgbecmaaGreat
open Go.ChangeShapes Go.WideShapes Go.ChangeAt Go.RowKit

theorem Wb : ownKnob Tryz.prog.godebug = none := by kernel_rfl
theorem B7 : laidOutB Tryz.prog = true := by kernel_rfl
theorem HZ : Tryz.prog.cellsOf 3 = 1 := by kernel_rfl
theorem TB : Tryz.prog.underlying 3 = some (.int .i64) := by kernel_rfl
theorem aaB : Tryz.prog.underlying 4 = some .bool := by kernel_rfl
theorem Di : Tryz.prog.underlying 22 = some (.slice 3) := by kernel_rfl

theorem Tp {n : Int} (h : (Lit.int .i64 n).wf = true) : jD n := by simp only [Lit.wf, Bool.and_eq_true, decide_eq_true_eq] at h;exact h

set_option maxHeartbeats 1600000 in
set_option maxRecDepth 100000 in
theorem xf (os : Os) (started : os.Started) (H : Type) (enc : TypeId × Value -> H) :
    ReturnsInHanded {} Tryz.checked os 3 .any (Rows.oracleAgreesSpec.pre6 enc Tryz.prog Tryz.f3 Rows.oracleAgreesRow.domain false) (Rows.oracleAgreesSpec.post enc Tryz.prog Tryz.f3 false true false false) := by
  refine returnsInHanded_of_change (C := Tryz.checked) Wb started (by kernel_rfl) Tryz.func3
    (ChangeSpec.witness6 (enc := enc) (C := Tryz.checked) false ⟨#[], #[.slice none 0 0, .slice none 0 0], []⟩ 8 (by kernel_rfl) (by kernel_rfl) (by kernel_rfl) (by kernel_rfl)) ?_
  intro W base args ds gs before Yy hW ain _;have Tt : ∀ (j : Nat) t v, Tryz.f3.params[j]? = some t -> args[j]? = some v -> Value.okWide Tryz.prog W .any base t v := Yy;have hW' := hW;obtain ⟨p, q, hA0, hV, rfl, hfz, yl⟩ := hW;have hA : DataW.TrodAll enc Tryz.prog W 0 (λ_ => true) true Tryz.f3.params.toList args.toList ds p := hA0;rw [Tryz.params3] at hA Tt;obtain ⟨v0, v1, d0, d1, p0, p1, rfl, rfl, rfl, h0, h1⟩ := trodAll_two hA;obtain ⟨rfl, rfl⟩ := trodVars_none hV;obtain ⟨a0, aaZ, nR, rfl⟩ := okWide_slice Di (Tt 0 22 v0 rfl rfl);obtain ⟨a1, aar, acT, rfl⟩ := okWide_slice Di (Tt 1 22 v1 rfl rfl);clear hA0 Yy;have afn : ∀ x ∈ p0, x.block < W.heap.size := λx hx => by simpa using hW'.lt x (by simp [hx])
  have aa2 : ∀ W' : World, Below W.heap.size W W' -> DataW.Trod enc Tryz.prog W' 0 (λb => decide (b < W.heap.size)) true 22 (.slice a0 aaZ nR) d0 p0 :=
    λW' hn => Below.trod B7 (by kernel_rfl) (of_decide_eq_true (by kernel_rfl)) h0 hn afn
  have agU : ∀ x ∈ p1, x.block < W.heap.size := λx hx => by simpa using hW'.lt x (by simp [hx])
  have aah : ∀ W' : World, Below W.heap.size W W' -> DataW.Trod enc Tryz.prog W' 0 (λb => decide (b < W.heap.size)) true 22 (.slice a1 aar acT) d1 p1 :=
    λW' hn => Below.trod B7 (by kernel_rfl) (of_decide_eq_true (by kernel_rfl)) h1 hn agU
  obtain ⟨l0, wl0, rl0⟩ := Go.VL.M0 Di TB HZ h0;obtain ⟨l1, wl1, rl1⟩ := Go.VL.M0 Di TB HZ h1;have fin : Calls Tryz.prog 3 #[.slice a0 aaZ nR, .slice a1 aar acT] W λe w' => e = .returned (.bool true) /\ Below W.heap.size W w' := by
    refine Go.VL.run_pure (Av l0 (λx hx => Tp (wl0 x hx)) l1 (λx hx => Tp (wl1 x hx))  ) rfl λi x hx => ?_
    match i with
    | 0 => simp at hx; subst hx; exact rl0
    | 1 => simp at hx; subst hx; exact rl1
    | i + 2 => simp at hx
  refine fin.mono λe W' ⟨he, hB⟩ => ?_;subst he;exact ⟨_, rfl, [d0, d1], [], _, [], p0 ++ (p1), [], hW', trodAll_mk1 (shut_bool aaB true), trodAll_mk2 (aa2 W' hB) (aah W' hB), rfl, hB.frame _, λh => by cases h⟩

theorem oracleAgrees_holds : Rows.OracleAgreesSaid :=
  OpenClaim.holds_of_wide 3 Tryz.f3 rfl rfl rfl rfl rfl rfl rfl ⟨rfl, rfl, rfl, rfl, rfl⟩ rfl rfl rfl rfl rfl (by kernel_rfl) Tryz.func3 (by kernel_rfl)
    (of_decide_eq_true (by kernel_rfl)) (by unfold Func.isWrapper; first | (rw [if_pos (by decide +kernel)]; kernel_rfl) | (rw [if_neg (by decide +kernel)]; exact ⟨rfl, rfl⟩))
    (λos started H enc _ => xf os started H enc)

#print axioms oracleAgrees_holds
end Go.Proofs.YtjjfioalgbecmaaGreat
