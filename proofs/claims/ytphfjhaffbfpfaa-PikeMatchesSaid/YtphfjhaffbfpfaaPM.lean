/- For every two slices of integers, rexmilllaw11.PikeMatches returns true, and the slices read as before; no condition. -/
import Derived.Test.YtphfjhaffbfpfaaPM2
import Derived.Test.YtphfjhaffbfpfaaPM53
set_option linter.all false
namespace Go.Proofs.Ytphfjhaffbfpfaa
open Go.ChangeShapes Go.WideShapes Go.ChangeAt Go.RowKit

theorem Ro : ownKnob Try.prog.godebug = none := by kernel_rfl
theorem xz : laidOutB Try.prog = true := by kernel_rfl
theorem BR : Try.prog.cellsOf 3 = 1 := by kernel_rfl
theorem Pc : Try.prog.underlying 3 = some (.int .i64) := by kernel_rfl
theorem Ul : Try.prog.underlying 4 = some .bool := by kernel_rfl
theorem yJ : Try.prog.underlying 22 = some (.slice 3) := by kernel_rfl

theorem M0 {n : Int} (h : (Lit.int .i64 n).wf = true) : kg n := by simp only [Lit.wf, Bool.and_eq_true, decide_eq_true_eq] at h;exact h

set_option maxHeartbeats 1600000 in
set_option maxRecDepth 100000 in
theorem tN (os : Os) (started : os.Started) (H : Type) (enc : TypeId × Value -> H) :
    ReturnsInHanded {} Try.checked os 3 .any (Rows.pikeMatchesSpec.pre6 enc Try.prog Try.f3 Rows.pikeMatchesRow.domain false) (Rows.pikeMatchesSpec.post enc Try.prog Try.f3 false true false false) := by
  refine returnsInHanded_of_change (C := Try.checked) Ro started (by kernel_rfl) Try.func3
    (ChangeSpec.witness6 (enc := enc) (C := Try.checked) false ⟨#[], #[.slice none 0 0, .slice none 0 0], []⟩ 8 (by kernel_rfl) (by kernel_rfl) (by kernel_rfl) (by kernel_rfl)) ?_
  intro W base args ds gs before Sn hW acd _;have Uw : ∀ (j : Nat) t v, Try.f3.params[j]? = some t -> args[j]? = some v -> Value.okWide Try.prog W .any base t v := Sn;have Yi := hW;obtain ⟨p, q, Z1, hV, rfl, RD, hnd⟩ := hW;have hA : DataW.TrodAll enc Try.prog W 0 (λ_ => true) true Try.f3.params.toList args.toList ds p := Z1;rw [Try.params3] at hA Uw;obtain ⟨v0, v1, d0, d1, p0, p1, rfl, rfl, rfl, h0, h1⟩ := trodAll_two hA;obtain ⟨rfl, rfl⟩ := trodVars_none hV;obtain ⟨a0, IQ, lD, rfl⟩ := okWide_slice yJ (Uw 0 22 v0 rfl rfl);obtain ⟨a1, CI, Wl, rfl⟩ := okWide_slice yJ (Uw 1 22 v1 rfl rfl);clear Z1 Sn;have Zz : ∀ x ∈ p0, x.block < W.heap.size := λx hx => by simpa using Yi.lt x (by simp [hx])
  have UE : ∀ W' : World, Below W.heap.size W W' -> DataW.Trod enc Try.prog W' 0 (λb => decide (b < W.heap.size)) true 22 (.slice a0 IQ lD) d0 p0 :=
    λW' hn => Below.trod xz (by kernel_rfl) (of_decide_eq_true (by kernel_rfl)) h0 hn Zz
  have YK : ∀ x ∈ p1, x.block < W.heap.size := λx hx => by simpa using Yi.lt x (by simp [hx])
  have Uh : ∀ W' : World, Below W.heap.size W W' -> DataW.Trod enc Try.prog W' 0 (λb => decide (b < W.heap.size)) true 22 (.slice a1 CI Wl) d1 p1 :=
    λW' hn => Below.trod xz (by kernel_rfl) (of_decide_eq_true (by kernel_rfl)) h1 hn YK
  obtain ⟨l0, wl0, rl0⟩ := Go.VL.Hc yJ Pc BR h0;obtain ⟨l1, wl1, rl1⟩ := Go.VL.Hc yJ Pc BR h1;have fin : Calls Try.prog 3 #[.slice a0 IQ lD, .slice a1 CI Wl] W λe w' => e = .returned (.bool true) /\ Below W.heap.size W w' := by
    refine Go.VL.run_pure (yb l0 (λx hx => M0 (wl0 x hx)) l1 (λx hx => M0 (wl1 x hx))  ) rfl λi x hx => ?_
    match i with
    | 0 => simp at hx; subst hx; exact rl0
    | 1 => simp at hx; subst hx; exact rl1
    | i + 2 => simp at hx
  refine fin.mono λe W' ⟨he, hB⟩ => ?_;subst he;exact ⟨_, rfl, [d0, d1], [], _, [], p0 ++ (p1), [], Yi, trodAll_mk1 (shut_bool Ul true), trodAll_mk2 (UE W' hB) (Uh W' hB), rfl, hB.frame _, λh => by cases h⟩

theorem pikeMatches_holds : Rows.PikeMatchesSaid :=
  OpenClaim.holds_of_wide 3 Try.f3 rfl rfl rfl rfl rfl rfl rfl ⟨rfl, rfl, rfl, rfl, rfl⟩ rfl rfl rfl rfl rfl (by kernel_rfl) Try.func3 (by kernel_rfl)
    (of_decide_eq_true (by kernel_rfl)) (by unfold Func.isWrapper; first | (rw [if_pos (by decide +kernel)]; kernel_rfl) | (rw [if_neg (by decide +kernel)]; exact ⟨rfl, rfl⟩))
    (λos started H enc _ => tN os started H enc)

#print axioms pikeMatches_holds
end Go.Proofs.Ytphfjhaffbfpfaa
