/- For every two slices of integers and every integer rexmilllaw14.OracleKept returns true, and the slices read as before; no condition. -/
import Derived.Test.YtjjfioalgbecmaaGreatOQ54
import Derived.Test.YtjjfioalgbecmaaGreatOQ55
set_option linter.unusedSimpArgs false
set_option linter.unusedVariables false
namespace Go.Proofs.YtjjfioalgbecmaaGreat
open Go.ChangeShapes Go.WideShapes Go.ChangeAt Go.RowKit

theorem Hu : ownKnob Tryz.prog.godebug = none := by kernel_rfl
theorem mT : laidOutB Tryz.prog = true := by kernel_rfl
theorem qD : Tryz.prog.cellsOf 3 = 1 := by kernel_rfl
theorem wC : Tryz.prog.underlying 3 = some (.int .i64) := by kernel_rfl
theorem Ns : Tryz.prog.underlying 4 = some .bool := by kernel_rfl
theorem nK : Tryz.prog.underlying 22 = some (.slice 3) := by kernel_rfl

theorem zm {n : Int} (h : (Lit.int .i64 n).wf = true) : l9 n := by simp only [Lit.wf, Bool.and_eq_true, decide_eq_true_eq] at h;exact h

set_option maxHeartbeats 1600000 in
set_option maxRecDepth 100000 in
theorem xX (os : Os) (started : os.Started) (H : Type) (enc : TypeId × Value -> H) :
    ReturnsInHanded {} Tryz.checked os 5 .any (Rows.oracleKeptSpec.pre6 enc Tryz.prog Tryz.f5 Rows.oracleKeptRow.domain false) (Rows.oracleKeptSpec.post enc Tryz.prog Tryz.f5 false true false false) := by
  refine returnsInHanded_of_change (C := Tryz.checked) Hu started (by kernel_rfl) Tryz.func5
    (ChangeSpec.witness6 (enc := enc) (C := Tryz.checked) false ⟨#[], #[.slice none 0 0, .slice none 0 0, .int .i64 0], []⟩ 8 (by kernel_rfl) (by kernel_rfl) (by kernel_rfl) (by kernel_rfl)) ?_
  intro W base args ds gs before KF hW adj _;have JH : ∀ (j : Nat) t v, Tryz.f5.params[j]? = some t -> args[j]? = some v -> Value.okWide Tryz.prog W .any base t v := KF;have Y8 := hW;obtain ⟨p, q, Z8, hV, rfl, hfz, hnd⟩ := hW;have hA : DataW.TrodAll enc Tryz.prog W 0 (λ_ => true) true Tryz.f5.params.toList args.toList ds p := Z8;rw [Tryz.params5] at hA JH;obtain ⟨v0, v1, v2, d0, d1, d2, p0, p1, p2, rfl, rfl, rfl, h0, h1, h2⟩ := trodAll_three hA;obtain ⟨rfl, rfl⟩ := trodVars_none hV;obtain ⟨a0, BA, qj, rfl⟩ := okWide_slice nK (JH 0 22 v0 rfl rfl);obtain ⟨a1, Du, Tc, rfl⟩ := okWide_slice nK (JH 1 22 v1 rfl rfl);obtain ⟨n2, rfl, rfl, rfl, wb2⟩ := open_int wC (JH 2 3 v2 rfl rfl) h2;clear Z8 KF;have Yi : ∀ x ∈ p0, x.block < W.heap.size := λx hx => by simpa using Y8.lt x (by simp [hx])
  have NG : ∀ W' : World, Below W.heap.size W W' -> DataW.Trod enc Tryz.prog W' 0 (λb => decide (b < W.heap.size)) true 22 (.slice a0 BA qj) d0 p0 :=
    λW' hn => Below.trod mT (by kernel_rfl) (of_decide_eq_true (by kernel_rfl)) h0 hn Yi
  have Zu : ∀ x ∈ p1, x.block < W.heap.size := λx hx => by simpa using Y8.lt x (by simp [hx])
  have M7 : ∀ W' : World, Below W.heap.size W W' -> DataW.Trod enc Tryz.prog W' 0 (λb => decide (b < W.heap.size)) true 22 (.slice a1 Du Tc) d1 p1 :=
    λW' hn => Below.trod mT (by kernel_rfl) (of_decide_eq_true (by kernel_rfl)) h1 hn Zu
  obtain ⟨l0, wl0, rl0⟩ := Go.VL.yO nK wC qD h0;obtain ⟨l1, wl1, rl1⟩ := Go.VL.yO nK wC qD h1;have fin : Calls Tryz.prog 5 #[.slice a0 BA qj, .slice a1 Du Tc, .int .i64 n2] W λe w' => e = .returned (.bool true) /\ Below W.heap.size W w' := by
    refine Go.VL.run_pure (Ds l0 (λx hx => zm (wl0 x hx)) l1 (λx hx => zm (wl1 x hx)) n2 (zm wb2)) rfl λi x hx => ?_
    match i with
    | 0 => simp at hx; subst hx; exact rl0
    | 1 => simp at hx; subst hx; exact rl1
    | 2 => simp at hx; subst hx; exact Go.VL.U8 _ _
    | i + 3 => simp at hx
  refine fin.mono λe W' ⟨he, hB⟩ => ?_;subst he;exact ⟨_, rfl, [d0, d1, .lit (.int .i64 n2)], [], _, [], p0 ++ (p1 ++ ([])), [], Y8, trodAll_mk1 (shut_bool Ns true), trodAll_mk3 (NG W' hB) (M7 W' hB) (shut_int wC wb2), rfl, hB.frame _, λh => by cases h⟩

theorem oracleKept_holds : Rows.OracleKeptSaid :=
  OpenClaim.holds_of_wide 5 Tryz.f5 rfl rfl rfl rfl rfl rfl rfl ⟨rfl, rfl, rfl, rfl, rfl⟩ rfl rfl rfl rfl rfl (by kernel_rfl) Tryz.func5 (by kernel_rfl)
    (of_decide_eq_true (by kernel_rfl)) (by unfold Func.isWrapper; first | (rw [if_pos (by decide +kernel)]; kernel_rfl) | (rw [if_neg (by decide +kernel)]; exact ⟨rfl, rfl⟩))
    (λos started H enc _ => xX os started H enc)

#print axioms oracleKept_holds
end Go.Proofs.YtjjfioalgbecmaaGreat
