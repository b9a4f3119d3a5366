/- For every three slices of integers and every integer, rexmilllaw14.OracleFar returns true, and the slices read as before; no condition. -/
import Derived.Test.YtfmdmlfhigocaaaOF54
namespace Go.Proofs.Ytfmdmlfhigocaaa
open Go.ChangeShapes Go.WideShapes Go.ChangeAt Go.RowKit

theorem MP : ownKnob Try.prog.godebug = none := by kernel_rfl
theorem pW : laidOutB Try.prog = true := by kernel_rfl
theorem vR : Try.prog.cellsOf 3 = 1 := by kernel_rfl
theorem yr : Try.prog.underlying 3 = some (.int .i64) := by kernel_rfl
theorem Qb : Try.prog.underlying 4 = some .bool := by kernel_rfl
theorem rG : Try.prog.underlying 22 = some (.slice 3) := by kernel_rfl

theorem BH {n : Int} (h : (Lit.int .i64 n).wf = true) : lA n := by
  simp only [Lit.wf, Bool.and_eq_true, decide_eq_true_eq] at h
  exact h

set_option maxHeartbeats 1600000 in
set_option maxRecDepth 100000 in
theorem vt (os : Os) (started : os.Started) (H : Type) (enc : TypeId × Value -> H) :
    ReturnsInHanded {} Try.checked os 4 .any (Rows.oracleFarSpec.pre6 enc Try.prog Try.f4 Rows.oracleFarRow.domain false) (Rows.oracleFarSpec.post enc Try.prog Try.f4 false true false false) := by
  refine returnsInHanded_of_change (C := Try.checked) MP started (by kernel_rfl) Try.func4
    (ChangeSpec.witness6 (enc := enc) (C := Try.checked) false ⟨#[], #[.slice none 0 0, .slice none 0 0, .slice none 0 0, .int .i64 0], []⟩ 8 (by kernel_rfl) (by kernel_rfl) (by kernel_rfl) (by kernel_rfl)) ?_
  intro W base args ds gs before Oy hW Xn _
  have KF : ∀ (j : Nat) t v, Try.f4.params[j]? = some t -> args[j]? = some v -> Value.okWide Try.prog W .any base t v := Oy
  have TH := hW
  obtain ⟨p, q, We, hV, rfl, Zj, uA⟩ := hW
  have hA : DataW.TrodAll enc Try.prog W 0 (fun _ => true) true Try.f4.params.toList args.toList ds p := We
  rw [Try.params4] at hA KF
  obtain ⟨v0, v1, v2, v3, d0, d1, d2, d3, p0, p1, p2, p3, rfl, rfl, rfl, h0, h1, h2, h3⟩ := trodAll_four hA
  obtain ⟨rfl, rfl⟩ := trodVars_none hV
  obtain ⟨a0, Qt, pD, rfl⟩ := okWide_slice rG (KF 0 22 v0 rfl rfl)
  obtain ⟨a1, P5, Sa, rfl⟩ := okWide_slice rG (KF 1 22 v1 rfl rfl)
  obtain ⟨a2, RL, Sm, rfl⟩ := okWide_slice rG (KF 2 22 v2 rfl rfl)
  obtain ⟨n3, rfl, rfl, rfl, Wb⟩ := open_int yr (KF 3 3 v3 rfl rfl) h3
  clear We Oy
  have Uv : ∀ x ∈ p0, x.block < W.heap.size := fun x hx => by simpa using TH.lt x (by simp [hx])
  have Qx : ∀ W' : World, Below W.heap.size W W' -> DataW.Trod enc Try.prog W' 0 (fun b => decide (b < W.heap.size)) true 22 (.slice a0 Qt pD) d0 p0 :=
    fun W' hn => Below.trod pW (by kernel_rfl) (of_decide_eq_true (by kernel_rfl)) h0 hn Uv
  have V1 : ∀ x ∈ p1, x.block < W.heap.size := fun x hx => by simpa using TH.lt x (by simp [hx])
  have PT : ∀ W' : World, Below W.heap.size W W' -> DataW.Trod enc Try.prog W' 0 (fun b => decide (b < W.heap.size)) true 22 (.slice a1 P5 Sa) d1 p1 :=
    fun W' hn => Below.trod pW (by kernel_rfl) (of_decide_eq_true (by kernel_rfl)) h1 hn V1
  have Qf : ∀ x ∈ p2, x.block < W.heap.size := fun x hx => by simpa using TH.lt x (by simp [hx])
  have PU : ∀ W' : World, Below W.heap.size W W' -> DataW.Trod enc Try.prog W' 0 (fun b => decide (b < W.heap.size)) true 22 (.slice a2 RL Sm) d2 p2 :=
    fun W' hn => Below.trod pW (by kernel_rfl) (of_decide_eq_true (by kernel_rfl)) h2 hn Qf
  obtain ⟨l0, Yo, X8⟩ := Go.VL.zj rG yr vR h0
  obtain ⟨l1, YB, Yp⟩ := Go.VL.zj rG yr vR h1
  obtain ⟨l2, Y8, XY⟩ := Go.VL.zj rG yr vR h2
  have fin : Calls Try.prog 4 #[.slice a0 Qt pD, .slice a1 P5 Sa, .slice a2 RL Sm, .int .i64 n3] W fun e w' => e = .returned (.bool true) /\ Below W.heap.size W w' := by
    refine Go.VL.run_pure (zF l0 (fun x hx => BH (Yo x hx)) l1 (fun x hx => BH (YB x hx)) l2 (fun x hx => BH (Y8 x hx)) n3 (BH Wb)) rfl fun i x hx => ?_
    match i with
    | 0 => simp at hx; subst hx; exact X8
    | 1 => simp at hx; subst hx; exact Yp
    | 2 => simp at hx; subst hx; exact XY
    | 3 => simp at hx; subst hx; exact Go.VL.ML _ _
    | i + 4 => simp at hx
  refine fin.mono fun e W' ⟨he, hB⟩ => ?_
  subst he
  exact ⟨_, rfl, [d0, d1, d2, .lit (.int .i64 n3)], [], _, [], p0 ++ (p1 ++ (p2 ++ ([]))), [], TH, trodAll_mk1 (shut_bool Qb true), trodAll_mk4 (Qx W' hB) (PT W' hB) (PU W' hB) (shut_int yr Wb), rfl, hB.frame _, fun h => by cases h⟩

theorem oracleFar_holds : Rows.OracleFarSaid :=
  OpenClaim.holds_of_wide 4 Try.f4 rfl rfl rfl rfl rfl rfl rfl ⟨rfl, rfl, rfl, rfl, rfl⟩ rfl rfl rfl rfl rfl (by kernel_rfl) Try.func4 (by kernel_rfl)
    (of_decide_eq_true (by kernel_rfl)) (by unfold Func.isWrapper; first | (rw [if_pos (by decide +kernel)]; kernel_rfl) | (rw [if_neg (by decide +kernel)]; exact ⟨rfl, rfl⟩))
    (fun os started H enc _ => vt os started H enc)

#print axioms oracleFar_holds
end Go.Proofs.Ytfmdmlfhigocaaa
