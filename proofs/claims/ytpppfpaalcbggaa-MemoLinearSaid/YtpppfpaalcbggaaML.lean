/- For every integer, rexmilllaw09.MemoLinear returns true; no condition. -/
import Derived.Test.YtpppfpaalcbggaaML2
import Derived.Test.YtpppfpaalcbggaaML50
namespace Go.Proofs.Ytpppfpaalcbggaa
open Go.ChangeShapes Go.WideShapes Go.ChangeAt Go.RowKit

theorem row_own : ownKnob Try.prog.godebug = none := by kernel_rfl
theorem row_laidOut : laidOutB Try.prog = true := by kernel_rfl
theorem row_cells : Try.prog.cellsOf 3 = 1 := by kernel_rfl
theorem row_u3 : Try.prog.underlying 3 = some (.int .i64) := by kernel_rfl
theorem row_u4 : Try.prog.underlying 4 = some .bool := by kernel_rfl
theorem row_u22 : Try.prog.underlying 22 = some (.slice 3) := by kernel_rfl

theorem wf_I64 {n : Int} (h : (Lit.int .i64 n).wf = true) : I64 n := by
  simp only [Lit.wf, Bool.and_eq_true, decide_eq_true_eq] at h
  exact h

set_option maxHeartbeats 1600000 in
set_option maxRecDepth 100000 in
theorem memoLinear_lifted (os : Os) (started : os.Started) (H : Type) (enc : TypeId × Value → H) :
    ReturnsInHanded {} Try.checked os 5 .any (Rows.memoLinearSpec.pre6 enc Try.prog Try.f5 Rows.memoLinearRow.domain false) (Rows.memoLinearSpec.post enc Try.prog Try.f5 false true false false) := by
  refine returnsInHanded_of_change (C := Try.checked) row_own started (by kernel_rfl) Try.func5
    (ChangeSpec.witness6 (enc := enc) (C := Try.checked) false ⟨#[], #[.int .i64 0], []⟩ 8 (by kernel_rfl) (by kernel_rfl) (by kernel_rfl) (by kernel_rfl)) ?_
  intro W base args ds gs before hval0 hW hcnd _
  have hval : ∀ (j : Nat) t v, Try.f5.params[j]? = some t → args[j]? = some v → Value.okWide Try.prog W .any base t v := hval0
  have hW' := hW
  obtain ⟨p, q, hA0, hV, rfl, hfz, hnd⟩ := hW
  have hA : DataW.TrodAll enc Try.prog W 0 (fun _ => true) true Try.f5.params.toList args.toList ds p := hA0
  rw [Try.params5] at hA hval
  obtain ⟨v0, d0, rfl, rfl, h0⟩ := trodAll_one hA
  obtain ⟨rfl, rfl⟩ := trodVars_none hV
  obtain ⟨n0, rfl, rfl, rfl, wb0⟩ := open_int row_u3 (hval 0 3 v0 rfl rfl) h0
  clear hA0 hval0
  have fin : Calls Try.prog 5 #[.int .i64 n0] W fun e w' => e = .returned (.bool true) ∧ Below W.heap.size W w' := by
    refine Go.VL.run_pure (memoLinear_ok n0 (wf_I64 wb0)) rfl fun i x hx => ?_
    match i with
    | 0 => simp at hx; subst hx; exact Go.VL.rep_int _ _
    | i + 1 => simp at hx
  refine fin.mono fun e W' ⟨he, hB⟩ => ?_
  subst he
  exact ⟨_, rfl, [.lit (.int .i64 n0)], [], _, [], [], [], hW', trodAll_mk1 (shut_bool row_u4 true), trodAll_mk1 (shut_int row_u3 wb0), rfl, hB.frame _, fun h => by cases h⟩

theorem memoLinear_holds : Rows.MemoLinearSaid :=
  OpenClaim.holds_of_wide 5 Try.f5 rfl rfl rfl rfl rfl rfl rfl ⟨rfl, rfl, rfl, rfl, rfl⟩ rfl rfl rfl rfl rfl (by kernel_rfl) Try.func5 (by kernel_rfl)
    (of_decide_eq_true (by kernel_rfl)) (by unfold Func.isWrapper; first | (rw [if_pos (by decide +kernel)]; kernel_rfl) | (rw [if_neg (by decide +kernel)]; exact ⟨rfl, rfl⟩))
    (fun os started H enc _ => memoLinear_lifted os started H enc)

#print axioms memoLinear_holds
end Go.Proofs.Ytpppfpaalcbggaa
