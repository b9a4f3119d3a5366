/- For every slice of integers and every five integers, rexmilllaw09.MemoBounds returns true, and the slice reads as before; no condition. -/
import Derived.Test.YtpppfpaalcbggaaMB2
import Derived.Test.YtpppfpaalcbggaaMB41
namespace Go.Proofs.Ytpppfpaalcbggaa
open Go.ChangeShapes Go.WideShapes Go.ChangeAt Go.RowKit

theorem row_own : ownKnob Try.prog.godebug = none := by kernel_rfl
theorem row_laidOut : laidOutB Try.prog = true := by kernel_rfl
theorem row_cells : Try.prog.cellsOf 3 = 1 := by kernel_rfl
theorem row_u3 : Try.prog.underlying 3 = some (.int .i64) := by kernel_rfl
theorem row_u4 : Try.prog.underlying 4 = some .bool := by kernel_rfl
theorem row_u22 : Try.prog.underlying 22 = some (.slice 3) := by kernel_rfl

theorem wf_I64 {n : Int} (h : (Lit.int .i64 n).wf = true) : I64 n := by
  simp only [Lit.wf, Bool.and_eq_true, decide_eq_true_eq] at h
  exact h

set_option maxHeartbeats 1600000 in
set_option maxRecDepth 100000 in
theorem memoBounds_lifted (os : Os) (started : os.Started) (H : Type) (enc : TypeId × Value → H) :
    ReturnsInHanded {} Try.checked os 4 .any (Rows.memoBoundsSpec.pre6 enc Try.prog Try.f4 Rows.memoBoundsRow.domain false) (Rows.memoBoundsSpec.post enc Try.prog Try.f4 false true false false) := by
  refine returnsInHanded_of_change (C := Try.checked) row_own started (by kernel_rfl) Try.func4
    (ChangeSpec.witness6 (enc := enc) (C := Try.checked) false ⟨#[], #[.slice none 0 0, .int .i64 0, .int .i64 0, .int .i64 0, .int .i64 0, .int .i64 0], []⟩ 8 (by kernel_rfl) (by kernel_rfl) (by kernel_rfl) (by kernel_rfl)) ?_
  intro W base args ds gs before hval0 hW hcnd _
  have hval : ∀ (j : Nat) t v, Try.f4.params[j]? = some t → args[j]? = some v → Value.okWide Try.prog W .any base t v := hval0
  have hW' := hW
  obtain ⟨p, q, hA0, hV, rfl, hfz, hnd⟩ := hW
  have hA : DataW.TrodAll enc Try.prog W 0 (fun _ => true) true Try.f4.params.toList args.toList ds p := hA0
  rw [Try.params4] at hA hval
  obtain ⟨v0, v1, v2, v3, v4, v5, d0, d1, d2, d3, d4, d5, p0, p1, p2, p3, p4, p5, rfl, rfl, rfl, h0, h1, h2, h3, h4, h5⟩ := Go.VL.trodAll_6 hA
  obtain ⟨rfl, rfl⟩ := trodVars_none hV
  obtain ⟨a0, len0, cap0, rfl⟩ := okWide_slice row_u22 (hval 0 22 v0 rfl rfl)
  obtain ⟨n1, rfl, rfl, rfl, wb1⟩ := open_int row_u3 (hval 1 3 v1 rfl rfl) h1
  obtain ⟨n2, rfl, rfl, rfl, wb2⟩ := open_int row_u3 (hval 2 3 v2 rfl rfl) h2
  obtain ⟨n3, rfl, rfl, rfl, wb3⟩ := open_int row_u3 (hval 3 3 v3 rfl rfl) h3
  obtain ⟨n4, rfl, rfl, rfl, wb4⟩ := open_int row_u3 (hval 4 3 v4 rfl rfl) h4
  obtain ⟨n5, rfl, rfl, rfl, wb5⟩ := open_int row_u3 (hval 5 3 v5 rfl rfl) h5
  clear hA0 hval0
  have hlt0 : ∀ x ∈ p0, x.block < W.heap.size := fun x hx => by simpa using hW'.lt x (by simp [hx])
  have hargs0 : ∀ W' : World, Below W.heap.size W W' → DataW.Trod enc Try.prog W' 0 (fun b => decide (b < W.heap.size)) true 22 (.slice a0 len0 cap0) d0 p0 :=
    fun W' hn => Below.trod row_laidOut (by kernel_rfl) (of_decide_eq_true (by kernel_rfl)) h0 hn hlt0
  obtain ⟨l0, wl0, rl0⟩ := Go.VL.open_slV row_u22 row_u3 row_cells h0
  have fin : Calls Try.prog 4 #[.slice a0 len0 cap0, .int .i64 n1, .int .i64 n2, .int .i64 n3, .int .i64 n4, .int .i64 n5] W fun e w' => e = .returned (.bool true) ∧ Below W.heap.size W w' := by
    refine Go.VL.run_pure (memoBounds_ok l0 (fun x hx => wf_I64 (wl0 x hx)) n1 n2 n3 n4 n5 (wf_I64 wb1) (wf_I64 wb2) (wf_I64 wb3) (wf_I64 wb4) (wf_I64 wb5)) rfl fun i x hx => ?_
    match i with
    | 0 => simp at hx; subst hx; exact rl0
    | 1 => simp at hx; subst hx; exact Go.VL.rep_int _ _
    | 2 => simp at hx; subst hx; exact Go.VL.rep_int _ _
    | 3 => simp at hx; subst hx; exact Go.VL.rep_int _ _
    | 4 => simp at hx; subst hx; exact Go.VL.rep_int _ _
    | 5 => simp at hx; subst hx; exact Go.VL.rep_int _ _
    | i + 6 => simp at hx
  refine fin.mono fun e W' ⟨he, hB⟩ => ?_
  subst he
  exact ⟨_, rfl, [d0, .lit (.int .i64 n1), .lit (.int .i64 n2), .lit (.int .i64 n3), .lit (.int .i64 n4), .lit (.int .i64 n5)], [], _, [], p0 ++ ([] ++ ([] ++ ([] ++ ([] ++ ([]))))), [], hW', trodAll_mk1 (shut_bool row_u4 true), trodAll_cons_mk (hargs0 W' hB) (trodAll_cons_mk (shut_int row_u3 wb1) (trodAll_mk4 (shut_int row_u3 wb2) (shut_int row_u3 wb3) (shut_int row_u3 wb4) (shut_int row_u3 wb5))), rfl, hB.frame _, fun h => by cases h⟩

theorem memoBounds_holds : Rows.MemoBoundsSaid :=
  OpenClaim.holds_of_wide 4 Try.f4 rfl rfl rfl rfl rfl rfl rfl ⟨rfl, rfl, rfl, rfl, rfl⟩ rfl rfl rfl rfl rfl (by kernel_rfl) Try.func4 (by kernel_rfl)
    (of_decide_eq_true (by kernel_rfl)) (by unfold Func.isWrapper; first | (rw [if_pos (by decide +kernel)]; kernel_rfl) | (rw [if_neg (by decide +kernel)]; exact ⟨rfl, rfl⟩))
    (fun os started H enc _ => memoBounds_lifted os started H enc)

#print axioms memoBounds_holds
end Go.Proofs.Ytpppfpaalcbggaa
