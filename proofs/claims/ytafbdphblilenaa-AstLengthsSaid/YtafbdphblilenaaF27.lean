/- For every slice of integers and every integer, rexmilllaw05.AstLengths returns true, and the slice reads as before; no condition. -/
import Derived.Test.YtafbdphblilenaaF26
import Derived.Test.YtafbdphblilenaaVu
import Derived.ProofKit
import Derived.OpenShut
set_option linter.unusedSimpArgs false
set_option linter.unusedVariables false
namespace Go.Proofs.Ytafbdphblilenaa
open Go.ChangeShapes Go.WideShapes Go.ChangeAt Go.RowKit

theorem row_own : ownKnob Try.prog.godebug = none := by kernel_rfl
theorem row_laidOut : laidOutB Try.prog = true := by kernel_rfl
theorem row_cells : Try.prog.cellsOf 3 = 1 := by kernel_rfl
theorem row_u3 : Try.prog.underlying 3 = some (.int .i64) := by kernel_rfl
theorem row_u4 : Try.prog.underlying 4 = some .bool := by kernel_rfl
theorem row_u22 : Try.prog.underlying 22 = some (.slice 3) := by kernel_rfl

theorem wf_I64 {n : Int} (h : (Lit.int .i64 n).wf = true) : I64 n := by
  simp only [Lit.wf, Bool.and_eq_true, decide_eq_true_eq] at h
  exact h

set_option maxHeartbeats 1600000 in
set_option maxRecDepth 100000 in
theorem astLengths_lifted (os : Os) (started : os.Started) (H : Type) (enc : TypeId × Value → H) :
    ReturnsInHanded {} Try.checked os 3 .any (Rows.astLengthsSpec.pre6 enc Try.prog Try.f3 Rows.astLengthsRow.domain false) (Rows.astLengthsSpec.post enc Try.prog Try.f3 false true false false) := by
  refine returnsInHanded_of_change (C := Try.checked) row_own started (by kernel_rfl) Try.func3
    (ChangeSpec.witness6 (enc := enc) (C := Try.checked) false ⟨#[], #[.slice none 0 0, .int .i64 0], []⟩ 8 (by kernel_rfl) (by kernel_rfl) (by kernel_rfl) (by kernel_rfl)) ?_
  intro W base args ds gs before hval0 hW hcnd _
  have hval : ∀ (j : Nat) t v, Try.f3.params[j]? = some t → args[j]? = some v → Value.okWide Try.prog W .any base t v := hval0
  have hW' := hW
  obtain ⟨p, q, hA0, hV, rfl, hfz, hnd⟩ := hW
  have hA : DataW.TrodAll enc Try.prog W 0 (fun _ => true) true Try.f3.params.toList args.toList ds p := hA0
  rw [Try.params3] at hA hval
  obtain ⟨v0, v1, d0, d1, p0, p1, rfl, rfl, rfl, h0, h1⟩ := trodAll_two hA
  obtain ⟨rfl, rfl⟩ := trodVars_none hV
  obtain ⟨b, rfl, rfl, rfl, wb⟩ := open_int row_u3 (hval 1 3 v1 rfl rfl) h1
  obtain ⟨a0, len, cap, rfl⟩ := okWide_slice row_u22 (hval 0 22 v0 rfl rfl)
  clear hA0 hval0
  have hlt : ∀ x ∈ p0, x.block < W.heap.size := fun x hx => by simpa using hW'.lt x (List.mem_append_left _ (List.mem_append_left _ hx))
  have hargs : ∀ W' : World, Below W.heap.size W W' → DataW.Trod enc Try.prog W' 0 (fun b => decide (b < W.heap.size)) true 22 (.slice a0 len cap) d0 p0 :=
    fun W' hn => Below.trod row_laidOut (by kernel_rfl) (of_decide_eq_true (by kernel_rfl)) h0 hn hlt
  have fin : Calls Try.prog 3 #[.slice a0 len cap, .int .i64 b] W fun e w' => e = .returned (.bool true) ∧ Below W.heap.size W w' := by
    obtain ⟨fuel0, hf⟩ := h0
    rcases open_ints row_u22 row_u3 row_cells hf with ⟨hcs, hx⟩ | ⟨a, len', cap', zs, hcs, _, hl, hm, hz, hx, hcell, hwz⟩
    · simp [Value.cells] at hcs
      obtain ⟨rfl, rfl, rfl⟩ := hcs
      refine Go.VL.run_pure (astLengths_ok [] b (fun x hx => by cases hx) (wf_I64 wb)) rfl fun i x hx => ?_
      match i with
      | 0 => simp at hx; subst hx; exact .d .nil
      | 1 => simp at hx; subst hx; exact Go.VL.rep_int _ _
      | i + 2 => simp at hx
    · simp [Value.cells] at hcs
      obtain ⟨rfl, rfl, rfl⟩ := hcs
      simp only [if_true] at hz
      refine Go.VL.run_pure (astLengths_ok (zs.take len) b (fun x hx => wf_I64 (hwz x (List.mem_of_mem_take hx))) (wf_I64 wb)) rfl fun i x hx => ?_
      match i with
      | 0 => simp at hx; subst hx; exact Go.VL.rep_ints hl hz hcell
      | 1 => simp at hx; subst hx; exact Go.VL.rep_int _ _
      | i + 2 => simp at hx
  refine fin.mono fun e W' ⟨he, hB⟩ => ?_
  subst he
  exact ⟨_, rfl, [d0, .lit (.int .i64 b)], [], _, [], p0 ++ [], [], hW', trodAll_mk1 (shut_bool row_u4 true), trodAll_mk2 (hargs W' hB) (shut_int row_u3 wb), rfl, hB.frame _, fun h => by cases h⟩

theorem astLengths_holds : Rows.AstLengthsSaid :=
  OpenClaim.holds_of_wide 3 Try.f3 rfl rfl rfl rfl rfl rfl rfl ⟨rfl, rfl, rfl, rfl, rfl⟩ rfl rfl rfl rfl rfl (by kernel_rfl) Try.func3 (by kernel_rfl)
    (of_decide_eq_true (by kernel_rfl)) (by unfold Func.isWrapper; first | (rw [if_pos (by decide +kernel)]; kernel_rfl) | (rw [if_neg (by decide +kernel)]; exact ⟨rfl, rfl⟩))
    (fun os started H enc _ => astLengths_lifted os started H enc)

#print axioms astLengths_holds
end Go.Proofs.Ytafbdphblilenaa
