/- For every slice of integers, every three integers, every slice of bytes and every byte, rexmilllaw05.AstBytes returns true, and the slices read as before; no condition. -/
import Derived.Test.YtafbdphblilenaaAB2
import Derived.Test.YtafbdphblilenaaAB45
namespace Go.Proofs.Ytafbdphblilenaa
open Go.ChangeShapes Go.WideShapes Go.ChangeAt Go.RowKit

theorem row_own : ownKnob Try.prog.godebug = none := by kernel_rfl
theorem row_laidOut : laidOutB Try.prog = true := by kernel_rfl
theorem row_cells : Try.prog.cellsOf 3 = 1 := by kernel_rfl
theorem row_u3 : Try.prog.underlying 3 = some (.int .i64) := by kernel_rfl
theorem row_u4 : Try.prog.underlying 4 = some .bool := by kernel_rfl
theorem row_u22 : Try.prog.underlying 22 = some (.slice 3) := by kernel_rfl
theorem row_cellsb : Try.prog.cellsOf 5 = 1 := by kernel_rfl
theorem row_ub : Try.prog.underlying 5 = some (.int .u8) := by kernel_rfl
theorem row_usb : Try.prog.underlying 59 = some (.slice 5) := by kernel_rfl

theorem wf_I64 {n : Int} (h : (Lit.int .i64 n).wf = true) : I64 n := by
  simp only [Lit.wf, Bool.and_eq_true, decide_eq_true_eq] at h
  exact h

theorem wf_U8 {n : Int} (h : (Lit.int .u8 n).wf = true) : 0 ≤ n ∧ n ≤ 255 := by
  simp only [Lit.wf, Bool.and_eq_true, decide_eq_true_eq] at h
  exact h

set_option maxHeartbeats 1600000 in
set_option maxRecDepth 100000 in
theorem astBytes_lifted (os : Os) (started : os.Started) (H : Type) (enc : TypeId × Value → H) :
    ReturnsInHanded {} Try.checked os 11 .any (Rows.astBytesSpec.pre6 enc Try.prog Try.f11 Rows.astBytesRow.domain false) (Rows.astBytesSpec.post enc Try.prog Try.f11 false true false false) := by
  refine returnsInHanded_of_change (C := Try.checked) row_own started (by kernel_rfl) Try.func11
    (ChangeSpec.witness6 (enc := enc) (C := Try.checked) false ⟨#[], #[.slice none 0 0, .int .i64 0, .int .i64 0, .int .i64 0, .slice none 0 0, .int .u8 0], []⟩ 8 (by kernel_rfl) (by kernel_rfl) (by kernel_rfl) (by kernel_rfl)) ?_
  intro W base args ds gs before hval0 hW hcnd _
  have hval : ∀ (j : Nat) t v, Try.f11.params[j]? = some t → args[j]? = some v → Value.okWide Try.prog W .any base t v := hval0
  have hW' := hW
  obtain ⟨p, q, hA0, hV, rfl, hfz, hnd⟩ := hW
  have hA : DataW.TrodAll enc Try.prog W 0 (fun _ => true) true Try.f11.params.toList args.toList ds p := hA0
  rw [Try.params11] at hA hval
  obtain ⟨v0, v1, v2, v3, v4, v5, d0, d1, d2, d3, d4, d5, p0, p1, p2, p3, p4, p5, rfl, rfl, rfl, h0, h1, h2, h3, h4, h5⟩ := Go.VL.trodAll_6 hA
  obtain ⟨rfl, rfl⟩ := trodVars_none hV
  obtain ⟨a0, len0, cap0, rfl⟩ := okWide_slice row_u22 (hval 0 22 v0 rfl rfl)
  obtain ⟨n1, rfl, rfl, rfl, wb1⟩ := open_int row_u3 (hval 1 3 v1 rfl rfl) h1
  obtain ⟨n2, rfl, rfl, rfl, wb2⟩ := open_int row_u3 (hval 2 3 v2 rfl rfl) h2
  obtain ⟨n3, rfl, rfl, rfl, wb3⟩ := open_int row_u3 (hval 3 3 v3 rfl rfl) h3
  obtain ⟨a4, len4, cap4, rfl⟩ := okWide_slice row_usb (hval 4 59 v4 rfl rfl)
  obtain ⟨n5, rfl, rfl, rfl, wb5⟩ := open_int row_ub (hval 5 5 v5 rfl rfl) h5
  clear hA0 hval0
  have hlt0 : ∀ x ∈ p0, x.block < W.heap.size := fun x hx => by simpa using hW'.lt x (by simp [hx])
  have hargs0 : ∀ W' : World, Below W.heap.size W W' → DataW.Trod enc Try.prog W' 0 (fun b => decide (b < W.heap.size)) true 22 (.slice a0 len0 cap0) d0 p0 :=
    fun W' hn => Below.trod row_laidOut (by kernel_rfl) (of_decide_eq_true (by kernel_rfl)) h0 hn hlt0
  have hlt4 : ∀ x ∈ p4, x.block < W.heap.size := fun x hx => by simpa using hW'.lt x (by simp [hx])
  have hargs4 : ∀ W' : World, Below W.heap.size W W' → DataW.Trod enc Try.prog W' 0 (fun b => decide (b < W.heap.size)) true 59 (.slice a4 len4 cap4) d4 p4 :=
    fun W' hn => Below.trod row_laidOut (by kernel_rfl) (of_decide_eq_true (by kernel_rfl)) h4 hn hlt4
  obtain ⟨l0, wl0, rl0⟩ := Go.VL.open_slV row_u22 row_u3 row_cells h0
  obtain ⟨l4, wl4, rl4⟩ := Go.VL.open_slV row_usb row_ub row_cellsb h4
  have fin : Calls Try.prog 11 #[.slice a0 len0 cap0, .int .i64 n1, .int .i64 n2, .int .i64 n3, .slice a4 len4 cap4, .int .u8 n5] W fun e w' => e = .returned (.bool true) ∧ Below W.heap.size W w' := by
    refine Go.VL.run_pure (astBytesI_ok l0 (fun x hx => wf_I64 (wl0 x hx)) l4 (fun x hx => wf_U8 (wl4 x hx)) n1 n2 n3 n5 (wf_I64 wb1) (wf_I64 wb2) (wf_I64 wb3) (wf_U8 wb5)) rfl fun i x hx => ?_
    match i with
    | 0 => simp at hx; subst hx; exact rl0
    | 1 => simp at hx; subst hx; exact Go.VL.rep_int _ _
    | 2 => simp at hx; subst hx; exact Go.VL.rep_int _ _
    | 3 => simp at hx; subst hx; exact Go.VL.rep_int _ _
    | 4 => simp at hx; subst hx; exact rl4
    | 5 => simp at hx; subst hx; exact Go.VL.rep_int _ _
    | i + 6 => simp at hx
  refine fin.mono fun e W' ⟨he, hB⟩ => ?_
  subst he
  exact ⟨_, rfl, [d0, .lit (.int .i64 n1), .lit (.int .i64 n2), .lit (.int .i64 n3), d4, .lit (.int .u8 n5)], [], _, [], p0 ++ ([] ++ ([] ++ ([] ++ (p4 ++ ([]))))), [], hW', trodAll_mk1 (shut_bool row_u4 true), trodAll_cons_mk (hargs0 W' hB) (trodAll_cons_mk (shut_int row_u3 wb1) (trodAll_mk4 (shut_int row_u3 wb2) (shut_int row_u3 wb3) (hargs4 W' hB) (shut_int row_ub wb5))), rfl, hB.frame _, fun h => by cases h⟩

theorem astBytes_holds : Rows.AstBytesSaid :=
  OpenClaim.holds_of_wide 11 Try.f11 rfl rfl rfl rfl rfl rfl rfl ⟨rfl, rfl, rfl, rfl, rfl⟩ rfl rfl rfl rfl rfl (by kernel_rfl) Try.func11 (by kernel_rfl)
    (of_decide_eq_true (by kernel_rfl)) (by unfold Func.isWrapper; first | (rw [if_pos (by decide +kernel)]; kernel_rfl) | (rw [if_neg (by decide +kernel)]; exact ⟨rfl, rfl⟩))
    (fun os started H enc _ => astBytes_lifted os started H enc)

#print axioms astBytes_holds
end Go.Proofs.Ytafbdphblilenaa
