/- For every two slices of integers, rexmilllaw08.BackAgrees returns true, and the slices read as before; no condition. -/
import Derived.Test.YtmihcpdhcillaaaGreatBG2
import Derived.Test.YtmihcpdhcillaaaGreatBG54
namespace Go.Proofs.YtmihcpdhcillaaaGreat
open Go.ChangeShapes Go.WideShapes Go.ChangeAt Go.RowKit

theorem LJ : ownKnob Tryz.prog.godebug = none := by kernel_rfl
theorem vA : laidOutB Tryz.prog = true := by kernel_rfl
theorem Az : Tryz.prog.cellsOf 3 = 1 := by kernel_rfl
theorem KE : Tryz.prog.underlying 3 = some (.int .i64) := by kernel_rfl
theorem OX : Tryz.prog.underlying 4 = some .bool := by kernel_rfl
theorem wj : Tryz.prog.underlying 22 = some (.slice 3) := by kernel_rfl

theorem KL {n : Int} (h : (Lit.int .i64 n).wf = true) : jX n := by
  simp only [Lit.wf, Bool.and_eq_true, decide_eq_true_eq] at h
  exact h

set_option maxHeartbeats 1600000 in
set_option maxRecDepth 100000 in
theorem sT (os : Os) (started : os.Started) (H : Type) (enc : TypeId × Value → H) :
    ReturnsInHanded {} Tryz.checked os 3 .any (Rows.backAgreesSpec.pre6 enc Tryz.prog Tryz.f3 Rows.backAgreesRow.domain false) (Rows.backAgreesSpec.post enc Tryz.prog Tryz.f3 false true false false) := by
  refine returnsInHanded_of_change (C := Tryz.checked) LJ started (by kernel_rfl) Tryz.func3
    (ChangeSpec.witness6 (enc := enc) (C := Tryz.checked) false ⟨#[], #[.slice none 0 0, .slice none 0 0], []⟩ 8 (by kernel_rfl) (by kernel_rfl) (by kernel_rfl) (by kernel_rfl)) ?_
  intro W base args ds gs before Ng hW Wk _
  have O4 : ∀ (j : Nat) t v, Tryz.f3.params[j]? = some t → args[j]? = some v → Value.okWide Tryz.prog W .any base t v := Ng
  have Ts := hW
  obtain ⟨p, q, Uq, hV, rfl, Pz, hnd⟩ := hW
  have hA : DataW.TrodAll enc Tryz.prog W 0 (fun _ => true) true Tryz.f3.params.toList args.toList ds p := Uq
  rw [Tryz.params3] at hA O4
  obtain ⟨v0, v1, d0, d1, p0, p1, rfl, rfl, rfl, h0, h1⟩ := trodAll_two hA
  obtain ⟨rfl, rfl⟩ := trodVars_none hV
  obtain ⟨a0, Ro, iR, rfl⟩ := okWide_slice wj (O4 0 22 v0 rfl rfl)
  obtain ⟨a1, P2, Rj, rfl⟩ := okWide_slice wj (O4 1 22 v1 rfl rfl)
  clear Uq Ng
  have SF : ∀ x ∈ p0, x.block < W.heap.size := fun x hx => by simpa using Ts.lt x (by simp [hx])
  have OK : ∀ W' : World, Below W.heap.size W W' → DataW.Trod enc Tryz.prog W' 0 (fun b => decide (b < W.heap.size)) true 22 (.slice a0 Ro iR) d0 p0 :=
    fun W' hn => Below.trod vA (by kernel_rfl) (of_decide_eq_true (by kernel_rfl)) h0 hn SF
  have SX : ∀ x ∈ p1, x.block < W.heap.size := fun x hx => by simpa using Ts.lt x (by simp [hx])
  have Og : ∀ W' : World, Below W.heap.size W W' → DataW.Trod enc Tryz.prog W' 0 (fun b => decide (b < W.heap.size)) true 22 (.slice a1 P2 Rj) d1 p1 :=
    fun W' hn => Below.trod vA (by kernel_rfl) (of_decide_eq_true (by kernel_rfl)) h1 hn SX
  obtain ⟨l0, Wl, VQ⟩ := Go.VL.CB wj KE Az h0
  obtain ⟨l1, VK, Wa⟩ := Go.VL.CB wj KE Az h1
  have fin : Calls Tryz.prog 3 #[.slice a0 Ro iR, .slice a1 P2 Rj] W fun e w' => e = .returned (.bool true) ∧ Below W.heap.size W w' := by
    refine Go.VL.run_pure (xT l0 (fun x hx => KL (Wl x hx)) l1 (fun x hx => KL (VK x hx))  ) rfl fun i x hx => ?_
    match i with
    | 0 => simp at hx; subst hx; exact VQ
    | 1 => simp at hx; subst hx; exact Wa
    | i + 2 => simp at hx
  refine fin.mono fun e W' ⟨he, hB⟩ => ?_
  subst he
  exact ⟨_, rfl, [d0, d1], [], _, [], p0 ++ (p1), [], Ts, trodAll_mk1 (shut_bool OX true), trodAll_mk2 (OK W' hB) (Og W' hB), rfl, hB.frame _, fun h => by cases h⟩

theorem backAgrees_holds : Rows.BackAgreesSaid :=
  OpenClaim.holds_of_wide 3 Tryz.f3 rfl rfl rfl rfl rfl rfl rfl ⟨rfl, rfl, rfl, rfl, rfl⟩ rfl rfl rfl rfl rfl (by kernel_rfl) Tryz.func3 (by kernel_rfl)
    (of_decide_eq_true (by kernel_rfl)) (by unfold Func.isWrapper; first | (rw [if_pos (by decide +kernel)]; kernel_rfl) | (rw [if_neg (by decide +kernel)]; exact ⟨rfl, rfl⟩))
    (fun os started H enc _ => sT os started H enc)

#print axioms backAgrees_holds
end Go.Proofs.YtmihcpdhcillaaaGreat
