/- For every two slices of integers and every two integers, rexmilllaw08.BackDeepest returns true, and the slices read as before; no condition. -/
import Derived.Test.YtllagoeijcjpiaaBD2
import Derived.Test.YtllagoeijcjpiaaBD54
namespace Go.Proofs.Ytllagoeijcjpiaa
open Go.ChangeShapes Go.WideShapes Go.ChangeAt Go.RowKit

theorem Lj : ownKnob Try.prog.godebug = none := by kernel_rfl
theorem vl : laidOutB Try.prog = true := by kernel_rfl
theorem zZ : Try.prog.cellsOf 3 = 1 := by kernel_rfl
theorem tS : Try.prog.underlying 3 = some (.int .i64) := by kernel_rfl
theorem Od : Try.prog.underlying 4 = some .bool := by kernel_rfl
theorem wC : Try.prog.underlying 22 = some (.slice 3) := by kernel_rfl

theorem Ax {n : Int} (h : (Lit.int .i64 n).wf = true) : iV n := by
  simp only [Lit.wf, Bool.and_eq_true, decide_eq_true_eq] at h
  exact h

set_option maxHeartbeats 1600000 in
set_option maxRecDepth 100000 in
theorem r5 (os : Os) (started : os.Started) (H : Type) (enc : TypeId × Value → H) :
    ReturnsInHanded {} Try.checked os 5 .any (Rows.backDeepestSpec.pre6 enc Try.prog Try.f5 Rows.backDeepestRow.domain false) (Rows.backDeepestSpec.post enc Try.prog Try.f5 false true false false) := by
  refine returnsInHanded_of_change (C := Try.checked) Lj started (by kernel_rfl) Try.func5
    (ChangeSpec.witness6 (enc := enc) (C := Try.checked) false ⟨#[], #[.slice none 0 0, .slice none 0 0, .int .i64 0, .int .i64 0], []⟩ 8 (by kernel_rfl) (by kernel_rfl) (by kernel_rfl) (by kernel_rfl)) ?_
  intro W base args ds gs before MK hW TM _
  have yB : ∀ (j : Nat) t v, Try.f5.params[j]? = some t → args[j]? = some v → Value.okWide Try.prog W .any base t v := MK
  have SA := hW
  obtain ⟨p, q, S3, hV, rfl, OL, CY⟩ := hW
  have hA : DataW.TrodAll enc Try.prog W 0 (fun _ => true) true Try.f5.params.toList args.toList ds p := S3
  rw [Try.params5] at hA yB
  obtain ⟨v0, v1, v2, v3, d0, d1, d2, d3, p0, p1, p2, p3, rfl, rfl, rfl, h0, h1, h2, h3⟩ := trodAll_four hA
  obtain ⟨rfl, rfl⟩ := trodVars_none hV
  obtain ⟨a0, QB, iv, rfl⟩ := okWide_slice wC (yB 0 22 v0 rfl rfl)
  obtain ⟨a1, Qe, PZ, rfl⟩ := okWide_slice wC (yB 1 22 v1 rfl rfl)
  obtain ⟨n2, rfl, rfl, rfl, Tj⟩ := open_int tS (yB 2 3 v2 rfl rfl) h2
  obtain ⟨n3, rfl, rfl, rfl, S1⟩ := open_int tS (yB 3 3 v3 rfl rfl) h3
  clear S3 MK
  have RG : ∀ x ∈ p0, x.block < W.heap.size := fun x hx => by simpa using SA.lt x (by simp [hx])
  have Ov : ∀ W' : World, Below W.heap.size W W' → DataW.Trod enc Try.prog W' 0 (fun b => decide (b < W.heap.size)) true 22 (.slice a0 QB iv) d0 p0 :=
    fun W' hn => Below.trod vl (by kernel_rfl) (of_decide_eq_true (by kernel_rfl)) h0 hn RG
  have SR : ∀ x ∈ p1, x.block < W.heap.size := fun x hx => by simpa using SA.lt x (by simp [hx])
  have N2 : ∀ W' : World, Below W.heap.size W W' → DataW.Trod enc Try.prog W' 0 (fun b => decide (b < W.heap.size)) true 22 (.slice a1 Qe PZ) d1 p1 :=
    fun W' hn => Below.trod vl (by kernel_rfl) (of_decide_eq_true (by kernel_rfl)) h1 hn SR
  obtain ⟨l0, Us, Uf⟩ := Go.VL.DW wC tS zZ h0
  obtain ⟨l1, UB, Ut⟩ := Go.VL.DW wC tS zZ h1
  have fin : Calls Try.prog 5 #[.slice a0 QB iv, .slice a1 Qe PZ, .int .i64 n2, .int .i64 n3] W fun e w' => e = .returned (.bool true) ∧ Below W.heap.size W w' := by
    refine Go.VL.run_pure (vI l0 (fun x hx => Ax (Us x hx)) l1 (fun x hx => Ax (UB x hx)) n2 n3 (Ax Tj) (Ax S1)) rfl fun i x hx => ?_
    match i with
    | 0 => simp at hx; subst hx; exact Uf
    | 1 => simp at hx; subst hx; exact Ut
    | 2 => simp at hx; subst hx; exact Go.VL.FP _ _
    | 3 => simp at hx; subst hx; exact Go.VL.FP _ _
    | i + 4 => simp at hx
  refine fin.mono fun e W' ⟨he, hB⟩ => ?_
  subst he
  exact ⟨_, rfl, [d0, d1, .lit (.int .i64 n2), .lit (.int .i64 n3)], [], _, [], p0 ++ (p1 ++ ([] ++ ([]))), [], SA, trodAll_mk1 (shut_bool Od true), trodAll_mk4 (Ov W' hB) (N2 W' hB) (shut_int tS Tj) (shut_int tS S1), rfl, hB.frame _, fun h => by cases h⟩

theorem backDeepest_holds : Rows.BackDeepestSaid :=
  OpenClaim.holds_of_wide 5 Try.f5 rfl rfl rfl rfl rfl rfl rfl ⟨rfl, rfl, rfl, rfl, rfl⟩ rfl rfl rfl rfl rfl (by kernel_rfl) Try.func5 (by kernel_rfl)
    (of_decide_eq_true (by kernel_rfl)) (by unfold Func.isWrapper; first | (rw [if_pos (by decide +kernel)]; kernel_rfl) | (rw [if_neg (by decide +kernel)]; exact ⟨rfl, rfl⟩))
    (fun os started H enc _ => r5 os started H enc)

#print axioms backDeepest_holds
end Go.Proofs.Ytllagoeijcjpiaa
