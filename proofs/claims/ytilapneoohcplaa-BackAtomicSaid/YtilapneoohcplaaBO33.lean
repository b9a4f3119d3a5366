/- A part of the proof (G37). -/
import Derived.Test.YtilapneoohcplaaBO32
set_option linter.unusedSimpArgs false
set_option linter.unusedVariables false
set_option maxRecDepth 100000
set_option maxHeartbeats 80000000
namespace Go.Proofs.Ytilapneoohcplaa
open Go.VL Go.Proofs.Try
theorem madvance_ok {k : Nat} (ih : SearchOK k) (g b a : Nat) (m : Mst) (p : BPlace) {x : Rs} (hx : advB (fun m base p => srchB k true m base p true) m p = some x) :
  callWp prog 50 [.pp 0 g 0 0 b a, p.v b a] (m.objs g b a) fun v s => v = rsV b a x.2.1 x.2.2 ∧ s = x.1.objs g b a := by
 obtain ⟨pa, pc, todo⟩ := p
 have hm : m.good ⟨pa, pc, todo⟩ := by
  unfold advB at hx
  by_cases h : m.good ⟨pa, pc, todo⟩
  ·exact h
  ·rw [if_pos h] at hx; cases hx
 cases todo with
 | nil =>
  unfold advB at hx
  rw [if_neg (by simpa using hm)] at hx
  cases hx
 | mk kind r n at_ next =>
  by_cases c0 : kind = 0
  ·exact adv_0 ih g b a m r pa pc kind n at_ next hm c0 hx
  by_cases c2 : kind = 2
  ·exact adv_2 ih g b a m r pa pc kind n at_ next hm c2 hx
  by_cases c3 : kind = 3
  ·exact adv_3 ih g b a m r pa pc kind n at_ next hm c3 hx
  by_cases c5 : kind = 5
  ·exact adv_5 ih g b a m r pa pc kind n at_ next hm c5 hx
  by_cases c1 : kind = 1
  ·cases r with
   | nil =>
    unfold advB at hx
    rw [if_neg (by simpa using hm)] at hx
    simp only at hx
    rw [if_neg (by omega)] at hx
    split at hx
    ·cases hx
    ·cases hx
   | root => exact adv_1_root ih g b a m pa pc kind n at_ next hm c1 hx
   | el re => exact adv_1_el ih g b a m re pa pc kind n at_ next hm c1 hx
  by_cases c4 : kind = 4
  ·cases r with
   | nil =>
    unfold advB at hx
    rw [if_neg (by simpa using hm)] at hx
    simp only at hx
    rw [if_neg (by omega)] at hx
    split at hx
    ·cases hx
    ·cases hx
   | root => exact adv_4_root ih g b a m pa pc kind n at_ next hm c4 hx
   | el re => exact adv_4_el ih g b a m re pa pc kind n at_ next hm c4 hx
  exfalso
  unfold advB at hx
  rw [if_neg (by simpa using hm)] at hx
  simp only at hx
  rw [if_neg (by omega)] at hx
  split at hx
  ·cases hx
  ·cases hx
def pO (b a : Nat) (p : BPlace) : List VL.Obj := [⟨0, true, 3, [[.d (iD p.at_), .d (capD p.caps), .d (p.todo.d b a)]]⟩, ⟨0, true, 3, [[.d (iD 0), .fu [], .d (.sc (.pointer none))]]⟩]
theorem pop_stk (m : Mst) (b a : Nat) : (m.stk.map (stV b a)).set (m.top - 1) [.d (.sc (.int .i64 0)), .fu [], .d (.sc (.pointer none))] = m.pop.stk.map (stV b a) := by
 unfold Mst.pop
 simp only [List.map_set, stV]
theorem search_step {k : Nat} (ih : ∀ j, j < k → SearchOK j) : SearchOK k := by
 intro g b a m base p alive x hx
 unfold Mst.objs Mst.objsT
 refine fn_ok func35 rfl ntmps35 results35 rfl 3 1871 (by simp) (by simp) ?_
 simp only [zX, simprocAttr, zM, rsV]
 refine loop_rule (fun n e s => ∃ (j : Nat) (m1 : Mst) (p1 : BPlace) (al : Bool), n = j ∧ j ≤ k ∧ e 0 = .pp 0 g 0 0 b a ∧ e 1 = i64 (base : Nat) ∧ e 3 = bV al ∧ e 6 = .rf 3 0 0 0 ∧ e 8 = .rf 4 0 0 0 ∧ s = m1.objs g b a ++ pO b a p1 ∧ srchB j true m1 base p1 al = some x)
  ⟨_, _, _, Cln.refl, k, m, p, alive, rfl, Nat.le_refl _, rfl, rfl, rfl, rfl, rfl, rfl, hx⟩ ?_
 clear hx
 rintro n e s ⟨j, m1, p1, al, rfl, hj, h0, h1, h3, h6, h8, rfl, hx⟩
 cases n with
 | zero => cases hx
 | succ j =>
  by_cases hsp : m1.spent = true
  ·have hx' := hx
   simp only [srchB] at hx'
   rw [if_pos ⟨trivial, hsp⟩] at hx'
   cases hx'
   unfold Mst.objs Mst.objsT pO
   simp only [zX, simprocAttr, zM, rsV, h0, h1, h3, h6, h8, hsp, Bool.not_true]
   exact ⟨mobjs_ok m1 b a, rfl⟩
  ·have hspf : m1.spent = false := by simpa using hsp
   have hx2 : srchB (j + 1) false m1 base p1 al = some x := by
    simp only [srchB] at hx ⊢
    rw [if_neg (fun h => hsp h.2)] at hx
    rw [if_neg (fun h => by cases h.1)]
    exact hx
   clear hx
   unfold Mst.objs Mst.objsT pO
   simp only [zX, simprocAttr, zM, rsV, h0, h1, h3, h6, h8, hspf, Bool.not_false]
   refine loop_rule (fun n e s => ∃ (i : Nat) (m2 : Mst) (p2 : BPlace) (al2 : Bool), n = i ∧ i ≤ j + 1 ∧ e 0 = .pp 0 g 0 0 b a ∧ e 1 = i64 (base : Nat) ∧ e 3 = bV al2 ∧ e 6 = .rf 3 0 0 0 ∧ e 8 = .rf 4 0 0 0 ∧ s = m2.objs g b a ++ pO b a p2 ∧ srchB i false m2 base p2 al2 = some x)
    ⟨_, _, _, Cln.refl, j + 1, m1, p1, al, rfl, Nat.le_refl _, ?_, ?_, ?_, ?_, ?_, ?_, hx2⟩ ?_ <;> (try simp only [zU, Nat.reduceBEq, Nat.reduceShiftRight, Nat.reduceMod, Nat.reduceEqDiff, reduceIte])
   ·exact h0
   ·exact h1
   ·exact h3
   ·exact h6
   ·exact h8
   ·unfold Mst.objs Mst.objsT pO; simp only [hspf]; rfl
   clear hx2 h0 h1 h3 h6 h8 hsp hspf
   rintro n e s ⟨i, m2, p2, al2, rfl, hi, h0, h1, h3, h6, h8, rfl, hx⟩
   cases n with
   | zero => cases hx
   | succ i =>
    simp only [srchB] at hx
    rw [if_neg (fun h => by cases h.1)] at hx
    by_cases hc : al2 = true ∧ p2.goals = true
    ·rw [if_pos hc] at hx
     obtain ⟨rfl, hg⟩ := hc
     obtain ⟨pa, pc, todo⟩ := p2
     cases todo with
     | nil => cases hg
     | mk kind r kn at_ next =>
      cases hadv : advB (fun m base p => srchB i true m base p true) m2 ⟨pa, pc, .mk kind r kn at_ next⟩ with
      | none => rw [hadv] at hx; cases hx
      | some y =>
       obtain ⟨m3, p3, al3⟩ := y
       rw [hadv] at hx
       simp only at hx
       have hcl := fun ext => call_ms (madvance_ok (ih i (by omega)) g b a m2 _ hadv) rfl rfl rfl ext
       unfold Mst.objs Mst.objsT at hcl
       simp only [zM, rsV, BGoal.d_mk] at hcl
       unfold Mst.objs Mst.objsT pO
       simp only [zX, simprocAttr, zM, rsV, BGoal.d_mk, h0, h1, h3, h6, h8]
       refine ⟨⟨_, rfl⟩, ?_⟩
       refine callWp_mono (hcl _) (fun v s' hv => ?_); obtain ⟨rfl, rfl⟩ := hv
       simp only [zX, simprocAttr, zM, rsV, h0, h1, h3, h6, h8]
       refine ⟨i, _, _, by omega, Cln.refl, i, m3, p3, al3, rfl, by omega, ?_, ?_, ?_, ?_, ?_, rfl, hx⟩ <;> (try simp only [zU, Nat.reduceBEq, Nat.reduceShiftRight, Nat.reduceMod, Nat.reduceEqDiff, reduceIte])
       ·exact h0
       ·exact h1
       ·exact h6
       ·exact h8
    ·rw [if_neg hc] at hx
     obtain ⟨pa, pc, todo⟩ := p2
     cases al2 with
     | true =>
      cases todo with
      | mk _ _ _ _ _ => exact absurd ⟨rfl, rfl⟩ hc
      | nil =>
       rw [if_pos rfl] at hx
       cases hx
       unfold Mst.objs Mst.objsT pO
       simp only [zX, simprocAttr, zM, rsV, BGoal.d, h0, h1, h3, h6, h8]
       refine ⟨⟨_, rfl⟩, ?_⟩
       refine draw_c mix [] [(0,[3],[]),(2,[0],[]),(3,[0],[]),(4,[0],[]),(6,[4],[4])] (by rfl) ?_
       simp only [zX, simprocAttr, zM, rsV, BGoal.d, h0, h1, h3, h6, h8]
       first | exact ⟨mobjs_ok m2 b a, rfl⟩ | exact mobjs_ok m2 b a
     | false =>
      rw [if_neg (fun h => by cases h)] at hx
      by_cases hb : m2.top = base
      ·rw [if_pos hb] at hx
       cases hx
       have hbi : ((m2.top : Int) = (base : Int)) = True := eq_true (by omega)
       unfold Mst.objs Mst.objsT pO
       simp only [zX, simprocAttr, zM, rsV, h0, h1, h3, h6, h8, hbi]
       first | exact ⟨mobjs_ok m2 b a, rfl⟩ | exact mobjs_ok m2 b a
      ·rw [if_neg hb] at hx
       have hbi : ((m2.top : Int) = (base : Int)) = False := eq_false (by omega)
       by_cases ht : m2.top = 0 ∨ m2.stk.length < m2.top ∨ 1200000000000 < m2.top
       ·rw [if_pos ht] at hx; cases hx
       rw [if_neg ht] at hx
       cases hl : m2.stk[m2.top - 1]? with
       | none => rw [hl] at hx; cases hx
       | some o =>
        rw [hl] at hx
        cases o with
        | none => cases hx
        | some last =>
         simp only at hx
         have hls : stV b a (some last) = [V.d (D.sc (.int .i64 last.at_)), .d (capD last.caps), .d (last.todo.d b a)] := rfl
         have w1 : IntKind.i64.wrap ((m2.top : Int) - 1) = (m2.top : Int) - 1 := w64 _ (by omega)
         have hps := pop_stk m2 b a
         have q1 : (0 : Int) ≤ (m2.top : Int) - 1 := by omega
         have q2 : (m2.top : Int) - 1 < (m2.top : Int) := by omega
         have q3 : ((m2.top : Int) - 1).toNat = m2.top - 1 := by omega
         have q4 : (m2.top : Int) - 1 ≤ (m2.top : Int) := by omega
         have q5 : m2.top ≤ m2.stk.length := by omega
         have q6 : m2.pop.stk.length = m2.stk.length := by simp [Mst.pop]
         have q7 : m2.top ≤ m2.pop.stk.length := by omega
         have q8 : min m2.top m2.pop.stk.length = m2.top := by omega
         have q9 : min m2.top m2.stk.length = m2.top := by omega
         unfold Mst.objs Mst.objsT pO
         simp only [zX, simprocAttr, zM, rsV, h0, h1, h3, h6, h8, hbi, w1, q1, q2, q3, q4, q5, q6, q7, q8, q9, Nat.zero_add, hl, hls, hps, Option.map_some, List.length_take, List.length_map, List.length_cons, List.length_nil, List.drop, List.take, Int.sub_zero]
         refine ⟨i, _, _, by omega, Cln.refl, i, m2.pop, last, true, rfl, by omega, ?_, ?_, ?_, ?_, ?_, rfl, hx⟩ <;> (try simp only [zU, Nat.reduceBEq, Nat.reduceShiftRight, Nat.reduceMod, Nat.reduceEqDiff, reduceIte])
         ·exact h0
         ·exact h1
         ·exact h6
         ·exact h8
theorem search_ok (k : Nat) : SearchOK k := by
 induction k using Nat.strongRecOn with
 | ind k ih => exact search_step ih
end Go.Proofs.Ytilapneoohcplaa
