/- A part of the proof (G30 G32). -/
import Derived.Test.YtilapneoohcplaaBO27
import Derived.Test.YtilapneoohcplaaBO24
set_option linter.unusedSimpArgs false
set_option linter.unusedVariables false
set_option maxRecDepth 100000
set_option maxHeartbeats 80000000
namespace Go.Proofs.Ytilapneoohcplaa
open Go.VL Go.Proofs.Try
def SearchOK (k : Nat) : Prop := ∀ g b a m base p alive x, srchB k true m base p alive = some x → callWp prog 35 [.pp 0 g 0 0 b a, i64 (base : Nat), p.v b a, bV alive] (m.objs g b a) fun v s => v = rsV b a x.2.1 x.2.2 ∧ s = x.1.objs g b a
theorem clear_stk (m : Mst) (b a base : Nat) (h : base ≤ m.top) : putEls (m.stk.map (stV b a)) base (List.replicate (m.top - base) [V.d (D.sc (.int .i64 0)), .fu [], .d (D.sc (.pointer none))]) = (m.clear base).stk.map (stV b a) := by
 unfold putEls Mst.clear
 simp only [List.map_append, List.map_take, List.map_drop, List.map_replicate, List.length_replicate, stV, List.append_assoc]
 rw [show base + (m.top - base) = m.top by omega]
theorem mfirst_ok {k : Nat} (ih : SearchOK k) (g b a : Nat) (m : Mst) (p : BPlace) {x : Rs} (hx : firstB (fun m base p => srchB k true m base p true) m p = some x) :
  callWp prog 89 [.pp 0 g 0 0 b a, p.v b a] (m.objs g b a) fun v s => v = rsV b a x.2.1 x.2.2 ∧ s = x.1.objs g b a := by
 simp only [firstB] at hx
 cases hs : srchB k true m m.top p true with
 | none => rw [hs] at hx; cases hx
 | some y =>
  obtain ⟨m1, p1, found⟩ := y
  rw [hs] at hx
  simp only at hx
  split at hx
  ·cases hx
  rename_i hc
  cases hx
  have hst := fun ext => call_ms (ih g b a m m.top p true _ hs) rfl rfl rfl ext
  have q1 : m.top ≤ m1.top := by omega
  have q2 : m1.top ≤ m1.stk.length := by omega
  have q3 : (m.top : Int) ≤ (m1.top : Int) := by omega
  have q4 : (0 : Int) ≤ (m.top : Int) := by omega
  have hmin : min m1.top m1.stk.length = m1.top := by omega
  have hcl := clear_stk m1 b a m.top q1
  unfold Mst.objs Mst.objsT at hst
  simp only [zM, rsV] at hst
  unfold Mst.objs Mst.objsT
  refine fn_ok func89 rfl ntmps89 results89 rfl 3 251 (by simp) (by simp) ?_
  simp only [zX, simprocAttr, zM, rsV]
  refine callWp_mono (hst _) (fun v s' hv => ?_); obtain ⟨rfl, rfl⟩ := hv
  have hsub : ((m1.top : Int) - (m.top : Int)).toNat = m1.top - m.top := by omega
  have hlen : (m1.clear m.top).stk.length = m1.stk.length := by
   simp only [Mst.clear, List.length_append, List.length_take, List.length_replicate, List.length_drop]
   omega
  have q7 : m1.top ≤ (m1.clear m.top).stk.length := by omega
  have hmin2 : min m1.top (m1.clear m.top).stk.length = m1.top := by omega
  rcases Nat.lt_or_ge m.top m1.top with q5 | q5
  ·have q6 : (m.top : Int) < (m1.top : Int) := by omega
   simp only [zX, simprocAttr, zM, rsV, q1, q2, q3, q4, q6, q7, hmin, hmin2, hsub, hcl, List.length_take, List.length_map, Int.toNat_natCast, Nat.zero_add, or_true, clearWp, Int.le_refl, Nat.le_refl, Int.sub_zero]
   exact ⟨by omega, mobjs_ok (m1.clear m.top) b a, rfl⟩
  ·have q8 : m1.top = m.top := by omega
   have q6 : ¬ (m.top : Int) < (m1.top : Int) := by omega
   by_cases z : (m.top : Int) = 0
   ·have y := eq_true z
    simp only [zX, simprocAttr, zM, rsV, q1, q2, q3, q4, q6, q7, y, hmin, hmin2, hsub, hcl, List.length_take, List.length_map, Int.toNat_natCast, Nat.zero_add, true_or, clearWp, Int.le_refl, Nat.le_refl, Int.sub_zero]
    exact ⟨by omega, mobjs_ok (m1.clear m.top) b a, rfl⟩
   ·have y := eq_false z
    have hce : m1.clear m.top = m1 := by
     rw [← q8]
     obtain ⟨⟩ := m1
     simp only [Mst.clear, Nat.sub_self, List.replicate_zero, List.nil_append, List.take_append_drop]
    rw [hce]
    simp only [zX, simprocAttr, zM, rsV, q1, q2, q3, q4, q6, y, hmin, hsub, List.length_take, List.length_map, Int.toNat_natCast, Nat.zero_add, true_or, or_false, clearWp, Int.le_refl, Nat.le_refl, Int.sub_zero]
    rw [← q8]
    exact ⟨mobjs_ok m1 b a, rfl⟩
theorem malone_ok {k : Nat} (ih : SearchOK k) (g b a : Nat) (m : Mst) (p : BPlace) (part : BGoal) {x : Rs} (hx : aloneB (fun m base p => srchB k true m base p true) m p part = some x) :
  callWp prog 82 [.pp 0 g 0 0 b a, p.v b a, .d (part.d b a)] (m.objs g b a) fun v s => v = rsV b a x.2.1 x.2.2 ∧ s = x.1.objs g b a := by
 unfold aloneB at hx
 cases hs : firstB (fun m base p => srchB k true m base p true) m { p with todo := part } with
 | none => rw [hs] at hx; cases hx
 | some y =>
  obtain ⟨m1, r, found⟩ := y
  rw [hs] at hx
  cases hx
  have hst := fun ext => call_ms (mfirst_ok ih g b a m _ hs) rfl rfl rfl ext
  unfold Mst.objs Mst.objsT at hst
  simp only [zM, rsV] at hst
  unfold Mst.objs Mst.objsT
  refine fn_ok func82 rfl ntmps82 results82 rfl 3 983 (by simp) (by simp) ?_
  simp only [zX, simprocAttr, zM, rsV]
  refine callWp_mono (hst _) (fun v s' hv => ?_); obtain ⟨rfl, rfl⟩ := hv
  simp only [zX, simprocAttr, zM, rsV]
  exact mobjs_ok m1 b a
theorem look_el {k : Nat} (ih : SearchOK k) (g b a : Nat) (m : Mst) (re : Re) (p : BPlace) (kid : Re) (l : List Re) (hl : re.kids = kid :: l) (hp0 : 0 ≤ p.at_) (hp1 : p.at_ ≤ 1000000) {x : Rs} (hx : behindB (fun m base p => srchB k true m base p true) m re kid p = some x) :
  callWp prog 86 [.pp 0 g 0 0 b a, .d ((BRef.el re).d b a), p.v b a] (m.objs g b a) fun v s => v = rsV b a x.2.1 x.2.2 ∧ s = x.1.objs g b a := by
 have hk : re.kids[0]? = some kid := by rw [hl]; rfl
 have hl0 : (0 : Int) < (re.kids.length : Int) := by rw [hl, List.length_cons]; omega
 have hmt := match_ok b a (.el kid) .nil
 simp only [BGoal.d, BRef.d, Re.cells_eq, iD, bD] at hmt
 clear hl
 unfold behindB at hx
 by_cases o8 : re.op = 8
 ·have d8 : decide (re.op = 8) = true := decide_eq_true o8
  rw [if_pos o8, if_pos o8] at hx
  have hlk : ∀ q, lookGoals re.op kid q = .mk 0 (.el kid) 0 0 (.mk 5 .nil 0 q .nil) := fun q => if_pos o8
  simp only [hlk] at hx
  unfold Mst.objs Mst.objsT
  refine fn_ok func86 rfl ntmps86 results86 rfl 3 8167 (by simp) (by simp) ?_
  simp only [zX, simprocAttr, zM, rsV, BRef.d, Re.cells_eq, d8]
  refine loop_rule (fun n e s => ∃ (j : Nat) (m1 : Mst), n = j ∧ (j : Int) ≤ p.at_ + 1 ∧ m.Fr m1 ∧ e 0 = .pp 0 g 0 0 b a ∧ e 1 = .d ((BRef.el re).d b a) ∧ e 5 = .rf 3 0 0 0 ∧ e 6 = .rf 4 0 0 0 ∧ e 8 = i64 (0) ∧ e 9 = i64 (0 + j - 1) ∧ s = m1.objs g b a ++ [⟨0, true, 3, [(p.cells b a).map .d]⟩, ⟨0, true, 3, [[.d (iD 0), .fu [], .d (.sc (.pointer none))]]⟩] ∧
    lookB (fun q m => firstB (fun m base p => srchB k true m base p true) m { at_ := q, caps := p.caps, todo := .mk 0 (.el kid) 0 0 (.mk 5 .nil 0 p.at_ .nil) }) re.neg p (0) j m1 = some x)
   ⟨_, _, _, Cln.refl, (p.at_.toNat + 1), m, rfl, by omega, .refl _, rfl, ?_, rfl, rfl, rfl, ?_, rfl, hx⟩ ?_
  ·rw [BRef.d, Re.cells_eq]; rfl
  ·rw [show (0 : Int) + ((p.at_.toNat + 1) : Nat) - 1 = p.at_ by omega]; rfl
  clear hx
  rintro n e s ⟨j, m1, rfl, hj, hfr, h0, h1, h5, h6, h8, h9, rfl, hx⟩
  have hsp := hfr.p
  have h1x := h1
  simp only [BRef.d, Re.cells_eq, iD, bD] at h1x
  cases n with
  | zero =>
   simp only [lookB, Option.some.injEq] at hx
   cases hx
   rw [show (0 : Int) + ((0 : Nat) : Int) - 1 = 0 - 1 by omega] at h9
   have hle : ¬ (0 : Int) ≤ 0 - 1 := by omega
   unfold Mst.objs Mst.objsT
   cases hn : re.neg with
   | true =>
    simp only [zX, simprocAttr, zM, rsV, h0, h1x, h5, h6, h8, h9, d8, hl0, hk, hle, ge_iff_le]
    refine draw_c mix [] [(0,[3],[]),(2,[0],[]),(3,[0],[]),(4,[0],[]),(7,[0],[]),(8,[0],[]),(9,[0],[]),(12,[4],[4])] (by rfl) ?_
    simp only [zX, simprocAttr, zM, rsV, h0, h1x, h5, h6, h8, h9, d8, hl0, hk, hn]
    first | exact ⟨mobjs_ok m1 b a, rfl⟩ | exact mobjs_ok m1 b a
   | false =>
    simp only [zX, simprocAttr, zM, rsV, h0, h1x, h5, h6, h8, h9, d8, hl0, hk, hle, ge_iff_le]
    refine draw_c mix [] [(0,[3],[]),(2,[0],[]),(3,[0],[]),(4,[0],[]),(7,[0],[]),(8,[0],[]),(9,[0],[]),(12,[4],[4])] (by rfl) ?_
    simp only [zX, simprocAttr, zM, rsV, h0, h1x, h5, h6, h8, h9, d8, hl0, hk, hn]
    first | exact ⟨mobjs_ok m1 b a, rfl⟩ | exact mobjs_ok m1 b a
  | succ j =>
   rw [show (0 : Int) + ((j + 1 : Nat) : Int) - 1 = 0 + (j : Int) by omega] at h9
   have hle : (0 : Int) ≤ 0 + (j : Int) := by omega
   simp only [lookB] at hx
   by_cases he : m1.spent = true
   ·rw [if_pos he] at hx
    cases hx
    unfold Mst.objs Mst.objsT
    cases hn : re.neg with
    | true =>
     simp only [zX, simprocAttr, zM, rsV, h0, h1x, h5, h6, h8, h9, d8, hl0, hk, hle, he, ge_iff_le]
     refine draw_c mix [] [(0,[3],[]),(2,[0],[]),(3,[0],[]),(4,[0],[]),(7,[0],[]),(8,[0],[]),(9,[0],[]),(12,[4],[4])] (by rfl) ?_
     simp only [zX, simprocAttr, zM, rsV, h0, h1x, h5, h6, h8, h9, d8, hl0, hk, hn]
     first | exact ⟨mobjs_ok m1 b a, rfl⟩ | exact mobjs_ok m1 b a
    | false =>
     simp only [zX, simprocAttr, zM, rsV, h0, h1x, h5, h6, h8, h9, d8, hl0, hk, hle, he, ge_iff_le]
     refine draw_c mix [] [(0,[3],[]),(2,[0],[]),(3,[0],[]),(4,[0],[]),(7,[0],[]),(8,[0],[]),(9,[0],[]),(12,[4],[4])] (by rfl) ?_
     simp only [zX, simprocAttr, zM, rsV, h0, h1x, h5, h6, h8, h9, d8, hl0, hk, hn]
     first | exact ⟨mobjs_ok m1 b a, rfl⟩ | exact mobjs_ok m1 b a
   ·rw [if_neg he] at hx
    have he : m1.spent = false := by simpa using he
    cases hs : firstB (fun m base p => srchB k true m base p true) m1 { at_ := 0 + (j : Int), caps := p.caps, todo := .mk 0 (.el kid) 0 0 (.mk 5 .nil 0 p.at_ .nil) } with
    | none => rw [hs] at hx; cases hx
    | some y =>
     obtain ⟨m2, r, found⟩ := y
     rw [hs] at hx
     simp only at hx
     have hfr2 : m1.Fr m2 := fr_first (fun m base p x h => fr_srch k true m base p true x h) hs
     have hst := fun ext => call_ms (mfirst_ok ih g b a m1 _ hs) rfl rfl rfl ext
     unfold Mst.objs Mst.objsT at hst
     simp only [zM, rsV, BGoal.d, BRef.d, Re.cells_eq, he] at hst
     unfold Mst.objs Mst.objsT
     simp only [zX, simprocAttr, zM, rsV, h0, h1x, h5, h6, h8, h9, d8, hl0, hk, he, hle, ge_iff_le, Re.cells_eq]
     refine call_pure hmt rfl rfl ?_
     simp only [zX, simprocAttr, zM, rsV, h0, h1x, h5, h6, h8, h9, d8, hl0, hk, Re.cells_eq]
     refine draw_first Cln0.reserve ?_
     refine draw_c mix [9] [(1,[0],[]),(2,[0],[]),(3,[0],[]),(5,[3],[]),(6,[3],[]),(8,[5],[5])] (by rfl) ?_
     simp only [zX, simprocAttr, zM, rsV, hole, h0, h1x, h5, h6, h8, h9, d8, hl0, hk]
     refine callD_of (call_give [5] (by simp [killO, kill1, frzV.go, frzV, frzD, BGoal.d, BRef.d, Re.cells_eq, iD, bD]) (call_pure (match_ok b a (.el kid) (.mk 5 .nil 0 p.at_ .nil)) rfl rfl ⟨rfl, rfl⟩)) ?_
     simp only [zX, simprocAttr, zM, rsV, h0, h1x, h5, h6, h8, h9, d8, hl0, hk, killO, kill1, BRef.d, BGoal.d, Re.cells_eq]
     refine callWp_mono (hst _) (fun v s' hv => ?_); obtain ⟨rfl, rfl⟩ := hv
     cases found with
     | false =>
      simp only [Bool.false_eq_true, if_false] at hx
      simp only [zX, simprocAttr, zM, rsV, h0, h1x, h5, h6, h8, h9, d8, hl0, hk]
      refine ⟨j, _, _, by omega, Cln.cut (s' := m2.objs g b a ++ [⟨0, true, 3, [(p.cells b a).map .d]⟩, ⟨0, true, 3, [[.d (iD 0), .fu [], .d (.sc (.pointer none))]]⟩]) 5 (by omega) rfl ?_ [0, 1, 5, 6, 8, 9] ?_, j, m2, rfl, by omega, hfr.trans hfr2, ?_, ?_, ?_, ?_, ?_, ?_, rfl, hx⟩ <;> (try simp only [zU, Nat.reduceBEq, Nat.reduceShiftRight, Nat.reduceMod, Nat.reduceEqDiff, reduceIte])
      ·rw [List.all_append, show (m2.objs g b a).all (objOk 5) = true from objsT_ok g b a m2 _ 5 (by omega) (show refsV 5 m2.text = true by unfold Mst.text; split <;> rfl)]; rfl
      ·simp [updE, trimE_app, refsV, i64, h0, h1x, h5, h6, h8, h9]
      ·exact h0
      ·first | exact h1 | exact h1x
      ·exact h5
      ·exact h6
      ·exact h8
      ·rw [w64 _ (by omega)]
     | true =>
      simp only [if_true] at hx
      cases hneg : re.neg with
      | true =>
       skip
       rw [hneg] at hx
       cases hx
       simp only [zX, simprocAttr, zM, rsV, h0, h1x, h5, h6, h8, h9, d8, hl0, hk, hneg]
       first | exact ⟨mobjs_ok m2 b a, rfl⟩ | exact mobjs_ok m2 b a
      | false =>
       skip
       rw [hneg] at hx
       cases hx
       simp only [zX, simprocAttr, zM, rsV, h0, h1x, h5, h6, h8, h9, d8, hl0, hk, hneg]
       first | exact ⟨mobjs_ok m2 b a, rfl⟩ | exact mobjs_ok m2 b a
 ·have d8 : decide (re.op = 8) = false := decide_eq_false o8
  rw [if_neg o8, if_neg o8] at hx
  have hlk : ∀ q, lookGoals re.op kid q = .mk 0 (.el kid) 0 0 .nil := fun q => if_neg o8
  simp only [hlk] at hx
  unfold Mst.objs Mst.objsT
  refine fn_ok func86 rfl ntmps86 results86 rfl 3 8167 (by simp) (by simp) ?_
  simp only [zX, simprocAttr, zM, rsV, BRef.d, Re.cells_eq, d8]
  refine loop_rule (fun n e s => ∃ (j : Nat) (m1 : Mst), n = j ∧ (j : Int) ≤ 1 ∧ m.Fr m1 ∧ e 0 = .pp 0 g 0 0 b a ∧ e 1 = .d ((BRef.el re).d b a) ∧ e 5 = .rf 3 0 0 0 ∧ e 6 = .rf 4 0 0 0 ∧ e 8 = i64 (p.at_) ∧ e 9 = i64 (p.at_ + j - 1) ∧ s = m1.objs g b a ++ [⟨0, true, 3, [(p.cells b a).map .d]⟩, ⟨0, true, 3, [[.d (iD 0), .fu [], .d (.sc (.pointer none))]]⟩] ∧
    lookB (fun q m => firstB (fun m base p => srchB k true m base p true) m { at_ := q, caps := p.caps, todo := .mk 0 (.el kid) 0 0 .nil }) re.neg p (p.at_) j m1 = some x)
   ⟨_, _, _, Cln.refl, 1, m, rfl, by omega, .refl _, rfl, ?_, rfl, rfl, rfl, ?_, rfl, hx⟩ ?_
  ·rw [BRef.d, Re.cells_eq]; rfl
  ·rw [show (p.at_ : Int) + (1 : Nat) - 1 = p.at_ by omega]; rfl
  clear hx
  rintro n e s ⟨j, m1, rfl, hj, hfr, h0, h1, h5, h6, h8, h9, rfl, hx⟩
  have hsp := hfr.p
  have h1x := h1
  simp only [BRef.d, Re.cells_eq, iD, bD] at h1x
  cases n with
  | zero =>
   simp only [lookB, Option.some.injEq] at hx
   cases hx
   rw [show (p.at_ : Int) + ((0 : Nat) : Int) - 1 = p.at_ - 1 by omega] at h9
   have hle : ¬ (p.at_ : Int) ≤ p.at_ - 1 := by omega
   unfold Mst.objs Mst.objsT
   cases hn : re.neg with
   | true =>
    simp only [zX, simprocAttr, zM, rsV, h0, h1x, h5, h6, h8, h9, d8, hl0, hk, hle, ge_iff_le]
    refine draw_c mix [] [(0,[3],[]),(2,[0],[]),(3,[0],[]),(4,[0],[]),(7,[0],[]),(8,[0],[]),(9,[0],[]),(12,[4],[4])] (by rfl) ?_
    simp only [zX, simprocAttr, zM, rsV, h0, h1x, h5, h6, h8, h9, d8, hl0, hk, hn]
    first | exact ⟨mobjs_ok m1 b a, rfl⟩ | exact mobjs_ok m1 b a
   | false =>
    simp only [zX, simprocAttr, zM, rsV, h0, h1x, h5, h6, h8, h9, d8, hl0, hk, hle, ge_iff_le]
    refine draw_c mix [] [(0,[3],[]),(2,[0],[]),(3,[0],[]),(4,[0],[]),(7,[0],[]),(8,[0],[]),(9,[0],[]),(12,[4],[4])] (by rfl) ?_
    simp only [zX, simprocAttr, zM, rsV, h0, h1x, h5, h6, h8, h9, d8, hl0, hk, hn]
    first | exact ⟨mobjs_ok m1 b a, rfl⟩ | exact mobjs_ok m1 b a
  | succ j =>
   rw [show (p.at_ : Int) + ((j + 1 : Nat) : Int) - 1 = p.at_ + (j : Int) by omega] at h9
   have hle : (p.at_ : Int) ≤ p.at_ + (j : Int) := by omega
   simp only [lookB] at hx
   by_cases he : m1.spent = true
   ·rw [if_pos he] at hx
    cases hx
    unfold Mst.objs Mst.objsT
    cases hn : re.neg with
    | true =>
     simp only [zX, simprocAttr, zM, rsV, h0, h1x, h5, h6, h8, h9, d8, hl0, hk, hle, he, ge_iff_le]
     refine draw_c mix [] [(0,[3],[]),(2,[0],[]),(3,[0],[]),(4,[0],[]),(7,[0],[]),(8,[0],[]),(9,[0],[]),(12,[4],[4])] (by rfl) ?_
     simp only [zX, simprocAttr, zM, rsV, h0, h1x, h5, h6, h8, h9, d8, hl0, hk, hn]
     first | exact ⟨mobjs_ok m1 b a, rfl⟩ | exact mobjs_ok m1 b a
    | false =>
     simp only [zX, simprocAttr, zM, rsV, h0, h1x, h5, h6, h8, h9, d8, hl0, hk, hle, he, ge_iff_le]
     refine draw_c mix [] [(0,[3],[]),(2,[0],[]),(3,[0],[]),(4,[0],[]),(7,[0],[]),(8,[0],[]),(9,[0],[]),(12,[4],[4])] (by rfl) ?_
     simp only [zX, simprocAttr, zM, rsV, h0, h1x, h5, h6, h8, h9, d8, hl0, hk, hn]
     first | exact ⟨mobjs_ok m1 b a, rfl⟩ | exact mobjs_ok m1 b a
   ·rw [if_neg he] at hx
    have he : m1.spent = false := by simpa using he
    cases hs : firstB (fun m base p => srchB k true m base p true) m1 { at_ := p.at_ + (j : Int), caps := p.caps, todo := .mk 0 (.el kid) 0 0 .nil } with
    | none => rw [hs] at hx; cases hx
    | some y =>
     obtain ⟨m2, r, found⟩ := y
     rw [hs] at hx
     simp only at hx
     have hfr2 : m1.Fr m2 := fr_first (fun m base p x h => fr_srch k true m base p true x h) hs
     have hst := fun ext => call_ms (mfirst_ok ih g b a m1 _ hs) rfl rfl rfl ext
     unfold Mst.objs Mst.objsT at hst
     simp only [zM, rsV, BGoal.d, BRef.d, Re.cells_eq, he] at hst
     unfold Mst.objs Mst.objsT
     simp only [zX, simprocAttr, zM, rsV, h0, h1x, h5, h6, h8, h9, d8, hl0, hk, he, hle, ge_iff_le, Re.cells_eq]
     refine call_pure hmt rfl rfl ?_
     simp only [zX, simprocAttr, zM, rsV, h0, h1x, h5, h6, h8, h9, d8, hl0, hk, Re.cells_eq]
     refine callWp_mono (hst _) (fun v s' hv => ?_); obtain ⟨rfl, rfl⟩ := hv
     cases found with
     | false =>
      simp only [Bool.false_eq_true, if_false] at hx
      simp only [zX, simprocAttr, zM, rsV, h0, h1x, h5, h6, h8, h9, d8, hl0, hk]
      refine ⟨j, _, _, by omega, Cln.cut (s' := m2.objs g b a ++ [⟨0, true, 3, [(p.cells b a).map .d]⟩, ⟨0, true, 3, [[.d (iD 0), .fu [], .d (.sc (.pointer none))]]⟩]) 5 (by omega) rfl ?_ [0, 1, 5, 6, 8, 9] ?_, j, m2, rfl, by omega, hfr.trans hfr2, ?_, ?_, ?_, ?_, ?_, ?_, rfl, hx⟩ <;> (try simp only [zU, Nat.reduceBEq, Nat.reduceShiftRight, Nat.reduceMod, Nat.reduceEqDiff, reduceIte])
      ·rw [List.all_append, show (m2.objs g b a).all (objOk 5) = true from objsT_ok g b a m2 _ 5 (by omega) (show refsV 5 m2.text = true by unfold Mst.text; split <;> rfl)]; rfl
      ·simp [updE, trimE_app, refsV, i64, h0, h1x, h5, h6, h8, h9]
      ·exact h0
      ·first | exact h1 | exact h1x
      ·exact h5
      ·exact h6
      ·exact h8
      ·rw [w64 _ (by omega)]
     | true =>
      simp only [if_true] at hx
      cases hneg : re.neg with
      | true =>
       skip
       rw [hneg] at hx
       cases hx
       simp only [zX, simprocAttr, zM, rsV, h0, h1x, h5, h6, h8, h9, d8, hl0, hk, hneg]
       first | exact ⟨mobjs_ok m2 b a, rfl⟩ | exact mobjs_ok m2 b a
      | false =>
       skip
       rw [hneg] at hx
       cases hx
       simp only [zX, simprocAttr, zM, rsV, h0, h1x, h5, h6, h8, h9, d8, hl0, hk, hneg]
       first | exact ⟨mobjs_ok m2 b a, rfl⟩ | exact mobjs_ok m2 b a
theorem look_root {k : Nat} (ih : SearchOK k) (g b a : Nat) (m : Mst) (p : BPlace) (kid : Re) (l : List Re) (hl : m.p.re.kids = kid :: l) (hp0 : 0 ≤ p.at_) (hp1 : p.at_ ≤ 1000000) {x : Rs} (hx : behindB (fun m base p => srchB k true m base p true) m m.p.re kid p = some x) :
  callWp prog 86 [.pp 0 g 0 0 b a, .d ((BRef.root).d b a), p.v b a] (m.objs g b a) fun v s => v = rsV b a x.2.1 x.2.2 ∧ s = x.1.objs g b a := by
 have hk : m.p.re.kids[0]? = some kid := by rw [hl]; rfl
 have hl0 : (0 : Int) < (m.p.re.kids.length : Int) := by rw [hl, List.length_cons]; omega
 have hmt := match_ok b a (.el kid) .nil
 simp only [BGoal.d, BRef.d, Re.cells_eq, iD, bD] at hmt
 clear hl
 unfold behindB at hx
 by_cases o8 : m.p.re.op = 8
 ·have d8 : decide (m.p.re.op = 8) = true := decide_eq_true o8
  rw [if_pos o8, if_pos o8] at hx
  have hlk : ∀ q, lookGoals m.p.re.op kid q = .mk 0 (.el kid) 0 0 (.mk 5 .nil 0 q .nil) := fun q => if_pos o8
  simp only [hlk] at hx
  unfold Mst.objs Mst.objsT
  refine fn_ok func86 rfl ntmps86 results86 rfl 3 8167 (by simp) (by simp) ?_
  simp only [zX, simprocAttr, zM, rsV, BRef.d, Re.cells_eq, d8]
  refine loop_rule (fun n e s => ∃ (j : Nat) (m1 : Mst), n = j ∧ (j : Int) ≤ p.at_ + 1 ∧ m.Fr m1 ∧ e 0 = .pp 0 g 0 0 b a ∧ e 1 = .d ((BRef.root).d b a) ∧ e 5 = .rf 3 0 0 0 ∧ e 6 = .rf 4 0 0 0 ∧ e 8 = i64 (0) ∧ e 9 = i64 (0 + j - 1) ∧ s = m1.objs g b a ++ [⟨0, true, 3, [(p.cells b a).map .d]⟩, ⟨0, true, 3, [[.d (iD 0), .fu [], .d (.sc (.pointer none))]]⟩] ∧
    lookB (fun q m => firstB (fun m base p => srchB k true m base p true) m { at_ := q, caps := p.caps, todo := .mk 0 (.el kid) 0 0 (.mk 5 .nil 0 p.at_ .nil) }) m.p.re.neg p (0) j m1 = some x)
   ⟨_, _, _, Cln.refl, (p.at_.toNat + 1), m, rfl, by omega, .refl _, rfl, ?_, rfl, rfl, rfl, ?_, rfl, hx⟩ ?_
  ·rfl
  ·rw [show (0 : Int) + ((p.at_.toNat + 1) : Nat) - 1 = p.at_ by omega]; rfl
  clear hx
  rintro n e s ⟨j, m1, rfl, hj, hfr, h0, h1, h5, h6, h8, h9, rfl, hx⟩
  have hsp := hfr.p
  have h1x := h1
  simp only [BRef.d, Re.cells_eq, iD, bD] at h1x
  rw [← hsp] at hk hl0 d8 hx
  have hxe : m.p.re = m1.p.re := by rw [hsp]
  cases n with
  | zero =>
   simp only [lookB, Option.some.injEq] at hx
   cases hx
   rw [show (0 : Int) + ((0 : Nat) : Int) - 1 = 0 - 1 by omega] at h9
   have hle : ¬ (0 : Int) ≤ 0 - 1 := by omega
   unfold Mst.objs Mst.objsT
   cases hn : m1.p.re.neg with
   | true =>
    simp only [zX, simprocAttr, zM, rsV, h0, h1x, h5, h6, h8, h9, d8, hl0, hk, hle, ge_iff_le]
    refine draw_c mix [] [(0,[3],[]),(2,[0],[]),(3,[0],[]),(4,[0],[]),(7,[0],[]),(8,[0],[]),(9,[0],[]),(12,[4],[4])] (by rfl) ?_
    simp only [zX, simprocAttr, zM, rsV, h0, h1x, h5, h6, h8, h9, d8, hl0, hk, hn]
    first | exact ⟨mobjs_ok m1 b a, rfl⟩ | exact mobjs_ok m1 b a
   | false =>
    simp only [zX, simprocAttr, zM, rsV, h0, h1x, h5, h6, h8, h9, d8, hl0, hk, hle, ge_iff_le]
    refine draw_c mix [] [(0,[3],[]),(2,[0],[]),(3,[0],[]),(4,[0],[]),(7,[0],[]),(8,[0],[]),(9,[0],[]),(12,[4],[4])] (by rfl) ?_
    simp only [zX, simprocAttr, zM, rsV, h0, h1x, h5, h6, h8, h9, d8, hl0, hk, hn]
    first | exact ⟨mobjs_ok m1 b a, rfl⟩ | exact mobjs_ok m1 b a
  | succ j =>
   rw [show (0 : Int) + ((j + 1 : Nat) : Int) - 1 = 0 + (j : Int) by omega] at h9
   have hle : (0 : Int) ≤ 0 + (j : Int) := by omega
   simp only [lookB] at hx
   by_cases he : m1.spent = true
   ·rw [if_pos he] at hx
    cases hx
    unfold Mst.objs Mst.objsT
    cases hn : m1.p.re.neg with
    | true =>
     simp only [zX, simprocAttr, zM, rsV, h0, h1x, h5, h6, h8, h9, d8, hl0, hk, hle, he, ge_iff_le]
     refine draw_c mix [] [(0,[3],[]),(2,[0],[]),(3,[0],[]),(4,[0],[]),(7,[0],[]),(8,[0],[]),(9,[0],[]),(12,[4],[4])] (by rfl) ?_
     simp only [zX, simprocAttr, zM, rsV, h0, h1x, h5, h6, h8, h9, d8, hl0, hk, hn]
     first | exact ⟨mobjs_ok m1 b a, rfl⟩ | exact mobjs_ok m1 b a
    | false =>
     simp only [zX, simprocAttr, zM, rsV, h0, h1x, h5, h6, h8, h9, d8, hl0, hk, hle, he, ge_iff_le]
     refine draw_c mix [] [(0,[3],[]),(2,[0],[]),(3,[0],[]),(4,[0],[]),(7,[0],[]),(8,[0],[]),(9,[0],[]),(12,[4],[4])] (by rfl) ?_
     simp only [zX, simprocAttr, zM, rsV, h0, h1x, h5, h6, h8, h9, d8, hl0, hk, hn]
     first | exact ⟨mobjs_ok m1 b a, rfl⟩ | exact mobjs_ok m1 b a
   ·rw [if_neg he] at hx
    have he : m1.spent = false := by simpa using he
    cases hs : firstB (fun m base p => srchB k true m base p true) m1 { at_ := 0 + (j : Int), caps := p.caps, todo := .mk 0 (.el kid) 0 0 (.mk 5 .nil 0 p.at_ .nil) } with
    | none => rw [hs] at hx; cases hx
    | some y =>
     obtain ⟨m2, r, found⟩ := y
     rw [hs] at hx
     simp only at hx
     have hfr2 : m1.Fr m2 := fr_first (fun m base p x h => fr_srch k true m base p true x h) hs
     have hst := fun ext => call_ms (mfirst_ok ih g b a m1 _ hs) rfl rfl rfl ext
     unfold Mst.objs Mst.objsT at hst
     simp only [zM, rsV, BGoal.d, BRef.d, Re.cells_eq, he] at hst
     unfold Mst.objs Mst.objsT
     simp only [zX, simprocAttr, zM, rsV, h0, h1x, h5, h6, h8, h9, d8, hl0, hk, he, hle, ge_iff_le, Re.cells_eq]
     refine call_pure hmt rfl rfl ?_
     simp only [zX, simprocAttr, zM, rsV, h0, h1x, h5, h6, h8, h9, d8, hl0, hk, Re.cells_eq]
     refine draw_first Cln0.reserve ?_
     refine draw_c mix [9] [(1,[0],[]),(2,[0],[]),(3,[0],[]),(5,[3],[]),(6,[3],[]),(8,[5],[5])] (by rfl) ?_
     simp only [zX, simprocAttr, zM, rsV, hole, h0, h1x, h5, h6, h8, h9, d8, hl0, hk]
     refine callD_of (call_give [5] (by simp [killO, kill1, frzV.go, frzV, frzD, BGoal.d, BRef.d, Re.cells_eq, iD, bD]) (call_pure (match_ok b a (.el kid) (.mk 5 .nil 0 p.at_ .nil)) rfl rfl ⟨rfl, rfl⟩)) ?_
     simp only [zX, simprocAttr, zM, rsV, h0, h1x, h5, h6, h8, h9, d8, hl0, hk, killO, kill1, BRef.d, BGoal.d, Re.cells_eq]
     refine callWp_mono (hst _) (fun v s' hv => ?_); obtain ⟨rfl, rfl⟩ := hv
     cases found with
     | false =>
      simp only [Bool.false_eq_true, if_false] at hx
      simp only [zX, simprocAttr, zM, rsV, h0, h1x, h5, h6, h8, h9, d8, hl0, hk]
      refine ⟨j, _, _, by omega, Cln.cut (s' := m2.objs g b a ++ [⟨0, true, 3, [(p.cells b a).map .d]⟩, ⟨0, true, 3, [[.d (iD 0), .fu [], .d (.sc (.pointer none))]]⟩]) 5 (by omega) rfl ?_ [0, 1, 5, 6, 8, 9] ?_, j, m2, rfl, by omega, hfr.trans hfr2, ?_, ?_, ?_, ?_, ?_, ?_, rfl, by rw [hxe]; exact hx⟩ <;> (try simp only [zU, Nat.reduceBEq, Nat.reduceShiftRight, Nat.reduceMod, Nat.reduceEqDiff, reduceIte])
      ·rw [List.all_append, show (m2.objs g b a).all (objOk 5) = true from objsT_ok g b a m2 _ 5 (by omega) (show refsV 5 m2.text = true by unfold Mst.text; split <;> rfl)]; rfl
      ·simp [updE, trimE_app, refsV, i64, h0, h1x, h5, h6, h8, h9]
      ·exact h0
      ·first | exact h1 | exact h1x
      ·exact h5
      ·exact h6
      ·exact h8
      ·rw [w64 _ (by omega)]
     | true =>
      simp only [if_true] at hx
      cases hneg : m1.p.re.neg with
      | true =>
       have hneg2 := hneg; rw [← hfr2.p] at hneg2
       rw [hneg] at hx
       cases hx
       simp only [zX, simprocAttr, zM, rsV, h0, h1x, h5, h6, h8, h9, d8, hl0, hk, hneg2]
       first | exact ⟨mobjs_ok m2 b a, rfl⟩ | exact mobjs_ok m2 b a
      | false =>
       have hneg2 := hneg; rw [← hfr2.p] at hneg2
       rw [hneg] at hx
       cases hx
       simp only [zX, simprocAttr, zM, rsV, h0, h1x, h5, h6, h8, h9, d8, hl0, hk, hneg2]
       first | exact ⟨mobjs_ok m2 b a, rfl⟩ | exact mobjs_ok m2 b a
 ·have d8 : decide (m.p.re.op = 8) = false := decide_eq_false o8
  rw [if_neg o8, if_neg o8] at hx
  have hlk : ∀ q, lookGoals m.p.re.op kid q = .mk 0 (.el kid) 0 0 .nil := fun q => if_neg o8
  simp only [hlk] at hx
  unfold Mst.objs Mst.objsT
  refine fn_ok func86 rfl ntmps86 results86 rfl 3 8167 (by simp) (by simp) ?_
  simp only [zX, simprocAttr, zM, rsV, BRef.d, Re.cells_eq, d8]
  refine loop_rule (fun n e s => ∃ (j : Nat) (m1 : Mst), n = j ∧ (j : Int) ≤ 1 ∧ m.Fr m1 ∧ e 0 = .pp 0 g 0 0 b a ∧ e 1 = .d ((BRef.root).d b a) ∧ e 5 = .rf 3 0 0 0 ∧ e 6 = .rf 4 0 0 0 ∧ e 8 = i64 (p.at_) ∧ e 9 = i64 (p.at_ + j - 1) ∧ s = m1.objs g b a ++ [⟨0, true, 3, [(p.cells b a).map .d]⟩, ⟨0, true, 3, [[.d (iD 0), .fu [], .d (.sc (.pointer none))]]⟩] ∧
    lookB (fun q m => firstB (fun m base p => srchB k true m base p true) m { at_ := q, caps := p.caps, todo := .mk 0 (.el kid) 0 0 .nil }) m.p.re.neg p (p.at_) j m1 = some x)
   ⟨_, _, _, Cln.refl, 1, m, rfl, by omega, .refl _, rfl, ?_, rfl, rfl, rfl, ?_, rfl, hx⟩ ?_
  ·rfl
  ·rw [show (p.at_ : Int) + (1 : Nat) - 1 = p.at_ by omega]; rfl
  clear hx
  rintro n e s ⟨j, m1, rfl, hj, hfr, h0, h1, h5, h6, h8, h9, rfl, hx⟩
  have hsp := hfr.p
  have h1x := h1
  simp only [BRef.d, Re.cells_eq, iD, bD] at h1x
  rw [← hsp] at hk hl0 d8 hx
  have hxe : m.p.re = m1.p.re := by rw [hsp]
  cases n with
  | zero =>
   simp only [lookB, Option.some.injEq] at hx
   cases hx
   rw [show (p.at_ : Int) + ((0 : Nat) : Int) - 1 = p.at_ - 1 by omega] at h9
   have hle : ¬ (p.at_ : Int) ≤ p.at_ - 1 := by omega
   unfold Mst.objs Mst.objsT
   cases hn : m1.p.re.neg with
   | true =>
    simp only [zX, simprocAttr, zM, rsV, h0, h1x, h5, h6, h8, h9, d8, hl0, hk, hle, ge_iff_le]
    refine draw_c mix [] [(0,[3],[]),(2,[0],[]),(3,[0],[]),(4,[0],[]),(7,[0],[]),(8,[0],[]),(9,[0],[]),(12,[4],[4])] (by rfl) ?_
    simp only [zX, simprocAttr, zM, rsV, h0, h1x, h5, h6, h8, h9, d8, hl0, hk, hn]
    first | exact ⟨mobjs_ok m1 b a, rfl⟩ | exact mobjs_ok m1 b a
   | false =>
    simp only [zX, simprocAttr, zM, rsV, h0, h1x, h5, h6, h8, h9, d8, hl0, hk, hle, ge_iff_le]
    refine draw_c mix [] [(0,[3],[]),(2,[0],[]),(3,[0],[]),(4,[0],[]),(7,[0],[]),(8,[0],[]),(9,[0],[]),(12,[4],[4])] (by rfl) ?_
    simp only [zX, simprocAttr, zM, rsV, h0, h1x, h5, h6, h8, h9, d8, hl0, hk, hn]
    first | exact ⟨mobjs_ok m1 b a, rfl⟩ | exact mobjs_ok m1 b a
  | succ j =>
   rw [show (p.at_ : Int) + ((j + 1 : Nat) : Int) - 1 = p.at_ + (j : Int) by omega] at h9
   have hle : (p.at_ : Int) ≤ p.at_ + (j : Int) := by omega
   simp only [lookB] at hx
   by_cases he : m1.spent = true
   ·rw [if_pos he] at hx
    cases hx
    unfold Mst.objs Mst.objsT
    cases hn : m1.p.re.neg with
    | true =>
     simp only [zX, simprocAttr, zM, rsV, h0, h1x, h5, h6, h8, h9, d8, hl0, hk, hle, he, ge_iff_le]
     refine draw_c mix [] [(0,[3],[]),(2,[0],[]),(3,[0],[]),(4,[0],[]),(7,[0],[]),(8,[0],[]),(9,[0],[]),(12,[4],[4])] (by rfl) ?_
     simp only [zX, simprocAttr, zM, rsV, h0, h1x, h5, h6, h8, h9, d8, hl0, hk, hn]
     first | exact ⟨mobjs_ok m1 b a, rfl⟩ | exact mobjs_ok m1 b a
    | false =>
     simp only [zX, simprocAttr, zM, rsV, h0, h1x, h5, h6, h8, h9, d8, hl0, hk, hle, he, ge_iff_le]
     refine draw_c mix [] [(0,[3],[]),(2,[0],[]),(3,[0],[]),(4,[0],[]),(7,[0],[]),(8,[0],[]),(9,[0],[]),(12,[4],[4])] (by rfl) ?_
     simp only [zX, simprocAttr, zM, rsV, h0, h1x, h5, h6, h8, h9, d8, hl0, hk, hn]
     first | exact ⟨mobjs_ok m1 b a, rfl⟩ | exact mobjs_ok m1 b a
   ·rw [if_neg he] at hx
    have he : m1.spent = false := by simpa using he
    cases hs : firstB (fun m base p => srchB k true m base p true) m1 { at_ := p.at_ + (j : Int), caps := p.caps, todo := .mk 0 (.el kid) 0 0 .nil } with
    | none => rw [hs] at hx; cases hx
    | some y =>
     obtain ⟨m2, r, found⟩ := y
     rw [hs] at hx
     simp only at hx
     have hfr2 : m1.Fr m2 := fr_first (fun m base p x h => fr_srch k true m base p true x h) hs
     have hst := fun ext => call_ms (mfirst_ok ih g b a m1 _ hs) rfl rfl rfl ext
     unfold Mst.objs Mst.objsT at hst
     simp only [zM, rsV, BGoal.d, BRef.d, Re.cells_eq, he] at hst
     unfold Mst.objs Mst.objsT
     simp only [zX, simprocAttr, zM, rsV, h0, h1x, h5, h6, h8, h9, d8, hl0, hk, he, hle, ge_iff_le, Re.cells_eq]
     refine call_pure hmt rfl rfl ?_
     simp only [zX, simprocAttr, zM, rsV, h0, h1x, h5, h6, h8, h9, d8, hl0, hk, Re.cells_eq]
     refine callWp_mono (hst _) (fun v s' hv => ?_); obtain ⟨rfl, rfl⟩ := hv
     cases found with
     | false =>
      simp only [Bool.false_eq_true, if_false] at hx
      simp only [zX, simprocAttr, zM, rsV, h0, h1x, h5, h6, h8, h9, d8, hl0, hk]
      refine ⟨j, _, _, by omega, Cln.cut (s' := m2.objs g b a ++ [⟨0, true, 3, [(p.cells b a).map .d]⟩, ⟨0, true, 3, [[.d (iD 0), .fu [], .d (.sc (.pointer none))]]⟩]) 5 (by omega) rfl ?_ [0, 1, 5, 6, 8, 9] ?_, j, m2, rfl, by omega, hfr.trans hfr2, ?_, ?_, ?_, ?_, ?_, ?_, rfl, by rw [hxe]; exact hx⟩ <;> (try simp only [zU, Nat.reduceBEq, Nat.reduceShiftRight, Nat.reduceMod, Nat.reduceEqDiff, reduceIte])
      ·rw [List.all_append, show (m2.objs g b a).all (objOk 5) = true from objsT_ok g b a m2 _ 5 (by omega) (show refsV 5 m2.text = true by unfold Mst.text; split <;> rfl)]; rfl
      ·simp [updE, trimE_app, refsV, i64, h0, h1x, h5, h6, h8, h9]
      ·exact h0
      ·first | exact h1 | exact h1x
      ·exact h5
      ·exact h6
      ·exact h8
      ·rw [w64 _ (by omega)]
     | true =>
      simp only [if_true] at hx
      cases hneg : m1.p.re.neg with
      | true =>
       have hneg2 := hneg; rw [← hfr2.p] at hneg2
       rw [hneg] at hx
       cases hx
       simp only [zX, simprocAttr, zM, rsV, h0, h1x, h5, h6, h8, h9, d8, hl0, hk, hneg2]
       first | exact ⟨mobjs_ok m2 b a, rfl⟩ | exact mobjs_ok m2 b a
      | false =>
       have hneg2 := hneg; rw [← hfr2.p] at hneg2
       rw [hneg] at hx
       cases hx
       simp only [zX, simprocAttr, zM, rsV, h0, h1x, h5, h6, h8, h9, d8, hl0, hk, hneg2]
       first | exact ⟨mobjs_ok m2 b a, rfl⟩ | exact mobjs_ok m2 b a
end Go.Proofs.Ytilapneoohcplaa
