/- A part of the proof (G35). -/
import Derived.Test.YtilapneoohcplaaBO30
set_option linter.unusedSimpArgs false
set_option linter.unusedVariables false
set_option maxRecDepth 100000
set_option maxHeartbeats 80000000
namespace Go.Proofs.Ytilapneoohcplaa
open Go.VL Go.Proofs.Try
theorem assert_lend {og : Nat} {own t : List Int} {x y : Int} {r : Bool} {s : List VL.Obj} {K : V → List VL.Obj → Prop} (h : PureOK prog 87 [.d (.sc (.int .i64 x)), .d (intsD t), .d (.sc (.int .i64 y))] (.d (.sc (.bool r)))) (ht : own = t)
  (hs : s[2]? = some ⟨og, true, 1, own.map fun x => [V.d (.sc (.int .i64 x))]⟩) (hk : K (.d (.sc (.bool r))) s) :
  callF prog [2] [] 87 [.d (.sc (.int .i64 x)), .so 2 og 0 t.length, .d (.sc (.int .i64 y))] s K := by
 refine ⟨_, [], rfl, fun s' hl hr => ?_, hk⟩
 have hs' : s'[2]? = some ⟨og, true, 1, own.map fun x => [V.d (.sc (.int .i64 x))]⟩ := by rw [hr 2 (by simp)]; exact hs
 refine call_lend [2] h ?_ rfl ⟨rfl, rfl⟩
 have hk2 : (killO s' [2])[2]? = some ⟨og, false, 1, own.map fun x => [V.d (iD x)]⟩ := by
  simp only [killO, kill1, hs']
  rw [List.getElem?_set_self (List.getElem?_eq_some_iff.1 hs').1]
  rfl
 have := lend_so (lim := (killO s' [2]).length) (own := own) hk2 (show 0 + t.length ≤ own.length by rw [ht]; omega)
 rw [List.drop_zero, ht, List.take_length] at this
 simp only [frzV.go, this]
 rfl
theorem begin_6_el {k : Nat} (ih : SearchOK k) (g b a : Nat) (m : Mst) (re : Re) (p : BPlace) (hm : m.good p) (hset : re.set.length ≤ 1000000000) (hkids : re.kids.length ≤ 1000000000) (ho : re.op = 6) (hf : ¬ m.fuel ≤ m.steps) {x : Rs} (hx : beginB (fun m base p => srchB k true m base p true) m (.el re) p = some x) :
  callWp prog 66 [.pp 0 g 0 0 b a, .d ((BRef.el re).d b a), p.v b a] (m.objs g b a) fun v s => v = rsV b a x.2.1 x.2.2 ∧ s = x.1.objs g b a := by
 obtain ⟨⟨g1, g2, g3, g4⟩, ⟨g5, g6, g7⟩, g8, g9⟩ := hm
 unfold beginB at hx
 simp only [Mst.lit] at hx
 rw [if_neg (by omega)] at hx
 have d4 : decide (re.op = 4) = false := decide_eq_false (by omega)
 have hst := fun ext => call_ms (mstep_ok g b a m g1 g2) rfl rfl rfl ext
 have hsp := m.step_p
 have hfrs := m.fr_step
 rw [if_neg (by omega), if_neg hf] at hx
 have hd : decide (m.steps < m.fuel) = true := decide_eq_true (by omega)
 simp only [hd] at hst
 have t1 : m.step.t.length ≤ 1000000 := by rw [hfrs.t]; exact g8
 have t2 : p.at_ ≤ m.step.t.length := by rw [hfrs.t]; exact g6
 have t3 : m.step.same := fun h => by rw [hfrs.own, hfrs.t]; exact g9 (by rw [← hfrs.ownText]; exact h)
 generalize hm1 : m.step = m1 at *
 obtain ⟨d1, d2, d3, _, d5, d6, d7, d8, d9, d10, d11⟩ := opd6 (o := re.op) (by omega)
 rw [if_neg (by omega), if_neg (by omega), if_neg (by omega), if_neg (by omega), if_pos (by omega)] at hx
 cases hr : refR m1.t re p with
 | none => rw [hr] at hx; cases hx
 | some y =>
 rw [hr] at hx
 cases hx
 have hcl := fun ext => call_ms (mref_ok g b a m1 (.el re) re p rfl hr g7 g5 t2 t1 t3) rfl rfl rfl ext
 obtain ⟨y1, y2⟩ := y
 unfold Mst.objs Mst.objsT at hcl
 simp only [zM, rsV, BGoal.d, BRef.d, Re.cells_eq] at hcl
 unfold Mst.objs Mst.objsT at hst
 simp only [zM, rsV] at hst
 unfold Mst.objs Mst.objsT
 refine fn_ok func66 rfl ntmps66 results66 rfl 3 158456325028528677386111158247 (by simp) (by simp) ?_
 simp only [zX, simprocAttr, -Int.reduceNatCast', zM, rsV, BRef.d, Re.cells_eq, d4]
 refine callWp_mono (hst _) (fun v s' hv => ?_); obtain ⟨rfl, rfl⟩ := hv
 simp only [zX, simprocAttr, -Int.reduceNatCast', zM, rsV, Bool.not_true, Re.cells_eq, d1, d2, d3, d5, d6, d7, d8, d9, d10, d11]
 refine callWp_mono (hcl _) (fun v s' hv => ?_); obtain ⟨rfl, rfl⟩ := hv
 simp only [zX, simprocAttr, -Int.reduceNatCast', zM, rsV]
 first
  |(refine ⟨mobjs_ok m1 b a, ?_⟩; simp only [zM, rsV, fro, pushB, BGoal.d, BRef.d, Re.cells_eq]; done)
  | exact ⟨mobjs_ok m1 b a, rfl⟩
  | exact mobjs_ok m1 b a
theorem begin_6_root {k : Nat} (ih : SearchOK k) (g b a : Nat) (m : Mst) (p : BPlace) (hm : m.good p) (hset : m.p.re.set.length ≤ 1000000000) (hkids : m.p.re.kids.length ≤ 1000000000) (ho : m.p.re.op = 6) (hf : ¬ m.fuel ≤ m.steps) {x : Rs} (hx : beginB (fun m base p => srchB k true m base p true) m .root p = some x) :
  callWp prog 66 [.pp 0 g 0 0 b a, .d ((BRef.root).d b a), p.v b a] (m.objs g b a) fun v s => v = rsV b a x.2.1 x.2.2 ∧ s = x.1.objs g b a := by
 obtain ⟨⟨g1, g2, g3, g4⟩, ⟨g5, g6, g7⟩, g8, g9⟩ := hm
 unfold beginB at hx
 simp only [Mst.lit] at hx
 rw [if_neg (by omega)] at hx
 have d4 : decide (m.p.re.op = 4) = false := decide_eq_false (by omega)
 have hst := fun ext => call_ms (mstep_ok g b a m g1 g2) rfl rfl rfl ext
 have hsp := m.step_p
 have hfrs := m.fr_step
 rw [if_neg (by omega), if_neg hf] at hx
 have hd : decide (m.steps < m.fuel) = true := decide_eq_true (by omega)
 simp only [hd] at hst
 have t1 : m.step.t.length ≤ 1000000 := by rw [hfrs.t]; exact g8
 have t2 : p.at_ ≤ m.step.t.length := by rw [hfrs.t]; exact g6
 have t3 : m.step.same := fun h => by rw [hfrs.own, hfrs.t]; exact g9 (by rw [← hfrs.ownText]; exact h)
 generalize hm1 : m.step = m1 at *
 rw [← hsp] at hset hkids ho hx
 obtain ⟨d1, d2, d3, _, d5, d6, d7, d8, d9, d10, d11⟩ := opd6 (o := m1.p.re.op) (by omega)
 rw [if_neg (by omega), if_neg (by omega), if_neg (by omega), if_neg (by omega), if_pos (by omega)] at hx
 cases hr : refR m1.t m1.p.re p with
 | none => rw [hr] at hx; cases hx
 | some y =>
 rw [hr] at hx
 cases hx
 have hcl := fun ext => call_ms (mref_ok g b a m1 .root m1.p.re p rfl hr g7 g5 t2 t1 t3) rfl rfl rfl ext
 obtain ⟨y1, y2⟩ := y
 unfold Mst.objs Mst.objsT at hcl
 simp only [zM, rsV, BGoal.d, BRef.d, Re.cells_eq] at hcl
 unfold Mst.objs Mst.objsT at hst
 simp only [zM, rsV] at hst
 unfold Mst.objs Mst.objsT
 refine fn_ok func66 rfl ntmps66 results66 rfl 3 158456325028528677386111158247 (by simp) (by simp) ?_
 simp only [zX, simprocAttr, -Int.reduceNatCast', zM, rsV, BRef.d, Re.cells_eq, d4]
 refine callWp_mono (hst _) (fun v s' hv => ?_); obtain ⟨rfl, rfl⟩ := hv
 simp only [zX, simprocAttr, -Int.reduceNatCast', zM, rsV, Bool.not_true, Re.cells_eq, d1, d2, d3, d5, d6, d7, d8, d9, d10, d11]
 refine callWp_mono (hcl _) (fun v s' hv => ?_); obtain ⟨rfl, rfl⟩ := hv
 simp only [zX, simprocAttr, -Int.reduceNatCast', zM, rsV]
 first
  |(refine ⟨mobjs_ok m1 b a, ?_⟩; simp only [zM, rsV, fro, pushB, BGoal.d, BRef.d, Re.cells_eq]; done)
  | exact ⟨mobjs_ok m1 b a, rfl⟩
  | exact mobjs_ok m1 b a
theorem begin_7_el {k : Nat} (ih : SearchOK k) (g b a : Nat) (m : Mst) (re : Re) (p : BPlace) (hm : m.good p) (hset : re.set.length ≤ 1000000000) (hkids : re.kids.length ≤ 1000000000) (ho : re.op = 7) (hf : ¬ m.fuel ≤ m.steps) {x : Rs} (hx : beginB (fun m base p => srchB k true m base p true) m (.el re) p = some x) :
  callWp prog 66 [.pp 0 g 0 0 b a, .d ((BRef.el re).d b a), p.v b a] (m.objs g b a) fun v s => v = rsV b a x.2.1 x.2.2 ∧ s = x.1.objs g b a := by
 obtain ⟨⟨g1, g2, g3, g4⟩, ⟨g5, g6, g7⟩, g8, g9⟩ := hm
 unfold beginB at hx
 simp only [Mst.lit] at hx
 rw [if_neg (by omega)] at hx
 have d4 : decide (re.op = 4) = false := decide_eq_false (by omega)
 have hst := fun ext => call_ms (mstep_ok g b a m g1 g2) rfl rfl rfl ext
 have hsp := m.step_p
 have hfrs := m.fr_step
 rw [if_neg (by omega), if_neg hf] at hx
 have hd : decide (m.steps < m.fuel) = true := decide_eq_true (by omega)
 simp only [hd] at hst
 have t1 : m.step.t.length ≤ 1000000 := by rw [hfrs.t]; exact g8
 have t2 : p.at_ ≤ m.step.t.length := by rw [hfrs.t]; exact g6
 have t3 : m.step.same := fun h => by rw [hfrs.own, hfrs.t]; exact g9 (by rw [← hfrs.ownText]; exact h)
 generalize hm1 : m.step = m1 at *
 obtain ⟨d1, d2, d3, _, d5, d6, d7, d8, d9, d10, d11⟩ := opd7 (o := re.op) (by omega)
 rw [if_neg (by omega), if_neg (by omega), if_neg (by omega), if_neg (by omega), if_neg (by omega), if_pos (by omega)] at hx
 obtain ⟨kid, l, hl⟩ : ∃ kid l, re.kids = kid :: l := by
  cases hh : re.kids with
  | nil => rw [hh] at hx; cases hx
  | cons y l => exact ⟨y, l, rfl⟩
 rw [hl] at hx
 have hcl := fun ext => call_ms (look_el ih g b a m1 re p kid l hl g5 (by omega) hx) rfl rfl rfl ext
 obtain ⟨m2, y1, y2⟩ := x
 unfold Mst.objs Mst.objsT at hcl
 simp only [zM, rsV, BGoal.d, BRef.d, Re.cells_eq] at hcl
 unfold Mst.objs Mst.objsT at hst
 simp only [zM, rsV] at hst
 unfold Mst.objs Mst.objsT
 refine fn_ok func66 rfl ntmps66 results66 rfl 3 158456325028528677386111158247 (by simp) (by simp) ?_
 simp only [zX, simprocAttr, -Int.reduceNatCast', zM, rsV, BRef.d, Re.cells_eq, d4]
 refine callWp_mono (hst _) (fun v s' hv => ?_); obtain ⟨rfl, rfl⟩ := hv
 simp only [zX, simprocAttr, -Int.reduceNatCast', zM, rsV, Bool.not_true, Re.cells_eq, d1, d2, d3, d5, d6, d7, d8, d9, d10, d11]
 refine callWp_mono (hcl _) (fun v s' hv => ?_); obtain ⟨rfl, rfl⟩ := hv
 simp only [zX, simprocAttr, -Int.reduceNatCast', zM, rsV]
 first
  |(refine ⟨mobjs_ok m2 b a, ?_⟩; simp only [zM, rsV, fro, pushB, BGoal.d, BRef.d, Re.cells_eq]; done)
  | exact ⟨mobjs_ok m2 b a, rfl⟩
  | exact mobjs_ok m2 b a
theorem begin_7_root {k : Nat} (ih : SearchOK k) (g b a : Nat) (m : Mst) (p : BPlace) (hm : m.good p) (hset : m.p.re.set.length ≤ 1000000000) (hkids : m.p.re.kids.length ≤ 1000000000) (ho : m.p.re.op = 7) (hf : ¬ m.fuel ≤ m.steps) {x : Rs} (hx : beginB (fun m base p => srchB k true m base p true) m .root p = some x) :
  callWp prog 66 [.pp 0 g 0 0 b a, .d ((BRef.root).d b a), p.v b a] (m.objs g b a) fun v s => v = rsV b a x.2.1 x.2.2 ∧ s = x.1.objs g b a := by
 obtain ⟨⟨g1, g2, g3, g4⟩, ⟨g5, g6, g7⟩, g8, g9⟩ := hm
 unfold beginB at hx
 simp only [Mst.lit] at hx
 rw [if_neg (by omega)] at hx
 have d4 : decide (m.p.re.op = 4) = false := decide_eq_false (by omega)
 have hst := fun ext => call_ms (mstep_ok g b a m g1 g2) rfl rfl rfl ext
 have hsp := m.step_p
 have hfrs := m.fr_step
 rw [if_neg (by omega), if_neg hf] at hx
 have hd : decide (m.steps < m.fuel) = true := decide_eq_true (by omega)
 simp only [hd] at hst
 have t1 : m.step.t.length ≤ 1000000 := by rw [hfrs.t]; exact g8
 have t2 : p.at_ ≤ m.step.t.length := by rw [hfrs.t]; exact g6
 have t3 : m.step.same := fun h => by rw [hfrs.own, hfrs.t]; exact g9 (by rw [← hfrs.ownText]; exact h)
 generalize hm1 : m.step = m1 at *
 rw [← hsp] at hset hkids ho hx
 obtain ⟨d1, d2, d3, _, d5, d6, d7, d8, d9, d10, d11⟩ := opd7 (o := m1.p.re.op) (by omega)
 rw [if_neg (by omega), if_neg (by omega), if_neg (by omega), if_neg (by omega), if_neg (by omega), if_pos (by omega)] at hx
 obtain ⟨kid, l, hl⟩ : ∃ kid l, m1.p.re.kids = kid :: l := by
  cases hh : m1.p.re.kids with
  | nil => rw [hh] at hx; cases hx
  | cons y l => exact ⟨y, l, rfl⟩
 rw [hl] at hx
 have hcl := fun ext => call_ms (look_root ih g b a m1 p kid l hl g5 (by omega) hx) rfl rfl rfl ext
 obtain ⟨m2, y1, y2⟩ := x
 unfold Mst.objs Mst.objsT at hcl
 simp only [zM, rsV, BGoal.d, BRef.d, Re.cells_eq] at hcl
 unfold Mst.objs Mst.objsT at hst
 simp only [zM, rsV] at hst
 unfold Mst.objs Mst.objsT
 refine fn_ok func66 rfl ntmps66 results66 rfl 3 158456325028528677386111158247 (by simp) (by simp) ?_
 simp only [zX, simprocAttr, -Int.reduceNatCast', zM, rsV, BRef.d, Re.cells_eq, d4]
 refine callWp_mono (hst _) (fun v s' hv => ?_); obtain ⟨rfl, rfl⟩ := hv
 simp only [zX, simprocAttr, -Int.reduceNatCast', zM, rsV, Bool.not_true, Re.cells_eq, d1, d2, d3, d5, d6, d7, d8, d9, d10, d11]
 refine callWp_mono (hcl _) (fun v s' hv => ?_); obtain ⟨rfl, rfl⟩ := hv
 simp only [zX, simprocAttr, -Int.reduceNatCast', zM, rsV]
 first
  |(refine ⟨mobjs_ok m2 b a, ?_⟩; simp only [zM, rsV, fro, pushB, BGoal.d, BRef.d, Re.cells_eq]; done)
  | exact ⟨mobjs_ok m2 b a, rfl⟩
  | exact mobjs_ok m2 b a
theorem begin_8_el {k : Nat} (ih : SearchOK k) (g b a : Nat) (m : Mst) (re : Re) (p : BPlace) (hm : m.good p) (hset : re.set.length ≤ 1000000000) (hkids : re.kids.length ≤ 1000000000) (ho : re.op = 8) (hf : ¬ m.fuel ≤ m.steps) {x : Rs} (hx : beginB (fun m base p => srchB k true m base p true) m (.el re) p = some x) :
  callWp prog 66 [.pp 0 g 0 0 b a, .d ((BRef.el re).d b a), p.v b a] (m.objs g b a) fun v s => v = rsV b a x.2.1 x.2.2 ∧ s = x.1.objs g b a := by
 obtain ⟨⟨g1, g2, g3, g4⟩, ⟨g5, g6, g7⟩, g8, g9⟩ := hm
 unfold beginB at hx
 simp only [Mst.lit] at hx
 rw [if_neg (by omega)] at hx
 have d4 : decide (re.op = 4) = false := decide_eq_false (by omega)
 have hst := fun ext => call_ms (mstep_ok g b a m g1 g2) rfl rfl rfl ext
 have hsp := m.step_p
 have hfrs := m.fr_step
 rw [if_neg (by omega), if_neg hf] at hx
 have hd : decide (m.steps < m.fuel) = true := decide_eq_true (by omega)
 simp only [hd] at hst
 have t1 : m.step.t.length ≤ 1000000 := by rw [hfrs.t]; exact g8
 have t2 : p.at_ ≤ m.step.t.length := by rw [hfrs.t]; exact g6
 have t3 : m.step.same := fun h => by rw [hfrs.own, hfrs.t]; exact g9 (by rw [← hfrs.ownText]; exact h)
 generalize hm1 : m.step = m1 at *
 obtain ⟨d1, d2, d3, _, d5, d6, d7, d8, d9, d10, d11⟩ := opd8 (o := re.op) (by omega)
 rw [if_neg (by omega), if_neg (by omega), if_neg (by omega), if_neg (by omega), if_neg (by omega), if_pos (by omega)] at hx
 obtain ⟨kid, l, hl⟩ : ∃ kid l, re.kids = kid :: l := by
  cases hh : re.kids with
  | nil => rw [hh] at hx; cases hx
  | cons y l => exact ⟨y, l, rfl⟩
 rw [hl] at hx
 have hcl := fun ext => call_ms (look_el ih g b a m1 re p kid l hl g5 (by omega) hx) rfl rfl rfl ext
 obtain ⟨m2, y1, y2⟩ := x
 unfold Mst.objs Mst.objsT at hcl
 simp only [zM, rsV, BGoal.d, BRef.d, Re.cells_eq] at hcl
 unfold Mst.objs Mst.objsT at hst
 simp only [zM, rsV] at hst
 unfold Mst.objs Mst.objsT
 refine fn_ok func66 rfl ntmps66 results66 rfl 3 158456325028528677386111158247 (by simp) (by simp) ?_
 simp only [zX, simprocAttr, -Int.reduceNatCast', zM, rsV, BRef.d, Re.cells_eq, d4]
 refine callWp_mono (hst _) (fun v s' hv => ?_); obtain ⟨rfl, rfl⟩ := hv
 simp only [zX, simprocAttr, -Int.reduceNatCast', zM, rsV, Bool.not_true, Re.cells_eq, d1, d2, d3, d5, d6, d7, d8, d9, d10, d11]
 refine callWp_mono (hcl _) (fun v s' hv => ?_); obtain ⟨rfl, rfl⟩ := hv
 simp only [zX, simprocAttr, -Int.reduceNatCast', zM, rsV]
 first
  |(refine ⟨mobjs_ok m2 b a, ?_⟩; simp only [zM, rsV, fro, pushB, BGoal.d, BRef.d, Re.cells_eq]; done)
  | exact ⟨mobjs_ok m2 b a, rfl⟩
  | exact mobjs_ok m2 b a
theorem begin_8_root {k : Nat} (ih : SearchOK k) (g b a : Nat) (m : Mst) (p : BPlace) (hm : m.good p) (hset : m.p.re.set.length ≤ 1000000000) (hkids : m.p.re.kids.length ≤ 1000000000) (ho : m.p.re.op = 8) (hf : ¬ m.fuel ≤ m.steps) {x : Rs} (hx : beginB (fun m base p => srchB k true m base p true) m .root p = some x) :
  callWp prog 66 [.pp 0 g 0 0 b a, .d ((BRef.root).d b a), p.v b a] (m.objs g b a) fun v s => v = rsV b a x.2.1 x.2.2 ∧ s = x.1.objs g b a := by
 obtain ⟨⟨g1, g2, g3, g4⟩, ⟨g5, g6, g7⟩, g8, g9⟩ := hm
 unfold beginB at hx
 simp only [Mst.lit] at hx
 rw [if_neg (by omega)] at hx
 have d4 : decide (m.p.re.op = 4) = false := decide_eq_false (by omega)
 have hst := fun ext => call_ms (mstep_ok g b a m g1 g2) rfl rfl rfl ext
 have hsp := m.step_p
 have hfrs := m.fr_step
 rw [if_neg (by omega), if_neg hf] at hx
 have hd : decide (m.steps < m.fuel) = true := decide_eq_true (by omega)
 simp only [hd] at hst
 have t1 : m.step.t.length ≤ 1000000 := by rw [hfrs.t]; exact g8
 have t2 : p.at_ ≤ m.step.t.length := by rw [hfrs.t]; exact g6
 have t3 : m.step.same := fun h => by rw [hfrs.own, hfrs.t]; exact g9 (by rw [← hfrs.ownText]; exact h)
 generalize hm1 : m.step = m1 at *
 rw [← hsp] at hset hkids ho hx
 obtain ⟨d1, d2, d3, _, d5, d6, d7, d8, d9, d10, d11⟩ := opd8 (o := m1.p.re.op) (by omega)
 rw [if_neg (by omega), if_neg (by omega), if_neg (by omega), if_neg (by omega), if_neg (by omega), if_pos (by omega)] at hx
 obtain ⟨kid, l, hl⟩ : ∃ kid l, m1.p.re.kids = kid :: l := by
  cases hh : m1.p.re.kids with
  | nil => rw [hh] at hx; cases hx
  | cons y l => exact ⟨y, l, rfl⟩
 rw [hl] at hx
 have hcl := fun ext => call_ms (look_root ih g b a m1 p kid l hl g5 (by omega) hx) rfl rfl rfl ext
 obtain ⟨m2, y1, y2⟩ := x
 unfold Mst.objs Mst.objsT at hcl
 simp only [zM, rsV, BGoal.d, BRef.d, Re.cells_eq] at hcl
 unfold Mst.objs Mst.objsT at hst
 simp only [zM, rsV] at hst
 unfold Mst.objs Mst.objsT
 refine fn_ok func66 rfl ntmps66 results66 rfl 3 158456325028528677386111158247 (by simp) (by simp) ?_
 simp only [zX, simprocAttr, -Int.reduceNatCast', zM, rsV, BRef.d, Re.cells_eq, d4]
 refine callWp_mono (hst _) (fun v s' hv => ?_); obtain ⟨rfl, rfl⟩ := hv
 simp only [zX, simprocAttr, -Int.reduceNatCast', zM, rsV, Bool.not_true, Re.cells_eq, d1, d2, d3, d5, d6, d7, d8, d9, d10, d11]
 refine callWp_mono (hcl _) (fun v s' hv => ?_); obtain ⟨rfl, rfl⟩ := hv
 simp only [zX, simprocAttr, -Int.reduceNatCast', zM, rsV]
 first
  |(refine ⟨mobjs_ok m2 b a, ?_⟩; simp only [zM, rsV, fro, pushB, BGoal.d, BRef.d, Re.cells_eq]; done)
  | exact ⟨mobjs_ok m2 b a, rfl⟩
  | exact mobjs_ok m2 b a
theorem begin_9_el {k : Nat} (ih : SearchOK k) (g b a : Nat) (m : Mst) (re : Re) (p : BPlace) (hm : m.good p) (hset : re.set.length ≤ 1000000000) (hkids : re.kids.length ≤ 1000000000) (ho : re.op = 9) (hf : ¬ m.fuel ≤ m.steps) {x : Rs} (hx : beginB (fun m base p => srchB k true m base p true) m (.el re) p = some x) :
  callWp prog 66 [.pp 0 g 0 0 b a, .d ((BRef.el re).d b a), p.v b a] (m.objs g b a) fun v s => v = rsV b a x.2.1 x.2.2 ∧ s = x.1.objs g b a := by
 obtain ⟨⟨g1, g2, g3, g4⟩, ⟨g5, g6, g7⟩, g8, g9⟩ := hm
 unfold beginB at hx
 simp only [Mst.lit] at hx
 rw [if_neg (by omega)] at hx
 have d4 : decide (re.op = 4) = false := decide_eq_false (by omega)
 have hst := fun ext => call_ms (mstep_ok g b a m g1 g2) rfl rfl rfl ext
 have hsp := m.step_p
 have hfrs := m.fr_step
 rw [if_neg (by omega), if_neg hf] at hx
 have hd : decide (m.steps < m.fuel) = true := decide_eq_true (by omega)
 simp only [hd] at hst
 have t1 : m.step.t.length ≤ 1000000 := by rw [hfrs.t]; exact g8
 have t2 : p.at_ ≤ m.step.t.length := by rw [hfrs.t]; exact g6
 have t3 : m.step.same := fun h => by rw [hfrs.own, hfrs.t]; exact g9 (by rw [← hfrs.ownText]; exact h)
 generalize hm1 : m.step = m1 at *
 obtain ⟨d1, d2, d3, _, d5, d6, d7, d8, d9, d10, d11⟩ := opd9 (o := re.op) (by omega)
 rw [if_neg (by omega), if_neg (by omega), if_neg (by omega), if_neg (by omega), if_neg (by omega), if_neg (by omega), if_pos (by omega)] at hx
 obtain ⟨kid, l, hl⟩ : ∃ kid l, re.kids = kid :: l := by
  cases hh : re.kids with
  | nil => rw [hh] at hx; cases hx
  | cons y l => exact ⟨y, l, rfl⟩
 rw [hl] at hx
 have hk : re.kids[0]? = some kid := by rw [hl]; rfl
 have hl0 : (0 : Int) < (re.kids.length : Int) := by rw [hl, List.length_cons]; omega
 have hmt := match_ok b a (.el kid) .nil
 simp only [BGoal.d, BRef.d, Re.cells_eq, iD, bD] at hmt
 have hcl := fun ext => call_ms (malone_ok ih g b a m1 p _ hx) rfl rfl rfl ext
 obtain ⟨m2, y1, y2⟩ := x
 unfold Mst.objs Mst.objsT at hcl
 simp only [zM, rsV, BGoal.d, BRef.d, Re.cells_eq] at hcl
 unfold Mst.objs Mst.objsT at hst
 simp only [zM, rsV] at hst
 unfold Mst.objs Mst.objsT
 refine fn_ok func66 rfl ntmps66 results66 rfl 3 158456325028528677386111158247 (by simp) (by simp) ?_
 simp only [zX, simprocAttr, -Int.reduceNatCast', zM, rsV, BRef.d, Re.cells_eq, d4]
 refine callWp_mono (hst _) (fun v s' hv => ?_); obtain ⟨rfl, rfl⟩ := hv
 simp only [zX, simprocAttr, -Int.reduceNatCast', zM, rsV, Bool.not_true, Re.cells_eq, d1, d2, d3, d5, d6, d7, d8, d9, d10, d11]
 refine draw_c mix [8] [(1,[3],[]),(3,[0],[]),(4,[0],[]),(5,[0],[]),(11,[4],[4])] (by rfl) ?_
 simp only [zX, simprocAttr, -Int.reduceNatCast', zM, rsV, Re.cells_eq, hl0, hk]
 refine callC_pure hmt rfl rfl ?_
 simp only [zX, simprocAttr, -Int.reduceNatCast', zM, rsV, Re.cells_eq]
 refine callD_of (hcl _) ?_
 simp only [zX, simprocAttr, -Int.reduceNatCast', zM, rsV]
 first
  |(refine ⟨mobjs_ok m2 b a, ?_⟩; simp only [zM, rsV, fro, pushB, BGoal.d, BRef.d, Re.cells_eq]; done)
  | exact ⟨mobjs_ok m2 b a, rfl⟩
  | exact mobjs_ok m2 b a
theorem begin_9_root {k : Nat} (ih : SearchOK k) (g b a : Nat) (m : Mst) (p : BPlace) (hm : m.good p) (hset : m.p.re.set.length ≤ 1000000000) (hkids : m.p.re.kids.length ≤ 1000000000) (ho : m.p.re.op = 9) (hf : ¬ m.fuel ≤ m.steps) {x : Rs} (hx : beginB (fun m base p => srchB k true m base p true) m .root p = some x) :
  callWp prog 66 [.pp 0 g 0 0 b a, .d ((BRef.root).d b a), p.v b a] (m.objs g b a) fun v s => v = rsV b a x.2.1 x.2.2 ∧ s = x.1.objs g b a := by
 obtain ⟨⟨g1, g2, g3, g4⟩, ⟨g5, g6, g7⟩, g8, g9⟩ := hm
 unfold beginB at hx
 simp only [Mst.lit] at hx
 rw [if_neg (by omega)] at hx
 have d4 : decide (m.p.re.op = 4) = false := decide_eq_false (by omega)
 have hst := fun ext => call_ms (mstep_ok g b a m g1 g2) rfl rfl rfl ext
 have hsp := m.step_p
 have hfrs := m.fr_step
 rw [if_neg (by omega), if_neg hf] at hx
 have hd : decide (m.steps < m.fuel) = true := decide_eq_true (by omega)
 simp only [hd] at hst
 have t1 : m.step.t.length ≤ 1000000 := by rw [hfrs.t]; exact g8
 have t2 : p.at_ ≤ m.step.t.length := by rw [hfrs.t]; exact g6
 have t3 : m.step.same := fun h => by rw [hfrs.own, hfrs.t]; exact g9 (by rw [← hfrs.ownText]; exact h)
 generalize hm1 : m.step = m1 at *
 rw [← hsp] at hset hkids ho hx
 obtain ⟨d1, d2, d3, _, d5, d6, d7, d8, d9, d10, d11⟩ := opd9 (o := m1.p.re.op) (by omega)
 rw [if_neg (by omega), if_neg (by omega), if_neg (by omega), if_neg (by omega), if_neg (by omega), if_neg (by omega), if_pos (by omega)] at hx
 obtain ⟨kid, l, hl⟩ : ∃ kid l, m1.p.re.kids = kid :: l := by
  cases hh : m1.p.re.kids with
  | nil => rw [hh] at hx; cases hx
  | cons y l => exact ⟨y, l, rfl⟩
 rw [hl] at hx
 have hk : m1.p.re.kids[0]? = some kid := by rw [hl]; rfl
 have hl0 : (0 : Int) < (m1.p.re.kids.length : Int) := by rw [hl, List.length_cons]; omega
 have hmt := match_ok b a (.el kid) .nil
 simp only [BGoal.d, BRef.d, Re.cells_eq, iD, bD] at hmt
 have hcl := fun ext => call_ms (malone_ok ih g b a m1 p _ hx) rfl rfl rfl ext
 obtain ⟨m2, y1, y2⟩ := x
 unfold Mst.objs Mst.objsT at hcl
 simp only [zM, rsV, BGoal.d, BRef.d, Re.cells_eq] at hcl
 unfold Mst.objs Mst.objsT at hst
 simp only [zM, rsV] at hst
 unfold Mst.objs Mst.objsT
 refine fn_ok func66 rfl ntmps66 results66 rfl 3 158456325028528677386111158247 (by simp) (by simp) ?_
 simp only [zX, simprocAttr, -Int.reduceNatCast', zM, rsV, BRef.d, Re.cells_eq, d4]
 refine callWp_mono (hst _) (fun v s' hv => ?_); obtain ⟨rfl, rfl⟩ := hv
 simp only [zX, simprocAttr, -Int.reduceNatCast', zM, rsV, Bool.not_true, Re.cells_eq, d1, d2, d3, d5, d6, d7, d8, d9, d10, d11]
 refine draw_c mix [8] [(1,[3],[]),(3,[0],[]),(4,[0],[]),(5,[0],[]),(11,[4],[4])] (by rfl) ?_
 simp only [zX, simprocAttr, -Int.reduceNatCast', zM, rsV, Re.cells_eq, hl0, hk]
 refine callC_pure hmt rfl rfl ?_
 simp only [zX, simprocAttr, -Int.reduceNatCast', zM, rsV, Re.cells_eq]
 refine callD_of (hcl _) ?_
 simp only [zX, simprocAttr, -Int.reduceNatCast', zM, rsV]
 first
  |(refine ⟨mobjs_ok m2 b a, ?_⟩; simp only [zM, rsV, fro, pushB, BGoal.d, BRef.d, Re.cells_eq]; done)
  | exact ⟨mobjs_ok m2 b a, rfl⟩
  | exact mobjs_ok m2 b a
theorem begin_10_el {k : Nat} (ih : SearchOK k) (g b a : Nat) (m : Mst) (re : Re) (p : BPlace) (hm : m.good p) (hset : re.set.length ≤ 1000000000) (hkids : re.kids.length ≤ 1000000000) (ho : re.op = 10) (hf : ¬ m.fuel ≤ m.steps) {x : Rs} (hx : beginB (fun m base p => srchB k true m base p true) m (.el re) p = some x) :
  callWp prog 66 [.pp 0 g 0 0 b a, .d ((BRef.el re).d b a), p.v b a] (m.objs g b a) fun v s => v = rsV b a x.2.1 x.2.2 ∧ s = x.1.objs g b a := by
 obtain ⟨⟨g1, g2, g3, g4⟩, ⟨g5, g6, g7⟩, g8, g9⟩ := hm
 unfold beginB at hx
 simp only [Mst.lit] at hx
 rw [if_neg (by omega)] at hx
 have d4 : decide (re.op = 4) = false := decide_eq_false (by omega)
 have hst := fun ext => call_ms (mstep_ok g b a m g1 g2) rfl rfl rfl ext
 have hsp := m.step_p
 have hfrs := m.fr_step
 rw [if_neg (by omega), if_neg hf] at hx
 have hd : decide (m.steps < m.fuel) = true := decide_eq_true (by omega)
 simp only [hd] at hst
 have t1 : m.step.t.length ≤ 1000000 := by rw [hfrs.t]; exact g8
 have t2 : p.at_ ≤ m.step.t.length := by rw [hfrs.t]; exact g6
 have t3 : m.step.same := fun h => by rw [hfrs.own, hfrs.t]; exact g9 (by rw [← hfrs.ownText]; exact h)
 generalize hm1 : m.step = m1 at *
 obtain ⟨d1, d2, d3, _, d5, d6, d7, d8, d9, d10, d11⟩ := opd10 (o := re.op) (by omega)
 rw [if_neg (by omega), if_neg (by omega), if_neg (by omega), if_neg (by omega), if_neg (by omega), if_neg (by omega), if_neg (by omega), if_pos (by omega)] at hx
 obtain ⟨yes, no, l, hl⟩ : ∃ yes no l, re.kids = yes :: no :: l := by
  cases hh : re.kids with
  | nil => rw [hh] at hx; cases hx
  | cons y l => cases l with
   | nil => rw [hh] at hx; cases hx
   | cons y' l => exact ⟨y, y', l, rfl⟩
 rw [hl] at hx
 simp only at hx
 have hk0 : re.kids[0]? = some yes := by rw [hl]; rfl
 have hk1 : re.kids[1]? = some no := by rw [hl]; rfl
 have hl0 : (0 : Int) < (re.kids.length : Int) := by rw [hl, List.length_cons]; omega
 have hl1 : (1 : Int) < (re.kids.length : Int) := by rw [hl, List.length_cons, List.length_cons]; omega
 by_cases hn : re.n < 1 ∨ (p.caps.length : Int) < re.n
 ·rw [if_pos hn] at hx; cases hx
 rw [if_neg hn] at hx
 obtain ⟨y, hcap⟩ : ∃ y, p.caps[(re.n - 1).toNat]? = some y := ⟨_, List.getElem?_eq_getElem (by omega)⟩
 rw [getD_some hcap] at hx
 obtain ⟨y1, y2⟩ := y
 simp only at hx
 have w0 : IntKind.i64.wrap (re.n - 1) = re.n - 1 := w64 _ (by omega)
 have hn0 : 0 ≤ re.n - 1 := by omega
 have hn1 : re.n - 1 < (p.caps.length : Int) := by omega
 by_cases cx : 0 ≤ y1
 ·skip
  rw [if_pos cx] at hx
  cases hx
  unfold Mst.objs Mst.objsT at hst
  simp only [zM, rsV] at hst
  unfold Mst.objs Mst.objsT
  refine fn_ok func66 rfl ntmps66 results66 rfl 3 158456325028528677386111158247 (by simp) (by simp) ?_
  simp only [zX, simprocAttr, -Int.reduceNatCast', zM, rsV, BRef.d, Re.cells_eq, d4]
  refine callWp_mono (hst _) (fun v s' hv => ?_); obtain ⟨rfl, rfl⟩ := hv
  simp only [zX, simprocAttr, -Int.reduceNatCast', zM, rsV, Bool.not_true, Re.cells_eq, d1, d2, d3, d5, d6, d7, d8, d9, d10, d11, hl1, hk1]
  refine draw_c mix [] [(0,[3],[]),(1,[3],[]),(3,[0],[]),(4,[0],[]),(5,[0],[])] (by rfl) ?_
  simp only [zX, simprocAttr, -Int.reduceNatCast', zM, rsV, Re.cells_eq, w0, hn0, hn1, hcap, capD, spanC]
  refine ⟨by decide, ?_⟩
  simp only [zX, simprocAttr, -Int.reduceNatCast', zM, rsV, Re.cells_eq, cx, ge_iff_le, hl0, hk0]
  refine frontB_at rfl ?_
  simp only [zX, simprocAttr, -Int.reduceNatCast', zM, rsV]
  first
   |(refine ⟨mobjs_ok m1 b a, ?_⟩; simp only [zM, rsV, fro, pushB, capD, spanC, BGoal.d, BRef.d, Re.cells_eq]; done)
   | exact ⟨mobjs_ok m1 b a, rfl⟩
   | exact mobjs_ok m1 b a
 ·skip
  rw [if_neg cx] at hx
  cases hx
  unfold Mst.objs Mst.objsT at hst
  simp only [zM, rsV] at hst
  unfold Mst.objs Mst.objsT
  refine fn_ok func66 rfl ntmps66 results66 rfl 3 158456325028528677386111158247 (by simp) (by simp) ?_
  simp only [zX, simprocAttr, -Int.reduceNatCast', zM, rsV, BRef.d, Re.cells_eq, d4]
  refine callWp_mono (hst _) (fun v s' hv => ?_); obtain ⟨rfl, rfl⟩ := hv
  simp only [zX, simprocAttr, -Int.reduceNatCast', zM, rsV, Bool.not_true, Re.cells_eq, d1, d2, d3, d5, d6, d7, d8, d9, d10, d11, hl1, hk1]
  refine draw_c mix [] [(0,[3],[]),(1,[3],[]),(3,[0],[]),(4,[0],[]),(5,[0],[])] (by rfl) ?_
  simp only [zX, simprocAttr, -Int.reduceNatCast', zM, rsV, Re.cells_eq, w0, hn0, hn1, hcap, capD, spanC]
  refine ⟨by decide, ?_⟩
  simp only [zX, simprocAttr, -Int.reduceNatCast', zM, rsV, Re.cells_eq, cx, ge_iff_le, hl0, hk0]
  refine frontB_at rfl ?_
  simp only [zX, simprocAttr, -Int.reduceNatCast', zM, rsV]
  first
   |(refine ⟨mobjs_ok m1 b a, ?_⟩; simp only [zM, rsV, fro, pushB, capD, spanC, BGoal.d, BRef.d, Re.cells_eq]; done)
   | exact ⟨mobjs_ok m1 b a, rfl⟩
   | exact mobjs_ok m1 b a
theorem begin_10_root {k : Nat} (ih : SearchOK k) (g b a : Nat) (m : Mst) (p : BPlace) (hm : m.good p) (hset : m.p.re.set.length ≤ 1000000000) (hkids : m.p.re.kids.length ≤ 1000000000) (ho : m.p.re.op = 10) (hf : ¬ m.fuel ≤ m.steps) {x : Rs} (hx : beginB (fun m base p => srchB k true m base p true) m .root p = some x) :
  callWp prog 66 [.pp 0 g 0 0 b a, .d ((BRef.root).d b a), p.v b a] (m.objs g b a) fun v s => v = rsV b a x.2.1 x.2.2 ∧ s = x.1.objs g b a := by
 obtain ⟨⟨g1, g2, g3, g4⟩, ⟨g5, g6, g7⟩, g8, g9⟩ := hm
 unfold beginB at hx
 simp only [Mst.lit] at hx
 rw [if_neg (by omega)] at hx
 have d4 : decide (m.p.re.op = 4) = false := decide_eq_false (by omega)
 have hst := fun ext => call_ms (mstep_ok g b a m g1 g2) rfl rfl rfl ext
 have hsp := m.step_p
 have hfrs := m.fr_step
 rw [if_neg (by omega), if_neg hf] at hx
 have hd : decide (m.steps < m.fuel) = true := decide_eq_true (by omega)
 simp only [hd] at hst
 have t1 : m.step.t.length ≤ 1000000 := by rw [hfrs.t]; exact g8
 have t2 : p.at_ ≤ m.step.t.length := by rw [hfrs.t]; exact g6
 have t3 : m.step.same := fun h => by rw [hfrs.own, hfrs.t]; exact g9 (by rw [← hfrs.ownText]; exact h)
 generalize hm1 : m.step = m1 at *
 rw [← hsp] at hset hkids ho hx
 obtain ⟨d1, d2, d3, _, d5, d6, d7, d8, d9, d10, d11⟩ := opd10 (o := m1.p.re.op) (by omega)
 rw [if_neg (by omega), if_neg (by omega), if_neg (by omega), if_neg (by omega), if_neg (by omega), if_neg (by omega), if_neg (by omega), if_pos (by omega)] at hx
 obtain ⟨yes, no, l, hl⟩ : ∃ yes no l, m1.p.re.kids = yes :: no :: l := by
  cases hh : m1.p.re.kids with
  | nil => rw [hh] at hx; cases hx
  | cons y l => cases l with
   | nil => rw [hh] at hx; cases hx
   | cons y' l => exact ⟨y, y', l, rfl⟩
 rw [hl] at hx
 simp only at hx
 have hk0 : m1.p.re.kids[0]? = some yes := by rw [hl]; rfl
 have hk1 : m1.p.re.kids[1]? = some no := by rw [hl]; rfl
 have hl0 : (0 : Int) < (m1.p.re.kids.length : Int) := by rw [hl, List.length_cons]; omega
 have hl1 : (1 : Int) < (m1.p.re.kids.length : Int) := by rw [hl, List.length_cons, List.length_cons]; omega
 by_cases hn : m1.p.re.n < 1 ∨ (p.caps.length : Int) < m1.p.re.n
 ·rw [if_pos hn] at hx; cases hx
 rw [if_neg hn] at hx
 obtain ⟨y, hcap⟩ : ∃ y, p.caps[(m1.p.re.n - 1).toNat]? = some y := ⟨_, List.getElem?_eq_getElem (by omega)⟩
 rw [getD_some hcap] at hx
 obtain ⟨y1, y2⟩ := y
 simp only at hx
 have w0 : IntKind.i64.wrap (m1.p.re.n - 1) = m1.p.re.n - 1 := w64 _ (by omega)
 have hn0 : 0 ≤ m1.p.re.n - 1 := by omega
 have hn1 : m1.p.re.n - 1 < (p.caps.length : Int) := by omega
 by_cases cx : 0 ≤ y1
 ·skip
  rw [if_pos cx] at hx
  cases hx
  unfold Mst.objs Mst.objsT at hst
  simp only [zM, rsV] at hst
  unfold Mst.objs Mst.objsT
  refine fn_ok func66 rfl ntmps66 results66 rfl 3 158456325028528677386111158247 (by simp) (by simp) ?_
  simp only [zX, simprocAttr, -Int.reduceNatCast', zM, rsV, BRef.d, Re.cells_eq, d4]
  refine callWp_mono (hst _) (fun v s' hv => ?_); obtain ⟨rfl, rfl⟩ := hv
  simp only [zX, simprocAttr, -Int.reduceNatCast', zM, rsV, Bool.not_true, Re.cells_eq, d1, d2, d3, d5, d6, d7, d8, d9, d10, d11, hl1, hk1]
  refine draw_c mix [] [(0,[3],[]),(1,[3],[]),(3,[0],[]),(4,[0],[]),(5,[0],[])] (by rfl) ?_
  simp only [zX, simprocAttr, -Int.reduceNatCast', zM, rsV, Re.cells_eq, w0, hn0, hn1, hcap, capD, spanC]
  refine ⟨by decide, ?_⟩
  simp only [zX, simprocAttr, -Int.reduceNatCast', zM, rsV, Re.cells_eq, cx, ge_iff_le, hl0, hk0]
  refine frontB_at rfl ?_
  simp only [zX, simprocAttr, -Int.reduceNatCast', zM, rsV]
  first
   |(refine ⟨mobjs_ok m1 b a, ?_⟩; simp only [zM, rsV, fro, pushB, capD, spanC, BGoal.d, BRef.d, Re.cells_eq]; done)
   | exact ⟨mobjs_ok m1 b a, rfl⟩
   | exact mobjs_ok m1 b a
 ·skip
  rw [if_neg cx] at hx
  cases hx
  unfold Mst.objs Mst.objsT at hst
  simp only [zM, rsV] at hst
  unfold Mst.objs Mst.objsT
  refine fn_ok func66 rfl ntmps66 results66 rfl 3 158456325028528677386111158247 (by simp) (by simp) ?_
  simp only [zX, simprocAttr, -Int.reduceNatCast', zM, rsV, BRef.d, Re.cells_eq, d4]
  refine callWp_mono (hst _) (fun v s' hv => ?_); obtain ⟨rfl, rfl⟩ := hv
  simp only [zX, simprocAttr, -Int.reduceNatCast', zM, rsV, Bool.not_true, Re.cells_eq, d1, d2, d3, d5, d6, d7, d8, d9, d10, d11, hl1, hk1]
  refine draw_c mix [] [(0,[3],[]),(1,[3],[]),(3,[0],[]),(4,[0],[]),(5,[0],[])] (by rfl) ?_
  simp only [zX, simprocAttr, -Int.reduceNatCast', zM, rsV, Re.cells_eq, w0, hn0, hn1, hcap, capD, spanC]
  refine ⟨by decide, ?_⟩
  simp only [zX, simprocAttr, -Int.reduceNatCast', zM, rsV, Re.cells_eq, cx, ge_iff_le, hl0, hk0]
  refine frontB_at rfl ?_
  simp only [zX, simprocAttr, -Int.reduceNatCast', zM, rsV]
  first
   |(refine ⟨mobjs_ok m1 b a, ?_⟩; simp only [zM, rsV, fro, pushB, capD, spanC, BGoal.d, BRef.d, Re.cells_eq]; done)
   | exact ⟨mobjs_ok m1 b a, rfl⟩
   | exact mobjs_ok m1 b a
theorem begin_11_el {k : Nat} (ih : SearchOK k) (g b a : Nat) (m : Mst) (re : Re) (p : BPlace) (hm : m.good p) (hset : re.set.length ≤ 1000000000) (hkids : re.kids.length ≤ 1000000000) (ho : re.op = 11) (hf : ¬ m.fuel ≤ m.steps) {x : Rs} (hx : beginB (fun m base p => srchB k true m base p true) m (.el re) p = some x) :
  callWp prog 66 [.pp 0 g 0 0 b a, .d ((BRef.el re).d b a), p.v b a] (m.objs g b a) fun v s => v = rsV b a x.2.1 x.2.2 ∧ s = x.1.objs g b a := by
 obtain ⟨⟨g1, g2, g3, g4⟩, ⟨g5, g6, g7⟩, g8, g9⟩ := hm
 unfold beginB at hx
 simp only [Mst.lit] at hx
 rw [if_neg (by omega)] at hx
 have d4 : decide (re.op = 4) = false := decide_eq_false (by omega)
 have hst := fun ext => call_ms (mstep_ok g b a m g1 g2) rfl rfl rfl ext
 have hsp := m.step_p
 have hfrs := m.fr_step
 rw [if_neg (by omega), if_neg hf] at hx
 have hd : decide (m.steps < m.fuel) = true := decide_eq_true (by omega)
 simp only [hd] at hst
 have t1 : m.step.t.length ≤ 1000000 := by rw [hfrs.t]; exact g8
 have t2 : p.at_ ≤ m.step.t.length := by rw [hfrs.t]; exact g6
 have t3 : m.step.same := fun h => by rw [hfrs.own, hfrs.t]; exact g9 (by rw [← hfrs.ownText]; exact h)
 generalize hm1 : m.step = m1 at *
 obtain ⟨d1, d2, d3, _, d5, d6, d7, d8, d9, d10, d11⟩ := opd11 (o := re.op) (by omega)
 rw [if_neg (by omega), if_neg (by omega), if_neg (by omega), if_neg (by omega), if_neg (by omega), if_neg (by omega), if_neg (by omega), if_neg (by omega), if_pos (by omega)] at hx
 by_cases hn : re.n < 0 ∨ 5 < re.n
 ·rw [if_pos hn] at hx; cases hx
 rw [if_neg hn] at hx
 cases hx
 have has := assert_ok re.n m1.t p.at_ (by omega) (by omega) t1 g5 t2
 simp only [i64, bV] at has
 cases hT : m1.ownText with
 | false =>
  have hM := mobjsT_ok m1 b a (.d (intsD m1.t)) rfl
  rw [objs_d hT] at hst ⊢
  unfold Mst.objs Mst.objsT at hst
  simp only [zM, rsV] at hst
  unfold Mst.objs Mst.objsT
  simp only [intsD] at has
  refine fn_ok func66 rfl ntmps66 results66 rfl 3 158456325028528677386111158247 (by simp) (by simp) ?_
  simp only [zX, simprocAttr, -Int.reduceNatCast', zM, rsV, BRef.d, Re.cells_eq, d4]
  refine callWp_mono (hst _) (fun v s' hv => ?_); obtain ⟨rfl, rfl⟩ := hv
  simp only [zX, simprocAttr, -Int.reduceNatCast', zM, rsV, Bool.not_true, Re.cells_eq, d1, d2, d3, d5, d6, d7, d8, d9, d10, d11]
  refine draw_c mix [] [(0,[3],[]),(2,[0],[]),(3,[0],[]),(4,[0],[]),(6,[0],[]),(7,[0],[]),(8,[0],[]),(9,[3],[]),(10,[3],[]),(12,[4],[4])] (by rfl) ?_
  simp only [zX, simprocAttr, -Int.reduceNatCast', zM, rsV, intsD, Re.cells_eq]
  refine callC_pure has rfl rfl ?_
  simp only [zX, simprocAttr, -Int.reduceNatCast', zM, rsV]
  first | exact ⟨hM, rfl⟩ | exact hM
 | true =>
  have hM := mobjsT_ok m1 b a (.so 2 m1.ogen 0 m1.t.length) rfl
  have hown := t3 hT
  rw [objs_so hT] at hst ⊢
  unfold Mst.objs Mst.objsT at hst
  simp only [zM, rsV] at hst
  unfold Mst.objs Mst.objsT
  refine fn_ok func66 rfl ntmps66 results66 rfl 3 158456325028528677386111158247 (by simp) (by simp) ?_
  simp only [zX, simprocAttr, -Int.reduceNatCast', zM, rsV, BRef.d, Re.cells_eq, d4]
  refine callWp_mono (hst _) (fun v s' hv => ?_); obtain ⟨rfl, rfl⟩ := hv
  simp only [zX, simprocAttr, -Int.reduceNatCast', zM, rsV, Bool.not_true, Re.cells_eq, d1, d2, d3, d5, d6, d7, d8, d9, d10, d11]
  refine draw_c mix [] [(0,[3],[]),(2,[0],[]),(3,[0],[]),(4,[0],[]),(6,[0],[]),(7,[0],[]),(8,[0],[]),(9,[3],[]),(10,[3],[]),(11,[2],[]),(12,[4],[4])] (by rfl) ?_
  simp only [zX, simprocAttr, -Int.reduceNatCast', zM, rsV, Re.cells_eq]
  refine assert_lend has hown rfl ?_
  simp only [zX, simprocAttr, -Int.reduceNatCast', zM, rsV]
  first | exact ⟨hM, rfl⟩ | exact hM
theorem begin_11_root {k : Nat} (ih : SearchOK k) (g b a : Nat) (m : Mst) (p : BPlace) (hm : m.good p) (hset : m.p.re.set.length ≤ 1000000000) (hkids : m.p.re.kids.length ≤ 1000000000) (ho : m.p.re.op = 11) (hf : ¬ m.fuel ≤ m.steps) {x : Rs} (hx : beginB (fun m base p => srchB k true m base p true) m .root p = some x) :
  callWp prog 66 [.pp 0 g 0 0 b a, .d ((BRef.root).d b a), p.v b a] (m.objs g b a) fun v s => v = rsV b a x.2.1 x.2.2 ∧ s = x.1.objs g b a := by
 obtain ⟨⟨g1, g2, g3, g4⟩, ⟨g5, g6, g7⟩, g8, g9⟩ := hm
 unfold beginB at hx
 simp only [Mst.lit] at hx
 rw [if_neg (by omega)] at hx
 have d4 : decide (m.p.re.op = 4) = false := decide_eq_false (by omega)
 have hst := fun ext => call_ms (mstep_ok g b a m g1 g2) rfl rfl rfl ext
 have hsp := m.step_p
 have hfrs := m.fr_step
 rw [if_neg (by omega), if_neg hf] at hx
 have hd : decide (m.steps < m.fuel) = true := decide_eq_true (by omega)
 simp only [hd] at hst
 have t1 : m.step.t.length ≤ 1000000 := by rw [hfrs.t]; exact g8
 have t2 : p.at_ ≤ m.step.t.length := by rw [hfrs.t]; exact g6
 have t3 : m.step.same := fun h => by rw [hfrs.own, hfrs.t]; exact g9 (by rw [← hfrs.ownText]; exact h)
 generalize hm1 : m.step = m1 at *
 rw [← hsp] at hset hkids ho hx
 obtain ⟨d1, d2, d3, _, d5, d6, d7, d8, d9, d10, d11⟩ := opd11 (o := m1.p.re.op) (by omega)
 rw [if_neg (by omega), if_neg (by omega), if_neg (by omega), if_neg (by omega), if_neg (by omega), if_neg (by omega), if_neg (by omega), if_neg (by omega), if_pos (by omega)] at hx
 by_cases hn : m1.p.re.n < 0 ∨ 5 < m1.p.re.n
 ·rw [if_pos hn] at hx; cases hx
 rw [if_neg hn] at hx
 cases hx
 have has := assert_ok m1.p.re.n m1.t p.at_ (by omega) (by omega) t1 g5 t2
 simp only [i64, bV] at has
 cases hT : m1.ownText with
 | false =>
  have hM := mobjsT_ok m1 b a (.d (intsD m1.t)) rfl
  rw [objs_d hT] at hst ⊢
  unfold Mst.objs Mst.objsT at hst
  simp only [zM, rsV] at hst
  unfold Mst.objs Mst.objsT
  simp only [intsD] at has
  refine fn_ok func66 rfl ntmps66 results66 rfl 3 158456325028528677386111158247 (by simp) (by simp) ?_
  simp only [zX, simprocAttr, -Int.reduceNatCast', zM, rsV, BRef.d, Re.cells_eq, d4]
  refine callWp_mono (hst _) (fun v s' hv => ?_); obtain ⟨rfl, rfl⟩ := hv
  simp only [zX, simprocAttr, -Int.reduceNatCast', zM, rsV, Bool.not_true, Re.cells_eq, d1, d2, d3, d5, d6, d7, d8, d9, d10, d11]
  refine draw_c mix [] [(0,[3],[]),(2,[0],[]),(3,[0],[]),(4,[0],[]),(6,[0],[]),(7,[0],[]),(8,[0],[]),(9,[3],[]),(10,[3],[]),(12,[4],[4])] (by rfl) ?_
  simp only [zX, simprocAttr, -Int.reduceNatCast', zM, rsV, intsD, Re.cells_eq]
  refine callC_pure has rfl rfl ?_
  simp only [zX, simprocAttr, -Int.reduceNatCast', zM, rsV]
  first | exact ⟨hM, rfl⟩ | exact hM
 | true =>
  have hM := mobjsT_ok m1 b a (.so 2 m1.ogen 0 m1.t.length) rfl
  have hown := t3 hT
  rw [objs_so hT] at hst ⊢
  unfold Mst.objs Mst.objsT at hst
  simp only [zM, rsV] at hst
  unfold Mst.objs Mst.objsT
  refine fn_ok func66 rfl ntmps66 results66 rfl 3 158456325028528677386111158247 (by simp) (by simp) ?_
  simp only [zX, simprocAttr, -Int.reduceNatCast', zM, rsV, BRef.d, Re.cells_eq, d4]
  refine callWp_mono (hst _) (fun v s' hv => ?_); obtain ⟨rfl, rfl⟩ := hv
  simp only [zX, simprocAttr, -Int.reduceNatCast', zM, rsV, Bool.not_true, Re.cells_eq, d1, d2, d3, d5, d6, d7, d8, d9, d10, d11]
  refine draw_c mix [] [(0,[3],[]),(2,[0],[]),(3,[0],[]),(4,[0],[]),(6,[0],[]),(7,[0],[]),(8,[0],[]),(9,[3],[]),(10,[3],[]),(11,[2],[]),(12,[4],[4])] (by rfl) ?_
  simp only [zX, simprocAttr, -Int.reduceNatCast', zM, rsV, Re.cells_eq]
  refine assert_lend has hown rfl ?_
  simp only [zX, simprocAttr, -Int.reduceNatCast', zM, rsV]
  first | exact ⟨hM, rfl⟩ | exact hM
theorem begin_oth_el {k : Nat} (ih : SearchOK k) (g b a : Nat) (m : Mst) (re : Re) (p : BPlace) (hm : m.good p) (hset : re.set.length ≤ 1000000000) (hkids : re.kids.length ≤ 1000000000) (ho : re.op < 1 ∨ 11 < re.op) (hf : ¬ m.fuel ≤ m.steps) {x : Rs} (hx : beginB (fun m base p => srchB k true m base p true) m (.el re) p = some x) :
  callWp prog 66 [.pp 0 g 0 0 b a, .d ((BRef.el re).d b a), p.v b a] (m.objs g b a) fun v s => v = rsV b a x.2.1 x.2.2 ∧ s = x.1.objs g b a := by
 obtain ⟨⟨g1, g2, g3, g4⟩, ⟨g5, g6, g7⟩, g8, g9⟩ := hm
 unfold beginB at hx
 simp only [Mst.lit] at hx
 rw [if_neg (by omega)] at hx
 have d4 : decide (re.op = 4) = false := decide_eq_false (by omega)
 have hst := fun ext => call_ms (mstep_ok g b a m g1 g2) rfl rfl rfl ext
 have hsp := m.step_p
 have hfrs := m.fr_step
 rw [if_neg (by omega), if_neg hf] at hx
 have hd : decide (m.steps < m.fuel) = true := decide_eq_true (by omega)
 simp only [hd] at hst
 have t1 : m.step.t.length ≤ 1000000 := by rw [hfrs.t]; exact g8
 have t2 : p.at_ ≤ m.step.t.length := by rw [hfrs.t]; exact g6
 have t3 : m.step.same := fun h => by rw [hfrs.own, hfrs.t]; exact g9 (by rw [← hfrs.ownText]; exact h)
 generalize hm1 : m.step = m1 at *
 have d1 : decide (re.op = 1) = false := decide_eq_false (by omega)
 have d2 : decide (re.op = 2) = false := decide_eq_false (by omega)
 have d3 : decide (re.op = 3) = false := decide_eq_false (by omega)
 have d5 : decide (re.op = 5) = false := decide_eq_false (by omega)
 have d6 : decide (re.op = 6) = false := decide_eq_false (by omega)
 have d7 : decide (re.op = 7) = false := decide_eq_false (by omega)
 have d8 : decide (re.op = 8) = false := decide_eq_false (by omega)
 have d9 : decide (re.op = 9) = false := decide_eq_false (by omega)
 have d10 : decide (re.op = 10) = false := decide_eq_false (by omega)
 have d11 : decide (re.op = 11) = false := decide_eq_false (by omega)
 rw [if_neg (by omega), if_neg (by omega), if_neg (by omega), if_neg (by omega), if_neg (by omega), if_neg (by omega), if_neg (by omega), if_neg (by omega), if_neg (by omega)] at hx
 cases hx
 unfold Mst.objs Mst.objsT at hst
 simp only [zM, rsV] at hst
 unfold Mst.objs Mst.objsT
 refine fn_ok func66 rfl ntmps66 results66 rfl 3 158456325028528677386111158247 (by simp) (by simp) ?_
 simp only [zX, simprocAttr, -Int.reduceNatCast', zM, rsV, BRef.d, Re.cells_eq, d4]
 refine callWp_mono (hst _) (fun v s' hv => ?_); obtain ⟨rfl, rfl⟩ := hv
 simp only [zX, simprocAttr, -Int.reduceNatCast', zM, rsV, Bool.not_true, Re.cells_eq, d1, d2, d3, d5, d6, d7, d8, d9, d10, d11]
 first
  |(refine ⟨mobjs_ok m1 b a, ?_⟩; simp only [zM, rsV, fro, pushB, BGoal.d, BRef.d, Re.cells_eq]; done)
  | exact ⟨mobjs_ok m1 b a, rfl⟩
  | exact mobjs_ok m1 b a
theorem begin_oth_root {k : Nat} (ih : SearchOK k) (g b a : Nat) (m : Mst) (p : BPlace) (hm : m.good p) (hset : m.p.re.set.length ≤ 1000000000) (hkids : m.p.re.kids.length ≤ 1000000000) (ho : m.p.re.op < 1 ∨ 11 < m.p.re.op) (hf : ¬ m.fuel ≤ m.steps) {x : Rs} (hx : beginB (fun m base p => srchB k true m base p true) m .root p = some x) :
  callWp prog 66 [.pp 0 g 0 0 b a, .d ((BRef.root).d b a), p.v b a] (m.objs g b a) fun v s => v = rsV b a x.2.1 x.2.2 ∧ s = x.1.objs g b a := by
 obtain ⟨⟨g1, g2, g3, g4⟩, ⟨g5, g6, g7⟩, g8, g9⟩ := hm
 unfold beginB at hx
 simp only [Mst.lit] at hx
 rw [if_neg (by omega)] at hx
 have d4 : decide (m.p.re.op = 4) = false := decide_eq_false (by omega)
 have hst := fun ext => call_ms (mstep_ok g b a m g1 g2) rfl rfl rfl ext
 have hsp := m.step_p
 have hfrs := m.fr_step
 rw [if_neg (by omega), if_neg hf] at hx
 have hd : decide (m.steps < m.fuel) = true := decide_eq_true (by omega)
 simp only [hd] at hst
 have t1 : m.step.t.length ≤ 1000000 := by rw [hfrs.t]; exact g8
 have t2 : p.at_ ≤ m.step.t.length := by rw [hfrs.t]; exact g6
 have t3 : m.step.same := fun h => by rw [hfrs.own, hfrs.t]; exact g9 (by rw [← hfrs.ownText]; exact h)
 generalize hm1 : m.step = m1 at *
 rw [← hsp] at hset hkids ho hx
 have d1 : decide (m1.p.re.op = 1) = false := decide_eq_false (by omega)
 have d2 : decide (m1.p.re.op = 2) = false := decide_eq_false (by omega)
 have d3 : decide (m1.p.re.op = 3) = false := decide_eq_false (by omega)
 have d5 : decide (m1.p.re.op = 5) = false := decide_eq_false (by omega)
 have d6 : decide (m1.p.re.op = 6) = false := decide_eq_false (by omega)
 have d7 : decide (m1.p.re.op = 7) = false := decide_eq_false (by omega)
 have d8 : decide (m1.p.re.op = 8) = false := decide_eq_false (by omega)
 have d9 : decide (m1.p.re.op = 9) = false := decide_eq_false (by omega)
 have d10 : decide (m1.p.re.op = 10) = false := decide_eq_false (by omega)
 have d11 : decide (m1.p.re.op = 11) = false := decide_eq_false (by omega)
 rw [if_neg (by omega), if_neg (by omega), if_neg (by omega), if_neg (by omega), if_neg (by omega), if_neg (by omega), if_neg (by omega), if_neg (by omega), if_neg (by omega)] at hx
 cases hx
 unfold Mst.objs Mst.objsT at hst
 simp only [zM, rsV] at hst
 unfold Mst.objs Mst.objsT
 refine fn_ok func66 rfl ntmps66 results66 rfl 3 158456325028528677386111158247 (by simp) (by simp) ?_
 simp only [zX, simprocAttr, -Int.reduceNatCast', zM, rsV, BRef.d, Re.cells_eq, d4]
 refine callWp_mono (hst _) (fun v s' hv => ?_); obtain ⟨rfl, rfl⟩ := hv
 simp only [zX, simprocAttr, -Int.reduceNatCast', zM, rsV, Bool.not_true, Re.cells_eq, d1, d2, d3, d5, d6, d7, d8, d9, d10, d11]
 first
  |(refine ⟨mobjs_ok m1 b a, ?_⟩; simp only [zM, rsV, fro, pushB, BGoal.d, BRef.d, Re.cells_eq]; done)
  | exact ⟨mobjs_ok m1 b a, rfl⟩
  | exact mobjs_ok m1 b a
end Go.Proofs.Ytilapneoohcplaa
