/- A part of the proof (G34). -/
import Derived.Test.YtilapneoohcplaaBO28
import Derived.Test.YtilapneoohcplaaBO29
set_option linter.unusedSimpArgs false
set_option linter.unusedVariables false
set_option maxRecDepth 100000
set_option maxHeartbeats 80000000
namespace Go.Proofs.Ytilapneoohcplaa
open Go.VL Go.Proofs.Try
theorem begin_poss_el {k : Nat} (ih : SearchOK k) (g b a : Nat) (m : Mst) (re : Re) (p : BPlace) (hm : m.good p) (hset : re.set.length ≤ 1000000000) (hkids : re.kids.length ≤ 1000000000) (ho : re.op = 4) (hmode : re.mode = 2) {x : Rs} (hx : beginB (fun m base p => srchB k true m base p true) m (.el re) p = some x) :
  callWp prog 66 [.pp 0 g 0 0 b a, .d ((BRef.el re).d b a), p.v b a] (m.objs g b a) fun v s => v = rsV b a x.2.1 x.2.2 ∧ s = x.1.objs g b a := by
 obtain ⟨⟨g1, g2, g3, g4⟩, ⟨g5, g6, g7⟩, g8, g9⟩ := hm
 unfold beginB at hx
 simp only [Mst.lit] at hx
 rw [if_neg (by omega)] at hx
 rw [if_pos ho, if_pos hmode] at hx
 have d4 : decide (re.op = 4) = true := decide_eq_true ho
 have dm : decide (re.mode = 2) = true := decide_eq_true hmode
 have hst := fun ext => call_ms (malone_ok ih g b a m p _ hx) rfl rfl rfl ext
 obtain ⟨m1, y1, y2⟩ := x
 unfold Mst.objs Mst.objsT at hst
 simp only [zM, rsV, BGoal.d, BRef.d, Re.cells_eq] at hst
 unfold Mst.objs Mst.objsT
 refine fn_ok func66 rfl ntmps66 results66 rfl 3 158456325028528677386111158247 (by simp) (by simp) ?_
 simp only [zX, simprocAttr, zM, rsV, BRef.d, Re.cells_eq, d4, dm]
 refine call_give [5] (by simp [killO, kill1, frzV.go, frzV, frzD, BGoal.d, BRef.d, Re.cells_eq, iD, bD]) (callWp_mono (hst _) (fun v s' hv => ?_))
 obtain ⟨rfl, rfl⟩ := hv
 simp only [zX, simprocAttr, zM, rsV]
 first
  |(refine ⟨mobjs_ok m1 b a, ?_⟩; simp only [zM, rsV, fro, pushB, BGoal.d, BRef.d, Re.cells_eq]; done)
  | exact ⟨mobjs_ok m1 b a, rfl⟩
  | exact mobjs_ok m1 b a
theorem begin_poss_root {k : Nat} (ih : SearchOK k) (g b a : Nat) (m : Mst) (p : BPlace) (hm : m.good p) (hset : m.p.re.set.length ≤ 1000000000) (hkids : m.p.re.kids.length ≤ 1000000000) (ho : m.p.re.op = 4) (hmode : m.p.re.mode = 2) {x : Rs} (hx : beginB (fun m base p => srchB k true m base p true) m .root p = some x) :
  callWp prog 66 [.pp 0 g 0 0 b a, .d ((BRef.root).d b a), p.v b a] (m.objs g b a) fun v s => v = rsV b a x.2.1 x.2.2 ∧ s = x.1.objs g b a := by
 obtain ⟨⟨g1, g2, g3, g4⟩, ⟨g5, g6, g7⟩, g8, g9⟩ := hm
 unfold beginB at hx
 simp only [Mst.lit] at hx
 rw [if_neg (by omega)] at hx
 rw [if_pos ho, if_pos hmode] at hx
 have d4 : decide (m.p.re.op = 4) = true := decide_eq_true ho
 have dm : decide (m.p.re.mode = 2) = true := decide_eq_true hmode
 have hst := fun ext => call_ms (malone_ok ih g b a m p _ hx) rfl rfl rfl ext
 obtain ⟨m1, y1, y2⟩ := x
 unfold Mst.objs Mst.objsT at hst
 simp only [zM, rsV, BGoal.d, BRef.d, Re.cells_eq] at hst
 unfold Mst.objs Mst.objsT
 refine fn_ok func66 rfl ntmps66 results66 rfl 3 158456325028528677386111158247 (by simp) (by simp) ?_
 simp only [zX, simprocAttr, zM, rsV, BRef.d, Re.cells_eq, d4, dm]
 refine call_give [5] (by simp [killO, kill1, frzV.go, frzV, frzD, BGoal.d, BRef.d, Re.cells_eq, iD, bD]) (callWp_mono (hst _) (fun v s' hv => ?_))
 obtain ⟨rfl, rfl⟩ := hv
 simp only [zX, simprocAttr, zM, rsV]
 first
  |(refine ⟨mobjs_ok m1 b a, ?_⟩; simp only [zM, rsV, fro, pushB, BGoal.d, BRef.d, Re.cells_eq]; done)
  | exact ⟨mobjs_ok m1 b a, rfl⟩
  | exact mobjs_ok m1 b a
theorem begin_rep_el {k : Nat} (ih : SearchOK k) (g b a : Nat) (m : Mst) (re : Re) (p : BPlace) (hm : m.good p) (hset : re.set.length ≤ 1000000000) (hkids : re.kids.length ≤ 1000000000) (ho : re.op = 4) (hmode : ¬ re.mode = 2) {x : Rs} (hx : beginB (fun m base p => srchB k true m base p true) m (.el re) p = some x) :
  callWp prog 66 [.pp 0 g 0 0 b a, .d ((BRef.el re).d b a), p.v b a] (m.objs g b a) fun v s => v = rsV b a x.2.1 x.2.2 ∧ s = x.1.objs g b a := by
 obtain ⟨⟨g1, g2, g3, g4⟩, ⟨g5, g6, g7⟩, g8, g9⟩ := hm
 unfold beginB at hx
 simp only [Mst.lit] at hx
 rw [if_neg (by omega)] at hx
 rw [if_pos ho, if_neg hmode] at hx
 have d4 : decide (re.op = 4) = true := decide_eq_true ho
 have dm : decide (re.mode = 2) = false := decide_eq_false hmode
 cases hx
 unfold Mst.objs Mst.objsT
 refine fn_ok func66 rfl ntmps66 results66 rfl 3 158456325028528677386111158247 (by simp) (by simp) ?_
 simp only [zX, simprocAttr, zM, rsV, BRef.d, Re.cells_eq, d4, dm]
 refine frontB_at rfl ?_
 simp only [zX, simprocAttr, zM, rsV, BRef.d, Re.cells_eq, d4, dm]
 first
  |(refine ⟨mobjs_ok m b a, ?_⟩; simp only [zM, rsV, fro, pushB, BGoal.d, BRef.d, Re.cells_eq]; done)
  | exact ⟨mobjs_ok m b a, rfl⟩
  | exact mobjs_ok m b a
theorem begin_rep_root {k : Nat} (ih : SearchOK k) (g b a : Nat) (m : Mst) (p : BPlace) (hm : m.good p) (hset : m.p.re.set.length ≤ 1000000000) (hkids : m.p.re.kids.length ≤ 1000000000) (ho : m.p.re.op = 4) (hmode : ¬ m.p.re.mode = 2) {x : Rs} (hx : beginB (fun m base p => srchB k true m base p true) m .root p = some x) :
  callWp prog 66 [.pp 0 g 0 0 b a, .d ((BRef.root).d b a), p.v b a] (m.objs g b a) fun v s => v = rsV b a x.2.1 x.2.2 ∧ s = x.1.objs g b a := by
 obtain ⟨⟨g1, g2, g3, g4⟩, ⟨g5, g6, g7⟩, g8, g9⟩ := hm
 unfold beginB at hx
 simp only [Mst.lit] at hx
 rw [if_neg (by omega)] at hx
 rw [if_pos ho, if_neg hmode] at hx
 have d4 : decide (m.p.re.op = 4) = true := decide_eq_true ho
 have dm : decide (m.p.re.mode = 2) = false := decide_eq_false hmode
 cases hx
 unfold Mst.objs Mst.objsT
 refine fn_ok func66 rfl ntmps66 results66 rfl 3 158456325028528677386111158247 (by simp) (by simp) ?_
 simp only [zX, simprocAttr, zM, rsV, BRef.d, Re.cells_eq, d4, dm]
 refine frontB_at rfl ?_
 simp only [zX, simprocAttr, zM, rsV, BRef.d, Re.cells_eq, d4, dm]
 first
  |(refine ⟨mobjs_ok m b a, ?_⟩; simp only [zM, rsV, fro, pushB, BGoal.d, BRef.d, Re.cells_eq]; done)
  | exact ⟨mobjs_ok m b a, rfl⟩
  | exact mobjs_ok m b a
theorem begin_out_el {k : Nat} (ih : SearchOK k) (g b a : Nat) (m : Mst) (re : Re) (p : BPlace) (hm : m.good p) (hset : re.set.length ≤ 1000000000) (hkids : re.kids.length ≤ 1000000000) (ho : ¬ re.op = 4) (hf : m.fuel ≤ m.steps) {x : Rs} (hx : beginB (fun m base p => srchB k true m base p true) m (.el re) p = some x) :
  callWp prog 66 [.pp 0 g 0 0 b a, .d ((BRef.el re).d b a), p.v b a] (m.objs g b a) fun v s => v = rsV b a x.2.1 x.2.2 ∧ s = x.1.objs g b a := by
 obtain ⟨⟨g1, g2, g3, g4⟩, ⟨g5, g6, g7⟩, g8, g9⟩ := hm
 unfold beginB at hx
 simp only [Mst.lit] at hx
 rw [if_neg (by omega)] at hx
 rw [if_neg ho, if_pos hf] at hx
 have d4 : decide (re.op = 4) = false := decide_eq_false ho
 have hst := fun ext => call_ms (mstep_ok g b a m g1 g2) rfl rfl rfl ext
 have hd : decide (m.steps < m.fuel) = false := decide_eq_false (by omega)
 simp only [hd] at hst
 cases hx
 unfold Mst.objs Mst.objsT at hst
 simp only [zM, rsV] at hst
 unfold Mst.objs Mst.objsT
 refine fn_ok func66 rfl ntmps66 results66 rfl 3 158456325028528677386111158247 (by simp) (by simp) ?_
 simp only [zX, simprocAttr, zM, rsV, BRef.d, Re.cells_eq, d4]
 refine callWp_mono (hst _) (fun v s' hv => ?_); obtain ⟨rfl, rfl⟩ := hv
 simp only [zX, simprocAttr, zM, rsV, Bool.not_false]
 first
  |(refine ⟨mobjs_ok m.step b a, ?_⟩; simp only [zM, rsV, fro, pushB, BGoal.d, BRef.d, Re.cells_eq]; done)
  | exact ⟨mobjs_ok m.step b a, rfl⟩
  | exact mobjs_ok m.step b a
theorem begin_out_root {k : Nat} (ih : SearchOK k) (g b a : Nat) (m : Mst) (p : BPlace) (hm : m.good p) (hset : m.p.re.set.length ≤ 1000000000) (hkids : m.p.re.kids.length ≤ 1000000000) (ho : ¬ m.p.re.op = 4) (hf : m.fuel ≤ m.steps) {x : Rs} (hx : beginB (fun m base p => srchB k true m base p true) m .root p = some x) :
  callWp prog 66 [.pp 0 g 0 0 b a, .d ((BRef.root).d b a), p.v b a] (m.objs g b a) fun v s => v = rsV b a x.2.1 x.2.2 ∧ s = x.1.objs g b a := by
 obtain ⟨⟨g1, g2, g3, g4⟩, ⟨g5, g6, g7⟩, g8, g9⟩ := hm
 unfold beginB at hx
 simp only [Mst.lit] at hx
 rw [if_neg (by omega)] at hx
 rw [if_neg ho, if_pos hf] at hx
 have d4 : decide (m.p.re.op = 4) = false := decide_eq_false ho
 have hst := fun ext => call_ms (mstep_ok g b a m g1 g2) rfl rfl rfl ext
 have hd : decide (m.steps < m.fuel) = false := decide_eq_false (by omega)
 simp only [hd] at hst
 cases hx
 unfold Mst.objs Mst.objsT at hst
 simp only [zM, rsV] at hst
 unfold Mst.objs Mst.objsT
 refine fn_ok func66 rfl ntmps66 results66 rfl 3 158456325028528677386111158247 (by simp) (by simp) ?_
 simp only [zX, simprocAttr, zM, rsV, BRef.d, Re.cells_eq, d4]
 refine callWp_mono (hst _) (fun v s' hv => ?_); obtain ⟨rfl, rfl⟩ := hv
 simp only [zX, simprocAttr, zM, rsV, Bool.not_false]
 first
  |(refine ⟨mobjs_ok m.step b a, ?_⟩; simp only [zM, rsV, fro, pushB, BGoal.d, BRef.d, Re.cells_eq]; done)
  | exact ⟨mobjs_ok m.step b a, rfl⟩
  | exact mobjs_ok m.step b a
theorem begin_1_el {k : Nat} (ih : SearchOK k) (g b a : Nat) (m : Mst) (re : Re) (p : BPlace) (hm : m.good p) (hset : re.set.length ≤ 1000000000) (hkids : re.kids.length ≤ 1000000000) (ho : re.op = 1) (hf : ¬ m.fuel ≤ m.steps) {x : Rs} (hx : beginB (fun m base p => srchB k true m base p true) m (.el re) p = some x) :
  callWp prog 66 [.pp 0 g 0 0 b a, .d ((BRef.el re).d b a), p.v b a] (m.objs g b a) fun v s => v = rsV b a x.2.1 x.2.2 ∧ s = x.1.objs g b a := by
 obtain ⟨⟨g1, g2, g3, g4⟩, ⟨g5, g6, g7⟩, g8, g9⟩ := hm
 unfold beginB at hx
 simp only [Mst.lit] at hx
 rw [if_neg (by omega)] at hx
 have d4 : decide (re.op = 4) = false := decide_eq_false (by omega)
 have hst := fun ext => call_ms (mstep_ok g b a m g1 g2) rfl rfl rfl ext
 have hsp := m.step_p
 have hfrs := m.fr_step
 rw [if_neg (by omega), if_neg hf] at hx
 have hd : decide (m.steps < m.fuel) = true := decide_eq_true (by omega)
 simp only [hd] at hst
 have t1 : m.step.t.length ≤ 1000000 := by rw [hfrs.t]; exact g8
 have t2 : p.at_ ≤ m.step.t.length := by rw [hfrs.t]; exact g6
 have t3 : m.step.same := fun h => by rw [hfrs.own, hfrs.t]; exact g9 (by rw [← hfrs.ownText]; exact h)
 generalize hm1 : m.step = m1 at *
 obtain ⟨d1, d2, d3, _, d5, d6, d7, d8, d9, d10, d11⟩ := opd1 (o := re.op) (by omega)
 rw [if_pos ho] at hx
 cases hx
 have hcl := fun ext => call_ms (mset_ok g b a m1 (.el re) re p rfl hset g5 t1 t3) rfl rfl rfl ext
 generalize hy : setR m1.t re p = y at *
 obtain ⟨y1, y2⟩ := y
 unfold Mst.objs Mst.objsT at hcl
 simp only [zM, rsV, BGoal.d, BRef.d, Re.cells_eq] at hcl
 unfold Mst.objs Mst.objsT at hst
 simp only [zM, rsV] at hst
 unfold Mst.objs Mst.objsT
 refine fn_ok func66 rfl ntmps66 results66 rfl 3 158456325028528677386111158247 (by simp) (by simp) ?_
 simp only [zX, simprocAttr, zM, rsV, BRef.d, Re.cells_eq, d4]
 refine callWp_mono (hst _) (fun v s' hv => ?_); obtain ⟨rfl, rfl⟩ := hv
 simp only [zX, simprocAttr, zM, rsV, Bool.not_true, Re.cells_eq, d1, d2, d3, d5, d6, d7, d8, d9, d10, d11]
 refine callWp_mono (hcl _) (fun v s' hv => ?_); obtain ⟨rfl, rfl⟩ := hv
 simp only [zX, simprocAttr, zM, rsV]
 first
  |(refine ⟨mobjs_ok m1 b a, ?_⟩; simp only [zM, rsV, fro, pushB, BGoal.d, BRef.d, Re.cells_eq]; done)
  | exact ⟨mobjs_ok m1 b a, rfl⟩
  | exact mobjs_ok m1 b a
theorem begin_1_root {k : Nat} (ih : SearchOK k) (g b a : Nat) (m : Mst) (p : BPlace) (hm : m.good p) (hset : m.p.re.set.length ≤ 1000000000) (hkids : m.p.re.kids.length ≤ 1000000000) (ho : m.p.re.op = 1) (hf : ¬ m.fuel ≤ m.steps) {x : Rs} (hx : beginB (fun m base p => srchB k true m base p true) m .root p = some x) :
  callWp prog 66 [.pp 0 g 0 0 b a, .d ((BRef.root).d b a), p.v b a] (m.objs g b a) fun v s => v = rsV b a x.2.1 x.2.2 ∧ s = x.1.objs g b a := by
 obtain ⟨⟨g1, g2, g3, g4⟩, ⟨g5, g6, g7⟩, g8, g9⟩ := hm
 unfold beginB at hx
 simp only [Mst.lit] at hx
 rw [if_neg (by omega)] at hx
 have d4 : decide (m.p.re.op = 4) = false := decide_eq_false (by omega)
 have hst := fun ext => call_ms (mstep_ok g b a m g1 g2) rfl rfl rfl ext
 have hsp := m.step_p
 have hfrs := m.fr_step
 rw [if_neg (by omega), if_neg hf] at hx
 have hd : decide (m.steps < m.fuel) = true := decide_eq_true (by omega)
 simp only [hd] at hst
 have t1 : m.step.t.length ≤ 1000000 := by rw [hfrs.t]; exact g8
 have t2 : p.at_ ≤ m.step.t.length := by rw [hfrs.t]; exact g6
 have t3 : m.step.same := fun h => by rw [hfrs.own, hfrs.t]; exact g9 (by rw [← hfrs.ownText]; exact h)
 generalize hm1 : m.step = m1 at *
 rw [← hsp] at hset hkids ho hx
 obtain ⟨d1, d2, d3, _, d5, d6, d7, d8, d9, d10, d11⟩ := opd1 (o := m1.p.re.op) (by omega)
 rw [if_pos ho] at hx
 cases hx
 have hcl := fun ext => call_ms (mset_ok g b a m1 .root m1.p.re p rfl hset g5 t1 t3) rfl rfl rfl ext
 generalize hy : setR m1.t m1.p.re p = y at *
 obtain ⟨y1, y2⟩ := y
 unfold Mst.objs Mst.objsT at hcl
 simp only [zM, rsV, BGoal.d, BRef.d, Re.cells_eq] at hcl
 unfold Mst.objs Mst.objsT at hst
 simp only [zM, rsV] at hst
 unfold Mst.objs Mst.objsT
 refine fn_ok func66 rfl ntmps66 results66 rfl 3 158456325028528677386111158247 (by simp) (by simp) ?_
 simp only [zX, simprocAttr, zM, rsV, BRef.d, Re.cells_eq, d4]
 refine callWp_mono (hst _) (fun v s' hv => ?_); obtain ⟨rfl, rfl⟩ := hv
 simp only [zX, simprocAttr, zM, rsV, Bool.not_true, Re.cells_eq, d1, d2, d3, d5, d6, d7, d8, d9, d10, d11]
 refine callWp_mono (hcl _) (fun v s' hv => ?_); obtain ⟨rfl, rfl⟩ := hv
 simp only [zX, simprocAttr, zM, rsV]
 first
  |(refine ⟨mobjs_ok m1 b a, ?_⟩; simp only [zM, rsV, fro, pushB, BGoal.d, BRef.d, Re.cells_eq]; done)
  | exact ⟨mobjs_ok m1 b a, rfl⟩
  | exact mobjs_ok m1 b a
theorem begin_3_el {k : Nat} (ih : SearchOK k) (g b a : Nat) (m : Mst) (re : Re) (p : BPlace) (hm : m.good p) (hset : re.set.length ≤ 1000000000) (hkids : re.kids.length ≤ 1000000000) (ho : re.op = 3) (hf : ¬ m.fuel ≤ m.steps) {x : Rs} (hx : beginB (fun m base p => srchB k true m base p true) m (.el re) p = some x) :
  callWp prog 66 [.pp 0 g 0 0 b a, .d ((BRef.el re).d b a), p.v b a] (m.objs g b a) fun v s => v = rsV b a x.2.1 x.2.2 ∧ s = x.1.objs g b a := by
 obtain ⟨⟨g1, g2, g3, g4⟩, ⟨g5, g6, g7⟩, g8, g9⟩ := hm
 unfold beginB at hx
 simp only [Mst.lit] at hx
 rw [if_neg (by omega)] at hx
 have d4 : decide (re.op = 4) = false := decide_eq_false (by omega)
 have hst := fun ext => call_ms (mstep_ok g b a m g1 g2) rfl rfl rfl ext
 have hsp := m.step_p
 have hfrs := m.fr_step
 rw [if_neg (by omega), if_neg hf] at hx
 have hd : decide (m.steps < m.fuel) = true := decide_eq_true (by omega)
 simp only [hd] at hst
 have t1 : m.step.t.length ≤ 1000000 := by rw [hfrs.t]; exact g8
 have t2 : p.at_ ≤ m.step.t.length := by rw [hfrs.t]; exact g6
 have t3 : m.step.same := fun h => by rw [hfrs.own, hfrs.t]; exact g9 (by rw [← hfrs.ownText]; exact h)
 generalize hm1 : m.step = m1 at *
 obtain ⟨d1, d2, d3, _, d5, d6, d7, d8, d9, d10, d11⟩ := opd3 (o := re.op) (by omega)
 rw [if_neg (by omega), if_neg (by omega), if_pos ho] at hx
 cases hx
 unfold Mst.objs Mst.objsT at hst
 simp only [zM, rsV] at hst
 unfold Mst.objs Mst.objsT
 refine fn_ok func66 rfl ntmps66 results66 rfl 3 158456325028528677386111158247 (by simp) (by simp) ?_
 simp only [zX, simprocAttr, zM, rsV, BRef.d, Re.cells_eq, d4]
 refine callWp_mono (hst _) (fun v s' hv => ?_); obtain ⟨rfl, rfl⟩ := hv
 simp only [zX, simprocAttr, zM, rsV, Bool.not_true, Re.cells_eq, d1, d2, d3, d5, d6, d7, d8, d9, d10, d11]
 refine frontB_at rfl ?_
 simp only [zX, simprocAttr, zM, rsV, Bool.not_true, Re.cells_eq, d1, d2, d3, d5, d6, d7, d8, d9, d10, d11]
 first
  |(refine ⟨mobjs_ok m1 b a, ?_⟩; simp only [zM, rsV, fro, pushB, BGoal.d, BRef.d, Re.cells_eq]; done)
  | exact ⟨mobjs_ok m1 b a, rfl⟩
  | exact mobjs_ok m1 b a
theorem begin_3_root {k : Nat} (ih : SearchOK k) (g b a : Nat) (m : Mst) (p : BPlace) (hm : m.good p) (hset : m.p.re.set.length ≤ 1000000000) (hkids : m.p.re.kids.length ≤ 1000000000) (ho : m.p.re.op = 3) (hf : ¬ m.fuel ≤ m.steps) {x : Rs} (hx : beginB (fun m base p => srchB k true m base p true) m .root p = some x) :
  callWp prog 66 [.pp 0 g 0 0 b a, .d ((BRef.root).d b a), p.v b a] (m.objs g b a) fun v s => v = rsV b a x.2.1 x.2.2 ∧ s = x.1.objs g b a := by
 obtain ⟨⟨g1, g2, g3, g4⟩, ⟨g5, g6, g7⟩, g8, g9⟩ := hm
 unfold beginB at hx
 simp only [Mst.lit] at hx
 rw [if_neg (by omega)] at hx
 have d4 : decide (m.p.re.op = 4) = false := decide_eq_false (by omega)
 have hst := fun ext => call_ms (mstep_ok g b a m g1 g2) rfl rfl rfl ext
 have hsp := m.step_p
 have hfrs := m.fr_step
 rw [if_neg (by omega), if_neg hf] at hx
 have hd : decide (m.steps < m.fuel) = true := decide_eq_true (by omega)
 simp only [hd] at hst
 have t1 : m.step.t.length ≤ 1000000 := by rw [hfrs.t]; exact g8
 have t2 : p.at_ ≤ m.step.t.length := by rw [hfrs.t]; exact g6
 have t3 : m.step.same := fun h => by rw [hfrs.own, hfrs.t]; exact g9 (by rw [← hfrs.ownText]; exact h)
 generalize hm1 : m.step = m1 at *
 rw [← hsp] at hset hkids ho hx
 obtain ⟨d1, d2, d3, _, d5, d6, d7, d8, d9, d10, d11⟩ := opd3 (o := m1.p.re.op) (by omega)
 rw [if_neg (by omega), if_neg (by omega), if_pos ho] at hx
 cases hx
 unfold Mst.objs Mst.objsT at hst
 simp only [zM, rsV] at hst
 unfold Mst.objs Mst.objsT
 refine fn_ok func66 rfl ntmps66 results66 rfl 3 158456325028528677386111158247 (by simp) (by simp) ?_
 simp only [zX, simprocAttr, zM, rsV, BRef.d, Re.cells_eq, d4]
 refine callWp_mono (hst _) (fun v s' hv => ?_); obtain ⟨rfl, rfl⟩ := hv
 simp only [zX, simprocAttr, zM, rsV, Bool.not_true, Re.cells_eq, d1, d2, d3, d5, d6, d7, d8, d9, d10, d11]
 refine frontB_at rfl ?_
 simp only [zX, simprocAttr, zM, rsV, Bool.not_true, Re.cells_eq, d1, d2, d3, d5, d6, d7, d8, d9, d10, d11]
 first
  |(refine ⟨mobjs_ok m1 b a, ?_⟩; simp only [zM, rsV, fro, pushB, BGoal.d, BRef.d, Re.cells_eq]; done)
  | exact ⟨mobjs_ok m1 b a, rfl⟩
  | exact mobjs_ok m1 b a
theorem begin_5_el {k : Nat} (ih : SearchOK k) (g b a : Nat) (m : Mst) (re : Re) (p : BPlace) (hm : m.good p) (hset : re.set.length ≤ 1000000000) (hkids : re.kids.length ≤ 1000000000) (ho : re.op = 5) (hf : ¬ m.fuel ≤ m.steps) {x : Rs} (hx : beginB (fun m base p => srchB k true m base p true) m (.el re) p = some x) :
  callWp prog 66 [.pp 0 g 0 0 b a, .d ((BRef.el re).d b a), p.v b a] (m.objs g b a) fun v s => v = rsV b a x.2.1 x.2.2 ∧ s = x.1.objs g b a := by
 obtain ⟨⟨g1, g2, g3, g4⟩, ⟨g5, g6, g7⟩, g8, g9⟩ := hm
 unfold beginB at hx
 simp only [Mst.lit] at hx
 rw [if_neg (by omega)] at hx
 have d4 : decide (re.op = 4) = false := decide_eq_false (by omega)
 have hst := fun ext => call_ms (mstep_ok g b a m g1 g2) rfl rfl rfl ext
 have hsp := m.step_p
 have hfrs := m.fr_step
 rw [if_neg (by omega), if_neg hf] at hx
 have hd : decide (m.steps < m.fuel) = true := decide_eq_true (by omega)
 simp only [hd] at hst
 have t1 : m.step.t.length ≤ 1000000 := by rw [hfrs.t]; exact g8
 have t2 : p.at_ ≤ m.step.t.length := by rw [hfrs.t]; exact g6
 have t3 : m.step.same := fun h => by rw [hfrs.own, hfrs.t]; exact g9 (by rw [← hfrs.ownText]; exact h)
 generalize hm1 : m.step = m1 at *
 obtain ⟨d1, d2, d3, _, d5, d6, d7, d8, d9, d10, d11⟩ := opd5 (o := re.op) (by omega)
 rw [if_neg (by omega), if_neg (by omega), if_neg (by omega), if_pos ho] at hx
 obtain ⟨kid, l, hl⟩ : ∃ kid l, re.kids = kid :: l := by
  cases hh : re.kids with
  | nil => rw [hh] at hx; cases hx
  | cons y l => exact ⟨y, l, rfl⟩
 rw [hl] at hx
 cases hx
 have hk : re.kids[0]? = some kid := by rw [hl]; rfl
 have hl0 : (0 : Int) < (re.kids.length : Int) := by rw [hl, List.length_cons]; omega
 unfold Mst.objs Mst.objsT at hst
 simp only [zM, rsV] at hst
 unfold Mst.objs Mst.objsT
 refine fn_ok func66 rfl ntmps66 results66 rfl 3 158456325028528677386111158247 (by simp) (by simp) ?_
 simp only [zX, simprocAttr, zM, rsV, BRef.d, Re.cells_eq, d4]
 refine callWp_mono (hst _) (fun v s' hv => ?_); obtain ⟨rfl, rfl⟩ := hv
 simp only [zX, simprocAttr, zM, rsV, Bool.not_true, Re.cells_eq, d1, d2, d3, d5, d6, d7, d8, d9, d10, d11]
 refine frontB_at rfl ?_
 simp only [zX, simprocAttr, zM, rsV, Bool.not_true, Re.cells_eq, d1, d2, d3, d5, d6, d7, d8, d9, d10, d11, hl0, hk]
 refine frontB_at rfl ?_
 simp only [zX, simprocAttr, zM, rsV, Bool.not_true, Re.cells_eq, d1, d2, d3, d5, d6, d7, d8, d9, d10, d11]
 first
  |(refine ⟨mobjs_ok m1 b a, ?_⟩; simp only [zM, rsV, fro, pushB, BGoal.d, BRef.d, Re.cells_eq]; done)
  | exact ⟨mobjs_ok m1 b a, rfl⟩
  | exact mobjs_ok m1 b a
theorem begin_5_root {k : Nat} (ih : SearchOK k) (g b a : Nat) (m : Mst) (p : BPlace) (hm : m.good p) (hset : m.p.re.set.length ≤ 1000000000) (hkids : m.p.re.kids.length ≤ 1000000000) (ho : m.p.re.op = 5) (hf : ¬ m.fuel ≤ m.steps) {x : Rs} (hx : beginB (fun m base p => srchB k true m base p true) m .root p = some x) :
  callWp prog 66 [.pp 0 g 0 0 b a, .d ((BRef.root).d b a), p.v b a] (m.objs g b a) fun v s => v = rsV b a x.2.1 x.2.2 ∧ s = x.1.objs g b a := by
 obtain ⟨⟨g1, g2, g3, g4⟩, ⟨g5, g6, g7⟩, g8, g9⟩ := hm
 unfold beginB at hx
 simp only [Mst.lit] at hx
 rw [if_neg (by omega)] at hx
 have d4 : decide (m.p.re.op = 4) = false := decide_eq_false (by omega)
 have hst := fun ext => call_ms (mstep_ok g b a m g1 g2) rfl rfl rfl ext
 have hsp := m.step_p
 have hfrs := m.fr_step
 rw [if_neg (by omega), if_neg hf] at hx
 have hd : decide (m.steps < m.fuel) = true := decide_eq_true (by omega)
 simp only [hd] at hst
 have t1 : m.step.t.length ≤ 1000000 := by rw [hfrs.t]; exact g8
 have t2 : p.at_ ≤ m.step.t.length := by rw [hfrs.t]; exact g6
 have t3 : m.step.same := fun h => by rw [hfrs.own, hfrs.t]; exact g9 (by rw [← hfrs.ownText]; exact h)
 generalize hm1 : m.step = m1 at *
 rw [← hsp] at hset hkids ho hx
 obtain ⟨d1, d2, d3, _, d5, d6, d7, d8, d9, d10, d11⟩ := opd5 (o := m1.p.re.op) (by omega)
 rw [if_neg (by omega), if_neg (by omega), if_neg (by omega), if_pos ho] at hx
 obtain ⟨kid, l, hl⟩ : ∃ kid l, m1.p.re.kids = kid :: l := by
  cases hh : m1.p.re.kids with
  | nil => rw [hh] at hx; cases hx
  | cons y l => exact ⟨y, l, rfl⟩
 rw [hl] at hx
 cases hx
 have hk : m1.p.re.kids[0]? = some kid := by rw [hl]; rfl
 have hl0 : (0 : Int) < (m1.p.re.kids.length : Int) := by rw [hl, List.length_cons]; omega
 unfold Mst.objs Mst.objsT at hst
 simp only [zM, rsV] at hst
 unfold Mst.objs Mst.objsT
 refine fn_ok func66 rfl ntmps66 results66 rfl 3 158456325028528677386111158247 (by simp) (by simp) ?_
 simp only [zX, simprocAttr, zM, rsV, BRef.d, Re.cells_eq, d4]
 refine callWp_mono (hst _) (fun v s' hv => ?_); obtain ⟨rfl, rfl⟩ := hv
 simp only [zX, simprocAttr, zM, rsV, Bool.not_true, Re.cells_eq, d1, d2, d3, d5, d6, d7, d8, d9, d10, d11]
 refine frontB_at rfl ?_
 simp only [zX, simprocAttr, zM, rsV, Bool.not_true, Re.cells_eq, d1, d2, d3, d5, d6, d7, d8, d9, d10, d11, hl0, hk]
 refine frontB_at rfl ?_
 simp only [zX, simprocAttr, zM, rsV, Bool.not_true, Re.cells_eq, d1, d2, d3, d5, d6, d7, d8, d9, d10, d11]
 first
  |(refine ⟨mobjs_ok m1 b a, ?_⟩; simp only [zM, rsV, fro, pushB, BGoal.d, BRef.d, Re.cells_eq]; done)
  | exact ⟨mobjs_ok m1 b a, rfl⟩
  | exact mobjs_ok m1 b a
theorem begin_2_el {k : Nat} (ih : SearchOK k) (g b a : Nat) (m : Mst) (re : Re) (p : BPlace) (hm : m.good p) (hset : re.set.length ≤ 1000000000) (hkids : re.kids.length ≤ 1000000000) (ho : re.op = 2) (hf : ¬ m.fuel ≤ m.steps) {x : Rs} (hx : beginB (fun m base p => srchB k true m base p true) m (.el re) p = some x) :
  callWp prog 66 [.pp 0 g 0 0 b a, .d ((BRef.el re).d b a), p.v b a] (m.objs g b a) fun v s => v = rsV b a x.2.1 x.2.2 ∧ s = x.1.objs g b a := by
 obtain ⟨⟨g1, g2, g3, g4⟩, ⟨g5, g6, g7⟩, g8, g9⟩ := hm
 unfold beginB at hx
 simp only [Mst.lit] at hx
 rw [if_neg (by omega)] at hx
 have d4 : decide (re.op = 4) = false := decide_eq_false (by omega)
 have hst := fun ext => call_ms (mstep_ok g b a m g1 g2) rfl rfl rfl ext
 have hsp := m.step_p
 have hfrs := m.fr_step
 rw [if_neg (by omega), if_neg hf] at hx
 have hd : decide (m.steps < m.fuel) = true := decide_eq_true (by omega)
 simp only [hd] at hst
 have t1 : m.step.t.length ≤ 1000000 := by rw [hfrs.t]; exact g8
 have t2 : p.at_ ≤ m.step.t.length := by rw [hfrs.t]; exact g6
 have t3 : m.step.same := fun h => by rw [hfrs.own, hfrs.t]; exact g9 (by rw [← hfrs.ownText]; exact h)
 generalize hm1 : m.step = m1 at *
 obtain ⟨d1, d2, d3, _, d5, d6, d7, d8, d9, d10, d11⟩ := opd2 (o := re.op) (by omega)
 rw [if_neg (by omega), if_pos ho] at hx
 cases hx
 unfold Mst.objs Mst.objsT at hst
 simp only [zM, rsV] at hst
 unfold Mst.objs Mst.objsT
 refine fn_ok func66 rfl ntmps66 results66 rfl 3 158456325028528677386111158247 (by simp) (by simp) ?_
 simp only [zX, simprocAttr, zM, rsV, BRef.d, Re.cells_eq, d4]
 refine callWp_mono (hst _) (fun v s' hv => ?_); obtain ⟨rfl, rfl⟩ := hv
 simp only [zX, simprocAttr, zM, rsV, Bool.not_true, Re.cells_eq, d1, d2, d3, d5, d6, d7, d8, d9, d10, d11]
 refine loop_rule (fun n e s => ∃ j : Nat, n = j ∧ j ≤ re.kids.length ∧ e 0 = .pp 0 g 0 0 b a ∧ e 1 = .d ((BRef.el re).d b a) ∧ e 5 = .rf 3 0 0 0 ∧ e 6 = .rf 4 0 0 0 ∧ e 8 = .cl (.func 81) [] [.rf 3 0 0 0] ∧ e 9 = i64 ((j : Int) - 1) ∧ s = m1.objs g b a ++ [⟨0, true, 3, [[.d (iD p.at_), .d (capD p.caps), .d ((pushB (re.kids.drop j) p.todo).d b a)]]⟩, ⟨0, true, 3, [[.d (iD 0), .fu [], .d (.sc (.pointer none))]]⟩])
  ⟨_, _, _, Cln.refl, re.kids.length, rfl, Nat.le_refl _, rfl, ?_, rfl, rfl, rfl, ?_, ?_⟩ ?_
 ·rw [BRef.d, Re.cells_eq]; rfl
 ·rw [w64 _ (by omega)]; rfl
 ·rw [List.drop_length]; rfl
 rintro n e s ⟨j, rfl, hj, h0, h1, h5, h6, h8, h9, rfl⟩
 simp only [BRef.d, Re.cells_eq, iD, bD] at h1
 unfold Mst.objs Mst.objsT
 cases n with
 | zero =>
  rw [show ((0 : Nat) : Int) - 1 = -1 by omega] at h9
  simp only [zX, simprocAttr, zM, rsV, h0, h1, h5, h6, h8, h9, ge_iff_le, List.drop_zero]
  first
    |(refine ⟨mobjs_ok m1 b a, ?_⟩; simp only [zM, rsV, fro, pushB, BGoal.d, BRef.d, Re.cells_eq]; done)
    | exact ⟨mobjs_ok m1 b a, rfl⟩
    | exact mobjs_ok m1 b a
 | succ j =>
  rw [show ((j + 1 : Nat) : Int) - 1 = (j : Int) by omega] at h9
  have hle : (0 : Int) ≤ (j : Int) := by omega
  have hlt : (j : Int) < (re.kids.length : Int) := by omega
  have hltn : j < re.kids.length := hj
  obtain ⟨y, hy⟩ : ∃ y, re.kids[j]? = some y := ⟨_, List.getElem?_eq_getElem hj⟩
  simp only [zX, simprocAttr, zM, rsV, h0, h1, h5, h6, h8, h9, ge_iff_le, hle, hlt, hltn, hy, Int.toNat_natCast, Re.cells_eq]
  refine frontB_at rfl ?_
  simp only [zX, simprocAttr, zM, rsV, h0, h1, h5, h6, h8, h9]
  refine ⟨j, _, _, by omega, Cln.refl, j, rfl, by omega, ?_, ?_, ?_, ?_, ?_, ?_, ?_⟩ <;> (try simp only [zU, Nat.reduceBEq, Nat.reduceShiftRight, Nat.reduceMod, Nat.reduceEqDiff, reduceIte])
  ·exact h0
  ·first | exact h1 | (rw [BRef.d, Re.cells_eq]; exact h1)
  ·exact h5
  ·exact h6
  ·exact h8
  ·rw [w64 _ (by omega)]
  ·have hdr := drop_get hy
   rw [hdr]
   simp only [pushB, List.foldr_cons, BGoal.d, BRef.d, Re.cells_eq, iD, bD]
   try rfl
theorem begin_2_root {k : Nat} (ih : SearchOK k) (g b a : Nat) (m : Mst) (p : BPlace) (hm : m.good p) (hset : m.p.re.set.length ≤ 1000000000) (hkids : m.p.re.kids.length ≤ 1000000000) (ho : m.p.re.op = 2) (hf : ¬ m.fuel ≤ m.steps) {x : Rs} (hx : beginB (fun m base p => srchB k true m base p true) m .root p = some x) :
  callWp prog 66 [.pp 0 g 0 0 b a, .d ((BRef.root).d b a), p.v b a] (m.objs g b a) fun v s => v = rsV b a x.2.1 x.2.2 ∧ s = x.1.objs g b a := by
 obtain ⟨⟨g1, g2, g3, g4⟩, ⟨g5, g6, g7⟩, g8, g9⟩ := hm
 unfold beginB at hx
 simp only [Mst.lit] at hx
 rw [if_neg (by omega)] at hx
 have d4 : decide (m.p.re.op = 4) = false := decide_eq_false (by omega)
 have hst := fun ext => call_ms (mstep_ok g b a m g1 g2) rfl rfl rfl ext
 have hsp := m.step_p
 have hfrs := m.fr_step
 rw [if_neg (by omega), if_neg hf] at hx
 have hd : decide (m.steps < m.fuel) = true := decide_eq_true (by omega)
 simp only [hd] at hst
 have t1 : m.step.t.length ≤ 1000000 := by rw [hfrs.t]; exact g8
 have t2 : p.at_ ≤ m.step.t.length := by rw [hfrs.t]; exact g6
 have t3 : m.step.same := fun h => by rw [hfrs.own, hfrs.t]; exact g9 (by rw [← hfrs.ownText]; exact h)
 generalize hm1 : m.step = m1 at *
 rw [← hsp] at hset hkids ho hx
 obtain ⟨d1, d2, d3, _, d5, d6, d7, d8, d9, d10, d11⟩ := opd2 (o := m1.p.re.op) (by omega)
 rw [if_neg (by omega), if_pos ho] at hx
 cases hx
 unfold Mst.objs Mst.objsT at hst
 simp only [zM, rsV] at hst
 unfold Mst.objs Mst.objsT
 refine fn_ok func66 rfl ntmps66 results66 rfl 3 158456325028528677386111158247 (by simp) (by simp) ?_
 simp only [zX, simprocAttr, zM, rsV, BRef.d, Re.cells_eq, d4]
 refine callWp_mono (hst _) (fun v s' hv => ?_); obtain ⟨rfl, rfl⟩ := hv
 simp only [zX, simprocAttr, zM, rsV, Bool.not_true, Re.cells_eq, d1, d2, d3, d5, d6, d7, d8, d9, d10, d11]
 refine loop_rule (fun n e s => ∃ j : Nat, n = j ∧ j ≤ m1.p.re.kids.length ∧ e 0 = .pp 0 g 0 0 b a ∧ e 1 = .d ((BRef.root).d b a) ∧ e 5 = .rf 3 0 0 0 ∧ e 6 = .rf 4 0 0 0 ∧ e 8 = .cl (.func 81) [] [.rf 3 0 0 0] ∧ e 9 = i64 ((j : Int) - 1) ∧ s = m1.objs g b a ++ [⟨0, true, 3, [[.d (iD p.at_), .d (capD p.caps), .d ((pushB (m1.p.re.kids.drop j) p.todo).d b a)]]⟩, ⟨0, true, 3, [[.d (iD 0), .fu [], .d (.sc (.pointer none))]]⟩])
  ⟨_, _, _, Cln.refl, m1.p.re.kids.length, rfl, Nat.le_refl _, rfl, ?_, rfl, rfl, rfl, ?_, ?_⟩ ?_
 ·rfl
 ·rw [w64 _ (by omega)]; rfl
 ·rw [List.drop_length]; rfl
 rintro n e s ⟨j, rfl, hj, h0, h1, h5, h6, h8, h9, rfl⟩
 simp only [BRef.d, Re.cells_eq, iD, bD] at h1
 unfold Mst.objs Mst.objsT
 cases n with
 | zero =>
  rw [show ((0 : Nat) : Int) - 1 = -1 by omega] at h9
  simp only [zX, simprocAttr, zM, rsV, h0, h1, h5, h6, h8, h9, ge_iff_le, List.drop_zero]
  first
    |(refine ⟨mobjs_ok m1 b a, ?_⟩; simp only [zM, rsV, fro, pushB, BGoal.d, BRef.d, Re.cells_eq]; done)
    | exact ⟨mobjs_ok m1 b a, rfl⟩
    | exact mobjs_ok m1 b a
 | succ j =>
  rw [show ((j + 1 : Nat) : Int) - 1 = (j : Int) by omega] at h9
  have hle : (0 : Int) ≤ (j : Int) := by omega
  have hlt : (j : Int) < (m1.p.re.kids.length : Int) := by omega
  have hltn : j < m1.p.re.kids.length := hj
  obtain ⟨y, hy⟩ : ∃ y, m1.p.re.kids[j]? = some y := ⟨_, List.getElem?_eq_getElem hj⟩
  simp only [zX, simprocAttr, zM, rsV, h0, h1, h5, h6, h8, h9, ge_iff_le, hle, hlt, hltn, hy, Int.toNat_natCast, Re.cells_eq]
  refine frontB_at rfl ?_
  simp only [zX, simprocAttr, zM, rsV, h0, h1, h5, h6, h8, h9]
  refine ⟨j, _, _, by omega, Cln.refl, j, rfl, by omega, ?_, ?_, ?_, ?_, ?_, ?_, ?_⟩ <;> (try simp only [zU, Nat.reduceBEq, Nat.reduceShiftRight, Nat.reduceMod, Nat.reduceEqDiff, reduceIte])
  ·exact h0
  ·first | exact h1 | (rw [BRef.d, Re.cells_eq]; exact h1)
  ·exact h5
  ·exact h6
  ·exact h8
  ·rw [w64 _ (by omega)]
  ·have hdr := drop_get hy
   rw [hdr]
   simp only [pushB, List.foldr_cons, BGoal.d, BRef.d, Re.cells_eq, iD, bD]
   try rfl
end Go.Proofs.Ytilapneoohcplaa
