/- A part of the proof (G28 G29). -/
import Derived.Test.YtilapneoohcplaaBO26
set_option linter.unusedSimpArgs false
set_option linter.unusedVariables false
set_option maxRecDepth 100000
set_option maxHeartbeats 80000000
namespace Go.Proofs.Ytilapneoohcplaa
open Go.VL Go.Proofs.Try
theorem frontA_ok (gp : Nat) (kind n at_ x : Int) (rd cd nd : D) :
  callWp prog 65 [i64 kind, .d rd, i64 n, i64 at_, .rf 0 gp 0 0] [⟨gp, true, 3, [[.d (iD x), .d cd, .d nd]]⟩] fun v s => v = .tu [] ∧ s = [⟨gp, true, 3, [[.d (iD x), .d cd, .d (.el [iD kind, rd, iD n, iD at_, nd])]]⟩] := by
 refine fn_frz func65 rfl ntmps65 results65 rfl 1 31 (by simp) (by simp) ?_
 simp only [zX, simprocAttr, zM, QfinF, finFWp, frzO]
theorem frontA_at {gp k : Nat} {kind n at_ x : Int} {rd cd nd : D} {s : List VL.Obj} {K : V → List VL.Obj → Prop} (ho : s[k]? = some ⟨gp, true, 3, [[.d (.sc (.int .i64 x)), .d cd, .d nd]]⟩)
  (hk : K (.tu []) (s.set k ⟨gp, true, 3, [[.d (.sc (.int .i64 x)), .d cd, .d (.el [.sc (.int .i64 kind), rd, .sc (.int .i64 n), .sc (.int .i64 at_), nd])]]⟩)) :
  callWp prog 65 [.d (.sc (.int .i64 kind)), .d rd, .d (.sc (.int .i64 n)), .d (.sc (.int .i64 at_)), .rf k gp 0 0] s K :=
 call_at k (frontA_ok gp kind n at_ x rd cd nd) rfl rfl rfl ho rfl hk
theorem frontB_ok (gp : Nat) (kind n at_ x : Int) (rd cd nd : D) :
  callWp prog 81 [i64 kind, .d rd, i64 n, i64 at_, .rf 0 gp 0 0] [⟨gp, true, 3, [[.d (iD x), .d cd, .d nd]]⟩] fun v s => v = .tu [] ∧ s = [⟨gp, true, 3, [[.d (iD x), .d cd, .d (.el [iD kind, rd, iD n, iD at_, nd])]]⟩] := by
 refine fn_frz func81 rfl ntmps81 results81 rfl 1 31 (by simp) (by simp) ?_
 simp only [zX, simprocAttr, zM, QfinF, finFWp, frzO]
theorem frontB_at {gp k : Nat} {kind n at_ x : Int} {rd cd nd : D} {s : List VL.Obj} {K : V → List VL.Obj → Prop} (ho : s[k]? = some ⟨gp, true, 3, [[.d (.sc (.int .i64 x)), .d cd, .d nd]]⟩)
  (hk : K (.tu []) (s.set k ⟨gp, true, 3, [[.d (.sc (.int .i64 x)), .d cd, .d (.el [.sc (.int .i64 kind), rd, .sc (.int .i64 n), .sc (.int .i64 at_), nd])]]⟩)) :
  callWp prog 81 [.d (.sc (.int .i64 kind)), .d rd, .d (.sc (.int .i64 n)), .d (.sc (.int .i64 at_)), .rf k gp 0 0] s K :=
 call_at k (frontB_ok gp kind n at_ x rd cd nd) rfl rfl rfl ho rfl hk
theorem Mst.step_p (m : Mst) : m.step.p = m.p := by unfold Mst.step; split <;> rfl
theorem Mst.step_top (m : Mst) : m.step.top = m.top := by unfold Mst.step; split <;> rfl
theorem Mst.step_stk (m : Mst) : m.step.stk = m.stk := by unfold Mst.step; split <;> rfl
theorem call_ms {f : FuncId} {g b a : Nat} {cargs : List V} {m m' : Mst} {r : V} (h : callWp prog f cargs (m.objs g b a) fun v s => v = r ∧ s = m'.objs g b a) (ha : cargs.map (renV [0, 1, 2]) = cargs) (hra : refsV.go 3 cargs = true) (hr : renV [0, 1, 2] r = r)
  (ext : List VL.Obj) : callWp prog f cargs (m.objs g b a ++ ext) fun v s => v = r ∧ s = m'.objs g b a ++ ext := by
 have hren : ∀ m : Mst, (m.objs g b a).map (renO [0, 1, 2]) = m.objs g b a := by
  intro m
  unfold Mst.objs Mst.objsT
  simp only [List.map_cons, List.map_nil, List.cons.injEq, and_true]
  refine ⟨?_, ?_, ?_⟩
  ·unfold Mst.text; split <;> rfl
  ·unfold renO
   simp only [List.map_map]
   congr 1
   refine List.map_congr_left fun p _ => ?_
   cases p <;> rfl
  ·exact renO_d [0, 1, 2] m.ogen true 1 m.own iD
 refine call_map [0, 1, 2] h (by decide) (by rfl) ?_ ha.symm hra (objsT_ok g b a m _ 3 (Nat.le_refl _) (mtext_refs m)) hr ?_
 ·have e : (m.objs g b a).map (fun o => some (renO [0, 1, 2] o)) = (m.objs g b a).map some := by
   conv => rhs; rw [← hren m]
   rw [List.map_map]; rfl
  rw [e]; rfl
 ·rw [hren]
  exact ⟨rfl, rfl⟩
theorem BGoal.d_mk (b a : Nat) (kind : Int) (r : BRef) (n at_ : Int) (nx : BGoal) : (BGoal.mk kind r n at_ nx).d b a = .el [.sc (.int .i64 kind), r.d b a, .sc (.int .i64 n), .sc (.int .i64 at_), nx.d b a] := rfl
theorem round_el (g b a : Nat) (m : Mst) (re : Re) (n at_ : Int) (nx : BGoal) (p : BPlace) (kid : Re) (hk : re.kids[0]? = some kid) (hm : m.good p) (hn0 : 0 ≤ n) (hn1 : n ≤ 10000000000000) {x : Rs} (hx : roundB m (.el re) n p = some x) :
  callWp prog 68 [.pp 0 g 0 0 b a, .d ((BGoal.mk 2 (.el re) n at_ nx).d b a), p.v b a] (m.objs g b a) fun v s => v = rsV b a x.2.1 x.2.2 ∧ s = x.1.objs g b a := by
 obtain ⟨⟨g1, g2, g3, g4⟩, ⟨g5, g6, g7⟩, g8, g9⟩ := hm
 have hst := fun ext => call_ms (mstep_ok g b a m g1 g2) rfl rfl rfl ext
 unfold roundB at hx
 simp only [Mst.lit] at hx
 obtain ⟨l, hl⟩ : ∃ l, re.kids = kid :: l := by
  cases hh : re.kids with
  | nil => rw [hh] at hk; cases hk
  | cons y l => rw [hh] at hk; cases hk; exact ⟨l, rfl⟩
 rw [hl] at hx
 simp only at hx
 have hl0 : (0 : Int) < (re.kids.length : Int) := by rw [hl, List.length_cons]; omega
 clear hl
 have hsp := m.step_p
 have hstk := m.step_stk
 have hstop := m.step_top
 by_cases c1 : m.fuel ≤ m.steps
 ·rw [if_pos c1] at hx
  cases hx
  have hd : decide (m.steps < m.fuel) = false := decide_eq_false (by omega)
  simp only [hd] at hst
  unfold Mst.objs Mst.objsT at hst
  simp only [zM] at hst
  unfold Mst.objs Mst.objsT
  refine fn_ok func68 rfl ntmps68 results68 rfl 3 2023 (by simp) (by simp) ?_
  simp only [zX, simprocAttr, zM, BGoal.d_mk]
  refine callWp_mono (hst _) (fun v s' hv => ?_); obtain ⟨rfl, rfl⟩ := hv
  simp only [zX, simprocAttr, zM, Bool.not_false]
  exact ⟨mobjs_ok m.step b a, rfl⟩
 ·rw [if_neg c1] at hx
  have hd : decide (m.steps < m.fuel) = true := decide_eq_true (by omega)
  simp only [hd] at hst
  generalize hm1 : m.step = m1 at *
  unfold Mst.objs Mst.objsT at hst
  simp only [zM] at hst
  unfold Mst.objs Mst.objsT
  have w1 : IntKind.i64.wrap (n + 1) = n + 1 := w64 _ (by omega)
  have hpush : ∀ q : BPlace, callWp prog 67 [.pp 0 g 0 0 b a, q.v b a] (m1.objs g b a) fun v s => v = .tu [] ∧ s = (m1.push q).objs g b a := fun q => choose_ok g b a m1 q (by rw [hstop, hstk]; exact g3) (by rw [hstop]; exact g4)
  refine fn_ok func68 rfl ntmps68 results68 rfl 3 2023 (by simp) (by simp) ?_
  simp only [zX, simprocAttr, zM, BGoal.d_mk]
  refine callWp_mono (hst _) (fun v s' hv => ?_); obtain ⟨rfl, rfl⟩ := hv
  simp only [zX, simprocAttr, zM, Bool.not_true, BRef.d, Re.cells_eq, hl0, hk]
  refine draw_first (Cln0.reserve.trans Cln0.reserve) ?_
  refine draw_c mix [] [(0,[3],[]),(1,[3],[]),(2,[5],[5]),(3,[6],[6]),(4,[5],[5]),(5,[6],[6])] (by rfl) ?_
  simp only [zX, simprocAttr, zM, hole]
  refine draw_c mix [] [(8,[0],[]),(9,[0],[]),(10,[0],[])] (by rfl) ?_
  by_cases c2 : n < re.mn
  ·rw [if_pos c2] at hx
   cases hx
   simp only [zX, simprocAttr, zM, c2, BRef.d, Re.cells_eq]
   refine draw_first Cln0.reserve ?_
   refine draw_c mix [14] [(10,[3],[]),(11,[3],[]),(13,[7],[7]),(15,[6],[]),(16,[6],[6])] (by rfl) ?_
   simp only [zX, simprocAttr, zM, hole, w1]
   refine callD_of (call_give [7] (by simp [killO, kill1, frzV.go, frzV, frzD, BGoal.d_mk, BRef.d, Re.cells_eq, iD, bD]) (call_pure (match_ok b a (.el kid) (.mk 2 (.el re) (n + 1) 0 p.todo)) rfl rfl ⟨rfl, rfl⟩)) ?_
   simp only [zX, simprocAttr, zM, BGoal.d_mk, BRef.d, Re.cells_eq, killO, kill1]
   refine ⟨mobjs_ok m1 b a, ?_⟩
   simp only [zM, rsV, BGoal.d_mk, BRef.d, Re.cells_eq]
  ·rw [if_neg c2] at hx
   have hpm := fun ext => call_ms (hpush { p with todo := .mk 0 (.el kid) 0 0 (.mk 3 (.el re) (n + 1) p.at_ p.todo) }) rfl rfl rfl ext
   have hpp := fun ext => call_ms (hpush p) rfl rfl rfl ext
   generalize hm2 : m1.push { p with todo := .mk 0 (.el kid) 0 0 (.mk 3 (.el re) (n + 1) p.at_ p.todo) } = m2 at *
   generalize hm3 : m1.push p = m3 at *
   unfold Mst.objs Mst.objsT at hpm hpp
   simp only [zM, BGoal.d_mk, BRef.d, Re.cells_eq] at hpm hpp
   simp only [zX, simprocAttr, zM, c2, BRef.d, Re.cells_eq]
   refine draw_c mix [] [(4,[0],[]),(5,[0],[]),(6,[0],[]),(17,[0],[]),(18,[0],[]),(19,[0],[])] (by rfl) ?_
   by_cases c3 : 0 ≤ re.mx ∧ re.mx ≤ n
   ·rw [if_pos c3] at hx
    cases hx
    simp only [zX, simprocAttr, zM, c3.1, c3.2, ge_iff_le, BRef.d, Re.cells_eq]
    exact ⟨mobjs_ok m1 b a, rfl⟩
   ·rw [if_neg c3] at hx
    by_cases c4 : 0 ≤ re.mx
    ·have c5 : ¬ re.mx ≤ n := fun h => c3 ⟨c4, h⟩
     simp only [zX, simprocAttr, zM, c4, c5, ge_iff_le, BRef.d, Re.cells_eq]
     refine draw_first Cln0.reserve ?_
     refine draw_c mix [16] [(10,[3],[]),(11,[3],[]),(12,[3],[]),(13,[3],[]),(15,[7],[7]),(17,[6],[]),(18,[6],[6])] (by rfl) ?_
     simp only [zX, simprocAttr, zM, hole, w1]
     refine callD_of (call_give [7] (by simp [killO, kill1, frzV.go, frzV, frzD, BGoal.d_mk, BRef.d, Re.cells_eq, iD, bD]) (call_pure (match_ok b a (.el kid) (.mk 3 (.el re) (n + 1) p.at_ p.todo)) rfl rfl ⟨rfl, rfl⟩)) ?_
     by_cases c6 : re.mode = 1
     ·rw [if_pos c6] at hx
      have d6 : decide (re.mode = 1) = true := decide_eq_true c6
      cases hx
      simp only [zX, simprocAttr, zM, BGoal.d_mk, BRef.d, Re.cells_eq, d6, killO, kill1]
      refine callWp_mono (hpm _) (fun v s' hv => ?_); obtain ⟨rfl, rfl⟩ := hv
      simp only [zX, simprocAttr, zM]
      exact ⟨mobjs_ok m2 b a, rfl⟩
     ·rw [if_neg c6] at hx
      have d6 : decide (re.mode = 1) = false := decide_eq_false c6
      cases hx
      simp only [zX, simprocAttr, zM, BGoal.d_mk, BRef.d, Re.cells_eq, d6, killO, kill1]
      refine callWp_mono (hpp _) (fun v s' hv => ?_); obtain ⟨rfl, rfl⟩ := hv
      simp only [zX, simprocAttr, zM]
      refine ⟨mobjs_ok m3 b a, ?_⟩
      simp only [zM, rsV, BGoal.d_mk, BRef.d, Re.cells_eq]
    ·simp only [zX, simprocAttr, zM, c4, ge_iff_le, BRef.d, Re.cells_eq]
     refine draw_first Cln0.reserve ?_
     refine draw_c mix [16] [(10,[3],[]),(11,[3],[]),(12,[3],[]),(13,[3],[]),(15,[7],[7]),(17,[6],[]),(18,[6],[6])] (by rfl) ?_
     simp only [zX, simprocAttr, zM, hole, w1]
     refine callD_of (call_give [7] (by simp [killO, kill1, frzV.go, frzV, frzD, BGoal.d_mk, BRef.d, Re.cells_eq, iD, bD]) (call_pure (match_ok b a (.el kid) (.mk 3 (.el re) (n + 1) p.at_ p.todo)) rfl rfl ⟨rfl, rfl⟩)) ?_
     by_cases c6 : re.mode = 1
     ·rw [if_pos c6] at hx
      have d6 : decide (re.mode = 1) = true := decide_eq_true c6
      cases hx
      simp only [zX, simprocAttr, zM, BGoal.d_mk, BRef.d, Re.cells_eq, d6, killO, kill1]
      refine callWp_mono (hpm _) (fun v s' hv => ?_); obtain ⟨rfl, rfl⟩ := hv
      simp only [zX, simprocAttr, zM]
      exact ⟨mobjs_ok m2 b a, rfl⟩
     ·rw [if_neg c6] at hx
      have d6 : decide (re.mode = 1) = false := decide_eq_false c6
      cases hx
      simp only [zX, simprocAttr, zM, BGoal.d_mk, BRef.d, Re.cells_eq, d6, killO, kill1]
      refine callWp_mono (hpp _) (fun v s' hv => ?_); obtain ⟨rfl, rfl⟩ := hv
      simp only [zX, simprocAttr, zM]
      refine ⟨mobjs_ok m3 b a, ?_⟩
      simp only [zM, rsV, BGoal.d_mk, BRef.d, Re.cells_eq]
theorem round_root (g b a : Nat) (m : Mst) (n at_ : Int) (nx : BGoal) (p : BPlace) (kid : Re) (hk : m.p.re.kids[0]? = some kid) (hm : m.good p) (hn0 : 0 ≤ n) (hn1 : n ≤ 10000000000000) {x : Rs} (hx : roundB m .root n p = some x) :
  callWp prog 68 [.pp 0 g 0 0 b a, .d ((BGoal.mk 2 .root n at_ nx).d b a), p.v b a] (m.objs g b a) fun v s => v = rsV b a x.2.1 x.2.2 ∧ s = x.1.objs g b a := by
 obtain ⟨⟨g1, g2, g3, g4⟩, ⟨g5, g6, g7⟩, g8, g9⟩ := hm
 have hst := fun ext => call_ms (mstep_ok g b a m g1 g2) rfl rfl rfl ext
 unfold roundB at hx
 simp only [Mst.lit] at hx
 obtain ⟨l, hl⟩ : ∃ l, m.p.re.kids = kid :: l := by
  cases hh : m.p.re.kids with
  | nil => rw [hh] at hk; cases hk
  | cons y l => rw [hh] at hk; cases hk; exact ⟨l, rfl⟩
 rw [hl] at hx
 simp only at hx
 have hl0 : (0 : Int) < (m.p.re.kids.length : Int) := by rw [hl, List.length_cons]; omega
 clear hl
 have hsp := m.step_p
 have hstk := m.step_stk
 have hstop := m.step_top
 by_cases c1 : m.fuel ≤ m.steps
 ·rw [if_pos c1] at hx
  cases hx
  have hd : decide (m.steps < m.fuel) = false := decide_eq_false (by omega)
  simp only [hd] at hst
  unfold Mst.objs Mst.objsT at hst
  simp only [zM] at hst
  unfold Mst.objs Mst.objsT
  refine fn_ok func68 rfl ntmps68 results68 rfl 3 2023 (by simp) (by simp) ?_
  simp only [zX, simprocAttr, zM, BGoal.d_mk]
  refine callWp_mono (hst _) (fun v s' hv => ?_); obtain ⟨rfl, rfl⟩ := hv
  simp only [zX, simprocAttr, zM, Bool.not_false]
  exact ⟨mobjs_ok m.step b a, rfl⟩
 ·rw [if_neg c1] at hx
  have hd : decide (m.steps < m.fuel) = true := decide_eq_true (by omega)
  simp only [hd] at hst
  generalize hm1 : m.step = m1 at *
  rw [← hsp] at hk hl0 hx
  unfold Mst.objs Mst.objsT at hst
  simp only [zM] at hst
  unfold Mst.objs Mst.objsT
  have w1 : IntKind.i64.wrap (n + 1) = n + 1 := w64 _ (by omega)
  have hpush : ∀ q : BPlace, callWp prog 67 [.pp 0 g 0 0 b a, q.v b a] (m1.objs g b a) fun v s => v = .tu [] ∧ s = (m1.push q).objs g b a := fun q => choose_ok g b a m1 q (by rw [hstop, hstk]; exact g3) (by rw [hstop]; exact g4)
  refine fn_ok func68 rfl ntmps68 results68 rfl 3 2023 (by simp) (by simp) ?_
  simp only [zX, simprocAttr, zM, BGoal.d_mk]
  refine callWp_mono (hst _) (fun v s' hv => ?_); obtain ⟨rfl, rfl⟩ := hv
  simp only [zX, simprocAttr, zM, Bool.not_true, BRef.d, Re.cells_eq, hl0, hk]
  refine draw_first (Cln0.reserve.trans Cln0.reserve) ?_
  refine draw_c mix [] [(0,[3],[]),(1,[3],[]),(2,[5],[5]),(3,[6],[6]),(4,[5],[5]),(5,[6],[6])] (by rfl) ?_
  simp only [zX, simprocAttr, zM, hole]
  refine draw_c mix [] [(8,[0],[]),(9,[0],[]),(10,[0],[])] (by rfl) ?_
  by_cases c2 : n < m1.p.re.mn
  ·rw [if_pos c2] at hx
   cases hx
   simp only [zX, simprocAttr, zM, c2, BRef.d, Re.cells_eq]
   refine draw_first Cln0.reserve ?_
   refine draw_c mix [14] [(10,[3],[]),(11,[3],[]),(13,[7],[7]),(15,[6],[]),(16,[6],[6])] (by rfl) ?_
   simp only [zX, simprocAttr, zM, hole, w1]
   refine callD_of (call_give [7] (by simp [killO, kill1, frzV.go, frzV, frzD, BGoal.d_mk, BRef.d, Re.cells_eq, iD, bD]) (call_pure (match_ok b a (.el kid) (.mk 2 .root (n + 1) 0 p.todo)) rfl rfl ⟨rfl, rfl⟩)) ?_
   simp only [zX, simprocAttr, zM, BGoal.d_mk, BRef.d, Re.cells_eq, killO, kill1]
   refine ⟨mobjs_ok m1 b a, ?_⟩
   simp only [zM, rsV, BGoal.d_mk, BRef.d, Re.cells_eq]
  ·rw [if_neg c2] at hx
   have hpm := fun ext => call_ms (hpush { p with todo := .mk 0 (.el kid) 0 0 (.mk 3 .root (n + 1) p.at_ p.todo) }) rfl rfl rfl ext
   have hpp := fun ext => call_ms (hpush p) rfl rfl rfl ext
   generalize hm2 : m1.push { p with todo := .mk 0 (.el kid) 0 0 (.mk 3 .root (n + 1) p.at_ p.todo) } = m2 at *
   generalize hm3 : m1.push p = m3 at *
   unfold Mst.objs Mst.objsT at hpm hpp
   simp only [zM, BGoal.d_mk, BRef.d, Re.cells_eq] at hpm hpp
   simp only [zX, simprocAttr, zM, c2, BRef.d, Re.cells_eq]
   refine draw_c mix [] [(4,[0],[]),(5,[0],[]),(6,[0],[]),(17,[0],[]),(18,[0],[]),(19,[0],[])] (by rfl) ?_
   by_cases c3 : 0 ≤ m1.p.re.mx ∧ m1.p.re.mx ≤ n
   ·rw [if_pos c3] at hx
    cases hx
    simp only [zX, simprocAttr, zM, c3.1, c3.2, ge_iff_le, BRef.d, Re.cells_eq]
    exact ⟨mobjs_ok m1 b a, rfl⟩
   ·rw [if_neg c3] at hx
    by_cases c4 : 0 ≤ m1.p.re.mx
    ·have c5 : ¬ m1.p.re.mx ≤ n := fun h => c3 ⟨c4, h⟩
     simp only [zX, simprocAttr, zM, c4, c5, ge_iff_le, BRef.d, Re.cells_eq]
     refine draw_first Cln0.reserve ?_
     refine draw_c mix [16] [(10,[3],[]),(11,[3],[]),(12,[3],[]),(13,[3],[]),(15,[7],[7]),(17,[6],[]),(18,[6],[6])] (by rfl) ?_
     simp only [zX, simprocAttr, zM, hole, w1]
     refine callD_of (call_give [7] (by simp [killO, kill1, frzV.go, frzV, frzD, BGoal.d_mk, BRef.d, Re.cells_eq, iD, bD]) (call_pure (match_ok b a (.el kid) (.mk 3 .root (n + 1) p.at_ p.todo)) rfl rfl ⟨rfl, rfl⟩)) ?_
     by_cases c6 : m1.p.re.mode = 1
     ·rw [if_pos c6] at hx
      have d6 : decide (m1.p.re.mode = 1) = true := decide_eq_true c6
      cases hx
      simp only [zX, simprocAttr, zM, BGoal.d_mk, BRef.d, Re.cells_eq, d6, killO, kill1]
      refine callWp_mono (hpm _) (fun v s' hv => ?_); obtain ⟨rfl, rfl⟩ := hv
      simp only [zX, simprocAttr, zM]
      exact ⟨mobjs_ok m2 b a, rfl⟩
     ·rw [if_neg c6] at hx
      have d6 : decide (m1.p.re.mode = 1) = false := decide_eq_false c6
      cases hx
      simp only [zX, simprocAttr, zM, BGoal.d_mk, BRef.d, Re.cells_eq, d6, killO, kill1]
      refine callWp_mono (hpp _) (fun v s' hv => ?_); obtain ⟨rfl, rfl⟩ := hv
      simp only [zX, simprocAttr, zM]
      refine ⟨mobjs_ok m3 b a, ?_⟩
      simp only [zM, rsV, BGoal.d_mk, BRef.d, Re.cells_eq]
    ·simp only [zX, simprocAttr, zM, c4, ge_iff_le, BRef.d, Re.cells_eq]
     refine draw_first Cln0.reserve ?_
     refine draw_c mix [16] [(10,[3],[]),(11,[3],[]),(12,[3],[]),(13,[3],[]),(15,[7],[7]),(17,[6],[]),(18,[6],[6])] (by rfl) ?_
     simp only [zX, simprocAttr, zM, hole, w1]
     refine callD_of (call_give [7] (by simp [killO, kill1, frzV.go, frzV, frzD, BGoal.d_mk, BRef.d, Re.cells_eq, iD, bD]) (call_pure (match_ok b a (.el kid) (.mk 3 .root (n + 1) p.at_ p.todo)) rfl rfl ⟨rfl, rfl⟩)) ?_
     by_cases c6 : m1.p.re.mode = 1
     ·rw [if_pos c6] at hx
      have d6 : decide (m1.p.re.mode = 1) = true := decide_eq_true c6
      cases hx
      simp only [zX, simprocAttr, zM, BGoal.d_mk, BRef.d, Re.cells_eq, d6, killO, kill1]
      refine callWp_mono (hpm _) (fun v s' hv => ?_); obtain ⟨rfl, rfl⟩ := hv
      simp only [zX, simprocAttr, zM]
      exact ⟨mobjs_ok m2 b a, rfl⟩
     ·rw [if_neg c6] at hx
      have d6 : decide (m1.p.re.mode = 1) = false := decide_eq_false c6
      cases hx
      simp only [zX, simprocAttr, zM, BGoal.d_mk, BRef.d, Re.cells_eq, d6, killO, kill1]
      refine callWp_mono (hpp _) (fun v s' hv => ?_); obtain ⟨rfl, rfl⟩ := hv
      simp only [zX, simprocAttr, zM]
      refine ⟨mobjs_ok m3 b a, ?_⟩
      simp only [zM, rsV, BGoal.d_mk, BRef.d, Re.cells_eq]
end Go.Proofs.Ytilapneoohcplaa
