/- A part of the proof (G36). -/
import Derived.Test.YtilapneoohcplaaBO31
set_option linter.unusedSimpArgs false
set_option linter.unusedVariables false
set_option maxRecDepth 100000
set_option maxHeartbeats 80000000
namespace Go.Proofs.Ytilapneoohcplaa
open Go.VL Go.Proofs.Try
theorem mbegin_ok {k : Nat} (ih : SearchOK k) (g b a : Nat) (m : Mst) (r : BRef) (p : BPlace) (hm : m.good p) {x : Rs} (hx : beginB (fun m base p => srchB k true m base p true) m r p = some x) :
  callWp prog 66 [.pp 0 g 0 0 b a, .d (r.d b a), p.v b a] (m.objs g b a) fun v s => v = rsV b a x.2.1 x.2.2 ∧ s = x.1.objs g b a := by
 have key : ∀ re, m.lit r = some re → (re.set.length ≤ 1000000000 ∧ re.kids.length ≤ 1000000000) := by
  intro re hre
  unfold beginB at hx
  rw [hre] at hx
  simp only at hx
  by_cases c : 1000000000 < re.set.length ∨ 1000000000 < re.kids.length
  ·rw [if_pos c] at hx; cases hx
  ·omega
 cases r with
 | nil => cases hx
 | root =>
  obtain ⟨k1, k2⟩ := key m.p.re rfl
  by_cases o4 : m.p.re.op = 4
  ·by_cases om : m.p.re.mode = 2
   ·exact begin_poss_root ih g b a m p hm k1 k2 o4 om hx
   ·exact begin_rep_root ih g b a m p hm k1 k2 o4 om hx
  by_cases hf : m.fuel ≤ m.steps
  ·exact begin_out_root ih g b a m p hm k1 k2 o4 hf hx
  by_cases o1 : m.p.re.op = 1
  ·exact begin_1_root ih g b a m p hm k1 k2 o1 hf hx
  by_cases o2 : m.p.re.op = 2
  ·exact begin_2_root ih g b a m p hm k1 k2 o2 hf hx
  by_cases o3 : m.p.re.op = 3
  ·exact begin_3_root ih g b a m p hm k1 k2 o3 hf hx
  by_cases o5 : m.p.re.op = 5
  ·exact begin_5_root ih g b a m p hm k1 k2 o5 hf hx
  by_cases o6 : m.p.re.op = 6
  ·exact begin_6_root ih g b a m p hm k1 k2 o6 hf hx
  by_cases o7 : m.p.re.op = 7
  ·exact begin_7_root ih g b a m p hm k1 k2 o7 hf hx
  by_cases o8 : m.p.re.op = 8
  ·exact begin_8_root ih g b a m p hm k1 k2 o8 hf hx
  by_cases o9 : m.p.re.op = 9
  ·exact begin_9_root ih g b a m p hm k1 k2 o9 hf hx
  by_cases o10 : m.p.re.op = 10
  ·exact begin_10_root ih g b a m p hm k1 k2 o10 hf hx
  by_cases o11 : m.p.re.op = 11
  ·exact begin_11_root ih g b a m p hm k1 k2 o11 hf hx
  exact begin_oth_root ih g b a m p hm k1 k2 (by omega) hf hx
 | el re =>
  obtain ⟨k1, k2⟩ := key re rfl
  by_cases o4 : re.op = 4
  ·by_cases om : re.mode = 2
   ·exact begin_poss_el ih g b a m re p hm k1 k2 o4 om hx
   ·exact begin_rep_el ih g b a m re p hm k1 k2 o4 om hx
  by_cases hf : m.fuel ≤ m.steps
  ·exact begin_out_el ih g b a m re p hm k1 k2 o4 hf hx
  by_cases o1 : re.op = 1
  ·exact begin_1_el ih g b a m re p hm k1 k2 o1 hf hx
  by_cases o2 : re.op = 2
  ·exact begin_2_el ih g b a m re p hm k1 k2 o2 hf hx
  by_cases o3 : re.op = 3
  ·exact begin_3_el ih g b a m re p hm k1 k2 o3 hf hx
  by_cases o5 : re.op = 5
  ·exact begin_5_el ih g b a m re p hm k1 k2 o5 hf hx
  by_cases o6 : re.op = 6
  ·exact begin_6_el ih g b a m re p hm k1 k2 o6 hf hx
  by_cases o7 : re.op = 7
  ·exact begin_7_el ih g b a m re p hm k1 k2 o7 hf hx
  by_cases o8 : re.op = 8
  ·exact begin_8_el ih g b a m re p hm k1 k2 o8 hf hx
  by_cases o9 : re.op = 9
  ·exact begin_9_el ih g b a m re p hm k1 k2 o9 hf hx
  by_cases o10 : re.op = 10
  ·exact begin_10_el ih g b a m re p hm k1 k2 o10 hf hx
  by_cases o11 : re.op = 11
  ·exact begin_11_el ih g b a m re p hm k1 k2 o11 hf hx
  exact begin_oth_el ih g b a m re p hm k1 k2 (by omega) hf hx
theorem mround_ok (g b a : Nat) (m : Mst) (r : BRef) (n at_ : Int) (nx : BGoal) (p : BPlace) (hm : m.good p) (hn0 : 0 ≤ n) (hn1 : n ≤ 10000000000000) {x : Rs} (hx : roundB m r n p = some x) :
  callWp prog 68 [.pp 0 g 0 0 b a, .d ((BGoal.mk 2 r n at_ nx).d b a), p.v b a] (m.objs g b a) fun v s => v = rsV b a x.2.1 x.2.2 ∧ s = x.1.objs g b a := by
 cases r with
 | nil => cases hx
 | root =>
  have : ∃ kid, m.p.re.kids[0]? = some kid := by
   unfold roundB at hx
   simp only [Mst.lit] at hx
   cases hh : m.p.re.kids with
   | nil => rw [hh] at hx; cases hx
   | cons y l => exact ⟨y, rfl⟩
  obtain ⟨kid, hk⟩ := this
  exact round_root g b a m n at_ nx p kid hk hm hn0 hn1 hx
 | el re =>
  have : ∃ kid, re.kids[0]? = some kid := by
   unfold roundB at hx
   simp only [Mst.lit] at hx
   cases hh : re.kids with
   | nil => rw [hh] at hx; cases hx
   | cons y l => exact ⟨y, rfl⟩
  obtain ⟨kid, hk⟩ := this
  exact round_el g b a m re n at_ nx p kid hk hm hn0 hn1 hx
def capV (c : Int × Int) : List V := [.d (iD c.1), .d (iD c.2)]
theorem frz_capV (k lim : Nat) (s : List VL.Obj) : ∀ L : CapsL, ((L.map capV).mapM fun (e : List V) => e.mapM (frzD (k + 1) lim s)) = some (L.map spanC)
 | [] => rfl
 | x :: L => by
  rw [List.map_cons, List.mapM_cons, frz_capV k lim s L]
  rfl
theorem adv_0 {k : Nat} (ih : SearchOK k) (g b a : Nat) (m : Mst) (r : BRef) (pa : Int) (pc : CapsL) (kind n at_ : Int) (next : BGoal) (hm : m.good ⟨pa, pc, .mk kind r n at_ next⟩) (ho : kind = 0) {x : Rs} (hx : advB (fun m base p => srchB k true m base p true) m ⟨pa, pc, .mk kind r n at_ next⟩ = some x) :
  callWp prog 50 [.pp 0 g 0 0 b a, BPlace.v b a ⟨pa, pc, .mk kind r n at_ next⟩] (m.objs g b a) fun v s => v = rsV b a x.2.1 x.2.2 ∧ s = x.1.objs g b a := by
 have hm' := hm
 obtain ⟨⟨g1, g2, g3, g4⟩, ⟨g5, g6, g7⟩, g8, g9⟩ := hm
 unfold advB at hx
 rw [if_neg (by simpa using hm')] at hx
 simp only at g5 g6 g7
 simp only at hx
 have d0 : decide (kind = 0) = true := decide_eq_true (by omega)
 have d1 : decide (kind = 1) = false := decide_eq_false (by omega)
 have d2 : decide (kind = 2) = false := decide_eq_false (by omega)
 have d3 : decide (kind = 3) = false := decide_eq_false (by omega)
 have d4 : decide (kind = 4) = false := decide_eq_false (by omega)
 have d5 : decide (kind = 5) = false := decide_eq_false (by omega)
 rw [if_pos ho] at hx
 have hcl := fun ext => call_ms (mbegin_ok ih g b a m r ⟨pa, pc, next⟩ hm' hx) rfl rfl rfl ext
 obtain ⟨m2, y1, y2⟩ := x
 unfold Mst.objs Mst.objsT at hcl
 simp only [zM, rsV] at hcl
 unfold Mst.objs Mst.objsT
 refine fn_ok func50 rfl ntmps50 results50 rfl 3 2098171 (by simp) (by simp) ?_
 try simp only [zX, simprocAttr, zM, rsV, BGoal.d_mk, d0, d1, d2, d3, d4, d5]
 refine draw_c mix [6] [(5,[3],[]),(9,[4],[4])] (by rfl) ?_
 try simp only [zX, simprocAttr, zM, rsV]
 refine callD_of (hcl _) ?_
 try simp only [zX, simprocAttr, zM, rsV]
 first
  |(refine ⟨mobjs_ok m2 b a, ?_⟩; simp only [zM, rsV, fro, BGoal.d, BRef.d, Re.cells_eq]; done)
  | exact ⟨mobjs_ok m2 b a, rfl⟩
  | exact mobjs_ok m2 b a
theorem adv_2 {k : Nat} (ih : SearchOK k) (g b a : Nat) (m : Mst) (r : BRef) (pa : Int) (pc : CapsL) (kind n at_ : Int) (next : BGoal) (hm : m.good ⟨pa, pc, .mk kind r n at_ next⟩) (ho : kind = 2) {x : Rs} (hx : advB (fun m base p => srchB k true m base p true) m ⟨pa, pc, .mk kind r n at_ next⟩ = some x) :
  callWp prog 50 [.pp 0 g 0 0 b a, BPlace.v b a ⟨pa, pc, .mk kind r n at_ next⟩] (m.objs g b a) fun v s => v = rsV b a x.2.1 x.2.2 ∧ s = x.1.objs g b a := by
 have hm' := hm
 obtain ⟨⟨g1, g2, g3, g4⟩, ⟨g5, g6, g7⟩, g8, g9⟩ := hm
 unfold advB at hx
 rw [if_neg (by simpa using hm')] at hx
 simp only at g5 g6 g7
 simp only at hx
 have d0 : decide (kind = 0) = false := decide_eq_false (by omega)
 have d1 : decide (kind = 1) = false := decide_eq_false (by omega)
 have d2 : decide (kind = 2) = true := decide_eq_true (by omega)
 have d3 : decide (kind = 3) = false := decide_eq_false (by omega)
 have d4 : decide (kind = 4) = false := decide_eq_false (by omega)
 have d5 : decide (kind = 5) = false := decide_eq_false (by omega)
 rw [if_neg (by omega)] at hx
 by_cases hn : n < 0 ∨ 10000000000000 < n
 ·rw [if_pos hn] at hx; cases hx
 rw [if_neg hn, if_neg (by omega), if_pos ho] at hx
 have hcl := fun ext => call_ms (mround_ok g b a m r n at_ next ⟨pa, pc, next⟩ hm' (by omega) (by omega) hx) rfl rfl rfl ext
 obtain ⟨m2, y1, y2⟩ := x
 unfold Mst.objs Mst.objsT at hcl
 simp only [zM, rsV, BGoal.d_mk] at hcl
 subst ho
 unfold Mst.objs Mst.objsT
 refine fn_ok func50 rfl ntmps50 results50 rfl 3 2098171 (by simp) (by simp) ?_
 try simp only [zX, simprocAttr, zM, rsV, BGoal.d_mk, d0, d1, d2, d3, d4, d5]
 refine callWp_mono (hcl _) (fun v s' hv => ?_); obtain ⟨rfl, rfl⟩ := hv
 try simp only [zX, simprocAttr, zM, rsV]
 first
  |(refine ⟨mobjs_ok m2 b a, ?_⟩; simp only [zM, rsV, fro, BGoal.d, BRef.d, Re.cells_eq]; done)
  | exact ⟨mobjs_ok m2 b a, rfl⟩
  | exact mobjs_ok m2 b a
theorem adv_3 {k : Nat} (ih : SearchOK k) (g b a : Nat) (m : Mst) (r : BRef) (pa : Int) (pc : CapsL) (kind n at_ : Int) (next : BGoal) (hm : m.good ⟨pa, pc, .mk kind r n at_ next⟩) (ho : kind = 3) {x : Rs} (hx : advB (fun m base p => srchB k true m base p true) m ⟨pa, pc, .mk kind r n at_ next⟩ = some x) :
  callWp prog 50 [.pp 0 g 0 0 b a, BPlace.v b a ⟨pa, pc, .mk kind r n at_ next⟩] (m.objs g b a) fun v s => v = rsV b a x.2.1 x.2.2 ∧ s = x.1.objs g b a := by
 have hm' := hm
 obtain ⟨⟨g1, g2, g3, g4⟩, ⟨g5, g6, g7⟩, g8, g9⟩ := hm
 unfold advB at hx
 rw [if_neg (by simpa using hm')] at hx
 simp only at g5 g6 g7
 simp only at hx
 have d0 : decide (kind = 0) = false := decide_eq_false (by omega)
 have d1 : decide (kind = 1) = false := decide_eq_false (by omega)
 have d2 : decide (kind = 2) = false := decide_eq_false (by omega)
 have d3 : decide (kind = 3) = true := decide_eq_true (by omega)
 have d4 : decide (kind = 4) = false := decide_eq_false (by omega)
 have d5 : decide (kind = 5) = false := decide_eq_false (by omega)
 rw [if_neg (by omega)] at hx
 by_cases hn : n < 0 ∨ 10000000000000 < n
 ·rw [if_pos hn] at hx; cases hx
 rw [if_neg hn, if_neg (by omega), if_neg (by omega), if_pos ho] at hx
 by_cases c : pa = at_
 ·rw [if_pos c] at hx
  cases hx
  have dc : decide (pa = at_) = true := decide_eq_true c
  unfold Mst.objs Mst.objsT
  refine fn_ok func50 rfl ntmps50 results50 rfl 3 2098171 (by simp) (by simp) ?_
  try simp only [zX, simprocAttr, zM, rsV, BGoal.d_mk, d0, d1, d2, d3, d4, d5]
  refine draw_c mix [] [(0,[3],[]),(1,[3],[])] (by rfl) ?_
  try simp only [zX, simprocAttr, zM, rsV, dc]
  first
   |(refine ⟨mobjs_ok m b a, ?_⟩; simp only [zM, rsV, fro, BGoal.d, BRef.d, Re.cells_eq]; done)
   | exact ⟨mobjs_ok m b a, rfl⟩
   | exact mobjs_ok m b a
 ·rw [if_neg c] at hx
  cases hx
  have dc : decide (pa = at_) = false := decide_eq_false c
  unfold Mst.objs Mst.objsT
  refine fn_ok func50 rfl ntmps50 results50 rfl 3 2098171 (by simp) (by simp) ?_
  try simp only [zX, simprocAttr, zM, rsV, BGoal.d_mk, d0, d1, d2, d3, d4, d5]
  refine draw_c mix [] [(0,[3],[]),(1,[3],[])] (by rfl) ?_
  try simp only [zX, simprocAttr, zM, rsV, dc]
  refine draw_c mix [9] [] (by rfl) ?_
  try simp only [zX, simprocAttr, zM, rsV]
  refine callD_of (frontA_at rfl ⟨rfl, rfl⟩) ?_
  try simp only [zX, simprocAttr, zM, rsV]
  first
   |(refine ⟨mobjs_ok m b a, ?_⟩; simp only [zM, rsV, fro, BGoal.d, BRef.d, Re.cells_eq]; done)
   | exact ⟨mobjs_ok m b a, rfl⟩
   | exact mobjs_ok m b a
theorem adv_5 {k : Nat} (ih : SearchOK k) (g b a : Nat) (m : Mst) (r : BRef) (pa : Int) (pc : CapsL) (kind n at_ : Int) (next : BGoal) (hm : m.good ⟨pa, pc, .mk kind r n at_ next⟩) (ho : kind = 5) {x : Rs} (hx : advB (fun m base p => srchB k true m base p true) m ⟨pa, pc, .mk kind r n at_ next⟩ = some x) :
  callWp prog 50 [.pp 0 g 0 0 b a, BPlace.v b a ⟨pa, pc, .mk kind r n at_ next⟩] (m.objs g b a) fun v s => v = rsV b a x.2.1 x.2.2 ∧ s = x.1.objs g b a := by
 have hm' := hm
 obtain ⟨⟨g1, g2, g3, g4⟩, ⟨g5, g6, g7⟩, g8, g9⟩ := hm
 unfold advB at hx
 rw [if_neg (by simpa using hm')] at hx
 simp only at g5 g6 g7
 simp only at hx
 have d0 : decide (kind = 0) = false := decide_eq_false (by omega)
 have d1 : decide (kind = 1) = false := decide_eq_false (by omega)
 have d2 : decide (kind = 2) = false := decide_eq_false (by omega)
 have d3 : decide (kind = 3) = false := decide_eq_false (by omega)
 have d4 : decide (kind = 4) = false := decide_eq_false (by omega)
 have d5 : decide (kind = 5) = true := decide_eq_true (by omega)
 rw [if_neg (by omega)] at hx
 by_cases hn : n < 0 ∨ 10000000000000 < n
 ·rw [if_pos hn] at hx; cases hx
 rw [if_neg hn, if_neg (by omega), if_neg (by omega), if_neg (by omega), if_neg (by omega), if_pos ho] at hx
 cases hx
 unfold Mst.objs Mst.objsT
 refine fn_ok func50 rfl ntmps50 results50 rfl 3 2098171 (by simp) (by simp) ?_
 try simp only [zX, simprocAttr, zM, rsV, BGoal.d_mk, d0, d1, d2, d3, d4, d5]
 refine draw_c mix [] [(0,[3],[]),(1,[3],[]),(2,[3],[]),(8,[4],[4])] (by rfl) ?_
 try simp only [zX, simprocAttr, zM, rsV]
 first
  |(refine ⟨mobjs_ok m b a, ?_⟩; simp only [zM, rsV, fro, BGoal.d, BRef.d, Re.cells_eq]; done)
  | exact ⟨mobjs_ok m b a, rfl⟩
  | exact mobjs_ok m b a
theorem adv_1_el {k : Nat} (ih : SearchOK k) (g b a : Nat) (m : Mst) (re : Re) (pa : Int) (pc : CapsL) (kind n at_ : Int) (next : BGoal) (hm : m.good ⟨pa, pc, .mk kind (.el re) n at_ next⟩) (ho : kind = 1) {x : Rs} (hx : advB (fun m base p => srchB k true m base p true) m ⟨pa, pc, .mk kind (.el re) n at_ next⟩ = some x) :
  callWp prog 50 [.pp 0 g 0 0 b a, BPlace.v b a ⟨pa, pc, .mk kind (.el re) n at_ next⟩] (m.objs g b a) fun v s => v = rsV b a x.2.1 x.2.2 ∧ s = x.1.objs g b a := by
 have hm' := hm
 obtain ⟨⟨g1, g2, g3, g4⟩, ⟨g5, g6, g7⟩, g8, g9⟩ := hm
 unfold advB at hx
 rw [if_neg (by simpa using hm')] at hx
 simp only at g5 g6 g7
 simp only at hx
 have d0 : decide (kind = 0) = false := decide_eq_false (by omega)
 have d1 : decide (kind = 1) = true := decide_eq_true (by omega)
 have d2 : decide (kind = 2) = false := decide_eq_false (by omega)
 have d3 : decide (kind = 3) = false := decide_eq_false (by omega)
 have d4 : decide (kind = 4) = false := decide_eq_false (by omega)
 have d5 : decide (kind = 5) = false := decide_eq_false (by omega)
 rw [if_neg (by omega)] at hx
 by_cases hn : n < 0 ∨ 10000000000000 < n
 ·rw [if_pos hn] at hx; cases hx
 rw [if_neg hn, if_pos ho] at hx
 simp only [Mst.lit] at hx
 by_cases hkk : 1000000000 < re.kids.length
 ·rw [if_pos hkk] at hx; cases hx
 rw [if_neg hkk] at hx
 cases hk : re.kids[n.toNat]? with
 | none => rw [hk] at hx; cases hx
 | some kid =>
 rw [hk] at hx
 simp only at hx
 have q0 : 0 ≤ n := by omega
 have q1 : n < (re.kids.length : Int) := by have := (List.getElem?_eq_some_iff.1 hk).1; omega
 have w1 : IntKind.i64.wrap (n + 1) = n + 1 := w64 _ (by omega)
 by_cases c : n + 1 < (re.kids.length : Int)
 ·rw [if_pos c] at hx
  have hcl := fun ext => call_ms (choose_ok g b a m (fro ⟨pa, pc, next⟩ 1 (.el re) (n + 1) 0) g3 g4) rfl rfl rfl ext
  cases hx
  generalize hm2 : m.push (fro ⟨pa, pc, next⟩ 1 (.el re) (n + 1) 0) = m2 at *
  unfold Mst.objs Mst.objsT at hcl
  simp only [zM, rsV, fro, BGoal.d, BRef.d, Re.cells_eq] at hcl
  unfold Mst.objs Mst.objsT
  refine fn_ok func50 rfl ntmps50 results50 rfl 3 2098171 (by simp) (by simp) ?_
  try simp only [zX, simprocAttr, zM, rsV, BGoal.d_mk, d0, d1, d2, d3, d4, d5]
  refine draw_c mix [] [(9,[0],[]),(10,[0],[]),(11,[0],[]),(12,[0],[])] (by rfl) ?_
  try simp only [zX, simprocAttr, zM, rsV, BRef.d, Re.cells_eq, w1, c]
  refine draw_first Cln0.reserve ?_
  refine draw_c mix [] [(9,[3],[]),(10,[3],[]),(12,[6],[6]),(13,[5],[]),(14,[5],[5])] (by rfl) ?_
  try simp only [zX, simprocAttr, zM, rsV, hole, w1]
  refine call_give [6] (by simp [killO, kill1, frzV.go, frzV, frzD, BGoal.d, BRef.d, Re.cells_eq, iD, bD]) (callWp_mono (hcl _) (fun v s' hv => ?_))
  obtain ⟨rfl, rfl⟩ := hv
  try simp only [zX, simprocAttr, zM, rsV, BRef.d, Re.cells_eq]
  refine draw_c mix [13] [(5,[0],[]),(6,[0],[]),(7,[0],[])] (by rfl) ?_
  try simp only [zX, simprocAttr, zM, rsV, hk, q0, q1, BRef.d, Re.cells_eq]
  refine callD_of (frontA_at rfl ⟨rfl, rfl⟩) ?_
  try simp only [zX, simprocAttr, zM, rsV, BRef.d, Re.cells_eq]
  first
   |(refine ⟨mobjs_ok m2 b a, ?_⟩; simp only [zM, rsV, fro, BGoal.d, BRef.d, Re.cells_eq]; done)
   | exact ⟨mobjs_ok m2 b a, rfl⟩
   | exact mobjs_ok m2 b a
 ·rw [if_neg c] at hx
  cases hx
  unfold Mst.objs Mst.objsT
  refine fn_ok func50 rfl ntmps50 results50 rfl 3 2098171 (by simp) (by simp) ?_
  try simp only [zX, simprocAttr, zM, rsV, BGoal.d_mk, d0, d1, d2, d3, d4, d5]
  refine draw_c mix [] [(9,[0],[]),(10,[0],[]),(11,[0],[]),(12,[0],[])] (by rfl) ?_
  try simp only [zX, simprocAttr, zM, rsV, BRef.d, Re.cells_eq, w1, c]
  refine draw_c mix [13] [(5,[0],[]),(6,[0],[]),(7,[0],[])] (by rfl) ?_
  try simp only [zX, simprocAttr, zM, rsV, hk, q0, q1, BRef.d, Re.cells_eq]
  refine callD_of (frontA_at rfl ⟨rfl, rfl⟩) ?_
  try simp only [zX, simprocAttr, zM, rsV, BRef.d, Re.cells_eq]
  first
   |(refine ⟨mobjs_ok m b a, ?_⟩; simp only [zM, rsV, fro, BGoal.d, BRef.d, Re.cells_eq]; done)
   | exact ⟨mobjs_ok m b a, rfl⟩
   | exact mobjs_ok m b a
theorem adv_1_root {k : Nat} (ih : SearchOK k) (g b a : Nat) (m : Mst) (pa : Int) (pc : CapsL) (kind n at_ : Int) (next : BGoal) (hm : m.good ⟨pa, pc, .mk kind .root n at_ next⟩) (ho : kind = 1) {x : Rs} (hx : advB (fun m base p => srchB k true m base p true) m ⟨pa, pc, .mk kind .root n at_ next⟩ = some x) :
  callWp prog 50 [.pp 0 g 0 0 b a, BPlace.v b a ⟨pa, pc, .mk kind .root n at_ next⟩] (m.objs g b a) fun v s => v = rsV b a x.2.1 x.2.2 ∧ s = x.1.objs g b a := by
 have hm' := hm
 obtain ⟨⟨g1, g2, g3, g4⟩, ⟨g5, g6, g7⟩, g8, g9⟩ := hm
 unfold advB at hx
 rw [if_neg (by simpa using hm')] at hx
 simp only at g5 g6 g7
 simp only at hx
 have d0 : decide (kind = 0) = false := decide_eq_false (by omega)
 have d1 : decide (kind = 1) = true := decide_eq_true (by omega)
 have d2 : decide (kind = 2) = false := decide_eq_false (by omega)
 have d3 : decide (kind = 3) = false := decide_eq_false (by omega)
 have d4 : decide (kind = 4) = false := decide_eq_false (by omega)
 have d5 : decide (kind = 5) = false := decide_eq_false (by omega)
 rw [if_neg (by omega)] at hx
 by_cases hn : n < 0 ∨ 10000000000000 < n
 ·rw [if_pos hn] at hx; cases hx
 rw [if_neg hn, if_pos ho] at hx
 simp only [Mst.lit] at hx
 by_cases hkk : 1000000000 < m.p.re.kids.length
 ·rw [if_pos hkk] at hx; cases hx
 rw [if_neg hkk] at hx
 cases hk : m.p.re.kids[n.toNat]? with
 | none => rw [hk] at hx; cases hx
 | some kid =>
 rw [hk] at hx
 simp only at hx
 have q0 : 0 ≤ n := by omega
 have q1 : n < (m.p.re.kids.length : Int) := by have := (List.getElem?_eq_some_iff.1 hk).1; omega
 have w1 : IntKind.i64.wrap (n + 1) = n + 1 := w64 _ (by omega)
 by_cases c : n + 1 < (m.p.re.kids.length : Int)
 ·rw [if_pos c] at hx
  have hcl := fun ext => call_ms (choose_ok g b a m (fro ⟨pa, pc, next⟩ 1 .root (n + 1) 0) g3 g4) rfl rfl rfl ext
  cases hx
  have hmp : (m.push (fro ⟨pa, pc, next⟩ 1 .root (n + 1) 0)).p = m.p := rfl
  have hkm := hk
  have q1m := q1
  rw [← hmp] at hkm q1m
  generalize hm2 : m.push (fro ⟨pa, pc, next⟩ 1 .root (n + 1) 0) = m2 at *
  unfold Mst.objs Mst.objsT at hcl
  simp only [zM, rsV, fro, BGoal.d, BRef.d, Re.cells_eq] at hcl
  unfold Mst.objs Mst.objsT
  refine fn_ok func50 rfl ntmps50 results50 rfl 3 2098171 (by simp) (by simp) ?_
  try simp only [zX, simprocAttr, zM, rsV, BGoal.d_mk, d0, d1, d2, d3, d4, d5]
  refine draw_c mix [] [(9,[0],[]),(10,[0],[]),(11,[0],[]),(12,[0],[])] (by rfl) ?_
  try simp only [zX, simprocAttr, zM, rsV, BRef.d, Re.cells_eq, w1, c]
  refine draw_first Cln0.reserve ?_
  refine draw_c mix [] [(9,[3],[]),(10,[3],[]),(12,[6],[6]),(13,[5],[]),(14,[5],[5])] (by rfl) ?_
  try simp only [zX, simprocAttr, zM, rsV, hole, w1]
  refine call_give [6] (by simp [killO, kill1, frzV.go, frzV, frzD, BGoal.d, BRef.d, Re.cells_eq, iD, bD]) (callWp_mono (hcl _) (fun v s' hv => ?_))
  obtain ⟨rfl, rfl⟩ := hv
  try simp only [zX, simprocAttr, zM, rsV, BRef.d, Re.cells_eq]
  refine draw_c mix [13] [(5,[0],[]),(6,[0],[]),(7,[0],[])] (by rfl) ?_
  try simp only [zX, simprocAttr, zM, rsV, hk, q0, q1, BRef.d, Re.cells_eq, hkm, q1m]
  refine callD_of (frontA_at rfl ⟨rfl, rfl⟩) ?_
  try simp only [zX, simprocAttr, zM, rsV, BRef.d, Re.cells_eq]
  first
   |(refine ⟨mobjs_ok m2 b a, ?_⟩; simp only [zM, rsV, fro, BGoal.d, BRef.d, Re.cells_eq]; done)
   | exact ⟨mobjs_ok m2 b a, rfl⟩
   | exact mobjs_ok m2 b a
 ·rw [if_neg c] at hx
  cases hx
  unfold Mst.objs Mst.objsT
  refine fn_ok func50 rfl ntmps50 results50 rfl 3 2098171 (by simp) (by simp) ?_
  try simp only [zX, simprocAttr, zM, rsV, BGoal.d_mk, d0, d1, d2, d3, d4, d5]
  refine draw_c mix [] [(9,[0],[]),(10,[0],[]),(11,[0],[]),(12,[0],[])] (by rfl) ?_
  try simp only [zX, simprocAttr, zM, rsV, BRef.d, Re.cells_eq, w1, c]
  refine draw_c mix [13] [(5,[0],[]),(6,[0],[]),(7,[0],[])] (by rfl) ?_
  try simp only [zX, simprocAttr, zM, rsV, hk, q0, q1, BRef.d, Re.cells_eq]
  refine callD_of (frontA_at rfl ⟨rfl, rfl⟩) ?_
  try simp only [zX, simprocAttr, zM, rsV, BRef.d, Re.cells_eq]
  first
   |(refine ⟨mobjs_ok m b a, ?_⟩; simp only [zM, rsV, fro, BGoal.d, BRef.d, Re.cells_eq]; done)
   | exact ⟨mobjs_ok m b a, rfl⟩
   | exact mobjs_ok m b a
theorem adv_4_el {k : Nat} (ih : SearchOK k) (g b a : Nat) (m : Mst) (re : Re) (pa : Int) (pc : CapsL) (kind n at_ : Int) (next : BGoal) (hm : m.good ⟨pa, pc, .mk kind (.el re) n at_ next⟩) (ho : kind = 4) {x : Rs} (hx : advB (fun m base p => srchB k true m base p true) m ⟨pa, pc, .mk kind (.el re) n at_ next⟩ = some x) :
  callWp prog 50 [.pp 0 g 0 0 b a, BPlace.v b a ⟨pa, pc, .mk kind (.el re) n at_ next⟩] (m.objs g b a) fun v s => v = rsV b a x.2.1 x.2.2 ∧ s = x.1.objs g b a := by
 have hm' := hm
 obtain ⟨⟨g1, g2, g3, g4⟩, ⟨g5, g6, g7⟩, g8, g9⟩ := hm
 unfold advB at hx
 rw [if_neg (by simpa using hm')] at hx
 simp only at g5 g6 g7
 simp only at hx
 have d0 : decide (kind = 0) = false := decide_eq_false (by omega)
 have d1 : decide (kind = 1) = false := decide_eq_false (by omega)
 have d2 : decide (kind = 2) = false := decide_eq_false (by omega)
 have d3 : decide (kind = 3) = false := decide_eq_false (by omega)
 have d4 : decide (kind = 4) = true := decide_eq_true (by omega)
 have d5 : decide (kind = 5) = false := decide_eq_false (by omega)
 rw [if_neg (by omega)] at hx
 by_cases hn : n < 0 ∨ 10000000000000 < n
 ·rw [if_pos hn] at hx; cases hx
 rw [if_neg hn, if_neg (by omega), if_neg (by omega), if_neg (by omega), if_pos ho] at hx
 simp only [Mst.lit] at hx
 by_cases hnn : re.n < 1 ∨ (pc.length : Int) < re.n
 ·rw [if_pos hnn] at hx; cases hx
 rw [if_neg hnn] at hx
 cases hx
 have w0 : IntKind.i64.wrap (re.n - 1) = re.n - 1 := w64 _ (by omega)
 have q0 : 0 ≤ re.n - 1 := by omega
 have q1 : re.n - 1 < (pc.length : Int) := by omega
 unfold Mst.objs Mst.objsT
 refine fn_ok func50 rfl ntmps50 results50 rfl 3 2098171 (by simp) (by simp) ?_
 try simp only [zX, simprocAttr, zM, rsV, BGoal.d_mk, d0, d1, d2, d3, d4, d5]
 try simp only [zX, simprocAttr, zM, rsV, capD, List.length_map]
 refine ⟨⟨Int.le_refl _, by (try simp); omega, by omega⟩, ?_⟩
 have hput : putEls (List.replicate pc.length [V.d (D.sc (Value.int IntKind.i64 0)), V.d (D.sc (Value.int IntKind.i64 0))]) 0 (List.map (fun x => List.map V.d x) (List.map spanC pc)) = pc.map capV := by
  unfold putEls
  rw [List.take_zero, List.nil_append, List.drop_of_length_le (by simp), List.append_nil, List.map_map]
  rfl
 try simp only [zX, simprocAttr, zM, rsV, copyWp, List.length_map, List.length_replicate, hput]
 refine ⟨fun e he => by obtain ⟨y, hy, rfl⟩ := List.mem_map.1 he; obtain ⟨c, _, rfl⟩ := List.mem_map.1 hy; rfl, ⟨by omega, Nat.le_refl _⟩, ?_⟩
 obtain ⟨y, hy⟩ : ∃ y, pc[(re.n - 1).toNat]? = some y := ⟨_, List.getElem?_eq_getElem (by omega)⟩
 have hge : (pc.map capV)[(re.n - 1).toNat]? = some [V.d (D.sc (Value.int IntKind.i64 y.1)), V.d (D.sc (Value.int IntKind.i64 y.2))] := by rw [List.getElem?_map, hy]; rfl
 have hset : (pc.map capV).set (re.n - 1).toNat [V.d (D.sc (Value.int IntKind.i64 at_)), V.d (D.sc (Value.int IntKind.i64 pa))] = (pc.set (re.n - 1).toNat (at_, pa)).map capV := by rw [List.map_set]; rfl
 have hfz : ∀ s : List VL.Obj, (List.take pc.length (List.map capV (List.set pc (re.n - 1).toNat (at_, pa)))).mapM (fun e => e.mapM (frzD 7 3 s)) = some ((List.set pc (re.n - 1).toNat (at_, pa)).map spanC) := by
  intro s
  rw [List.take_of_length_le (by simp)]
  exact frz_capV 6 3 s _
 refine draw_c mix [] [(5,[0],[]),(6,[0],[]),(7,[0],[]),(13,[3],[]),(14,[3],[]),(16,[5],[]),(17,[5],[5])] (by rfl) ?_
 try simp only [zX, simprocAttr, zM, rsV, BRef.d, Re.cells_eq, w0, q0, q1, Nat.zero_add, hge, hset, List.length_set, Nat.le_refl, Option.map_some, hfz]
 first
  |(refine ⟨mobjs_ok m b a, ?_⟩; simp only [zM, rsV, fro, capD, BGoal.d, BRef.d, Re.cells_eq]; done)
  | exact ⟨mobjs_ok m b a, rfl⟩
  | exact mobjs_ok m b a
theorem adv_4_root {k : Nat} (ih : SearchOK k) (g b a : Nat) (m : Mst) (pa : Int) (pc : CapsL) (kind n at_ : Int) (next : BGoal) (hm : m.good ⟨pa, pc, .mk kind .root n at_ next⟩) (ho : kind = 4) {x : Rs} (hx : advB (fun m base p => srchB k true m base p true) m ⟨pa, pc, .mk kind .root n at_ next⟩ = some x) :
  callWp prog 50 [.pp 0 g 0 0 b a, BPlace.v b a ⟨pa, pc, .mk kind .root n at_ next⟩] (m.objs g b a) fun v s => v = rsV b a x.2.1 x.2.2 ∧ s = x.1.objs g b a := by
 have hm' := hm
 obtain ⟨⟨g1, g2, g3, g4⟩, ⟨g5, g6, g7⟩, g8, g9⟩ := hm
 unfold advB at hx
 rw [if_neg (by simpa using hm')] at hx
 simp only at g5 g6 g7
 simp only at hx
 have d0 : decide (kind = 0) = false := decide_eq_false (by omega)
 have d1 : decide (kind = 1) = false := decide_eq_false (by omega)
 have d2 : decide (kind = 2) = false := decide_eq_false (by omega)
 have d3 : decide (kind = 3) = false := decide_eq_false (by omega)
 have d4 : decide (kind = 4) = true := decide_eq_true (by omega)
 have d5 : decide (kind = 5) = false := decide_eq_false (by omega)
 rw [if_neg (by omega)] at hx
 by_cases hn : n < 0 ∨ 10000000000000 < n
 ·rw [if_pos hn] at hx; cases hx
 rw [if_neg hn, if_neg (by omega), if_neg (by omega), if_neg (by omega), if_pos ho] at hx
 simp only [Mst.lit] at hx
 by_cases hnn : m.p.re.n < 1 ∨ (pc.length : Int) < m.p.re.n
 ·rw [if_pos hnn] at hx; cases hx
 rw [if_neg hnn] at hx
 cases hx
 have w0 : IntKind.i64.wrap (m.p.re.n - 1) = m.p.re.n - 1 := w64 _ (by omega)
 have q0 : 0 ≤ m.p.re.n - 1 := by omega
 have q1 : m.p.re.n - 1 < (pc.length : Int) := by omega
 unfold Mst.objs Mst.objsT
 refine fn_ok func50 rfl ntmps50 results50 rfl 3 2098171 (by simp) (by simp) ?_
 try simp only [zX, simprocAttr, zM, rsV, BGoal.d_mk, d0, d1, d2, d3, d4, d5]
 try simp only [zX, simprocAttr, zM, rsV, capD, List.length_map]
 refine ⟨⟨Int.le_refl _, by (try simp); omega, by omega⟩, ?_⟩
 have hput : putEls (List.replicate pc.length [V.d (D.sc (Value.int IntKind.i64 0)), V.d (D.sc (Value.int IntKind.i64 0))]) 0 (List.map (fun x => List.map V.d x) (List.map spanC pc)) = pc.map capV := by
  unfold putEls
  rw [List.take_zero, List.nil_append, List.drop_of_length_le (by simp), List.append_nil, List.map_map]
  rfl
 try simp only [zX, simprocAttr, zM, rsV, copyWp, List.length_map, List.length_replicate, hput]
 refine ⟨fun e he => by obtain ⟨y, hy, rfl⟩ := List.mem_map.1 he; obtain ⟨c, _, rfl⟩ := List.mem_map.1 hy; rfl, ⟨by omega, Nat.le_refl _⟩, ?_⟩
 obtain ⟨y, hy⟩ : ∃ y, pc[(m.p.re.n - 1).toNat]? = some y := ⟨_, List.getElem?_eq_getElem (by omega)⟩
 have hge : (pc.map capV)[(m.p.re.n - 1).toNat]? = some [V.d (D.sc (Value.int IntKind.i64 y.1)), V.d (D.sc (Value.int IntKind.i64 y.2))] := by rw [List.getElem?_map, hy]; rfl
 have hset : (pc.map capV).set (m.p.re.n - 1).toNat [V.d (D.sc (Value.int IntKind.i64 at_)), V.d (D.sc (Value.int IntKind.i64 pa))] = (pc.set (m.p.re.n - 1).toNat (at_, pa)).map capV := by rw [List.map_set]; rfl
 have hfz : ∀ s : List VL.Obj, (List.take pc.length (List.map capV (List.set pc (m.p.re.n - 1).toNat (at_, pa)))).mapM (fun e => e.mapM (frzD 7 3 s)) = some ((List.set pc (m.p.re.n - 1).toNat (at_, pa)).map spanC) := by
  intro s
  rw [List.take_of_length_le (by simp)]
  exact frz_capV 6 3 s _
 refine draw_c mix [] [(5,[0],[]),(6,[0],[]),(7,[0],[]),(13,[3],[]),(14,[3],[]),(16,[5],[]),(17,[5],[5])] (by rfl) ?_
 try simp only [zX, simprocAttr, zM, rsV, BRef.d, Re.cells_eq, w0, q0, q1, Nat.zero_add, hge, hset, List.length_set, Nat.le_refl, Option.map_some, hfz]
 first
  |(refine ⟨mobjs_ok m b a, ?_⟩; simp only [zM, rsV, fro, capD, BGoal.d, BRef.d, Re.cells_eq]; done)
  | exact ⟨mobjs_ok m b a, rfl⟩
  | exact mobjs_ok m b a
end Go.Proofs.Ytilapneoohcplaa
