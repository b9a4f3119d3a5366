/- A part of the proof (G25). -/
import Derived.Test.YtilapneoohcplaaBO23
set_option linter.unusedSimpArgs false
set_option linter.unusedVariables false
set_option maxRecDepth 100000
set_option maxHeartbeats 80000000
namespace Go.Proofs.Ytilapneoohcplaa
open Go.VL Go.Proofs.Try
theorem own_get {t : List Int} {i : Int} (h0 : 0 ≤ i) (h1 : i < t.length) : (t.map fun x => [V.d (D.sc (Value.int IntKind.i64 x))])[i.toNat]? = some [V.d (D.sc (Value.int IntKind.i64 (tAt t i)))] := by
 rw [List.getElem?_map, tAt_get h0 h1]; rfl
theorem inB_pos {l : List (Int × Int)} {x : Int} {y : Int × Int} {i : Nat} (hy : l[i]? = some y) (h1 : y.1 ≤ x) (h2 : x ≤ y.2) : inB l x = true := by
 unfold inB; rw [List.any_eq_true]; exact ⟨y, List.mem_of_getElem? hy, by rw [decide_eq_true h1, decide_eq_true h2]; rfl⟩
theorem inB_neg {l : List (Int × Int)} {x : Int} {y : Int × Int} {i : Nat} (hy : l[i]? = some y) (h : inB (l.take i) x = false) (hn : ¬ (y.1 ≤ x ∧ x ≤ y.2)) : inB (l.take (i + 1)) x = false := by
 rw [take_get hy]
 unfold inB at h ⊢
 rw [List.any_append, h]
 have : (decide (y.1 ≤ x) && decide (x ≤ y.2)) = false := by
  rw [Bool.eq_false_iff]; intro hc
  simp only [Bool.and_eq_true, decide_eq_true_eq] at hc
  exact hn hc
 simp [this]
theorem set_out (g b a : Nat) (m : Mst) (r : BRef) (re : Re) (p : BPlace) (hq : ¬ p.at_ < m.t.length) :
  callWp prog 84 [.pp 0 g 0 0 b a, .d (r.d b a), p.v b a] (m.objs g b a) fun v s => v = rsV b a (setR m.t re p).1 (setR m.t re p).2 ∧ s = m.objs g b a := by
 have hr : setR m.t re p = (.zero, false) := by rw [setR, if_neg (fun h => hq h.1)]
 rw [hr]
 have hq' : (m.t.length : Int) ≤ p.at_ := by omega
 cases hT : m.ownText with
 | true =>
  have hM := mobjsT_ok m b a (.so 2 m.ogen 0 m.t.length) rfl
  rw [objs_so hT]; unfold Mst.objsT
  refine fn_ok func84 rfl ntmps84 results84 rfl 3 15032387047 (by simp) (by simp) ?_
  simp only [zX, simprocAttr, zM, Re.cells_eq]
  refine draw_c mix [] [(3,[0],[]),(4,[0],[]),(5,[0],[]),(6,[2],[]),(0,[3],[]),(1,[3],[])] (by rfl) ?_
  simp only [zX, simprocAttr, zM, hq', ge_iff_le, Re.cells_eq]
  exact ⟨hM, rfl⟩
 | false =>
  have hM := mobjsT_ok m b a (.d (intsD m.t)) rfl
  rw [objs_d hT]; unfold Mst.objsT
  simp only [intsD] at hM ⊢
  refine fn_ok func84 rfl ntmps84 results84 rfl 3 15032387047 (by simp) (by simp) ?_
  simp only [zX, simprocAttr, zM, Re.cells_eq]
  refine draw_c mix [] [(3,[0],[]),(4,[0],[]),(5,[0],[]),(6,[2],[]),(0,[3],[]),(1,[3],[])] (by rfl) ?_
  simp only [zX, simprocAttr, zM, hq', ge_iff_le, Re.cells_eq]
  exact ⟨hM, rfl⟩
theorem set_el_d (g b a : Nat) (m : Mst) (re : Re) (p : BPlace) (hset : re.set.length ≤ 1000000000) (hp : 0 ≤ p.at_) (hq : p.at_ < m.t.length) (ht : m.t.length ≤ 1000000) :
  callWp prog 84 [.pp 0 g 0 0 b a, .d ((BRef.el re).d b a), p.v b a] (m.objsT g b a (.d (intsD m.t))) fun v s => v = rsV b a (setR m.t re p).1 (setR m.t re p).2 ∧ s = m.objsT g b a (.d (intsD m.t)) := by
 have hr : setR m.t re p = if inB re.set (tAt m.t p.at_) = true then ({ p with at_ := p.at_ + 1 }, true) else (.zero, false) := by
  rw [setR]; simp only [hq, true_and]
 rw [hr]
 have hq' : ¬ (m.t.length : Int) ≤ p.at_ := by omega
 have w1 : IntKind.i64.wrap (p.at_ + 1) = p.at_ + 1 := w64 _ (by omega)
 have hM := mobjsT_ok m b a (.d (intsD m.t)) rfl
 have hg := tAt_get hp hq
 unfold Mst.objsT; simp only [intsD]
 refine fn_ok func84 rfl ntmps84 results84 rfl 3 15032387047 (by simp) (by simp) ?_
 simp only [zX, simprocAttr, zM, Re.cells_eq]
 refine draw_c mix [] [(3,[0],[]),(4,[0],[]),(5,[0],[]),(6,[2],[]),(0,[3],[]),(1,[3],[])] (by rfl) ?_
 simp only [zX, simprocAttr, zM, hq', ge_iff_le, Re.cells_eq]
 refine draw_c mix [] [(1,[0],[]),(2,[0],[]),(3,[0],[]),(4,[3],[]),(5,[3],[]),(6,[2],[]),(7,[2],[])] (by rfl) ?_
 simp only [zX, simprocAttr, zM, Re.cells_eq, BRef.d, hp, hq, hg, Nat.zero_add]
 refine loop_rule (fun n e s => ∃ i : Nat, n = re.set.length - i ∧ i ≤ re.set.length ∧ e 0 = .pp 0 g 0 0 b a ∧ e 5 = .rf 3 0 0 0 ∧ e 6 = .rf 4 0 0 0 ∧ e 8 = i64 (tAt m.t p.at_) ∧ e 31 = .d (.sl (re.set.map spanC)) ∧ e 32 = i64 re.set.length ∧ e 33 = i64 i ∧
   s = m.objsT g b a (.d (intsD m.t)) ++ [⟨0, true, 3, [(p.cells b a).map .d]⟩, ⟨0, true, 3, [[.d (iD 0), .fu [], .d (.sc (.pointer none))]]⟩] ∧ inB (re.set.take i) (tAt m.t p.at_) = false)
  ⟨_, _, _, Cln.refl, 0, rfl, by omega, rfl, rfl, rfl, rfl, rfl, rfl, rfl, ?_, rfl⟩ ?_
 ·rfl
 rintro n e s ⟨i, rfl, hi, h0, h5, h6, h8, h31, h32, h33, rfl, hno⟩
 unfold Mst.objsT; simp only [intsD]
 rcases Nat.lt_or_ge i re.set.length with hlt | hge
 ·obtain ⟨y, hy⟩ : ∃ y, re.set[i]? = some y := ⟨_, List.getElem?_eq_getElem hlt⟩
  by_cases c1 : y.1 ≤ tAt m.t p.at_
  ·by_cases c2 : tAt m.t p.at_ ≤ y.2
   ·rw [inB_pos hy c1 c2]
    simp only [zX, simprocAttr, zM, Re.cells_eq, h0, h5, h6, h8, h31, h32, h33, hlt, hy, spanC, c1, c2, w1]
    exact ⟨hM, rfl⟩
   ·simp only [zX, simprocAttr, zM, Re.cells_eq, h0, h5, h6, h8, h31, h32, h33, hlt, hy, spanC, c1, c2]
    refine ⟨re.set.length - (i + 1), _, _, by omega, Cln.cut (s' := m.objsT g b a (.d (intsD m.t)) ++ [⟨0, true, 3, [(p.cells b a).map .d]⟩, ⟨0, true, 3, [[.d (iD 0), .fu [], .d (.sc (.pointer none))]]⟩]) 5 (by omega) rfl ?_ [0, 5, 6, 8, 31, 32, 33] ?_, i + 1, rfl, hlt, ?_, ?_, ?_, ?_, ?_, ?_, ?_, rfl, inB_neg hy hno (fun h => c2 h.2)⟩ <;> (try simp only [zU, Nat.reduceBEq, Nat.reduceShiftRight, Nat.reduceMod, Nat.reduceEqDiff, reduceIte])
    ·rw [List.all_append, objsT_ok g b a m _ 5 (by omega) rfl]; rfl
    ·simp [updE, trimE_app, refsV, i64, h0, h5, h6, h8, h31, h32, h33]
    ·exact h0
    ·exact h5
    ·exact h6
    ·exact h8
    ·exact h31
    ·exact h32
    ·rw [w64 _ (by omega)]; rfl
  ·simp only [zX, simprocAttr, zM, Re.cells_eq, h0, h5, h6, h8, h31, h32, h33, hlt, hy, spanC, c1]
   refine ⟨re.set.length - (i + 1), _, _, by omega, Cln.cut (s' := m.objsT g b a (.d (intsD m.t)) ++ [⟨0, true, 3, [(p.cells b a).map .d]⟩, ⟨0, true, 3, [[.d (iD 0), .fu [], .d (.sc (.pointer none))]]⟩]) 5 (by omega) rfl ?_ [0, 5, 6, 8, 31, 32, 33] ?_, i + 1, rfl, hlt, ?_, ?_, ?_, ?_, ?_, ?_, ?_, rfl, inB_neg hy hno (fun h => c1 h.1)⟩ <;> (try simp only [zU, Nat.reduceBEq, Nat.reduceShiftRight, Nat.reduceMod, Nat.reduceEqDiff, reduceIte])
   ·rw [List.all_append, objsT_ok g b a m _ 5 (by omega) rfl]; rfl
   ·simp [updE, trimE_app, refsV, i64, h0, h5, h6, h8, h31, h32, h33]
   ·exact h0
   ·exact h5
   ·exact h6
   ·exact h8
   ·exact h31
   ·exact h32
   ·rw [w64 _ (by omega)]; rfl
 ·have hie : i = re.set.length := by omega
  subst hie
  rw [List.take_length] at hno
  rw [hno]
  simp only [zX, simprocAttr, zM, Re.cells_eq, h0, h5, h6, h8, h31, h32, h33, Nat.lt_irrefl, Bool.false_eq_true, if_false]
  exact ⟨hM, rfl⟩
theorem set_el_so (g b a : Nat) (m : Mst) (re : Re) (p : BPlace) (hset : re.set.length ≤ 1000000000) (hp : 0 ≤ p.at_) (hq : p.at_ < m.t.length) (ht : m.t.length ≤ 1000000) (hs : m.own = m.t) :
  callWp prog 84 [.pp 0 g 0 0 b a, .d ((BRef.el re).d b a), p.v b a] (m.objsT g b a (.so 2 m.ogen 0 m.t.length)) fun v s => v = rsV b a (setR m.t re p).1 (setR m.t re p).2 ∧ s = m.objsT g b a (.so 2 m.ogen 0 m.t.length) := by
 have hr : setR m.t re p = if inB re.set (tAt m.t p.at_) = true then ({ p with at_ := p.at_ + 1 }, true) else (.zero, false) := by
  rw [setR]; simp only [hq, true_and]
 rw [hr]
 have hq' : ¬ (m.t.length : Int) ≤ p.at_ := by omega
 have w1 : IntKind.i64.wrap (p.at_ + 1) = p.at_ + 1 := w64 _ (by omega)
 have hM := mobjsT_ok m b a (.so 2 m.ogen 0 m.t.length) rfl
 have hg := own_get hp hq
 have hol : m.own.length = m.t.length := by rw [hs]
 have hgo : (m.own.map fun x => [V.d (D.sc (Value.int IntKind.i64 x))])[p.at_.toNat]? = some [V.d (D.sc (Value.int IntKind.i64 (tAt m.t p.at_)))] := by rw [hs]; exact hg
 unfold Mst.objsT
 refine fn_ok func84 rfl ntmps84 results84 rfl 3 15032387047 (by simp) (by simp) ?_
 simp only [zX, simprocAttr, zM, Re.cells_eq]
 refine draw_c mix [] [(3,[0],[]),(4,[0],[]),(5,[0],[]),(6,[2],[]),(0,[3],[]),(1,[3],[])] (by rfl) ?_
 simp only [zX, simprocAttr, zM, hq', ge_iff_le, Re.cells_eq]
 refine draw_c mix [] [(1,[0],[]),(2,[0],[]),(3,[0],[]),(4,[3],[]),(5,[3],[]),(6,[2],[]),(7,[2],[])] (by rfl) ?_
 simp only [zX, simprocAttr, zM, Re.cells_eq, BRef.d, hp, hq, hgo, Nat.zero_add]
 refine loop_rule (fun n e s => ∃ i : Nat, n = re.set.length - i ∧ i ≤ re.set.length ∧ e 0 = .pp 0 g 0 0 b a ∧ e 5 = .rf 3 0 0 0 ∧ e 6 = .rf 4 0 0 0 ∧ e 8 = i64 (tAt m.t p.at_) ∧ e 31 = .d (.sl (re.set.map spanC)) ∧ e 32 = i64 re.set.length ∧ e 33 = i64 i ∧
   s = m.objsT g b a (.so 2 m.ogen 0 m.t.length) ++ [⟨0, true, 3, [(p.cells b a).map .d]⟩, ⟨0, true, 3, [[.d (iD 0), .fu [], .d (.sc (.pointer none))]]⟩] ∧ inB (re.set.take i) (tAt m.t p.at_) = false)
  ⟨_, _, _, Cln.refl, 0, rfl, by omega, rfl, rfl, rfl, rfl, rfl, rfl, rfl, ?_, rfl⟩ ?_
 ·rfl
 rintro n e s ⟨i, rfl, hi, h0, h5, h6, h8, h31, h32, h33, rfl, hno⟩
 unfold Mst.objsT
 rcases Nat.lt_or_ge i re.set.length with hlt | hge
 ·obtain ⟨y, hy⟩ : ∃ y, re.set[i]? = some y := ⟨_, List.getElem?_eq_getElem hlt⟩
  by_cases c1 : y.1 ≤ tAt m.t p.at_
  ·by_cases c2 : tAt m.t p.at_ ≤ y.2
   ·rw [inB_pos hy c1 c2]
    simp only [zX, simprocAttr, zM, Re.cells_eq, h0, h5, h6, h8, h31, h32, h33, hlt, hy, spanC, c1, c2, w1]
    exact ⟨hM, rfl⟩
   ·simp only [zX, simprocAttr, zM, Re.cells_eq, h0, h5, h6, h8, h31, h32, h33, hlt, hy, spanC, c1, c2]
    refine ⟨re.set.length - (i + 1), _, _, by omega, Cln.cut (s' := m.objsT g b a (.so 2 m.ogen 0 m.t.length) ++ [⟨0, true, 3, [(p.cells b a).map .d]⟩, ⟨0, true, 3, [[.d (iD 0), .fu [], .d (.sc (.pointer none))]]⟩]) 5 (by omega) rfl ?_ [0, 5, 6, 8, 31, 32, 33] ?_, i + 1, rfl, hlt, ?_, ?_, ?_, ?_, ?_, ?_, ?_, rfl, inB_neg hy hno (fun h => c2 h.2)⟩ <;> (try simp only [zU, Nat.reduceBEq, Nat.reduceShiftRight, Nat.reduceMod, Nat.reduceEqDiff, reduceIte])
    ·rw [List.all_append, objsT_ok g b a m _ 5 (by omega) rfl]; rfl
    ·simp [updE, trimE_app, refsV, i64, h0, h5, h6, h8, h31, h32, h33]
    ·exact h0
    ·exact h5
    ·exact h6
    ·exact h8
    ·exact h31
    ·exact h32
    ·rw [w64 _ (by omega)]; rfl
  ·simp only [zX, simprocAttr, zM, Re.cells_eq, h0, h5, h6, h8, h31, h32, h33, hlt, hy, spanC, c1]
   refine ⟨re.set.length - (i + 1), _, _, by omega, Cln.cut (s' := m.objsT g b a (.so 2 m.ogen 0 m.t.length) ++ [⟨0, true, 3, [(p.cells b a).map .d]⟩, ⟨0, true, 3, [[.d (iD 0), .fu [], .d (.sc (.pointer none))]]⟩]) 5 (by omega) rfl ?_ [0, 5, 6, 8, 31, 32, 33] ?_, i + 1, rfl, hlt, ?_, ?_, ?_, ?_, ?_, ?_, ?_, rfl, inB_neg hy hno (fun h => c1 h.1)⟩ <;> (try simp only [zU, Nat.reduceBEq, Nat.reduceShiftRight, Nat.reduceMod, Nat.reduceEqDiff, reduceIte])
   ·rw [List.all_append, objsT_ok g b a m _ 5 (by omega) rfl]; rfl
   ·simp [updE, trimE_app, refsV, i64, h0, h5, h6, h8, h31, h32, h33]
   ·exact h0
   ·exact h5
   ·exact h6
   ·exact h8
   ·exact h31
   ·exact h32
   ·rw [w64 _ (by omega)]; rfl
 ·have hie : i = re.set.length := by omega
  subst hie
  rw [List.take_length] at hno
  rw [hno]
  simp only [zX, simprocAttr, zM, Re.cells_eq, h0, h5, h6, h8, h31, h32, h33, Nat.lt_irrefl, Bool.false_eq_true, if_false]
  exact ⟨hM, rfl⟩
theorem set_root_d (g b a : Nat) (m : Mst) (p : BPlace) (hset : m.p.re.set.length ≤ 1000000000) (hp : 0 ≤ p.at_) (hq : p.at_ < m.t.length) (ht : m.t.length ≤ 1000000) :
  callWp prog 84 [.pp 0 g 0 0 b a, .d ((BRef.root).d b a), p.v b a] (m.objsT g b a (.d (intsD m.t))) fun v s => v = rsV b a (setR m.t m.p.re p).1 (setR m.t m.p.re p).2 ∧ s = m.objsT g b a (.d (intsD m.t)) := by
 have hr : setR m.t m.p.re p = if inB m.p.re.set (tAt m.t p.at_) = true then ({ p with at_ := p.at_ + 1 }, true) else (.zero, false) := by
  rw [setR]; simp only [hq, true_and]
 rw [hr]
 have hq' : ¬ (m.t.length : Int) ≤ p.at_ := by omega
 have w1 : IntKind.i64.wrap (p.at_ + 1) = p.at_ + 1 := w64 _ (by omega)
 have hM := mobjsT_ok m b a (.d (intsD m.t)) rfl
 have hg := tAt_get hp hq
 unfold Mst.objsT; simp only [intsD]
 refine fn_ok func84 rfl ntmps84 results84 rfl 3 15032387047 (by simp) (by simp) ?_
 simp only [zX, simprocAttr, zM, Re.cells_eq]
 refine draw_c mix [] [(3,[0],[]),(4,[0],[]),(5,[0],[]),(6,[2],[]),(0,[3],[]),(1,[3],[])] (by rfl) ?_
 simp only [zX, simprocAttr, zM, hq', ge_iff_le, Re.cells_eq]
 refine draw_c mix [] [(1,[0],[]),(2,[0],[]),(3,[0],[]),(4,[3],[]),(5,[3],[]),(6,[2],[]),(7,[2],[])] (by rfl) ?_
 simp only [zX, simprocAttr, zM, Re.cells_eq, BRef.d, hp, hq, hg, Nat.zero_add]
 refine loop_rule (fun n e s => ∃ i : Nat, n = m.p.re.set.length - i ∧ i ≤ m.p.re.set.length ∧ e 0 = .pp 0 g 0 0 b a ∧ e 5 = .rf 3 0 0 0 ∧ e 6 = .rf 4 0 0 0 ∧ e 8 = i64 (tAt m.t p.at_) ∧ e 31 = .d (.sl (m.p.re.set.map spanC)) ∧ e 32 = i64 m.p.re.set.length ∧ e 33 = i64 i ∧
   s = m.objsT g b a (.d (intsD m.t)) ++ [⟨0, true, 3, [(p.cells b a).map .d]⟩, ⟨0, true, 3, [[.d (iD 0), .fu [], .d (.sc (.pointer none))]]⟩] ∧ inB (m.p.re.set.take i) (tAt m.t p.at_) = false)
  ⟨_, _, _, Cln.refl, 0, rfl, by omega, rfl, rfl, rfl, rfl, rfl, rfl, rfl, ?_, rfl⟩ ?_
 ·rfl
 rintro n e s ⟨i, rfl, hi, h0, h5, h6, h8, h31, h32, h33, rfl, hno⟩
 unfold Mst.objsT; simp only [intsD]
 rcases Nat.lt_or_ge i m.p.re.set.length with hlt | hge
 ·obtain ⟨y, hy⟩ : ∃ y, m.p.re.set[i]? = some y := ⟨_, List.getElem?_eq_getElem hlt⟩
  by_cases c1 : y.1 ≤ tAt m.t p.at_
  ·by_cases c2 : tAt m.t p.at_ ≤ y.2
   ·rw [inB_pos hy c1 c2]
    simp only [zX, simprocAttr, zM, Re.cells_eq, h0, h5, h6, h8, h31, h32, h33, hlt, hy, spanC, c1, c2, w1]
    exact ⟨hM, rfl⟩
   ·simp only [zX, simprocAttr, zM, Re.cells_eq, h0, h5, h6, h8, h31, h32, h33, hlt, hy, spanC, c1, c2]
    refine ⟨m.p.re.set.length - (i + 1), _, _, by omega, Cln.cut (s' := m.objsT g b a (.d (intsD m.t)) ++ [⟨0, true, 3, [(p.cells b a).map .d]⟩, ⟨0, true, 3, [[.d (iD 0), .fu [], .d (.sc (.pointer none))]]⟩]) 5 (by omega) rfl ?_ [0, 5, 6, 8, 31, 32, 33] ?_, i + 1, rfl, hlt, ?_, ?_, ?_, ?_, ?_, ?_, ?_, rfl, inB_neg hy hno (fun h => c2 h.2)⟩ <;> (try simp only [zU, Nat.reduceBEq, Nat.reduceShiftRight, Nat.reduceMod, Nat.reduceEqDiff, reduceIte])
    ·rw [List.all_append, objsT_ok g b a m _ 5 (by omega) rfl]; rfl
    ·simp [updE, trimE_app, refsV, i64, h0, h5, h6, h8, h31, h32, h33]
    ·exact h0
    ·exact h5
    ·exact h6
    ·exact h8
    ·exact h31
    ·exact h32
    ·rw [w64 _ (by omega)]; rfl
  ·simp only [zX, simprocAttr, zM, Re.cells_eq, h0, h5, h6, h8, h31, h32, h33, hlt, hy, spanC, c1]
   refine ⟨m.p.re.set.length - (i + 1), _, _, by omega, Cln.cut (s' := m.objsT g b a (.d (intsD m.t)) ++ [⟨0, true, 3, [(p.cells b a).map .d]⟩, ⟨0, true, 3, [[.d (iD 0), .fu [], .d (.sc (.pointer none))]]⟩]) 5 (by omega) rfl ?_ [0, 5, 6, 8, 31, 32, 33] ?_, i + 1, rfl, hlt, ?_, ?_, ?_, ?_, ?_, ?_, ?_, rfl, inB_neg hy hno (fun h => c1 h.1)⟩ <;> (try simp only [zU, Nat.reduceBEq, Nat.reduceShiftRight, Nat.reduceMod, Nat.reduceEqDiff, reduceIte])
   ·rw [List.all_append, objsT_ok g b a m _ 5 (by omega) rfl]; rfl
   ·simp [updE, trimE_app, refsV, i64, h0, h5, h6, h8, h31, h32, h33]
   ·exact h0
   ·exact h5
   ·exact h6
   ·exact h8
   ·exact h31
   ·exact h32
   ·rw [w64 _ (by omega)]; rfl
 ·have hie : i = m.p.re.set.length := by omega
  subst hie
  rw [List.take_length] at hno
  rw [hno]
  simp only [zX, simprocAttr, zM, Re.cells_eq, h0, h5, h6, h8, h31, h32, h33, Nat.lt_irrefl, Bool.false_eq_true, if_false]
  exact ⟨hM, rfl⟩
theorem set_root_so (g b a : Nat) (m : Mst) (p : BPlace) (hset : m.p.re.set.length ≤ 1000000000) (hp : 0 ≤ p.at_) (hq : p.at_ < m.t.length) (ht : m.t.length ≤ 1000000) (hs : m.own = m.t) :
  callWp prog 84 [.pp 0 g 0 0 b a, .d ((BRef.root).d b a), p.v b a] (m.objsT g b a (.so 2 m.ogen 0 m.t.length)) fun v s => v = rsV b a (setR m.t m.p.re p).1 (setR m.t m.p.re p).2 ∧ s = m.objsT g b a (.so 2 m.ogen 0 m.t.length) := by
 have hr : setR m.t m.p.re p = if inB m.p.re.set (tAt m.t p.at_) = true then ({ p with at_ := p.at_ + 1 }, true) else (.zero, false) := by
  rw [setR]; simp only [hq, true_and]
 rw [hr]
 have hq' : ¬ (m.t.length : Int) ≤ p.at_ := by omega
 have w1 : IntKind.i64.wrap (p.at_ + 1) = p.at_ + 1 := w64 _ (by omega)
 have hM := mobjsT_ok m b a (.so 2 m.ogen 0 m.t.length) rfl
 have hg := own_get hp hq
 have hol : m.own.length = m.t.length := by rw [hs]
 have hgo : (m.own.map fun x => [V.d (D.sc (Value.int IntKind.i64 x))])[p.at_.toNat]? = some [V.d (D.sc (Value.int IntKind.i64 (tAt m.t p.at_)))] := by rw [hs]; exact hg
 unfold Mst.objsT
 refine fn_ok func84 rfl ntmps84 results84 rfl 3 15032387047 (by simp) (by simp) ?_
 simp only [zX, simprocAttr, zM, Re.cells_eq]
 refine draw_c mix [] [(3,[0],[]),(4,[0],[]),(5,[0],[]),(6,[2],[]),(0,[3],[]),(1,[3],[])] (by rfl) ?_
 simp only [zX, simprocAttr, zM, hq', ge_iff_le, Re.cells_eq]
 refine draw_c mix [] [(1,[0],[]),(2,[0],[]),(3,[0],[]),(4,[3],[]),(5,[3],[]),(6,[2],[]),(7,[2],[])] (by rfl) ?_
 simp only [zX, simprocAttr, zM, Re.cells_eq, BRef.d, hp, hq, hgo, Nat.zero_add]
 refine loop_rule (fun n e s => ∃ i : Nat, n = m.p.re.set.length - i ∧ i ≤ m.p.re.set.length ∧ e 0 = .pp 0 g 0 0 b a ∧ e 5 = .rf 3 0 0 0 ∧ e 6 = .rf 4 0 0 0 ∧ e 8 = i64 (tAt m.t p.at_) ∧ e 31 = .d (.sl (m.p.re.set.map spanC)) ∧ e 32 = i64 m.p.re.set.length ∧ e 33 = i64 i ∧
   s = m.objsT g b a (.so 2 m.ogen 0 m.t.length) ++ [⟨0, true, 3, [(p.cells b a).map .d]⟩, ⟨0, true, 3, [[.d (iD 0), .fu [], .d (.sc (.pointer none))]]⟩] ∧ inB (m.p.re.set.take i) (tAt m.t p.at_) = false)
  ⟨_, _, _, Cln.refl, 0, rfl, by omega, rfl, rfl, rfl, rfl, rfl, rfl, rfl, ?_, rfl⟩ ?_
 ·rfl
 rintro n e s ⟨i, rfl, hi, h0, h5, h6, h8, h31, h32, h33, rfl, hno⟩
 unfold Mst.objsT
 rcases Nat.lt_or_ge i m.p.re.set.length with hlt | hge
 ·obtain ⟨y, hy⟩ : ∃ y, m.p.re.set[i]? = some y := ⟨_, List.getElem?_eq_getElem hlt⟩
  by_cases c1 : y.1 ≤ tAt m.t p.at_
  ·by_cases c2 : tAt m.t p.at_ ≤ y.2
   ·rw [inB_pos hy c1 c2]
    simp only [zX, simprocAttr, zM, Re.cells_eq, h0, h5, h6, h8, h31, h32, h33, hlt, hy, spanC, c1, c2, w1]
    exact ⟨hM, rfl⟩
   ·simp only [zX, simprocAttr, zM, Re.cells_eq, h0, h5, h6, h8, h31, h32, h33, hlt, hy, spanC, c1, c2]
    refine ⟨m.p.re.set.length - (i + 1), _, _, by omega, Cln.cut (s' := m.objsT g b a (.so 2 m.ogen 0 m.t.length) ++ [⟨0, true, 3, [(p.cells b a).map .d]⟩, ⟨0, true, 3, [[.d (iD 0), .fu [], .d (.sc (.pointer none))]]⟩]) 5 (by omega) rfl ?_ [0, 5, 6, 8, 31, 32, 33] ?_, i + 1, rfl, hlt, ?_, ?_, ?_, ?_, ?_, ?_, ?_, rfl, inB_neg hy hno (fun h => c2 h.2)⟩ <;> (try simp only [zU, Nat.reduceBEq, Nat.reduceShiftRight, Nat.reduceMod, Nat.reduceEqDiff, reduceIte])
    ·rw [List.all_append, objsT_ok g b a m _ 5 (by omega) rfl]; rfl
    ·simp [updE, trimE_app, refsV, i64, h0, h5, h6, h8, h31, h32, h33]
    ·exact h0
    ·exact h5
    ·exact h6
    ·exact h8
    ·exact h31
    ·exact h32
    ·rw [w64 _ (by omega)]; rfl
  ·simp only [zX, simprocAttr, zM, Re.cells_eq, h0, h5, h6, h8, h31, h32, h33, hlt, hy, spanC, c1]
   refine ⟨m.p.re.set.length - (i + 1), _, _, by omega, Cln.cut (s' := m.objsT g b a (.so 2 m.ogen 0 m.t.length) ++ [⟨0, true, 3, [(p.cells b a).map .d]⟩, ⟨0, true, 3, [[.d (iD 0), .fu [], .d (.sc (.pointer none))]]⟩]) 5 (by omega) rfl ?_ [0, 5, 6, 8, 31, 32, 33] ?_, i + 1, rfl, hlt, ?_, ?_, ?_, ?_, ?_, ?_, ?_, rfl, inB_neg hy hno (fun h => c1 h.1)⟩ <;> (try simp only [zU, Nat.reduceBEq, Nat.reduceShiftRight, Nat.reduceMod, Nat.reduceEqDiff, reduceIte])
   ·rw [List.all_append, objsT_ok g b a m _ 5 (by omega) rfl]; rfl
   ·simp [updE, trimE_app, refsV, i64, h0, h5, h6, h8, h31, h32, h33]
   ·exact h0
   ·exact h5
   ·exact h6
   ·exact h8
   ·exact h31
   ·exact h32
   ·rw [w64 _ (by omega)]; rfl
 ·have hie : i = m.p.re.set.length := by omega
  subst hie
  rw [List.take_length] at hno
  rw [hno]
  simp only [zX, simprocAttr, zM, Re.cells_eq, h0, h5, h6, h8, h31, h32, h33, Nat.lt_irrefl, Bool.false_eq_true, if_false]
  exact ⟨hM, rfl⟩
theorem mset_ok (g b a : Nat) (m : Mst) (r : BRef) (re : Re) (p : BPlace) (hr : m.lit r = some re) (hset : re.set.length ≤ 1000000000) (hp : 0 ≤ p.at_) (ht : m.t.length ≤ 1000000) (hs : m.same) :
  callWp prog 84 [.pp 0 g 0 0 b a, .d (r.d b a), p.v b a] (m.objs g b a) fun v s => v = rsV b a (setR m.t re p).1 (setR m.t re p).2 ∧ s = m.objs g b a := by
 by_cases hq : p.at_ < m.t.length
 ·cases r with
  | nil => cases hr
  | root =>
   cases hr
   cases hT : m.ownText with
   | true => rw [objs_so hT]; exact set_root_so g b a m p hset hp hq ht (hs hT)
   | false => rw [objs_d hT]; exact set_root_d g b a m p hset hp hq ht
  | el re' =>
   cases hr
   cases hT : m.ownText with
   | true => rw [objs_so hT]; exact set_el_so g b a m re p hset hp hq ht (hs hT)
   | false => rw [objs_d hT]; exact set_el_d g b a m re p hset hp hq ht
 ·exact set_out g b a m r re p hq
end Go.Proofs.Ytilapneoohcplaa
