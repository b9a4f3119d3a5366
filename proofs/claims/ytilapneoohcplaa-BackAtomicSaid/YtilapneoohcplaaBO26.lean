/- A part of the proof (G26 G27). -/
import Derived.Test.YtilapneoohcplaaBO25
set_option linter.unusedSimpArgs false
set_option linter.unusedVariables false
set_option maxRecDepth 100000
set_option maxHeartbeats 80000000
namespace Go.Proofs.Ytilapneoohcplaa
open Go.VL Go.Proofs.Try
theorem slEqual_ok (a b : List Int) (ha : a.length ≤ 1000000000) : PureOK prog 90 [.d (intsD a), .d (intsD b)] (bV (decide (a = b))) := by
 refine fn_ok func90 rfl ntmps90 results90 rfl 0 12339 (by simp) (by simp) ?_
 by_cases hl : a.length = b.length
 ·have hli : (a.length : Int) = b.length := by omega
  simp only [zX, simprocAttr, i64, bV, intsD, hli, ne_eq, not_true_eq_false, if_false]
  refine loop_rule (fun n e s => ∃ i : Nat, n = a.length - i ∧ i ≤ a.length ∧ e 0 = .d (intsD a) ∧ e 1 = .d (intsD b) ∧ e 12 = i64 a.length ∧ e 13 = i64 i ∧ s = [] ∧ a.take i = b.take i)
   ⟨_, _, _, Cln.refl, 0, rfl, by omega, rfl, rfl, ?_, rfl, rfl, rfl⟩ ?_
  ·rw [hli]; rfl
  rintro n e s ⟨i, rfl, hi, h0, h1, h12, h13, rfl, he⟩
  rcases Nat.lt_or_ge i a.length with hlt | hge
  ·obtain ⟨x, hx⟩ : ∃ x, a[i]? = some x := ⟨_, List.getElem?_eq_getElem hlt⟩
   obtain ⟨y, hy⟩ : ∃ y, b[i]? = some y := ⟨_, List.getElem?_eq_getElem (by omega)⟩
   have hlb : i < b.length := by omega
   by_cases c : x = y
   ·subst c
    simp only [zX, simprocAttr, i64, bV, intsD, iD, h0, h1, h12, h13, hlt, hlb, hx, hy, ne_eq, not_true_eq_false]
    refine draw_c mix [] [] (by rfl) ?_
    simp only [zX, simprocAttr, i64, bV, intsD, iD, h0, h1, h12, h13, hlt, hlb, hx, hy, ne_eq, not_true_eq_false]
    refine ⟨a.length - (i + 1), _, _, by omega, Cln.refl, i + 1, rfl, hlt, ?_, ?_, ?_, ?_, rfl, ?_⟩ <;> (try simp only [zU, Nat.reduceBEq, Nat.reduceShiftRight, Nat.reduceMod, Nat.reduceEqDiff, reduceIte])
    ·exact h0
    ·exact h1
    ·exact h12
    ·rw [w64 _ (by omega)]; rfl
    ·rw [take_get hx, take_get hy, he]
   ·have hne : ¬ a = b := by
     intro h
     rw [h] at hx
     rw [hx] at hy
     exact c (Option.some.inj hy)
    rw [decide_eq_false hne]
    simp only [zX, simprocAttr, i64, bV, intsD, iD, h0, h1, h12, h13, hlt, hlb, hx, hy, ne_eq, c, not_false_eq_true]
    refine draw_c mix [] [] (by rfl) ?_
    simp only [zX, simprocAttr, i64, bV, intsD, iD, h0, h1, h12, h13, hlt, hlb, hx, hy, ne_eq, c, not_false_eq_true]
    all_goals first | exact ⟨rfl, rfl⟩ | exact ⟨rfl, trivial⟩ | rfl | trivial | (rw [reV_eq]; rfl)
  ·have hia : i = a.length := by omega
   subst hia
   rw [List.take_length, hl, List.take_length] at he
   rw [decide_eq_true he]
   simp only [zX, simprocAttr, i64, bV, intsD, iD, h0, h1, h12, h13, Nat.lt_irrefl]
   all_goals first | exact ⟨rfl, rfl⟩ | exact ⟨rfl, trivial⟩ | rfl | trivial | (rw [reV_eq]; rfl)
 ·have hli : ¬ (a.length : Int) = b.length := by omega
  have hne : ¬ a = b := fun h => hl (by rw [h])
  rw [decide_eq_false hne]
  simp only [zX, simprocAttr, i64, bV, intsD, hli, ne_eq, not_false_eq_true, if_true]
  all_goals first | exact ⟨rfl, rfl⟩ | exact ⟨rfl, trivial⟩ | rfl | trivial | (rw [reV_eq]; rfl)
theorem same_take {t : List Int} {a i : Nat} : ∀ {n : Nat}, a + n ≤ t.length → i + n ≤ t.length → decide ((t.drop a).take n = (t.drop i).take n) = sameR t a i n
 | 0, _, _ => by simp [sameR]
 | n + 1, h1, h2 => by
  have e : ∀ k : Nat, k + (n + 1) ≤ t.length → (t.drop k).take (n + 1) = (t.drop k).take n ++ [tAt t ((k : Int) + (n : Int))] := by
   intro k hk
   have hx : (t.drop k)[n]? = some (tAt t ((k : Int) + (n : Int))) := by
    rw [List.getElem?_drop]
    have := tAt_get (t := t) (i := (k : Int) + (n : Int)) (by omega) (by omega)
    rw [show ((k : Int) + (n : Int)).toNat = k + n by omega] at this
    exact this
   exact take_get hx
  rw [e a h1, e i h2, sameR_succ, ← same_take (n := n) (by omega) (by omega)]
  rw [Bool.eq_iff_iff]
  simp only [decide_eq_true_eq, Bool.and_eq_true, beq_iff_eq]
  constructor
  ·intro h
   have := List.append_inj' h rfl
   exact ⟨this.1, by simpa using this.2⟩
  ·rintro ⟨h, h'⟩
   rw [h, h']
theorem frz_map {α : Type} (f : α → D) (k lim : Nat) (s : List VL.Obj) : ∀ L : List α, ((L.map fun x => [V.d (f x)]).mapM fun (e : List V) => e.mapM (frzD (k + 1) lim s)) = some (L.map fun x => [f x])
 | [] => rfl
 | x :: L => by
  rw [List.map_cons, List.mapM_cons, frz_map f k lim s L]
  rfl
theorem lend_so {og lo n lim : Nat} {s : List VL.Obj} {own : List Int} (hs : s[2]? = some ⟨og, false, 1, own.map fun x => [V.d (iD x)]⟩) (h : lo + n ≤ own.length) : frzV lim s (.so 2 og lo n) = some (.d (intsD ((own.drop lo).take n))) := by
 unfold frzV
 simp only [frzD, hs]
 rw [if_pos (by simpa using h), ← List.map_drop, ← List.map_take, frz_map]
 rfl
theorem lend_nil {lim k n : Nat} {s : List VL.Obj} {own : List Int} (h : n = 0) : frzV lim s (.d (.sl [])) = some (.d (intsD ((own.drop k).take n))) := by
 subst h; rfl
theorem lend_go {lim : Nat} {s : List VL.Obj} {v w : V} {x y : D} (hv : frzV lim s v = some (.d x)) (hw : frzV lim s w = some (.d y)) : frzV.go lim s [v, w] = some [.d x, .d y] := by
 simp only [frzV.go, hv, hw]
theorem refo_el_d (g b a : Nat) (m : Mst) (re : Re) (p : BPlace) (x : Int × Int) (hx : p.caps[(re.n - 1).toNat]? = some x) (hn : 1 ≤ re.n) (hn' : re.n ≤ p.caps.length) (hc : p.caps.length ≤ 1000000000) (hb : -1000000 ≤ x.1 ∧ -1000000 ≤ x.2 ∧ x.1 ≤ 1000000 ∧ x.2 ≤ 1000000)
  (hp : 0 ≤ p.at_) (hp' : p.at_ ≤ m.t.length) (ht : m.t.length ≤ 1000000) (hq : x.1 < 0 ∨ (m.t.length : Int) - p.at_ < x.2 - x.1) :
  callWp prog 85 [.pp 0 g 0 0 b a, .d ((BRef.el re).d b a), p.v b a] (m.objsT g b a (.d (intsD m.t))) fun v s => v = rsV b a .zero false ∧ s = m.objsT g b a (.d (intsD m.t)) := by
 obtain ⟨x1, x2⟩ := x
 simp only at hb hq
 have w0 : IntKind.i64.wrap (re.n - 1) = re.n - 1 := w64 _ (by omega)
 have w1 : IntKind.i64.wrap (x2 - x1) = x2 - x1 := w64 _ (by omega)
 have w2 : IntKind.i64.wrap ((m.t.length : Int) - p.at_) = m.t.length - p.at_ := w64 _ (by omega)
 have hn0 : 0 ≤ re.n - 1 := by omega
 have hn1 : re.n - 1 < (p.caps.length : Int) := by omega
 have hcap := hx
 have hM := mobjsT_ok m b a (.d (intsD m.t)) rfl
 unfold Mst.objsT; simp only [intsD]
 refine fn_ok func85 rfl ntmps85 results85 rfl 3 999 (by simp) (by simp) ?_
 simp only [zX, simprocAttr, -Int.reduceNatCast', zM, BRef.d]
 refine draw_first Cln0.reserve ?_
 refine draw_c mix [] [(0,[3],[]),(1,[3],[]),(3,[0],[]),(4,[0],[]),(5,[0],[]),(9,[5],[5]),(10,[5],[5])] (by rfl) ?_
 simp only [zX, simprocAttr, -Int.reduceNatCast', zM, Re.cells_eq, hole, w0, w1, hn0, hn1, hcap, capD, spanC]
 refine ⟨by decide, by decide, ?_⟩
 by_cases q1 : x1 < 0
 ·refine draw_c mix [] [(0,[5],[]),(1,[5],[]),(6,[0],[]),(7,[0],[]),(8,[0],[]),(9,[2],[]),(10,[3],[]),(11,[3],[])] (by rfl) ?_
  simp only [zX, simprocAttr, -Int.reduceNatCast', zM, w1, q1]
  exact ⟨by decide, hM, rfl⟩
 ·have q2 : (m.t.length : Int) - p.at_ < x2 - x1 := by omega
  refine draw_c mix [] [(0,[5],[]),(1,[5],[]),(6,[0],[]),(7,[0],[]),(8,[0],[]),(9,[2],[]),(10,[3],[]),(11,[3],[])] (by rfl) ?_
  simp only [zX, simprocAttr, -Int.reduceNatCast', zM, w1, w2, q1, q2, gt_iff_lt]
  exact ⟨by decide, hM, rfl⟩
theorem refo_root_d (g b a : Nat) (m : Mst) (p : BPlace) (x : Int × Int) (hx : p.caps[(m.p.re.n - 1).toNat]? = some x) (hn : 1 ≤ m.p.re.n) (hn' : m.p.re.n ≤ p.caps.length) (hc : p.caps.length ≤ 1000000000) (hb : -1000000 ≤ x.1 ∧ -1000000 ≤ x.2 ∧ x.1 ≤ 1000000 ∧ x.2 ≤ 1000000)
  (hp : 0 ≤ p.at_) (hp' : p.at_ ≤ m.t.length) (ht : m.t.length ≤ 1000000) (hq : x.1 < 0 ∨ (m.t.length : Int) - p.at_ < x.2 - x.1) :
  callWp prog 85 [.pp 0 g 0 0 b a, .d ((BRef.root).d b a), p.v b a] (m.objsT g b a (.d (intsD m.t))) fun v s => v = rsV b a .zero false ∧ s = m.objsT g b a (.d (intsD m.t)) := by
 obtain ⟨x1, x2⟩ := x
 simp only at hb hq
 have w0 : IntKind.i64.wrap (m.p.re.n - 1) = m.p.re.n - 1 := w64 _ (by omega)
 have w1 : IntKind.i64.wrap (x2 - x1) = x2 - x1 := w64 _ (by omega)
 have w2 : IntKind.i64.wrap ((m.t.length : Int) - p.at_) = m.t.length - p.at_ := w64 _ (by omega)
 have hn0 : 0 ≤ m.p.re.n - 1 := by omega
 have hn1 : m.p.re.n - 1 < (p.caps.length : Int) := by omega
 have hcap := hx
 have hM := mobjsT_ok m b a (.d (intsD m.t)) rfl
 unfold Mst.objsT; simp only [intsD]
 refine fn_ok func85 rfl ntmps85 results85 rfl 3 999 (by simp) (by simp) ?_
 simp only [zX, simprocAttr, -Int.reduceNatCast', zM, BRef.d]
 refine draw_first Cln0.reserve ?_
 refine draw_c mix [] [(0,[3],[]),(1,[3],[]),(3,[0],[]),(4,[0],[]),(5,[0],[]),(9,[5],[5]),(10,[5],[5])] (by rfl) ?_
 simp only [zX, simprocAttr, -Int.reduceNatCast', zM, Re.cells_eq, hole, w0, w1, hn0, hn1, hcap, capD, spanC]
 refine ⟨by decide, by decide, ?_⟩
 by_cases q1 : x1 < 0
 ·refine draw_c mix [] [(0,[5],[]),(1,[5],[]),(6,[0],[]),(7,[0],[]),(8,[0],[]),(9,[2],[]),(10,[3],[]),(11,[3],[])] (by rfl) ?_
  simp only [zX, simprocAttr, -Int.reduceNatCast', zM, w1, q1]
  exact ⟨by decide, hM, rfl⟩
 ·have q2 : (m.t.length : Int) - p.at_ < x2 - x1 := by omega
  refine draw_c mix [] [(0,[5],[]),(1,[5],[]),(6,[0],[]),(7,[0],[]),(8,[0],[]),(9,[2],[]),(10,[3],[]),(11,[3],[])] (by rfl) ?_
  simp only [zX, simprocAttr, -Int.reduceNatCast', zM, w1, w2, q1, q2, gt_iff_lt]
  exact ⟨by decide, hM, rfl⟩
theorem refo_el_so (g b a : Nat) (m : Mst) (re : Re) (p : BPlace) (x : Int × Int) (hx : p.caps[(re.n - 1).toNat]? = some x) (hn : 1 ≤ re.n) (hn' : re.n ≤ p.caps.length) (hc : p.caps.length ≤ 1000000000) (hb : -1000000 ≤ x.1 ∧ -1000000 ≤ x.2 ∧ x.1 ≤ 1000000 ∧ x.2 ≤ 1000000)
  (hp : 0 ≤ p.at_) (hp' : p.at_ ≤ m.t.length) (ht : m.t.length ≤ 1000000) (hq : x.1 < 0 ∨ (m.t.length : Int) - p.at_ < x.2 - x.1) :
  callWp prog 85 [.pp 0 g 0 0 b a, .d ((BRef.el re).d b a), p.v b a] (m.objsT g b a (.so 2 m.ogen 0 m.t.length)) fun v s => v = rsV b a .zero false ∧ s = m.objsT g b a (.so 2 m.ogen 0 m.t.length) := by
 obtain ⟨x1, x2⟩ := x
 simp only at hb hq
 have w0 : IntKind.i64.wrap (re.n - 1) = re.n - 1 := w64 _ (by omega)
 have w1 : IntKind.i64.wrap (x2 - x1) = x2 - x1 := w64 _ (by omega)
 have w2 : IntKind.i64.wrap ((m.t.length : Int) - p.at_) = m.t.length - p.at_ := w64 _ (by omega)
 have hn0 : 0 ≤ re.n - 1 := by omega
 have hn1 : re.n - 1 < (p.caps.length : Int) := by omega
 have hcap := hx
 have hM := mobjsT_ok m b a (.so 2 m.ogen 0 m.t.length) rfl
 unfold Mst.objsT
 refine fn_ok func85 rfl ntmps85 results85 rfl 3 999 (by simp) (by simp) ?_
 simp only [zX, simprocAttr, -Int.reduceNatCast', zM, BRef.d]
 refine draw_first Cln0.reserve ?_
 refine draw_c mix [] [(0,[3],[]),(1,[3],[]),(3,[0],[]),(4,[0],[]),(5,[0],[]),(9,[5],[5]),(10,[5],[5])] (by rfl) ?_
 simp only [zX, simprocAttr, -Int.reduceNatCast', zM, Re.cells_eq, hole, w0, w1, hn0, hn1, hcap, capD, spanC]
 refine ⟨by decide, by decide, ?_⟩
 by_cases q1 : x1 < 0
 ·refine draw_c mix [] [(0,[5],[]),(1,[5],[]),(6,[0],[]),(7,[0],[]),(8,[0],[]),(9,[2],[]),(10,[3],[]),(11,[3],[])] (by rfl) ?_
  simp only [zX, simprocAttr, -Int.reduceNatCast', zM, w1, q1]
  exact ⟨by decide, hM, rfl⟩
 ·have q2 : (m.t.length : Int) - p.at_ < x2 - x1 := by omega
  refine draw_c mix [] [(0,[5],[]),(1,[5],[]),(6,[0],[]),(7,[0],[]),(8,[0],[]),(9,[2],[]),(10,[3],[]),(11,[3],[])] (by rfl) ?_
  simp only [zX, simprocAttr, -Int.reduceNatCast', zM, w1, w2, q1, q2, gt_iff_lt]
  exact ⟨by decide, hM, rfl⟩
theorem refo_root_so (g b a : Nat) (m : Mst) (p : BPlace) (x : Int × Int) (hx : p.caps[(m.p.re.n - 1).toNat]? = some x) (hn : 1 ≤ m.p.re.n) (hn' : m.p.re.n ≤ p.caps.length) (hc : p.caps.length ≤ 1000000000) (hb : -1000000 ≤ x.1 ∧ -1000000 ≤ x.2 ∧ x.1 ≤ 1000000 ∧ x.2 ≤ 1000000)
  (hp : 0 ≤ p.at_) (hp' : p.at_ ≤ m.t.length) (ht : m.t.length ≤ 1000000) (hq : x.1 < 0 ∨ (m.t.length : Int) - p.at_ < x.2 - x.1) :
  callWp prog 85 [.pp 0 g 0 0 b a, .d ((BRef.root).d b a), p.v b a] (m.objsT g b a (.so 2 m.ogen 0 m.t.length)) fun v s => v = rsV b a .zero false ∧ s = m.objsT g b a (.so 2 m.ogen 0 m.t.length) := by
 obtain ⟨x1, x2⟩ := x
 simp only at hb hq
 have w0 : IntKind.i64.wrap (m.p.re.n - 1) = m.p.re.n - 1 := w64 _ (by omega)
 have w1 : IntKind.i64.wrap (x2 - x1) = x2 - x1 := w64 _ (by omega)
 have w2 : IntKind.i64.wrap ((m.t.length : Int) - p.at_) = m.t.length - p.at_ := w64 _ (by omega)
 have hn0 : 0 ≤ m.p.re.n - 1 := by omega
 have hn1 : m.p.re.n - 1 < (p.caps.length : Int) := by omega
 have hcap := hx
 have hM := mobjsT_ok m b a (.so 2 m.ogen 0 m.t.length) rfl
 unfold Mst.objsT
 refine fn_ok func85 rfl ntmps85 results85 rfl 3 999 (by simp) (by simp) ?_
 simp only [zX, simprocAttr, -Int.reduceNatCast', zM, BRef.d]
 refine draw_first Cln0.reserve ?_
 refine draw_c mix [] [(0,[3],[]),(1,[3],[]),(3,[0],[]),(4,[0],[]),(5,[0],[]),(9,[5],[5]),(10,[5],[5])] (by rfl) ?_
 simp only [zX, simprocAttr, -Int.reduceNatCast', zM, Re.cells_eq, hole, w0, w1, hn0, hn1, hcap, capD, spanC]
 refine ⟨by decide, by decide, ?_⟩
 by_cases q1 : x1 < 0
 ·refine draw_c mix [] [(0,[5],[]),(1,[5],[]),(6,[0],[]),(7,[0],[]),(8,[0],[]),(9,[2],[]),(10,[3],[]),(11,[3],[])] (by rfl) ?_
  simp only [zX, simprocAttr, -Int.reduceNatCast', zM, w1, q1]
  exact ⟨by decide, hM, rfl⟩
 ·have q2 : (m.t.length : Int) - p.at_ < x2 - x1 := by omega
  refine draw_c mix [] [(0,[5],[]),(1,[5],[]),(6,[0],[]),(7,[0],[]),(8,[0],[]),(9,[2],[]),(10,[3],[]),(11,[3],[])] (by rfl) ?_
  simp only [zX, simprocAttr, -Int.reduceNatCast', zM, w1, w2, q1, q2, gt_iff_lt]
  exact ⟨by decide, hM, rfl⟩
theorem refi_el_d (g b a : Nat) (m : Mst) (re : Re) (p : BPlace) (x1 x2 : Nat) (hx : p.caps[(re.n - 1).toNat]? = some ((x1 : Int), (x2 : Int))) (hn : 1 ≤ re.n) (hn' : re.n ≤ p.caps.length) (hc : p.caps.length ≤ 1000000000) (i : Nat)
  (hp : p.at_ = i) (ht : m.t.length ≤ 1000000) (hq : i + (x2 - x1) ≤ m.t.length) (h12 : x1 ≤ x2) (h2 : x2 ≤ m.t.length) :
  callWp prog 85 [.pp 0 g 0 0 b a, .d ((BRef.el re).d b a), p.v b a] (m.objsT g b a (.d (intsD m.t))) fun v s => v = (if sameR m.t x1 i (x2 - x1) = true then rsV b a { p with at_ := p.at_ + ((x2 : Int) - x1) } true else rsV b a .zero false) ∧ s = m.objsT g b a (.d (intsD m.t)) := by
 have w0 : IntKind.i64.wrap (re.n - 1) = re.n - 1 := w64 _ (by omega)
 have w1 : IntKind.i64.wrap ((x2 : Int) - x1) = x2 - x1 := w64 _ (by omega)
 have w2 : IntKind.i64.wrap ((m.t.length : Int) - i) = m.t.length - i := w64 _ (by omega)
 have w3 : IntKind.i64.wrap ((i : Int) + ((x2 : Int) - x1)) = i + ((x2 : Int) - x1) := w64 _ (by omega)
 have hn0 : 0 ≤ re.n - 1 := by omega
 have hn1 : re.n - 1 < (p.caps.length : Int) := by omega
 have hcap := hx
 have q1 : ¬ (x1 : Int) < 0 := by omega
 have q2 : ¬ (m.t.length : Int) - i < (x2 : Int) - x1 := by omega
 have l1 : (0 : Int) ≤ (x1 : Int) := by omega
 have l2 : (x1 : Int) ≤ (x2 : Int) := by omega
 have l3 : (x2 : Int) ≤ (m.t.length : Int) := by omega
 have l4 : (0 : Int) ≤ (i : Int) := by omega
 have l5 : (i : Int) ≤ (i : Int) + ((x2 : Int) - x1) := by omega
 have l6 : (i : Int) + ((x2 : Int) - x1) ≤ (m.t.length : Int) := by omega
 have e1 : ((x2 : Int) - x1).toNat = x2 - x1 := by omega
 have e2 : ((i : Int) + ((x2 : Int) - x1) - i).toNat = x2 - x1 := by omega
 have hM := mobjsT_ok m b a (.d (intsD m.t)) rfl
 have hsm := same_take (t := m.t) (a := x1) (i := i) (n := x2 - x1) (by omega) hq
 have hE := slEqual_ok ((m.t.drop x1).take (x2 - x1)) ((m.t.drop i).take (x2 - x1)) (by simp; omega)
 rw [hsm] at hE
 unfold Mst.objsT; simp only [intsD]
 refine fn_ok func85 rfl ntmps85 results85 rfl 3 999 (by simp) (by simp) ?_
 simp only [zX, simprocAttr, -Int.reduceNatCast', zM, BRef.d]
 refine draw_first Cln0.reserve ?_
 refine draw_c mix [] [(0,[3],[]),(1,[3],[]),(3,[0],[]),(4,[0],[]),(5,[0],[]),(9,[5],[5]),(10,[5],[5])] (by rfl) ?_
 simp only [zX, simprocAttr, -Int.reduceNatCast', zM, Re.cells_eq, hole, w0, w1, hp, hn0, hn1, hcap, capD, spanC]
 refine ⟨by decide, by decide, ?_⟩
 refine draw_c mix [] [(0,[5],[]),(1,[5],[]),(6,[0],[]),(7,[0],[]),(8,[0],[]),(9,[2],[]),(10,[3],[]),(11,[3],[])] (by rfl) ?_
 simp only [zX, simprocAttr, -Int.reduceNatCast', zM, hp, w1, w2, q1, q2, gt_iff_lt]
 refine ⟨by decide, ?_⟩
 refine draw_c mix [20] [(1,[0],[]),(2,[0],[]),(3,[0],[]),(4,[5],[]),(5,[5],[]),(6,[5],[]),(7,[5],[]),(8,[2],[]),(10,[0],[]),(11,[0],[]),(12,[0],[]),(13,[3],[]),(14,[3],[]),(15,[3],[]),(16,[3],[]),(19,[2],[])] (by rfl) ?_
 have h1l : ∀ e ∈ m.t.map (fun x => [D.sc (Value.int IntKind.i64 x)]), e.length = 1 := by
  intro e he; obtain ⟨y, _, rfl⟩ := List.mem_map.1 he; rfl
 simp only [intsD, List.map_take, List.map_drop, bV, iD] at hE
 simp only [zX, simprocAttr, -Int.reduceNatCast', zM, hp, w1, w3, l1, l2, l3, l4, l5, l6, List.length_map, e1, e2, Int.toNat_natCast]
 refine ⟨by decide, by decide, .inr h1l, .inr h1l, callD_of (call_pure hE rfl rfl ⟨rfl, rfl⟩) ?_⟩
 cases hsr : sameR m.t x1 i (x2 - x1) with
 | true =>
  simp only [zX, simprocAttr, -Int.reduceNatCast', zM, hp, w1, w3, hsr, Bool.not_true, Bool.not_false]
  exact ⟨hM, rfl⟩
 | false =>
  simp only [zX, simprocAttr, -Int.reduceNatCast', zM, hp, w1, w3, hsr, Bool.not_true, Bool.not_false, Bool.false_eq_true]
  exact ⟨hM, rfl⟩
theorem refi_root_d (g b a : Nat) (m : Mst) (p : BPlace) (x1 x2 : Nat) (hx : p.caps[(m.p.re.n - 1).toNat]? = some ((x1 : Int), (x2 : Int))) (hn : 1 ≤ m.p.re.n) (hn' : m.p.re.n ≤ p.caps.length) (hc : p.caps.length ≤ 1000000000) (i : Nat)
  (hp : p.at_ = i) (ht : m.t.length ≤ 1000000) (hq : i + (x2 - x1) ≤ m.t.length) (h12 : x1 ≤ x2) (h2 : x2 ≤ m.t.length) :
  callWp prog 85 [.pp 0 g 0 0 b a, .d ((BRef.root).d b a), p.v b a] (m.objsT g b a (.d (intsD m.t))) fun v s => v = (if sameR m.t x1 i (x2 - x1) = true then rsV b a { p with at_ := p.at_ + ((x2 : Int) - x1) } true else rsV b a .zero false) ∧ s = m.objsT g b a (.d (intsD m.t)) := by
 have w0 : IntKind.i64.wrap (m.p.re.n - 1) = m.p.re.n - 1 := w64 _ (by omega)
 have w1 : IntKind.i64.wrap ((x2 : Int) - x1) = x2 - x1 := w64 _ (by omega)
 have w2 : IntKind.i64.wrap ((m.t.length : Int) - i) = m.t.length - i := w64 _ (by omega)
 have w3 : IntKind.i64.wrap ((i : Int) + ((x2 : Int) - x1)) = i + ((x2 : Int) - x1) := w64 _ (by omega)
 have hn0 : 0 ≤ m.p.re.n - 1 := by omega
 have hn1 : m.p.re.n - 1 < (p.caps.length : Int) := by omega
 have hcap := hx
 have q1 : ¬ (x1 : Int) < 0 := by omega
 have q2 : ¬ (m.t.length : Int) - i < (x2 : Int) - x1 := by omega
 have l1 : (0 : Int) ≤ (x1 : Int) := by omega
 have l2 : (x1 : Int) ≤ (x2 : Int) := by omega
 have l3 : (x2 : Int) ≤ (m.t.length : Int) := by omega
 have l4 : (0 : Int) ≤ (i : Int) := by omega
 have l5 : (i : Int) ≤ (i : Int) + ((x2 : Int) - x1) := by omega
 have l6 : (i : Int) + ((x2 : Int) - x1) ≤ (m.t.length : Int) := by omega
 have e1 : ((x2 : Int) - x1).toNat = x2 - x1 := by omega
 have e2 : ((i : Int) + ((x2 : Int) - x1) - i).toNat = x2 - x1 := by omega
 have hM := mobjsT_ok m b a (.d (intsD m.t)) rfl
 have hsm := same_take (t := m.t) (a := x1) (i := i) (n := x2 - x1) (by omega) hq
 have hE := slEqual_ok ((m.t.drop x1).take (x2 - x1)) ((m.t.drop i).take (x2 - x1)) (by simp; omega)
 rw [hsm] at hE
 unfold Mst.objsT; simp only [intsD]
 refine fn_ok func85 rfl ntmps85 results85 rfl 3 999 (by simp) (by simp) ?_
 simp only [zX, simprocAttr, -Int.reduceNatCast', zM, BRef.d]
 refine draw_first Cln0.reserve ?_
 refine draw_c mix [] [(0,[3],[]),(1,[3],[]),(3,[0],[]),(4,[0],[]),(5,[0],[]),(9,[5],[5]),(10,[5],[5])] (by rfl) ?_
 simp only [zX, simprocAttr, -Int.reduceNatCast', zM, Re.cells_eq, hole, w0, w1, hp, hn0, hn1, hcap, capD, spanC]
 refine ⟨by decide, by decide, ?_⟩
 refine draw_c mix [] [(0,[5],[]),(1,[5],[]),(6,[0],[]),(7,[0],[]),(8,[0],[]),(9,[2],[]),(10,[3],[]),(11,[3],[])] (by rfl) ?_
 simp only [zX, simprocAttr, -Int.reduceNatCast', zM, hp, w1, w2, q1, q2, gt_iff_lt]
 refine ⟨by decide, ?_⟩
 refine draw_c mix [20] [(1,[0],[]),(2,[0],[]),(3,[0],[]),(4,[5],[]),(5,[5],[]),(6,[5],[]),(7,[5],[]),(8,[2],[]),(10,[0],[]),(11,[0],[]),(12,[0],[]),(13,[3],[]),(14,[3],[]),(15,[3],[]),(16,[3],[]),(19,[2],[])] (by rfl) ?_
 have h1l : ∀ e ∈ m.t.map (fun x => [D.sc (Value.int IntKind.i64 x)]), e.length = 1 := by
  intro e he; obtain ⟨y, _, rfl⟩ := List.mem_map.1 he; rfl
 simp only [intsD, List.map_take, List.map_drop, bV, iD] at hE
 simp only [zX, simprocAttr, -Int.reduceNatCast', zM, hp, w1, w3, l1, l2, l3, l4, l5, l6, List.length_map, e1, e2, Int.toNat_natCast]
 refine ⟨by decide, by decide, .inr h1l, .inr h1l, callD_of (call_pure hE rfl rfl ⟨rfl, rfl⟩) ?_⟩
 cases hsr : sameR m.t x1 i (x2 - x1) with
 | true =>
  simp only [zX, simprocAttr, -Int.reduceNatCast', zM, hp, w1, w3, hsr, Bool.not_true, Bool.not_false]
  exact ⟨hM, rfl⟩
 | false =>
  simp only [zX, simprocAttr, -Int.reduceNatCast', zM, hp, w1, w3, hsr, Bool.not_true, Bool.not_false, Bool.false_eq_true]
  exact ⟨hM, rfl⟩
theorem refi_el_so (g b a : Nat) (m : Mst) (re : Re) (p : BPlace) (x1 x2 : Nat) (hx : p.caps[(re.n - 1).toNat]? = some ((x1 : Int), (x2 : Int))) (hn : 1 ≤ re.n) (hn' : re.n ≤ p.caps.length) (hc : p.caps.length ≤ 1000000000) (i : Nat)
  (hp : p.at_ = i) (ht : m.t.length ≤ 1000000) (hq : i + (x2 - x1) ≤ m.t.length) (h12 : x1 ≤ x2) (h2 : x2 ≤ m.t.length) (hs : m.own = m.t) :
  callWp prog 85 [.pp 0 g 0 0 b a, .d ((BRef.el re).d b a), p.v b a] (m.objsT g b a (.so 2 m.ogen 0 m.t.length)) fun v s => v = (if sameR m.t x1 i (x2 - x1) = true then rsV b a { p with at_ := p.at_ + ((x2 : Int) - x1) } true else rsV b a .zero false) ∧ s = m.objsT g b a (.so 2 m.ogen 0 m.t.length) := by
 have w0 : IntKind.i64.wrap (re.n - 1) = re.n - 1 := w64 _ (by omega)
 have w1 : IntKind.i64.wrap ((x2 : Int) - x1) = x2 - x1 := w64 _ (by omega)
 have w2 : IntKind.i64.wrap ((m.t.length : Int) - i) = m.t.length - i := w64 _ (by omega)
 have w3 : IntKind.i64.wrap ((i : Int) + ((x2 : Int) - x1)) = i + ((x2 : Int) - x1) := w64 _ (by omega)
 have hn0 : 0 ≤ re.n - 1 := by omega
 have hn1 : re.n - 1 < (p.caps.length : Int) := by omega
 have hcap := hx
 have q1 : ¬ (x1 : Int) < 0 := by omega
 have q2 : ¬ (m.t.length : Int) - i < (x2 : Int) - x1 := by omega
 have l1 : (0 : Int) ≤ (x1 : Int) := by omega
 have l2 : (x1 : Int) ≤ (x2 : Int) := by omega
 have l3 : (x2 : Int) ≤ (m.t.length : Int) := by omega
 have l4 : (0 : Int) ≤ (i : Int) := by omega
 have l5 : (i : Int) ≤ (i : Int) + ((x2 : Int) - x1) := by omega
 have l6 : (i : Int) + ((x2 : Int) - x1) ≤ (m.t.length : Int) := by omega
 have e1 : ((x2 : Int) - x1).toNat = x2 - x1 := by omega
 have e2 : ((i : Int) + ((x2 : Int) - x1) - i).toNat = x2 - x1 := by omega
 have hM := mobjsT_ok m b a (.so 2 m.ogen 0 m.t.length) rfl
 have hsm := same_take (t := m.t) (a := x1) (i := i) (n := x2 - x1) (by omega) hq
 have hE := slEqual_ok ((m.t.drop x1).take (x2 - x1)) ((m.t.drop i).take (x2 - x1)) (by simp; omega)
 rw [hsm] at hE
 unfold Mst.objsT
 refine fn_ok func85 rfl ntmps85 results85 rfl 3 999 (by simp) (by simp) ?_
 simp only [zX, simprocAttr, -Int.reduceNatCast', zM, BRef.d]
 refine draw_first Cln0.reserve ?_
 refine draw_c mix [] [(0,[3],[]),(1,[3],[]),(3,[0],[]),(4,[0],[]),(5,[0],[]),(9,[5],[5]),(10,[5],[5])] (by rfl) ?_
 simp only [zX, simprocAttr, -Int.reduceNatCast', zM, Re.cells_eq, hole, w0, w1, hp, hn0, hn1, hcap, capD, spanC]
 refine ⟨by decide, by decide, ?_⟩
 refine draw_c mix [] [(0,[5],[]),(1,[5],[]),(6,[0],[]),(7,[0],[]),(8,[0],[]),(9,[2],[]),(10,[3],[]),(11,[3],[])] (by rfl) ?_
 simp only [zX, simprocAttr, -Int.reduceNatCast', zM, hp, w1, w2, q1, q2, gt_iff_lt]
 refine ⟨by decide, ?_⟩
 have hle : m.t.length ≤ m.own.length := by rw [hs]; exact Nat.le_refl _
 have hmin : min m.t.length m.own.length = m.t.length := by omega
 refine draw_c mix [20] [(1,[0],[]),(2,[0],[]),(3,[0],[]),(4,[5],[]),(5,[5],[]),(6,[5],[]),(7,[5],[]),(8,[2],[]),(10,[0],[]),(11,[0],[]),(12,[0],[]),(13,[3],[]),(14,[3],[]),(15,[3],[]),(16,[3],[]),(19,[2],[])] (by rfl) ?_
 simp only [bV] at hE
 rw [← hs, show sameR m.own = sameR m.t by rw [hs]] at hE
 rcases Nat.lt_or_ge x1 x2 with l7 | l7
 ·have l8 : (x1 : Int) < (x2 : Int) := by omega
  have l9 : (i : Int) < (i : Int) + ((x2 : Int) - x1) := by omega
  simp only [zX, simprocAttr, -Int.reduceNatCast', zM, hle, hmin, hp, w1, w3, l1, l2, l3, l4, l5, l6, l8, l9, List.length_map, List.length_take, Nat.le_refl, e1, e2, Int.toNat_natCast, Nat.zero_add, or_true, Int.le_refl]
  refine ⟨by decide, by decide, callD_of (call_lend [2] hE (lend_go (lend_so (own := m.own) rfl (show x1 + (x2 - x1) ≤ m.own.length by omega)) (lend_so (own := m.own) rfl (show i + (x2 - x1) ≤ m.own.length by omega))) rfl ⟨rfl, rfl⟩) ?_⟩
  cases hsr : sameR m.t x1 i (x2 - x1) with
  | true =>
   simp only [zX, simprocAttr, -Int.reduceNatCast', zM, hp, w1, w3, hsr, Bool.not_true, Bool.not_false]
   exact ⟨hM, rfl⟩
  | false =>
   simp only [zX, simprocAttr, -Int.reduceNatCast', zM, hp, w1, w3, hsr, Bool.not_true, Bool.not_false, Bool.false_eq_true]
   exact ⟨hM, rfl⟩
 ·have l8 : ¬ (x1 : Int) < (x2 : Int) := by omega
  have l9 : ¬ (i : Int) < (i : Int) + ((x2 : Int) - x1) := by omega
  have hz : x2 - x1 = 0 := by omega
  by_cases z1 : (x1 : Int) = 0
  ·have y1 := eq_true z1
   by_cases z2 : (i : Int) = 0
   ·have y2 := eq_true z2
    simp only [zX, simprocAttr, -Int.reduceNatCast', zM, hle, hmin, hp, w1, w3, l1, l2, l3, l4, l5, l6, l8, l9, y1, y2, true_or, or_false, List.length_map, List.length_take, Nat.le_refl, e1, e2, Int.toNat_natCast, Nat.zero_add, or_true, Int.le_refl]
    refine ⟨by decide, by decide, callD_of (call_lend [2] hE (lend_go (lend_so (own := m.own) rfl (show x1 + (x2 - x1) ≤ m.own.length by omega)) (lend_so (own := m.own) rfl (show i + (x2 - x1) ≤ m.own.length by omega))) rfl ⟨rfl, rfl⟩) ?_⟩
    cases hsr : sameR m.t x1 i (x2 - x1) with
    | true =>
     simp only [zX, simprocAttr, -Int.reduceNatCast', zM, hp, w1, w3, hsr, Bool.not_true, Bool.not_false]
     exact ⟨hM, rfl⟩
    | false =>
     simp only [zX, simprocAttr, -Int.reduceNatCast', zM, hp, w1, w3, hsr, Bool.not_true, Bool.not_false, Bool.false_eq_true]
     exact ⟨hM, rfl⟩
   ·have y2 := eq_false z2
    simp only [zX, simprocAttr, -Int.reduceNatCast', zM, hle, hmin, hp, w1, w3, l1, l2, l3, l4, l5, l6, l8, l9, y1, y2, true_or, or_false, List.length_map, List.length_take, Nat.le_refl, e1, e2, Int.toNat_natCast, Nat.zero_add, or_true, Int.le_refl]
    refine ⟨by decide, by decide, callD_of (call_lend [2] hE (lend_go (lend_so (own := m.own) rfl (show x1 + (x2 - x1) ≤ m.own.length by omega)) (lend_nil hz)) rfl ⟨rfl, rfl⟩) ?_⟩
    cases hsr : sameR m.t x1 i (x2 - x1) with
    | true =>
     simp only [zX, simprocAttr, -Int.reduceNatCast', zM, hp, w1, w3, hsr, Bool.not_true, Bool.not_false]
     exact ⟨hM, rfl⟩
    | false =>
     simp only [zX, simprocAttr, -Int.reduceNatCast', zM, hp, w1, w3, hsr, Bool.not_true, Bool.not_false, Bool.false_eq_true]
     exact ⟨hM, rfl⟩
  ·have y1 := eq_false z1
   by_cases z2 : (i : Int) = 0
   ·have y2 := eq_true z2
    simp only [zX, simprocAttr, -Int.reduceNatCast', zM, hle, hmin, hp, w1, w3, l1, l2, l3, l4, l5, l6, l8, l9, y1, y2, true_or, or_false, List.length_map, List.length_take, Nat.le_refl, e1, e2, Int.toNat_natCast, Nat.zero_add, or_true, Int.le_refl]
    refine ⟨by decide, by decide, callD_of (call_lend [2] hE (lend_go (lend_nil hz) (lend_so (own := m.own) rfl (show i + (x2 - x1) ≤ m.own.length by omega))) rfl ⟨rfl, rfl⟩) ?_⟩
    cases hsr : sameR m.t x1 i (x2 - x1) with
    | true =>
     simp only [zX, simprocAttr, -Int.reduceNatCast', zM, hp, w1, w3, hsr, Bool.not_true, Bool.not_false]
     exact ⟨hM, rfl⟩
    | false =>
     simp only [zX, simprocAttr, -Int.reduceNatCast', zM, hp, w1, w3, hsr, Bool.not_true, Bool.not_false, Bool.false_eq_true]
     exact ⟨hM, rfl⟩
   ·have y2 := eq_false z2
    simp only [zX, simprocAttr, -Int.reduceNatCast', zM, hle, hmin, hp, w1, w3, l1, l2, l3, l4, l5, l6, l8, l9, y1, y2, true_or, or_false, List.length_map, List.length_take, Nat.le_refl, e1, e2, Int.toNat_natCast, Nat.zero_add, or_true, Int.le_refl]
    refine ⟨by decide, by decide, callD_of (call_lend [2] hE (lend_go (lend_nil hz) (lend_nil hz)) rfl ⟨rfl, rfl⟩) ?_⟩
    cases hsr : sameR m.t x1 i (x2 - x1) with
    | true =>
     simp only [zX, simprocAttr, -Int.reduceNatCast', zM, hp, w1, w3, hsr, Bool.not_true, Bool.not_false]
     exact ⟨hM, rfl⟩
    | false =>
     simp only [zX, simprocAttr, -Int.reduceNatCast', zM, hp, w1, w3, hsr, Bool.not_true, Bool.not_false, Bool.false_eq_true]
     exact ⟨hM, rfl⟩
theorem refi_root_so (g b a : Nat) (m : Mst) (p : BPlace) (x1 x2 : Nat) (hx : p.caps[(m.p.re.n - 1).toNat]? = some ((x1 : Int), (x2 : Int))) (hn : 1 ≤ m.p.re.n) (hn' : m.p.re.n ≤ p.caps.length) (hc : p.caps.length ≤ 1000000000) (i : Nat)
  (hp : p.at_ = i) (ht : m.t.length ≤ 1000000) (hq : i + (x2 - x1) ≤ m.t.length) (h12 : x1 ≤ x2) (h2 : x2 ≤ m.t.length) (hs : m.own = m.t) :
  callWp prog 85 [.pp 0 g 0 0 b a, .d ((BRef.root).d b a), p.v b a] (m.objsT g b a (.so 2 m.ogen 0 m.t.length)) fun v s => v = (if sameR m.t x1 i (x2 - x1) = true then rsV b a { p with at_ := p.at_ + ((x2 : Int) - x1) } true else rsV b a .zero false) ∧ s = m.objsT g b a (.so 2 m.ogen 0 m.t.length) := by
 have w0 : IntKind.i64.wrap (m.p.re.n - 1) = m.p.re.n - 1 := w64 _ (by omega)
 have w1 : IntKind.i64.wrap ((x2 : Int) - x1) = x2 - x1 := w64 _ (by omega)
 have w2 : IntKind.i64.wrap ((m.t.length : Int) - i) = m.t.length - i := w64 _ (by omega)
 have w3 : IntKind.i64.wrap ((i : Int) + ((x2 : Int) - x1)) = i + ((x2 : Int) - x1) := w64 _ (by omega)
 have hn0 : 0 ≤ m.p.re.n - 1 := by omega
 have hn1 : m.p.re.n - 1 < (p.caps.length : Int) := by omega
 have hcap := hx
 have q1 : ¬ (x1 : Int) < 0 := by omega
 have q2 : ¬ (m.t.length : Int) - i < (x2 : Int) - x1 := by omega
 have l1 : (0 : Int) ≤ (x1 : Int) := by omega
 have l2 : (x1 : Int) ≤ (x2 : Int) := by omega
 have l3 : (x2 : Int) ≤ (m.t.length : Int) := by omega
 have l4 : (0 : Int) ≤ (i : Int) := by omega
 have l5 : (i : Int) ≤ (i : Int) + ((x2 : Int) - x1) := by omega
 have l6 : (i : Int) + ((x2 : Int) - x1) ≤ (m.t.length : Int) := by omega
 have e1 : ((x2 : Int) - x1).toNat = x2 - x1 := by omega
 have e2 : ((i : Int) + ((x2 : Int) - x1) - i).toNat = x2 - x1 := by omega
 have hM := mobjsT_ok m b a (.so 2 m.ogen 0 m.t.length) rfl
 have hsm := same_take (t := m.t) (a := x1) (i := i) (n := x2 - x1) (by omega) hq
 have hE := slEqual_ok ((m.t.drop x1).take (x2 - x1)) ((m.t.drop i).take (x2 - x1)) (by simp; omega)
 rw [hsm] at hE
 unfold Mst.objsT
 refine fn_ok func85 rfl ntmps85 results85 rfl 3 999 (by simp) (by simp) ?_
 simp only [zX, simprocAttr, -Int.reduceNatCast', zM, BRef.d]
 refine draw_first Cln0.reserve ?_
 refine draw_c mix [] [(0,[3],[]),(1,[3],[]),(3,[0],[]),(4,[0],[]),(5,[0],[]),(9,[5],[5]),(10,[5],[5])] (by rfl) ?_
 simp only [zX, simprocAttr, -Int.reduceNatCast', zM, Re.cells_eq, hole, w0, w1, hp, hn0, hn1, hcap, capD, spanC]
 refine ⟨by decide, by decide, ?_⟩
 refine draw_c mix [] [(0,[5],[]),(1,[5],[]),(6,[0],[]),(7,[0],[]),(8,[0],[]),(9,[2],[]),(10,[3],[]),(11,[3],[])] (by rfl) ?_
 simp only [zX, simprocAttr, -Int.reduceNatCast', zM, hp, w1, w2, q1, q2, gt_iff_lt]
 refine ⟨by decide, ?_⟩
 have hle : m.t.length ≤ m.own.length := by rw [hs]; exact Nat.le_refl _
 have hmin : min m.t.length m.own.length = m.t.length := by omega
 refine draw_c mix [20] [(1,[0],[]),(2,[0],[]),(3,[0],[]),(4,[5],[]),(5,[5],[]),(6,[5],[]),(7,[5],[]),(8,[2],[]),(10,[0],[]),(11,[0],[]),(12,[0],[]),(13,[3],[]),(14,[3],[]),(15,[3],[]),(16,[3],[]),(19,[2],[])] (by rfl) ?_
 simp only [bV] at hE
 rw [← hs, show sameR m.own = sameR m.t by rw [hs]] at hE
 rcases Nat.lt_or_ge x1 x2 with l7 | l7
 ·have l8 : (x1 : Int) < (x2 : Int) := by omega
  have l9 : (i : Int) < (i : Int) + ((x2 : Int) - x1) := by omega
  simp only [zX, simprocAttr, -Int.reduceNatCast', zM, hle, hmin, hp, w1, w3, l1, l2, l3, l4, l5, l6, l8, l9, List.length_map, List.length_take, Nat.le_refl, e1, e2, Int.toNat_natCast, Nat.zero_add, or_true, Int.le_refl]
  refine ⟨by decide, by decide, callD_of (call_lend [2] hE (lend_go (lend_so (own := m.own) rfl (show x1 + (x2 - x1) ≤ m.own.length by omega)) (lend_so (own := m.own) rfl (show i + (x2 - x1) ≤ m.own.length by omega))) rfl ⟨rfl, rfl⟩) ?_⟩
  cases hsr : sameR m.t x1 i (x2 - x1) with
  | true =>
   simp only [zX, simprocAttr, -Int.reduceNatCast', zM, hp, w1, w3, hsr, Bool.not_true, Bool.not_false]
   exact ⟨hM, rfl⟩
  | false =>
   simp only [zX, simprocAttr, -Int.reduceNatCast', zM, hp, w1, w3, hsr, Bool.not_true, Bool.not_false, Bool.false_eq_true]
   exact ⟨hM, rfl⟩
 ·have l8 : ¬ (x1 : Int) < (x2 : Int) := by omega
  have l9 : ¬ (i : Int) < (i : Int) + ((x2 : Int) - x1) := by omega
  have hz : x2 - x1 = 0 := by omega
  by_cases z1 : (x1 : Int) = 0
  ·have y1 := eq_true z1
   by_cases z2 : (i : Int) = 0
   ·have y2 := eq_true z2
    simp only [zX, simprocAttr, -Int.reduceNatCast', zM, hle, hmin, hp, w1, w3, l1, l2, l3, l4, l5, l6, l8, l9, y1, y2, true_or, or_false, List.length_map, List.length_take, Nat.le_refl, e1, e2, Int.toNat_natCast, Nat.zero_add, or_true, Int.le_refl]
    refine ⟨by decide, by decide, callD_of (call_lend [2] hE (lend_go (lend_so (own := m.own) rfl (show x1 + (x2 - x1) ≤ m.own.length by omega)) (lend_so (own := m.own) rfl (show i + (x2 - x1) ≤ m.own.length by omega))) rfl ⟨rfl, rfl⟩) ?_⟩
    cases hsr : sameR m.t x1 i (x2 - x1) with
    | true =>
     simp only [zX, simprocAttr, -Int.reduceNatCast', zM, hp, w1, w3, hsr, Bool.not_true, Bool.not_false]
     exact ⟨hM, rfl⟩
    | false =>
     simp only [zX, simprocAttr, -Int.reduceNatCast', zM, hp, w1, w3, hsr, Bool.not_true, Bool.not_false, Bool.false_eq_true]
     exact ⟨hM, rfl⟩
   ·have y2 := eq_false z2
    simp only [zX, simprocAttr, -Int.reduceNatCast', zM, hle, hmin, hp, w1, w3, l1, l2, l3, l4, l5, l6, l8, l9, y1, y2, true_or, or_false, List.length_map, List.length_take, Nat.le_refl, e1, e2, Int.toNat_natCast, Nat.zero_add, or_true, Int.le_refl]
    refine ⟨by decide, by decide, callD_of (call_lend [2] hE (lend_go (lend_so (own := m.own) rfl (show x1 + (x2 - x1) ≤ m.own.length by omega)) (lend_nil hz)) rfl ⟨rfl, rfl⟩) ?_⟩
    cases hsr : sameR m.t x1 i (x2 - x1) with
    | true =>
     simp only [zX, simprocAttr, -Int.reduceNatCast', zM, hp, w1, w3, hsr, Bool.not_true, Bool.not_false]
     exact ⟨hM, rfl⟩
    | false =>
     simp only [zX, simprocAttr, -Int.reduceNatCast', zM, hp, w1, w3, hsr, Bool.not_true, Bool.not_false, Bool.false_eq_true]
     exact ⟨hM, rfl⟩
  ·have y1 := eq_false z1
   by_cases z2 : (i : Int) = 0
   ·have y2 := eq_true z2
    simp only [zX, simprocAttr, -Int.reduceNatCast', zM, hle, hmin, hp, w1, w3, l1, l2, l3, l4, l5, l6, l8, l9, y1, y2, true_or, or_false, List.length_map, List.length_take, Nat.le_refl, e1, e2, Int.toNat_natCast, Nat.zero_add, or_true, Int.le_refl]
    refine ⟨by decide, by decide, callD_of (call_lend [2] hE (lend_go (lend_nil hz) (lend_so (own := m.own) rfl (show i + (x2 - x1) ≤ m.own.length by omega))) rfl ⟨rfl, rfl⟩) ?_⟩
    cases hsr : sameR m.t x1 i (x2 - x1) with
    | true =>
     simp only [zX, simprocAttr, -Int.reduceNatCast', zM, hp, w1, w3, hsr, Bool.not_true, Bool.not_false]
     exact ⟨hM, rfl⟩
    | false =>
     simp only [zX, simprocAttr, -Int.reduceNatCast', zM, hp, w1, w3, hsr, Bool.not_true, Bool.not_false, Bool.false_eq_true]
     exact ⟨hM, rfl⟩
   ·have y2 := eq_false z2
    simp only [zX, simprocAttr, -Int.reduceNatCast', zM, hle, hmin, hp, w1, w3, l1, l2, l3, l4, l5, l6, l8, l9, y1, y2, true_or, or_false, List.length_map, List.length_take, Nat.le_refl, e1, e2, Int.toNat_natCast, Nat.zero_add, or_true, Int.le_refl]
    refine ⟨by decide, by decide, callD_of (call_lend [2] hE (lend_go (lend_nil hz) (lend_nil hz)) rfl ⟨rfl, rfl⟩) ?_⟩
    cases hsr : sameR m.t x1 i (x2 - x1) with
    | true =>
     simp only [zX, simprocAttr, -Int.reduceNatCast', zM, hp, w1, w3, hsr, Bool.not_true, Bool.not_false]
     exact ⟨hM, rfl⟩
    | false =>
     simp only [zX, simprocAttr, -Int.reduceNatCast', zM, hp, w1, w3, hsr, Bool.not_true, Bool.not_false, Bool.false_eq_true]
     exact ⟨hM, rfl⟩
theorem getD_some {α : Type} {l : List α} {i : Nat} {x d : α} (h : l[i]? = some x) : l.getD i d = x := by
 rw [List.getD, h]; rfl
theorem mref_ok (g b a : Nat) (m : Mst) (r : BRef) (re : Re) (p : BPlace) (hr : m.lit r = some re) {x : BPlace × Bool} (hx : refR m.t re p = some x) (hc : p.caps.length ≤ 1000000000) (hp : 0 ≤ p.at_) (hp' : p.at_ ≤ m.t.length) (ht : m.t.length ≤ 1000000) (hs : m.same) :
  callWp prog 85 [.pp 0 g 0 0 b a, .d (r.d b a), p.v b a] (m.objs g b a) fun v s => v = rsV b a x.1 x.2 ∧ s = m.objs g b a := by
 unfold refR at hx
 split at hx
 ·cases hx
 rename_i hn
 obtain ⟨y, hy⟩ : ∃ y, p.caps[(re.n - 1).toNat]? = some y := ⟨_, List.getElem?_eq_getElem (by omega)⟩
 rw [getD_some hy] at hx
 simp only at hx
 split at hx
 ·cases hx
 rename_i hb
 split at hx
 ·rename_i hq
  cases hx
  cases r with
  | nil => cases hr
  | root =>
   cases hr
   cases hT : m.ownText with
   | true => rw [objs_so hT]; exact refo_root_so g b a m p y hy (by omega) (by omega) hc (by omega) hp hp' ht hq
   | false => rw [objs_d hT]; exact refo_root_d g b a m p y hy (by omega) (by omega) hc (by omega) hp hp' ht hq
  | el re' =>
   cases hr
   cases hT : m.ownText with
   | true => rw [objs_so hT]; exact refo_el_so g b a m re p y hy (by omega) (by omega) hc (by omega) hp hp' ht hq
   | false => rw [objs_d hT]; exact refo_el_d g b a m re p y hy (by omega) (by omega) hc (by omega) hp hp' ht hq
 rename_i hq
 split at hx
 ·cases hx
 rename_i hq2
 obtain ⟨y1, y2⟩ := y
 simp only at hx hb hq hq2
 obtain ⟨x1, rfl⟩ := Int.eq_ofNat_of_zero_le (show 0 ≤ y1 by omega)
 obtain ⟨x2, rfl⟩ := Int.eq_ofNat_of_zero_le (show 0 ≤ y2 by omega)
 obtain ⟨i, hi⟩ := Int.eq_ofNat_of_zero_le hp
 rw [show ((x2 : Int) - (x1 : Int)).toNat = x2 - x1 by omega, hi] at hx
 have fin : ∀ T : V, (callWp prog 85 [.pp 0 g 0 0 b a, .d (r.d b a), p.v b a] (m.objsT g b a T) fun v s => v = (if sameR m.t x1 i (x2 - x1) = true then rsV b a { p with at_ := p.at_ + ((x2 : Int) - x1) } true else rsV b a .zero false) ∧ s = m.objsT g b a T) →
   callWp prog 85 [.pp 0 g 0 0 b a, .d (r.d b a), p.v b a] (m.objsT g b a T) fun v s => v = rsV b a x.1 x.2 ∧ s = m.objsT g b a T := by
  intro T h
  refine callWp_mono h (fun v s hv => ?_)
  obtain ⟨rfl, rfl⟩ := hv
  refine ⟨?_, rfl⟩
  split at hx
  ·rename_i hh; rw [if_pos hh]; cases hx; rw [hi]
  ·rename_i hh; rw [if_neg hh]; cases hx; rfl
 cases r with
 | nil => cases hr
 | root =>
  cases hr
  cases hT : m.ownText with
  | true => rw [objs_so hT]; exact fin _ (refi_root_so g b a m p x1 x2 hy (by omega) (by omega) hc i hi ht (by omega) (by omega) (by omega) (hs hT))
  | false => rw [objs_d hT]; exact fin _ (refi_root_d g b a m p x1 x2 hy (by omega) (by omega) hc i hi ht (by omega) (by omega) (by omega))
 | el re' =>
  cases hr
  cases hT : m.ownText with
  | true => rw [objs_so hT]; exact fin _ (refi_el_so g b a m re p x1 x2 hy (by omega) (by omega) hc i hi ht (by omega) (by omega) (by omega) (hs hT))
  | false => rw [objs_d hT]; exact fin _ (refi_el_d g b a m re p x1 x2 hy (by omega) (by omega) hc i hi ht (by omega) (by omega) (by omega))
end Go.Proofs.Ytilapneoohcplaa
