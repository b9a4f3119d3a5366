/- A part of the proof (G38 G39). -/
import Derived.Test.YtilapneoohcplaaBO3
import Derived.Test.YtilapneoohcplaaBO18
import Derived.Test.YtilapneoohcplaaBO33
set_option linter.unusedSimpArgs false
set_option linter.unusedVariables false
set_option maxRecDepth 100000
set_option maxHeartbeats 80000000
namespace Go.Proofs.Ytilapneoohcplaa
open Go.VL Go.Proofs.Try
theorem capV_len (c : CapsL) : ∀ e ∈ (c.map spanC).map (fun x => x.map V.d), e.length = 2 := by
 intro e he
 obtain ⟨y, hy, rfl⟩ := List.mem_map.1 he
 obtain ⟨z, _, rfl⟩ := List.mem_map.1 hy
 rfl
theorem cloneCaps_ok (l : CapsL) (hl : l.length ≤ 1000000000) : PureOK prog 49 [.d (capD l)] (.d (capD l)) := by
 unfold capD
 refine fn_ok func49 rfl ntmps49 results49 rfl 0 5 (by simp) (by simp) ?_
 cases l with
 | nil =>
  simp only [zX, simprocAttr,]
  first | rfl | exact ⟨⟨_, rfl⟩, rfl⟩ | exact ⟨⟨_, rfl⟩, by simp, by simp⟩
 | cons x l =>
  simp only [zX, simprocAttr,]
  have he : (List.map V.d (spanC x) :: List.map (fun x => List.map V.d x) (List.map spanC l)) = ((x :: l).map spanC).map (fun c => c.map V.d) := rfl
  simp only [List.length_cons] at hl
  refine ⟨⟨_, rfl⟩, by rw [he]; exact capV_len (x :: l), ⟨by omega, by simp⟩, ?_⟩
  rw [he, frz_data 7 0 _ _ (0 + (l.length + 1)) (by simp), if_pos (by omega)]
  rfl
def checkR (runes : Bool) (t : List Int) (at_ fuel : Int) : Int :=
 if 65536 < t.length then 4 else if t.all (symB runes) = false then 1 else if fuel < 0 ∨ 1099511627776 < fuel then 1 else if at_ < 0 ∨ (t.length : Int) < at_ then 5 else 0
theorem deepest_ok' (g b a : Nat) (m : Mst) (T : V) (hT : refsV 3 T = true) : callWp prog 20 [.pp 0 g 0 0 b a] (m.objsT g b a T) fun v s => v = i64 m.deepest ∧ s = m.objsT g b a T := by
 have hM := mobjsT_ok m b a T hT
 unfold Mst.objsT
 refine fn_ok func20 rfl ntmps20 results20 rfl 3 5 (by simp) (by simp) ?_
 simp only [zX, simprocAttr, zM, rsV]
 first | exact ⟨hM, rfl⟩ | exact hM
def Mst.res (m : Mst) (p : BPlace) (found : Bool) : List V :=
 if m.spent = true then [i64 0, i64 0, .d (.sl []), bV false, i64 0, i64 11]
 else if found = true then [i64 m.start, i64 p.at_, .d (capD p.caps), bV true, i64 m.steps, i64 0]
 else [i64 0, i64 0, .d (.sl []), bV false, i64 m.steps, i64 0]
def Mst.done (m : Mst) (found : Bool) : Mst := { m with ready := found && !m.spent }
theorem report_ok (g b a : Nat) (m : Mst) (p : BPlace) (found : Bool) (hc : p.caps.length ≤ 1000000000) : callWp prog 34 [.pp 0 g 0 0 b a, p.v b a, bV found] (m.objs g b a) fun v s => v = .ag (m.res p found) ∧ s = (m.done found).objs g b a := by
 have hcc := cloneCaps_ok p.caps hc
 have hM := mobjs_ok (m.done found) b a
 have hT : (m.done found).text = m.text := rfl
 unfold Mst.objs Mst.objsT
 rw [hT]
 cases hs : m.spent with
 | true =>
  have hr : m.res p found = [i64 0, i64 0, .d (.sl []), bV false, i64 0, i64 11] := if_pos hs
  rw [hr]
  cases found with
  | true =>
   refine fn_ok func34 rfl ntmps34 results34 rfl 3 215 (by simp) (by simp) ?_
   simp only [zX, simprocAttr, zM, rsV, hs, Bool.not_true]
   exact ⟨hM, by simp only [Mst.done, hs, Bool.not_true, Bool.not_false, Bool.and_false, Bool.and_true, Bool.false_and, Bool.true_and]⟩
  | false =>
   refine fn_ok func34 rfl ntmps34 results34 rfl 3 215 (by simp) (by simp) ?_
   simp only [zX, simprocAttr, zM, rsV, hs, Bool.not_true]
   exact ⟨hM, by simp only [Mst.done, hs, Bool.not_true, Bool.not_false, Bool.and_false, Bool.and_true, Bool.false_and, Bool.true_and]⟩
 | false =>
  have hr : m.res p found = if found = true then [i64 m.start, i64 p.at_, .d (capD p.caps), bV true, i64 m.steps, i64 0] else [i64 0, i64 0, .d (.sl []), bV false, i64 m.steps, i64 0] := if_neg (by rw [hs]; exact Bool.false_ne_true)
  rw [hr]
  cases found with
  | true =>
   rw [if_pos rfl]
   refine fn_ok func34 rfl ntmps34 results34 rfl 3 215 (by simp) (by simp) ?_
   simp only [zX, simprocAttr, zM, rsV, hs, Bool.not_false]
   refine draw_c mix [] [(1,[0],[]),(2,[0],[]),(3,[0],[]),(4,[3],[]),(5,[3],[]),(6,[3],[]),(7,[3],[]),(10,[5],[]),(11,[5],[5])] (by rfl) ?_
   simp only [zX, simprocAttr, zM, rsV]
   refine callC_pure hcc rfl rfl ?_
   simp only [zX, simprocAttr, zM, rsV]
   exact ⟨hM, by simp only [Mst.done, hs, Bool.not_true, Bool.not_false, Bool.and_false, Bool.and_true, Bool.false_and, Bool.true_and]⟩
  | false =>
   rw [if_neg Bool.false_ne_true]
   refine fn_ok func34 rfl ntmps34 results34 rfl 3 215 (by simp) (by simp) ?_
   simp only [zX, simprocAttr, zM, rsV, hs, Bool.not_false]
   exact ⟨hM, by simp only [Mst.done, hs, Bool.not_true, Bool.not_false, Bool.and_false, Bool.and_true, Bool.false_and, Bool.true_and]⟩
def Mst.kept (m : Mst) : Mst := if m.ready = true ∧ 0 < m.top then { m with ownText := true, own := m.t, ogen := m.ogen + 1 } else { m with t := [], ownText := false }
def Mst.keptT (m : Mst) : V := if m.ready = true ∧ 0 < m.top then .so 2 (m.ogen + 1) 0 m.t.length else .fu []
theorem keep_ok (g b a : Nat) (m : Mst) (ht : m.t.length ≤ 1000000) (hT : m.ownText = false) : callWp prog 37 [.pp 0 g 0 0 b a] (m.objs g b a) fun v s => v = .tu [] ∧ s = m.kept.objsT g b a m.keptT := by
 rw [objs_d hT]
 by_cases c : m.ready = true ∧ 0 < m.top
 ·have e1 : m.kept = { m with ownText := true, own := m.t, ogen := m.ogen + 1 } := if_pos c
  have e2 : m.keptT = .so 2 (m.ogen + 1) 0 m.t.length := if_pos c
  rw [e1, e2]
  have hM := mobjsT_ok { m with ownText := true, own := m.t, ogen := m.ogen + 1 } b a (.so 2 (m.ogen + 1) 0 m.t.length) rfl
  have c2 : (0 : Int) < (m.top : Int) := by omega
  unfold Mst.objsT
  refine fn_ok func37 rfl ntmps37 results37 rfl 3 1 (by simp) (by simp) ?_
  simp only [zX, simprocAttr, zM, rsV, intsD, c.1, c2, gt_iff_lt]
  refine draw_c mix [] [(2,[0],[]),(3,[0],[]),(4,[0],[]),(5,[2],[]),(7,[0],[]),(8,[0],[]),(9,[0],[]),(10,[2],[2]),(11,[0],[]),(12,[0],[]),(13,[0],[0])] (by rfl) ?_
  simp only [zX, simprocAttr, zM, rsV, intsD, List.length_take, List.length_map, Nat.min_self, Nat.le_refl, Int.sub_self, Int.toNat_zero, Nat.zero_add, plainV]
  have hmm : (m.t.map fun x => [D.sc (Value.int IntKind.i64 x)]).map (fun x => x.map V.d) = m.t.map fun x => [V.d (D.sc (Value.int IntKind.i64 x))] := by rw [List.map_map]; rfl
  rw [hmm]
  exact ⟨fun e he => by obtain ⟨x, _, rfl⟩ := List.mem_map.1 he; rfl, ⟨by omega, by omega⟩, hM, rfl⟩
 ·have e1 : m.kept = { m with t := [], ownText := false } := if_neg c
  have e2 : m.keptT = .fu [] := if_neg c
  rw [e1, e2]
  have hM := mobjsT_ok { m with t := [], ownText := false } b a (.fu []) rfl
  cases hr : m.ready with
  | false =>
   unfold Mst.objsT
   refine fn_ok func37 rfl ntmps37 results37 rfl 3 1 (by simp) (by simp) ?_
   simp only [zX, simprocAttr, zM, rsV, hr]
   first | exact ⟨hM, rfl⟩ | exact hM
  | true =>
   have c2 : ¬ (0 : Int) < (m.top : Int) := fun h => c ⟨hr, by omega⟩
   unfold Mst.objsT
   refine fn_ok func37 rfl ntmps37 results37 rfl 3 1 (by simp) (by simp) ?_
   simp only [zX, simprocAttr, zM, rsV, hr, c2, gt_iff_lt]
   first | exact ⟨hM, rfl⟩ | exact hM
theorem u64_wrap (n : Int) : IntKind.u64.wrap n = n % 18446744073709551616 := by
 simp [IntKind.wrap, IntKind.bits, IntKind.signed]
theorem u64_sym (x top : Int) (hx : I64 x) (h0 : 0 ≤ top) (h1 : top ≤ 1114111) : (IntKind.u64.wrap top < IntKind.u64.wrap x) ↔ ¬ (0 ≤ x ∧ x ≤ top) := by
 unfold I64 at hx
 rw [u64_wrap, u64_wrap]
 omega
theorem topR_range (runes : Bool) : 0 ≤ topR runes ∧ topR runes ≤ 1114111 := by
 unfold topR; split <;> omega
theorem check_ok (g b a : Nat) (m : Mst) (T : V) (hT : refsV 3 T = true) (t : List Int) (at_ fuel : Int) (ht : t.length ≤ 1000000000) (hI : ∀ x ∈ t, I64 x) :
  callWp prog 33 [.pp 0 g 0 0 b a, .d (intsD t), i64 at_, i64 fuel] (m.objsT g b a T) fun v s => v = i64 (checkR m.p.runes t at_ fuel) ∧ s = m.objsT g b a T := by
 have hM := mobjsT_ok m b a T hT
 have htp := topR_range m.p.runes
 unfold checkR
 by_cases c1 : 65536 < t.length
 ·rw [if_pos c1]
  have c1' : (65536 : Int) < (t.length : Int) := by omega
  cases hr : m.p.runes with
  | true =>
   unfold Mst.objsT
   refine fn_ok func33 rfl ntmps33 results33 rfl 3 7342863 (by simp) (by simp) ?_
   simp only [zX, simprocAttr, zM, rsV, hr, intsD, c1', gt_iff_lt]
   first | exact ⟨hM, rfl⟩ | exact hM
  | false =>
   unfold Mst.objsT
   refine fn_ok func33 rfl ntmps33 results33 rfl 3 7342863 (by simp) (by simp) ?_
   simp only [zX, simprocAttr, zM, rsV, hr, intsD, c1', gt_iff_lt]
   first | exact ⟨hM, rfl⟩ | exact hM
 ·rw [if_neg c1]
  have c1' : ¬ (65536 : Int) < (t.length : Int) := by omega
  cases hr : m.p.runes with
  | true =>
   unfold Mst.objsT
   refine fn_ok func33 rfl ntmps33 results33 rfl 3 7342863 (by simp) (by simp) ?_
   simp only [zX, simprocAttr, zM, rsV, hr, intsD, c1', gt_iff_lt]
   refine loop_rule (fun n e s => ∃ i : Nat, n = t.length - i ∧ i ≤ t.length ∧ e 1 = .d (intsD t) ∧ e 2 = i64 at_ ∧ e 3 = i64 fuel ∧ e 9 = i64 (topR true) ∧ e 20 = .d (intsD t) ∧ e 21 = i64 t.length ∧ e 22 = i64 i ∧ s = m.objsT g b a T ∧ (t.take i).all (symB true) = true)
    ⟨_, _, _, Cln.refl, 0, rfl, by omega, rfl, rfl, rfl, rfl, rfl, rfl, rfl, by unfold Mst.objsT; rw [hr]; rfl, by simp⟩ ?_
   rintro n e s ⟨i, rfl, hi, h1, h2, h3, h9, h20, h21, h22, rfl, hall⟩
   rcases Nat.lt_or_ge i t.length with hlt | hge
   ·obtain ⟨x, hx⟩ : ∃ x, t[i]? = some x := ⟨_, List.getElem?_eq_getElem hlt⟩
    have hlt' : (i : Int) < t.length := by omega
    have hs := u64_sym x (topR true) (hI x (List.mem_of_getElem? hx)) (topR_range true).1 (topR_range true).2
    by_cases d1 : 0 ≤ x ∧ x ≤ topR true
    ·have hs' : ¬ IntKind.u64.wrap (topR true) < IntKind.u64.wrap x := fun h => hs.1 h d1
     simp only [zX, simprocAttr, zM, rsV, h1, h2, h3, h9, h20, h21, h22, hlt', hlt, intsD, hx, gt_iff_lt, hs']
     refine ⟨t.length - (i + 1), _, _, by omega, Cln.refl, i + 1, rfl, hlt, ?_, ?_, ?_, ?_, ?_, ?_, ?_, rfl, ?_⟩ <;> (try simp only [zU, Nat.reduceBEq, Nat.reduceShiftRight, Nat.reduceMod, Nat.reduceEqDiff, reduceIte])
     ·exact h1
     ·exact h2
     ·exact h3
     ·exact h9
     ·exact h20
     ·exact h21
     ·rw [w64 _ (by omega)]; rfl
     ·exact all_take_succ hx hall (by rw [symB, decide_eq_true d1.1, decide_eq_true d1.2]; rfl)
    ·have hs' : IntKind.u64.wrap (topR true) < IntKind.u64.wrap x := hs.2 d1
     have hf : t.all (symB true) = false := all_false hx (by
      unfold symB
      rw [Bool.eq_false_iff]; intro h
      simp only [Bool.and_eq_true, decide_eq_true_eq] at h
      exact d1 h)
     rw [if_pos hf]
     unfold Mst.objsT
     simp only [zX, simprocAttr, zM, rsV, hr, h1, h2, h3, h9, h20, h21, h22, hlt', hlt, intsD, hx, gt_iff_lt, hs']
     first | exact ⟨hM, rfl⟩ | exact hM
   ·have hie : i = t.length := by omega
    subst hie
    have hlt' : ¬ (t.length : Int) < t.length := by omega
    rw [List.take_length] at hall
    rw [hall, if_neg (by decide)]
    unfold Mst.objsT
    by_cases d1 : fuel < 0
    ·rw [if_pos (.inl d1)]
     simp only [zX, simprocAttr, zM, rsV, hr, h1, h2, h3, h9, h20, h21, h22, hlt', intsD, gt_iff_lt, d1]
     first | exact ⟨hM, rfl⟩ | exact hM
    ·by_cases d2 : 1099511627776 < fuel
     ·rw [if_pos (.inr d2)]
      simp only [zX, simprocAttr, zM, rsV, hr, h1, h2, h3, h9, h20, h21, h22, hlt', intsD, gt_iff_lt, d1, d2]
      first | exact ⟨hM, rfl⟩ | exact hM
     ·rw [if_neg (by omega)]
      by_cases d3 : at_ < 0
      ·rw [if_pos (.inl d3)]
       simp only [zX, simprocAttr, zM, rsV, hr, h1, h2, h3, h9, h20, h21, h22, hlt', intsD, gt_iff_lt, d1, d2, d3]
       first | exact ⟨hM, rfl⟩ | exact hM
      ·by_cases d4 : (t.length : Int) < at_
       ·rw [if_pos (.inr d4)]
        simp only [zX, simprocAttr, zM, rsV, hr, h1, h2, h3, h9, h20, h21, h22, hlt', intsD, gt_iff_lt, d1, d2, d3, d4]
        first | exact ⟨hM, rfl⟩ | exact hM
       ·rw [if_neg (by omega)]
        simp only [zX, simprocAttr, zM, rsV, hr, h1, h2, h3, h9, h20, h21, h22, hlt', intsD, gt_iff_lt, d1, d2, d3, d4]
        first | exact ⟨hM, rfl⟩ | exact hM
  | false =>
   unfold Mst.objsT
   refine fn_ok func33 rfl ntmps33 results33 rfl 3 7342863 (by simp) (by simp) ?_
   simp only [zX, simprocAttr, zM, rsV, hr, intsD, c1', gt_iff_lt]
   refine loop_rule (fun n e s => ∃ i : Nat, n = t.length - i ∧ i ≤ t.length ∧ e 1 = .d (intsD t) ∧ e 2 = i64 at_ ∧ e 3 = i64 fuel ∧ e 9 = i64 (topR false) ∧ e 20 = .d (intsD t) ∧ e 21 = i64 t.length ∧ e 22 = i64 i ∧ s = m.objsT g b a T ∧ (t.take i).all (symB false) = true)
    ⟨_, _, _, Cln.refl, 0, rfl, by omega, rfl, rfl, rfl, rfl, rfl, rfl, rfl, by unfold Mst.objsT; rw [hr]; rfl, by simp⟩ ?_
   rintro n e s ⟨i, rfl, hi, h1, h2, h3, h9, h20, h21, h22, rfl, hall⟩
   rcases Nat.lt_or_ge i t.length with hlt | hge
   ·obtain ⟨x, hx⟩ : ∃ x, t[i]? = some x := ⟨_, List.getElem?_eq_getElem hlt⟩
    have hlt' : (i : Int) < t.length := by omega
    have hs := u64_sym x (topR false) (hI x (List.mem_of_getElem? hx)) (topR_range false).1 (topR_range false).2
    by_cases d1 : 0 ≤ x ∧ x ≤ topR false
    ·have hs' : ¬ IntKind.u64.wrap (topR false) < IntKind.u64.wrap x := fun h => hs.1 h d1
     simp only [zX, simprocAttr, zM, rsV, h1, h2, h3, h9, h20, h21, h22, hlt', hlt, intsD, hx, gt_iff_lt, hs']
     refine ⟨t.length - (i + 1), _, _, by omega, Cln.refl, i + 1, rfl, hlt, ?_, ?_, ?_, ?_, ?_, ?_, ?_, rfl, ?_⟩ <;> (try simp only [zU, Nat.reduceBEq, Nat.reduceShiftRight, Nat.reduceMod, Nat.reduceEqDiff, reduceIte])
     ·exact h1
     ·exact h2
     ·exact h3
     ·exact h9
     ·exact h20
     ·exact h21
     ·rw [w64 _ (by omega)]; rfl
     ·exact all_take_succ hx hall (by rw [symB, decide_eq_true d1.1, decide_eq_true d1.2]; rfl)
    ·have hs' : IntKind.u64.wrap (topR false) < IntKind.u64.wrap x := hs.2 d1
     have hf : t.all (symB false) = false := all_false hx (by
      unfold symB
      rw [Bool.eq_false_iff]; intro h
      simp only [Bool.and_eq_true, decide_eq_true_eq] at h
      exact d1 h)
     rw [if_pos hf]
     unfold Mst.objsT
     simp only [zX, simprocAttr, zM, rsV, hr, h1, h2, h3, h9, h20, h21, h22, hlt', hlt, intsD, hx, gt_iff_lt, hs']
     first | exact ⟨hM, rfl⟩ | exact hM
   ·have hie : i = t.length := by omega
    subst hie
    have hlt' : ¬ (t.length : Int) < t.length := by omega
    rw [List.take_length] at hall
    rw [hall, if_neg (by decide)]
    unfold Mst.objsT
    by_cases d1 : fuel < 0
    ·rw [if_pos (.inl d1)]
     simp only [zX, simprocAttr, zM, rsV, hr, h1, h2, h3, h9, h20, h21, h22, hlt', intsD, gt_iff_lt, d1]
     first | exact ⟨hM, rfl⟩ | exact hM
    ·by_cases d2 : 1099511627776 < fuel
     ·rw [if_pos (.inr d2)]
      simp only [zX, simprocAttr, zM, rsV, hr, h1, h2, h3, h9, h20, h21, h22, hlt', intsD, gt_iff_lt, d1, d2]
      first | exact ⟨hM, rfl⟩ | exact hM
     ·rw [if_neg (by omega)]
      by_cases d3 : at_ < 0
      ·rw [if_pos (.inl d3)]
       simp only [zX, simprocAttr, zM, rsV, hr, h1, h2, h3, h9, h20, h21, h22, hlt', intsD, gt_iff_lt, d1, d2, d3]
       first | exact ⟨hM, rfl⟩ | exact hM
      ·by_cases d4 : (t.length : Int) < at_
       ·rw [if_pos (.inr d4)]
        simp only [zX, simprocAttr, zM, rsV, hr, h1, h2, h3, h9, h20, h21, h22, hlt', intsD, gt_iff_lt, d1, d2, d3, d4]
        first | exact ⟨hM, rfl⟩ | exact hM
       ·rw [if_neg (by omega)]
        simp only [zX, simprocAttr, zM, rsV, hr, h1, h2, h3, h9, h20, h21, h22, hlt', intsD, gt_iff_lt, d1, d2, d3, d4]
        first | exact ⟨hM, rfl⟩ | exact hM
end Go.Proofs.Ytilapneoohcplaa
