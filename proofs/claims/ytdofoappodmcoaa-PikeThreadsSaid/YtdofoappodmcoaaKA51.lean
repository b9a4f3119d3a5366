/- A part of the proof (K53 K54). -/
import Derived.Test.YtdofoappodmcoaaKA41
set_option linter.unusedSimpArgs false
set_option linter.unusedVariables false
set_option maxRecDepth 100000
set_option maxHeartbeats 80000000
namespace Go.Proofs.Ytdofoappodmcoaa
open Go.VL Go.Proofs.Try
def thrX (g : Prg) (t : List Int) (at_ en : Int) : List Int × Int :=
 if prgE g ≠ 0 then ([], prgE g) else if 65536 < t.length then ([], 4) else if at_ < 0 ∨ en < at_ ∨ (t.length : Int) < en then ([], 5) else (thr0 g t at_ en, 0)
theorem thrX_E (g : Prg) (t : List Int) (at_ en : Int) : thrE g t at_ en = thrX g t at_ en := by
 unfold thrE thrX
 by_cases h0 : prgE g ≠ 0
 ·rw [if_pos h0, if_pos h0]
 rw [if_neg h0, if_neg h0]
 by_cases h1 : 65536 < t.length
 ·rw [if_pos h1, if_pos h1]
 rw [if_neg h1, if_neg h1]
 by_cases h2 : at_ < 0 ∨ en < at_ ∨ (t.length : Int) < en
 ·rw [if_pos h2, if_pos h2]
 rw [if_neg h2, if_neg h2, threads_law g (good_of (by simpa using h0)) t at_ en (by omega) (by omega) (by omega)]
theorem iter_th (g : Prg) (hg : g.good) (t : List Int) : ∀ (k : Nat) (l : RList), (∀ x ∈ l.st.ths, x.ok g) → l.st.ths.length ≤ 1000000 → (∀ x ∈ (iterR g t k l).st.ths, x.ok g) ∧ (iterR g t k l).st.ths.length ≤ 1000000
 | 0, _, h1, h2 => ⟨h1, h2⟩
 | k + 1, l, h1, _ => iter_th g hg t k _ (next_th g hg t l h1).1 (next_th g hg t l h1).2
theorem Threads11_ok (g : Prg) (hs : g.ins.length ≤ 1000000000) (hl : ∀ x ∈ g.ins, x.set.length ≤ 1000000000) (t : List Int) (ht : t.length ≤ 1000000000) (at_ en : Int) : PureOK prog 17 [prgV g, .d (intsD t), i64 at_, i64 en] (.tu [.d (intsD (thrX g t at_ en).1), i64 (thrX g t at_ en).2]) := by
 have hck := check11_ok g hs hl t ht 0
 by_cases hE : prgE g ≠ 0 ∨ 65536 < t.length
 ·have hr : thrX g t at_ en = ([], chkE g t 0) ∧ chkE g t 0 ≠ 0 := by
   unfold thrX chkE
   by_cases h0 : prgE g ≠ 0
   ·rw [if_pos h0, if_pos h0]; exact ⟨rfl, h0⟩
   ·rw [if_neg h0, if_neg h0, if_pos (hE.resolve_left h0), if_pos (hE.resolve_left h0)]; exact ⟨rfl, by decide⟩
  obtain ⟨hr, hne⟩ := hr
  rw [hr]
  generalize chkE g t 0 = E at *
  simp only [prgV_eq, i64, iD, bD] at hck
  refine fn_ok func17 rfl ntmps17 results17 rfl 0 57119 (by simp) (by simp) ?_
  simp only [zX, simprocAttr, i64, bV, iD, bD, prgV_eq]
  refine call_pure hck rfl rfl ?_
  simp only [zX, simprocAttr, i64, bV, iD, bD, prgV_eq, hne, ne_eq, not_false_eq_true, decide_true]
  all_goals first | exact ⟨rfl, rfl⟩ | exact ⟨rfl, trivial⟩ | rfl | trivial | (rw [reV_eq]; rfl)
 ·have hp0 : prgE g = 0 := by
   by_cases h : prgE g = 0
   ·exact h
   ·exact (hE (.inl h)).elim
  have ht2 : t.length ≤ 65536 := by omega
  have hg : g.good := good_of hp0
  have hc0 : chkE g t 0 = 0 := by
   unfold chkE; rw [if_neg (fun h => h hp0), if_neg (by omega), if_neg (by omega)]
  rw [hc0] at hck
  have hr : thrX g t at_ en = if at_ < 0 ∨ en < at_ ∨ (t.length : Int) < en then ([], 5) else (thr0 g t at_ en, 0) := by
   unfold thrX; rw [if_neg (fun h => h hp0), if_neg (by omega)]
  simp only [prgV_eq, i64, iD, bD] at hck
  refine fn_ok func17 rfl ntmps17 results17 rfl 0 57119 (by simp) (by simp) ?_
  simp only [zX, simprocAttr, i64, bV, iD, bD, prgV_eq]
  refine call_pure hck rfl rfl ?_
  by_cases a0 : at_ < 0
  ·rw [hr, if_pos (.inl a0)]
   simp only [zX, simprocAttr, i64, bV, iD, bD, prgV_eq, a0, ne_eq, not_true_eq_false, decide_false]
   all_goals first | exact ⟨rfl, rfl⟩ | exact ⟨rfl, trivial⟩ | rfl | trivial | (rw [reV_eq]; rfl)
  by_cases a1 : en < at_
  ·rw [hr, if_pos (.inr (.inl a1))]
   simp only [zX, simprocAttr, i64, bV, iD, bD, prgV_eq, a0, a1, ne_eq, not_true_eq_false, decide_false, gt_iff_lt]
   all_goals first | exact ⟨rfl, rfl⟩ | exact ⟨rfl, trivial⟩ | rfl | trivial | (rw [reV_eq]; rfl)
  by_cases a2 : (t.length : Int) < en
  ·rw [hr, if_pos (.inr (.inr a2))]
   simp only [zX, simprocAttr, i64, bV, iD, bD, prgV_eq, a0, a1, a2, intsD, List.length_map, ne_eq, not_true_eq_false, decide_false, gt_iff_lt]
   all_goals first | exact ⟨rfl, rfl⟩ | exact ⟨rfl, trivial⟩ | rfl | trivial | (rw [reV_eq]; rfl)
  rw [hr, if_neg (by omega)]
  have hbeg := begin_ok g hg t ht2 at_ (by omega) (by omega)
  obtain ⟨b1, b2⟩ := begin_th g hg t at_
  simp only [prgV_eq, i64, iD, bD, intsD] at hbeg
  simp only [zX, simprocAttr, i64, bV, iD, bD, prgV_eq, a0, a1, a2, intsD, List.length_map, ne_eq, not_true_eq_false, decide_false, gt_iff_lt]
  refine call_pure hbeg rfl rfl ?_
  simp only [zX, simprocAttr, i64, bV, iD, bD, prgV_eq, intsD]
  unfold thr0
  obtain ⟨R, hR⟩ : ∃ R, R = iterR g t (en - at_).toNat (beginR g t at_) := ⟨_, rfl⟩
  obtain ⟨r1, r2⟩ := iter_th g hg t (en - at_).toNat _ b1 b2
  rw [← hR] at r1 r2 ⊢
  refine loop_rule (fun n e s => ∃ l : RList, n = (en - l.at_).toNat ∧ at_ ≤ l.at_ ∧ l.at_ ≤ en ∧ (∀ x ∈ l.st.ths, x.ok g) ∧ l.st.ths.length ≤ 1000000 ∧ R = iterR g t (en - l.at_).toNat l ∧ e 1 = .d (intsD t) ∧ e 3 = i64 en ∧ e 4 = .rf 0 0 0 0 ∧ e 11 = .d (rlD l) ∧ s = [boxP g])
   ⟨_, _, _, Cln.refl, beginR g t at_, rfl, Int.le_refl _, by show at_ ≤ en; omega, b1, b2, hR, rfl, rfl, rfl, rfl, rfl⟩ ?_
  clear b1 b2 hbeg hR hck
  rintro n e s ⟨l, rfl, hl0, hl1, hth, hthn, hR, h1, h3, h4, h11, rfl⟩
  by_cases hlt : l.at_ < en
  ·have hnx := next_ok11 g hg t ht2 l hth hthn (by omega) (by omega)
   obtain ⟨x1, x2⟩ := next_th g hg t l hth
   have nat : (nextR g t l).at_ = l.at_ + 1 := rfl
   unfold rlD at hnx h11
   simp only [i64, bV, prgV_eq, iD, bD, intsD] at hnx
   simp only [zX, simprocAttr, i64, bV, iD, bD, prgV_eq, boxP, intsD, h1, h3, h4, h11, hlt]
   refine call_pure hnx rfl rfl ?_
   simp only [zX, simprocAttr, i64, bV, iD, bD, prgV_eq, boxP, intsD, h1, h3, h4, h11]
   refine ⟨(en - (l.at_ + 1)).toNat, _, _, by omega, Cln.refl, nextR g t l, by rw [nat], by rw [nat]; omega, by rw [nat]; omega, x1, x2, ?_, ?_, ?_, ?_, ?_, rfl⟩ <;> (try simp only [zU, Nat.reduceBEq, Nat.reduceShiftRight, Nat.reduceMod, Nat.reduceEqDiff, reduceIte])
   ·rw [nat, hR]
    obtain ⟨m, hm⟩ : ∃ m, (en - l.at_).toNat = m + 1 := ⟨(en - l.at_).toNat - 1, by omega⟩
    rw [hm, show (en - (l.at_ + 1)).toNat = m by omega]
    rfl
   ·exact h1
   ·exact h3
   ·exact h4
   ·rfl
  ·have hle : (en - l.at_).toNat = 0 := by omega
   rw [hle] at hR
   have hR : R = l := hR
   subst hR
   have hcut := cut_ok g hg R r1 r2
   have hcl := cutR_len g R.st.ths
   unfold rlD thsD at hcut
   unfold rlD thsD at h11
   simp only [i64, bV, prgV_eq, iD, bD] at hcut
   generalize (cutR g R.st.ths).1 = C at *
   generalize (cutR g R.st.ths).2 = cb at *
   simp only [zX, simprocAttr, i64, bV, iD, bD, prgV_eq, boxP, intsD, thsD, h1, h3, h4, h11, hlt]
   refine call_pure hcut rfl rfl ?_
   simp only [zX, simprocAttr, i64, bV, iD, bD, prgV_eq, boxP, intsD, thsD, h1, h3, h4, h11]
   refine loop_rule (fun n e s => ∃ i : Nat, n = C.length - i ∧ i ≤ C.length ∧ e 12 = .d (.sl (C.map RTh.cells)) ∧ e 14 = .so 1 i 0 i ∧ e 15 = i64 i ∧ s = [boxP g, ⟨i, true, 1, ((C.take i).map RTh.pc).map fun x => [i64 x]⟩])
    ⟨_, _, _, .of0 (reserveSlot 14 1 rfl), 0, rfl, by omega, rfl, rfl, rfl, by simp [boxP, i64, bV]⟩ ?_
   clear h1 h3 h4 h11
   rintro n e s ⟨i, rfl, hi, h12, h14, h15, rfl⟩
   rcases Nat.lt_or_ge i C.length with hi2 | hge
   ·obtain ⟨x, hx⟩ : ∃ x, C[i]? = some x := ⟨_, List.getElem?_eq_getElem hi2⟩
    have hlt' : (i : Int) < (C.length : Int) := by omega
    simp only [zX, simprocAttr, i64, bV, iD, bD, boxP, h12, h14, h15, hlt', hx, RTh.cells, List.length_map, Nat.zero_add]
    have htk : (C.take (i + 1)).map RTh.pc = (C.take i).map RTh.pc ++ [x.pc] := by rw [take_get hx, List.map_append]; rfl
    refine ⟨fun e he => by rw [List.mem_singleton.1 he]; rfl, ⟨by rw [List.length_take]; omega, by omega⟩, C.length - (i + 1), _, _, by omega, Cln.refl, i + 1, rfl, hi2, ?_, ?_, ?_, ?_⟩ <;> (try simp only [zU, Nat.reduceBEq, Nat.reduceShiftRight, Nat.reduceMod, Nat.reduceEqDiff, reduceIte])
    ·exact h12
    ·rw [w64 _ (by omega)]; rfl
    ·rw [htk, List.take_of_length_le (by simp; omega), List.map_append]
     rfl
   ·have hie : i = C.length := by omega
    subst hie
    have hlt' : ¬ (C.length : Int) < (C.length : Int) := by omega
    simp only [zX, simprocAttr, i64, bV, iD, bD, boxP, h12, h14, h15, hlt', List.length_map]
    have hA : ((C.take C.length).map RTh.pc).map (fun x => [V.d (.sc (.int .i64 x))]) = ((C.map RTh.pc).map fun x => [D.sc (.int .i64 x)]).map fun c => c.map V.d := by rw [List.take_length]; simp
    rw [hA, frz_data 7 0 _ _ _ (by simp), if_pos (by rw [List.take_length]; omega)]
    rfl
structure RNd (st : RSt) : Prop where
 nd : (st.ths.map RTh.pc).Nodup
 ad : ∀ x ∈ st.ths, 0 ≤ x.pc ∧ st.added.getD x.pc.toNat true = true
theorem getD_set_true {l : List Bool} {i j : Nat} (h : l.getD j true = true) : (l.set i true).getD j true = true := by
 simp only [List.getD_eq_getElem?_getD, List.getElem?_set] at h ⊢
 split
 ·split <;> simp
 ·exact h
theorem RNd.mark {st : RSt} (h : RNd st) (i : Nat) : RNd ⟨st.added.set i true, st.ths⟩ := ⟨h.nd, fun x hx => ⟨(h.ad x hx).1, getD_set_true (h.ad x hx).2⟩⟩
theorem rAdd_nd (g : Prg) (hg : g.good) (t : List Int) (at_ : Int) : ∀ (k : Nat) (pc : Int) (regs : List Int) (st : RSt), 0 ≤ pc → pc < g.ins.length → RNd st → RNd (rAdd g t at_ k pc regs st)
 | 0, _, _, st, _, _, h => by simpa [rAdd] using h
 | k + 1, pc, regs, st, h0, h1, h => by
  have hx := insAt_get h0 h1
  have hs := hg.split pc.toNat _ hx
  have hj := hg.jump pc.toNat _ hx
  have hn := hg.next pc.toNat _ hx
  have ho := hg.ops _ (List.mem_of_getElem? hx)
  rw [rAdd]
  split
  ·exact h
  rename_i ha
  have hm := h.mark pc.toNat
  simp only
  split
  ·rename_i o2
   have := hs o2
   exact rAdd_nd g hg t at_ k _ _ _ (by omega) (by omega) (rAdd_nd g hg t at_ k _ _ _ (by omega) (by omega) hm)
  split
  ·rename_i o3
   have := hj o3
   exact rAdd_nd g hg t at_ k _ _ _ (by omega) (by omega) hm
  split
  ·rename_i o4
   have := hn (.inr (by omega))
   exact rAdd_nd g hg t at_ k _ _ _ (by omega) (by omega) hm
  split
  ·rename_i o5
   have := hn (.inr (by omega))
   split
   ·exact rAdd_nd g hg t at_ k _ _ _ (by omega) (by omega) hm
   ·exact hm
  ·refine ⟨?_, fun x hx => ?_⟩
   ·show (List.map RTh.pc (st.ths ++ [⟨pc, regs⟩])).Nodup
    rw [List.map_append, List.nodup_append]
    refine ⟨h.nd, by simp, fun a hxa b hxb hab => ?_⟩
    obtain ⟨y, hy, rfl⟩ := List.mem_map.1 hxa
    simp only [List.map_cons, List.map_nil, List.mem_singleton] at hxb
    have := (h.ad y hy).2
    rw [hab, hxb] at this
    exact ha this
   ·rcases List.mem_append.1 hx with hx | hx
    ·exact hm.ad x hx
    ·rw [List.mem_singleton.1 hx]
     refine ⟨h0, ?_⟩
     show (st.added.set pc.toNat true).getD pc.toNat true = true
     simp only [List.getD_eq_getElem?_getD, List.getElem?_set, if_true]
     split <;> simp
theorem none_nd (g : Prg) : RNd (rNone g) := ⟨by simp [rNone], fun x hx => by simp [rNone] at hx⟩
theorem next_nd (g : Prg) (hg : g.good) (t : List Int) (at_ : Int) : ∀ (l : List RTh) (st : RSt), (∀ x ∈ l, x.ok g) → RNd st → RNd (l.foldl (nextS g t at_) st)
 | [], _, _, h => h
 | x :: l, st, hl, h => by
  have hx := hl x (by simp)
  refine next_nd g hg t at_ l _ (fun y hy => hl y (by simp [hy])) ?_
  unfold nextS
  split
  ·rename_i hc
   have hp0 := hx.p0
   have := hg.next x.pc.toNat _ (insAt_get hx.p0 hx.p1) (.inl hc.1)
   exact rAdd_nd g hg t (at_ + 1) _ _ _ _ (by omega) (by omega) h
  ·exact h
theorem iter_nd (g : Prg) (hg : g.good) (t : List Int) : ∀ (k : Nat) (l : RList), (∀ x ∈ l.st.ths, x.ok g) → RNd l.st → RNd (iterR g t k l).st
 | 0, _, _, h => h
 | k + 1, l, h1, _ => iter_nd g hg t k _ (next_th g hg t l h1).1 (next_nd g hg t l.at_ _ _ (fun x hx => h1 x (cutR_sub g _ x hx)) (none_nd g))
theorem cutR_pre (g : Prg) : ∀ l : List RTh, (cutR g l).1 <+: l
 | [] => by simp [cutR]
 | x :: l => by
  rw [cutR]
  split
  ·exact ⟨l, rfl⟩
  ·exact (List.prefix_cons_inj x).2 (cutR_pre g l)
theorem cutR_init (g : Prg) : ∀ (l : List RTh) (j : Nat) (x : RTh), (cutR g l).1[j]? = some x → j + 1 < (cutR g l).1.length → (insAt g x.pc).op ≠ 0
 | [], j, x, h, _ => by simp [cutR] at h
 | y :: l, j, x, h, hj => by
  rw [cutR] at h hj
  by_cases hc : (insAt g y.pc).op = 0
  ·rw [if_pos hc] at hj; simp at hj
  ·rw [if_neg hc] at h hj
   cases j with
   | zero => simp only [List.getElem?_cons_zero, Option.some.injEq] at h; rw [← h]; exact hc
   | succ j => exact cutR_init g l j x (by simpa using h) (by simpa using hj)
theorem nodup_take {l : List Int} (h : l.Nodup) {j : Nat} {x : Int} (hx : l[j]? = some x) : x ∉ l.take j := by
 intro hm
 obtain ⟨i, hi⟩ := List.mem_iff_getElem?.1 hm
 rw [List.getElem?_take] at hi
 split at hi
 ·rename_i hij
  obtain ⟨h1, e1⟩ := List.getElem?_eq_some_iff.1 hi
  obtain ⟨h2, e2⟩ := List.getElem?_eq_some_iff.1 hx
  have := (List.getElem_inj h).1 (e1.trans e2.symm)
  omega
 ·cases hi
theorem thrX_props (g : Prg) (t : List Int) (at_ en : Int) : ∀ (j : Nat) (x : Int), (thrX g t at_ en).1[j]? = some x → x ∉ (thrX g t at_ en).1.take j ∧ 0 ≤ x ∧ x < g.ins.length ∧ (j + 1 < (thrX g t at_ en).1.length → (insAt g x).op ≠ 0) := by
 unfold thrX
 by_cases h0 : prgE g ≠ 0
 ·rw [if_pos h0]; intro j x h; simp at h
 rw [if_neg h0]
 by_cases h1 : 65536 < t.length
 ·rw [if_pos h1]; intro j x h; simp at h
 rw [if_neg h1]
 by_cases h2 : at_ < 0 ∨ en < at_ ∨ (t.length : Int) < en
 ·rw [if_pos h2]; intro j x h; simp at h
 rw [if_neg h2]
 have hg : g.good := good_of (by simpa using h0)
 have hl0 := hg.len0
 intro j x h
 obtain ⟨b1, b2⟩ := begin_th g hg t at_
 obtain ⟨c1, c2⟩ := iter_th g hg t (en - at_).toNat _ b1 b2
 have hnd := iter_nd g hg t (en - at_).toNat _ b1 (rAdd_nd g hg t at_ _ _ _ _ (Int.le_refl _) (by omega) (none_nd g))
 unfold thr0 at *
 simp only at h ⊢
 generalize iterR g t (en - at_).toNat (beginR g t at_) = l at *
 have hnd2 : ((cutR g l.st.ths).1.map RTh.pc).Nodup := List.Sublist.nodup ((cutR_pre g l.st.ths).sublist.map _) hnd.nd
 refine ⟨nodup_take hnd2 h, ?_⟩
 rw [List.getElem?_map] at h
 obtain ⟨y, hy, rfl⟩ := Option.map_eq_some_iff.1 h
 have hyo := c1 y (cutR_sub g _ y (List.mem_of_getElem? hy))
 exact ⟨hyo.p0, hyo.p1, fun hj => cutR_init g _ j y hy (by simpa using hj)⟩
end Go.Proofs.Ytdofoappodmcoaa
