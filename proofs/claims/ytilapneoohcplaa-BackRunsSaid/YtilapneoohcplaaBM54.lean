/- A part of the proof (G71 G72). -/
import Derived.Test.YtilapneoohcplaaBM51
import Derived.Test.YtilapneoohcplaaBM41
set_option linter.unusedSimpArgs false
set_option linter.unusedVariables false
set_option maxRecDepth 100000
set_option maxHeartbeats 80000000
namespace Go.Proofs.Ytilapneoohcplaa
open Go.VL Go.Proofs.Try
theorem fuels_ok (n : Int) (hn : I64 n) : PureOK prog 14 [i64 n] (.d (.sl [[iD 100000], [iD (around n 60)], [iD n]])) := by
 have har := around_ok n 60 (by omega) hn
 simp only [i64] at har
 refine fn_ok func14 rfl ntmps14 results14 rfl 0 5 (by simp) (by simp) ?_
 simp only [zX, simprocAttr, i64, iD]
 refine call_pure har rfl rfl ?_
 simp only [zX, simprocAttr, i64, iD]
theorem empty_small (caps : Int) (hc : I64 caps) : Pat.small ⟨.mk 0 [] [] 0 0 0 0 false, caps, false⟩ 256 :=
 ⟨(Re.every_iff _).2 ⟨show smallB 256 (.mk 0 [] [] 0 0 0 0 false) = true by decide, fun k hk => by cases hk⟩, show Re.size (.mk 0 [] [] 0 0 0 0 false) ≤ 256 by decide, hc⟩
theorem fits_small {p : Pat} {t : List Int} {F : Int} (hs : p.small 256) : ∀ n, (fitsFrom p t F n).1.small 256
 | 0 => by
  simp only [fitsFrom]
  exact empty_small _ hs.caps
 | n + 1 => by
  simp only [fitsFrom]
  split
  ·exact hs
  ·exact fits_small hs n
theorem fits_all2 (l m : List Int) (hl : ∀ x ∈ l, I64 x) (hm : ∀ x ∈ m, I64 x) : ∃ (p : Pat) (t : List Int), PureOK prog 9 [.d (intsD l), .d (intsD m), i64 127, i64 14, i64 3000] (.tu [patV p, .d (intsD t)]) ∧
  p.small 256 ∧ t.length ≤ 12 ∧ ∀ x ∈ t, I64 x := by
 obtain ⟨hv, hsz⟩ := pat_valid l 127 14 hl (by omega) (by omega)
 have hsm := pat_small l 127 14 hl (by omega) (by omega)
 have hfine : (patOf l 127 14).re.fine = true := small_fine (by omega) _ hsm.ev
 have htl : (textR m 12).length ≤ 12 := by simp [textR]; omega
 obtain ⟨g1, g2, g3⟩ := fits_good (p := patOf l 127 14) (t := textR m 12) (F := 3000) hv hfine (by omega) (by omega) ((textR m 12).length + 1) (Nat.le_refl _)
 exact ⟨_, _, fits_ok l m hl hm 127 14 3000 (by omega) (by omega), fits_small hsm _, by omega, sym_i64 (allE_valid (g1 0 (Int.le_refl _) (by omega))).1⟩
theorem callF_m {f : FuncId} {cargs args : List V} {r r' : V} {m m' : Mst} {T T' TX TX' : V} {X Y Z b a : Nat} {s : List VL.Obj} {K : V → List VL.Obj → Prop} (h : callWp prog f cargs (m.objsT 0 b a T) fun v s => v = r ∧ s = m'.objsT 0 b a T')
  (hT : refsV 3 T = true) (hTX : renV [X, Y, Z] T = TX) (hTX' : renV [X, Y, Z] T' = TX') (hnd : [X, Y, Z].Nodup) (hX : s[X]? = some (mO1 Y Z m TX)) (hY : s[Y]? = some (mO2 b a m)) (hZ : s[Z]? = some (mO3 m)) (ha : args = cargs.map (renV [X, Y, Z])) (hra : refsV.go 3 cargs = true) (hr : renV [X, Y, Z] r = r')
  (hk : K r' (((s.set X (mO1 Y Z m' TX')).set Y (mO2 b a m')).set Z (mO3 m'))) : callF prog [X, Y, Z] [X, Y, Z] f args s K := by
 refine ⟨r', [mO1 Y Z m' TX', mO2 b a m', mO3 m'], rfl, fun s' hl hs => ?_, hk⟩
 exact call_m h hT hTX hTX' hnd (by rw [hs X (by simp)]; exact hX) (by rw [hs Y (by simp)]; exact hY) (by rw [hs Z (by simp)]; exact hZ) ha hra hr ⟨rfl, rfl⟩
theorem run_all8 {p : Pat} {t : List Int} {i f : Int} : (allM p t i 1 f = [] ∧ resX p t i f = [i64 0, i64 0, .d (.sl []), bV false, i64 (allN p t i 1 f), i64 (allE p t i 1 f)]) ∨
  (∃ e d l, allM p t i 1 f = (e, d) :: l ∧ allE p t i 1 f = 0 ∧ resX p t i f = [i64 i, i64 e, .d (capD d), bV true, i64 (allN p t i 1 f), i64 0] ∧ d.length ≤ 1000000000) := by
 unfold resX
 by_cases hE : allE p t i 1 f = 0
 ·rw [if_neg (show ¬ allE p t i 1 f ≠ 0 by rw [hE]; simp)]
  cases hM : allM p t i 1 f with
  | nil => exact .inl ⟨rfl, by rw [hE]⟩
  | cons x l =>
   obtain ⟨e, d⟩ := x
   obtain ⟨hv7, h0, h1, he⟩ := allE_valid hE
   obtain ⟨k, e1, e2⟩ := search_ends (most := 1) hv7 h0 h1
   obtain ⟨new, newc, z1, z2, _, _, _, z6⟩ := e2.more
   have hmem : (e, d) ∈ allM p t i 1 f := by rw [hM]; simp
   unfold allM at hmem
   rw [if_pos hE] at hmem
   have hd := (List.of_mem_zip hmem).2
   rw [z2] at hd
   exact .inr ⟨e, d, l, rfl, hE, rfl, (z6 d (by simpa using hd)).1.1⟩
 ·rw [if_pos hE]
  have hM : allM p t i 1 f = [] := by unfold allM; rw [if_neg hE]
  have hN : allN p t i 1 f = 0 := by unfold allN; rw [if_neg hE]
  exact .inl ⟨hM, by rw [hN]⟩
theorem texts_frz {s : List VL.Obj} {lv lv' : Bool} {z z' n : Nat} {X : List (List V)} {A : List (List D)} {bad : List Int} (h1 : s[1]? = some ⟨1, lv, z, X⟩) (h2 : s[2]? = some ⟨0, lv', z', [[.d (.sl A)], [.so 1 1 0 n]]⟩) (hX : X = bad.map fun x => [V.d (iD x)]) (hn : n = bad.length) :
  cleanV 0 s (.so 2 0 0 2) = .d (.sl [[.sl A], [intsD bad]]) := by
 subst hX hn
 have e1 : frzD 7 0 s (.so 1 1 0 bad.length) = some (intsD bad) := by
  simp only [frzD, h1]
  rw [if_pos (by simp), ← List.map_drop, ← List.map_take, frz_map, List.drop_zero, List.take_length]
  rfl
 have e2 : frzD 8 0 s (.so 2 0 0 2) = some (.sl [[.sl A], [intsD bad]]) := by
  have e0 : frzD 7 0 s (.d (.sl A)) = some (.sl A) := by simp only [frzD]
  rw [frzD, h2]
  simp only
  rw [if_pos (by simp)]
  simp only [List.drop_zero, List.take, List.mapM_cons, List.mapM_nil, e0, e1]
  rfl
 unfold cleanV frzV
 simp only [e2]
 rfl
theorem backRunsL_ok (l : List Int) (hl : ∀ x ∈ l, I64 x) (m : List Int) (hm : ∀ x ∈ m, I64 x) (at_ how by' : Int) (ha : I64 at_) (hh : I64 how) (hb : I64 by') :
  PureOK prog 3 [.d (intsD l), .d (intsD m), i64 at_, i64 how, i64 by'] (bV true) := by
 obtain ⟨p, t, hfit, hsm, hlen, ht⟩ := fits_all2 l m hl hm
 have hb9 := around_ok by' 9 (by omega) hb
 have hr9 := around_range by' 9 (by omega) hb
 obtain ⟨p1, s1, k1⟩ := spoilt_ok 256 (by omega) p hsm at_ how by' ha hh hb
 obtain ⟨p2, s2, k2⟩ := spoilt_ok 256 (by omega) p hsm at_ how (around by' 9 - 2) ha hh ⟨by omega, by omega⟩
 have w9 : IntKind.i64.wrap (around by' 9 - 2) = around by' 9 - 2 := w64 _ (by omega)
 have hlv := lives8_ok
 have hfu := fuels_ok by' hb
 generalize around by' 9 = c9 at *
 simp only [patV_C, patC_eq, List.map_cons, List.map_nil, i64, iD, bD, bV] at hfit k1 k2
 simp only [i64] at hb9
 refine fn_ok func3 rfl ntmps3 results3 rfl 0 1073740831 (by simp) (by simp) ?_
 simp only [zX, simprocAttr, -Int.reduceNatCast', zY, bbeq]
 refine call_pure hfit rfl rfl ?_
 simp only [zX, simprocAttr, -Int.reduceNatCast', zY, bbeq]
 refine draw_c mix [] [] (by rfl) ?_
 simp only [zX, simprocAttr, -Int.reduceNatCast', zY, bbeq]
 refine callC_pure k1 rfl rfl ?_
 simp only [zX, simprocAttr, -Int.reduceNatCast', zY, bbeq]
 refine callC_pure hb9 rfl rfl ?_
 simp only [zX, simprocAttr, -Int.reduceNatCast', zY, bbeq, w9]
 refine callC_pure k2 rfl rfl ?_
 simp only [zX, simprocAttr, -Int.reduceNatCast', zY, bbeq]
 refine ⟨by simp, ⟨by omega, by simp⟩, by simp, ⟨by omega, by omega⟩, ?_⟩
 simp only [Option.bind_none, Option.bind_some]
 refine loop_rule (fun n e s => ∃ j : Nat, n = 3 - j ∧ j ≤ 3 ∧ e 2 = i64 at_ ∧ e 4 = i64 by' ∧ e 13 = .d (.sl [patC p, patC p1, patC p2]) ∧ e 15 = .d (.sl [[intsD t], [intsD (t ++ [by'])]]) ∧ e 16 = i64 j ∧ s = [])
  ⟨_, _, _, Cln.drop 0 (by omega) [2, 4, 13, 15, 16], 0, rfl, by omega, ?_, ?_, ?_, ?_, ?_, rfl⟩ ?_
 ·rfl
 ·rfl
 ·rw [patC_eq, patC_eq, patC_eq]; rfl
 ·exact texts_frz (bad := t ++ [by']) rfl rfl (by simp [List.take_of_length_le, iD]) (by simp)
 ·rfl
 have hAL : ∀ j, j < 3 → ∃ q : Pat, q.small 513 ∧ [patC p, patC p1, patC p2][j]? = some (patC q) := by
  intro j hj
  match j, hj with
  | 0, _ => exact ⟨p, small_every_le (by omega) hsm, rfl⟩
  | 1, _ => exact ⟨p1, s1, rfl⟩
  | 2, _ => exact ⟨p2, s2, rfl⟩
 have hTX : ∀ j, j < 2 → ∃ u : List Int, u.length ≤ 13 ∧ (∀ x ∈ u, I64 x) ∧ [[intsD t], [intsD (t ++ [by'])]][j]? = some [intsD u] := by
  intro j hj
  match j, hj with
  | 0, _ => exact ⟨t, by omega, ht, rfl⟩
  | 1, _ => exact ⟨t ++ [by'], by simp; omega, fun x hx => by
    rcases List.mem_append.1 hx with hx | hx
    ·exact ht x hx
    ·rw [List.mem_singleton.1 hx]; exact hb, rfl⟩
 have hALl : [patC p, patC p1, patC p2].length = 3 := rfl
 have hTXl : [[intsD t], [intsD (t ++ [by'])]].length = 2 := rfl
 generalize [patC p, patC p1, patC p2] = AL at *
 generalize [[intsD t], [intsD (t ++ [by'])]] = TX at *
 clear hfit k1 k2 hb9 hsm s1 s2
 rintro n e s ⟨j, rfl, hj, h2, h4, h13, h15, h16, rfl⟩
 rcases Nat.lt_or_ge j 3 with hlt | hge
 ·obtain ⟨q, hq, hAj⟩ := hAL j hlt
  rw [patC_eq] at hAj
  have l1 : (j : Int) < (AL.length : Int) := by omega
  have l0 : (0 : Int) ≤ (j : Int) := by omega
  have l2 : j < AL.length := by omega
  have hqf := small_fine (by omega) q.re hq.ev
  have hqs : q.re.size ≤ 1000000000 := by have := hq.sz; omega
  have hnewe := new_err q hqf
  have hnewk := fun hv s K hk => call_new hqf hv (s := s) (K := K) hk
  have hval := refValid_ok q hqf hqs
  simp only [patV_C, patC_eq, List.map_cons, List.map_nil, i64, iD, bD, bV] at hnewe hnewk hval
  have hw : IntKind.i64.wrap ((j : Int) + 1) = (j : Int) + 1 := w64 _ (by omega)
  by_cases hv : validR q = 0
  ·simp only [zX, simprocAttr, -Int.reduceNatCast', zY, bbeq, h2, h4, h13, h15, h16, l1, l0, l2, hAj, Int.toNat_natCast]
   refine hnewk hv _ _ (fun b a => ?_)
   rw [hv] at hval
   simp only [zX, simprocAttr, -Int.reduceNatCast', zY, bbeq, h2, h4, h13, h15, h16, l1, l0, l2, hAj, Int.toNat_natCast]
   refine call_pure hval rfl rfl ?_
   simp only [zX, simprocAttr, -Int.reduceNatCast', zY, bbeq, h2, h4, h13, h15, h16]
   refine ⟨rfl, ⟨_, rfl⟩, rfl, ⟨_, rfl⟩, ?_⟩
   refine loop_rule (fun n e s => ∃ (j2 : Nat) (m : Mst) (T : V), n = 2 - j2 ∧ j2 ≤ 2 ∧ Rst q m ∧ refsV 3 T = true ∧ renV [0, 1, 2] T = T ∧ e 2 = i64 at_ ∧ e 4 = i64 by' ∧ e 13 = .d (.sl AL) ∧ e 15 = .d (.sl TX) ∧ e 16 = i64 j ∧ e 17 = .pp 0 0 0 0 b a ∧ e 19 = i64 j2 ∧ s = [mO1 1 2 m T, mO2 b a m, mO3 m])
    ⟨_, _, _, Cln.refl, 0, fresh q, .fu [], rfl, by omega, ⟨rfl, Nat.le_refl _⟩, rfl, rfl, h2, h4, h13, h15, h16, rfl, rfl, rfl⟩ ?_
   rintro n e s ⟨j2, m, T, rfl, hj2, hR, t1, t2, h2, h4, h13, h15, h16, h17, h19, rfl⟩
   rcases Nat.lt_or_ge j2 2 with hlt2 | hge2
   ·obtain ⟨u, hul, hu, hTj⟩ := hTX j2 hlt2
    have r1 : (j2 : Int) < 2 := by omega
    have r0 : (0 : Int) ≤ (j2 : Int) := by omega
    have r2 : j2 < TX.length := by omega
    have har := around_ok at_ ((u.length : Int) + 3) (by omega) ha
    have hrr := around_range at_ ((u.length : Int) + 3) (by omega) ha
    have wu : IntKind.i64.wrap ((u.length : Int) + 3) = (u.length : Int) + 3 := w64 _ (by omega)
    have wr : IntKind.i64.wrap (around at_ ((u.length : Int) + 3) - 1) = around at_ ((u.length : Int) + 3) - 1 := w64 _ (by omega)
    have wj : IntKind.i64.wrap ((j2 : Int) + 1) = (j2 : Int) + 1 := w64 _ (by omega)
    generalize around at_ ((u.length : Int) + 3) = aa at *
    simp only [i64] at har hfu
    simp only [zX, simprocAttr, -Int.reduceNatCast', zY, bbeq, h2, h4, h13, h15, h16, h17, h19, r1, r0, r2, hTj, Int.toNat_natCast, wu]
    refine call_pure har rfl rfl ?_
    simp only [zX, simprocAttr, -Int.reduceNatCast', zY, bbeq, h2, h4, h13, h15, h16, h17, h19, r1, wr]
    refine call_pure hfu rfl rfl ?_
    simp only [zX, simprocAttr, -Int.reduceNatCast', zY, bbeq, h2, h4, h13, h15, h16, h17, h19, r1, wr]
    obtain ⟨S, hS⟩ : ∃ S : List (List D), S = [[.sc (.int .i64 0)], [.sc (.int .i64 (aa - 1))], [.sc (.int .i64 by')]] := ⟨_, rfl⟩
    obtain ⟨FU, hFU⟩ : ∃ FU : List (List D), FU = [[iD 100000], [iD (around by' 60)], [iD by']] := ⟨_, rfl⟩
    refine loop_rule (fun n e s => ∃ (k : Nat) (m : Mst) (T : V), n = 9 - k ∧ k ≤ 9 ∧ Rst q m ∧ refsV 3 T = true ∧ renV [0, 1, 2] T = T ∧ e 2 = i64 at_ ∧ e 4 = i64 by' ∧ e 13 = .d (.sl AL) ∧ e 15 = .d (.sl TX) ∧ e 16 = i64 j ∧ e 17 = .pp 0 0 0 0 b a ∧ e 19 = i64 j2 ∧ e 20 = .fu S ∧ e 21 = .d (.sl FU) ∧ e 22 = i64 k ∧ s = [mO1 1 2 m T, mO2 b a m, mO3 m])
     ⟨_, _, _, Cln.refl, 0, m, T, rfl, by omega, hR, t1, t2, h2, h4, h13, h15, h16, h17, h19, by rw [hS]; rfl, by rw [hFU]; rfl, rfl, rfl⟩ ?_
    have hSl : S.length = 3 := by rw [hS]; rfl
    have hFl : FU.length = 3 := by rw [hFU]; rfl
    have hSr : ∀ r, r < 3 → ∃ sv, S[r]? = some [.sc (.int .i64 sv)] := by
     intro r hr
     subst hS
     match r, hr with
     | 0, _ => exact ⟨_, rfl⟩
     | 1, _ => exact ⟨_, rfl⟩
     | 2, _ => exact ⟨_, rfl⟩
    have hFr : ∀ r, r < 3 → ∃ sv, I64 sv ∧ FU[r]? = some [.sc (.int .i64 sv)] := by
     intro r hr
     subst hFU
     have := around_range by' 60 (by omega) hb
     match r, hr with
     | 0, _ => exact ⟨_, ⟨by omega, by omega⟩, rfl⟩
     | 1, _ => exact ⟨_, ⟨by omega, by omega⟩, rfl⟩
     | 2, _ => exact ⟨_, hb, rfl⟩
    clear hS hFU
    rintro n e s ⟨k, m, T, rfl, hk, hR, t1, t2, h2, h4, h13, h15, h16, h17, h19, h20, h21, h22, rfl⟩
    rcases Nat.lt_or_ge k 9 with hlt3 | hge3
    ·obtain ⟨sv, hsv⟩ := hSr (k % 3) (by omega)
     obtain ⟨fv, hfi, hfv⟩ := hFr (k / 3) (by omega)
     have q1 : (k : Int) < 9 := by omega
     have q2 : Int.tmod (k : Int) 3 = ((k % 3 : Nat) : Int) := by rw [Int.tmod_eq_emod_of_nonneg (by omega)]; omega
     have q3 : Int.tdiv (k : Int) 3 = ((k / 3 : Nat) : Int) := by rw [Int.tdiv_eq_ediv_of_nonneg (by omega)]; omega
     have q4 : ((k % 3 : Nat) : Int) < (S.length : Int) := by omega
     have q5 : ((k / 3 : Nat) : Int) < (FU.length : Int) := by omega
     have q6 : (0 : Int) ≤ ((k % 3 : Nat) : Int) := by omega
     have q7 : (0 : Int) ≤ ((k / 3 : Nat) : Int) := by omega
     have qw : IntKind.i64.wrap ((k / 3 : Nat) : Int) = ((k / 3 : Nat) : Int) := w64 _ (by omega)
     have q8 : k % 3 < S.length := by omega
     have q9 : k / 3 < FU.length := by omega
     simp only [zX, simprocAttr, -Int.reduceNatCast', zY, bbeq, h2, h4, h13, h15, h16, h17, h19, h20, h21, h22, q1]
     refine draw_first Cln0.reserve ?_
     refine draw_c mix [] [(23, [0, 1, 2], [0, 1, 2]), (29, [3], [3]), (30, [3], [3])] (by rfl) ?_
     simp only [zX, simprocAttr, -Int.reduceNatCast', zY, bbeq, h2, h4, h13, h15, h16, h17, h19, h20, h21, h22, r1, r0, r2, hTj, q2, q3, q4, q5, q6, q7, q8, q9, qw, hsv, hfv, Int.toNat_natCast, hole]
     obtain ⟨m', T', hR', t1', t2', _, _, _, _, hc⟩ := run_any hv (t := u) (by omega) hu sv (min fv (IntKind.i64.wrap (20000 + Int.tmod fv 100000))) hR T t1 t2
     have hall := refAll_ok q u sv 1 (min fv (IntKind.i64.wrap (20000 + Int.tmod fv 100000))) hqf hqs (by omega)
     have hra := run_all8 (p := q) (t := u) (i := sv) (f := min fv (IntKind.i64.wrap (20000 + Int.tmod fv 100000)))
     obtain ⟨ff, hff⟩ : ∃ ff, min fv (IntKind.i64.wrap (20000 + Int.tmod fv 100000)) = ff := ⟨_, rfl⟩
     rw [hff] at hc hall hra
     simp only [hff]
     simp only [patV_C, patC_eq, List.map_cons, List.map_nil, i64, iD, bD, bV] at hall
     have wk : IntKind.i64.wrap ((k : Int) + 1) = (k : Int) + 1 := w64 _ (by omega)
     rcases hra with ⟨hM, hx⟩ | ⟨e1, d1, lx, hM, hE0, hx, hdl⟩
     ·rw [hM] at hall
      rw [hx] at hc
      generalize allN q u sv 1 ff = N at *
      generalize allE q u sv 1 ff = E at *
      have hEq0 := equal_ok ⟨0, 0, []⟩ ⟨0, 0, []⟩ (by simp)
      simp only [decide_true, Mat.v, i64, bV, iD, capD, List.map_nil] at hEq0
      refine callF_m (X := 0) (Y := 1) (Z := 2) (r' := .tu [.ag [i64 0, i64 0, .d (.sl [])], bV false, i64 N, i64 E]) (hc b a) t1 t2 t2' (by decide) rfl rfl rfl rfl rfl rfl ?_
      simp only [zX, simprocAttr, -Int.reduceNatCast', zY, bbeq, h2, h4, h13, h15, h16, h17, h19, h20, h21, h22, r1, r0, r2, hTj, l1, l0, l2, hAj, q2, q3, q4, q5, q6, q7, q8, q9, qw, hsv, hfv, hff, Int.toNat_natCast]
      refine draw_c mix [] [] (by rfl) ?_
      simp only [zX, simprocAttr, -Int.reduceNatCast', zY, bbeq, h2, h4, h13, h15, h16, h17, h19, h20, h21, h22, r1, r0, r2, hTj, l1, l0, l2, hAj, q2, q3, q4, q5, q6, q7, q8, q9, qw, hsv, hfv, hff, Int.toNat_natCast]
      refine callC_pure hall rfl rfl ?_
      simp only [zX, simprocAttr, -Int.reduceNatCast', zY, bbeq, h2, h4, h13, h15, h16, h17, h19, h20, h21, h22, r1, r0, r2, hTj, l1, l0, l2, hAj, q2, q3, q4, q5, q6, q7, q8, q9, qw, hsv, hfv, hff, Int.toNat_natCast]
      refine draw_c mix [] [] (by rfl) ?_
      simp only [zX, simprocAttr, -Int.reduceNatCast', zY, bbeq, h2, h4, h13, h15, h16, h17, h19, h20, h21, h22, r1, r0, r2, hTj, l1, l0, l2, hAj, q2, q3, q4, q5, q6, q7, q8, q9, qw, hsv, hfv, hff, Int.toNat_natCast, Int.natCast_zero]
      refine callC_give hEq0 (fun s' => by rfl) rfl rfl ?_
      simp only [zX, simprocAttr, -Int.reduceNatCast', zY, bbeq, h2, h4, h13, h15, h16, h17, h19, h20, h21, h22]
      refine ⟨9 - (k + 1), _, _, by omega, Cln.cut 3 (by omega) rfl ?_ [2, 4, 13, 15, 16, 17, 19, 20, 21, 22] ?_, k + 1, m', T', rfl, by omega, hR', t1', t2', ?_, ?_, ?_, ?_, ?_, ?_, ?_, ?_, ?_, ?_, rfl⟩ <;> (try simp only [zU, Nat.reduceBEq, Nat.reduceShiftRight, Nat.reduceMod, Nat.reduceEqDiff, reduceIte])
      ·have := mO_ok (m := m') b a (Y := 1) (Z := 2) (n := 3) (by omega) (by omega) t1'
       show (objOk 3 (mO1 1 2 m' T') && (objOk 3 (mO2 b a m') && (objOk 3 (mO3 m') && true))) = true
       rw [this.1, this.2.1, this.2.2]
       rfl
      ·simp [trimE_app, keepE_app, updE, refsV, h2, h4, h13, h15, h16, h17, h19, h20, h21, h22, i64]
      ·exact h2
      ·exact h4
      ·exact h13
      ·exact h15
      ·exact h16
      ·exact h17
      ·exact h19
      ·exact h20
      ·exact h21
      ·rw [wk]; rfl
     ·rw [hM, hE0] at hall
      rw [hx] at hc
      have qln : (0 : Int) < ((lx.length + 1 : Nat) : Int) := by omega
      have hEqB := equal_ok ⟨sv, e1, d1⟩ ⟨sv, e1, d1⟩ hdl
      simp only [decide_true, Mat.v, i64, bV, iD] at hEqB
      generalize allN q u sv 1 ff = N at *
      refine callF_m (X := 0) (Y := 1) (Z := 2) (r' := .tu [.ag [i64 sv, i64 e1, .d (capD d1)], bV true, i64 N, i64 0]) (hc b a) t1 t2 t2' (by decide) rfl rfl rfl rfl rfl rfl ?_
      simp only [zX, simprocAttr, -Int.reduceNatCast', zY, bbeq, h2, h4, h13, h15, h16, h17, h19, h20, h21, h22, r1, r0, r2, hTj, l1, l0, l2, hAj, q2, q3, q4, q5, q6, q7, q8, q9, qw, hsv, hfv, hff, Int.toNat_natCast]
      refine draw_c mix [] [] (by rfl) ?_
      simp only [zX, simprocAttr, -Int.reduceNatCast', zY, bbeq, h2, h4, h13, h15, h16, h17, h19, h20, h21, h22, r1, r0, r2, hTj, l1, l0, l2, hAj, q2, q3, q4, q5, q6, q7, q8, q9, qw, hsv, hfv, hff, Int.toNat_natCast]
      refine callC_pure hall rfl rfl ?_
      simp only [zX, simprocAttr, -Int.reduceNatCast', zY, bbeq, h2, h4, h13, h15, h16, h17, h19, h20, h21, h22, r1, r0, r2, hTj, l1, l0, l2, hAj, q2, q3, q4, q5, q6, q7, q8, q9, qw, hsv, hfv, hff, Int.toNat_natCast]
      refine draw_c mix [] [] (by rfl) ?_
      simp only [zX, simprocAttr, -Int.reduceNatCast', zY, bbeq, h2, h4, h13, h15, h16, h17, h19, h20, h21, h22, r1, r0, r2, hTj, l1, l0, l2, hAj, q2, q3, q4, q5, q6, q7, q8, q9, qw, hsv, hfv, hff, Int.toNat_natCast, Int.natCast_zero, qln, matchD, iD]
      refine callC_pure hEqB rfl rfl ?_
      simp only [zX, simprocAttr, -Int.reduceNatCast', zY, bbeq, h2, h4, h13, h15, h16, h17, h19, h20, h21, h22, qln]
      refine ⟨9 - (k + 1), _, _, by omega, Cln.cut 3 (by omega) rfl ?_ [2, 4, 13, 15, 16, 17, 19, 20, 21, 22] ?_, k + 1, m', T', rfl, by omega, hR', t1', t2', ?_, ?_, ?_, ?_, ?_, ?_, ?_, ?_, ?_, ?_, rfl⟩ <;> (try simp only [zU, Nat.reduceBEq, Nat.reduceShiftRight, Nat.reduceMod, Nat.reduceEqDiff, reduceIte])
      ·have := mO_ok (m := m') b a (Y := 1) (Z := 2) (n := 3) (by omega) (by omega) t1'
       show (objOk 3 (mO1 1 2 m' T') && (objOk 3 (mO2 b a m') && (objOk 3 (mO3 m') && true))) = true
       rw [this.1, this.2.1, this.2.2]
       rfl
      ·simp [trimE_app, keepE_app, updE, refsV, h2, h4, h13, h15, h16, h17, h19, h20, h21, h22, i64]
      ·exact h2
      ·exact h4
      ·exact h13
      ·exact h15
      ·exact h16
      ·exact h17
      ·exact h19
      ·exact h20
      ·exact h21
      ·rw [wk]; rfl
    ·have hkk : k = 9 := by omega
     subst hkk
     have q1 : ¬ ((9 : Nat) : Int) < 9 := by omega
     simp only [zX, simprocAttr, -Int.reduceNatCast', zY, bbeq, h2, h4, h13, h15, h16, h17, h19, h20, h21, h22, q1]
     refine ⟨2 - (j2 + 1), _, _, by omega, Cln.refl, j2 + 1, m, T, rfl, by omega, hR, t1, t2, ?_, ?_, ?_, ?_, ?_, ?_, ?_, rfl⟩ <;> (try simp only [zU, Nat.reduceBEq, Nat.reduceShiftRight, Nat.reduceMod, Nat.reduceEqDiff, reduceIte])
     ·exact h2
     ·exact h4
     ·exact h13
     ·exact h15
     ·exact h16
     ·exact h17
     ·rw [wj]; rfl
   ·have hjj : j2 = 2 := by omega
    subst hjj
    have r1 : ¬ ((2 : Nat) : Int) < 2 := by omega
    simp only [zX, simprocAttr, -Int.reduceNatCast', zY, bbeq, h2, h4, h13, h15, h16, h17, h19, r1]
    refine ⟨3 - (j + 1), _, _, by omega, Cln.cut 0 (by omega) rfl rfl [2, 4, 13, 15, 16] ?_, j + 1, rfl, by omega, ?_, ?_, ?_, ?_, ?_, rfl⟩ <;> (try simp only [zU, Nat.reduceBEq, Nat.reduceShiftRight, Nat.reduceMod, Nat.reduceEqDiff, reduceIte])
    ·simp [trimE_app, keepE_app, updE, refsV, h2, h4, h13, h15, h16, i64]
    ·exact h2
    ·exact h4
    ·exact h13
    ·exact h15
    ·rw [hw]; rfl
  ·simp only [zX, simprocAttr, -Int.reduceNatCast', zY, bbeq, h2, h4, h13, h15, h16, l1, l0, l2, hAj, Int.toNat_natCast]
   refine call_pure (hnewe hv) rfl rfl ?_
   simp only [zX, simprocAttr, -Int.reduceNatCast', zY, bbeq, h2, h4, h13, h15, h16, l1, l0, l2, hAj, Int.toNat_natCast]
   refine call_pure hval rfl rfl ?_
   simp only [zX, simprocAttr, -Int.reduceNatCast', zY, bbeq, h2, h4, h13, h15, h16, hv]
   refine ⟨⟨_, rfl⟩, ⟨_, rfl⟩, 3 - (j + 1), _, _, by omega, Cln.refl, j + 1, rfl, by omega, ?_, ?_, ?_, ?_, ?_, rfl⟩ <;> (try simp only [zU, Nat.reduceBEq, Nat.reduceShiftRight, Nat.reduceMod, Nat.reduceEqDiff, reduceIte])
   ·exact h2
   ·exact h4
   ·exact h13
   ·exact h15
   ·rw [hw]; rfl
 ·have hjj : j = 3 := by omega
  subst hjj
  have l1 : ¬ ((3 : Nat) : Int) < (AL.length : Int) := by omega
  simp only [zX, simprocAttr, -Int.reduceNatCast', zY, bbeq, h2, h4, h13, h15, h16, l1]
  refine call_pure hlv rfl rfl ?_
  simp only [zX, simprocAttr, -Int.reduceNatCast', zY, bbeq]
end Go.Proofs.Ytilapneoohcplaa
