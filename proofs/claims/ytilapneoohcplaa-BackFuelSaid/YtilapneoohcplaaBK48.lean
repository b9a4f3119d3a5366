/- Part of the proof: the program logic, or what some functions compute (G58). -/
import Derived.Test.YtilapneoohcplaaBK47
set_option linter.unusedSimpArgs false
set_option linter.unusedVariables false
set_option maxRecDepth 100000
set_option maxHeartbeats 80000000
namespace Go.Proofs.Ytilapneoohcplaa
open Go.VL
theorem zY : type_of% (And.intro @i64.eq_1 <| And.intro @bV.eq_1 <| And.intro @iD.eq_1 <| And.intro @bD.eq_1 <| And.intro @Mat.v.eq_1 <| And.intro @intsD.eq_1 <| And.intro @killO.eq_1 <| And.intro @killO.eq_2 <| And.intro @List.length_map.{0, 0} <| And.intro @List.set_cons_zero.{0} <| And.intro @List.set_cons_succ.{0} <| And.intro @List.length_cons.{0} <| And.intro @List.length_nil.{0} <| And.intro @List.cons_append.{0} <| And.intro @List.nil_append.{0} <| And.intro @ne_eq.{1} <| And.intro @not_true_eq_false <| And.intro @not_false_eq_true <| And.intro @Bool.not_false <| And.intro @Bool.not_true <| And.intro @gt_iff_lt.{0} @decide_true) := (And.intro @i64.eq_1 <| And.intro @bV.eq_1 <| And.intro @iD.eq_1 <| And.intro @bD.eq_1 <| And.intro @Mat.v.eq_1 <| And.intro @intsD.eq_1 <| And.intro @killO.eq_1 <| And.intro @killO.eq_2 <| And.intro @List.length_map.{0, 0} <| And.intro @List.set_cons_zero.{0} <| And.intro @List.set_cons_succ.{0} <| And.intro @List.length_cons.{0} <| And.intro @List.length_nil.{0} <| And.intro @List.cons_append.{0} <| And.intro @List.nil_append.{0} <| And.intro @ne_eq.{1} <| And.intro @not_true_eq_false <| And.intro @not_false_eq_true <| And.intro @Bool.not_false <| And.intro @Bool.not_true <| And.intro @gt_iff_lt.{0} @decide_true)
structure Rst (p : Pat) (m : Mst) : Prop where
 p : m.p = p
 top : m.top ≤ m.stk.length
theorem kept_T (m : Mst) : refsV 3 m.keptT = true ∧ renV [0, 1, 2] m.keptT = m.keptT := by
 unfold Mst.keptT; split <;> exact ⟨rfl, rfl⟩
theorem run_valid {p : Pat} {t : List Int} {i f : Int} (hv : valid7 p t f = 0) (h0 : 0 ≤ i) (h1 : i ≤ t.length) {m : Mst} (hm : Rst p m) (T : V) (hT : refsV 3 T = true) (hT2 : renV [0, 1, 2] T = T) :
  ∃ (m' : Mst) (T' : V), Rst p m' ∧ refsV 3 T' = true ∧ renV [0, 1, 2] T' = T' ∧ m'.ready = (decide (allE p t i 1 f = 0) && !(allM p t i 1 f).isEmpty) ∧
   ∀ b a : Nat, callWp Try.prog 15 [.pp 0 0 0 0 b a, .d (intsD t), i64 i, i64 f] (m.objsT 0 b a T) fun v s => v = outV (resX p t i f) ∧ s = m'.objsT 0 b a T' := by
 obtain ⟨v1, v2, v3, v4, v5⟩ := valid7_spec hv
 obtain ⟨k1, k2, k3, k4, k5⟩ := validR_spec v1
 obtain ⟨k, m2, r, found, j1, j2, j3, j4, j5, j6⟩ := run_law hv h0 h1 hm.p
 have hk := kept_T (m2.done found)
 refine ⟨(m2.done found).kept, (m2.done found).keptT, ⟨?_, kept_len (m := m2.done found) j3⟩, hk.1, hk.2, ?_, fun b a => ?_⟩
 ·have h1 : m2.p = p := by rw [j2.fr.p]; exact hm.p
  unfold Mst.kept
  split <;> exact h1
 ·rw [← j6]
  unfold Mst.kept
  split <;> rfl
 ·have hck : checkR m.p.runes t i f = 0 := by rw [hm.p]; exact check_valid hv h0 h1
  have := mrun_ok 0 b a m T hT hT2 hm.top t i f (by omega) (sym_i64 hv) hck p.caps.toNat (by rw [hm.p]; omega) (by omega) j1 j4
  rw [j5] at this
  exact this
theorem backFuelL_ok (l : List Int) (hl : ∀ x ∈ l, I64 x) (m : List Int) (hm : ∀ x ∈ m, I64 x) (at_ : Int) (ha : I64 at_) : PureOK Try.prog 6 [.d (intsD l), .d (intsD m), i64 at_] (bV true) := by
 obtain ⟨p, t, hfit, hgood, hfine, hlen⟩ := fits_all l m hl hm
 have har := around_ok at_ ((t.length : Int) + 1) (by omega) ha
 have hin := around_range at_ ((t.length : Int) + 1) (by omega) ha
 generalize around at_ ((t.length : Int) + 1) = i at *
 have hA := hgood i hin.1 (by omega)
 have h1 := allE_first hA
 obtain ⟨hv, h0i, h1i, _⟩ := allE_valid h1
 have hvr := (valid7_spec hv).1
 obtain ⟨q1, q2, q3, q4, q5⟩ := fuel_law h1
 have hvn : valid7 p t (allN p t i 1 3000) = 0 := valid7_fuel hv (by omega) (by omega)
 have hvn1 : valid7 p t (allN p t i 1 3000 - 1) = 0 := valid7_fuel hv (by omega) (by omega)
 obtain ⟨m1, T1, r1, t1, t1', _, c1⟩ := run_valid hv h0i h1i (m := fresh p) ⟨rfl, Nat.le_refl _⟩ (.fu []) rfl rfl
 obtain ⟨m2, T2, r2, t2, t2', _, c2⟩ := run_valid hvn h0i h1i r1 T1 t1 t1'
 obtain ⟨m3, T3, r3, t3, t3', y3, c3⟩ := run_valid hvn1 h0i h1i r2 T2 t2 t2'
 have hready : m3.ready = false := by rw [y3, q5]; rfl
 have c4 := fun b a => mnext_err 0 b a m3 T3 t3 hready
 have hr3 : resX p t i (allN p t i 1 3000 - 1) = [i64 0, i64 0, .d (.sl []), bV false, i64 0, i64 11] := by
  unfold resX; rw [q5, if_pos (by decide)]
 rw [q3] at c2
 rw [hr3] at c3
 -- the two shapes of a result
 have hres : ∃ (e : Int × Int × CapsL × Bool), resX p t i 3000 = [i64 e.1, i64 e.2.1, .d (capD e.2.2.1), bV e.2.2.2, i64 (allN p t i 1 3000), i64 0] ∧ e.2.2.1.length ≤ 1000000000 := by
  unfold resX
  rw [if_neg (show ¬ (allE p t i 1 3000 ≠ 0) from by rw [h1]; simp)]
  cases hM : allM p t i 1 3000 with
  | nil => exact ⟨(0, 0, [], false), rfl, by simp⟩
  | cons ed rest =>
   obtain ⟨e, d⟩ := ed
   refine ⟨(i, e, d, true), rfl, ?_⟩
   obtain ⟨k, _, e2⟩ := search_ends (most := 1) hv h0i h1i
   obtain ⟨new, newc, z1, z2, _, _, _, z6⟩ := e2.more
   have hmem : (e, d) ∈ allM p t i 1 3000 := by rw [hM]; simp
   unfold allM at hmem
   rw [if_pos h1] at hmem
   have hd := (List.of_mem_zip hmem).2
   rw [z2] at hd
   exact (z6 d (by simpa using hd)).1.1
 obtain ⟨⟨e1, e2, e3, e4⟩, hres, hcl⟩ := hres
 simp only at hres hcl
 rw [hres] at c1 c2
 generalize allN p t i 1 3000 = n at *
 have hEq := equal_ok ⟨e1, e2, e3⟩ ⟨e1, e2, e3⟩ hcl
 have hEq0 := equal_ok ⟨0, 0, []⟩ ⟨0, 0, []⟩ (by simp)
 have hlv := lives8_ok
 have he4 : (e4 == e4) = true := by cases e4 <;> rfl
 simp only [capD, List.map_nil] at hEq0
 have w1 : IntKind.i64.wrap ((t.length : Int) + 1) = (t.length : Int) + 1 := w64 _ (by omega)
 have wn : IntKind.i64.wrap (n - 1) = n - 1 := w64 _ (by omega)
 have hnew := fun s K hk => call_new hfine hvr (s := s) (K := K) hk
 simp only [decide_true, Mat.v, i64, bV, iD] at hEq hEq0
 simp only [patV, Re.cells_eq p.re, List.map_cons, List.map_nil, List.cons_append, List.nil_append, i64, iD, bD, bV] at hfit hnew
 simp only [i64] at har
 refine fn_ok Try.func6 rfl Try.ntmps6 Try.results6 rfl 0 150994887 (by simp) (by simp) ?_
 simp only [zX, simprocAttr, zY, w1, wn, q1]
 refine call_pure hfit rfl rfl ?_
 simp only [zX, simprocAttr, zY, w1, wn, q1]
 refine call_pure har rfl rfl ?_
 simp only [zX, simprocAttr, zY, w1, wn, q1]
 refine hnew _ _ (fun b a => ?_)
 simp only [zX, simprocAttr, zY, w1, wn, q1]
 refine ⟨rfl, ⟨_, rfl⟩, ?_⟩
 refine call_m (X := 1) (Y := 2) (Z := 3) (r' := .tu [.ag [i64 e1, i64 e2, .d (capD e3)], bV e4, i64 n, i64 0]) (c1 b a) rfl rfl rfl (by decide) rfl rfl rfl rfl rfl rfl ?_
 simp only [zX, simprocAttr, zY, w1, wn, q1]
 refine call_m (X := 1) (Y := 2) (Z := 3) (r' := .tu [.ag [i64 e1, i64 e2, .d (capD e3)], bV e4, i64 n, i64 0]) (c2 b a) t1 rfl rfl (by decide) rfl rfl rfl rfl rfl rfl ?_
 simp only [zX, simprocAttr, zY, w1, wn, q1]
 refine call_m (X := 1) (Y := 2) (Z := 3) (r' := .tu [.ag [i64 0, i64 0, .d (.sl [])], bV false, i64 0, i64 11]) (c3 b a) t2 rfl rfl (by decide) rfl rfl rfl rfl rfl rfl ?_
 simp only [zX, simprocAttr, zY, w1, wn, q1]
 refine call_m (X := 1) (Y := 2) (Z := 3) (r' := .tu [.ag [i64 0, i64 0, .d (.sl [])], bV false, i64 0, i64 20]) (c4 b a) t3 rfl rfl (by decide) rfl rfl rfl rfl rfl rfl ?_
 simp only [zX, simprocAttr, zY, w1, wn, q1]
 simp only [zX, simprocAttr, zY, w1, wn, q1, he4]
 refine call_pure hEq rfl rfl ?_
 simp only [zX, simprocAttr, zY, w1, wn, q1, he4]
 refine call_give [] (cargs := [.ag [.d (.sc (.int .i64 0)), .d (.sc (.int .i64 0)), .d (.sl [])], .ag [.d (.sc (.int .i64 0)), .d (.sc (.int .i64 0)), .d (.sl [])]]) (by rfl) ?_
 refine call_pure hEq0 rfl rfl ?_
 simp only [zX, simprocAttr, zY, w1, wn, q1, he4]
 refine call_pure hlv rfl rfl ?_
 simp only [zX, simprocAttr, zY, w1, wn, q1, he4]
end Go.Proofs.Ytilapneoohcplaa
