/- A part of the proof (G69). -/
import Derived.Test.YtilapneoohcplaaBO21
import Derived.Test.YtilapneoohcplaaBO51
import Derived.Test.YtilapneoohcplaaBO49
set_option linter.unusedSimpArgs false
set_option linter.unusedVariables false
set_option maxRecDepth 100000
set_option maxHeartbeats 80000000
namespace Go.Proofs.Ytilapneoohcplaa
open Go.VL Go.Proofs.Try
theorem resX_shape {p : Pat} {t : List Int} {i f : Int} (hv : validR p = 0) : ∃ (e1 e2 : Int) (e3 : CapsL) (e4 : Bool) (n err : Int), resX p t i f = [i64 e1, i64 e2, .d (capD e3), bV e4, i64 n, i64 err] ∧ 0 ≤ n ∧ n ≤ max 0 f ∧ e3.length ≤ 1000000000 ∧ (e4 = true → err = 0) := by
 unfold resX
 by_cases hE : allE p t i 1 f = 0
 ·rw [if_neg (by rw [hE]; simp)]
  obtain ⟨hv7, h0, h1, he⟩ := allE_valid hE
  obtain ⟨k, e1, e2⟩ := search_ends (most := 1) hv7 h0 h1
  have hN : allN p t i 1 f = (searchX p t i 1 f).2.steps := by unfold allN; rw [if_pos hE]
  have hs0 : (0 : Int) ≤ (searchX p t i 1 f).2.steps := e2.s0
  have hs1 : (searchX p t i 1 f).2.steps ≤ f := by
   have := e2.empty
   rw [he] at this
   have := of_decide_eq_false this.symm
   omega
  cases hM : allM p t i 1 f with
  | nil => exact ⟨0, 0, [], false, _, 0, rfl, by omega, by omega, by simp, fun h => by cases h⟩
  | cons ed rest =>
   obtain ⟨e, d⟩ := ed
   refine ⟨i, e, d, true, _, 0, rfl, by omega, by omega, ?_, fun _ => rfl⟩
   obtain ⟨new, newc, z1, z2, _, _, _, z6⟩ := e2.more
   have hmem : (e, d) ∈ allM p t i 1 f := by rw [hM]; simp
   unfold allM at hmem
   rw [if_pos hE] at hmem
   have hd := (List.of_mem_zip hmem).2
   rw [z2] at hd
   exact (z6 d (by simpa using hd)).1.1
 ·rw [if_pos hE]
  exact ⟨0, 0, [], false, 0, _, rfl, by omega, by omega, by simp, fun h => by cases h⟩
theorem run_next {p : Pat} {t : List Int} {i f : Int} (hv : valid7 p t f = 0) (a0 : 0 ≤ i) (a1 : i ≤ t.length) {m0 : Mst} {T0 : V} (hm : Rst p m0) (hT : refsV 3 T0 = true) (hT2 : renV [0, 1, 2] T0 = T0) :
  ∃ (m1 : Mst) (T1 : V) (e1 e2 : Int) (e3 : CapsL) (e4 : Bool) (n err : Int), Rst p m1 ∧ refsV 3 T1 = true ∧ renV [0, 1, 2] T1 = T1 ∧ m1.deepest ≤ max m0.deepest f ∧ 0 ≤ n ∧ n ≤ f ∧
   (∀ b a : Nat, callWp prog 15 [.pp 0 0 0 0 b a, .d (intsD t), i64 i, i64 f] (m0.objsT 0 b a T0) fun v s => v = .tu [.ag [i64 e1, i64 e2, .d (capD e3)], bV e4, i64 n, i64 err] ∧ s = m1.objsT 0 b a T1) ∧
   (e4 = true → err = 0 ∧ ∃ (m2 : Mst) (T2 : V) (f1 f2 : Int) (f3 : CapsL) (f4 : Bool) (n2 err2 : Int), Rst p m2 ∧ refsV 3 T2 = true ∧ renV [0, 1, 2] T2 = T2 ∧ m2.deepest ≤ max m0.deepest f ∧
    ∀ b a : Nat, callWp prog 19 [.pp 0 0 0 0 b a] (m1.objsT 0 b a T1) fun v s => v = .tu [.ag [i64 f1, i64 f2, .d (capD f3)], bV f4, i64 n2, i64 err2] ∧ s = m2.objsT 0 b a T2) := by
 obtain ⟨L, mE, _, _, hL, hO, _, hN, hlen, hPo⟩ := outs_all hv a0 a1 hm.p
 have hnth := fun j r h => outs_nth hv a0 a1 hm.p hO (j := j) (r := r) h
 obtain ⟨c1, c2⟩ := run_outs hv a0 a1 hm hT hT2 hL hO
 obtain ⟨v1, v2, v3, v4, v5⟩ := valid7_spec hv
 have hcap := (validR_spec v1).2.2.2.1
 have hd0 : (m0.set_ t i f).deepest = m0.deepest := rfl
 have hp0 : (m0.set_ t i f).p = p := hm.p
 have hlim : ∀ m', Po (m0.set_ t i f) m' → m'.deepest ≤ max m0.deepest f ∧ 0 ≤ m'.steps ∧ m'.steps ≤ f ∧ m'.p = p := by
  intro m' h
  have h1 := h.lim (by show (0 : Int) ≤ f; omega)
  have hf : m'.fuel = f := h.fr.fuel
  have h2 := h.deep1
  have h3 := h.steps
  have h4 : (m0.set_ t i f).steps = 0 := rfl
  have h5 : m'.p = (m0.set_ t i f).p := h.fr.p
  rw [hf] at h1
  rw [hd0] at h2
  exact ⟨by omega, by omega, h1, by rw [h5, hp0]⟩
 have hres : ∀ (m' : Mst) (q : BPlace) (fd : Bool), ∃ (f1 f2 : Int) (f3 : CapsL) (f4 : Bool) (n2 err2 : Int), m'.res q fd = [i64 f1, i64 f2, .d (capD f3), bV f4, i64 n2, i64 err2] ∧ (n2 = 0 ∨ n2 = m'.steps) ∧ (fd = false → f4 = false) := by
  intro m' q fd
  unfold Mst.res
  split
  ·exact ⟨0, 0, [], false, 0, 11, rfl, .inl rfl, fun _ => rfl⟩
  ·split
   ·rename_i h; exact ⟨_, _, _, _, _, _, rfl, .inr rfl, fun h2 => by rw [h] at h2; cases h2⟩
   ·exact ⟨0, 0, [], _, _, _, rfl, .inr rfl, fun _ => rfl⟩
 cases h0 : L[0]? with
 | none =>
  obtain ⟨m1, T1, hr, t1, t2, q1, q2, q3, q4, hc⟩ := c2 h0
  obtain ⟨l1, l2, l3, l4⟩ := hlim mE hPo
  obtain ⟨f1, f2, f3, f4, n2, err2, hf, hn2, hf4⟩ := hres mE .zero false
  refine ⟨m1, T1, f1, f2, f3, f4, n2, err2, ⟨by rw [q1, l4], by rw [q3, q4]; exact hlen⟩, t1, t2, by rw [q2]; exact l1, by omega, by omega, fun b a => ?_, fun h => by rw [hf4 rfl] at h; cases h⟩
  have := hc b a
  rw [hf] at this
  exact this
 | some r =>
  obtain ⟨m1, T1, hat, hc⟩ := c1 r h0
  obtain ⟨_, _, _, n4, n5⟩ := hnth 0 r h0
  obtain ⟨l1, l2, l3, l4⟩ := hlim _ n5
  obtain ⟨s1, s2, s3, s4⟩ := at_same hat
  refine ⟨m1, T1, i, r.1, r.2.1, true, r.2.2.steps, 0, ⟨by rw [s1, l4], by rw [s3, s4]; exact n4⟩, (at_T hat).1, (at_T hat).2, by rw [s2]; exact l1, l2, l3, hc, fun _ => ⟨rfl, ?_⟩⟩
  have hev := outs_succ hO h0
  have fin : ∀ (m2 : Mst) (q : BPlace) (fd : Bool), Ev r.2.2 0 .zero false (m2, q, fd) → q.caps.length ≤ 1000000000 → Po (m0.set_ t i f) m2 → m2.top ≤ m2.stk.length → ∃ (m2 : Mst) (T2 : V) (f1 f2 : Int) (f3 : CapsL) (f4 : Bool) (n2 err2 : Int), Rst p m2 ∧ refsV 3 T2 = true ∧ renV [0, 1, 2] T2 = T2 ∧ m2.deepest ≤ max m0.deepest f ∧
    ∀ b a : Nat, callWp prog 19 [.pp 0 0 0 0 b a] (m1.objsT 0 b a T1) fun v s => v = .tu [.ag [i64 f1, i64 f2, .d (capD f3)], bV f4, i64 n2, i64 err2] ∧ s = m2.objsT 0 b a T2 := by
   intro m2 q fd he hq hpo hl2
   obtain ⟨k1, k2, k3, k4⟩ := hlim m2 hpo
   obtain ⟨m', T', c, t1, t2, x1, x2, x3, x4, _, _⟩ := next_at hat he hq
   obtain ⟨f1, f2, f3, f4, n2, err2, hf, _, _⟩ := hres m2 q fd
   refine ⟨m', T', f1, f2, f3, f4, n2, err2, ⟨by rw [x1, k4], by rw [x3, x4]; exact hl2⟩, t1, t2, by rw [x2]; exact k1, fun b a => ?_⟩
   have := c b a
   rw [hf] at this
   exact this
  cases h1 : L[1]? with
  | none => exact fin _ _ _ (hev.2 h1) (Nat.zero_le _) hPo hlen
  | some r' =>
   obtain ⟨_, _, _, j4, j5⟩ := hnth 1 r' h1
   have := (hL r' (List.mem_of_getElem? h1)).2
   exact fin _ _ _ (hev.1 r' h1) (by show r'.2.1.length ≤ _; omega) j5 j4
end Go.Proofs.Ytilapneoohcplaa
