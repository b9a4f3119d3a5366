/- Part of the proof: the program logic, or what some functions compute (F43 F44). -/
import Derived.Test.YtafbdphblilenaaE7
import Derived.Test.YtafbdphblilenaaE23
import Derived.Test.YtafbdphblilenaaE11
import Derived.Test.YtafbdphblilenaaE21
import Derived.Test.YtafbdphblilenaaE22
import Derived.Test.YtafbdphblilenaaE20
set_option linter.unusedSimpArgs false
set_option linter.unusedVariables false
set_option linter.unusedSimpArgs false
set_option linter.unusedVariables false
namespace Go.Proofs.Ytafbdphblilenaa
open Go.VL

/-! ### The plain law of measures: on valid trees both agree -/

def valB (re : Re) : Bool := decide (0 ≤ re.op ∧ re.op ≤ 11 ∧ (re.op = 4 → re.kids.length = 1 ∧ 0 ≤ re.mn ∧ re.mn ≤ 32 ∧ (re.mx = -1 ∨ (1 ≤ re.mx ∧ re.mx ≤ 32 ∧ re.mn ≤ re.mx))) ∧
  (re.op = 3 ∨ re.op = 10 ∨ re.op = 5 ∨ re.op = 9 → re.kids ≠ []) ∧ (re.op = 5 ∨ re.op = 9 → re.kids.length = 1))

theorem val_of_ok {re : Re} {caps top : Int} (h : nodeOk re caps top = true) : valB re = true := by
  obtain ⟨⟨h1, h2, h3, h4⟩, _, h5, _, _⟩ := nodeOk_iff.1 h
  refine decide_eq_true ⟨h1, h2, fun o => ?_, fun o => ?_, fun o => ?_⟩
  · rw [o] at h3 h4 h5
    simp only [kidsR, Int.reduceEq, or_self, if_false, or_true, true_or, or_false, false_or, if_true, reduceIte] at h3 h4 h5
    omega
  · intro hn
    rw [hn] at h3
    rcases o with o | o | o | o <;> rw [o] at h3 <;> simp [kidsR] at h3
  · rcases o with o | o
    all_goals
      rw [o] at h3 h4
      simp only [kidsR, Int.reduceEq, or_self, if_false, or_true, true_or, or_false, false_or, if_true, reduceIte] at h3 h4
      omega

theorem val_whole {re : Re} {caps top : Int} (h : re.whole caps top = true) : re.every valB = true := every_mono' (fun _ => val_of_ok) re h

theorem kid_of_val {re : Re} (h : valB re = true) : kidB re = true := by
  obtain ⟨_, _, h4, h5, _⟩ := of_decide_eq_true h
  refine decide_eq_true fun o => ?_
  by_cases o4 : re.op = 4
  · have := (h4 o4).1; omega
  · have := h5 (by omega)
    cases hk : re.kids with
    | nil => exact absurd hk this
    | cons k l => simp

theorem nul_lensV (re : Re) (h : re.every valB = true) : LR re.anul re.lens := by
  revert h
  refine Re.ind (Q := fun re => re.every valB = true → LR re.anul re.lens) (fun re ih h => ?_) re
  obtain ⟨h1, h2⟩ := (Re.every_iff re).1 h
  obtain ⟨o0, o11, h4, hne, _⟩ := of_decide_eq_true h1
  have hk : ∀ k ∈ re.kids, LR k.anul k.lens := fun k hk => ih k hk (h2 k hk)
  have hp : ∀ x ∈ re.kids.map (fun k => (k.anul, k.lens)), LR x.1 x.2 := fun x hx => by
    obtain ⟨k, hk', rfl⟩ := List.mem_map.1 hx
    exact hk k hk'
  rw [Re.anul_eq, Re.lens_eq]
  have m1 : (re.kids.map (fun k => (k.anul, k.lens))).map (·.1) = re.kids.map Re.anul := by simp
  have m2 : (re.kids.map (fun k => (k.anul, k.lens))).map (·.2) = re.kids.map Re.lens := by simp
  have alt : re.kids ≠ [] → LR ((re.kids.map Re.anul).any id) (altL (re.kids.map Re.lens)) := fun hn => by
    obtain ⟨k, l, hkl⟩ := List.exists_cons_of_ne_nil hn
    have hkk := hk k (by rw [hkl]; simp)
    have := alt_foldl (l.map fun k => (k.anul, k.lens)) k.anul k.lens hkk (fun x hx => by
      obtain ⟨y, hy, rfl⟩ := List.mem_map.1 hx
      exact hk y (by rw [hkl]; simp [hy]))
    rw [hkl]
    simp only [List.map_cons, altL, altF_self hkk, List.any_cons, id_eq]
    simpa [List.map_map, Function.comp_def] using this
  have hop : re.op = 0 ∨ re.op = 1 ∨ re.op = 2 ∨ re.op = 3 ∨ re.op = 4 ∨ re.op = 5 ∨ re.op = 6 ∨ re.op = 7 ∨ re.op = 8 ∨ re.op = 9 ∨ re.op = 10 ∨ re.op = 11 := by omega
  have zz : LR true (0, 0) := ⟨by decide, by decide, by decide, by decide, .inr (by decide), by decide⟩
  rcases hop with o | o | o | o | o | o | o | o | o | o | o | o
  · rw [o]; exact zz
  · have one : LR false (1, 1) := ⟨by decide, by decide, by decide, by decide, .inr (by decide), by decide⟩
    rw [o]; exact one
  · have := cat_foldl _ true (0, 0) zz hp
    rw [m1, m2, Bool.true_and] at this
    rw [o]; exact this
  · have := alt (hne (.inl o))
    rw [o]; exact this
  · obtain ⟨q1, q2, q3, q4⟩ := h4 o
    have := alt (by intro he; rw [he] at q1; cases q1)
    rw [o]
    simp only [anulOp, lensOp]
    generalize altL (re.kids.map Re.lens) = p at *
    generalize (re.kids.map Re.anul).any id = na at *
    obtain ⟨a0, a1, b0, b1, ab, nl⟩ := this
    have e1 := lt_nn a0 a1 q2 (by omega)
    have e2 : 0 ≤ p.1 * re.mn := Int.mul_nonneg a0 q2
    simp only [reduceCtorEq, Int.reduceEq, if_false, false_or, or_false, or_self, if_true, true_or, or_true]
    have key : (ltimes p.2 re.mx = -1 ∨ (0 ≤ ltimes p.2 re.mx ∧ ltimes p.1 re.mn ≤ ltimes p.2 re.mx)) ∧ ltimes p.2 re.mx ≤ 1000000 := by
      by_cases hm : re.mx = -1
      · rw [hm]
        by_cases hb : p.2 = 0
        · have ha : p.1 = 0 := by omega
          rw [hb, ha, lt_zero', lt_zero']; omega
        · rw [lt_any hb]; omega
      · have q5 : 1 ≤ re.mx ∧ re.mx ≤ 32 ∧ re.mn ≤ re.mx := by omega
        by_cases hb : p.2 = -1
        · rw [hb, lt_neg (by omega)]; omega
        · rw [lt_nn (by omega) b1 (by omega) (by omega), e1]
          have : p.1 * re.mn ≤ p.2 * re.mx := Int.mul_le_mul (by omega) q5.2.2 q2 (by omega)
          have := Int.mul_nonneg (show 0 ≤ p.2 by omega) (show 0 ≤ re.mx by omega)
          omega
    refine ⟨?_, ?_, ?_, key.2, ?_, ?_⟩ <;> simp only
    · rw [e1]; omega
    · rw [e1]; omega
    · omega
    · omega
    · rw [e1]
      split
      · rename_i hm
        rw [hm, Int.mul_zero]; exact ⟨fun _ => by omega, fun _ => rfl⟩
      · rename_i hm
        rw [nl]
        constructor
        · intro hz; rw [hz, Int.zero_mul]; omega
        · intro hz
          by_cases hz' : p.1 = 0
          · exact hz'
          · have : 0 < p.1 * re.mn := Int.mul_pos (by omega) (by omega)
            omega
  · have := alt (hne (.inr (.inr (.inl o))))
    rw [o]; exact this
  · have far : LR true (0, -1) := ⟨by decide, by decide, by decide, by decide, .inl (by decide), by decide⟩
    rw [o]; exact far
  · rw [o]; exact zz
  · rw [o]; exact zz
  · have := alt (hne (.inr (.inr (.inr o))))
    rw [o]; exact this
  · have := alt (hne (.inr (.inl o)))
    rw [o]; exact this
  · rw [o]; exact zz


theorem one_kid {l : List Re} (h : l.length = 1) : ∃ k, l = [k] := by
  match l, h with
  | [k], _ => exact ⟨k, rfl⟩

theorem anul_nul (re : Re) (h : re.every valB = true) : re.anul = re.nul := by
  revert h
  refine Re.ind (Q := fun re => re.every valB = true → re.anul = re.nul) (fun re ih h => ?_) re
  obtain ⟨h1, h2⟩ := (Re.every_iff re).1 h
  obtain ⟨o0, o11, h4, h5, h6⟩ := of_decide_eq_true h1
  have hm : re.kids.map Re.anul = re.kids.map Re.nul := List.map_congr_left (fun k hk => ih k hk (h2 k hk))
  rw [Re.anul_eq, Re.nul_eq, hm, Re.nulAll_all, Re.nulAny_any]
  have hop : re.op = 0 ∨ re.op = 1 ∨ re.op = 2 ∨ re.op = 3 ∨ re.op = 4 ∨ re.op = 5 ∨ re.op = 6 ∨ re.op = 7 ∨ re.op = 8 ∨ re.op = 9 ∨ re.op = 10 ∨ re.op = 11 := by omega
  rcases hop with o | o | o | o | o | o | o | o | o | o | o | o
  case inr.inr.inr.inr.inl =>
    obtain ⟨q1, q2, _⟩ := h4 o
    obtain ⟨k, hk⟩ := one_kid q1
    rw [o, hk]
    by_cases hz : re.mn = 0
    · simp [anulOp, hz]
    · have : ¬ re.mn ≤ 0 := by omega
      simp [anulOp, hz, this, Re.nul1]
  case inr.inr.inr.inr.inr.inl =>
    obtain ⟨k, hk⟩ := one_kid (h6 (.inl o))
    rw [o, hk]; simp [anulOp, Re.nul1]
  case inr.inr.inr.inr.inr.inr.inr.inr.inr.inl =>
    obtain ⟨k, hk⟩ := one_kid (h6 (.inr o))
    rw [o, hk]; simp [anulOp, Re.nul1]
  all_goals (rw [o]; simp [anulOp])
  all_goals (try (congr 1))

theorem rlens_lens (re : Re) (h : re.every valB = true) : re.rlens = re.lens := by
  revert h
  refine Re.ind (Q := fun re => re.every valB = true → re.rlens = re.lens) (fun re ih h => ?_) re
  obtain ⟨h1, h2⟩ := (Re.every_iff re).1 h
  obtain ⟨o0, o11, h4, h5, h6⟩ := of_decide_eq_true h1
  have hm : re.kids.map Re.rlens = re.kids.map Re.lens := List.map_congr_left (fun k hk => ih k hk (h2 k hk))
  rw [Re.rlens_eq, Re.lens_eq, hm]
  have hself : ∀ k ∈ re.kids, altF k.lens k.lens = k.lens := fun k hk => altF_self (nul_lensV k (h2 k hk))
  have halt : altR (re.kids.map Re.lens) = altL (re.kids.map Re.lens) := by
    cases hk : re.kids with
    | nil => rfl
    | cons k l =>
      simp only [List.map_cons, altR, altL]
      rw [hself k (by rw [hk]; simp)]
  have hone : re.kids.length = 1 → hdL (re.kids.map Re.lens) = altL (re.kids.map Re.lens) := by
    intro hl
    obtain ⟨k, hk⟩ := one_kid hl
    rw [hk]
    simp only [List.map_cons, List.map_nil, hdL, altL, List.headD_cons, List.foldl_nil]
    rw [hself k (by rw [hk]; simp)]
  have hop : re.op = 0 ∨ re.op = 1 ∨ re.op = 2 ∨ re.op = 3 ∨ re.op = 4 ∨ re.op = 5 ∨ re.op = 6 ∨ re.op = 7 ∨ re.op = 8 ∨ re.op = 9 ∨ re.op = 10 ∨ re.op = 11 := by omega
  rcases hop with o | o | o | o | o | o | o | o | o | o | o | o
  case inr.inr.inr.inr.inl =>
    have hq := hone (h4 o).1
    rw [o]; simp [rlensOp, lensOp, hq]
  case inr.inr.inr.inr.inr.inl => rw [o]; simp [rlensOp, lensOp, hone (h6 (.inl o))]
  case inr.inr.inr.inr.inr.inr.inr.inr.inr.inl => rw [o]; simp [rlensOp, lensOp, hone (h6 (.inr o))]
  all_goals (rw [o]; simp [rlensOp, lensOp, halt])

/-! ### Bits -/

theorem or_nat {n m : Nat} (hn : n < 128) (hm : m < 128) : bitV .or .i64 (n : Int) (m : Int) = ((n ||| m : Nat) : Int) ∧ n ||| m < 128 := by
  have hlt : n ||| m < 2 ^ 7 := Nat.or_lt_two_pow hn hm
  refine ⟨?_, hlt⟩
  have e : ∀ k : Nat, k < 128 → (BitVec.ofInt IntKind.i64.bits (k : Int)).toNat = k := by
    intro k hk
    show (BitVec.ofInt 64 (k : Int)).toNat = k
    rw [BitVec.ofInt_natCast, BitVec.toNat_ofNat]
    omega
  simp only [bitV, BitVec.toNat_or, e n hn, e m hm]
  exact w64 _ (by omega)

def UsesP (re : Re) : Prop := ∃ u : Nat, u < 128 ∧ re.usesR = u ∧ ∀ n : Nat, n < 128 → re.usesA n = ((n ||| u : Nat) : Int)

theorem usesL_eq : ∀ l : List Re, (∀ k ∈ l, UsesP k) → ∃ v : Nat, v < 128 ∧ ∀ n : Nat, n < 128 → Re.usesRL l n = ((n ||| v : Nat) : Int) ∧ Re.usesAL l n = ((n ||| v : Nat) : Int)
  | [], _ => ⟨0, by omega, fun n _ => by simp [Re.usesRL, Re.usesAL]⟩
  | k :: l, h => by
    obtain ⟨u, h1, h2, h3⟩ := h k (by simp)
    obtain ⟨v, k1, k2⟩ := usesL_eq l (fun x hx => h x (by simp [hx]))
    refine ⟨u ||| v, Nat.or_lt_two_pow (n := 7) h1 k1, fun n hn => ?_⟩
    obtain ⟨o1, o2⟩ := or_nat hn h1
    obtain ⟨a1, a2⟩ := k2 (n ||| u) o2
    simp only [Re.usesRL, Re.usesAL, h2, h3 n hn, o1, a1, a2, Nat.or_assoc, and_self]

theorem usesN_nat (op mode : Int) (l : List Bool) (b : Bool) (hb : l.headD false = b) : ∃ u : Nat, u < 128 ∧ usesN op mode l = u ∧ usesRN op mode b = u := by
  unfold usesN usesRN
  rw [hb]
  by_cases h6 : op = 6
  · exact ⟨1, by omega, by rw [if_pos h6]; rfl, by rw [if_pos h6]; rfl⟩
  rw [if_neg h6, if_neg h6]
  by_cases h10 : op = 10
  · exact ⟨2, by omega, by rw [if_pos h10]; rfl, by rw [if_pos h10]; rfl⟩
  rw [if_neg h10, if_neg h10]
  by_cases h7 : op = 7 ∨ op = 8
  · exact ⟨4, by omega, by rw [if_pos h7]; rfl, by rw [if_pos h7]; rfl⟩
  rw [if_neg h7, if_neg h7]
  by_cases h9 : op = 9
  · exact ⟨8, by omega, by rw [if_pos h9]; rfl, by rw [if_pos h9]; rfl⟩
  rw [if_neg h9, if_neg h9]
  by_cases h11 : op = 11
  · exact ⟨16, by omega, by rw [if_pos h11]; rfl, by rw [if_pos h11]; rfl⟩
  rw [if_neg h11, if_neg h11]
  by_cases h5 : op = 5
  · exact ⟨64, by omega, by rw [if_pos h5]; rfl, by rw [if_pos h5]; rfl⟩
  rw [if_neg h5, if_neg h5]
  by_cases h4 : op = 4
  · rw [if_pos h4, if_pos h4]
    by_cases hm : mode = 2
    · cases b
      · exact ⟨8, by omega, by simp only [hm, if_true]; decide, by simp [hm]⟩
      · exact ⟨40, by omega, by simp only [hm, if_true]; decide, by simp only [hm, if_true]; decide⟩
    · cases b
      · exact ⟨0, by omega, by simp [hm], by simp [hm]⟩
      · exact ⟨32, by omega, by simp only [hm, if_false, if_true]; decide, by simp only [hm, if_false, if_true]; decide⟩
  · exact ⟨0, by omega, by rw [if_neg h4]; rfl, by rw [if_neg h4]; rfl⟩

theorem uses_both (re : Re) (h : re.every valB = true) : UsesP re := by
  revert h
  refine Re.ind (Q := fun re => re.every valB = true → UsesP re) (fun re ih h => ?_) re
  obtain ⟨h1, h2⟩ := (Re.every_iff re).1 h
  obtain ⟨v, v1, v2⟩ := usesL_eq re.kids (fun k hk => ih k hk (h2 k hk))
  have hb : (re.kids.map Re.anul).headD false = headNul re.kids := by
    cases hk : re.kids with
    | nil => rfl
    | cons k l => exact anul_nul k (h2 k (by rw [hk]; simp))
  obtain ⟨u, u1, u2, u3⟩ := usesN_nat re.op re.mode (re.kids.map Re.anul) (headNul re.kids) hb
  refine ⟨u ||| v, Nat.or_lt_two_pow (n := 7) u1 v1, ?_, fun n hn => ?_⟩
  · rw [Re.usesR_eq, u3]; exact (v2 u u1).1
  · obtain ⟨o1, o2⟩ := or_nat hn u1
    rw [Re.usesA_eq, u2, o1, (v2 _ o2).2, Nat.or_assoc]

theorem uses_eq (re : Re) (h : re.every valB = true) : re.usesA 0 = re.usesR := by
  obtain ⟨u, h1, h2, h3⟩ := uses_both re h
  have := h3 0 (by omega)
  rw [Nat.zero_or] at this
  rw [h2]; exact this

end Go.Proofs.Ytafbdphblilenaa

set_option linter.unusedSimpArgs false
set_option linter.unusedVariables false
namespace Go.Proofs.Ytafbdphblilenaa
open Go.VL

/-! ### AstMeasures -/

def patC (p : Pat) : List D := p.re.cells ++ [iD p.caps, bD p.runes]

theorem patV_C (p : Pat) : patV p = .ag ((patC p).map .d) := by
  unfold patV patC; rw [List.map_append]; rfl

theorem patC_len (p : Pat) : (patC p).length = 10 := by unfold patC; simp [Re.cells_len]

theorem patC_eq (p : Pat) : patC p = [iD p.re.op, .sl (p.re.set.map spanC), .sl (p.re.kids.map Re.cells), iD p.re.mn, iD p.re.mx, iD p.re.mode, iD p.re.n, bD p.re.neg, iD p.caps, bD p.runes] := by
  unfold patC; rw [Re.cells_eq]; rfl

theorem all_ok : PureOK Try.prog 18 [] (i64 127) := by
  refine fn_ok Try.func18 rfl Try.ntmps18 Try.results18 rfl 0 1 (by simp) (by simp) ?_
  simp only [vsL, vsB, vsC, appendWp, Nat.reduceShiftRight, Nat.reduceMod, Nat.reduceLT, Nat.reduceMul, Nat.reduceSub, Int.reduceToNat, Int.reduceNeg, Int.reduceLT, Int.reduceLE, Int.reduceEq, Nat.reduceEqDiff, Nat.reduceAdd, Nat.reduceLeDiff, reduceIte, reduceCtorEq, Nat.reduceBEq, tysA, i64]

theorem quo_I64 {n : Int} (h : I64 n) : I64 (n.tdiv 2) := by
  unfold I64 at *
  rcases Int.le_total 0 n with h0 | h0
  · rw [Int.tdiv_eq_ediv_of_nonneg h0]; omega
  · have e : n.tdiv 2 = -((-n).tdiv 2) := by rw [Int.neg_tdiv, Int.neg_neg]
    rw [e, Int.tdiv_eq_ediv_of_nonneg (by omega)]; omega

set_option maxRecDepth 100000 in
set_option maxHeartbeats 8000000 in
theorem pairs_ok (l : List Int) (hl : ∀ x ∈ l, I64 x) (tat how by' : Int) (ha : I64 tat) (hh : I64 how) (hb : I64 by') : ∃ p2 p3 : Pat, p2.small 513 ∧ p3.small 1027 ∧
    PureOK Try.prog 27 [.d (intsD l), i64 tat, i64 how, i64 by'] (.d (.sl [patC (patOf l 127 30), patC p2, patC p3])) := by
  have h1 := pat_small l 127 30 hl (by omega) (by omega)
  have hp := pattern_ok l 127 30 hl (by omega) (by omega)
  generalize patOf l 127 30 = p1 at *
  obtain ⟨p2, s2, k2⟩ := spoilt_ok 256 (by omega) p1 h1 tat how by' ha hh hb
  obtain ⟨p3, s3, k3⟩ := spoilt_ok 513 (by omega) p2 s2 how tat (by'.tdiv 2) hh ha (quo_I64 hb)
  refine ⟨p2, p3, s2, s3, ?_⟩
  have w1 : IntKind.i64.wrap (by'.tdiv 2) = by'.tdiv 2 := w64 _ (quo_I64 hb)
  rw [patV_C] at hp k2 k3
  rw [patV_C p2] at k2
  rw [patV_C p3] at k3
  refine fn_ok Try.func27 rfl Try.ntmps27 Try.results27 rfl 0 1807 (by simp) (by simp) ?_
  simp only [vsL, vsB, vsC, appendWp, Nat.reduceShiftRight, Nat.reduceMod, Nat.reduceLT, Nat.reduceMul, Nat.reduceSub, Int.reduceToNat, Int.reduceNeg, Int.reduceLT, Int.reduceLE, Int.reduceEq, Nat.reduceEqDiff, Nat.reduceAdd, Nat.reduceLeDiff, reduceIte, reduceCtorEq, Nat.reduceBEq, tysA, i64]
  refine call_pure all_ok rfl rfl ?_
  simp only [vsL, vsB, vsC, appendWp, Nat.reduceShiftRight, Nat.reduceMod, Nat.reduceLT, Nat.reduceMul, Nat.reduceSub, Int.reduceToNat, Int.reduceNeg, Int.reduceLT, Int.reduceLE, Int.reduceEq, Nat.reduceEqDiff, Nat.reduceAdd, Nat.reduceLeDiff, reduceIte, reduceCtorEq, Nat.reduceBEq, tysA, i64]
  refine call_pure hp rfl (by simp only [refsV, refsV_go_d]) ?_
  simp only [vsL, vsB, vsC, appendWp, Nat.reduceShiftRight, Nat.reduceMod, Nat.reduceLT, Nat.reduceMul, Nat.reduceSub, Int.reduceToNat, Int.reduceNeg, Int.reduceLT, Int.reduceLE, Int.reduceEq, Nat.reduceEqDiff, Nat.reduceAdd, Nat.reduceLeDiff, reduceIte, reduceCtorEq, Nat.reduceBEq, tysA, i64, patC_eq p1, iD, bD]
  simp only [patC_eq p1, iD, bD, List.map_cons, List.map_nil, i64] at k2
  refine call_pure k2 (by simp [refsV, refsV.go]) (by simp only [refsV, refsV_go_d]) ?_
  simp only [vsL, vsB, vsC, appendWp, Nat.reduceShiftRight, Nat.reduceMod, Nat.reduceLT, Nat.reduceMul, Nat.reduceSub, Int.reduceToNat, Int.reduceNeg, Int.reduceLT, Int.reduceLE, Int.reduceEq, Nat.reduceEqDiff, Nat.reduceAdd, Nat.reduceLeDiff, reduceIte, reduceCtorEq, Nat.reduceBEq, tysA, i64, patC_eq p2, iD, bD]
  refine draw_c mix [] [] (by rfl) ?_
  simp only [vsL, vsB, vsC, appendWp, Nat.reduceShiftRight, Nat.reduceMod, Nat.reduceLT, Nat.reduceMul, Nat.reduceSub, Int.reduceToNat, Int.reduceNeg, Int.reduceLT, Int.reduceLE, Int.reduceEq, Nat.reduceEqDiff, Nat.reduceAdd, Nat.reduceLeDiff, reduceIte, reduceCtorEq, Nat.reduceBEq, tysA, i64, iD, bD, w1]
  simp only [patC_eq p2, iD, bD, List.map_cons, List.map_nil, i64] at k3
  refine callC_pure k3 (by simp [refsV, refsV.go]) (by simp only [refsV, refsV_go_d]) ?_
  simp only [vsL, vsB, vsC, appendWp, Nat.reduceShiftRight, Nat.reduceMod, Nat.reduceLT, Nat.reduceMul, Nat.reduceSub, Int.reduceToNat, Int.reduceNeg, Int.reduceLT, Int.reduceLE, Int.reduceEq, Nat.reduceEqDiff, Nat.reduceAdd, Nat.reduceLeDiff, reduceIte, reduceCtorEq, Nat.reduceBEq, tysA, i64, patC_eq p3, iD, bD, List.map_cons, List.map_nil]

theorem small_every_le {c c' : Nat} (h : c ≤ c') {p : Pat} (hp : p.small c) : p.small c' := ⟨every_mono' (smallB_mono h) _ hp.ev, Nat.le_trans hp.sz h, hp.caps⟩

theorem valid_val {p : Pat} (h : validR p = 0) : p.re.every valB = true := by
  unfold validR at h
  split at h
  · cases h
  · split at h
    · cases h
    · rename_i hc
      refine val_whole (caps := p.caps) (top := topR p.runes) ?_
      cases hw : p.re.whole p.caps (topR p.runes)
      · exact absurd (.inr (.inr hw)) hc
      · rfl

set_option maxRecDepth 100000 in
set_option maxHeartbeats 16000000 in
theorem astMeasures_ok (l : List Int) (hl : ∀ x ∈ l, I64 x) (tat how by' : Int) (ha : I64 tat) (hh : I64 how) (hb : I64 by') : PureOK Try.prog 5 [.d (intsD l), i64 tat, i64 how, i64 by'] (bV true) := by
  obtain ⟨p2, p3, s2, s3, hpairs⟩ := pairs_ok l hl tat how by' ha hh hb
  have s1 := pat_small l 127 30 hl (by omega) (by omega)
  generalize patOf l 127 30 = p1 at *
  have hps : ∀ p ∈ [p1, p2, p3], p.small 2000 := by
    intro p hp
    simp only [List.mem_cons, List.not_mem_nil, or_false] at hp
    rcases hp with rfl | rfl | rfl
    · exact small_every_le (by omega) s1
    · exact small_every_le (by omega) s2
    · exact small_every_le (by omega) s3
  have hmap : [patC p1, patC p2, patC p3] = [p1, p2, p3].map patC := rfl
  have hlen3 : ([p1, p2, p3] : List Pat).length = 3 := rfl
  rw [hmap] at hpairs
  generalize ([p1, p2, p3] : List Pat) = ps at *
  clear s1 s2 s3 hmap
  have hlv := lives_ok
  refine fn_ok Try.func5 rfl Try.ntmps5 Try.results5 rfl 0 65295 (by simp) (by simp) ?_
  simp only [vsL, vsB, vsC, appendWp, Nat.reduceShiftRight, Nat.reduceMod, Nat.reduceLT, Nat.reduceMul, Nat.reduceSub, Int.reduceToNat, Int.reduceNeg, Int.reduceLT, Int.reduceLE, Int.reduceEq, Nat.reduceEqDiff, Nat.reduceAdd, Nat.reduceLeDiff, reduceIte, reduceCtorEq, Nat.reduceBEq, tysA, i64]
  refine call_pure hpairs rfl rfl ?_
  simp only [vsL, vsB, vsC, appendWp, Nat.reduceShiftRight, Nat.reduceMod, Nat.reduceLT, Nat.reduceMul, Nat.reduceSub, Int.reduceToNat, Int.reduceNeg, Int.reduceLT, Int.reduceLE, Int.reduceEq, Nat.reduceEqDiff, Nat.reduceAdd, Nat.reduceLeDiff, reduceIte, reduceCtorEq, Nat.reduceBEq, tysA, i64]
  refine loop_rule (fun n e s => ∃ i : Nat, n = ps.length - i ∧ i ≤ ps.length ∧ e 9 = .d (.sl (ps.map patC)) ∧ e 10 = i64 i ∧ s = [])
    ⟨_, _, _, Cln.refl, 0, rfl, by omega, rfl, rfl, rfl⟩ ?_
  rintro n e s ⟨i, rfl, hi, h9, h10, rfl⟩
  rcases Nat.lt_or_ge i ps.length with hlt | hge
  · obtain ⟨p, hp⟩ : ∃ p, ps[i]? = some p := ⟨_, List.getElem?_eq_getElem hlt⟩
    have hsm := hps p (List.mem_of_getElem? hp)
    have hf := small_fine (by omega) p.re hsm.ev
    have hsz := hsm.sz
    have hval := refValid_ok p hf (by omega)
    rw [patV_C, patC_eq] at hval
    simp only [i64, iD, bD, List.map_cons, List.map_nil] at hval
    simp only [vsL, vsB, vsC, appendWp, Nat.reduceShiftRight, Nat.reduceMod, Nat.reduceLT, Nat.reduceMul, Nat.reduceSub, Int.reduceToNat, Int.reduceNeg, Int.reduceLT, Int.reduceLE, Int.reduceEq, Nat.reduceEqDiff, Nat.reduceAdd, Nat.reduceLeDiff, reduceIte, reduceCtorEq, Nat.reduceBEq, tysA, i64, h9, h10, hlt, hp, patC_len, patC_eq p, iD, bD]
    refine call_pure hval (by simp [refsV, refsV.go]) (by simp [refsV, refsV.go, reV_eq, i64, bV, reEl]) ?_
    by_cases hv : validR p = 0
    · have hvb := valid_val hv
      have hkb := every_mono' (fun _ => kid_of_val) p.re hvb
      have c1 := lengths_ok p.re hf
      have c2 := refLengths_ok p.re hf hkb
      rw [rlens_lens p.re hvb] at c2
      have c3 := uses_ok p.re hf
      rw [uses_eq p.re hvb] at c3
      have c4 := refUses_ok p.re (by omega)
      have c5 := nullable_ok p.re hf
      rw [anul_nul p.re hvb] at c5
      have c6 := refNullable_ok p.re (by omega)
      rw [reV_eq] at c1 c2 c3 c4 c5 c6
      simp only [i64, iD, bD] at c1 c2 c3 c4 c5 c6
      simp only [vsL, vsB, vsC, appendWp, Nat.reduceShiftRight, Nat.reduceMod, Nat.reduceLT, Nat.reduceMul, Nat.reduceSub, Int.reduceToNat, Int.reduceNeg, Int.reduceLT, Int.reduceLE, Int.reduceEq, Nat.reduceEqDiff, Nat.reduceAdd, Nat.reduceLeDiff, reduceIte, reduceCtorEq, Nat.reduceBEq, tysA, i64, hv, h9, h10, iD, bD]
      refine call_pure c1 (by simp [refsV, refsV.go, reV_eq, i64, bV, reEl]) (by simp [refsV, refsV.go, reV_eq, i64, bV, reEl]) ?_
      simp only [vsL, vsB, vsC, appendWp, Nat.reduceShiftRight, Nat.reduceMod, Nat.reduceLT, Nat.reduceMul, Nat.reduceSub, Int.reduceToNat, Int.reduceNeg, Int.reduceLT, Int.reduceLE, Int.reduceEq, Nat.reduceEqDiff, Nat.reduceAdd, Nat.reduceLeDiff, reduceIte, reduceCtorEq, Nat.reduceBEq, tysA, i64, h9, h10, iD, bD]
      refine call_pure c2 (by simp [refsV, refsV.go, reV_eq, i64, bV, reEl]) (by simp [refsV, refsV.go, reV_eq, i64, bV, reEl]) ?_
      simp only [vsL, vsB, vsC, appendWp, Nat.reduceShiftRight, Nat.reduceMod, Nat.reduceLT, Nat.reduceMul, Nat.reduceSub, Int.reduceToNat, Int.reduceNeg, Int.reduceLT, Int.reduceLE, Int.reduceEq, Nat.reduceEqDiff, Nat.reduceAdd, Nat.reduceLeDiff, reduceIte, reduceCtorEq, Nat.reduceBEq, tysA, i64, h9, h10, iD, bD]
      refine draw_c mix [] [] (by rfl) ?_
      simp only [vsL, vsB, vsC, appendWp, Nat.reduceShiftRight, Nat.reduceMod, Nat.reduceLT, Nat.reduceMul, Nat.reduceSub, Int.reduceToNat, Int.reduceNeg, Int.reduceLT, Int.reduceLE, Int.reduceEq, Nat.reduceEqDiff, Nat.reduceAdd, Nat.reduceLeDiff, reduceIte, reduceCtorEq, Nat.reduceBEq, tysA, i64, h9, h10, iD, bD]
      refine callC_pure c3 (by simp [refsV, refsV.go, reV_eq, i64, bV, reEl]) (by simp [refsV, refsV.go, reV_eq, i64, bV, reEl]) ?_
      simp only [vsL, vsB, vsC, appendWp, Nat.reduceShiftRight, Nat.reduceMod, Nat.reduceLT, Nat.reduceMul, Nat.reduceSub, Int.reduceToNat, Int.reduceNeg, Int.reduceLT, Int.reduceLE, Int.reduceEq, Nat.reduceEqDiff, Nat.reduceAdd, Nat.reduceLeDiff, reduceIte, reduceCtorEq, Nat.reduceBEq, tysA, i64, h9, h10, iD, bD]
      refine callC_pure c4 (by simp [refsV, refsV.go, reV_eq, i64, bV, reEl]) (by simp [refsV, refsV.go, reV_eq, i64, bV, reEl]) ?_
      simp only [vsL, vsB, vsC, appendWp, Nat.reduceShiftRight, Nat.reduceMod, Nat.reduceLT, Nat.reduceMul, Nat.reduceSub, Int.reduceToNat, Int.reduceNeg, Int.reduceLT, Int.reduceLE, Int.reduceEq, Nat.reduceEqDiff, Nat.reduceAdd, Nat.reduceLeDiff, reduceIte, reduceCtorEq, Nat.reduceBEq, tysA, i64, h9, h10, iD, bD]
      refine callC_pure c5 (by simp [refsV, refsV.go, reV_eq, i64, bV, reEl]) (by simp [refsV, refsV.go, reV_eq, i64, bV, reEl]) ?_
      simp only [vsL, vsB, vsC, appendWp, Nat.reduceShiftRight, Nat.reduceMod, Nat.reduceLT, Nat.reduceMul, Nat.reduceSub, Int.reduceToNat, Int.reduceNeg, Int.reduceLT, Int.reduceLE, Int.reduceEq, Nat.reduceEqDiff, Nat.reduceAdd, Nat.reduceLeDiff, reduceIte, reduceCtorEq, Nat.reduceBEq, tysA, i64, h9, h10, iD, bD]
      refine callC_pure c6 (by simp [refsV, refsV.go, reV_eq, i64, bV, reEl]) (by simp [refsV, refsV.go, reV_eq, i64, bV, reEl]) ?_
      simp only [vsL, vsB, vsC, appendWp, Nat.reduceShiftRight, Nat.reduceMod, Nat.reduceLT, Nat.reduceMul, Nat.reduceSub, Int.reduceToNat, Int.reduceNeg, Int.reduceLT, Int.reduceLE, Int.reduceEq, Nat.reduceEqDiff, Nat.reduceAdd, Nat.reduceLeDiff, reduceIte, reduceCtorEq, Nat.reduceBEq, tysA, i64, h9, h10, iD, bD, bV, beq_self_eq_true]
      refine ⟨ps.length - (i + 1), _, _, by omega, Cln.cut 0 (by omega) rfl rfl [9, 10] ?_, i + 1, rfl, hlt, ?_, ?_, rfl⟩ <;> (try simp only [keepE_app, List.contains_cons, List.contains_nil, Nat.reduceBEq, Bool.or_false, Bool.false_or, Bool.or_true, Bool.true_or, updE, trimE_upd, trimE_trim, trimE_app, Nat.reduceShiftRight, Nat.reduceMod, Nat.reduceEqDiff, if_true, if_false, reduceIte])
      · simp [updE, trimE_app, refsV, h9, h10, i64]
      · exact h9
      · rw [w64 _ (by omega)]; rfl
    · simp only [vsL, vsB, vsC, appendWp, Nat.reduceShiftRight, Nat.reduceMod, Nat.reduceLT, Nat.reduceMul, Nat.reduceSub, Int.reduceToNat, Int.reduceNeg, Int.reduceLT, Int.reduceLE, Int.reduceEq, Nat.reduceEqDiff, Nat.reduceAdd, Nat.reduceLeDiff, reduceIte, reduceCtorEq, Nat.reduceBEq, tysA, i64, hv, h9, h10, iD, bD]
      refine ⟨ps.length - (i + 1), _, _, by omega, Cln.cut 0 (by omega) rfl rfl [9, 10] ?_, i + 1, rfl, hlt, ?_, ?_, rfl⟩ <;> (try simp only [keepE_app, List.contains_cons, List.contains_nil, Nat.reduceBEq, Bool.or_false, Bool.false_or, Bool.or_true, Bool.true_or, updE, trimE_upd, trimE_trim, trimE_app, Nat.reduceShiftRight, Nat.reduceMod, Nat.reduceEqDiff, if_true, if_false, reduceIte])
      · simp [updE, trimE_app, refsV, h9, h10, i64]
      · exact h9
      · rw [w64 _ (by omega)]; rfl
  · have hie : i = ps.length := by omega
    subst hie
    simp only [vsL, vsB, vsC, appendWp, Nat.reduceShiftRight, Nat.reduceMod, Nat.reduceLT, Nat.reduceMul, Nat.reduceSub, Int.reduceToNat, Int.reduceNeg, Int.reduceLT, Int.reduceLE, Int.reduceEq, Nat.reduceEqDiff, Nat.reduceAdd, Nat.reduceLeDiff, reduceIte, reduceCtorEq, Nat.reduceBEq, tysA, i64, h9, h10, Nat.lt_irrefl]
    refine call_pure hlv rfl rfl ?_
    simp only [vsL, vsB, vsC, appendWp, Nat.reduceShiftRight, Nat.reduceMod, Nat.reduceLT, Nat.reduceMul, Nat.reduceSub, Int.reduceToNat, Int.reduceNeg, Int.reduceLT, Int.reduceLE, Int.reduceEq, Nat.reduceEqDiff, Nat.reduceAdd, Nat.reduceLeDiff, reduceIte, reduceCtorEq, Nat.reduceBEq, tysA, i64, bV]

end Go.Proofs.Ytafbdphblilenaa
