import Derived.Test.YtafbdphblilenaaF24
set_option linter.unusedSimpArgs false
set_option linter.unusedVariables false
namespace Go.Proofs.Ytafbdphblilenaa
open Go.VL

/-! ### The plain law of lengths -/

/-- A pair of lengths, and whether no symbol is enough. -/
structure LR (nul : Bool) (p : Int × Int) : Prop where
  a0 : 0 ≤ p.1
  a1 : p.1 ≤ 1000000
  b0 : -1 ≤ p.2
  b1 : p.2 ≤ 1000000
  ab : p.2 = -1 ∨ p.1 ≤ p.2
  nl : nul = true ↔ p.1 = 0

theorem lplus_in {a b : Int} (h1 : -1 ≤ a ∧ a ≤ 1000000) (h2 : -1 ≤ b ∧ b ≤ 1000000) : lplus a b = if a < 0 ∨ b < 0 then -1 else min (a + b) 1000000 := by
  unfold lplus
  rw [w64 _ (by omega)]

theorem cat_step {na nk : Bool} {a k : Int × Int} (ha : LR na a) (hk : LR nk k) : LR (na && nk) (lplus a.1 k.1, lplus a.2 k.2) := by
  obtain ⟨a0, a1, b0, b1, ab, nl⟩ := ha
  obtain ⟨c0, c1, d0, d1, cd, nl'⟩ := hk
  have e1 : lplus a.1 k.1 = min (a.1 + k.1) 1000000 := by rw [lplus_in ⟨by omega, a1⟩ ⟨by omega, c1⟩, if_neg (by omega)]
  have e2 := lplus_in ⟨b0, b1⟩ ⟨d0, d1⟩
  refine ⟨?_, ?_, ?_, ?_, ?_, ?_⟩ <;> simp only [e1, e2]
  · omega
  · omega
  · split <;> omega
  · split <;> omega
  · split <;> omega
  · rw [Bool.and_eq_true, nl, nl']; omega

theorem cat_foldl : ∀ (l : List (Bool × (Int × Int))) (na : Bool) (a : Int × Int), LR na a → (∀ x ∈ l, LR x.1 x.2) →
    LR (na && (l.map (·.1)).all id) ((l.map (·.2)).foldl (fun a k => (lplus a.1 k.1, lplus a.2 k.2)) a)
  | [], na, a, h, _ => by simpa using h
  | x :: l, na, a, h, hl => by
    have := cat_foldl l (na && x.1) _ (cat_step h (hl x (by simp))) (fun y hy => hl y (by simp [hy]))
    simpa [Bool.and_assoc] using this

theorem alt_step {na nk : Bool} {a k : Int × Int} (ha : LR na a) (hk : LR nk k) : LR (na || nk) (altF a k) := by
  obtain ⟨a0, a1, b0, b1, ab, nl⟩ := ha
  obtain ⟨c0, c1, d0, d1, cd, nl'⟩ := hk
  refine ⟨?_, ?_, ?_, ?_, ?_, ?_⟩ <;> simp only [altF, lgreater]
  · omega
  · omega
  · split <;> omega
  · split <;> omega
  · split <;> omega
  · rw [Bool.or_eq_true, nl, nl']; omega

theorem alt_foldl : ∀ (l : List (Bool × (Int × Int))) (na : Bool) (a : Int × Int), LR na a → (∀ x ∈ l, LR x.1 x.2) →
    LR (na || (l.map (·.1)).any id) ((l.map (·.2)).foldl altF a)
  | [], na, a, h, _ => by simpa using h
  | x :: l, na, a, h, hl => by
    have := alt_foldl l (na || x.1) _ (alt_step h (hl x (by simp))) (fun y hy => hl y (by simp [hy]))
    simpa [Bool.or_assoc] using this

theorem altF_self {n : Bool} {k : Int × Int} (h : LR n k) : altF k k = k := by
  obtain ⟨a0, a1, b0, b1, ab, nl⟩ := h
  refine Prod.ext ?_ ?_ <;> simp only [altF, lgreater]
  · omega
  · split <;> omega

/-- A product of a length. -/
theorem lt_nn {b n : Int} (h0 : 0 ≤ b) (h1 : b ≤ 1000000) (n0 : 0 ≤ n) (n1 : n ≤ 1000000) : ltimes b n = min (b * n) 1000000 := by
  have hle : b * n ≤ 1000000 * 1000000 := Int.mul_le_mul h1 n1 n0 (by omega)
  have hge : 0 ≤ b * n := Int.mul_nonneg h0 n0
  unfold ltimes
  split
  · rename_i h
    rcases h with h | h <;> subst h <;> simp <;> omega
  · rw [if_neg (by omega), w64 _ (by omega)]

theorem lt_neg {n : Int} (n0 : 0 < n) : ltimes (-1) n = -1 := by
  unfold ltimes
  rw [if_neg (by omega), if_pos (by omega)]

theorem lt_any {b : Int} (h : ¬ b = 0) : ltimes b (-1) = -1 := by
  unfold ltimes
  rw [if_neg (by omega), if_pos (by omega)]

theorem lt_zero (b : Int) : ltimes b 0 = 0 := by simp [ltimes]
theorem lt_zero' (n : Int) : ltimes 0 n = 0 := by simp [ltimes]

theorem lt_range {b n : Int} (h0 : -1 ≤ b) (h1 : b ≤ 1000000) (n0 : 0 ≤ n) (n1 : n ≤ 1000000) : -1 ≤ ltimes b n ∧ ltimes b n ≤ 1000000 ∧ (0 ≤ b → 0 ≤ ltimes b n) := by
  by_cases hb : b = -1
  · subst hb
    by_cases hn : n = 0
    · subst hn; rw [lt_zero]; omega
    · rw [lt_neg (by omega)]; omega
  · rw [lt_nn (by omega) h1 n0 n1]
    have := Int.mul_nonneg (show 0 ≤ b by omega) n0
    omega

theorem lt_m1 {n : Int} (n0 : 0 ≤ n) : ltimes (-1) n = if n = 0 then 0 else -1 := by
  split
  · rename_i h; rw [h, lt_zero]
  · exact lt_neg (by omega)

theorem lt_add {b n m : Int} (h0 : -1 ≤ b) (h1 : b ≤ 1000000) (n0 : 0 ≤ n) (m0 : 0 ≤ m) (hs : n + m ≤ 1000000) : lplus (ltimes b n) (ltimes b m) = ltimes b (n + m) := by
  have r1 := lt_range h0 h1 n0 (by omega)
  have r2 := lt_range h0 h1 m0 (by omega)
  rw [lplus_in ⟨r1.1, r1.2.1⟩ ⟨r2.1, r2.2.1⟩]
  by_cases hb : b = -1
  · subst hb
    rw [lt_m1 n0, lt_m1 m0, lt_m1 (show 0 ≤ n + m by omega)]
    (repeat' split) <;> omega
  · rw [lt_nn (by omega) h1 n0 (by omega), lt_nn (by omega) h1 m0 (by omega), lt_nn (by omega) h1 (by omega) hs, Int.mul_add]
    have p1 := Int.mul_nonneg (show 0 ≤ b by omega) n0
    have p2 := Int.mul_nonneg (show 0 ≤ b by omega) m0
    rw [if_neg (by omega)]
    omega

theorem lt_one {b : Int} (h0 : -1 ≤ b) (h1 : b ≤ 1000000) : ltimes b 1 = b := by
  by_cases hb : b = -1
  · subst hb; exact lt_neg (by omega)
  · rw [lt_nn (by omega) h1 (by omega) (by omega)]; omega

/-! ### What the generator makes -/

def genB (re : Re) : Bool := decide (re.set.length ≤ 10 ∧ re.kids.length ≤ 4 ∧ 0 ≤ re.op ∧ re.op ≤ 11 ∧ (re.op = 4 → re.kids.length = 1 ∧ 0 ≤ re.mn ∧ re.mn ≤ 2 ∧ (re.mx = -1 ∨ (1 ≤ re.mx ∧ re.mx ≤ 3 ∧ re.mn ≤ re.mx))) ∧
  (re.op = 3 ∨ re.op = 10 ∨ re.op = 5 ∨ re.op = 9 → re.kids ≠ []))

theorem every_mono {p q : Re → Bool} (h : ∀ re, p re = true → q re = true) (re : Re) (hp : re.every p = true) : re.every q = true := by
  revert hp
  refine Re.ind (Q := fun re => re.every p = true → re.every q = true) (fun re ih hp => ?_) re
  obtain ⟨h1, h2⟩ := (Re.every_iff re).1 hp
  exact (Re.every_iff re).2 ⟨h re h1, fun k hk => ih k hk (h2 k hk)⟩

theorem gen_exq (re : Re) (h : re.every genB = true) : re.every exq = true := by
  refine every_mono (fun re h => ?_) re h
  have := of_decide_eq_true h
  refine decide_eq_true ?_
  refine ⟨by omega, by omega, fun o => ?_⟩
  have := this.2.2.2.2.1 o
  omega

theorem nul_lens (re : Re) (h : re.every genB = true) : LR re.anul re.lens := by
  revert h
  refine Re.ind (Q := fun re => re.every genB = true → LR re.anul re.lens) (fun re ih h => ?_) re
  obtain ⟨h1, h2⟩ := (Re.every_iff re).1 h
  obtain ⟨_, _, o0, o11, h4, hne⟩ := of_decide_eq_true h1
  have hk : ∀ k ∈ re.kids, LR k.anul k.lens := fun k hk => ih k hk (h2 k hk)
  have hp : ∀ x ∈ re.kids.map (fun k => (k.anul, k.lens)), LR x.1 x.2 := fun x hx => by
    obtain ⟨k, hk', rfl⟩ := List.mem_map.1 hx
    exact hk k hk'
  rw [Re.anul_eq, Re.lens_eq]
  have m1 : (re.kids.map (fun k => (k.anul, k.lens))).map (·.1) = re.kids.map Re.anul := by simp
  have m2 : (re.kids.map (fun k => (k.anul, k.lens))).map (·.2) = re.kids.map Re.lens := by simp
  have alt : re.kids ≠ [] → LR ((re.kids.map Re.anul).any id) (altL (re.kids.map Re.lens)) := fun hn => by
    obtain ⟨k, l, hkl⟩ := List.exists_cons_of_ne_nil hn
    have hkk := hk k (by rw [hkl]; simp)
    have := alt_foldl (l.map fun k => (k.anul, k.lens)) k.anul k.lens hkk (fun x hx => by
      obtain ⟨y, hy, rfl⟩ := List.mem_map.1 hx
      exact hk y (by rw [hkl]; simp [hy]))
    rw [hkl]
    simp only [List.map_cons, altL, altF_self hkk, List.any_cons, id_eq]
    simpa [List.map_map, Function.comp_def] using this
  have hop : re.op = 0 ∨ re.op = 1 ∨ re.op = 2 ∨ re.op = 3 ∨ re.op = 4 ∨ re.op = 5 ∨ re.op = 6 ∨ re.op = 7 ∨ re.op = 8 ∨ re.op = 9 ∨ re.op = 10 ∨ re.op = 11 := by omega
  have zz : LR true (0, 0) := ⟨by decide, by decide, by decide, by decide, .inr (by decide), by decide⟩
  rcases hop with o | o | o | o | o | o | o | o | o | o | o | o
  · rw [o]; exact zz
  · have one : LR false (1, 1) := ⟨by decide, by decide, by decide, by decide, .inr (by decide), by decide⟩
    rw [o]; exact one
  · have := cat_foldl _ true (0, 0) zz hp
    rw [m1, m2, Bool.true_and] at this
    rw [o]; exact this
  · have := alt (hne (.inl o))
    rw [o]; exact this
  · obtain ⟨q1, q2, q3, q4⟩ := h4 o
    have := alt (by intro he; rw [he] at q1; cases q1)
    rw [o]
    simp only [anulOp, lensOp]
    generalize altL (re.kids.map Re.lens) = p at *
    generalize (re.kids.map Re.anul).any id = na at *
    obtain ⟨a0, a1, b0, b1, ab, nl⟩ := this
    have e1 := lt_nn a0 a1 q2 (by omega)
    have e2 : 0 ≤ p.1 * re.mn := Int.mul_nonneg a0 q2
    simp only [reduceCtorEq, Int.reduceEq, if_false, false_or, or_false, or_self, if_true, true_or, or_true]
    have key : (ltimes p.2 re.mx = -1 ∨ (0 ≤ ltimes p.2 re.mx ∧ ltimes p.1 re.mn ≤ ltimes p.2 re.mx)) ∧ ltimes p.2 re.mx ≤ 1000000 := by
      by_cases hm : re.mx = -1
      · rw [hm]
        by_cases hb : p.2 = 0
        · have ha : p.1 = 0 := by omega
          rw [hb, ha, lt_zero', lt_zero']; omega
        · rw [lt_any hb]; omega
      · have q5 : 1 ≤ re.mx ∧ re.mx ≤ 3 ∧ re.mn ≤ re.mx := by omega
        by_cases hb : p.2 = -1
        · rw [hb, lt_neg (by omega)]; omega
        · rw [lt_nn (by omega) b1 (by omega) (by omega), e1]
          have : p.1 * re.mn ≤ p.2 * re.mx := Int.mul_le_mul (by omega) q5.2.2 q2 (by omega)
          have := Int.mul_nonneg (show 0 ≤ p.2 by omega) (show 0 ≤ re.mx by omega)
          omega
    refine ⟨?_, ?_, ?_, key.2, ?_, ?_⟩ <;> simp only
    · rw [e1]; omega
    · rw [e1]; omega
    · omega
    · omega
    · rw [e1]
      split
      · rename_i hm
        rw [hm, Int.mul_zero]; exact ⟨fun _ => by omega, fun _ => rfl⟩
      · rename_i hm
        rw [nl]
        constructor
        · intro hz; rw [hz, Int.zero_mul]; omega
        · intro hz
          by_cases hz' : p.1 = 0
          · exact hz'
          · have : 0 < p.1 * re.mn := Int.mul_pos (by omega) (by omega)
            omega
  · have := alt (hne (.inr (.inr (.inl o))))
    rw [o]; exact this
  · have far : LR true (0, -1) := ⟨by decide, by decide, by decide, by decide, .inl (by decide), by decide⟩
    rw [o]; exact far
  · rw [o]; exact zz
  · rw [o]; exact zz
  · have := alt (hne (.inr (.inr (.inr o))))
    rw [o]; exact this
  · have := alt (hne (.inr (.inl o)))
    rw [o]; exact this
  · rw [o]; exact zz

/-! ### Expanding keeps the lengths -/

theorem cat_one {n : Bool} {p : Int × Int} (h : LR n p) : catL [p] = p := by
  obtain ⟨a0, a1, b0, b1, ab, nl⟩ := h
  refine Prod.ext ?_ ?_ <;> simp only [catL, List.foldl_cons, List.foldl_nil]
  · rw [lplus_in ⟨by omega, by omega⟩ ⟨by omega, a1⟩, if_neg (by omega)]; omega
  · rw [lplus_in ⟨by omega, by omega⟩ ⟨b0, b1⟩]; split <;> omega

theorem join_lens {l : List Re} (h : ∀ x ∈ l, ∃ n, LR n x.lens) : (joinR l).lens = catL (l.map Re.lens) := by
  unfold joinR
  split
  · rename_i x
    obtain ⟨n, hx⟩ := h x (by simp)
    rw [List.map_cons, List.map_nil, cat_one hx]
  · rw [Re.lens_eq]; rfl

theorem rept_lens {x : Re} {n : Bool} (hx : LR n x.lens) (most mode : Int) : (rept x most mode).lens = (0, ltimes x.lens.2 most) := by
  rw [Re.lens_eq]
  show (ltimes (altL [x.lens]).1 0, ltimes (altL [x.lens]).2 most) = _
  rw [altL_one, altF_self hx, lt_zero]

theorem rest_lens {x : Re} {n : Bool} (hx : LR n x.lens) (mode : Int) (j : Nat) : (j : Int) ≤ 1000 → (restR mode x j).lens = (0, ltimes x.lens.2 ((j : Int) + 1)) ∧ LR true (restR mode x j).lens := by
  induction j with
  | zero =>
    intro _
    have h := rept_lens hx 1 mode
    have e : (restR mode x 0).lens = (0, ltimes x.lens.2 1) := h
    refine ⟨by rw [e, show (((0 : Nat) : Int) + 1) = 1 by omega], ?_⟩
    rw [e, lt_one hx.b0 hx.b1]
    exact ⟨(by show (0 : Int) ≤ 0; omega), (by show (0 : Int) ≤ 1000000; omega), hx.b0, hx.b1, by have := hx.ab; have := hx.a0; simp only; omega, by simp⟩
  | succ j ih =>
    intro hj
    obtain ⟨h1, h2⟩ := ih (by omega)
    have hj' : (joinR [x, restR mode x j]).lens = (lplus (lplus 0 x.lens.1) 0, lplus (lplus 0 x.lens.2) (ltimes x.lens.2 (j + 1))) := by
      rw [join_lens (fun y hy => by
        rcases List.mem_cons.1 hy with rfl | hy
        · exact ⟨_, hx⟩
        · rw [List.mem_singleton.1 hy]; exact ⟨_, h2⟩)]
      simp only [List.map_cons, List.map_nil, catL, List.foldl_cons, List.foldl_nil, h1]
    have o1 := cat_one hx
    have o2 : lplus 0 x.lens.2 = x.lens.2 := by have := congrArg Prod.snd o1; simpa [catL] using this
    have o3 : lplus 0 x.lens.1 = x.lens.1 := by have := congrArg Prod.fst o1; simpa [catL] using this
    have o4 : lplus x.lens.1 0 = x.lens.1 := by rw [lplus_in ⟨by have := hx.a0; omega, hx.a1⟩ ⟨by omega, by omega⟩, if_neg (by have := hx.a0; omega)]; have := hx.a0; have := hx.a1; omega
    have o5 : lplus x.lens.2 (ltimes x.lens.2 (j + 1)) = ltimes x.lens.2 ((j + 1 : Nat) + 1) := by
      have := lt_add hx.b0 hx.b1 (n := 1) (m := (j : Int) + 1) (by omega) (by omega) (by omega)
      rw [lt_one hx.b0 hx.b1] at this
      rw [this]; congr 1; omega
    rw [o2, o3, o4, o5] at hj'
    have rg := lt_range hx.b0 hx.b1 (n := ((j + 1 : Nat) : Int) + 1) (by omega) (by omega)
    have hcat : LR (n && true) (joinR [x, restR mode x j]).lens := by
      rw [join_lens (fun y hy => by
        rcases List.mem_cons.1 hy with rfl | hy
        · exact ⟨_, hx⟩
        · rw [List.mem_singleton.1 hy]; exact ⟨_, h2⟩)]
      have := cat_foldl [(n, x.lens), (true, (restR mode x j).lens)] true (0, 0) ⟨by decide, by decide, by decide, by decide, .inr (by decide), by decide⟩ (fun y hy => by
        rcases List.mem_cons.1 hy with rfl | hy
        · exact hx
        · rw [List.mem_singleton.1 hy]; exact h2)
      simpa [catL] using this
    have e : (restR mode x (j + 1)).lens = (0, ltimes (joinR [x, restR mode x j]).lens.2 1) := rept_lens hcat 1 mode
    rw [lt_one hcat.b0 hcat.b1, hj'] at e
    refine ⟨e, ?_⟩
    rw [e]
    exact ⟨(by show (0 : Int) ≤ 0; omega), (by show (0 : Int) ≤ 1000000; omega), rg.1, rg.2.1, by have := rg.2.2; simp only; by_cases hb : 0 ≤ x.lens.2; exact .inr (this hb); (left; rw [show x.lens.2 = -1 by have := hx.b0; omega]; exact lt_neg (by omega)), by simp⟩

theorem cat_rep {n : Bool} {p : Int × Int} (h : LR n p) (k : Nat) : (k : Int) ≤ 1000 → catL (List.replicate k p) = (ltimes p.1 k, ltimes p.2 k) := by
  induction k with
  | zero => intro _; simp [catL, lt_zero]
  | succ k ih =>
    intro hk
    have a0 := h.a0
    rw [List.replicate_succ', catL_snoc, ih (by omega)]
    have e1 := lt_add (b := p.1) (by omega) h.a1 (n := k) (m := 1) (by omega) (by omega) (by omega)
    have e2 := lt_add (b := p.2) h.b0 h.b1 (n := k) (m := 1) (by omega) (by omega) (by omega)
    rw [lt_one (by omega) h.a1] at e1
    rw [lt_one h.b0 h.b1] at e2
    rw [show ((k + 1 : Nat) : Int) = (k : Int) + 1 by omega]
    simp only [e1, e2]

theorem unroll_lens {re x : Re} {n : Bool} (hx : LR n x.lens) (h0 : 0 ≤ re.mn) (h1 : re.mn ≤ 2) (h2 : re.mx = -1 ∨ (1 ≤ re.mx ∧ re.mx ≤ 3 ∧ re.mn ≤ re.mx)) : (unrollR re x).lens = (ltimes x.lens.1 re.mn, ltimes x.lens.2 re.mx) := by
  have a0 := hx.a0
  have a1 := hx.a1
  have b0 := hx.b0
  have b1 := hx.b1
  have hm : (re.mn.toNat : Int) = re.mn := Int.toNat_of_nonneg h0
  have hrep := cat_rep hx re.mn.toNat (by omega)
  rw [hm] at hrep
  have r1 := lt_range (b := x.lens.1) (by omega) a1 h0 (by omega)
  have r2 := lt_range (b := x.lens.2) b0 b1 h0 (by omega)
  have p0 : lplus (ltimes x.lens.1 re.mn) 0 = ltimes x.lens.1 re.mn := by
    have := r1.2.2 a0
    rw [lplus_in ⟨r1.1, r1.2.1⟩ ⟨by omega, by omega⟩, if_neg (by omega)]; omega
  have mem : ∀ l : List Re, (∀ y ∈ l, ∃ k, LR k y.lens) → ∀ y ∈ List.replicate re.mn.toNat x ++ l, ∃ k, LR k y.lens := fun l hl y hy => by
    rcases List.mem_append.1 hy with hy | hy
    · rw [(List.mem_replicate.1 hy).2]; exact ⟨_, hx⟩
    · exact hl y hy
  unfold unrollR
  by_cases hm1 : re.mx = -1
  · rw [if_pos hm1]
    have er := rept_lens hx (-1) re.mode
    rw [join_lens (mem _ (fun y hy => by
      rw [List.mem_singleton.1 hy, er]
      refine ⟨true, (by show (0 : Int) ≤ 0; omega), (by show (0 : Int) ≤ 1000000; omega), ?_, ?_, ?_, by simp⟩ <;> simp only
      all_goals
        by_cases hb : x.lens.2 = 0
        · rw [hb, lt_zero']; simp
        · rw [lt_any hb]; simp))]
    rw [List.map_append, List.map_replicate, List.map_cons, List.map_nil, catL_snoc, hrep, er, hm1]
    simp only [p0]
    congr 1
    by_cases hb : x.lens.2 = 0
    · rw [hb, lt_zero', lt_zero', lplus_in (by omega) (by omega)]; simp; omega
    · rw [lt_any hb, lplus_in ⟨r2.1, r2.2.1⟩ (by omega), if_pos (by omega)]
  · rw [if_neg hm1]
    obtain ⟨q1, q2, q3⟩ : 1 ≤ re.mx ∧ re.mx ≤ 3 ∧ re.mn ≤ re.mx := by omega
    by_cases hm2 : re.mn < re.mx
    · rw [if_pos hm2]
      have hd : ((re.mx - re.mn - 1).toNat : Int) = re.mx - re.mn - 1 := Int.toNat_of_nonneg (by omega)
      obtain ⟨er, hr⟩ := rest_lens hx re.mode (re.mx - re.mn - 1).toNat (by omega)
      rw [hd] at er
      rw [join_lens (mem _ (fun y hy => by rw [List.mem_singleton.1 hy]; exact ⟨_, hr⟩))]
      rw [List.map_append, List.map_replicate, List.map_cons, List.map_nil, catL_snoc, hrep, er]
      simp only [p0]
      congr 1
      rw [lt_add b0 b1 h0 (by omega) (by omega)]
      congr 1; omega
    · rw [if_neg hm2]
      have he : re.mx = re.mn := by omega
      rw [join_lens (mem [] (fun y hy => by cases hy)), List.append_nil, List.map_replicate, hrep, he]

theorem exp_lens (re : Re) (h : re.every genB = true) : re.exp.lens = re.lens := by
  revert h
  refine Re.ind (Q := fun re => re.every genB = true → re.exp.lens = re.lens) (fun re ih h => ?_) re
  obtain ⟨h1, h2⟩ := (Re.every_iff re).1 h
  obtain ⟨_, _, o0, o11, h4, hne⟩ := of_decide_eq_true h1
  by_cases hk : re.op = 4 ∧ re.kept = false
  · obtain ⟨q1, q2, q3, q4⟩ := h4 hk.1
    obtain ⟨k, hk1⟩ : ∃ k, re.kids = [k] := List.length_eq_one_iff.1 q1
    have hkm : k ∈ re.kids := by rw [hk1]; simp
    have hkl := ih k hkm (h2 k hkm)
    have hlr := nul_lens k (h2 k hkm)
    rw [Re.exp_un hk.1 hk.2 hk1, unroll_lens (n := k.anul) (by rw [hkl]; exact hlr) q2 q3 q4, hkl, Re.lens_eq re, hk1, hk.1]
    show _ = (ltimes (altL [k.lens]).1 re.mn, ltimes (altL [k.lens]).2 re.mx)
    rw [altL_one, altF_self hlr]
  · rw [Re.exp_keep (by
      by_cases o : re.op = 4
      · right; cases hkk : re.kept with
        | true => rfl
        | false => exact absurd ⟨o, hkk⟩ hk
      · exact .inl o), Re.lens_eq, Re.lens_eq re]
    show lensOp re.op re.mn re.mx ((re.kids.map Re.exp).map Re.lens) = _
    rw [List.map_map]
    congr 1
    exact List.map_congr_left fun k hk' => ih k hk' (h2 k hk')

end Go.Proofs.Ytafbdphblilenaa
