/- A part of the proof (G31 G42 G43 G44 G45 G46 G47 G48). -/
import Derived.Test.YtilapneoohcplaaBO12
import Derived.Test.YtilapneoohcplaaBO23
set_option linter.unusedSimpArgs false
set_option linter.unusedVariables false
set_option maxRecDepth 100000
set_option maxHeartbeats 80000000
namespace Go.Proofs.Ytilapneoohcplaa
open Go.VL Go.Proofs.Try
structure Mst.Fr (m m' : Mst) : Prop where
 p : m'.p = m.p
 t : m'.t = m.t
 ownText : m'.ownText = m.ownText
 own : m'.own = m.own
 ogen : m'.ogen = m.ogen
 start : m'.start = m.start
 fuel : m'.fuel = m.fuel
 ready : m'.ready = m.ready
theorem Mst.Fr.refl (m : Mst) : m.Fr m := ⟨rfl, rfl, rfl, rfl, rfl, rfl, rfl, rfl⟩
theorem Mst.Fr.trans {m m1 m2 : Mst} (h : m.Fr m1) (k : m1.Fr m2) : m.Fr m2 :=
 ⟨k.p.trans h.p, k.t.trans h.t, k.ownText.trans h.ownText, k.own.trans h.own, k.ogen.trans h.ogen, k.start.trans h.start, k.fuel.trans h.fuel, k.ready.trans h.ready⟩
theorem Mst.fr_step (m : Mst) : m.Fr m.step := by
 unfold Mst.step; split <;> exact ⟨rfl, rfl, rfl, rfl, rfl, rfl, rfl, rfl⟩
theorem Mst.fr_push (m : Mst) (p : BPlace) : m.Fr (m.push p) := ⟨rfl, rfl, rfl, rfl, rfl, rfl, rfl, rfl⟩
theorem Mst.fr_clear (m : Mst) (n : Nat) : m.Fr (m.clear n) := ⟨rfl, rfl, rfl, rfl, rfl, rfl, rfl, rfl⟩
theorem Mst.fr_pop (m : Mst) : m.Fr m.pop := ⟨rfl, rfl, rfl, rfl, rfl, rfl, rfl, rfl⟩
theorem fr_first {rec : Rec} (h : ∀ m base p x, rec m base p = some x → m.Fr x.1) {m : Mst} {p : BPlace} {x : Rs} (hx : firstB rec m p = some x) : m.Fr x.1 := by
 unfold firstB at hx
 split at hx
 ·cases hx
 ·rename_i m1 p1 f h1
  split at hx
  ·cases hx
  ·cases hx
   exact (h _ _ _ _ h1).trans (Mst.fr_clear _ _)
theorem fr_alone {rec : Rec} (h : ∀ m base p x, rec m base p = some x → m.Fr x.1) {m : Mst} {p : BPlace} {part : BGoal} {x : Rs} (hx : aloneB rec m p part = some x) : m.Fr x.1 := by
 unfold aloneB at hx
 split at hx
 ·cases hx
 ·rename_i m1 p1 f h1
  cases hx
  have := fr_first h h1
  exact this
theorem fr_look {f : Int → Mst → Option Rs} (h : ∀ k m x, f k m = some x → m.Fr x.1) {neg : Bool} {p : BPlace} {last : Int} : ∀ (j : Nat) (m : Mst) (x : Rs), lookB f neg p last j m = some x → m.Fr x.1
 | 0, m, x, hx => by simp only [lookB] at hx; cases hx; exact .refl _
 | j + 1, m, x, hx => by
  simp only [lookB] at hx
  split at hx
  ·cases hx; exact .refl _
  ·split at hx
   ·cases hx
   ·rename_i m1 r found h1
    split at hx
    ·split at hx
     ·cases hx; have := h _ _ _ h1; exact this
     ·cases hx; have := h _ _ _ h1; exact this
    ·exact (h _ _ _ h1).trans (fr_look h j m1 x hx)
theorem fr_begin {rec : Rec} (h : ∀ m base p x, rec m base p = some x → m.Fr x.1) {m : Mst} {r : BRef} {p : BPlace} {x : Rs} (hx : beginB rec m r p = some x) : m.Fr x.1 := by
 have hs := Mst.fr_step m
 unfold beginB at hx
 split at hx
 ·cases hx
 rename_i re hre
 simp only at hx
 by_cases c0 : 1000000000 < re.set.length ∨ 1000000000 < re.kids.length
 ·rw [if_pos c0] at hx; cases hx
 rw [if_neg c0] at hx
 by_cases c4 : re.op = 4
 ·rw [if_pos c4] at hx
  split at hx
  ·exact fr_alone h hx
  ·cases hx; exact .refl _
 rw [if_neg c4] at hx
 by_cases cf : m.fuel ≤ m.steps
 ·rw [if_pos cf] at hx; cases hx; exact hs
 rw [if_neg cf] at hx
 by_cases c1 : re.op = 1
 ·rw [if_pos c1] at hx; cases hx; exact hs
 rw [if_neg c1] at hx
 by_cases c2 : re.op = 2
 ·rw [if_pos c2] at hx; cases hx; exact hs
 rw [if_neg c2] at hx
 by_cases c3 : re.op = 3
 ·rw [if_pos c3] at hx; cases hx; exact hs
 rw [if_neg c3] at hx
 by_cases c5 : re.op = 5
 ·rw [if_pos c5] at hx
  split at hx
  ·cases hx
  ·cases hx; exact hs
 rw [if_neg c5] at hx
 by_cases c6 : re.op = 6
 ·rw [if_pos c6] at hx
  split at hx
  ·cases hx
  ·cases hx; exact hs
 rw [if_neg c6] at hx
 by_cases c7 : re.op = 7 ∨ re.op = 8
 ·rw [if_pos c7] at hx
  split at hx
  ·cases hx
  ·unfold behindB at hx
   exact hs.trans (fr_look (fun _ _ _ h1 => fr_first h h1) _ _ _ hx)
 rw [if_neg c7] at hx
 by_cases c9 : re.op = 9
 ·rw [if_pos c9] at hx
  split at hx
  ·cases hx
  ·exact hs.trans (fr_alone h hx)
 rw [if_neg c9] at hx
 by_cases c10 : re.op = 10
 ·rw [if_pos c10] at hx
  split at hx
  ·split at hx
   ·cases hx
   ·cases hx; exact hs
  ·cases hx
 rw [if_neg c10] at hx
 split at hx
 ·split at hx
  ·cases hx
  ·cases hx; exact hs
 ·cases hx; exact hs
theorem fr_round {m : Mst} {r : BRef} {n : Int} {p : BPlace} {x : Rs} (hx : roundB m r n p = some x) : m.Fr x.1 := by
 have hs := Mst.fr_step m
 unfold roundB at hx
 simp only at hx
 repeat' (first
  |(cases hx; done)
  |(cases hx; exact hs)
  |(cases hx; exact hs.trans (Mst.fr_push _ _))
  | split at hx)
theorem fr_adv {rec : Rec} (h : ∀ m base p x, rec m base p = some x → m.Fr x.1) {m : Mst} {p : BPlace} {x : Rs} (hx : advB rec m p = some x) : m.Fr x.1 := by
 unfold advB at hx
 split at hx
 ·cases hx
 split at hx
 ·cases hx
 simp only at hx
 repeat' (first
  |(cases hx; done)
  |(cases hx; exact .refl _)
  | exact fr_begin h hx
  | exact fr_round hx
  |(cases hx; split; exact Mst.fr_push _ _; exact .refl _)
  | split at hx)
theorem fr_srch : ∀ (k : Nat) (out : Bool) (m : Mst) (base : Nat) (p : BPlace) (alive : Bool) (x : Rs), srchB k out m base p alive = some x → m.Fr x.1
 | 0, _, _, _, _, _, _, hx => by cases hx
 | k + 1, out, m, base, p, alive, x, hx => by
  simp only [srchB] at hx
  split at hx
  ·cases hx; exact .refl _
  split at hx
  ·split at hx
   ·cases hx
   ·rename_i m1 p1 a1 h1
    exact (fr_adv (fun m base p x h => fr_srch k true m base p true x h) h1).trans (fr_srch k false m1 base p1 a1 x hx)
  split at hx
  ·cases hx; exact .refl _
  split at hx
  ·cases hx; exact .refl _
  split at hx
  ·cases hx
  split at hx
  ·cases hx
  ·cases hx
  ·rename_i last _
   exact m.fr_pop.trans (fr_srch k true m.pop base last true x hx)
section mono
variable {rec rec' : Rec} (h : ∀ m base p x, rec m base p = some x → rec' m base p = some x)
include h
theorem firstB_mono {m : Mst} {p : BPlace} {x : Rs} (hx : firstB rec m p = some x) : firstB rec' m p = some x := by
 unfold firstB at hx ⊢
 cases hr : rec m m.top p with
 | none => rw [hr] at hx; cases hx
 | some y => rw [hr] at hx; rw [h _ _ _ _ hr]; exact hx
theorem aloneB_mono {m : Mst} {p : BPlace} {part : BGoal} {x : Rs} (hx : aloneB rec m p part = some x) : aloneB rec' m p part = some x := by
 unfold aloneB at hx ⊢
 cases hr : firstB rec m { p with todo := part } with
 | none => rw [hr] at hx; cases hx
 | some y => rw [hr] at hx; rw [firstB_mono h hr]; exact hx
omit h in
theorem lookB_mono {f f' : Int → Mst → Option Rs} (hf : ∀ k m x, f k m = some x → f' k m = some x) {neg : Bool} {p : BPlace} {last : Int} : ∀ (j : Nat) (m : Mst) (x : Rs), lookB f neg p last j m = some x → lookB f' neg p last j m = some x
 | 0, _, _, hx => hx
 | j + 1, m, x, hx => by
  simp only [lookB] at hx ⊢
  by_cases hs : m.spent = true
  ·rw [if_pos hs] at hx ⊢; exact hx
  ·rw [if_neg hs] at hx ⊢
   cases hr : f (last + j) m with
   | none => rw [hr] at hx; cases hx
   | some y =>
    rw [hr] at hx
    rw [hf _ _ _ hr]
    obtain ⟨m1, r, found⟩ := y
    simp only at hx ⊢
    cases found with
    | true => exact hx
    | false =>
     simp only [Bool.false_eq_true, if_false] at hx ⊢
     exact lookB_mono hf j m1 x hx
theorem beginB_mono {m : Mst} {r : BRef} {p : BPlace} {x : Rs} (hx : beginB rec m r p = some x) : beginB rec' m r p = some x := by
 unfold beginB at hx ⊢
 cases hl : m.lit r with
 | none => rw [hl] at hx; cases hx
 | some re =>
  rw [hl] at hx
  simp only at hx ⊢
  by_cases c0 : 1000000000 < re.set.length ∨ 1000000000 < re.kids.length
  ·rw [if_pos c0] at hx; cases hx
  rw [if_neg c0] at hx ⊢
  by_cases c4 : re.op = 4
  ·rw [if_pos c4] at hx ⊢
   by_cases cm : re.mode = 2
   ·rw [if_pos cm] at hx ⊢; exact aloneB_mono h hx
   ·rw [if_neg cm] at hx ⊢; exact hx
  rw [if_neg c4] at hx ⊢
  by_cases cf : m.fuel ≤ m.steps
  ·rw [if_pos cf] at hx ⊢; exact hx
  rw [if_neg cf] at hx ⊢
  by_cases c1 : re.op = 1
  ·rw [if_pos c1] at hx ⊢; exact hx
  rw [if_neg c1] at hx ⊢
  by_cases c2 : re.op = 2
  ·rw [if_pos c2] at hx ⊢; exact hx
  rw [if_neg c2] at hx ⊢
  by_cases c3 : re.op = 3
  ·rw [if_pos c3] at hx ⊢; exact hx
  rw [if_neg c3] at hx ⊢
  by_cases c5 : re.op = 5
  ·rw [if_pos c5] at hx ⊢; exact hx
  rw [if_neg c5] at hx ⊢
  by_cases c6 : re.op = 6
  ·rw [if_pos c6] at hx ⊢; exact hx
  rw [if_neg c6] at hx ⊢
  by_cases c7 : re.op = 7 ∨ re.op = 8
  ·rw [if_pos c7] at hx ⊢
   cases hk : re.kids with
   | nil => rw [hk] at hx; cases hx
   | cons kid l =>
    rw [hk] at hx
    simp only at hx ⊢
    unfold behindB at hx ⊢
    exact lookB_mono (fun k m x hx => firstB_mono h hx) _ _ _ hx
  rw [if_neg c7] at hx ⊢
  by_cases c9 : re.op = 9
  ·rw [if_pos c9] at hx ⊢
   cases hk : re.kids with
   | nil => rw [hk] at hx; cases hx
   | cons kid l =>
    rw [hk] at hx
    exact aloneB_mono h hx
  rw [if_neg c9] at hx ⊢
  exact hx
theorem advB_mono {m : Mst} {p : BPlace} {x : Rs} (hx : advB rec m p = some x) : advB rec' m p = some x := by
 unfold advB at hx ⊢
 by_cases c : m.good p
 ·rw [if_neg (by simpa using c)] at hx ⊢
  obtain ⟨pa, pc, todo⟩ := p
  cases todo with
  | nil => cases hx
  | mk kind r n at_ next =>
   simp only at hx ⊢
   by_cases k0 : kind = 0
   ·rw [if_pos k0] at hx ⊢; exact beginB_mono h hx
   ·rw [if_neg k0] at hx ⊢; exact hx
 ·rw [if_pos (by simpa using c)] at hx; cases hx
end mono
theorem srchB_succ : ∀ (k : Nat) (out : Bool) (m : Mst) (base : Nat) (p : BPlace) (alive : Bool) (x : Rs), srchB k out m base p alive = some x → srchB (k + 1) out m base p alive = some x
 | 0, _, _, _, _, _, _, hx => by cases hx
 | k + 1, out, m, base, p, alive, x, hx => by
  rw [srchB.eq_2] at hx ⊢
  by_cases c1 : out = true ∧ m.spent = true
  ·rw [if_pos c1] at hx ⊢; exact hx
  rw [if_neg c1] at hx ⊢
  by_cases c2 : alive = true ∧ p.goals = true
  ·rw [if_pos c2] at hx ⊢
   cases hr : advB (fun m base p => srchB k true m base p true) m p with
   | none => rw [hr] at hx; cases hx
   | some y =>
    rw [hr] at hx
    rw [advB_mono (rec' := fun m base p => srchB (k + 1) true m base p true) (fun m base p x hx => srchB_succ k true m base p true x hx) hr]
    obtain ⟨m1, p1, a1⟩ := y
    exact srchB_succ k false m1 base p1 a1 x hx
  rw [if_neg c2] at hx ⊢
  by_cases c3 : alive = true
  ·rw [if_pos c3] at hx ⊢; exact hx
  rw [if_neg c3] at hx ⊢
  by_cases c4 : m.top = base
  ·rw [if_pos c4] at hx ⊢; exact hx
  rw [if_neg c4] at hx ⊢
  by_cases c5 : m.top = 0 ∨ m.stk.length < m.top ∨ 1200000000000 < m.top
  ·rw [if_pos c5] at hx; cases hx
  rw [if_neg c5] at hx ⊢
  cases hl : m.stk[m.top - 1]? with
  | none => rw [hl] at hx; cases hx
  | some o =>
   rw [hl] at hx
   cases o with
   | none => cases hx
   | some last => exact srchB_succ k true m.pop base last true x hx
theorem srchB_mono {k k' : Nat} (hk : k ≤ k') {out : Bool} {m : Mst} {base : Nat} {p : BPlace} {alive : Bool} {x : Rs} (hx : srchB k out m base p alive = some x) : srchB k' out m base p alive = some x := by
 induction hk with
 | refl => exact hx
 | step _ ih => exact srchB_succ _ _ _ _ _ _ _ ih
theorem srchB_det {k k' : Nat} {out : Bool} {m : Mst} {base : Nat} {p : BPlace} {alive : Bool} {x x' : Rs} (h1 : srchB k out m base p alive = some x) (h2 : srchB k' out m base p alive = some x') : x = x' := by
 have e1 := srchB_mono (Nat.le_max_left k k') h1
 have e2 := srchB_mono (Nat.le_max_right k k') h2
 rw [e1] at e2
 exact Option.some.inj e2
def Ev (m : Mst) (base : Nat) (p : BPlace) (alive : Bool) (x : Rs) : Prop := ∃ k, srchB k false m base p alive = some x
def Adv (m : Mst) (p : BPlace) (x : Rs) : Prop := ∃ k, advB (fun m base p => srchB k true m base p true) m p = some x
theorem ev_adv {m : Mst} {base : Nat} {p : BPlace} {y : Rs} {x : Rs} (hg : p.goals = true) (ha : Adv m p y) (he : Ev y.1 base y.2.1 y.2.2 x) : Ev m base p true x := by
 obtain ⟨k1, h1⟩ := ha
 obtain ⟨k2, h2⟩ := he
 refine ⟨max k1 k2 + 1, ?_⟩
 simp only [srchB]
 rw [if_neg (fun h => by cases h.1), if_pos ⟨trivial, hg⟩, advB_mono (rec' := fun m base p => srchB (max k1 k2) true m base p true) (fun m base p x hx => srchB_mono (Nat.le_max_left _ _) hx) h1]
 exact srchB_mono (Nat.le_max_right _ _) h2
theorem ev_found {m : Mst} {base : Nat} {p : BPlace} (hg : p.goals = false) : Ev m base p true (m, p, !m.spent) := by
 refine ⟨1, ?_⟩
 simp only [srchB]
 rw [if_neg (fun h => by cases h.1), if_neg (fun h => by rw [hg] at h; cases h.2), if_pos trivial]
theorem ev_none {m : Mst} {base : Nat} {p : BPlace} (hb : m.top = base) : Ev m base p false (m, .zero, false) := by
 refine ⟨1, ?_⟩
 simp only [srchB]
 rw [if_neg (fun h => by cases h.1), if_neg (fun h => by cases h.1), if_neg (fun h => by cases h), if_pos hb]
def Stk (m : Mst) (S : List BPlace) : Prop := m.stk.take m.top = S.map some ∧ m.top = S.length ∧ m.top ≤ 1200000000000
theorem Stk.len {m : Mst} {S : List BPlace} (h : Stk m S) : m.top ≤ m.stk.length := by
 have := congrArg List.length h.1
 rw [List.length_take, List.length_map, ← h.2.1] at this
 omega
theorem Stk.last {m : Mst} {S : List BPlace} {q : BPlace} (h : Stk m (S ++ [q])) : m.stk[m.top - 1]? = some (some q) ∧ Stk m.pop S := by
 have hl := h.len
 have ht : m.top = S.length + 1 := by rw [h.2.1]; simp
 have hg : (m.stk.take m.top)[m.top - 1]? = some (some q) := by
  rw [h.1, ht]; simp
 refine ⟨by rw [List.getElem?_take] at hg; rwa [if_pos (by omega)] at hg, ?_, ?_, ?_⟩
 ·show (m.stk.set (m.top - 1) none).take (m.top - 1) = S.map some
  rw [List.take_set_of_le (Nat.le_refl _)]
  have : m.stk.take (m.top - 1) = (m.stk.take m.top).take (m.top - 1) := by rw [List.take_take]; congr 1; omega
  rw [this, h.1, ht]; simp
 ·show m.top - 1 = S.length; omega
 ·show m.top - 1 ≤ 1200000000000; have := h.2.2; omega
theorem Stk.push {m : Mst} {S : List BPlace} (h : Stk m S) (q : BPlace) (hl : S.length + 1 ≤ 1200000000000) : Stk (m.push q) (S ++ [q]) := by
 refine ⟨?_, ?_, ?_⟩
 ·show (m.stk.take m.top ++ [some q]).take (m.top + 1) = _
  rw [h.1, List.take_of_length_le (by rw [List.length_append, List.length_map, h.2.1]; simp)]
  simp
 ·show m.top + 1 = _; rw [h.2.1]; simp
 ·show m.top + 1 ≤ _; rw [h.2.1]; exact hl
theorem Stk.clear {m : Mst} {S S' : List BPlace} (h : Stk m (S ++ S')) : Stk (m.clear S.length) S := by
 have hl := h.len
 have ht := h.2.1
 rw [List.length_append] at ht
 refine ⟨?_, rfl, ?_⟩
 ·show (m.stk.take S.length ++ (List.replicate (m.top - S.length) none ++ m.stk.drop m.top)).take S.length = _
  rw [List.take_append_of_le_length (by rw [List.length_take]; omega), List.take_take, Nat.min_self]
  have : m.stk.take S.length = (m.stk.take m.top).take S.length := by rw [List.take_take]; congr 1; omega
  rw [this, h.1]; simp
 ·show S.length ≤ _; have := h.2.2; omega
theorem ev_pop {m : Mst} {base : Nat} {p q : BPlace} {S : List BPlace} {x : Rs} (hS : Stk m (S ++ [q])) (hb : base ≤ S.length) (hs : m.spent = false) (he : Ev m.pop base q true x) : Ev m base p false x := by
 obtain ⟨k, hk⟩ := he
 have hl := hS.len
 have ht : m.top = S.length + 1 := by rw [hS.2.1]; simp
 refine ⟨k + 1, ?_⟩
 simp only [srchB]
 rw [if_neg (fun h => by cases h.1), if_neg (fun h => by cases h.1), if_neg (fun h => by cases h), if_neg (by omega), if_neg (by have := hS.2.2; omega), hS.last.1]
 simp only
 have : srchB k true m.pop base q true = srchB k false m.pop base q true := by
  cases k with
  | zero => rfl
  | succ k =>
   rw [srchB.eq_2, srchB.eq_2]
   rw [if_neg (show ¬ (true = true ∧ m.pop.spent = true) from fun h => by have h2 := h.2; rw [show m.pop.spent = false from hs] at h2; cases h2), if_neg (show ¬ (false = true ∧ m.pop.spent = true) from fun h => by cases h.1)]
 rw [this]; exact hk
inductive Runs (base : Nat) : Mst → BPlace → Bool → List (Int × CapsL) → Mst → BPlace → Bool → Prop where
 | refl (m : Mst) (p : BPlace) (al : Bool) : Runs base m p al [] m p al
 | adv {m : Mst} {p : BPlace} {m1 : Mst} {p1 : BPlace} {al1 : Bool} {R : List (Int × CapsL)} {m' : Mst} {p' : BPlace} {al' : Bool} (hg : p.goals = true) (ha : Adv m p (m1, p1, al1)) (h : Runs base m1 p1 al1 R m' p' al') : Runs base m p true R m' p' al'
 | pop {m : Mst} {p q : BPlace} {S : List BPlace} {R : List (Int × CapsL)} {m' : Mst} {p' : BPlace} {al' : Bool} (hS : Stk m (S ++ [q])) (hb : base ≤ S.length) (hs : m.spent = false) (h : Runs base m.pop q true R m' p' al') : Runs base m p false R m' p' al'
 | emit {m : Mst} {i : Int} {c : CapsL} {R : List (Int × CapsL)} {m' : Mst} {p' : BPlace} {al' : Bool} (hs : m.spent = false) (h : Runs base m .zero false R m' p' al') : Runs base m ⟨i, c, .nil⟩ true ((i, c) :: R) m' p' al'
theorem Runs.trans {base : Nat} {m m1 m2 : Mst} {p p1 p2 : BPlace} {a a1 a2 : Bool} {R R' : List (Int × CapsL)} (h : Runs base m p a R m1 p1 a1) (k : Runs base m1 p1 a1 R' m2 p2 a2) : Runs base m p a (R ++ R') m2 p2 a2 := by
 induction h with
 | refl => exact k
 | adv hg ha _ ih => exact .adv hg ha (ih k)
 | pop hS hb hs _ ih => exact .pop hS hb hs (ih k)
 | emit hs _ ih => exact .emit hs (ih k)
theorem runs_ev {base : Nat} {m m' : Mst} {p p' : BPlace} {a a' : Bool} {R : List (Int × CapsL)} (h : Runs base m p a R m' p' a') (hR : R = []) {x : Rs} (he : Ev m' base p' a' x) : Ev m base p a x := by
 induction h with
 | refl => exact he
 | adv hg ha _ ih => exact ev_adv hg ha (ih hR he)
 | pop hS hb hs _ ih => exact ev_pop hS hb hs (ih hR he)
 | emit => cases hR
theorem runs_first {base : Nat} {m m' : Mst} {p p' : BPlace} {a a' : Bool} {R R1 : List (Int × CapsL)} {r : Int × CapsL} (h : Runs base m p a R m' p' a') (hR : R = r :: R1) :
  ∃ m1, Ev m base p a (m1, ⟨r.1, r.2, .nil⟩, true) ∧ m1.spent = false ∧ Runs base m1 .zero false R1 m' p' a' := by
 induction h with
 | refl => cases hR
 | adv hg ha _ ih =>
  obtain ⟨m1, k1, k2, k3⟩ := ih hR
  exact ⟨m1, ev_adv hg ha k1, k2, k3⟩
 | pop hS hb hs _ ih =>
  obtain ⟨m1, k1, k2, k3⟩ := ih hR
  exact ⟨m1, ev_pop hS hb hs k1, k2, k3⟩
 | @emit m0 i0 c0 R0 m0' p0' al0' hs h ih =>
  obtain ⟨rfl, rfl⟩ := List.cons.inj hR
  refine ⟨m0, ?_, hs, h⟩
  have := ev_found (m := m0) (base := base) (p := ⟨i0, c0, .nil⟩) rfl
  rwa [hs] at this
def litR (P : Re) : BRef → Option Re
 | .nil => none
 | .root => some P
 | .el re => some re
def RT (re re' : Re) : Prop := (re' = re ∧ re.mode ≠ 2) ∨ (re.mode = 2 ∧ re' = re.setMode 0)
inductive GR (P : Re) : BGoal → Goal → Prop where
 | nil : GR P .nil .nil
 | tree {r : BRef} {re : Re} {n a k f : Int} {g : BGoal} {h : Goal} (hr : litR P r = some re) (hg : GR P g h) : GR P (.mk 0 r n a g) (.mk 0 re k f h)
 | round {r : BRef} {re re' : Re} {n a f : Int} {g : BGoal} {h : Goal} (hr : litR P r = some re) (ht : RT re re') (hg : GR P g h) : GR P (.mk 2 r n a g) (.mk 1 re' n f h)
 | more {r : BRef} {re re' : Re} {n a f : Int} {g : BGoal} {h : Goal} (hr : litR P r = some re) (ht : RT re re') (hn : n < re'.mn) (hg : GR P g h) : GR P (.mk 2 r (n + 1) a g) (.mk 2 re' n f h)
 | moved {r : BRef} {re re' : Re} {n a : Int} {g : BGoal} {h : Goal} (hr : litR P r = some re) (ht : RT re re') (hn : re'.mn ≤ n) (hg : GR P g h) : GR P (.mk 3 r (n + 1) a g) (.mk 2 re' n a h)
 | cap {r : BRef} {re : Re} {a k : Int} {g : BGoal} {h : Goal} (hr : litR P r = some re) (hg : GR P g h) : GR P (.mk 4 r 0 a g) (.mk 3 re k a h)
 | arrive {r : BRef} {re : Re} {a k : Int} {g : BGoal} {h : Goal} (hg : GR P g h) : GR P (.mk 5 r 0 a g) (.mk 4 re k a h)
def vB (nc : Int) (re : Re) : Bool := decide ((re.op = 3 ∨ re.op = 4 ∨ re.op = 5 ∨ re.op = 7 ∨ re.op = 8 ∨ re.op = 9 → re.kids ≠ []) ∧ (re.op = 10 → 2 ≤ re.kids.length) ∧ re.set.length ≤ 1000000000 ∧ re.kids.length ≤ 1000000000 ∧
 (re.op = 5 ∨ re.op = 6 ∨ re.op = 10 → 1 ≤ re.n ∧ re.n ≤ nc) ∧ (re.op = 11 → 0 ≤ re.n ∧ re.n ≤ 5) ∧ (re.op = 4 → -1 ≤ re.mx))
def GK (nc i s : Int) : Goal → Prop
 | .nil => True
 | .mk kind re k frm next => (kind ≠ 4 → re.every (vB nc) = true) ∧ (kind = 1 ∨ kind = 2 → re.op = 4 ∧ re.mode ≠ 2 ∧ 0 ≤ k) ∧ (kind = 1 → k ≤ s) ∧ (kind = 2 → k < s) ∧ (kind = 3 → re.op = 5 ∧ 0 ≤ frm ∧ frm ≤ i) ∧ GK nc i s next
theorem GK.mono {nc i i' s s' : Int} (hi : i ≤ i') (hs : s ≤ s') : ∀ {g : Goal}, GK nc i s g → GK nc i' s' g
 | .nil, _ => trivial
 | .mk _ _ _ _ _, h => by
  obtain ⟨h1, h2, h3, h4, h5, h6⟩ := h
  exact ⟨h1, h2, fun k => by have := h3 k; omega, fun k => by have := h4 k; omega, fun k => by have := h5 k; exact ⟨this.1, by omega⟩, h6.mono hi hs⟩
structure MS (P : Re) (t : List Int) (F : Int) (m : Mst) (S : List BPlace) (s : Int) : Prop where
 p : m.p.re = P
 t : m.t = t
 fuel : m.fuel = F
 same : m.same
 stk : Stk m S
 steps : m.steps = s
 spent : m.spent = false
 room : (S.length : Int) ≤ s
structure Po (m m' : Mst) : Prop where
 fr : m.Fr m'
 steps : m.steps ≤ m'.steps
 deep0 : m.deepest ≤ m'.deepest
 deep1 : m'.deepest ≤ max m.deepest m'.steps
 lim : m.steps ≤ m.fuel → m'.steps ≤ m'.fuel
theorem Po.refl (m : Mst) : Po m m := ⟨.refl m, Int.le_refl _, Int.le_refl _, by omega, fun h => h⟩
theorem Po.trans {m m1 m2 : Mst} (h : Po m m1) (k : Po m1 m2) : Po m m2 := by
 obtain ⟨a1, a2, a3, a4, a5⟩ := h
 obtain ⟨b1, b2, b3, b4, b5⟩ := k
 exact ⟨a1.trans b1, by omega, by omega, by omega, fun hh => b5 (a5 hh)⟩
theorem MS.fr {P : Re} {t : List Int} {F : Int} {m m' : Mst} {S S' : List BPlace} {s s' : Int} (h : MS P t F m S s) (hf : m.Fr m') (hS : Stk m' S') (hs : m'.steps = s') (hp : m'.spent = false) (hr : (S'.length : Int) ≤ s') : MS P t F m' S' s' :=
 ⟨by rw [hf.p]; exact h.p, by rw [hf.t]; exact h.t, by rw [hf.fuel]; exact h.fuel, fun ho => by rw [hf.own, hf.t]; exact h.same (by rw [← hf.ownText]; exact ho), hS, hs, hp, hr⟩
theorem MS.pop {P : Re} {t : List Int} {F : Int} {m : Mst} {S : List BPlace} {q : BPlace} {s : Int} (h : MS P t F m (S ++ [q]) s) : MS P t F m.pop S s :=
 h.fr m.fr_pop h.stk.last.2 h.steps h.spent (by have := h.room; rw [List.length_append] at this; simp at this; omega)
theorem po_pop (m : Mst) : Po m m.pop := ⟨m.fr_pop, Int.le_refl _, Int.le_refl _, by show m.deepest ≤ max m.deepest m.steps; omega, fun h => h⟩
theorem MS.good {P : Re} {t : List Int} {F : Int} {m : Mst} {S : List BPlace} {s : Int} (h : MS P t F m S s) (ht : t.length ≤ 1000000) (hF : F ≤ 1200000000000) (h0 : 0 ≤ s) (h1 : s ≤ F) {p : BPlace} (hi0 : 0 ≤ p.at_) (hi1 : p.at_ ≤ t.length) (hc : p.caps.length ≤ 1000000000) : m.good p := by
 refine ⟨⟨by rw [h.steps]; exact h0, by rw [h.steps]; omega, h.stk.len, h.stk.2.2⟩, ⟨hi0, by rw [h.t]; exact hi1, hc⟩, by rw [h.t]; exact ht, h.same⟩
def Con (P : Re) (t : List Int) (F : Int) (nc : Nat) (base : Nat) (S : List BPlace) (most i : Int) (m : Mst) (p : BPlace) (al : Bool) (st : Sst) (b : Bool) (st' : Sst) : Prop :=
 ∃ (R : List (Int × CapsL)) (m' : Mst), st'.ends = st.ends ++ R.map Prod.fst ∧ st'.caps = st.caps ++ R.map Prod.snd ∧ (∀ r ∈ R, i ≤ r.1 ∧ r.1 ≤ t.length ∧ CapsOk t r.2 ∧ r.2.length = nc) ∧ Po m m' ∧ st.steps ≤ st'.steps ∧
  ((b = false ∧ st'.empty = false ∧ (0 ≤ most → (st'.ends.length : Int) < most) ∧ MS P t F m' S st'.steps ∧ st'.steps ≤ F ∧ ∃ p', Runs base m p al R m' p' false) ∨
   (b = true ∧ st'.empty = false ∧ 0 ≤ most ∧ (st'.ends.length : Int) = most ∧ st'.steps ≤ F ∧ ∃ (S' : List BPlace) (R0 : List (Int × CapsL)) (e : Int) (d : CapsL), MS P t F m' (S ++ S') st'.steps ∧ R = R0 ++ [(e, d)] ∧ Runs base m p al R0 m' ⟨e, d, .nil⟩ true) ∨
   (b = true ∧ st'.empty = true ∧ (0 ≤ most → (st'.ends.length : Int) < most) ∧ m'.spent = true ∧ ∃ (p' : BPlace) (S' : List BPlace), Stk m' (S ++ S') ∧ Runs base m p al R m' p' false))
section con
variable {P : Re} {t : List Int} {F : Int} {nc base : Nat} {S : List BPlace} {most i : Int} {m : Mst} {p : BPlace} {st st' : Sst} {b : Bool}
theorem Con.adv {m1 : Mst} {p1 : BPlace} {al1 : Bool} (hg : p.goals = true) (ha : Adv m p (m1, p1, al1)) (hp : Po m m1) (h : Con P t F nc base S most i m1 p1 al1 st b st') : Con P t F nc base S most i m p true st b st' := by
 obtain ⟨R, m', h1, h2, h3, h4, h5, h6⟩ := h
 refine ⟨R, m', h1, h2, h3, hp.trans h4, h5, ?_⟩
 rcases h6 with ⟨k1, k2, k3, k4, kF, p', k5⟩ | ⟨k1, k2, k3, k4, kF, S', R0, e, d, k5, k6, k7⟩ | ⟨k1, k2, k3, k4, p', S', k5, k6⟩
 ·exact .inl ⟨k1, k2, k3, k4, kF, p', .adv hg ha k5⟩
 ·exact .inr (.inl ⟨k1, k2, k3, k4, kF, S', R0, e, d, k5, k6, .adv hg ha k7⟩)
 ·exact .inr (.inr ⟨k1, k2, k3, k4, p', S', k5, .adv hg ha k6⟩)
theorem Con.weak {al : Bool} {i' : Int} {s0 : Sst} (h : Con P t F nc base S most i' m p al s0 b st') (hi : i ≤ i') (h1 : s0.ends = st.ends) (h2 : s0.caps = st.caps) (h3 : st.steps ≤ s0.steps) : Con P t F nc base S most i m p al st b st' := by
 obtain ⟨R, m', k1, k2, k3, k4, k5, k6⟩ := h
 exact ⟨R, m', by rw [k1, h1], by rw [k2, h2], fun r hr => by have := k3 r hr; exact ⟨by omega, this.2⟩, k4, by omega, k6⟩
theorem Con.no (hM : MS P t F m S st.steps) (he : st.empty = false) (hm : 0 ≤ most → (st.ends.length : Int) < most) (hF : st.steps ≤ F) : Con P t F nc base S most i m p false st false st :=
 ⟨[], m, by simp, by simp, by simp, .refl m, Int.le_refl _, .inl ⟨rfl, he, hm, hM, hF, p, .refl m p false⟩⟩
theorem Con.out {s1 : Sst} (hS : Stk m S) (hs : m.spent = true) (he : s1.empty = true) (hm : 0 ≤ most → (st.ends.length : Int) < most) (h1 : s1.ends = st.ends) (h2 : s1.caps = st.caps) (h3 : st.steps ≤ s1.steps) : Con P t F nc base S most i m p false st true s1 :=
 ⟨[], m, by simp [h1], by simp [h2], by simp, .refl m, h3, .inr (.inr ⟨rfl, he, by rw [h1]; exact hm, hs, p, [], by simpa using hS, .refl m p false⟩)⟩
theorem Con.or {q : BPlace} {al b1 : Bool} {s2 : Sst} (hb : base ≤ S.length) (h : Con P t F nc base (S ++ [q]) most i m p al st b1 s2) (ht : b1 = true → b = true ∧ st' = s2)
  (hf : b1 = false → ∀ m2, m.Fr m2 → MS P t F m2 (S ++ [q]) s2.steps → s2.empty = false → s2.steps ≤ F → (0 ≤ most → (s2.ends.length : Int) < most) → st.steps ≤ s2.steps → Con P t F nc base S most i m2.pop q true s2 b st') : Con P t F nc base S most i m p al st b st' := by
 obtain ⟨R, m', h1, h2, h3, h4, h5, h6⟩ := h
 rcases h6 with ⟨k1, k2, k3, k4, kF, p', k5⟩ | ⟨k1, k2, k3, k4, kF, S', R0, e, d, k5, k6, k7⟩ | ⟨k1, k2, k3, k4, p', S', k5, k6⟩
 ·obtain ⟨R', m2, j1, j2, j3, j4, j5, j6⟩ := hf k1 m' h4.fr k4 k2 kF k3 h5
  have hrun : ∀ {R'' m'' p'' al''}, Runs base m'.pop q true R'' m'' p'' al'' → Runs base m p al (R ++ R'') m'' p'' al'' := fun hr => k5.trans (.pop k4.stk hb k4.spent hr)
  refine ⟨R ++ R', m2, by rw [j1, h1]; simp, by rw [j2, h2]; simp, fun r hr => ?_, h4.trans ((po_pop m').trans j4), by omega, ?_⟩
  ·rcases List.mem_append.1 hr with hr | hr
   ·exact h3 r hr
   ·exact j3 r hr
  ·rcases j6 with ⟨l1, l2, l3, l4, lF, p'', l5⟩ | ⟨l1, l2, l3, l4, lF, S', R0, e, d, l5, l6, l7⟩ | ⟨l1, l2, l3, l4, p'', S', l5, l6⟩
   ·exact .inl ⟨l1, l2, l3, l4, lF, p'', hrun l5⟩
   ·exact .inr (.inl ⟨l1, l2, l3, l4, lF, S', R ++ R0, e, d, l5, by rw [l6, List.append_assoc], hrun l7⟩)
   ·exact .inr (.inr ⟨l1, l2, l3, l4, p'', S', l5, hrun l6⟩)
 ·obtain ⟨rfl, rfl⟩ := ht k1
  exact ⟨R, m', h1, h2, h3, h4, h5, .inr (.inl ⟨rfl, k2, k3, k4, kF, q :: S', R0, e, d, by simpa using k5, k6, k7⟩)⟩
 ·obtain ⟨rfl, rfl⟩ := ht k1
  exact ⟨R, m', h1, h2, h3, h4, h5, .inr (.inr ⟨rfl, k2, k3, k4, p', q :: S', by simpa using k5, k6⟩)⟩
end con
def TR (P : Re) : Task → BPlace → Prop
 | .run h i c, p => p.at_ = i ∧ p.caps = c ∧ GR P p.todo h
 | .node (.mk _ re _ _ h) i c, p => p.at_ = i ∧ p.caps = c ∧ ∃ r n a g, p.todo = .mk 0 r n a g ∧ litR P r = some re ∧ GR P g h
 | .node .nil _ _, _ => False
 | .rep (.mk _ re k _ h) i c, p => p.at_ = i ∧ p.caps = c ∧ ((re.mode = 2 ∧ ∃ r n a g, p.todo = .mk 0 r n a g ∧ litR P r = some re ∧ GR P g h) ∨ (re.mode ≠ 2 ∧ ∃ r re0 a g, p.todo = .mk 2 r k a g ∧ litR P r = some re0 ∧ RT re0 re ∧ GR P g h))
 | .rep .nil _ _, _ => False
def TK (nc s : Int) : Task → Prop
 | .run h i _ => GK nc i s h
 | .node (.mk _ re _ _ h) i _ => re.every (vB nc) = true ∧ GK nc i s h
 | .node .nil _ _ => False
 | .rep (.mk _ re k _ h) i _ => re.every (vB nc) = true ∧ re.op = 4 ∧ 0 ≤ k ∧ k ≤ s ∧ GK nc i s h
 | .rep .nil _ _ => False
structure SP (F most : Int) (st : Sst) : Prop where
 empty : st.empty = false
 s0 : 0 ≤ st.steps
 s1 : st.steps ≤ F
 most : 0 ≤ most → (st.ends.length : Int) < most
def Sim (P : Re) (t : List Int) (F : Int) (nc n : Nat) : Prop := ∀ most task st b st', evR t F n most task st = some (b, st') → ∀ base S m p, MS P t F m S st.steps → SP F most st → base ≤ S.length → TR P task p → TK nc st.steps task →
 0 ≤ task.pos → task.pos ≤ t.length → CapsOk t task.caps → task.caps.length = nc → Con P t F nc base S most task.pos m p true st b st'
theorem lit_eq {P : Re} {t : List Int} {F : Int} {m : Mst} {S : List BPlace} {s : Int} (hM : MS P t F m S s) {r : BRef} {re : Re} (hr : litR P r = some re) : m.lit r = some re := by
 cases r with
 | nil => cases hr
 | root => cases hr; show some m.p.re = _; rw [hM.p]
 | el re => exact hr
theorem ev_out {m : Mst} {base : Nat} {p : BPlace} {al : Bool} {x : Rs} (hs : m.spent = false) (h : Ev m base p al x) : ∃ k, srchB k true m base p al = some x := by
 obtain ⟨k, hk⟩ := h
 refine ⟨k, ?_⟩
 cases k with
 | zero => cases hk
 | succ k =>
  rw [srchB.eq_2] at hk ⊢
  rw [if_neg (show ¬ (false = true ∧ m.spent = true) from fun h => by cases h.1)] at hk
  rw [if_neg (show ¬ (true = true ∧ m.spent = true) from fun h => by have h2 := h.2; rw [hs] at h2; cases h2)]
  exact hk
theorem step_ms {P : Re} {t : List Int} {F : Int} {m : Mst} {S : List BPlace} {s : Int} (hM : MS P t F m S s) (h : s < F) : MS P t F m.step S (s + 1) ∧ Po m m.step ∧ m.step.deepest = m.deepest := by
 have hs : m.step = { m with steps := m.steps + 1 } := by rw [Mst.step, if_pos (by rw [hM.steps, hM.fuel]; exact h)]
 have h1 := hM.steps
 rw [hs]
 refine ⟨⟨hM.p, hM.t, hM.fuel, hM.same, hM.stk, by show m.steps + 1 = _; rw [h1], hM.spent, by have := hM.room; omega⟩, ⟨⟨rfl, rfl, rfl, rfl, rfl, rfl, rfl, rfl⟩, by show m.steps ≤ m.steps + 1; omega, Int.le_refl _, by show m.deepest ≤ max m.deepest _; omega, fun _ => by show m.steps + 1 ≤ m.fuel; rw [hM.steps, hM.fuel]; omega⟩, rfl⟩
theorem step_out {P : Re} {t : List Int} {F : Int} {m : Mst} {S : List BPlace} {s : Int} (hM : MS P t F m S s) (h : F ≤ s) : Stk m.step S ∧ m.step.spent = true ∧ Po m m.step := by
 have hs : m.step = { m with spent := true } := by rw [Mst.step, if_neg (by rw [hM.steps, hM.fuel]; omega)]
 rw [hs]
 exact ⟨hM.stk, rfl, ⟨rfl, rfl, rfl, rfl, rfl, rfl, rfl, rfl⟩, Int.le_refl _, Int.le_refl _, by show m.deepest ≤ max m.deepest _; omega, fun h => h⟩
theorem push_ms {P : Re} {t : List Int} {F : Int} {m : Mst} {S : List BPlace} {s : Int} (hM : MS P t F m S s) (q : BPlace) (h : (S.length : Int) + 1 ≤ s) (hF : F ≤ 1200000000000) (hs : s ≤ F) : MS P t F (m.push q) (S ++ [q]) s ∧ Po m (m.push q) := by
 have hk := hM.stk.push q (by omega)
 have h1 := hM.steps
 have ht := hM.stk.2.1
 refine ⟨hM.fr (m.fr_push q) hk h1 hM.spent (by rw [List.length_append]; simpa using h), m.fr_push q, Int.le_refl _, ?_, ?_, fun h => h⟩
 ·show m.deepest ≤ max m.deepest _; omega
 ·show max m.deepest ((m.top + 1 : Nat) : Int) ≤ max m.deepest m.steps; omega
theorem first_sim {P : Re} {t : List Int} {F : Int} {nc : Nat} {S : List BPlace} {i : Int} {m : Mst} {q : BPlace} {s : Int} {b : Bool} {x : Sst} (hM : MS P t F m S s) (h : Con P t F nc S.length S 1 i m q true ⟨s, false, [], []⟩ b x) :
  ∃ m1 r found, (∃ k, firstB (fun m base p => srchB k true m base p true) m q = some (m1, r, found)) ∧ Po m m1 ∧ Stk m1 S ∧ s ≤ x.steps ∧
   ((x.empty = false ∧ MS P t F m1 S x.steps ∧ x.steps ≤ F ∧ ((found = true ∧ ∃ e d, x.ends = [e] ∧ x.caps = [d] ∧ r = ⟨e, d, .nil⟩ ∧ i ≤ e ∧ e ≤ t.length ∧ CapsOk t d ∧ d.length = nc) ∨ (found = false ∧ x.ends = [] ∧ x.caps = []))) ∨
    (x.empty = true ∧ m1.spent = true ∧ found = false)) := by
 obtain ⟨R, m', h1, h2, h3, h4, h5, h6⟩ := h
 simp only [List.nil_append] at h1 h2
 have htop : m.top = S.length := hM.stk.2.1
 have fin : ∀ {m2 r found S'}, Ev m S.length q true (m2, r, found) → Stk m2 (S ++ S') → ∃ k, firstB (fun m base p => srchB k true m base p true) m q = some (m2.clear S.length, r, found) := by
  intro m2 r found S' he hS'
  obtain ⟨k, hk⟩ := ev_out hM.spent he
  refine ⟨k, ?_⟩
  simp only [firstB]
  rw [htop, hk]
  simp only
  rw [if_neg]
  have := hS'.2.1
  have := hS'.len
  rw [List.length_append] at *
  omega
 have poc : ∀ {m2 : Mst}, Po m m2 → Po m (m2.clear S.length) := fun h => ⟨h.fr.trans (Mst.fr_clear _ _), h.steps, h.deep0, h.deep1, h.lim⟩
 rcases h6 with ⟨k1, k2, k3, k4, kF, p', k5⟩ | ⟨k1, k2, k3, k4, kF, S', R0, e, d, k5, k6, k7⟩ | ⟨k1, k2, k3, k4, p', S', k5, k6⟩
 ·
  have hx : x.ends = [] := List.eq_nil_of_length_eq_zero (by have := k3 (by omega); omega)
  have hR : R = [] := by rw [h1] at hx; exact List.map_eq_nil_iff.1 hx
  subst hR
  have he : Ev m S.length q true (m', .zero, false) := runs_ev k5 rfl (ev_none k4.stk.2.1)
  refine ⟨_, _, _, fin (S' := []) he (by simpa using k4.stk), poc h4, (show Stk m' (S ++ []) by simpa using k4.stk).clear, h5, .inl ⟨k2, ?_, kF, .inr ⟨rfl, by simpa using h1, by simpa using h2⟩⟩⟩
  exact k4.fr (Mst.fr_clear _ _) (show Stk m' (S ++ []) by simpa using k4.stk).clear k4.steps k4.spent k4.room
 ·have hR0 : R0 = [] := by
   have := congrArg List.length h1
   rw [k6] at this
   simp at this
   exact List.eq_nil_of_length_eq_zero (by omega)
  subst hR0
  simp only [List.nil_append] at k6
  subst k6
  have he : Ev m S.length q true (m', ⟨e, d, .nil⟩, true) := by
   refine runs_ev k7 rfl ?_
   have := ev_found (m := m') (base := S.length) (p := ⟨e, d, .nil⟩) rfl
   rwa [k5.spent] at this
  have hr := h3 (e, d) (by simp)
  refine ⟨_, _, _, fin he k5.stk, poc h4, k5.stk.clear, h5, .inl ⟨k2, ?_, kF, .inl ⟨rfl, e, d, by simpa using h1, by simpa using h2, rfl, hr.1, hr.2.1, hr.2.2.1, hr.2.2.2⟩⟩⟩
  exact k5.fr (Mst.fr_clear _ _) k5.stk.clear k5.steps k5.spent (by have := k5.room; rw [List.length_append] at this; omega)
 ·have hx : x.ends = [] := List.eq_nil_of_length_eq_zero (by have := k3 (by omega); omega)
  have hR : R = [] := by rw [h1] at hx; exact List.map_eq_nil_iff.1 hx
  subst hR
  -- the search ends: at once, or behind one more choice
  have hend : ∃ m2 S2, Ev m' S.length p' false (m2, .zero, false) ∧ Stk m2 (S ++ S2) ∧ m2.spent = true ∧ Po m' m2 := by
   rcases List.eq_nil_or_concat S' with rfl | ⟨S2, q2, rfl⟩
   ·refine ⟨m', [], ev_none (by simpa using k5.2.1), by simpa using k5, k4, .refl _⟩
   ·have k5' : Stk m' ((S ++ S2) ++ [q2]) := by simpa [List.append_assoc] using k5
    refine ⟨m'.pop, S2, ?_, k5'.last.2, k4, po_pop m'⟩
    have hl := k5'.len
    have ht : m'.top = (S ++ S2).length + 1 := by rw [k5'.2.1, List.length_append]; rfl
    refine ⟨2, ?_⟩
    rw [srchB.eq_2, if_neg (show ¬ (false = true ∧ m'.spent = true) from fun h => by cases h.1), if_neg (fun h => by cases h.1), if_neg (fun h => by cases h), if_neg (by rw [ht, List.length_append]; omega), if_neg (by have := k5'.2.2; omega), k5'.last.1]
    simp only
    rw [srchB.eq_2, if_pos ⟨rfl, k4⟩]
  obtain ⟨m2, S2, j1, j2, j3, j4⟩ := hend
  exact ⟨_, _, _, fin (runs_ev k6 rfl j1) j2, poc (h4.trans j4), j2.clear, h5, .inr ⟨k2, j3, rfl⟩⟩
section moves
variable {m : Mst} {i n a : Int} {c : CapsL} {r : BRef} {g : BGoal} {y : Rs}
theorem adv_begin (hg : m.good ⟨i, c, .mk 0 r n a g⟩) (h : ∃ k, beginB (fun m base p => srchB k true m base p true) m r ⟨i, c, g⟩ = some y) : Adv m ⟨i, c, .mk 0 r n a g⟩ y := by
 obtain ⟨k, hk⟩ := h
 refine ⟨k, ?_⟩
 unfold advB
 rw [if_neg (by simpa using hg)]
 exact hk
theorem adv_round (hg : m.good ⟨i, c, .mk 2 r n a g⟩) (hn : 0 ≤ n) (hn1 : n ≤ 10000000000000) (h : roundB m r n ⟨i, c, g⟩ = some y) : Adv m ⟨i, c, .mk 2 r n a g⟩ y := by
 refine ⟨0, ?_⟩
 unfold advB
 rw [if_neg (by simpa using hg)]
 simp only
 rw [if_neg (by decide), if_neg (by omega), if_neg (by decide), if_pos trivial]
 exact h
theorem adv_kids {re kid : Re} (hg : m.good ⟨i, c, .mk 1 r n a g⟩) (hn : 0 ≤ n) (hn1 : n ≤ 10000000000000) (hr : m.lit r = some re) (hl : re.kids.length ≤ 1000000000) (hk : re.kids[n.toNat]? = some kid) :
  Adv m ⟨i, c, .mk 1 r n a g⟩ (if n + 1 < re.kids.length then m.push ⟨i, c, .mk 1 r (n + 1) 0 g⟩ else m, ⟨i, c, .mk 0 (.el kid) 0 0 g⟩, true) := by
 refine ⟨0, ?_⟩
 unfold advB
 rw [if_neg (by simpa using hg)]
 simp only
 rw [if_neg (by decide), if_neg (by omega), if_pos trivial, hr]
 simp only
 rw [if_neg (by omega), hk]
 rfl
theorem adv_moved (hg : m.good ⟨i, c, .mk 3 r n a g⟩) (hn : 0 ≤ n) (hn1 : n ≤ 10000000000000) : Adv m ⟨i, c, .mk 3 r n a g⟩ (if i = a then (m, .zero, false) else (m, ⟨i, c, .mk 2 r n 0 g⟩, true)) := by
 refine ⟨0, ?_⟩
 unfold advB
 rw [if_neg (by simpa using hg)]
 simp only
 rw [if_neg (by decide), if_neg (by omega), if_neg (by decide), if_neg (by decide), if_pos trivial]
 split <;> rfl
theorem adv_cap {re : Re} (hg : m.good ⟨i, c, .mk 4 r 0 a g⟩) (hr : m.lit r = some re) (h1 : 1 ≤ re.n) (h2 : re.n ≤ c.length) : Adv m ⟨i, c, .mk 4 r 0 a g⟩ (m, ⟨i, c.set (re.n - 1).toNat (a, i), g⟩, true) := by
 refine ⟨0, ?_⟩
 unfold advB
 rw [if_neg (by simpa using hg)]
 simp only
 rw [if_neg (by decide), if_neg (by decide), if_neg (by decide), if_neg (by decide), if_neg (by decide), if_pos trivial, hr]
 simp only
 rw [if_neg (by omega)]
theorem adv_arrive (hg : m.good ⟨i, c, .mk 5 r 0 a g⟩) : Adv m ⟨i, c, .mk 5 r 0 a g⟩ (m, ⟨i, c, g⟩, decide (i = a)) := by
 refine ⟨0, ?_⟩
 unfold advB
 rw [if_neg (by simpa using hg)]
 simp only
 rw [if_neg (by decide), if_neg (by decide), if_neg (by decide), if_neg (by decide), if_neg (by decide), if_neg (by decide), if_pos trivial]
end moves
theorem vB_iff {nc : Int} {re : Re} (h : re.every (vB nc) = true) : ((re.op = 3 ∨ re.op = 4 ∨ re.op = 5 ∨ re.op = 7 ∨ re.op = 8 ∨ re.op = 9 → re.kids ≠ []) ∧ (re.op = 10 → 2 ≤ re.kids.length) ∧ re.set.length ≤ 1000000000 ∧ re.kids.length ≤ 1000000000 ∧
  (re.op = 5 ∨ re.op = 6 ∨ re.op = 10 → 1 ≤ re.n ∧ re.n ≤ nc) ∧ (re.op = 11 → 0 ≤ re.n ∧ re.n ≤ 5) ∧ (re.op = 4 → -1 ≤ re.mx)) ∧ ∀ k ∈ re.kids, k.every (vB nc) = true := by
 obtain ⟨h1, h2⟩ := (Re.every_iff re).1 h
 exact ⟨of_decide_eq_true h1, h2⟩
structure Fx (t : List Int) (F : Int) (nc : Nat) : Prop where
 ht : t.length ≤ 1000000
 hF : F ≤ 1200000000000
 nc : nc ≤ 1000000000
theorem SP.step {F most : Int} {st : Sst} (h : SP F most st) (he : (st.step F).empty = false) : st.steps < F ∧ SP F most (st.step F) := by
 simp only [Sst.step, h.empty, Bool.false_or] at he
 have h1 := of_decide_eq_false he
 refine ⟨by omega, ?_, by show 0 ≤ st.steps + 1; have := h.s0; omega, by show st.steps + 1 ≤ F; omega, h.most⟩
 simp only [Sst.step, h.empty, Bool.false_or]
 exact decide_eq_false h1
theorem SP.stepout {F most : Int} {st : Sst} (h : SP F most st) (he : (st.step F).empty = true) : F ≤ st.steps := by
 simp only [Sst.step, h.empty, Bool.false_or] at he
 have := of_decide_eq_true he
 omega
section rep
variable {P : Re} {t : List Int} {F : Int} {nc n : Nat} (X : Fx t F nc) (ih : Sim P t F nc n)
include X ih
theorem rep_sim {most : Int} {re re0 : Re} {k i : Int} {c : CapsL} {next : Goal} {st st' : Sst} {b : Bool} {base : Nat} {S : List BPlace} {m : Mst} {r : BRef} {a : Int} {g : BGoal} (hM : MS P t F m S st.steps) (hS : SP F most st) (hb : base ≤ S.length)
  (hr : litR P r = some re0) (hrt : RT re0 re) (hg : GR P g next) (hv : re.every (vB nc) = true) (o4 : re.op = 4) (hmode : re.mode ≠ 2) (hk0 : 0 ≤ k) (hk1 : k ≤ st.steps) (hn : GK nc i st.steps next) (hi0 : 0 ≤ i) (hi1 : i ≤ t.length) (hc : CapsOk t c) (hcl : c.length = nc)
  (h : repR F (evR t F n) most re k next i c st = some (b, st')) : Con P t F nc base S most i m ⟨i, c, .mk 2 r k a g⟩ true st b st' := by
 have hs0 := hS.s0
 have hs1 := hS.s1
 have hF := X.hF
 unfold repR at h
 rw [if_neg hmode] at h
 rw [if_neg (show ¬ (st.steps < 0 ∨ 10000000000000 < st.steps) by omega)] at h
 simp only at h
 have hgood := hM.good (p := ⟨i, c, .mk 2 r k a g⟩) X.ht hF hs0 hs1 hi0 hi1 (by show c.length ≤ _; rw [hcl]; exact X.nc)
 have hlit := lit_eq hM hr
 -- the tree of the machine
 have e0 : re0.kids = re.kids ∧ re0.mn = re.mn ∧ re0.mx = re.mx ∧ (re0.mode = 1 ↔ re.mode = 1) := by
  rcases hrt with ⟨rfl, _⟩ | ⟨h2, rfl⟩
  ·exact ⟨rfl, rfl, rfl, Iff.rfl⟩
  ·refine ⟨rfl, rfl, rfl, ?_⟩
   rw [h2]; simp [Re.setMode, Re.mode]
 obtain ⟨e1, e2, e3, e4⟩ := e0
 obtain ⟨⟨v1, _, _, v4, _, _, v7⟩, hvk⟩ := vB_iff hv
 obtain ⟨kid, l, hkids⟩ : ∃ kid l, re.kids = kid :: l := by
  cases hh : re.kids with
  | nil => exact absurd hh (v1 (by omega))
  | cons y l => exact ⟨y, l, rfl⟩
 have hround : ∀ y, roundB m r k ⟨i, c, g⟩ = y → roundB m r k ⟨i, c, g⟩ = (if m.fuel ≤ m.steps then some (m.step, .zero, false) else if k < re.mn then some (m.step, ⟨i, c, .mk 0 (.el kid) 0 0 (.mk 2 r (k + 1) 0 g)⟩, true)
   else if 0 ≤ re.mx ∧ re.mx ≤ k then some (m.step, ⟨i, c, g⟩, true)
   else if re.mode = 1 then some (m.step.push ⟨i, c, .mk 0 (.el kid) 0 0 (.mk 3 r (k + 1) i g)⟩, ⟨i, c, g⟩, true) else some (m.step.push ⟨i, c, g⟩, ⟨i, c, .mk 0 (.el kid) 0 0 (.mk 3 r (k + 1) i g)⟩, true)) := by
  intro y _
  unfold roundB
  rw [hlit]
  simp only
  rw [e1, hkids, e2, e3]
  simp only [e4]
 have hround := hround _ rfl
 by_cases he : (st.step F).empty = true
 ·rw [if_pos he] at h
  cases h
  have hfo := hS.stepout he
  obtain ⟨q1, q2, q3⟩ := step_out hM hfo
  refine Con.adv rfl (adv_round hgood hk0 (by omega) (y := (m.step, .zero, false)) ?_) q3 (Con.out q1 q2 he hS.most rfl rfl (by show st.steps ≤ st.steps + 1; omega))
  rw [hround, if_pos (by rw [hM.steps, hM.fuel]; exact hfo)]
 rw [if_neg he] at h
 have he : (st.step F).empty = false := by simpa using he
 obtain ⟨hlt, hS1⟩ := hS.step he
 obtain ⟨hM1, hP1, _⟩ := step_ms hM hlt
 rw [if_neg (by rw [hM.steps, hM.fuel]; omega)] at hround
 have hst1 : (st.step F).steps = st.steps + 1 := rfl
 have hse : (st.step F).ends = st.ends := rfl
 have hsc : (st.step F).caps = st.caps := rfl
 rw [← hst1] at hM1
 generalize hs1' : st.step F = s1 at *
 rw [hkids] at h
 simp only at h
 have hkv : kid.every (vB nc) = true := hvk kid (by rw [hkids]; simp)
 have hn1 : GK nc i s1.steps next := hn.mono (Int.le_refl _) (by omega)
 -- one more round
 have once : ∀ (s s' : Sst) (b' : Bool) (S2 : List BPlace) (m2 : Mst), base ≤ S2.length → MS P t F m2 S2 s.steps → SP F most s → s1.steps ≤ s.steps → evR t F n most (.run (.mk 0 kid 0 0 (.mk 2 re k i next)) i c) s = some (b', s') → re.mn ≤ k → Con P t F nc base S2 most i m2 ⟨i, c, .mk 0 (.el kid) 0 0 (.mk 3 r (k + 1) i g)⟩ true s b' s' := by
  intro s s' b' S2 m2 hb2 hM2 hSs hss hev hmn
  refine ih most _ s b' s' hev base S2 m2 _ hM2 hSs hb2 ⟨rfl, rfl, .tree rfl (.moved hr hrt hmn hg)⟩ ?_ hi0 hi1 hc hcl
  exact ⟨fun _ => hkv, fun h => by omega, fun h => by omega, fun h => by omega, fun h => by omega, fun _ => hv, fun _ => ⟨o4, hmode, hk0⟩, fun h => by omega, fun _ => by omega, fun h => by omega, hn1.mono (Int.le_refl _) hss⟩
 have nxt : ∀ (s s' : Sst) (b' : Bool) (S2 : List BPlace) (m2 : Mst), base ≤ S2.length → MS P t F m2 S2 s.steps → SP F most s → s1.steps ≤ s.steps → evR t F n most (.run next i c) s = some (b', s') → Con P t F nc base S2 most i m2 ⟨i, c, g⟩ true s b' s' := by
  intro s s' b' S2 m2 hb2 hM2 hSs hss hev
  exact ih most _ s b' s' hev base S2 m2 _ hM2 hSs hb2 ⟨rfl, rfl, hg⟩ (hn1.mono (Int.le_refl _) hss) hi0 hi1 hc hcl
 by_cases c2 : k < re.mn
 ·rw [if_pos c2] at h
  rw [if_pos c2] at hround
  refine Con.adv rfl (adv_round hgood hk0 (by omega) hround) hP1 (Con.weak ?_ (Int.le_refl _) hse hsc (by omega))
  refine ih most _ s1 b st' h base S _ _ hM1 hS1 hb ⟨rfl, rfl, .tree rfl (.more hr hrt c2 hg)⟩ ?_ hi0 hi1 hc hcl
  exact ⟨fun _ => hkv, fun h => by omega, fun h => by omega, fun h => by omega, fun h => by omega, fun _ => hv, fun _ => ⟨o4, hmode, hk0⟩, fun h => by omega, fun _ => by omega, fun h => by omega, hn1⟩
 rw [if_neg c2] at h hround
 have hmx := v7 o4
 by_cases cM : re.mx = -1 ∨ k < re.mx
 ·rw [if_neg (show ¬ (0 ≤ re.mx ∧ re.mx ≤ k) by omega)] at hround
  simp only [if_pos cM] at h
  have hroom := hM.room
  by_cases m1 : re.mode = 1
  ·rw [if_pos m1] at h hround
   obtain ⟨hMp, hPp⟩ := push_ms hM1 ⟨i, c, .mk 0 (.el kid) 0 0 (.mk 3 r (k + 1) i g)⟩ (by omega) hF hS1.s1
   refine Con.adv rfl (adv_round hgood hk0 (by omega) hround) (hP1.trans hPp) (Con.weak ?_ (Int.le_refl _) hse hsc (by omega))
   cases hx : evR t F n most (.run next i c) s1 with
   | none => rw [hx] at h; cases h
   | some y =>
    obtain ⟨b1, s2⟩ := y
    rw [hx] at h
    refine Con.or hb (nxt s1 s2 b1 _ _ (by rw [List.length_append]; omega) hMp hS1 (Int.le_refl _) hx) (fun hb1 => ?_) (fun hb1 m2 hfr hM2 he2 hF2 hm2 hss => ?_)
    ·subst hb1; simp only [orR] at h; cases h; exact ⟨rfl, rfl⟩
    ·subst hb1
     simp only [orR] at h
     exact once s2 st' b S m2.pop hb hM2.pop ⟨he2, by omega, hF2, hm2⟩ hss h (by omega)
  ·rw [if_neg m1] at h hround
   obtain ⟨hMp, hPp⟩ := push_ms hM1 ⟨i, c, g⟩ (by omega) hF hS1.s1
   refine Con.adv rfl (adv_round hgood hk0 (by omega) hround) (hP1.trans hPp) (Con.weak ?_ (Int.le_refl _) hse hsc (by omega))
   cases hx : evR t F n most (.run (.mk 0 kid 0 0 (.mk 2 re k i next)) i c) s1 with
   | none => rw [hx] at h; cases h
   | some y =>
    obtain ⟨b1, s2⟩ := y
    rw [hx] at h
    refine Con.or hb (once s1 s2 b1 _ _ (by rw [List.length_append]; omega) hMp hS1 (Int.le_refl _) hx (by omega)) (fun hb1 => ?_) (fun hb1 m2 hfr hM2 he2 hF2 hm2 hss => ?_)
    ·subst hb1; simp only [orR] at h; cases h; exact ⟨rfl, rfl⟩
    ·subst hb1
     simp only [orR] at h
     exact nxt s2 st' b S m2.pop hb hM2.pop ⟨he2, by omega, hF2, hm2⟩ hss h
 ·rw [if_pos (show 0 ≤ re.mx ∧ re.mx ≤ k by omega)] at hround
  simp only [if_neg cM] at h
  have h' : evR t F n most (.run next i c) s1 = some (b, st') := by
   split at h
   ·cases hx : evR t F n most (.run next i c) s1 with
    | none => rw [hx] at h; cases h
    | some y =>
     obtain ⟨b1, s2⟩ := y
     rw [hx] at h
     cases b1 with
     | true => exact h
     | false => exact h
   ·exact h
  refine Con.adv rfl (adv_round hgood hk0 (by omega) hround) hP1 (Con.weak (nxt s1 st' b S _ hb hM1 hS1 (Int.le_refl _) h') (Int.le_refl _) hse hsc (by omega))
end rep
section nodes
variable {P : Re} {t : List Int} {F : Int} {nc n : Nat} (X : Fx t F nc) (ih : Sim P t F nc n)
include ih
theorem first_ref {h : Goal} {q : Int} {c : CapsL} {st s2 : Sst} {o : Option (Int × CapsL)} {S : List BPlace} {m : Mst} {gb : BGoal} (hM : MS P t F m S st.steps) (he : st.empty = false) (hs0 : 0 ≤ st.steps) (hs1 : st.steps ≤ F) (hg : GR P gb h) (hk : GK nc q st.steps h) (hq0 : 0 ≤ q) (hq1 : q ≤ t.length) (hc : CapsOk t c) (hcl : c.length = nc)
  (hr : firstR (evR t F n) h q c st = some (o, s2)) :
  ∃ m1 r found, (∃ k, firstB (fun m base p => srchB k true m base p true) m ⟨q, c, gb⟩ = some (m1, r, found)) ∧ Po m m1 ∧ Stk m1 S ∧ st.steps ≤ s2.steps ∧ s2.ends = st.ends ∧ s2.caps = st.caps ∧
   ((s2.empty = false ∧ MS P t F m1 S s2.steps ∧ s2.steps ≤ F ∧ ((found = true ∧ ∃ e d, o = some (e, d) ∧ r = ⟨e, d, .nil⟩ ∧ q ≤ e ∧ e ≤ t.length ∧ CapsOk t d ∧ d.length = nc) ∨ (found = false ∧ o = none))) ∨
    (s2.empty = true ∧ m1.spent = true ∧ found = false ∧ o = none)) := by
 unfold firstR at hr
 cases hx : evR t F n 1 (.run h q c) ⟨st.steps, false, [], []⟩ with
 | none => rw [hx] at hr; cases hr
 | some y =>
  obtain ⟨b, x⟩ := y
  rw [hx] at hr
  simp only at hr
  have hcon := ih 1 _ _ _ _ hx S.length S m ⟨q, c, gb⟩ hM ⟨rfl, hs0, hs1, fun _ => by simp⟩ (Nat.le_refl _) ⟨rfl, rfl, hg⟩ hk hq0 hq1 hc hcl
  obtain ⟨m1, r, found, k1, k2, k3, k4, k5⟩ := first_sim hM hcon
  rcases k5 with ⟨j1, j2, j3, j4⟩ | ⟨j1, j2, j3⟩
  ·rw [if_neg (by rw [j1]; exact Bool.false_ne_true)] at hr
   rcases j4 with ⟨l1, e, d, l2, l3, l4, l5, l6, l7, l8⟩ | ⟨l1, l2, l3⟩
   ·rw [l2, l3] at hr
    cases hr
    exact ⟨m1, r, found, k1, k2, k3, k4, rfl, rfl, .inl ⟨j1, j2, j3, .inl ⟨l1, e, d, rfl, l4, l5, l6, l7, l8⟩⟩⟩
   ·rw [l2, l3] at hr
    cases hr
    exact ⟨m1, r, found, k1, k2, k3, k4, rfl, rfl, .inl ⟨j1, j2, j3, .inr ⟨l1, rfl⟩⟩⟩
  ·rw [if_pos j1] at hr
   cases hr
   exact ⟨m1, r, found, k1, k2, k3, k4, rfl, rfl, .inr ⟨j1, j2, j3, rfl⟩⟩
def LookPost (P : Re) (t : List Int) (F : Int) (nc : Nat) (S : List BPlace) (neg : Bool) (p : BPlace) (m : Mst) (st : Sst) (ro : Option CapsL) (s2 : Sst) (x : Rs) : Prop :=
 Po m x.1 ∧ Stk x.1 S ∧ st.steps ≤ s2.steps ∧ s2.ends = st.ends ∧ s2.caps = st.caps ∧
  ((s2.empty = true ∧ x.1.spent = true ∧ x.2.2 = false) ∨
   (s2.empty = false ∧ MS P t F x.1 S s2.steps ∧ s2.steps ≤ F ∧ ((ro = none ∧ x.2.1 = p ∧ x.2.2 = neg) ∨ ∃ d, ro = some d ∧ CapsOk t d ∧ d.length = nc ∧ ((neg = true ∧ x.2.2 = false) ∨ (neg = false ∧ x.2.1 = { p with caps := d } ∧ x.2.2 = true)))))
theorem look_loop {h : Goal} {gb : BGoal} {c : CapsL} {S : List BPlace} {neg : Bool} {p : BPlace} {last : Int} (hg : GR P gb h) (hc : CapsOk t c) (hcl : c.length = nc) : ∀ (j : Nat) (m : Mst) (st s2 : Sst) (ro : Option CapsL),
  (∀ q : Nat, q < j → 0 ≤ last + q ∧ last + q ≤ t.length) → (∀ (q s : Int), st.steps ≤ s → GK nc q s h) → MS P t F m S st.steps → st.empty = false → 0 ≤ st.steps → st.steps ≤ F →
  behindR (fun k st => firstR (evR t F n) h (last + k) c st) j st = some (ro, s2) →
  ∃ x, (∃ k, lookB (fun q m => firstB (fun m base p => srchB k true m base p true) m ⟨q, c, gb⟩) neg p last j m = some x) ∧ LookPost P t F nc S neg p m st ro s2 x
 | 0, m, st, s2, ro, _, _, hM, he, _, hs1, hr => by
  simp only [behindR] at hr
  cases hr
  exact ⟨(m, p, neg && !m.spent), ⟨0, rfl⟩, .refl m, hM.stk, Int.le_refl _, rfl, rfl, .inr ⟨he, hM, hs1, .inl ⟨rfl, rfl, by rw [hM.spent]; simp⟩⟩⟩
 | j + 1, m, st, s2, ro, hq, hk, hM, he, hs0, hs1, hr => by
  simp only [behindR] at hr
  rw [if_neg (by rw [he]; exact Bool.false_ne_true)] at hr
  have hqj := hq j (by omega)
  cases hx : firstR (evR t F n) h (last + j) c st with
  | none => rw [hx] at hr; cases hr
  | some y =>
   obtain ⟨o, s3⟩ := y
   rw [hx] at hr
   obtain ⟨m1, r, found, ⟨k1, hk1⟩, k2, k3, k4, k5, k6, k7⟩ := first_ref ih hM he hs0 hs1 hg (hk _ _ (Int.le_refl _)) hqj.1 hqj.2 hc hcl hx
   rcases k7 with ⟨j1, j2, j3, ⟨rfl, e, d, rfl, rfl, l3, l4, l5, l6⟩ | ⟨rfl, rfl⟩⟩ | ⟨j1, j2, rfl, rfl⟩
   ·simp only at hr
    cases hr
    refine ⟨if neg = true then (m1, .zero, false) else (m1, { p with caps := d }, true), ⟨k1, ?_⟩, ?_⟩
    ·simp only [lookB]
     rw [if_neg (by rw [hM.spent]; exact Bool.false_ne_true), hk1]
     simp only [if_true]
     split <;> rfl
    ·cases neg with
     | true => exact ⟨k2, k3, k4, k5, k6, .inr ⟨j1, j2, j3, .inr ⟨d, rfl, l5, l6, .inl ⟨rfl, rfl⟩⟩⟩⟩
     | false => exact ⟨k2, k3, k4, k5, k6, .inr ⟨j1, j2, j3, .inr ⟨d, rfl, l5, l6, .inr ⟨rfl, rfl, rfl⟩⟩⟩⟩
   ·simp only at hr
    obtain ⟨x, ⟨k2', hk2⟩, p1, p2, p3, p4, p5, p6⟩ := look_loop hg hc hcl j m1 s3 s2 ro (fun q hqq => hq q (by omega)) (fun q s hss => hk q s (by omega)) j2 j1 (by omega) j3 hr
    refine ⟨x, ⟨max k1 k2', ?_⟩, k2.trans p1, p2, by omega, by rw [p4, k5], by rw [p5, k6], p6⟩
    simp only [lookB]
    rw [if_neg (by rw [hM.spent]; exact Bool.false_ne_true), firstB_mono (fun m base p x hx => srchB_mono (Nat.le_max_left k1 k2') hx) hk1]
    simp only [Bool.false_eq_true, if_false]
    exact lookB_mono (fun q m x hx => firstB_mono (fun m base p x hx => srchB_mono (Nat.le_max_right k1 k2') hx) hx) _ _ _ hk2
   ·simp only at hr
    have hr2 : (ro, s2) = (none, s3) := by
     cases j with
     | zero => simp only [behindR] at hr; exact (Option.some.inj hr).symm
     | succ j => simp only [behindR] at hr; rw [if_pos j1] at hr; exact (Option.some.inj hr).symm
    cases hr2
    refine ⟨(m1, p, neg && !m1.spent), ⟨k1, ?_⟩, k2, k3, k4, k5, k6, .inl ⟨j1, j2, by rw [j2]; simp⟩⟩
    simp only [lookB]
    rw [if_neg (by rw [hM.spent]; exact Bool.false_ne_true), hk1]
    simp only [Bool.false_eq_true, if_false]
    cases j with
    | zero => simp only [lookB]
    | succ j => simp only [lookB]; rw [if_pos j2]
include X
theorem alt_sim {most : Int} {re : Re} {i : Int} {c : CapsL} {next : Goal} {base : Nat} {r : BRef} {g : BGoal} {b : Bool} {st' : Sst} (hr : litR P r = some re) (hg : GR P g next) (hv : re.every (vB nc) = true) (hi0 : 0 ≤ i) (hi1 : i ≤ t.length) (hc : CapsOk t c) (hcl : c.length = nc) :
  ∀ (l : List Re) (j : Nat) (st : Sst) (S : List BPlace) (m : Mst) (a : Int), re.kids.drop j = l → l ≠ [] → MS P t F m S st.steps → SP F most st → (S.length : Int) + 1 ≤ st.steps → base ≤ S.length → GK nc i st.steps next →
   altR (fun k st => evR t F n most (.run (.mk 0 k 0 0 next) i c) st) l st = some (b, st') → Con P t F nc base S most i m ⟨i, c, .mk 1 r j a g⟩ true st b st'
 | [], _, _, _, _, _, _, hne, _, _, _, _, _, _ => absurd rfl hne
 | kid :: l, j, st, S, m, a, hl, _, hM, hS, hroom, hb, hk, h => by
  have hkid : re.kids[j]? = some kid := by
   have := congrArg (fun l => l[0]?) hl
   simpa using this
  have hj := (List.getElem?_eq_some_iff.1 hkid).1
  obtain ⟨⟨_, _, _, v4, _, _, _⟩, hvk⟩ := vB_iff hv
  have hgood := hM.good (p := ⟨i, c, .mk 1 r j a g⟩) X.ht X.hF hS.s0 hS.s1 hi0 hi1 (by show c.length ≤ _; rw [hcl]; exact X.nc)
  have hadv := adv_kids (re := re) (kid := kid) hgood (by omega) (by omega) (lit_eq hM hr) v4 (by simpa using hkid)
  have hrun : ∀ (st1 : Sst) (b1 : Bool) (s2 : Sst) (S2 : List BPlace) (m2 : Mst), evR t F n most (.run (.mk 0 kid 0 0 next) i c) st1 = some (b1, s2) → MS P t F m2 S2 st1.steps → SP F most st1 → base ≤ S2.length → st.steps ≤ st1.steps →
    Con P t F nc base S2 most i m2 ⟨i, c, .mk 0 (.el kid) 0 0 g⟩ true st1 b1 s2 := by
   intro st1 b1 s2 S2 m2 hev hM2 hS2 hb2 hss
   exact ih most _ st1 b1 s2 hev base S2 m2 _ hM2 hS2 hb2 ⟨rfl, rfl, .tree rfl hg⟩ ⟨fun _ => hvk kid (List.mem_of_getElem? hkid), fun h => by omega, fun h => by omega, fun h => by omega, fun h => by omega, hk.mono (Int.le_refl _) hss⟩ hi0 hi1 hc hcl
  have hdrop : re.kids.drop (j + 1) = l := by
   have h1 : re.kids.drop (j + 1) = (re.kids.drop j).drop 1 := by rw [List.drop_drop]
   rw [h1, hl]; rfl
  simp only [altR] at h
  cases hx : evR t F n most (.run (.mk 0 kid 0 0 next) i c) st with
  | none => rw [hx] at h; cases h
  | some y =>
   obtain ⟨b1, s2⟩ := y
   rw [hx] at h
   cases l with
   | nil =>
    have hlen : re.kids.length = j + 1 := by have := congrArg List.length hdrop; simp at this; omega
    rw [if_neg (by omega)] at hadv
    have hbb : b1 = b ∧ s2 = st' := by
     cases b1 with
     | true => simp only [orR] at h; cases h; exact ⟨rfl, rfl⟩
     | false => simp only [orR, altR] at h; cases h; exact ⟨rfl, rfl⟩
    obtain ⟨rfl, rfl⟩ := hbb
    exact Con.adv rfl hadv (.refl m) (hrun st b1 s2 S m hx hM hS hb (Int.le_refl _))
   | cons k2 l2 =>
    have hlen : j + 1 < re.kids.length := by have := congrArg List.length hdrop; simp at this; omega
    rw [if_pos (by omega)] at hadv
    obtain ⟨hMp, hPp⟩ := push_ms hM ⟨i, c, .mk 1 r ((j : Int) + 1) 0 g⟩ hroom X.hF hS.s1
    refine Con.adv rfl hadv hPp ?_
    refine Con.or hb (hrun st b1 s2 _ _ hx hMp hS (by rw [List.length_append]; omega) (Int.le_refl _)) (fun hb1 => ?_) (fun hb1 m2 hfr hM2 he2 hF2 hm2 hss => ?_)
    ·subst hb1; simp only [orR] at h; cases h; exact ⟨rfl, rfl⟩
    ·subst hb1
     simp only [orR] at h
     have := alt_sim hr hg hv hi0 hi1 hc hcl (k2 :: l2) (j + 1) s2 S m2.pop 0 hdrop (by simp) hM2.pop ⟨he2, by have := hS.s0; omega, hF2, hm2⟩ (by omega) hb (hk.mono (Int.le_refl _) hss) h
     simpa using this
end nodes
theorem push_gr {P : Re} {g : BGoal} {h : Goal} (hg : GR P g h) : ∀ l : List Re, GR P (pushB l g) (pushAll l h)
 | [] => hg
 | k :: l => .tree rfl (push_gr hg l)
theorem push_gk {nc i s : Int} {h : Goal} (hk : GK nc i s h) : ∀ l : List Re, (∀ k ∈ l, k.every (vB nc) = true) → GK nc i s (pushAll l h)
 | [], _ => hk
 | k :: l, hv => ⟨fun _ => hv k (by simp), fun h => by omega, fun h => by omega, fun h => by omega, fun h => by omega, push_gk hk l (fun x hx => hv x (by simp [hx]))⟩
section nodes
variable {P : Re} {t : List Int} {F : Int} {nc n : Nat} (X : Fx t F nc) (ih : Sim P t F nc n)
include X ih
theorem node_sim {most : Int} {re : Re} {i : Int} {c : CapsL} {next : Goal} {st st' : Sst} {b : Bool} {base : Nat} {S : List BPlace} {m : Mst} {r : BRef} {n0 a : Int} {g : BGoal} (hM : MS P t F m S st.steps) (hS : SP F most st) (hb : base ≤ S.length)
  (hr : litR P r = some re) (hg : GR P g next) (hv : re.every (vB nc) = true) (o4 : re.op ≠ 4) (hn : GK nc i st.steps next) (hi0 : 0 ≤ i) (hi1 : i ≤ t.length) (hc : CapsOk t c) (hcl : c.length = nc)
  (h : (if (st.step F).empty then some (true, st.step F) else nodeR t (evR t F n) most re next i c (st.step F)) = some (b, st')) : Con P t F nc base S most i m ⟨i, c, .mk 0 r n0 a g⟩ true st b st' := by
 have hs0 := hS.s0
 have hs1 := hS.s1
 have hF := X.hF
 have hcl9 : c.length ≤ 1000000000 := by rw [hcl]; exact X.nc
 have hgood := hM.good (p := ⟨i, c, .mk 0 r n0 a g⟩) X.ht hF hs0 hs1 hi0 hi1 hcl9
 have hlit := lit_eq hM hr
 obtain ⟨⟨v1, v2, v3, v4, v5, v6, _⟩, hvk⟩ := vB_iff hv
 by_cases he : (st.step F).empty = true
 ·rw [if_pos he] at h
  cases h
  have hfo := hS.stepout he
  obtain ⟨q1, q2, q3⟩ := step_out hM hfo
  refine Con.adv rfl (adv_begin hgood (y := (m.step, .zero, false)) ⟨0, ?_⟩) q3 (Con.out q1 q2 he hS.most rfl rfl (by show st.steps ≤ st.steps + 1; omega))
  unfold beginB
  rw [hlit]
  simp only
  rw [if_neg (by omega), if_neg o4, if_pos (by rw [hM.steps, hM.fuel]; exact hfo)]
 rw [if_neg he] at h
 have he : (st.step F).empty = false := by simpa using he
 obtain ⟨hlt, hS1⟩ := hS.step he
 obtain ⟨hM1, hP1, _⟩ := step_ms hM hlt
 have hfu : ¬ m.fuel ≤ m.steps := by rw [hM.steps, hM.fuel]; omega
 have hst1 : (st.step F).steps = st.steps + 1 := rfl
 have hse : (st.step F).ends = st.ends := rfl
 have hsc : (st.step F).caps = st.caps := rfl
 rw [← hst1] at hM1
 generalize hs1' : st.step F = s1 at *
 have hn1 : GK nc i s1.steps next := hn.mono (Int.le_refl _) (by omega)
 have hm1t : m.step.t = t := hM1.t
 have hroom := hM.room
 -- the goals behind
 have go : ∀ (e : Int) (d : CapsL) (s2 : Sst) (m2 : Mst) (b2 : Bool) (s3 : Sst), MS P t F m2 S s2.steps → SP F most s2 → s1.steps ≤ s2.steps → i ≤ e → e ≤ t.length → CapsOk t d → d.length = nc → evR t F n most (.run next e d) s2 = some (b2, s3) → Con P t F nc base S most e m2 ⟨e, d, g⟩ true s2 b2 s3 := by
  intro e d s2 m2 b2 s3 hM2 hS2 hss he1 he2 hd hdl hev
  exact ih most _ s2 b2 s3 hev base S m2 _ hM2 hS2 hb ⟨rfl, rfl, hg⟩ (hn1.mono he1 hss) (by show (0 : Int) ≤ e; omega) he2 hd hdl
 have gol : ∀ (gb : BGoal) (hh : Goal) (b2 : Bool) (s3 : Sst), GR P gb hh → GK nc i s1.steps hh → evR t F n most (.run hh i c) s1 = some (b2, s3) → Con P t F nc base S most i m.step ⟨i, c, gb⟩ true s1 b2 s3 := by
  intro gb hh b2 s3 hgr hgk hev
  exact ih most _ s1 b2 s3 hev base S m.step _ hM1 hS1 hb ⟨rfl, rfl, hgr⟩ hgk hi0 hi1 hc hcl
 -- one move, then the rest
 have mv : ∀ (y : BPlace) (al : Bool), (∀ rec, beginB rec m r ⟨i, c, g⟩ = some (m.step, y, al)) → Con P t F nc base S most i m.step y al s1 b st' → Con P t F nc base S most i m ⟨i, c, .mk 0 r n0 a g⟩ true st b st' := fun y al hbeg hcon =>
  Con.adv rfl (adv_begin hgood ⟨0, hbeg _⟩) hP1 (hcon.weak (Int.le_refl _) hse hsc (by omega))
 have dead : ∀ (y : BPlace), b = false → st' = s1 → Con P t F nc base S most i m.step y false s1 b st' := fun y hb1 hs => by
  subst hb1; subst hs
  exact Con.no hM1 hS1.empty hS1.most hS1.s1
 have beg : ∀ rec, beginB rec m r ⟨i, c, g⟩ = (let m := m.step
   if re.op = 1 then some (m, setR m.t re ⟨i, c, g⟩)
   else if re.op = 2 then some (m, ⟨i, c, pushB re.kids g⟩, true)
   else if re.op = 3 then some (m, fro ⟨i, c, g⟩ 1 r 0 0, true)
   else if re.op = 5 then match re.kids with
    | [] => none
    | kid :: _ => some (m, fro (fro ⟨i, c, g⟩ 4 r 0 i) 0 (.el kid) 0 0, true)
   else if re.op = 6 then match refR m.t re ⟨i, c, g⟩ with
    | none => none
    | some x => some (m, x)
   else if re.op = 7 ∨ re.op = 8 then match re.kids with
    | [] => none
    | kid :: _ => behindB rec m re kid ⟨i, c, g⟩
   else if re.op = 9 then match re.kids with
    | [] => none
    | kid :: _ => aloneB rec m ⟨i, c, g⟩ (.mk 0 (.el kid) 0 0 .nil)
   else if re.op = 10 then match re.kids with
    | yes :: no :: _ => if re.n < 1 ∨ (c.length : Int) < re.n then none else some (m, fro ⟨i, c, g⟩ 0 (.el (if 0 ≤ (c.getD (re.n - 1).toNat (-1, -1)).1 then yes else no)) 0 0, true)
    | _ => none
   else if re.op = 11 then (if re.n < 0 ∨ 5 < re.n then none else some (m, ⟨i, c, g⟩, holdsR re.n m.t i))
   else some (m, ⟨i, c, g⟩, true)) := by
  intro rec
  unfold beginB
  rw [hlit]
  simp only
  rw [if_neg (by omega), if_neg o4, if_neg hfu]
  rfl
 simp only at beg
 unfold nodeR at h
 by_cases o1 : re.op = 1
 ·rw [if_pos o1] at h
  simp only [if_pos o1] at beg
  by_cases q : i < t.length ∧ inB re.set (tAt t i) = true
  ·rw [if_pos q] at h
   refine mv ⟨i + 1, c, g⟩ true (fun rec => ?_) ((go (i + 1) c s1 m.step b st' hM1 hS1 (Int.le_refl _) (by omega) (by omega) hc hcl h).weak (by omega) rfl rfl (Int.le_refl _))
   rw [beg rec]
   unfold setR
   rw [hm1t, if_pos q]
  ·rw [if_neg q] at h
   cases h
   refine mv .zero false (fun rec => ?_) (dead _ rfl rfl)
   rw [beg rec]
   unfold setR
   rw [hm1t, if_neg q]
 rw [if_neg o1] at h
 simp only [if_neg o1] at beg
 by_cases o2 : re.op = 2
 ·rw [if_pos o2] at h
  simp only [if_pos o2] at beg
  exact mv _ true beg (gol _ _ b st' (push_gr hg re.kids) (push_gk hn1 re.kids hvk) h)
 rw [if_neg o2] at h
 simp only [if_neg o2] at beg
 by_cases o3 : re.op = 3
 ·rw [if_pos o3] at h
  simp only [if_pos o3] at beg
  refine mv _ true beg ?_
  exact alt_sim X ih hr hg hv hi0 hi1 hc hcl re.kids 0 s1 S m.step 0 rfl (v1 (.inl o3)) hM1 hS1 (by omega) hb hn1 h
 rw [if_neg o3] at h
 simp only [if_neg o3] at beg
 by_cases o5 : re.op = 5
 ·rw [if_pos o5] at h
  simp only [if_pos o5] at beg
  cases hk : re.kids with
  | nil => rw [hk] at h; cases h
  | cons kid l =>
   rw [hk] at h
   simp only [hk] at beg
   refine mv _ true beg (gol _ _ b st' (.tree rfl (.cap hr hg)) ?_ h)
   exact ⟨fun _ => hvk kid (by rw [hk]; simp), fun h => by omega, fun h => by omega, fun h => by omega, fun h => by omega, fun _ => hv, fun h => by omega, fun h => by omega, fun h => by omega, fun _ => ⟨o5, hi0, Int.le_refl _⟩, hn1⟩
 rw [if_neg o5] at h
 simp only [if_neg o5] at beg
 by_cases o6 : re.op = 6
 ·rw [if_pos o6] at h
  simp only [if_pos o6] at beg
  simp only at h
  obtain ⟨w1, w2⟩ := v5 (by omega)
  have hsp : spanR c re.n = c.getD (re.n - 1).toNat (-1, -1) := by unfold spanR; rw [if_neg (by omega)]
  have hgo := span_get hc re.n
  rw [hsp] at h hgo
  have hrf : refR t re ⟨i, c, g⟩ = (let x := c.getD (re.n - 1).toNat (-1, -1)
    if x.1 < 0 ∨ (t.length : Int) - i < x.2 - x.1 then some (.zero, false) else if x.2 < x.1 ∨ (t.length : Int) < x.2 then none
    else if sameR t x.1 i (x.2 - x.1).toNat = true then some (⟨i + (x.2 - x.1), c, g⟩, true) else some (.zero, false)) := by
   unfold refR
   rw [if_neg (by show ¬ (re.n < 1 ∨ (c.length : Int) < re.n); omega)]
   simp only
   rw [if_neg]
   have ht := X.ht
   rcases hgo with hgo | hgo
   ·rw [hgo]; simp
   ·omega
  rw [hm1t, hrf] at beg
  generalize c.getD (re.n - 1).toNat (-1, -1) = x at *
  obtain ⟨x1, x2⟩ := x
  simp only at h beg hgo
  by_cases q1 : x1 < 0
  ·rw [if_pos q1] at h
   simp only [if_pos (show x1 < 0 ∨ (t.length : Int) - i < x2 - x1 from .inl q1)] at beg
   cases h
   exact mv _ _ beg (dead _ rfl rfl)
  rw [if_neg q1] at h
  by_cases q2 : x2 < x1 ∨ (t.length : Int) < x2
  ·rw [if_pos q2] at h; cases h
  rw [if_neg q2] at h
  by_cases q3 : t.length < i + x2 - x1
  ·rw [if_pos q3] at h
   simp only [if_pos (show x1 < 0 ∨ (t.length : Int) - i < x2 - x1 from .inr (by omega))] at beg
   cases h
   exact mv _ _ beg (dead _ rfl rfl)
  rw [if_neg q3] at h
  simp only [if_neg (show ¬ (x1 < 0 ∨ (t.length : Int) - i < x2 - x1) by omega), if_neg q2] at beg
  by_cases q4 : sameR t x1 i (x2 - x1).toNat = true
  ·rw [if_pos q4] at h
   simp only [if_pos q4] at beg
   have hpos : i + x2 - x1 = i + (x2 - x1) := by omega
   rw [hpos] at h
   exact mv _ _ beg ((go (i + (x2 - x1)) c s1 m.step b st' hM1 hS1 (Int.le_refl _) (by omega) (by omega) hc hcl h).weak (by omega) rfl rfl (Int.le_refl _))
  ·rw [if_neg q4] at h
   simp only [if_neg q4] at beg
   cases h
   exact mv _ _ beg (dead _ rfl rfl)
 rw [if_neg o6] at h
 simp only [if_neg o6] at beg
 by_cases o7 : re.op = 7 ∨ re.op = 8
 ·rw [if_pos o7] at h
  simp only [if_pos o7] at beg
  cases hk : re.kids with
  | nil => rw [hk] at h; cases h
  | cons kid l =>
   rw [hk] at h
   simp only [hk] at beg
   simp only at h
   have hkv : kid.every (vB nc) = true := hvk kid (by rw [hk]; simp)
   -- the look
   cases hlk : lookR (evR t F n) re.op kid i c s1 with
   | none => rw [hlk] at h; cases h
   | some y =>
    obtain ⟨ro, s2⟩ := y
    rw [hlk] at h
    simp only at h
    have look : ∃ x, (∃ k, behindB (fun m base p => srchB k true m base p true) m.step re kid ⟨i, c, g⟩ = some x) ∧ LookPost P t F nc S re.neg ⟨i, c, g⟩ m.step s1 ro s2 x := by
     unfold lookR at hlk
     unfold behindB
     by_cases p7 : re.op = 7
     ·rw [if_pos p7] at hlk
      have p8 : ¬ re.op = 8 := by omega
      simp only [if_neg p8, lookGoals]
      have hfi : behindR (fun k st => firstR (evR t F n) (.mk 0 kid 0 0 .nil) (i + k) c st) 1 s1 = some (ro, s2) := by
       simp only [behindR]
       rw [if_neg (by rw [hS1.empty]; exact Bool.false_ne_true)]
       cases hf : firstR (evR t F n) (.mk 0 kid 0 0 .nil) i c s1 with
       | none => rw [hf] at hlk; cases hlk
       | some z =>
        obtain ⟨o, s3⟩ := z
        rw [hf] at hlk
        rw [show i + ((0 : Nat) : Int) = i by omega, hf]
        cases hlk
        cases o with
        | none => rfl
        | some e => rfl
      exact look_loop ih (.tree rfl .nil) hc hcl 1 m.step s1 s2 ro (fun q hq => by omega) (fun q s _ => ⟨fun _ => hkv, fun h => by omega, fun h => by omega, fun h => by omega, fun h => by omega, trivial⟩) hM1 hS1.empty hS1.s0 hS1.s1 hfi
     ·rw [if_neg p7] at hlk
      have p8 : re.op = 8 := by omega
      simp only [if_pos p8, lookGoals]
      have hfi : behindR (fun k st => firstR (evR t F n) (.mk 0 kid 0 0 (.mk 4 (.mk 0 [] [] 0 0 0 0 false) 0 i .nil)) (0 + k) c st) (i.toNat + 1) s1 = some (ro, s2) := by
       have : (fun (k : Int) (st : Sst) => firstR (evR t F n) (.mk 0 kid 0 0 (.mk 4 (.mk 0 [] [] 0 0 0 0 false) 0 i .nil)) (0 + k) c st) = fun k st => firstR (evR t F n) (.mk 0 kid 0 0 (.mk 4 (.mk 0 [] [] 0 0 0 0 false) 0 i .nil)) k c st := by
        funext k st; rw [Int.zero_add]
       rw [this]; exact hlk
      exact look_loop ih (.tree rfl (.arrive .nil)) hc hcl (i.toNat + 1) m.step s1 s2 ro (fun q hq => by omega) (fun q s _ => ⟨fun _ => hkv, fun h => by omega, fun h => by omega, fun h => by omega, fun h => by omega, fun h => absurd rfl h, fun h => by omega, fun h => by omega, fun h => by omega, fun h => by omega, trivial⟩) hM1 hS1.empty hS1.s0 hS1.s1 hfi
    obtain ⟨x, ⟨k, hkx⟩, p1, p2, p3, p4, p5, p6⟩ := look
    obtain ⟨m2, p', al'⟩ := x
    simp only at p1 p2 p6
    refine Con.adv rfl (adv_begin hgood ⟨k, by rw [beg]; exact hkx⟩) (hP1.trans p1) (Con.weak (s0 := s2) ?_ (Int.le_refl _) (by rw [p4, hse]) (by rw [p5, hsc]) (by omega))
    have hmost2 : 0 ≤ most → (s2.ends.length : Int) < most := by rw [p4]; exact hS1.most
    rcases p6 with ⟨e1, e2, rfl⟩ | ⟨e1, e2, e3, e4⟩
    ·rw [if_pos e1] at h
     cases h
     exact Con.out p2 e2 e1 hmost2 rfl rfl (Int.le_refl _)
    ·rw [if_neg (by rw [e1]; exact Bool.false_ne_true)] at h
     have hS2 : SP F most s2 := ⟨e1, by have := hS1.s0; omega, e3, hmost2⟩
     rcases e4 with ⟨rfl, rfl, rfl⟩ | ⟨d, rfl, hd, hdl, e5⟩
     ·by_cases hneg : re.neg = true
      ·rw [if_pos hneg] at h
       rw [hneg]
       exact go i c s2 m2 b st' e2 hS2 p3 (Int.le_refl _) hi1 hc hcl h
      ·rw [if_neg hneg] at h
       have hneg : re.neg = false := by simpa using hneg
       rw [hneg]
       cases h
       exact Con.no e2 e1 hmost2 e3
     ·rcases e5 with ⟨hneg, rfl⟩ | ⟨hneg, rfl, rfl⟩
      ·rw [if_pos hneg] at h
       cases h
       exact Con.no e2 e1 hmost2 e3
      ·rw [if_neg (by rw [hneg]; exact Bool.false_ne_true)] at h
       exact go i d s2 m2 b st' e2 hS2 p3 (Int.le_refl _) hi1 hd hdl h
 rw [if_neg o7] at h
 simp only [if_neg o7] at beg
 by_cases o9 : re.op = 9
 ·rw [if_pos o9] at h
  simp only [if_pos o9] at beg
  cases hk : re.kids with
  | nil => rw [hk] at h; cases h
  | cons kid l =>
   rw [hk] at h
   simp only [hk] at beg
   simp only at h
   have hkv : kid.every (vB nc) = true := hvk kid (by rw [hk]; simp)
   cases hf : firstR (evR t F n) (.mk 0 kid 0 0 .nil) i c s1 with
   | none => rw [hf] at h; cases h
   | some y =>
    obtain ⟨o, s2⟩ := y
    rw [hf] at h
    simp only at h
    obtain ⟨m2, rr, found, ⟨k, hk1⟩, k2, k3, k4, k5, k6, k7⟩ := first_ref ih (gb := .mk 0 (.el kid) 0 0 .nil) hM1 hS1.empty hS1.s0 hS1.s1 (.tree rfl .nil) ⟨fun _ => hkv, fun h => by omega, fun h => by omega, fun h => by omega, fun h => by omega, trivial⟩ hi0 hi1 hc hcl hf
    have hal : aloneB (fun m base p => srchB k true m base p true) m.step ⟨i, c, g⟩ (.mk 0 (.el kid) 0 0 .nil) = some (m2, { rr with todo := g }, found) := by
     unfold aloneB
     rw [hk1]
    refine Con.adv rfl (adv_begin hgood ⟨k, by rw [beg]; exact hal⟩) (hP1.trans k2) (Con.weak (s0 := s2) ?_ (Int.le_refl _) (by rw [k5, hse]) (by rw [k6, hsc]) (by omega))
    have hmost2 : 0 ≤ most → (s2.ends.length : Int) < most := by rw [k5]; exact hS1.most
    rcases k7 with ⟨j1, j2, j3, ⟨rfl, e, d, rfl, rfl, l3, l4, l5, l6⟩ | ⟨rfl, rfl⟩⟩ | ⟨j1, j2, rfl, rfl⟩
    ·rw [if_neg (by rw [j1]; exact Bool.false_ne_true)] at h
     simp only at h
     exact (go e d s2 m2 b st' j2 ⟨j1, by have := hS1.s0; omega, j3, hmost2⟩ k4 l3 l4 l5 l6 h).weak l3 rfl rfl (Int.le_refl _)
    ·rw [if_neg (by rw [j1]; exact Bool.false_ne_true)] at h
     cases h
     exact Con.no j2 j1 hmost2 j3
    ·rw [if_pos j1] at h
     cases h
     exact Con.out k3 j2 j1 hmost2 rfl rfl (Int.le_refl _)
 rw [if_neg o9] at h
 simp only [if_neg o9] at beg
 by_cases o10 : re.op = 10
 ·rw [if_pos o10] at h
  simp only [if_pos o10] at beg
  obtain ⟨w1, w2⟩ := v5 (by omega)
  have hsp : spanR c re.n = c.getD (re.n - 1).toNat (-1, -1) := by unfold spanR; rw [if_neg (by omega)]
  rw [hsp] at h
  match hk : re.kids with
  | [] => rw [hk] at h; cases h
  | [_] => rw [hk] at h; cases h
  | yes :: no :: l =>
   rw [hk] at h
   simp only [hk] at beg
   simp only at h
   simp only [if_neg (show ¬ (re.n < 1 ∨ (c.length : Int) < re.n) by omega)] at beg
   refine mv _ _ beg (gol _ _ b st' (.tree rfl hg) ⟨fun _ => ?_, fun h => by omega, fun h => by omega, fun h => by omega, fun h => by omega, hn1⟩ h)
   split
   ·exact hvk yes (by rw [hk]; simp)
   ·exact hvk no (by rw [hk]; simp)
 rw [if_neg o10] at h
 simp only [if_neg o10] at beg
 by_cases o11 : re.op = 11
 ·rw [if_pos o11] at h
  simp only [if_pos o11] at beg
  obtain ⟨w1, w2⟩ := v6 o11
  rw [hm1t] at beg
  simp only [if_neg (show ¬ (re.n < 0 ∨ 5 < re.n) by omega)] at beg
  by_cases q : holdsR re.n t i = true
  ·rw [if_pos q] at h
   rw [q] at beg
   exact mv _ _ beg (gol _ _ b st' hg hn1 h)
  ·rw [if_neg q] at h
   have q : holdsR re.n t i = false := by simpa using q
   rw [q] at beg
   cases h
   exact mv _ _ beg (dead _ rfl rfl)
 rw [if_neg o11] at h
 simp only [if_neg o11] at beg
 exact mv _ _ beg (gol _ _ b st' hg hn1 h)
end nodes
theorem setMode_vB {nc : Int} {re : Re} (h : re.every (vB nc) = true) (m : Int) : (re.setMode m).every (vB nc) = true := by
 rw [Re.every_iff] at h ⊢
 exact ⟨h.1, h.2⟩
section all
variable {P : Re} {t : List Int} {F : Int} {nc : Nat} (X : Fx t F nc)
include X
theorem sim_run {n : Nat} (ih : Sim P t F nc n) {most : Int} {h : Goal} {i : Int} {c : CapsL} {st st' : Sst} {b : Bool} {base : Nat} {S : List BPlace} {m : Mst} {g : BGoal} (hM : MS P t F m S st.steps) (hS : SP F most st) (hb : base ≤ S.length)
  (hg : GR P g h) (hk : GK nc i st.steps h) (hi0 : 0 ≤ i) (hi1 : i ≤ t.length) (hc : CapsOk t c) (hcl : c.length = nc) (hr : evStep t F (evR t F n) most (.run h i c) st = some (b, st')) : Con P t F nc base S most i m ⟨i, c, g⟩ true st b st' := by
 have hs0 := hS.s0
 have hs1 := hS.s1
 have hcl9 : c.length ≤ 1000000000 := by rw [hcl]; exact X.nc
 have good : ∀ gb, m.good ⟨i, c, gb⟩ := fun gb => hM.good (p := ⟨i, c, gb⟩) X.ht X.hF hs0 hs1 hi0 hi1 hcl9
 simp only [evStep] at hr
 rw [if_neg (by omega)] at hr
 have same : ∀ (task : Task), task.pos = i → task.caps = c → (∀ rec, rec = evR t F n → rec most task st = some (b, st')) → TR P task ⟨i, c, g⟩ → TK nc st.steps task → Con P t F nc base S most i m ⟨i, c, g⟩ true st b st' := by
  intro task hp hcc hev htr htk
  have := ih most task st b st' (hev _ rfl) base S m _ hM hS hb htr htk (by rw [hp]; exact hi0) (by rw [hp]; exact hi1) (by rw [hcc]; exact hc) (by rw [hcc]; exact hcl)
  rwa [hp] at this
 cases hg with
 | nil =>
  simp only at hr
  split at hr
  case isFalse => cases hr
  rename_i hlen
  obtain ⟨hl1, hl2⟩ := hlen
  simp only [Option.some.injEq, Prod.mk.injEq] at hr
  obtain ⟨hbb, rfl⟩ := hr
  have hends : ((st.ends ++ [i]).length : Int) = st.ends.length + 1 := by simp
  cases b with
  | true =>
   simp only [Bool.and_eq_true, decide_eq_true_eq] at hbb
   have := hS.most hbb.1
   exact ⟨[(i, c)], m, rfl, rfl, fun r hr => by rw [List.mem_singleton.1 hr]; exact ⟨Int.le_refl _, hi1, hc, hcl⟩, .refl m, Int.le_refl _, .inr (.inl ⟨rfl, hS.empty, hbb.1, by simp only [hends]; omega, hs1, [], [], i, c, by simpa using hM, rfl, .refl _ _ _⟩)⟩
  | false =>
   refine ⟨[(i, c)], m, rfl, rfl, fun r hr => by rw [List.mem_singleton.1 hr]; exact ⟨Int.le_refl _, hi1, hc, hcl⟩, .refl m, Int.le_refl _, .inl ⟨rfl, hS.empty, fun hm => ?_, hM, hs1, .zero, .emit hM.spent (.refl _ _ _)⟩⟩
   have := hS.most hm
   simp only [hends]
   by_cases hle : most ≤ (st.ends.length : Int) + 1
   ·rw [decide_eq_true hm, decide_eq_true hle] at hbb; cases hbb
   ·omega
 | @tree r re n0 a k f g0 h0 hr0 hg0 =>
  simp only at hr
  rw [if_neg (by decide), if_neg (by decide), if_neg (by decide), if_neg (by decide)] at hr
  obtain ⟨k1, k2, k3, k4, k5, k6⟩ := hk
  exact same (.node (.mk 0 re k f h0) i c) rfl rfl (fun rec hrec => by rw [hrec]; exact hr) ⟨rfl, rfl, r, n0, a, g0, rfl, hr0, hg0⟩ ⟨k1 (by decide), k6⟩
 | @round r re re' n0 a f g0 h0 hr0 ht0 hg0 =>
  simp only at hr
  rw [if_pos trivial] at hr
  obtain ⟨k1, k2, k3, k4, k5, k6⟩ := hk
  exact same (.rep (.mk 1 re' n0 f h0) i c) rfl rfl (fun rec hrec => by rw [hrec]; exact hr) ⟨rfl, rfl, .inr ⟨(k2 (.inl rfl)).2.1, r, re, a, g0, rfl, hr0, ht0, hg0⟩⟩ ⟨k1 (by decide), (k2 (.inl rfl)).1, (k2 (.inl rfl)).2.2, k3 rfl, k6⟩
 | @more r re re' n0 a f g0 h0 hr0 ht0 hn0 hg0 =>
  simp only at hr
  rw [if_neg (by decide), if_pos trivial, if_neg (by omega)] at hr
  split at hr
  ·cases hr
  obtain ⟨k1, k2, k3, k4, k5, k6⟩ := hk
  have := k4 rfl
  obtain ⟨l1, l2, l3⟩ := k2 (.inr rfl)
  exact same (.run (.mk 1 re' (n0 + 1) 0 h0) i c) rfl rfl (fun rec hrec => by rw [hrec]; exact hr) ⟨rfl, rfl, .round hr0 ht0 hg0⟩ ⟨fun _ => k1 (by decide), fun _ => ⟨l1, l2, by omega⟩, fun _ => by omega, fun h => by omega, fun h => by omega, k6⟩
 | @moved r re re' n0 a g0 h0 hr0 ht0 hn0 hg0 =>
  simp only at hr
  rw [if_neg (by decide), if_pos trivial] at hr
  obtain ⟨k1, k2, k3, k4, k5, k6⟩ := hk
  have := k4 rfl
  have hF := X.hF
  obtain ⟨l1, l2, l3⟩ := k2 (.inr rfl)
  have hadv := adv_moved (good (.mk 3 r (n0 + 1) a g0)) (by omega) (by omega)
  by_cases q : i = a
  ·rw [if_pos ⟨hn0, q⟩] at hr
   rw [if_pos q] at hadv
   cases hr
   exact Con.adv rfl hadv (.refl m) (Con.no hM hS.empty hS.most hs1)
  ·rw [if_neg (by omega)] at hr
   rw [if_neg q] at hadv
   split at hr
   ·cases hr
   refine Con.adv rfl hadv (.refl m) ?_
   exact ih most _ st b st' hr base S m _ hM hS hb ⟨rfl, rfl, .round hr0 ht0 hg0⟩ ⟨fun _ => k1 (by decide), fun _ => ⟨l1, l2, by omega⟩, fun _ => by omega, fun h => by omega, fun h => by omega, k6⟩ hi0 hi1 hc hcl
 | @cap r re a k g0 h0 hr0 hg0 =>
  simp only at hr
  rw [if_neg (by decide), if_neg (by decide), if_pos trivial, if_neg (by omega)] at hr
  obtain ⟨k1, k2, k3, k4, k5, k6⟩ := hk
  obtain ⟨o5, f0, f1⟩ := k5 rfl
  obtain ⟨⟨_, _, _, _, v5, _, _⟩, _⟩ := vB_iff (k1 (by decide))
  obtain ⟨w1, w2⟩ := v5 (.inl o5)
  have hw : withR c re.n a i = c.set (re.n - 1).toNat (a, i) := by unfold withR; rw [if_pos ⟨w1, by omega⟩]
  obtain ⟨c1, c2⟩ := CapsOk.with (n := re.n) hc f0 f1 hi1
  rw [hw] at hr c1 c2
  refine Con.adv rfl (adv_cap (good _) (lit_eq hM hr0) w1 (by omega)) (.refl m) ?_
  exact ih most _ st b st' hr base S m _ hM hS hb ⟨rfl, rfl, hg0⟩ k6 hi0 hi1 c1 (by show (c.set _ _).length = nc; rw [c2]; exact hcl)
 | @arrive r re a k g0 h0 hg0 =>
  simp only at hr
  rw [if_neg (by decide), if_neg (by decide), if_neg (by decide), if_pos trivial] at hr
  obtain ⟨k1, k2, k3, k4, k5, k6⟩ := hk
  have hadv := adv_arrive (r := r) (g := g0) (a := a) (good _)
  by_cases q : i = a
  ·rw [if_pos q] at hr
   rw [decide_eq_true q] at hadv
   refine Con.adv rfl hadv (.refl m) ?_
   exact ih most _ st b st' hr base S m _ hM hS hb ⟨rfl, rfl, hg0⟩ k6 hi0 hi1 hc hcl
  ·rw [if_neg q] at hr
   rw [decide_eq_false q] at hadv
   cases hr
   exact Con.adv rfl hadv (.refl m) (Con.no hM hS.empty hS.most hs1)
theorem sim_rep {n : Nat} (ih : Sim P t F nc n) {most : Int} {kind : Int} {re : Re} {k frm : Int} {next : Goal} {i : Int} {c : CapsL} {st st' : Sst} {b : Bool} {base : Nat} {S : List BPlace} {m : Mst} {p : BPlace} (hM : MS P t F m S st.steps) (hS : SP F most st) (hb : base ≤ S.length)
  (htr : TR P (.rep (.mk kind re k frm next) i c) p) (htk : TK nc st.steps (.rep (.mk kind re k frm next) i c)) (hi0 : 0 ≤ i) (hi1 : i ≤ t.length) (hc : CapsOk t c) (hcl : c.length = nc) (hr : repR F (evR t F n) most re k next i c st = some (b, st')) : Con P t F nc base S most i m p true st b st' := by
 obtain ⟨pa, pc, todo⟩ := p
 obtain ⟨rfl, rfl, htr⟩ := htr
 obtain ⟨v, o4, k0, k1, hk⟩ := htk
 have hs0 := hS.s0
 have hs1 := hS.s1
 rcases htr with ⟨hm, r, n0, a, g, htd, hr0, hg0⟩ | ⟨hm, r, re0, a, g, htd, hr0, ht0, hg0⟩
 ·simp only at htd
  subst htd
  unfold repR at hr
  rw [if_pos hm] at hr
  have hgood := hM.good (p := ⟨pa, pc, .mk 0 r n0 a g⟩) X.ht X.hF hs0 hs1 hi0 hi1 (by show pc.length ≤ _; rw [hcl]; exact X.nc)
  have hmm : (re.setMode 0).mode ≠ 2 := by simp [Re.setMode, Re.mode]
  cases hf : firstR (evR t F n) (.mk 1 (re.setMode 0) 0 0 .nil) pa pc st with
  | none => rw [hf] at hr; cases hr
  | some y =>
   obtain ⟨o, s2⟩ := y
   rw [hf] at hr
   simp only at hr
   obtain ⟨m2, rr, found, ⟨kk, hk1⟩, k2, k3, k4, k5, k6, k7⟩ := first_ref ih (gb := .mk 2 r 0 0 .nil) hM hS.empty hs0 hs1 (.round hr0 (.inr ⟨hm, rfl⟩) .nil) ⟨fun _ => setMode_vB v 0, fun _ => ⟨o4, hmm, Int.le_refl _⟩, fun _ => hs0, fun h => by omega, fun h => by omega, trivial⟩ hi0 hi1 hc hcl hf
   have hal : aloneB (fun m base p => srchB kk true m base p true) m ⟨pa, pc, g⟩ (.mk 2 r 0 0 .nil) = some (m2, { rr with todo := g }, found) := by
    unfold aloneB
    rw [hk1]
   obtain ⟨⟨v1, v2, v3, v4, v5, v6, _⟩, hvk⟩ := vB_iff v
   refine Con.adv rfl (adv_begin hgood (y := (m2, { rr with todo := g }, found)) ⟨kk, ?_⟩) k2 (Con.weak (s0 := s2) ?_ (Int.le_refl _) k5 k6 k4)
   ·unfold beginB
    rw [lit_eq hM hr0]
    simp only
    rw [if_neg (by omega), if_pos o4, if_pos hm]
    exact hal
   have hmost2 : 0 ≤ most → (s2.ends.length : Int) < most := by rw [k5]; exact hS.most
   rcases k7 with ⟨j1, j2, j3, ⟨rfl, e, d, rfl, rfl, l3, l4, l5, l6⟩ | ⟨rfl, rfl⟩⟩ | ⟨j1, j2, rfl, rfl⟩
   ·simp only at hr
    have := ih most _ s2 b st' hr base S m2 ⟨e, d, g⟩ j2 ⟨j1, by omega, j3, hmost2⟩ hb ⟨rfl, rfl, hg0⟩ (hk.mono l3 k4) (by show (0 : Int) ≤ e; have : (0 : Int) ≤ pa := hi0; omega) l4 l5 l6
    exact this.weak l3 rfl rfl (Int.le_refl _)
   ·simp only at hr
    cases hr
    rw [j1]
    exact Con.no j2 j1 hmost2 j3
   ·simp only at hr
    cases hr
    rw [j1]
    exact Con.out k3 j2 j1 hmost2 rfl rfl (Int.le_refl _)
 ·simp only at htd
  subst htd
  exact rep_sim X ih hM hS hb hr0 ht0 hg0 v o4 hm k0 k1 hk hi0 hi1 hc hcl hr
theorem sim_node {n : Nat} (ih : Sim P t F nc n) {most : Int} {kind : Int} {re : Re} {k frm : Int} {next : Goal} {i : Int} {c : CapsL} {st st' : Sst} {b : Bool} {base : Nat} {S : List BPlace} {m : Mst} {p : BPlace} (hM : MS P t F m S st.steps) (hS : SP F most st) (hb : base ≤ S.length)
  (htr : TR P (.node (.mk kind re k frm next) i c) p) (htk : TK nc st.steps (.node (.mk kind re k frm next) i c)) (hi0 : 0 ≤ i) (hi1 : i ≤ t.length) (hc : CapsOk t c) (hcl : c.length = nc) (hr : evStep t F (evR t F n) most (.node (.mk kind re k frm next) i c) st = some (b, st')) : Con P t F nc base S most i m p true st b st' := by
 obtain ⟨pa, pc, todo⟩ := p
 obtain ⟨rfl, rfl, r, n0, a, g, htd, hr0, hg0⟩ := htr
 simp only at htd
 subst htd
 obtain ⟨v, hk⟩ := htk
 have hs0 := hS.s0
 have hs1 := hS.s1
 obtain ⟨⟨v1, v2, v3, v4, v5, v6, _⟩, hvk⟩ := vB_iff v
 have hF := X.hF
 simp only [evStep] at hr
 have hi0 : 0 ≤ pa := hi0
 have hi1 : pa ≤ t.length := hi1
 have hc : CapsOk t pc := hc
 have hcl : pc.length = nc := hcl
 rw [if_neg (by omega)] at hr
 by_cases o4 : re.op = 4
 ·rw [if_pos o4] at hr
  by_cases hm : re.mode = 2
  ·exact ih most _ st b st' hr base S m _ hM hS hb ⟨rfl, rfl, .inl ⟨hm, r, n0, a, g, rfl, hr0, hg0⟩⟩ ⟨v, o4, Int.le_refl _, hs0, hk⟩ hi0 hi1 hc hcl
  ·have hgood := hM.good (p := ⟨pa, pc, .mk 0 r n0 a g⟩) X.ht X.hF hs0 hs1 hi0 hi1 (by show pc.length ≤ _; rw [hcl]; exact X.nc)
   refine Con.adv rfl (adv_begin hgood (y := (m, ⟨pa, pc, .mk 2 r 0 0 g⟩, true)) ⟨0, ?_⟩) (.refl m) ?_
   ·unfold beginB
    rw [lit_eq hM hr0]
    simp only
    rw [if_neg (by omega), if_pos o4, if_neg hm]
    rfl
   ·exact ih most _ st b st' hr base S m _ hM hS hb ⟨rfl, rfl, .inr ⟨hm, r, re, 0, g, rfl, hr0, .inl ⟨rfl, hm⟩, hg0⟩⟩ ⟨v, o4, Int.le_refl _, hs0, hk⟩ hi0 hi1 hc hcl
 ·rw [if_neg o4, if_neg (by rw [hcl]; have := X.nc; omega), if_neg (by omega)] at hr
  exact node_sim X ih hM hS hb hr0 hg0 v o4 hk hi0 hi1 hc hcl hr
theorem sim_all : ∀ n, Sim P t F nc n
 | 0 => fun _ _ _ _ _ h => by cases h
 | n + 1 => fun most task st b st' h base S m p hM hS hb htr htk hi0 hi1 hc hcl => by
  have ih := sim_all n
  have h : evStep t F (evR t F n) most task st = some (b, st') := h
  cases task with
  | run g i c =>
   obtain ⟨pa, pc, todo⟩ := p
   obtain ⟨rfl, rfl, hg⟩ := htr
   exact sim_run X ih hM hS hb hg htk hi0 hi1 hc hcl h
  | rep g i c =>
   cases g with
   | nil => exact htr.elim
   | mk kind re k frm next =>
    refine sim_rep X ih hM hS hb htr htk hi0 hi1 hc hcl ?_
    simp only [evStep] at h
    rw [if_neg (by have h1 : 0 ≤ i := hi0; have h2 : i ≤ t.length := hi1; omega)] at h
    exact h
  | node g i c =>
   cases g with
   | nil => exact htr.elim
   | mk kind re k frm next => exact sim_node X ih hM hS hb htr htk hi0 hi1 hc hcl h
end all
end Go.Proofs.Ytilapneoohcplaa
