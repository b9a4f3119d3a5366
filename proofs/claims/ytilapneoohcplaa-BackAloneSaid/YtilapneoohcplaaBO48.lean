/- A part of the proof (G59 G60). -/
import Derived.Test.YtilapneoohcplaaBO24
import Derived.Test.YtilapneoohcplaaBO44
set_option linter.unusedSimpArgs false
set_option linter.unusedVariables false
set_option maxRecDepth 100000
set_option maxHeartbeats 80000000
namespace Go.Proofs.Ytilapneoohcplaa
open Go.VL Go.Proofs.Try
def Mst.up (r o : Bool) (w : List Int) (g : Nat) (m : Mst) : Mst := { m with ready := r, ownText := o, own := w, ogen := g }
section up
variable {r o : Bool} {w : List Int} {g : Nat} {t0 : List Int}
theorem up_step (m : Mst) : (m.up r o w g).step = m.step.up r o w g := by
 unfold Mst.step Mst.up
 simp only
 split <;> rfl
theorem up_lit (m : Mst) (x : BRef) : (m.up r o w g).lit x = m.lit x := by cases x <;> rfl
variable {rec : Rec} (ht : ∀ m base p x, rec m base p = some x → x.1.t = m.t) (h : ∀ m base p x, m.t = t0 → rec m base p = some x → rec (m.up r o w g) base p = some (x.1.up r o w g, x.2))
include h
theorem up_first {m : Mst} {p : BPlace} {x : Rs} (hm : m.t = t0) (hx : firstB rec m p = some x) : firstB rec (m.up r o w g) p = some (x.1.up r o w g, x.2) := by
 unfold firstB at hx ⊢
 cases hr : rec m m.top p with
 | none => rw [hr] at hx; cases hx
 | some y =>
  obtain ⟨m1, p1, f⟩ := y
  rw [hr] at hx
  have := h m m.top p _ hm hr
  show (match rec (m.up r o w g) m.top p with
   | none => none
   | some (m', p', found) => if m'.top < m.top ∨ m'.stk.length < m'.top then none else some (m'.clear m.top, p', found)) = _
  rw [this]
  simp only at hx ⊢
  split at hx
  ·cases hx
  ·rename_i hc
   cases hx
   rw [if_neg (show ¬ ((m1.up r o w g).top < m.top ∨ (m1.up r o w g).stk.length < (m1.up r o w g).top) from hc)]
   rfl
theorem up_alone {m : Mst} {p : BPlace} {part : BGoal} {x : Rs} (hm : m.t = t0) (hx : aloneB rec m p part = some x) : aloneB rec (m.up r o w g) p part = some (x.1.up r o w g, x.2) := by
 unfold aloneB at hx ⊢
 cases hr : firstB rec m { p with todo := part } with
 | none => rw [hr] at hx; cases hx
 | some y =>
  obtain ⟨m1, p1, f⟩ := y
  rw [hr] at hx
  rw [up_first h hm hr]
  cases hx
  rfl
omit h in
theorem up_look {f : Int → Mst → Option Rs} (hft : ∀ k m x, f k m = some x → x.1.t = m.t) (hf : ∀ k m x, m.t = t0 → f k m = some x → f k (m.up r o w g) = some (x.1.up r o w g, x.2)) {neg : Bool} {p : BPlace} {last : Int} : ∀ (j : Nat) (m : Mst) (x : Rs), m.t = t0 → lookB f neg p last j m = some x → lookB f neg p last j (m.up r o w g) = some (x.1.up r o w g, x.2)
 | 0, m, x, _, hx => by
  simp only [lookB] at hx ⊢
  cases hx
  rfl
 | j + 1, m, x, hm, hx => by
  simp only [lookB] at hx ⊢
  by_cases hs : m.spent = true
  ·rw [if_pos hs] at hx
   rw [if_pos (show (m.up r o w g).spent = true from hs)]
   cases hx
   rfl
  ·rw [if_neg hs] at hx
   rw [if_neg (show ¬ (m.up r o w g).spent = true from hs)]
   cases hr : f (last + j) m with
   | none => rw [hr] at hx; cases hx
   | some y =>
    obtain ⟨m1, q, found⟩ := y
    rw [hr] at hx
    rw [hf _ _ _ hm hr]
    simp only at hx ⊢
    cases found with
    | true =>
     simp only [if_true] at hx ⊢
     cases neg with
     | true => simp only [if_true] at hx ⊢; cases hx; rfl
     | false => simp only [Bool.false_eq_true, if_false] at hx ⊢; cases hx; rfl
    | false =>
     simp only [Bool.false_eq_true, if_false] at hx ⊢
     exact up_look hft hf j m1 x (by have := hft _ _ _ hr; simp only at this; rw [this]; exact hm) hx
include ht
theorem up_begin {m : Mst} {b : BRef} {p : BPlace} {x : Rs} (hm : m.t = t0) (hx : beginB rec m b p = some x) : beginB rec (m.up r o w g) b p = some (x.1.up r o w g, x.2) := by
 have hst := up_step (r := r) (o := o) (w := w) (g := g) m
 have hstt : m.step.t = t0 := by rw [m.fr_step.t]; exact hm
 unfold beginB at hx ⊢
 rw [up_lit]
 cases hl : m.lit b with
 | none => rw [hl] at hx; cases hx
 | some re =>
  rw [hl] at hx
  simp only at hx ⊢
  rw [hst]
  by_cases c0 : 1000000000 < re.set.length ∨ 1000000000 < re.kids.length
  ·rw [if_pos c0] at hx; cases hx
  rw [if_neg c0] at hx ⊢
  by_cases c4 : re.op = 4
  ·rw [if_pos c4] at hx ⊢
   by_cases cm : re.mode = 2
   ·rw [if_pos cm] at hx ⊢; exact up_alone h hm hx
   ·rw [if_neg cm] at hx ⊢; cases hx; rfl
  rw [if_neg c4] at hx ⊢
  by_cases cf : m.fuel ≤ m.steps
  ·rw [if_pos cf] at hx
   rw [if_pos (show (m.up r o w g).fuel ≤ (m.up r o w g).steps from cf)]
   cases hx; rfl
  rw [if_neg cf] at hx
  rw [if_neg (show ¬ (m.up r o w g).fuel ≤ (m.up r o w g).steps from cf)]
  by_cases c1 : re.op = 1
  ·rw [if_pos c1] at hx ⊢; cases hx; rfl
  rw [if_neg c1] at hx ⊢
  by_cases c2 : re.op = 2
  ·rw [if_pos c2] at hx ⊢; cases hx; rfl
  rw [if_neg c2] at hx ⊢
  by_cases c3 : re.op = 3
  ·rw [if_pos c3] at hx ⊢; cases hx; rfl
  rw [if_neg c3] at hx ⊢
  by_cases c5 : re.op = 5
  ·rw [if_pos c5] at hx ⊢
   cases hk : re.kids with
   | nil => rw [hk] at hx; cases hx
   | cons kid l => rw [hk] at hx; cases hx; rfl
  rw [if_neg c5] at hx ⊢
  by_cases c6 : re.op = 6
  ·rw [if_pos c6] at hx ⊢
   show (match refR m.step.t re p with
    | none => none
    | some x => some (m.step.up r o w g, x)) = _
   cases hk : refR m.step.t re p with
   | none => rw [hk] at hx; cases hx
   | some y => rw [hk] at hx; cases hx; rfl
  rw [if_neg c6] at hx ⊢
  by_cases c7 : re.op = 7 ∨ re.op = 8
  ·rw [if_pos c7] at hx ⊢
   cases hk : re.kids with
   | nil => rw [hk] at hx; cases hx
   | cons kid l =>
    rw [hk] at hx
    simp only at hx ⊢
    unfold behindB at hx ⊢
    have hft : ∀ (k : Int) (m : Mst) (x : Rs), firstB rec m { at_ := k, caps := p.caps, todo := lookGoals re.op kid p.at_ } = some x → x.1.t = m.t := by
     intro k m x hx
     unfold firstB at hx
     split at hx
     ·cases hx
     ·rename_i m1 p1 f1 h1
      split at hx
      ·cases hx
      ·cases hx
       have := ht _ _ _ _ h1
       exact this
    exact up_look (f := fun k m => firstB rec m { at_ := k, caps := p.caps, todo := lookGoals re.op kid p.at_ }) hft (fun k m x hm hx => up_first h hm hx) _ _ _ hstt hx
  rw [if_neg c7] at hx ⊢
  by_cases c9 : re.op = 9
  ·rw [if_pos c9] at hx ⊢
   cases hk : re.kids with
   | nil => rw [hk] at hx; cases hx
   | cons kid l =>
    rw [hk] at hx
    exact up_alone h hstt hx
  rw [if_neg c9] at hx ⊢
  by_cases c10 : re.op = 10
  ·rw [if_pos c10] at hx ⊢
   match hk : re.kids with
   | [] => rw [hk] at hx; cases hx
   | [_] => rw [hk] at hx; cases hx
   | yes :: no :: l =>
    rw [hk] at hx
    simp only at hx ⊢
    split at hx
    ·cases hx
    ·rename_i hc; rw [if_neg hc]; cases hx; rfl
  rw [if_neg c10] at hx ⊢
  by_cases c11 : re.op = 11
  ·rw [if_pos c11] at hx ⊢
   split at hx
   ·cases hx
   ·rename_i hc; rw [if_neg hc]; cases hx; rfl
  rw [if_neg c11] at hx ⊢
  cases hx; rfl
omit h ht in
theorem up_round {m : Mst} {b : BRef} {n : Int} {p : BPlace} {x : Rs} (hx : roundB m b n p = some x) : roundB (m.up r o w g) b n p = some (x.1.up r o w g, x.2) := by
 have hst := up_step (r := r) (o := o) (w := w) (g := g) m
 unfold roundB at hx ⊢
 rw [up_lit]
 cases hl : m.lit b with
 | none => rw [hl] at hx; cases hx
 | some re =>
  rw [hl] at hx
  simp only at hx ⊢
  rw [hst]
  cases hk : re.kids with
  | nil => rw [hk] at hx; cases hx
  | cons kid l =>
   rw [hk] at hx
   simp only at hx ⊢
   by_cases cf : m.fuel ≤ m.steps
   ·rw [if_pos cf] at hx
    rw [if_pos (show (m.up r o w g).fuel ≤ (m.up r o w g).steps from cf)]
    cases hx; rfl
   rw [if_neg cf] at hx
   rw [if_neg (show ¬ (m.up r o w g).fuel ≤ (m.up r o w g).steps from cf)]
   by_cases c2 : n < re.mn
   ·rw [if_pos c2] at hx ⊢; cases hx; rfl
   rw [if_neg c2] at hx ⊢
   by_cases c3 : 0 ≤ re.mx ∧ re.mx ≤ n
   ·rw [if_pos c3] at hx ⊢; cases hx; rfl
   rw [if_neg c3] at hx ⊢
   by_cases c4 : re.mode = 1
   ·rw [if_pos c4] at hx ⊢; cases hx; rfl
   ·rw [if_neg c4] at hx ⊢; cases hx; rfl
theorem up_adv (hw : o = true → w = t0) {m : Mst} {p : BPlace} {x : Rs} (hm : m.t = t0) (hx : advB rec m p = some x) : advB rec (m.up r o w g) p = some (x.1.up r o w g, x.2) := by
 unfold advB at hx ⊢
 by_cases c : m.good p
 ·have c' : (m.up r o w g).good p := ⟨c.1, c.2.1, c.2.2.1, fun ho => by show w = m.t; rw [hm]; exact hw ho⟩
  rw [if_neg (by simpa using c)] at hx
  rw [if_neg (by simpa using c')]
  obtain ⟨pa, pc, todo⟩ := p
  cases todo with
  | nil => cases hx
  | mk kind b n at_ next =>
   simp only at hx ⊢
   rw [up_lit]
   by_cases k0 : kind = 0
   ·rw [if_pos k0] at hx ⊢; exact up_begin ht h hm hx
   rw [if_neg k0] at hx ⊢
   by_cases kn : n < 0 ∨ 10000000000000 < n
   ·rw [if_pos kn] at hx; cases hx
   rw [if_neg kn] at hx ⊢
   by_cases k1 : kind = 1
   ·rw [if_pos k1] at hx ⊢
    cases hl : m.lit b with
    | none => rw [hl] at hx; cases hx
    | some re =>
     rw [hl] at hx
     simp only at hx ⊢
     by_cases cl : 1000000000 < re.kids.length
     ·rw [if_pos cl] at hx; cases hx
     rw [if_neg cl] at hx ⊢
     cases hk : re.kids[n.toNat]? with
     | none => rw [hk] at hx; cases hx
     | some kid =>
      rw [hk] at hx
      simp only at hx ⊢
      cases hx
      split <;> rfl
   rw [if_neg k1] at hx ⊢
   by_cases k2 : kind = 2
   ·rw [if_pos k2] at hx ⊢; exact up_round hx
   rw [if_neg k2] at hx ⊢
   by_cases k3 : kind = 3
   ·rw [if_pos k3] at hx ⊢
    by_cases q : pa = at_
    ·rw [if_pos q] at hx ⊢; cases hx; rfl
    ·rw [if_neg q] at hx ⊢; cases hx; rfl
   rw [if_neg k3] at hx ⊢
   by_cases k4 : kind = 4
   ·rw [if_pos k4] at hx ⊢
    cases hl : m.lit b with
    | none => rw [hl] at hx; cases hx
    | some re =>
     rw [hl] at hx
     simp only at hx ⊢
     split at hx
     ·cases hx
     ·rename_i hc; rw [if_neg hc]; cases hx; rfl
   rw [if_neg k4] at hx ⊢
   by_cases k5 : kind = 5
   ·rw [if_pos k5] at hx ⊢; cases hx; rfl
   rw [if_neg k5] at hx; cases hx
 ·rw [if_pos (by simpa using c)] at hx; cases hx
end up
theorem up_srch {r o : Bool} {w : List Int} {g : Nat} {t0 : List Int} (hw : o = true → w = t0) : ∀ (k : Nat) (out : Bool) (m : Mst) (base : Nat) (p : BPlace) (al : Bool) (x : Rs), m.t = t0 → srchB k out m base p al = some x → srchB k out (m.up r o w g) base p al = some (x.1.up r o w g, x.2)
 | 0, _, _, _, _, _, _, _, hx => by cases hx
 | k + 1, out, m, base, p, al, x, hm, hx => by
  rw [srchB.eq_2] at hx ⊢
  by_cases c1 : out = true ∧ m.spent = true
  ·rw [if_pos c1] at hx
   rw [if_pos (show out = true ∧ (m.up r o w g).spent = true from c1)]
   cases hx; rfl
  rw [if_neg c1] at hx
  rw [if_neg (show ¬ (out = true ∧ (m.up r o w g).spent = true) from c1)]
  by_cases c2 : al = true ∧ p.goals = true
  ·rw [if_pos c2] at hx ⊢
   cases hr : advB (fun m base p => srchB k true m base p true) m p with
   | none => rw [hr] at hx; cases hx
   | some y =>
    rw [hr] at hx
    have hft : ∀ (m : Mst) (base : Nat) (p : BPlace) (x : Rs), srchB k true m base p true = some x → x.1.t = m.t := fun m base p x h => (fr_srch _ _ _ _ _ _ _ h).t
    have hyt := (fr_adv (fun m base p x h => fr_srch k true m base p true x h) hr).t
    rw [up_adv hft (fun m base p x hm hx => up_srch hw k true m base p true x hm hx) hw hm hr]
    obtain ⟨m1, p1, a1⟩ := y
    exact up_srch hw k false m1 base p1 a1 x (by simp only at hyt; rw [hyt]; exact hm) hx
  rw [if_neg c2] at hx ⊢
  by_cases c3 : al = true
  ·rw [if_pos c3] at hx ⊢; cases hx; rfl
  rw [if_neg c3] at hx ⊢
  by_cases c4 : m.top = base
  ·rw [if_pos c4] at hx
   rw [if_pos (show (m.up r o w g).top = base from c4)]
   cases hx; rfl
  rw [if_neg c4] at hx
  rw [if_neg (show ¬ (m.up r o w g).top = base from c4)]
  by_cases c5 : m.top = 0 ∨ m.stk.length < m.top ∨ 1200000000000 < m.top
  ·rw [if_pos c5] at hx; cases hx
  rw [if_neg c5] at hx
  rw [if_neg (show ¬ ((m.up r o w g).top = 0 ∨ (m.up r o w g).stk.length < (m.up r o w g).top ∨ 1200000000000 < (m.up r o w g).top) from c5)]
  show (match m.stk[m.top - 1]? with
   | none => none
   | some none => none
   | some (some last) => srchB k true (m.pop.up r o w g) base last true) = _
  cases hl : m.stk[m.top - 1]? with
  | none => rw [hl] at hx; cases hx
  | some q =>
   rw [hl] at hx
   cases q with
   | none => cases hx
   | some last => exact up_srch hw k true m.pop base last true x hm hx
theorem ev_up {m m1 : Mst} {q : BPlace} {f : Bool} (hs : m.spent = false) (h : Ev m 0 .zero false (m1, q, f)) (r o : Bool) (w : List Int) (g : Nat) (hw : o = true → w = m.t) : ∃ k, srchB k true (m.up r o w g) 0 .zero false = some (m1.up r o w g, q, f) := by
 obtain ⟨k, hk⟩ := ev_out hs h
 exact ⟨k, up_srch hw k true m 0 .zero false _ rfl hk⟩
theorem kept_up (m : Mst) (found : Bool) (h : (m.done found).ready = true ∧ 0 < m.top) : (m.done found).kept = m.up (m.done found).ready true m.t (m.ogen + 1) := by
 unfold Mst.kept
 exact if_pos h
theorem done_up (m : Mst) (found r o : Bool) (w : List Int) (g : Nat) : (m.up r o w g).done found = m.up (found && !m.spent) o w g := rfl
end Go.Proofs.Ytilapneoohcplaa
