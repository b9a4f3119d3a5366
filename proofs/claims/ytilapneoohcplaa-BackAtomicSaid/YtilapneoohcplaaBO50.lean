/- A part of the proof (G62 G67 G68). -/
import Derived.Test.YtilapneoohcplaaBO18
import Derived.Test.YtilapneoohcplaaBO49
set_option linter.unusedSimpArgs false
set_option linter.unusedVariables false
set_option maxRecDepth 100000
set_option maxHeartbeats 80000000
namespace Go.Proofs.Ytilapneoohcplaa
open Go.VL Go.Proofs.Try
def Sst.up (d : Int) (st : Sst) : Sst := { st with steps := st.steps + d }
def SA {α : Type} (d : Int) (st st' : Sst) (r : α) (o : Option (α × Sst)) : Prop := st.steps ≤ st'.steps ∧ (st'.steps + d ≤ 10000000000000 → o = some (r, st'.up d))
def seqS {α : Type} (o : Option (Option α × Sst)) (k : Option α → Sst → Option (Bool × Sst)) : Option (Bool × Sst) :=
 match o with
 | none => none
 | some (r, s) => k r s
section shift
variable {t : List Int} {F d : Int} {rec rec' : Int → Task → Sst → Option (Bool × Sst)}
theorem SA.no {α : Type} {r : α} {st : Sst} {o : Option (α × Sst)} (ho : o = some (r, st.up d)) : SA d st st r o := ⟨Int.le_refl _, fun _ => ho⟩
theorem sa_step (st : Sst) : (st.up d).step (F + d) = (st.step F).up d := by
 have e1 : st.steps + d + 1 = st.steps + 1 + d := by omega
 have e2 : decide (F + d < st.steps + d + 1) = decide (F < st.steps + 1) := decide_eq_decide.2 (by omega)
 unfold Sst.step Sst.up
 simp only [e1]
 rw [← e1, e2]
theorem sa_or {st s1 st' : Sst} {b1 b : Bool} {a' : Option (Bool × Sst)} {k k' : Sst → Option (Bool × Sst)} (h1 : SA d st s1 b1 a') (hr : orR (some (b1, s1)) k = some (b, st')) (hk : k s1 = some (b, st') → SA d s1 st' b (k' (s1.up d))) : SA d st st' b (orR a' k') := by
 cases b1 with
 | true =>
  simp only [orR, Option.some.injEq, Prod.mk.injEq] at hr
  obtain ⟨rfl, rfl⟩ := hr
  exact ⟨h1.1, fun hs => by rw [h1.2 hs]; rfl⟩
 | false =>
  obtain ⟨k1, k2⟩ := hk hr
  have := h1.1
  exact ⟨by omega, fun hs => by rw [h1.2 (by omega)]; exact k2 hs⟩
theorem sa_seq {α : Type} {st s1 st' : Sst} {b : Bool} {r : Option α} {o : Option (Option α × Sst)} {o2 : Option (Bool × Sst)} {k' : Option α → Sst → Option (Bool × Sst)} (h1 : SA d st s1 r o) (ho : o2 = seqS o k') (hk : SA d s1 st' b (k' r (s1.up d))) : SA d st st' b o2 := by
 subst ho
 obtain ⟨k1, k2⟩ := hk
 have := h1.1
 exact ⟨by omega, fun hs => by rw [h1.2 (by omega)]; exact k2 hs⟩
theorem sa_behind {f f' : Int → Sst → Option (Option (Int × CapsL) × Sst)} (hf : ∀ k st o s2, f k st = some (o, s2) → SA d st s2 o (f' k (st.up d))) : ∀ (j : Nat) (st s2 : Sst) (r : Option CapsL), behindR f j st = some (r, s2) → SA d st s2 r (behindR f' j (st.up d))
 | 0, st, s2, r, hr => by simp only [behindR] at hr; cases hr; exact .no rfl
 | j + 1, st, s2, r, hr => by
  simp only [behindR] at hr ⊢
  by_cases he : st.empty = true
  ·rw [if_pos he] at hr
   rw [if_pos (show (st.up d).empty = true from he)]
   cases hr
   exact .no rfl
  rw [if_neg he] at hr
  rw [if_neg (show ¬ (st.up d).empty = true from he)]
  cases hx : f j st with
  | none => rw [hx] at hr; cases hr
  | some y =>
   obtain ⟨o, s1⟩ := y
   rw [hx] at hr
   obtain ⟨a1, a2⟩ := hf _ _ _ _ hx
   cases o with
   | some p =>
    simp only at hr
    cases hr
    exact ⟨a1, fun hs => by rw [a2 hs]⟩
   | none =>
    simp only at hr
    obtain ⟨k1, k2⟩ := sa_behind hf j s1 s2 r hr
    exact ⟨by omega, fun hs => by rw [a2 (by omega)]; exact k2 hs⟩
variable (h : ∀ most task st b st', rec most task st = some (b, st') → SA d st st' b (rec' most task (st.up d)))
include h
theorem sa_first {g : Goal} {i : Int} {c : CapsL} {st s2 : Sst} {o : Option (Int × CapsL)} (hr : firstR rec g i c st = some (o, s2)) : SA d st s2 o (firstR rec' g i c (st.up d)) := by
 unfold firstR at hr
 cases hx : rec 1 (.run g i c) ⟨st.steps, false, [], []⟩ with
 | none => rw [hx] at hr; cases hr
 | some y =>
  obtain ⟨b, x⟩ := y
  rw [hx] at hr
  simp only at hr
  obtain ⟨a1, a2⟩ := h _ _ _ _ _ hx
  have hst : s2.steps = x.steps := by
   split at hr
   ·cases hr; rfl
   ·split at hr
    ·cases hr; rfl
    ·cases hr; rfl
    ·cases hr
  refine ⟨by rw [hst]; exact a1, fun hs => ?_⟩
  rw [hst] at hs
  have e : firstR rec' g i c (st.up d) = match some (b, x.up d) with
   | none => none
   | some (_, x) => if x.empty then some (none, { st with steps := x.steps, empty := x.empty }) else match x.ends, x.caps with
    | [], _ => some (none, { st with steps := x.steps, empty := x.empty })
    | e :: _, d :: _ => some (some (e, d), { st with steps := x.steps, empty := x.empty })
    | _ :: _, [] => none := by rw [← a2 hs]; rfl
  rw [e]
  obtain ⟨xs, xe, xends, xcaps⟩ := x
  cases xe with
  | true => cases hr; rfl
  | false =>
   match xends, xcaps, hr with
   | [], _, hr => cases hr; rfl
   | e :: _, d :: _, hr => cases hr; rfl
   | _ :: _, [], hr => cases hr
theorem sa_alt {g : Re → Task} {most : Int} : ∀ (l : List Re) (st st' : Sst) (b : Bool), altR (fun k st => rec most (g k) st) l st = some (b, st') → SA d st st' b (altR (fun k st => rec' most (g k) st) l (st.up d))
 | [], st, st', b, hr => by simp only [altR] at hr ⊢; cases hr; exact .no rfl
 | k :: l, st, st', b, hr => by
  simp only [altR] at hr ⊢
  cases hx : rec most (g k) st with
  | none => rw [hx] at hr; cases hr
  | some y =>
   obtain ⟨b1, s1⟩ := y
   rw [hx] at hr
   exact sa_or (h _ _ _ _ _ hx) hr fun hk => sa_alt l s1 st' b hk
theorem sa_node {most : Int} {re : Re} {next : Goal} {i : Int} {c : CapsL} {st st' : Sst} {b : Bool} (hr : nodeR t rec most re next i c st = some (b, st')) : SA d st st' b (nodeR t rec' most re next i c (st.up d)) := by
 unfold nodeR at hr ⊢
 have no : ∀ {b : Bool} {st' : Sst}, some (false, st) = some (b, st') → SA d st st' b (some (false, st.up d)) := by
  intro b st' hh; cases hh; exact .no rfl
 by_cases o1 : re.op = 1
 ·rw [if_pos o1] at hr ⊢
  by_cases q : i < t.length ∧ inB re.set (tAt t i) = true
  ·rw [if_pos q] at hr ⊢; exact h _ _ _ _ _ hr
  ·rw [if_neg q] at hr ⊢; exact no hr
 rw [if_neg o1] at hr ⊢
 by_cases o2 : re.op = 2
 ·rw [if_pos o2] at hr ⊢; exact h _ _ _ _ _ hr
 rw [if_neg o2] at hr ⊢
 by_cases o3 : re.op = 3
 ·rw [if_pos o3] at hr ⊢
  exact sa_alt (g := fun k => .run (.mk 0 k 0 0 next) i c) h re.kids st st' b hr
 rw [if_neg o3] at hr ⊢
 by_cases o5 : re.op = 5
 ·rw [if_pos o5] at hr ⊢
  cases hk : re.kids with
  | nil => rw [hk] at hr; cases hr
  | cons kid l => rw [hk] at hr; exact h _ _ _ _ _ hr
 rw [if_neg o5] at hr ⊢
 by_cases o6 : re.op = 6
 ·rw [if_pos o6] at hr ⊢
  simp only at hr ⊢
  by_cases q1 : (spanR c re.n).1 < 0
  ·rw [if_pos q1] at hr ⊢; exact no hr
  rw [if_neg q1] at hr ⊢
  by_cases q2 : (spanR c re.n).2 < (spanR c re.n).1 ∨ (t.length : Int) < (spanR c re.n).2
  ·rw [if_pos q2] at hr; cases hr
  rw [if_neg q2] at hr ⊢
  by_cases q3 : t.length < i + (spanR c re.n).2 - (spanR c re.n).1
  ·rw [if_pos q3] at hr ⊢; exact no hr
  rw [if_neg q3] at hr ⊢
  by_cases q4 : sameR t (spanR c re.n).1 i ((spanR c re.n).2 - (spanR c re.n).1).toNat = true
  ·rw [if_pos q4] at hr ⊢; exact h _ _ _ _ _ hr
  ·rw [if_neg q4] at hr ⊢; exact no hr
 rw [if_neg o6] at hr ⊢
 by_cases o7 : re.op = 7 ∨ re.op = 8
 ·rw [if_pos o7] at hr ⊢
  cases hk : re.kids with
  | nil => rw [hk] at hr; cases hr
  | cons kid l =>
   rw [hk] at hr
   simp only at hr ⊢
   cases hl : lookR rec re.op kid i c st with
   | none => rw [hl] at hr; cases hr
   | some y =>
    obtain ⟨ro, s1⟩ := y
    rw [hl] at hr
    simp only at hr
    have hfb : SA d st s1 ro (lookR rec' re.op kid i c (st.up d)) := by
     unfold lookR at hl ⊢
     by_cases p7 : re.op = 7
     ·rw [if_pos p7] at hl ⊢
      cases hf : firstR rec (.mk 0 kid 0 0 .nil) i c st with
      | none => rw [hf] at hl; cases hl
      | some z =>
       obtain ⟨o, s3⟩ := z
       rw [hf] at hl
       cases hl
       obtain ⟨a1, a2⟩ := sa_first h hf
       exact ⟨a1, fun hs => by rw [a2 hs]⟩
     ·rw [if_neg p7] at hl ⊢
      exact sa_behind (fun k st o s2 hf => sa_first h hf) _ _ _ _ hl
    refine sa_seq (k' := fun r st' => if st'.empty = true then some (true, st') else if re.neg = true then (match r with | some _ => some (false, st') | none => rec' most (.run next i c) st') else match r with | some d => rec' most (.run next i d) st' | none => some (false, st')) hfb ?_ ?_
    ·generalize lookR rec' re.op kid i c (st.up d) = z; rcases z with _ | ⟨r, s⟩ <;> rfl
    ·try simp only
     by_cases he1 : s1.empty = true
     ·rw [if_pos he1] at hr
      rw [if_pos (show (s1.up d).empty = true from he1)]
      cases hr; exact .no rfl
     rw [if_neg he1] at hr
     rw [if_neg (show ¬ (s1.up d).empty = true from he1)]
     by_cases hn : re.neg = true
     ·rw [if_pos hn] at hr ⊢
      cases ro with
      | some d => simp only at hr ⊢; cases hr; exact .no rfl
      | none => exact h _ _ _ _ _ hr
     ·rw [if_neg hn] at hr ⊢
      cases ro with
      | some d => exact h _ _ _ _ _ hr
      | none => simp only at hr ⊢; cases hr; exact .no rfl
 rw [if_neg o7] at hr ⊢
 by_cases o9 : re.op = 9
 ·rw [if_pos o9] at hr ⊢
  cases hk : re.kids with
  | nil => rw [hk] at hr; cases hr
  | cons kid l =>
   rw [hk] at hr
   simp only at hr ⊢
   cases hf : firstR rec (.mk 0 kid 0 0 .nil) i c st with
   | none => rw [hf] at hr; cases hr
   | some y =>
    obtain ⟨o, s1⟩ := y
    rw [hf] at hr
    simp only at hr
    refine sa_seq (k' := fun r st' => if st'.empty = true then some (true, st') else match r with | some (e, d) => rec' most (.run next e d) st' | none => some (false, st')) (sa_first h hf) ?_ ?_
    ·generalize firstR rec' (.mk 0 kid 0 0 .nil) i c (st.up d) = z; rcases z with _ | ⟨r, s⟩ <;> rfl
    ·try simp only
     by_cases he1 : s1.empty = true
     ·rw [if_pos he1] at hr
      rw [if_pos (show (s1.up d).empty = true from he1)]
      cases hr; exact .no rfl
     rw [if_neg he1] at hr
     rw [if_neg (show ¬ (s1.up d).empty = true from he1)]
     cases o with
     | some p => exact h _ _ _ _ _ hr
     | none => simp only at hr ⊢; cases hr; exact .no rfl
 rw [if_neg o9] at hr ⊢
 by_cases o10 : re.op = 10
 ·rw [if_pos o10] at hr ⊢
  match hk : re.kids with
  | [] => rw [hk] at hr; cases hr
  | [_] => rw [hk] at hr; cases hr
  | yes :: no' :: l => rw [hk] at hr; exact h _ _ _ _ _ hr
 rw [if_neg o10] at hr ⊢
 by_cases o11 : re.op = 11
 ·rw [if_pos o11] at hr ⊢
  by_cases q : holdsR re.n t i = true
  ·rw [if_pos q] at hr ⊢; exact h _ _ _ _ _ hr
  ·rw [if_neg q] at hr ⊢; exact no hr
 rw [if_neg o11] at hr ⊢
 exact h _ _ _ _ _ hr
omit h in
theorem sa_stepped {st st' : Sst} {b : Bool} {K K' : Sst → Option (Bool × Sst)} (d0 : 0 ≤ d) (hr : (if st.steps < 0 ∨ 10000000000000 < st.steps then none else if (st.step F).empty = true then some (true, st.step F) else K (st.step F)) = some (b, st')) (hk : K (st.step F) = some (b, st') → SA d (st.step F) st' b (K' ((st.step F).up d))) :
  SA d st st' b (if (st.up d).steps < 0 ∨ 10000000000000 < (st.up d).steps then none else if ((st.up d).step (F + d)).empty = true then some (true, (st.up d).step (F + d)) else K' ((st.up d).step (F + d))) := by
 by_cases c0 : st.steps < 0 ∨ 10000000000000 < st.steps
 ·rw [if_pos c0] at hr; cases hr
 rw [if_neg c0] at hr
 rw [sa_step]
 have e1 : (st.up d).steps = st.steps + d := rfl
 have hs : (st.step F).steps = st.steps + 1 := rfl
 by_cases he : (st.step F).empty = true
 ·rw [if_pos he] at hr
  cases hr
  refine ⟨by omega, fun hh => ?_⟩
  rw [if_neg (by omega), if_pos (show ((st.step F).up d).empty = true from he)]
 ·rw [if_neg he] at hr
  obtain ⟨k1, k2⟩ := hk hr
  refine ⟨by omega, fun hh => ?_⟩
  rw [if_neg (by omega), if_neg (show ¬ ((st.step F).up d).empty = true from he)]
  exact k2 hh
theorem sa_rep (d0 : 0 ≤ d) {most : Int} {re : Re} {k : Int} {next : Goal} {i : Int} {c : CapsL} {st st' : Sst} {b : Bool} (hr : repR F rec most re k next i c st = some (b, st')) : SA d st st' b (repR (F + d) rec' most re k next i c (st.up d)) := by
 unfold repR at hr ⊢
 by_cases m2 : re.mode = 2
 ·rw [if_pos m2] at hr ⊢
  cases hf : firstR rec (.mk 1 (re.setMode 0) 0 0 .nil) i c st with
  | none => rw [hf] at hr; cases hr
  | some y =>
   obtain ⟨o, s1⟩ := y
   rw [hf] at hr
   simp only at hr
   refine sa_seq (k' := fun r st' => match r with | some (e, d) => rec' most (.run next e d) st' | none => some (st'.empty, st')) (sa_first h hf) ?_ ?_
   ·generalize firstR rec' (.mk 1 (re.setMode 0) 0 0 .nil) i c (st.up d) = z; rcases z with _ | ⟨r, s⟩ <;> rfl
   ·cases o with
    | some p => exact h _ _ _ _ _ hr
    | none => simp only at hr ⊢; cases hr; exact .no rfl
 rw [if_neg m2] at hr ⊢
 simp only at hr ⊢
 refine sa_stepped (K := fun s1 => match re.kids with
   | [] => none
   | kid :: _ => if k < re.mn then rec most (.run (.mk 0 kid 0 0 (.mk 2 re k i next)) i c) s1
    else if re.mode = 1 then orR (rec most (.run next i c) s1) (fun s => if re.mx = -1 ∨ k < re.mx then rec most (.run (.mk 0 kid 0 0 (.mk 2 re k i next)) i c) s else some (false, s))
    else orR (if re.mx = -1 ∨ k < re.mx then rec most (.run (.mk 0 kid 0 0 (.mk 2 re k i next)) i c) s1 else some (false, s1)) (fun s => rec most (.run next i c) s))
  (K' := fun s1 => match re.kids with
   | [] => none
   | kid :: _ => if k < re.mn then rec' most (.run (.mk 0 kid 0 0 (.mk 2 re k i next)) i c) s1
    else if re.mode = 1 then orR (rec' most (.run next i c) s1) (fun s => if re.mx = -1 ∨ k < re.mx then rec' most (.run (.mk 0 kid 0 0 (.mk 2 re k i next)) i c) s else some (false, s))
    else orR (if re.mx = -1 ∨ k < re.mx then rec' most (.run (.mk 0 kid 0 0 (.mk 2 re k i next)) i c) s1 else some (false, s1)) (fun s => rec' most (.run next i c) s)) d0 hr (fun hk => ?_)
 generalize st.step F = s1 at *
 cases hkd : re.kids with
 | nil => rw [hkd] at hk; cases hk
 | cons kid l =>
  rw [hkd] at hk
  simp only at hk ⊢
  by_cases c2 : k < re.mn
  ·rw [if_pos c2] at hk ⊢; exact h _ _ _ _ _ hk
  rw [if_neg c2] at hk ⊢
  by_cases m1 : re.mode = 1
  ·rw [if_pos m1] at hk ⊢
   cases hx : rec most (.run next i c) s1 with
   | none => rw [hx] at hk; cases hk
   | some y =>
    obtain ⟨b1, s2⟩ := y
    rw [hx] at hk
    refine sa_or (h _ _ _ _ _ hx) hk fun hk2 => ?_
    by_cases cM : re.mx = -1 ∨ k < re.mx
    ·rw [if_pos cM] at hk2 ⊢; exact h _ _ _ _ _ hk2
    ·rw [if_neg cM] at hk2 ⊢; cases hk2; exact .no rfl
  ·rw [if_neg m1] at hk ⊢
   by_cases cM : re.mx = -1 ∨ k < re.mx
   ·rw [if_pos cM] at hk ⊢
    cases hx : rec most (.run (.mk 0 kid 0 0 (.mk 2 re k i next)) i c) s1 with
    | none => rw [hx] at hk; cases hk
    | some y =>
     obtain ⟨b1, s2⟩ := y
     rw [hx] at hk
     exact sa_or (h _ _ _ _ _ hx) hk fun hk2 => h _ _ _ _ _ hk2
   ·rw [if_neg cM] at hk ⊢
    exact sa_or (SA.no (d := d) rfl) hk fun hk2 => h _ _ _ _ _ hk2
end shift
theorem shift_all {t : List Int} {F d : Int} (d0 : 0 ≤ d) : ∀ (n : Nat) (most : Int) (task : Task) (st : Sst) (b : Bool) (st' : Sst), evR t F n most task st = some (b, st') → SA d st st' b (evR t (F + d) n most task (st.up d))
 | 0, _, _, _, _, _, hr => by cases hr
 | n + 1, most, task, st, b, st', hr => by
  have ih := shift_all (t := t) (F := F) d0 n
  have hr : evStep t F (evR t F n) most task st = some (b, st') := hr
  show SA d st st' b (evStep t (F + d) (evR t (F + d) n) most task (st.up d))
  cases task with
  | run g i c =>
   simp only [evStep] at hr ⊢
   by_cases c0 : i < 0 ∨ (t.length : Int) < i
   ·rw [if_pos c0] at hr; cases hr
   rw [if_neg c0] at hr ⊢
   cases g with
   | nil =>
    simp only at hr ⊢
    split at hr
    ·rename_i hc
     cases hr
     exact ⟨Int.le_refl _, fun _ => by rw [if_pos (show (st.up d).ends.length < 2000000000000 ∧ (st.up d).caps.length = (st.up d).ends.length from hc)]; rfl⟩
    ·cases hr
   | mk kind re k frm next =>
    simp only at hr ⊢
    by_cases k1 : kind = 1
    ·rw [if_pos k1] at hr ⊢; exact ih _ _ _ _ _ hr
    rw [if_neg k1] at hr ⊢
    by_cases k2 : kind = 2
    ·rw [if_pos k2] at hr ⊢
     by_cases q : re.mn ≤ k ∧ i = frm
     ·rw [if_pos q] at hr ⊢; cases hr; exact .no rfl
     ·rw [if_neg q] at hr ⊢
      by_cases q2 : k < 0 ∨ 10000000000000 < k
      ·rw [if_pos q2] at hr; cases hr
      ·rw [if_neg q2] at hr ⊢; exact ih _ _ _ _ _ hr
    rw [if_neg k2] at hr ⊢
    by_cases k3 : kind = 3
    ·rw [if_pos k3] at hr ⊢
     by_cases q : 1000000000 < c.length
     ·rw [if_pos q] at hr; cases hr
     ·rw [if_neg q] at hr ⊢; exact ih _ _ _ _ _ hr
    rw [if_neg k3] at hr ⊢
    by_cases k4 : kind = 4
    ·rw [if_pos k4] at hr ⊢
     by_cases q : i = frm
     ·rw [if_pos q] at hr ⊢; exact ih _ _ _ _ _ hr
     ·rw [if_neg q] at hr ⊢; cases hr; exact .no rfl
    rw [if_neg k4] at hr ⊢
    exact ih _ _ _ _ _ hr
  | rep g i c =>
   simp only [evStep] at hr ⊢
   by_cases c0 : i < 0 ∨ (t.length : Int) < i
   ·rw [if_pos c0] at hr; cases hr
   rw [if_neg c0] at hr ⊢
   cases g with
   | nil => cases hr
   | mk kind re k frm next => exact sa_rep ih d0 hr
  | node g i c =>
   simp only [evStep] at hr ⊢
   by_cases c0 : i < 0 ∨ (t.length : Int) < i
   ·rw [if_pos c0] at hr; cases hr
   rw [if_neg c0] at hr ⊢
   cases g with
   | nil => cases hr
   | mk kind re k frm next =>
    simp only at hr ⊢
    by_cases o4 : re.op = 4
    ·rw [if_pos o4] at hr ⊢; exact ih _ _ _ _ _ hr
    rw [if_neg o4] at hr ⊢
    by_cases q1 : 1000000000 < re.set.length ∨ 1000000000 < re.kids.length ∨ 1000000000 < c.length
    ·rw [if_pos q1] at hr; cases hr
    rw [if_neg q1] at hr ⊢
    exact sa_stepped (K := fun s => nodeR t (evR t F n) most re next i c s) (K' := fun s => nodeR t (evR t (F + d) n) most re next i c s) d0 hr fun hk => sa_node ih hk
theorem allN_le {p : Pat} {t : List Int} {i f : Int} (hE : allE p t i 1 f = 0) : 0 ≤ allN p t i 1 f ∧ allN p t i 1 f ≤ f := by
 obtain ⟨hv, h0, h1, he⟩ := allE_valid hE
 obtain ⟨k, e1, e2⟩ := search_ends (most := 1) hv h0 h1
 have hN : allN p t i 1 f = (searchX p t i 1 f).2.steps := by unfold allN; rw [if_pos hE]
 have h2 : (0 : Int) ≤ (searchX p t i 1 f).2.steps := e2.s0
 have := e2.empty
 rw [he] at this
 have := of_decide_eq_false this.symm
 exact ⟨by omega, by omega⟩
def atomP (p : Pat) : Pat := ⟨.mk 9 [] [p.re] 0 0 0 0 false, p.caps, p.runes⟩
theorem atom_law {p : Pat} {t : List Int} {i F : Int} (hE : allE p t i 1 F = 0) (hq : validR (atomP p) = 0) (most : Int) (hF : F + 1 ≤ 1099511627776) :
  allE (atomP p) t i most (F + 1) = 0 ∧ allM (atomP p) t i most (F + 1) = allM p t i 1 F ∧ allN (atomP p) t i most (F + 1) = allN p t i 1 F + 1 ∧ (allM p t i 1 F).length ≤ 1 := by
 obtain ⟨hv, h0, h1, he⟩ := allE_valid hE
 obtain ⟨v1, v2, v3, v4, v5⟩ := valid7_spec hv
 obtain ⟨k1, k2, k3, k4, k5⟩ := validR_spec v1
 obtain ⟨n, e1, e2⟩ := search_ends (most := 1) hv h0 h1
 obtain ⟨L, l1, l2, _, l4⟩ := outs_law (most := 1) (m := fresh p) hv h0 h1 (fun _ => by omega) rfl
 have hlen : L.length ≤ 1 := by
  rcases l4 with ⟨_, _, h, _⟩ | ⟨h, _⟩
  ·omega
  ·have := h (by omega); omega
 have hcl : (cap0 p).length ≤ 9 := by unfold cap0; rw [List.length_replicate]; omega
 have hvq : valid7 (atomP p) t (F + 1) = 0 := by
  unfold valid7
  rw [if_neg (by rw [hq]; simp), if_neg (by omega), if_neg (show ¬ (t.all (symB (atomP p).runes) = false) by rw [show (atomP p).runes = p.runes from rfl, v3]; simp), if_neg (by omega)]
 have hM : allM p t i 1 F = (searchX p t i 1 F).2.ends.zip (searchX p t i 1 F).2.caps := by unfold allM; rw [if_pos hE]
 have hN : allN p t i 1 F = (searchX p t i 1 F).2.steps := by unfold allN; rw [if_pos hE]
 generalize searchX p t i 1 F = X at *
 obtain ⟨b0, xs, xe, xends, xcaps⟩ := X
 simp only at he hM hN e1 e2 l1 l2
 subst l1 l2 he
 clear l4
 have hs1 := e2.s1
 have hs0 : (0 : Int) ≤ xs := e2.s0
 obtain ⟨new, newc, m1, m2, m3, m4, m5, m6⟩ := e2.more
 simp only [List.nil_append] at m1 m2 hs1
 -- the search of the part, after one step
 have hsh : evR t (F + 1) n 1 (.run (.mk 0 p.re 0 0 .nil) i (cap0 p)) ⟨1, false, [], []⟩ = some (b0, ⟨xs + 1, false, L.map (fun r => r.1), L.map (fun r => r.2.1)⟩) := (shift_all (F := F) (d := 1) (by omega) n 1 _ _ _ _ e1).2 (by show xs + 1 ≤ _; omega)
 obtain ⟨n, rfl⟩ : ∃ k, n = k + 1 := by cases n with | zero => cases e1 | succ k => exact ⟨k, rfl⟩
 have hst : (Sst.step (F + 1) ⟨0, false, [], []⟩) = ⟨1, false, [], []⟩ := by
  simp only [Sst.step, Bool.false_or]
  congr 1
  exact decide_eq_false (by omega)
 have hnode : ∃ b, nodeR t (evR t (F + 1) (n + 1)) most (atomP p).re .nil i (cap0 p) ⟨1, false, [], []⟩ = some (b, ⟨xs + 1, false, L.map (fun r => r.1), L.map (fun r => r.2.1)⟩) := by
  unfold nodeR
  have ho : (atomP p).re.op = 9 := rfl
  rw [if_neg (by omega), if_neg (by omega), if_neg (by omega), if_neg (by omega), if_neg (by omega), if_neg (by omega), if_pos ho]
  show ∃ b, (match firstR (evR t (F + 1) (n + 1)) (.mk 0 p.re 0 0 .nil) i (cap0 p) ⟨1, false, [], []⟩ with
   | none => none
   | some (r, st') => if st'.empty then some (true, st') else match r with
    | some (e, d) => evR t (F + 1) (n + 1) most (.run .nil e d) st'
    | none => some (false, st')) = _
  unfold firstR
  rw [hsh]
  simp only [Bool.false_eq_true, if_false]
  match L, hlen, m1 with
  | [], _, _ => exact ⟨false, rfl⟩
  | [r], _, m1 =>
   have hr := m5 r.1 (by rw [← m1]; simp)
   refine ⟨decide (0 ≤ most) && decide (most ≤ 1), ?_⟩
   simp only [List.map_cons, List.map_nil]
   show evStep t (F + 1) (evR t (F + 1) n) most (.run .nil r.1 r.2.1) _ = _
   simp only [evStep]
   rw [if_neg (by omega), if_pos (by simp)]
   simp
  | _ :: _ :: _, h, _ => simp at h
 obtain ⟨b, hb'⟩ := hnode
 have hev : evR t (F + 1) (n + 3) most (.run (.mk 0 (atomP p).re 0 0 .nil) i (cap0 p)) ⟨0, false, [], []⟩ = some (b, ⟨xs + 1, false, L.map (fun r => r.1), L.map (fun r => r.2.1)⟩) := by
  have ho : (atomP p).re.op = 9 := rfl
  show evStep t (F + 1) (evR t (F + 1) (n + 2)) most (.run (.mk 0 (atomP p).re 0 0 .nil) i (cap0 p)) _ = _
  simp only [evStep]
  rw [if_neg (by omega), if_neg (by decide), if_neg (by decide), if_neg (by decide), if_neg (by decide)]
  show evStep t (F + 1) (evR t (F + 1) (n + 1)) most (.node (.mk 0 (atomP p).re 0 0 .nil) i (cap0 p)) _ = _
  simp only [evStep]
  rw [if_neg (by omega), if_neg (by omega), if_neg (show ¬ (1000000000 < (atomP p).re.set.length ∨ 1000000000 < (atomP p).re.kids.length ∨ 1000000000 < (cap0 p).length) from by show ¬ (1000000000 < 0 ∨ 1000000000 < 1 ∨ 1000000000 < (cap0 p).length); omega), if_neg (by omega), hst, if_neg (by simp)]
  exact hb'
 have hX : searchX (atomP p) t i most (F + 1) = (b, ⟨xs + 1, false, L.map (fun r => r.1), L.map (fun r => r.2.1)⟩) := evX_eq hev
 have hEq : allE (atomP p) t i most (F + 1) = 0 := allE_zero hvq h0 h1 (by rw [hX])
 refine ⟨hEq, ?_, ?_, by rw [hM, List.length_zip, List.length_map, List.length_map]; omega⟩
 ·rw [hM]
  unfold allM
  rw [if_pos hEq, hX]
 ·rw [hN]
  unfold allN
  rw [if_pos hEq, hX]
theorem backAtomicL_ok (l : List Int) (hl : ∀ x ∈ l, I64 x) (m : List Int) (hm : ∀ x ∈ m, I64 x) (at_ : Int) (ha : I64 at_) : PureOK prog 7 [.d (intsD l), .d (intsD m), i64 at_] (bV true) := by
 obtain ⟨p, t, hfit, hgood, hfine, hlen⟩ := fits_all l m hl hm
 have har := around_ok at_ ((t.length : Int) + 1) (by omega) ha
 have hin := around_range at_ ((t.length : Int) + 1) (by omega) ha
 generalize around at_ ((t.length : Int) + 1) = i at *
 have hE := allE_first (hgood i hin.1 (by omega))
 obtain ⟨hv, h0i, h1i, _⟩ := allE_valid hE
 have hvr := (valid7_spec hv).1
 have hvs := validR_spec hvr
 have hlv := lives8_ok
 have w1 : IntKind.i64.wrap ((t.length : Int) + 1) = (t.length : Int) + 1 := w64 _ (by omega)
 have hqf : (atomP p).re.fine = true := (Re.fine_iff _).2 ⟨Nat.zero_le _, by show 1 ≤ _; omega, fun k hk => by rw [List.mem_singleton.1 hk]; exact hfine⟩
 have hnew := fun s K hk => call_new hfine hvr (s := s) (K := K) hk
 have hnewe := new_err (atomP p) hqf
 have hnewq := fun hq s K hk => call_new hqf hq (s := s) (K := K) hk
 have hval := valid_ok (atomP p) hqf
 simp only [patV, patC, atomP, Re.cells_eq, Re.op.eq_1, Re.set.eq_1, Re.kids.eq_1, Re.mn.eq_1, Re.mx.eq_1, Re.mode.eq_1, Re.n.eq_1, Re.neg.eq_1, List.map_cons, List.map_nil, List.cons_append, List.nil_append, i64, iD, bD, bV] at hfit hnew hnewe hnewq hval
 simp only [i64] at har
 refine fn_ok func7 rfl ntmps7 results7 rfl 0 125829063 (by simp) (by simp) ?_
 simp only [zX, simprocAttr, zY, bbeq, w1]
 refine call_pure hfit rfl rfl ?_
 simp only [zX, simprocAttr, zY, bbeq, w1]
 refine call_pure har rfl rfl ?_
 simp only [zX, simprocAttr, zY, bbeq, w1]
 refine hnew _ _ (fun b a => ?_)
 simp only [zX, simprocAttr, zY, bbeq, w1]
 refine call_give [] (cargs := [.ag [.d (.sc (.int .i64 9)), .d (.sl []), .d (.sl [p.re.cells]), .d (.sc (.int .i64 0)), .d (.sc (.int .i64 0)), .d (.sc (.int .i64 0)), .d (.sc (.int .i64 0)), .d (.sc (.bool false)), .d (.sc (.int .i64 p.caps)), .d (.sc (.bool p.runes))]]) (by rw [Re.cells_eq p.re]; rfl) ?_
 rw [Re.cells_eq p.re]
 simp only [killO]
 by_cases hq : validR (atomP p) = 0
 case neg =>
  refine call_pure (hnewe hq) rfl rfl ?_
  have hq' : ¬ validR ⟨.mk 9 [] [p.re] 0 0 0 0 false, p.caps, p.runes⟩ = 0 := hq
  simp only [zX, simprocAttr, zY, bbeq, w1, hq']
  refine call_give [] (cargs := [.ag [.d (.sc (.int .i64 9)), .d (.sl []), .d (.sl [p.re.cells]), .d (.sc (.int .i64 0)), .d (.sc (.int .i64 0)), .d (.sc (.int .i64 0)), .d (.sc (.int .i64 0)), .d (.sc (.bool false)), .d (.sc (.int .i64 p.caps)), .d (.sc (.bool p.runes))]]) (by rw [Re.cells_eq p.re]; rfl) ?_
  rw [Re.cells_eq p.re]
  refine call_pure hval rfl rfl ?_
  simp only [zX, simprocAttr, zY, bbeq, w1, hq']
  refine ⟨⟨_, rfl⟩, ?_⟩
  refine call_pure hlv rfl rfl ?_
  simp only [zX, simprocAttr, zY, bbeq, w1]
 refine hnewq hq _ _ (fun b2 a2 => ?_)
 obtain ⟨hEq, hMq, hNq, hlen1⟩ := atom_law hE hq (-1) (by omega)
 obtain ⟨hE1, hM1, hN1, _⟩ := atom_law hE hq 1 (by omega)
 rw [show (3000 : Int) + 1 = 3001 from rfl] at hEq hMq hNq hE1 hM1 hN1
 obtain ⟨L, mE, hM, hL, hO, hs, hN, _, _⟩ := outs_most hEq (m := fresh (atomP p)) rfl
 have hst : ∀ r ∈ L, r.2.2.start = i := outs_start hO
 obtain ⟨hvq, _, _, _⟩ := allE_valid hEq
 obtain ⟨m1, T1, r1, t1, t1', _, c1⟩ := run_valid hv h0i h1i (m := fresh p) ⟨rfl, Nat.le_refl _⟩ (.fu []) rfl rfl
 obtain ⟨q1, q2⟩ := allN_le hE
 rw [hMq] at hM
 rw [hNq] at hN
 obtain ⟨m2, T2, hN2, c2⟩ := step_run hEq hL hO hs
 have hn1 := fun r h => (outs_nth hvq h0i h1i (m := fresh (atomP p)) rfl hO (j := 0) (r := r) h).2.2.1
 rw [show (((0 : Nat) : Int) + 1) = 1 from rfl, hN1] at hn1
 have wn : IntKind.i64.wrap (allN p t i 1 3000 + 1) = allN p t i 1 3000 + 1 := w64 _ (by omega)
 simp only [zX, simprocAttr, zY, bbeq, w1]
 refine ⟨rfl, ⟨_, rfl⟩, rfl, ⟨_, rfl⟩, ?_⟩
 unfold resX at c1
 rw [if_neg (show ¬ (allE p t i 1 3000 ≠ 0) from by rw [hE]; simp)] at c1
 generalize allN p t i 1 3000 = n at *
 cases hA : allM p t i 1 3000 with
 | nil =>
  have hLn : L = [] := by rw [hA] at hM; exact List.map_eq_nil_iff.1 hM.symm
  subst hLn
  rw [hA] at c1
  have hEq0 := equal_ok ⟨0, 0, []⟩ ⟨0, 0, []⟩ (by simp)
  simp only [decide_true, Mat.v, i64, bV, iD, capD, List.map_nil] at hEq0
  unfold outRes at c2
  simp only [List.getElem?_nil, hN] at c2
  refine call_m (X := 2) (Y := 3) (Z := 4) (r' := .tu [.ag [i64 0, i64 0, .d (.sl [])], bV false, i64 n, i64 0]) (c1 b a) rfl rfl rfl (by decide) rfl rfl rfl rfl rfl rfl ?_
  simp only [zX, simprocAttr, zY, bbeq, w1]
  refine call_m (X := 5) (Y := 6) (Z := 7) (r' := .tu [.ag [i64 0, i64 0, .d (.sl [])], bV false, i64 (n + 1), i64 0]) (c2 b2 a2) rfl rfl rfl (by decide) rfl rfl rfl rfl rfl rfl ?_
  simp only [zX, simprocAttr, zY, bbeq, w1, wn, beq_self_eq_true]
  refine call_pure hEq0 rfl rfl ?_
  simp only [zX, simprocAttr, zY, bbeq, w1, wn]
  refine call_pure hlv rfl rfl ?_
  simp only [zX, simprocAttr, zY, bbeq, w1]
 | cons ed rest =>
  obtain ⟨e, d⟩ := ed
  have hrest : rest = [] := by rw [hA] at hlen1; simp at hlen1; exact hlen1
  subst hrest
  rw [hA] at c1 hM
  obtain ⟨r, hLr⟩ : ∃ r, L = [r] := by
   match L, hM with
   | [], hM => cases hM
   | [r], _ => exact ⟨r, rfl⟩
   | _ :: _ :: _, hM => simp at hM
  subst hLr
  obtain ⟨re, rd, rm⟩ := r
  simp only [List.map_cons, List.map_nil, List.cons.injEq, Prod.mk.injEq, and_true] at hM
  obtain ⟨rfl, rfl⟩ := hM
  have hrm : rm.steps = n + 1 := (hn1 _ rfl).symm
  have hL0 := (hL (e, d, rm) (by simp)).2
  have hEq0 := equal_ok ⟨i, e, d⟩ ⟨i, e, d⟩ (by
   have : (atomP p).caps.toNat ≤ 9 := by have := hvs.2.2.2.1; show p.caps.toNat ≤ 9; omega
   show d.length ≤ _
   simp only at hL0
   omega)
  simp only [decide_true, Mat.v, i64, bV, iD] at hEq0
  obtain ⟨m3, T3, hN3, c3⟩ := step_next hEq hL hO hs hst (k := 0) (q := (e, d, rm)) rfl hN2
  unfold outRes at c2 c3
  simp only [List.getElem?_cons_zero, List.getElem?_cons_succ, List.getElem?_nil, hN, hrm] at c2 c3
  refine call_m (X := 2) (Y := 3) (Z := 4) (r' := .tu [.ag [i64 i, i64 e, .d (capD d)], bV true, i64 n, i64 0]) (c1 b a) rfl rfl rfl (by decide) rfl rfl rfl rfl rfl rfl ?_
  simp only [zX, simprocAttr, zY, bbeq, w1]
  refine call_m (X := 5) (Y := 6) (Z := 7) (r' := .tu [.ag [i64 i, i64 e, .d (capD d)], bV true, i64 (n + 1), i64 0]) (c2 b2 a2) rfl rfl rfl (by decide) rfl rfl rfl rfl rfl rfl ?_
  simp only [zX, simprocAttr, zY, bbeq, w1, wn]
  refine call_pure hEq0 rfl rfl ?_
  simp only [zX, simprocAttr, zY, bbeq, w1, wn]
  refine call_m (X := 5) (Y := 6) (Z := 7) (r' := .tu [.ag [i64 0, i64 0, .d (.sl [])], bV false, i64 (n + 1), i64 0]) (c3 b2 a2) hN2.1 rfl rfl (by decide) rfl rfl rfl rfl rfl rfl ?_
  simp only [zX, simprocAttr, zY, bbeq, w1, wn]
  refine call_pure hlv rfl rfl ?_
  simp only [zX, simprocAttr, zY, bbeq, w1]
end Go.Proofs.Ytilapneoohcplaa
