/- A part of the proof (G62 E8). -/
import Derived.Test.YtimnnipoaafdfaaSD20
set_option linter.unusedSimpArgs false
set_option linter.unusedVariables false
set_option maxRecDepth 100000
set_option maxHeartbeats 80000000
namespace Go.Proofs.Ytimnnipoaafdfaa
open Go.VL Go.Proofs.Try
def Sst.up (d : Int) (st : Sst) : Sst := { st with steps := st.steps + d }
def SA {α : Type} (d : Int) (st st' : Sst) (r : α) (o : Option (α × Sst)) : Prop := st.steps≤st'.steps∧(st'.steps + d≤10000000000000→o=some (r,st'.up d))
def seqS {α : Type} (o : Option (Option α × Sst)) (k : Option α→Sst→Option (Bool × Sst)) : Option (Bool × Sst) :=
 match o with
 | none=>none
 | some (r,s)=>k r s
section shift
variable {t : List Int} {F d : Int} {rec rec' : Int→Task→Sst→Option (Bool × Sst)}
theorem SA.no {α : Type} {r : α} {st : Sst} {o : Option (α × Sst)} (ho : o=some (r,st.up d)) : SA d st st r o := ⟨Int.le_refl _,fun _=>ho⟩
theorem sa_step (st : Sst) : (st.up d).step (F + d)=(st.step F).up d := by
 have e1 : st.steps + d + 1=st.steps + 1 + d := by omega
 have e2 : decide (F + d < st.steps + d + 1)=decide (F < st.steps + 1) := decide_eq_decide.2 (by omega)
 unfold Sst.step Sst.up
 simp only [e1]
 rw [← e1,e2]
theorem sa_or {st s1 st' : Sst} {b1 b : Bool} {a' : Option (Bool × Sst)} {k k' : Sst→Option (Bool × Sst)} (h1 : SA d st s1 b1 a') (hr : orR (some (b1,s1)) k=some (b,st')) (hk : k s1=some (b,st')→SA d s1 st' b (k' (s1.up d))) : SA d st st' b (orR a' k') := by
 cases b1 with
 | true =>
  simp only [orR,Option.some.injEq,Prod.mk.injEq] at hr
  obtain ⟨rfl,rfl⟩ := hr
  exact ⟨h1.1,fun hs=>by rw [h1.2 hs]; rfl⟩
 | false =>
  obtain ⟨k1,k2⟩ := hk hr
  have := h1.1
  exact ⟨by omega,fun hs=>by rw [h1.2 (by omega)]; exact k2 hs⟩
theorem sa_seq {α : Type} {st s1 st' : Sst} {b : Bool} {r : Option α} {o : Option (Option α × Sst)} {o2 : Option (Bool × Sst)} {k' : Option α→Sst→Option (Bool × Sst)} (h1 : SA d st s1 r o) (ho : o2=seqS o k') (hk : SA d s1 st' b (k' r (s1.up d))) : SA d st st' b o2 := by
 subst ho
 obtain ⟨k1,k2⟩ := hk
 have := h1.1
 exact ⟨by omega,fun hs=>by rw [h1.2 (by omega)]; exact k2 hs⟩
theorem sa_behind {f f' : Int→Sst→Option (Option (Int × CapsL) × Sst)} (hf : ∀ k st o s2,f k st=some (o,s2)→SA d st s2 o (f' k (st.up d))) : ∀ (j : Nat) (st s2 : Sst) (r : Option CapsL),behindR f j st=some (r,s2)→SA d st s2 r (behindR f' j (st.up d))
 | 0,st,s2,r,hr=>by simp only [behindR] at hr; cases hr; exact .no rfl
 | j + 1,st,s2,r,hr=>by
  simp only [behindR] at hr ⊢
  by_cases he : st.empty=true
  ·rw [if_pos he] at hr
   rw [if_pos (show (st.up d).empty=true from he)]
   cases hr
   exact .no rfl
  rw [if_neg he] at hr
  rw [if_neg (show ¬ (st.up d).empty=true from he)]
  cases hx : f j st with
  | none=>rw [hx] at hr; cases hr
  | some y =>
   obtain ⟨o,s1⟩ := y
   rw [hx] at hr
   obtain ⟨a1,a2⟩ := hf _ _ _ _ hx
   cases o with
   | some p =>
    simp only at hr
    cases hr
    exact ⟨a1,fun hs=>by rw [a2 hs]⟩
   | none =>
    simp only at hr
    obtain ⟨k1,k2⟩ := sa_behind hf j s1 s2 r hr
    exact ⟨by omega,fun hs=>by rw [a2 (by omega)]; exact k2 hs⟩
variable (h : ∀ most task st b st',rec most task st=some (b,st')→SA d st st' b (rec' most task (st.up d)))
include h
theorem sa_first {g : Goal} {i : Int} {c : CapsL} {st s2 : Sst} {o : Option (Int × CapsL)} (hr : firstR rec g i c st=some (o,s2)) : SA d st s2 o (firstR rec' g i c (st.up d)) := by
 unfold firstR at hr
 cases hx : rec 1 (.run g i c) ⟨st.steps,false,[],[]⟩ with
 | none=>rw [hx] at hr; cases hr
 | some y =>
  obtain ⟨b,x⟩ := y
  rw [hx] at hr
  simp only at hr
  obtain ⟨a1,a2⟩ := h _ _ _ _ _ hx
  have hst : s2.steps=x.steps := by
   split at hr
   ·cases hr; rfl
   ·split at hr
    ·cases hr; rfl
    ·cases hr; rfl
    ·cases hr
  refine ⟨by rw [hst]; exact a1,fun hs=>?_⟩
  rw [hst] at hs
  have e : firstR rec' g i c (st.up d)=match some (b,x.up d) with
   | none=>none
   | some (_,x)=>if x.empty then some (none,{ st with steps := x.steps,empty := x.empty }) else match x.ends,x.caps with
    | [],_=>some (none,{ st with steps := x.steps,empty := x.empty })
    | e :: _,d :: _=>some (some (e,d),{ st with steps := x.steps,empty := x.empty })
    | _ :: _,[]=>none := by rw [← a2 hs]; rfl
  rw [e]
  obtain ⟨xs,xe,xends,xcaps⟩ := x
  cases xe with
  | true=>cases hr; rfl
  | false =>
   match xends,xcaps,hr with
   | [],_,hr=>cases hr; rfl
   | e :: _,d :: _,hr=>cases hr; rfl
   | _ :: _,[],hr=>cases hr
theorem sa_alt {g : Re→Task} {most : Int} : ∀ (l : List Re) (st st' : Sst) (b : Bool),altR (fun k st=>rec most (g k) st) l st=some (b,st')→SA d st st' b (altR (fun k st=>rec' most (g k) st) l (st.up d))
 | [],st,st',b,hr=>by simp only [altR] at hr ⊢; cases hr; exact .no rfl
 | k :: l,st,st',b,hr=>by
  simp only [altR] at hr ⊢
  cases hx : rec most (g k) st with
  | none=>rw [hx] at hr; cases hr
  | some y =>
   obtain ⟨b1,s1⟩ := y
   rw [hx] at hr
   exact sa_or (h _ _ _ _ _ hx) hr fun hk=>sa_alt l s1 st' b hk
theorem sa_node {most : Int} {re : Re} {next : Goal} {i : Int} {c : CapsL} {st st' : Sst} {b : Bool} (hr : nodeR t rec most re next i c st=some (b,st')) : SA d st st' b (nodeR t rec' most re next i c (st.up d)) := by
 unfold nodeR at hr ⊢
 have no : ∀ {b : Bool} {st' : Sst},some (false,st)=some (b,st')→SA d st st' b (some (false,st.up d)) := by
  intro b st' hh; cases hh; exact .no rfl
 by_cases o1 : re.op=1
 ·rw [if_pos o1] at hr ⊢
  by_cases q : i < t.length∧inB re.set (tAt t i)=true
  ·rw [if_pos q] at hr ⊢; exact h _ _ _ _ _ hr
  ·rw [if_neg q] at hr ⊢; exact no hr
 rw [if_neg o1] at hr ⊢
 by_cases o2 : re.op=2
 ·rw [if_pos o2] at hr ⊢; exact h _ _ _ _ _ hr
 rw [if_neg o2] at hr ⊢
 by_cases o3 : re.op=3
 ·rw [if_pos o3] at hr ⊢
  exact sa_alt (g := fun k=>.run (.mk 0 k 0 0 next) i c) h re.kids st st' b hr
 rw [if_neg o3] at hr ⊢
 by_cases o5 : re.op=5
 ·rw [if_pos o5] at hr ⊢
  cases hk : re.kids with
  | nil=>rw [hk] at hr; cases hr
  | cons kid l=>rw [hk] at hr; exact h _ _ _ _ _ hr
 rw [if_neg o5] at hr ⊢
 by_cases o6 : re.op=6
 ·rw [if_pos o6] at hr ⊢
  simp only at hr ⊢
  by_cases q1 : (spanR c re.n).1 < 0
  ·rw [if_pos q1] at hr ⊢; exact no hr
  rw [if_neg q1] at hr ⊢
  by_cases q2 : (spanR c re.n).2 < (spanR c re.n).1 ∨ (t.length : Int) < (spanR c re.n).2
  ·rw [if_pos q2] at hr; cases hr
  rw [if_neg q2] at hr ⊢
  by_cases q3 : t.length < i + (spanR c re.n).2 - (spanR c re.n).1
  ·rw [if_pos q3] at hr ⊢; exact no hr
  rw [if_neg q3] at hr ⊢
  by_cases q4 : sameR t (spanR c re.n).1 i ((spanR c re.n).2 - (spanR c re.n).1).toNat=true
  ·rw [if_pos q4] at hr ⊢; exact h _ _ _ _ _ hr
  ·rw [if_neg q4] at hr ⊢; exact no hr
 rw [if_neg o6] at hr ⊢
 by_cases o7 : re.op=7 ∨ re.op=8
 ·rw [if_pos o7] at hr ⊢
  cases hk : re.kids with
  | nil=>rw [hk] at hr; cases hr
  | cons kid l =>
   rw [hk] at hr
   simp only at hr ⊢
   cases hl : lookR rec re.op kid i c st with
   | none=>rw [hl] at hr; cases hr
   | some y =>
    obtain ⟨ro,s1⟩ := y
    rw [hl] at hr
    simp only at hr
    have hfb : SA d st s1 ro (lookR rec' re.op kid i c (st.up d)) := by
     unfold lookR at hl ⊢
     by_cases p7 : re.op=7
     ·rw [if_pos p7] at hl ⊢
      cases hf : firstR rec (.mk 0 kid 0 0 .nil) i c st with
      | none=>rw [hf] at hl; cases hl
      | some z =>
       obtain ⟨o,s3⟩ := z
       rw [hf] at hl
       cases hl
       obtain ⟨a1,a2⟩ := sa_first h hf
       exact ⟨a1,fun hs=>by rw [a2 hs]⟩
     ·rw [if_neg p7] at hl ⊢
      exact sa_behind (fun k st o s2 hf=>sa_first h hf) _ _ _ _ hl
    refine sa_seq (k' := fun r st'=>if st'.empty=true then some (true,st') else if re.neg=true then (match r with | some _=>some (false,st') | none=>rec' most (.run next i c) st') else match r with | some d=>rec' most (.run next i d) st' | none=>some (false,st')) hfb ?_ ?_
    ·generalize lookR rec' re.op kid i c (st.up d)=z; rcases z with _ | ⟨r,s⟩ <;> rfl
    ·try simp only
     by_cases he1 : s1.empty=true
     ·rw [if_pos he1] at hr
      rw [if_pos (show (s1.up d).empty=true from he1)]
      cases hr; exact .no rfl
     rw [if_neg he1] at hr
     rw [if_neg (show ¬ (s1.up d).empty=true from he1)]
     by_cases hn : re.neg=true
     ·rw [if_pos hn] at hr ⊢
      cases ro with
      | some d=>simp only at hr ⊢; cases hr; exact .no rfl
      | none=>exact h _ _ _ _ _ hr
     ·rw [if_neg hn] at hr ⊢
      cases ro with
      | some d=>exact h _ _ _ _ _ hr
      | none=>simp only at hr ⊢; cases hr; exact .no rfl
 rw [if_neg o7] at hr ⊢
 by_cases o9 : re.op=9
 ·rw [if_pos o9] at hr ⊢
  cases hk : re.kids with
  | nil=>rw [hk] at hr; cases hr
  | cons kid l =>
   rw [hk] at hr
   simp only at hr ⊢
   cases hf : firstR rec (.mk 0 kid 0 0 .nil) i c st with
   | none=>rw [hf] at hr; cases hr
   | some y =>
    obtain ⟨o,s1⟩ := y
    rw [hf] at hr
    simp only at hr
    refine sa_seq (k' := fun r st'=>if st'.empty=true then some (true,st') else match r with | some (e,d)=>rec' most (.run next e d) st' | none=>some (false,st')) (sa_first h hf) ?_ ?_
    ·generalize firstR rec' (.mk 0 kid 0 0 .nil) i c (st.up d)=z; rcases z with _ | ⟨r,s⟩ <;> rfl
    ·try simp only
     by_cases he1 : s1.empty=true
     ·rw [if_pos he1] at hr
      rw [if_pos (show (s1.up d).empty=true from he1)]
      cases hr; exact .no rfl
     rw [if_neg he1] at hr
     rw [if_neg (show ¬ (s1.up d).empty=true from he1)]
     cases o with
     | some p=>exact h _ _ _ _ _ hr
     | none=>simp only at hr ⊢; cases hr; exact .no rfl
 rw [if_neg o9] at hr ⊢
 by_cases o10 : re.op=10
 ·rw [if_pos o10] at hr ⊢
  match hk : re.kids with
  | []=>rw [hk] at hr; cases hr
  | [_]=>rw [hk] at hr; cases hr
  | yes :: no' :: l=>rw [hk] at hr; exact h _ _ _ _ _ hr
 rw [if_neg o10] at hr ⊢
 by_cases o11 : re.op=11
 ·rw [if_pos o11] at hr ⊢
  by_cases q : holdsR re.n t i=true
  ·rw [if_pos q] at hr ⊢; exact h _ _ _ _ _ hr
  ·rw [if_neg q] at hr ⊢; exact no hr
 rw [if_neg o11] at hr ⊢
 exact h _ _ _ _ _ hr
omit h in
theorem sa_stepped {st st' : Sst} {b : Bool} {K K' : Sst→Option (Bool × Sst)} (d0 : 0≤d) (hr : (if st.steps < 0 ∨ 10000000000000 < st.steps then none else if (st.step F).empty=true then some (true,st.step F) else K (st.step F))=some (b,st')) (hk : K (st.step F)=some (b,st')→SA d (st.step F) st' b (K' ((st.step F).up d))) :
  SA d st st' b (if (st.up d).steps < 0 ∨ 10000000000000 < (st.up d).steps then none else if ((st.up d).step (F + d)).empty=true then some (true,(st.up d).step (F + d)) else K' ((st.up d).step (F + d))) := by
 by_cases c0 : st.steps < 0 ∨ 10000000000000 < st.steps
 ·rw [if_pos c0] at hr; cases hr
 rw [if_neg c0] at hr
 rw [sa_step]
 have e1 : (st.up d).steps=st.steps + d := rfl
 have hs : (st.step F).steps=st.steps + 1 := rfl
 by_cases he : (st.step F).empty=true
 ·rw [if_pos he] at hr
  cases hr
  refine ⟨by omega,fun hh=>?_⟩
  rw [if_neg (by omega),if_pos (show ((st.step F).up d).empty=true from he)]
 ·rw [if_neg he] at hr
  obtain ⟨k1,k2⟩ := hk hr
  refine ⟨by omega,fun hh=>?_⟩
  rw [if_neg (by omega),if_neg (show ¬ ((st.step F).up d).empty=true from he)]
  exact k2 hh
theorem sa_rep (d0 : 0≤d) {most : Int} {re : Re} {k : Int} {next : Goal} {i : Int} {c : CapsL} {st st' : Sst} {b : Bool} (hr : repR F rec most re k next i c st=some (b,st')) : SA d st st' b (repR (F + d) rec' most re k next i c (st.up d)) := by
 unfold repR at hr ⊢
 by_cases m2 : re.mode=2
 ·rw [if_pos m2] at hr ⊢
  cases hf : firstR rec (.mk 1 (re.setMode 0) 0 0 .nil) i c st with
  | none=>rw [hf] at hr; cases hr
  | some y =>
   obtain ⟨o,s1⟩ := y
   rw [hf] at hr
   simp only at hr
   refine sa_seq (k' := fun r st'=>match r with | some (e,d)=>rec' most (.run next e d) st' | none=>some (st'.empty,st')) (sa_first h hf) ?_ ?_
   ·generalize firstR rec' (.mk 1 (re.setMode 0) 0 0 .nil) i c (st.up d)=z; rcases z with _ | ⟨r,s⟩ <;> rfl
   ·cases o with
    | some p=>exact h _ _ _ _ _ hr
    | none=>simp only at hr ⊢; cases hr; exact .no rfl
 rw [if_neg m2] at hr ⊢
 simp only at hr ⊢
 refine sa_stepped (K := fun s1=>match re.kids with
   | []=>none
   | kid :: _=>if k < re.mn then rec most (.run (.mk 0 kid 0 0 (.mk 2 re k i next)) i c) s1
    else if re.mode=1 then orR (rec most (.run next i c) s1) (fun s=>if re.mx=-1 ∨ k < re.mx then rec most (.run (.mk 0 kid 0 0 (.mk 2 re k i next)) i c) s else some (false,s))
    else orR (if re.mx=-1 ∨ k < re.mx then rec most (.run (.mk 0 kid 0 0 (.mk 2 re k i next)) i c) s1 else some (false,s1)) (fun s=>rec most (.run next i c) s))
  (K' := fun s1=>match re.kids with
   | []=>none
   | kid :: _=>if k < re.mn then rec' most (.run (.mk 0 kid 0 0 (.mk 2 re k i next)) i c) s1
    else if re.mode=1 then orR (rec' most (.run next i c) s1) (fun s=>if re.mx=-1 ∨ k < re.mx then rec' most (.run (.mk 0 kid 0 0 (.mk 2 re k i next)) i c) s else some (false,s))
    else orR (if re.mx=-1 ∨ k < re.mx then rec' most (.run (.mk 0 kid 0 0 (.mk 2 re k i next)) i c) s1 else some (false,s1)) (fun s=>rec' most (.run next i c) s)) d0 hr (fun hk=>?_)
 generalize st.step F=s1 at *
 cases hkd : re.kids with
 | nil=>rw [hkd] at hk; cases hk
 | cons kid l =>
  rw [hkd] at hk
  simp only at hk ⊢
  by_cases c2 : k < re.mn
  ·rw [if_pos c2] at hk ⊢; exact h _ _ _ _ _ hk
  rw [if_neg c2] at hk ⊢
  by_cases m1 : re.mode=1
  ·rw [if_pos m1] at hk ⊢
   cases hx : rec most (.run next i c) s1 with
   | none=>rw [hx] at hk; cases hk
   | some y =>
    obtain ⟨b1,s2⟩ := y
    rw [hx] at hk
    refine sa_or (h _ _ _ _ _ hx) hk fun hk2=>?_
    by_cases cM : re.mx=-1 ∨ k < re.mx
    ·rw [if_pos cM] at hk2 ⊢; exact h _ _ _ _ _ hk2
    ·rw [if_neg cM] at hk2 ⊢; cases hk2; exact .no rfl
  ·rw [if_neg m1] at hk ⊢
   by_cases cM : re.mx=-1 ∨ k < re.mx
   ·rw [if_pos cM] at hk ⊢
    cases hx : rec most (.run (.mk 0 kid 0 0 (.mk 2 re k i next)) i c) s1 with
    | none=>rw [hx] at hk; cases hk
    | some y =>
     obtain ⟨b1,s2⟩ := y
     rw [hx] at hk
     exact sa_or (h _ _ _ _ _ hx) hk fun hk2=>h _ _ _ _ _ hk2
   ·rw [if_neg cM] at hk ⊢
    exact sa_or (SA.no (d := d) rfl) hk fun hk2=>h _ _ _ _ _ hk2
end shift
theorem shift_all {t : List Int} {F d : Int} (d0 : 0≤d) : ∀ (n : Nat) (most : Int) (task : Task) (st : Sst) (b : Bool) (st' : Sst),evR t F n most task st=some (b,st')→SA d st st' b (evR t (F + d) n most task (st.up d))
 | 0,_,_,_,_,_,hr=>by cases hr
 | n + 1,most,task,st,b,st',hr=>by
  have ih := shift_all (t := t) (F := F) d0 n
  have hr : evStep t F (evR t F n) most task st=some (b,st') := hr
  show SA d st st' b (evStep t (F + d) (evR t (F + d) n) most task (st.up d))
  cases task with
  | run g i c =>
   simp only [evStep] at hr ⊢
   by_cases c0 : i < 0 ∨ (t.length : Int) < i
   ·rw [if_pos c0] at hr; cases hr
   rw [if_neg c0] at hr ⊢
   cases g with
   | nil =>
    simp only at hr ⊢
    split at hr
    ·rename_i hc
     cases hr
     exact ⟨Int.le_refl _,fun _=>by rw [if_pos (show (st.up d).ends.length < 2000000000000∧(st.up d).caps.length=(st.up d).ends.length from hc)]; rfl⟩
    ·cases hr
   | mk kind re k frm next =>
    simp only at hr ⊢
    by_cases k1 : kind=1
    ·rw [if_pos k1] at hr ⊢; exact ih _ _ _ _ _ hr
    rw [if_neg k1] at hr ⊢
    by_cases k2 : kind=2
    ·rw [if_pos k2] at hr ⊢
     by_cases q : re.mn≤k∧i=frm
     ·rw [if_pos q] at hr ⊢; cases hr; exact .no rfl
     ·rw [if_neg q] at hr ⊢
      by_cases q2 : k < 0 ∨ 10000000000000 < k
      ·rw [if_pos q2] at hr; cases hr
      ·rw [if_neg q2] at hr ⊢; exact ih _ _ _ _ _ hr
    rw [if_neg k2] at hr ⊢
    by_cases k3 : kind=3
    ·rw [if_pos k3] at hr ⊢
     by_cases q : 1000000000 < c.length
     ·rw [if_pos q] at hr; cases hr
     ·rw [if_neg q] at hr ⊢; exact ih _ _ _ _ _ hr
    rw [if_neg k3] at hr ⊢
    by_cases k4 : kind=4
    ·rw [if_pos k4] at hr ⊢
     by_cases q : i=frm
     ·rw [if_pos q] at hr ⊢; exact ih _ _ _ _ _ hr
     ·rw [if_neg q] at hr ⊢; cases hr; exact .no rfl
    rw [if_neg k4] at hr ⊢
    exact ih _ _ _ _ _ hr
  | rep g i c =>
   simp only [evStep] at hr ⊢
   by_cases c0 : i < 0 ∨ (t.length : Int) < i
   ·rw [if_pos c0] at hr; cases hr
   rw [if_neg c0] at hr ⊢
   cases g with
   | nil=>cases hr
   | mk kind re k frm next=>exact sa_rep ih d0 hr
  | node g i c =>
   simp only [evStep] at hr ⊢
   by_cases c0 : i < 0 ∨ (t.length : Int) < i
   ·rw [if_pos c0] at hr; cases hr
   rw [if_neg c0] at hr ⊢
   cases g with
   | nil=>cases hr
   | mk kind re k frm next =>
    simp only at hr ⊢
    by_cases o4 : re.op=4
    ·rw [if_pos o4] at hr ⊢; exact ih _ _ _ _ _ hr
    rw [if_neg o4] at hr ⊢
    by_cases q1 : 1000000000 < re.set.length ∨ 1000000000 < re.kids.length ∨ 1000000000 < c.length
    ·rw [if_pos q1] at hr; cases hr
    rw [if_neg q1] at hr ⊢
    exact sa_stepped (K := fun s=>nodeR t (evR t F n) most re next i c s) (K' := fun s=>nodeR t (evR t (F + d) n) most re next i c s) d0 hr fun hk=>sa_node ih hk
def Sst.pr (d : Int) (E : List Int) (C : List CapsL) (st : Sst) : Sst := ⟨st.steps + d,st.empty,E ++ st.ends,C ++ st.caps⟩
def SB {α : Type} (d : Int) (E : List Int) (C : List CapsL) (st st' : Sst) (r : α) (o : Option (α × Sst)) : Prop := st.steps≤st'.steps∧st.ends.length≤st'.ends.length∧(st'.steps + d≤10000000000000→E.length + st'.ends.length < 2000000000000→o=some (r,st'.pr d E C))
section ahead
variable {t : List Int} {F d : Int} {E : List Int} {C : List CapsL} {rec rec' : Int→Task→Sst→Option (Bool × Sst)}
theorem SB.no {α : Type} {r : α} {st : Sst} {o : Option (α × Sst)} (ho : o=some (r,st.pr d E C)) : SB d E C st st r o := ⟨Int.le_refl _,Nat.le_refl _,fun _ _=>ho⟩
theorem sb_step (st : Sst) : (st.pr d E C).step (F + d)=(st.step F).pr d E C := by
 have e1 : st.steps + d + 1=st.steps + 1 + d := by omega
 have e2 : decide (F + d < st.steps + d + 1)=decide (F < st.steps + 1) := decide_eq_decide.2 (by omega)
 unfold Sst.step Sst.pr
 simp only [e1]
 rw [← e1,e2]
theorem sb_or {st s1 st' : Sst} {b1 b : Bool} {a' : Option (Bool × Sst)} {k k' : Sst→Option (Bool × Sst)} (h1 : SB d E C st s1 b1 a') (hr : orR (some (b1,s1)) k=some (b,st')) (hk : k s1=some (b,st')→SB d E C s1 st' b (k' (s1.pr d E C))) : SB d E C st st' b (orR a' k') := by
 cases b1 with
 | true =>
  simp only [orR,Option.some.injEq,Prod.mk.injEq] at hr
  obtain ⟨rfl,rfl⟩ := hr
  exact ⟨h1.1,h1.2.1,fun hs hE=>by rw [h1.2.2 hs hE]; rfl⟩
 | false =>
  obtain ⟨k1,k3,k2⟩ := hk hr
  have := h1.1
  have := h1.2.1
  exact ⟨by omega,by omega,fun hs hE=>by rw [h1.2.2 (by omega) (by omega)]; exact k2 hs hE⟩
theorem sb_seq {α : Type} {st s1 st' : Sst} {b : Bool} {r : Option α} {o : Option (Option α × Sst)} {o2 : Option (Bool × Sst)} {k' : Option α→Sst→Option (Bool × Sst)} (h1 : SB d E C st s1 r o) (ho : o2=seqS o k') (hk : SB d E C s1 st' b (k' r (s1.pr d E C))) : SB d E C st st' b o2 := by
 subst ho
 obtain ⟨k1,k3,k2⟩ := hk
 have := h1.1
 have := h1.2.1
 exact ⟨by omega,by omega,fun hs hE=>by rw [h1.2.2 (by omega) (by omega)]; exact k2 hs hE⟩
theorem sb_behind {f f' : Int→Sst→Option (Option (Int × CapsL) × Sst)} (hf : ∀ k st o s2,f k st=some (o,s2)→SB d E C st s2 o (f' k (st.pr d E C))) : ∀ (j : Nat) (st s2 : Sst) (r : Option CapsL),behindR f j st=some (r,s2)→SB d E C st s2 r (behindR f' j (st.pr d E C))
 | 0,st,s2,r,hr=>by simp only [behindR] at hr; cases hr; exact .no rfl
 | j + 1,st,s2,r,hr=>by
  simp only [behindR] at hr ⊢
  by_cases he : st.empty=true
  ·rw [if_pos he] at hr
   rw [if_pos (show (st.pr d E C).empty=true from he)]
   cases hr
   exact .no rfl
  rw [if_neg he] at hr
  rw [if_neg (show ¬ (st.pr d E C).empty=true from he)]
  cases hx : f j st with
  | none=>rw [hx] at hr; cases hr
  | some y =>
   obtain ⟨o,s1⟩ := y
   rw [hx] at hr
   obtain ⟨a1,a3,a2⟩ := hf _ _ _ _ hx
   cases o with
   | some p =>
    simp only at hr
    cases hr
    exact ⟨a1,a3,fun hs hE=>by rw [a2 hs hE]⟩
   | none =>
    simp only at hr
    obtain ⟨k1,k3,k2⟩ := sb_behind hf j s1 s2 r hr
    exact ⟨by omega,by omega,fun hs hE=>by rw [a2 (by omega) (by omega)]; exact k2 hs hE⟩
variable (h1 : ∀ task st b st',rec 1 task st=some (b,st')→SA d st st' b (rec' 1 task (st.up d)))
variable (h : ∀ task st b st',rec (-1) task st=some (b,st')→SB d E C st st' b (rec' (-1) task (st.pr d E C)))
include h1 h
omit h in
theorem sb_first {g : Goal} {i : Int} {c : CapsL} {st s2 : Sst} {o : Option (Int × CapsL)} (hr : firstR rec g i c st=some (o,s2)) : SB d E C st s2 o (firstR rec' g i c (st.pr d E C)) := by
 unfold firstR at hr
 cases hx : rec 1 (.run g i c) ⟨st.steps,false,[],[]⟩ with
 | none=>rw [hx] at hr; cases hr
 | some y =>
  obtain ⟨b,x⟩ := y
  rw [hx] at hr
  simp only at hr
  obtain ⟨a1,a2⟩ := h1 _ _ _ _ hx
  have hst : s2.steps=x.steps := by
   split at hr
   ·cases hr; rfl
   ·split at hr
    ·cases hr; rfl
    ·cases hr; rfl
    ·cases hr
  have hen : s2.ends=st.ends := by
   split at hr
   ·cases hr; rfl
   ·split at hr
    ·cases hr; rfl
    ·cases hr; rfl
    ·cases hr
  refine ⟨by rw [hst]; exact a1,by rw [hen]; exact Nat.le_refl _,fun hs _=>?_⟩
  rw [hst] at hs
  have e : firstR rec' g i c (st.pr d E C)=match some (b,x.up d) with
   | none=>none
   | some (_,x)=>if x.empty then some (none,{ st.pr d E C with steps := x.steps,empty := x.empty }) else match x.ends,x.caps with
    | [],_=>some (none,{ st.pr d E C with steps := x.steps,empty := x.empty })
    | e :: _,d' :: _=>some (some (e,d'),{ st.pr d E C with steps := x.steps,empty := x.empty })
    | _ :: _,[]=>none := by rw [← a2 hs]; rfl
  rw [e]
  obtain ⟨xs,xe,xends,xcaps⟩ := x
  cases xe with
  | true=>cases hr; rfl
  | false =>
   match xends,xcaps,hr with
   | [],_,hr=>cases hr; rfl
   | e :: _,d :: _,hr=>cases hr; rfl
   | _ :: _,[],hr=>cases hr
omit h1 in
theorem sb_alt {g : Re→Task} : ∀ (l : List Re) (st st' : Sst) (b : Bool),altR (fun k st=>rec (-1) (g k) st) l st=some (b,st')→SB d E C st st' b (altR (fun k st=>rec' (-1) (g k) st) l (st.pr d E C))
 | [],st,st',b,hr=>by simp only [altR] at hr ⊢; cases hr; exact .no rfl
 | k :: l,st,st',b,hr=>by
  simp only [altR] at hr ⊢
  cases hx : rec (-1) (g k) st with
  | none=>rw [hx] at hr; cases hr
  | some y =>
   obtain ⟨b1,s1⟩ := y
   rw [hx] at hr
   exact sb_or (h _ _ _ _ hx) hr fun hk=>sb_alt l s1 st' b hk
theorem sb_node {re : Re} {next : Goal} {i : Int} {c : CapsL} {st st' : Sst} {b : Bool} (hr : nodeR t rec (-1) re next i c st=some (b,st')) : SB d E C st st' b (nodeR t rec' (-1) re next i c (st.pr d E C)) := by
 unfold nodeR at hr ⊢
 have no : ∀ {b : Bool} {st' : Sst},some (false,st)=some (b,st')→SB d E C st st' b (some (false,st.pr d E C)) := by
  intro b st' hh; cases hh; exact .no rfl
 by_cases o1 : re.op=1
 ·rw [if_pos o1] at hr ⊢
  by_cases q : i < t.length∧inB re.set (tAt t i)=true
  ·rw [if_pos q] at hr ⊢; exact h _ _ _ _ hr
  ·rw [if_neg q] at hr ⊢; exact no hr
 rw [if_neg o1] at hr ⊢
 by_cases o2 : re.op=2
 ·rw [if_pos o2] at hr ⊢; exact h _ _ _ _ hr
 rw [if_neg o2] at hr ⊢
 by_cases o3 : re.op=3
 ·rw [if_pos o3] at hr ⊢
  exact sb_alt (g := fun k=>.run (.mk 0 k 0 0 next) i c) h re.kids st st' b hr
 rw [if_neg o3] at hr ⊢
 by_cases o5 : re.op=5
 ·rw [if_pos o5] at hr ⊢
  cases hk : re.kids with
  | nil=>rw [hk] at hr; cases hr
  | cons kid l=>rw [hk] at hr; exact h _ _ _ _ hr
 rw [if_neg o5] at hr ⊢
 by_cases o6 : re.op=6
 ·rw [if_pos o6] at hr ⊢
  simp only at hr ⊢
  by_cases q1 : (spanR c re.n).1 < 0
  ·rw [if_pos q1] at hr ⊢; exact no hr
  rw [if_neg q1] at hr ⊢
  by_cases q2 : (spanR c re.n).2 < (spanR c re.n).1 ∨ (t.length : Int) < (spanR c re.n).2
  ·rw [if_pos q2] at hr; cases hr
  rw [if_neg q2] at hr ⊢
  by_cases q3 : t.length < i + (spanR c re.n).2 - (spanR c re.n).1
  ·rw [if_pos q3] at hr ⊢; exact no hr
  rw [if_neg q3] at hr ⊢
  by_cases q4 : sameR t (spanR c re.n).1 i ((spanR c re.n).2 - (spanR c re.n).1).toNat=true
  ·rw [if_pos q4] at hr ⊢; exact h _ _ _ _ hr
  ·rw [if_neg q4] at hr ⊢; exact no hr
 rw [if_neg o6] at hr ⊢
 by_cases o7 : re.op=7 ∨ re.op=8
 ·rw [if_pos o7] at hr ⊢
  cases hk : re.kids with
  | nil=>rw [hk] at hr; cases hr
  | cons kid l =>
   rw [hk] at hr
   simp only at hr ⊢
   cases hl : lookR rec re.op kid i c st with
   | none=>rw [hl] at hr; cases hr
   | some y =>
    obtain ⟨ro,s1⟩ := y
    rw [hl] at hr
    simp only at hr
    have hfb : SB d E C st s1 ro (lookR rec' re.op kid i c (st.pr d E C)) := by
     unfold lookR at hl ⊢
     by_cases p7 : re.op=7
     ·rw [if_pos p7] at hl ⊢
      cases hf : firstR rec (.mk 0 kid 0 0 .nil) i c st with
      | none=>rw [hf] at hl; cases hl
      | some z =>
       obtain ⟨o,s3⟩ := z
       rw [hf] at hl
       cases hl
       obtain ⟨a1,a3,a2⟩ := sb_first h1 hf
       exact ⟨a1,a3,fun hs hE=>by rw [a2 hs hE]⟩
     ·rw [if_neg p7] at hl ⊢
      exact sb_behind (fun k st o s2 hf=>sb_first h1 hf) _ _ _ _ hl
    refine sb_seq (k' := fun r st'=>if st'.empty=true then some (true,st') else if re.neg=true then (match r with | some _=>some (false,st') | none=>rec' (-1) (.run next i c) st') else match r with | some d=>rec' (-1) (.run next i d) st' | none=>some (false,st')) hfb ?_ ?_
    ·generalize lookR rec' re.op kid i c (st.pr d E C)=z; rcases z with _ | ⟨r,s⟩ <;> rfl
    ·try simp only
     by_cases he1 : s1.empty=true
     ·rw [if_pos he1] at hr
      rw [if_pos (show (s1.pr d E C).empty=true from he1)]
      cases hr; exact .no rfl
     rw [if_neg he1] at hr
     rw [if_neg (show ¬ (s1.pr d E C).empty=true from he1)]
     by_cases hn : re.neg=true
     ·rw [if_pos hn] at hr ⊢
      cases ro with
      | some d=>simp only at hr ⊢; cases hr; exact .no rfl
      | none=>exact h _ _ _ _ hr
     ·rw [if_neg hn] at hr ⊢
      cases ro with
      | some d=>exact h _ _ _ _ hr
      | none=>simp only at hr ⊢; cases hr; exact .no rfl
 rw [if_neg o7] at hr ⊢
 by_cases o9 : re.op=9
 ·rw [if_pos o9] at hr ⊢
  cases hk : re.kids with
  | nil=>rw [hk] at hr; cases hr
  | cons kid l =>
   rw [hk] at hr
   simp only at hr ⊢
   cases hf : firstR rec (.mk 0 kid 0 0 .nil) i c st with
   | none=>rw [hf] at hr; cases hr
   | some y =>
    obtain ⟨o,s1⟩ := y
    rw [hf] at hr
    simp only at hr
    refine sb_seq (k' := fun r st'=>if st'.empty=true then some (true,st') else match r with | some (e,d)=>rec' (-1) (.run next e d) st' | none=>some (false,st')) (sb_first h1 hf) ?_ ?_
    ·generalize firstR rec' (.mk 0 kid 0 0 .nil) i c (st.pr d E C)=z; rcases z with _ | ⟨r,s⟩ <;> rfl
    ·try simp only
     by_cases he1 : s1.empty=true
     ·rw [if_pos he1] at hr
      rw [if_pos (show (s1.pr d E C).empty=true from he1)]
      cases hr; exact .no rfl
     rw [if_neg he1] at hr
     rw [if_neg (show ¬ (s1.pr d E C).empty=true from he1)]
     cases o with
     | some p=>exact h _ _ _ _ hr
     | none=>simp only at hr ⊢; cases hr; exact .no rfl
 rw [if_neg o9] at hr ⊢
 by_cases o10 : re.op=10
 ·rw [if_pos o10] at hr ⊢
  match hk : re.kids with
  | []=>rw [hk] at hr; cases hr
  | [_]=>rw [hk] at hr; cases hr
  | yes :: no' :: l=>rw [hk] at hr; exact h _ _ _ _ hr
 rw [if_neg o10] at hr ⊢
 by_cases o11 : re.op=11
 ·rw [if_pos o11] at hr ⊢
  by_cases q : holdsR re.n t i=true
  ·rw [if_pos q] at hr ⊢; exact h _ _ _ _ hr
  ·rw [if_neg q] at hr ⊢; exact no hr
 rw [if_neg o11] at hr ⊢
 exact h _ _ _ _ hr
omit h1 h in
theorem sb_stepped {st st' : Sst} {b : Bool} {K K' : Sst→Option (Bool × Sst)} (d0 : 0≤d) (hr : (if st.steps < 0 ∨ 10000000000000 < st.steps then none else if (st.step F).empty=true then some (true,st.step F) else K (st.step F))=some (b,st')) (hk : K (st.step F)=some (b,st')→SB d E C (st.step F) st' b (K' ((st.step F).pr d E C))) :
  SB d E C st st' b (if (st.pr d E C).steps < 0 ∨ 10000000000000 < (st.pr d E C).steps then none else if ((st.pr d E C).step (F + d)).empty=true then some (true,(st.pr d E C).step (F + d)) else K' ((st.pr d E C).step (F + d))) := by
 by_cases c0 : st.steps < 0 ∨ 10000000000000 < st.steps
 ·rw [if_pos c0] at hr; cases hr
 rw [if_neg c0] at hr
 rw [sb_step]
 have e1 : (st.pr d E C).steps=st.steps + d := rfl
 have hs : (st.step F).steps=st.steps + 1 := rfl
 by_cases he : (st.step F).empty=true
 ·rw [if_pos he] at hr
  cases hr
  refine ⟨by omega,Nat.le_refl _,fun hh _=>?_⟩
  rw [if_neg (by omega),if_pos (show ((st.step F).pr d E C).empty=true from he)]
 ·rw [if_neg he] at hr
  obtain ⟨k1,k3,k2⟩ := hk hr
  refine ⟨by omega,k3,fun hh hE=>?_⟩
  rw [if_neg (by omega),if_neg (show ¬ ((st.step F).pr d E C).empty=true from he)]
  exact k2 hh hE
theorem sb_rep (d0 : 0≤d) {re : Re} {k : Int} {next : Goal} {i : Int} {c : CapsL} {st st' : Sst} {b : Bool} (hr : repR F rec (-1) re k next i c st=some (b,st')) : SB d E C st st' b (repR (F + d) rec' (-1) re k next i c (st.pr d E C)) := by
 unfold repR at hr ⊢
 by_cases m2 : re.mode=2
 ·rw [if_pos m2] at hr ⊢
  cases hf : firstR rec (.mk 1 (re.setMode 0) 0 0 .nil) i c st with
  | none=>rw [hf] at hr; cases hr
  | some y =>
   obtain ⟨o,s1⟩ := y
   rw [hf] at hr
   simp only at hr
   refine sb_seq (k' := fun r st'=>match r with | some (e,d)=>rec' (-1) (.run next e d) st' | none=>some (st'.empty,st')) (sb_first h1 hf) ?_ ?_
   ·generalize firstR rec' (.mk 1 (re.setMode 0) 0 0 .nil) i c (st.pr d E C)=z; rcases z with _ | ⟨r,s⟩ <;> rfl
   ·cases o with
    | some p=>exact h _ _ _ _ hr
    | none=>simp only at hr ⊢; cases hr; exact .no rfl
 rw [if_neg m2] at hr ⊢
 simp only at hr ⊢
 refine sb_stepped (K := fun s1=>match re.kids with
   | []=>none
   | kid :: _=>if k < re.mn then rec (-1) (.run (.mk 0 kid 0 0 (.mk 2 re k i next)) i c) s1
    else if re.mode=1 then orR (rec (-1) (.run next i c) s1) (fun s=>if re.mx=-1 ∨ k < re.mx then rec (-1) (.run (.mk 0 kid 0 0 (.mk 2 re k i next)) i c) s else some (false,s))
    else orR (if re.mx=-1 ∨ k < re.mx then rec (-1) (.run (.mk 0 kid 0 0 (.mk 2 re k i next)) i c) s1 else some (false,s1)) (fun s=>rec (-1) (.run next i c) s))
  (K' := fun s1=>match re.kids with
   | []=>none
   | kid :: _=>if k < re.mn then rec' (-1) (.run (.mk 0 kid 0 0 (.mk 2 re k i next)) i c) s1
    else if re.mode=1 then orR (rec' (-1) (.run next i c) s1) (fun s=>if re.mx=-1 ∨ k < re.mx then rec' (-1) (.run (.mk 0 kid 0 0 (.mk 2 re k i next)) i c) s else some (false,s))
    else orR (if re.mx=-1 ∨ k < re.mx then rec' (-1) (.run (.mk 0 kid 0 0 (.mk 2 re k i next)) i c) s1 else some (false,s1)) (fun s=>rec' (-1) (.run next i c) s)) d0 hr (fun hk=>?_)
 generalize st.step F=s1 at *
 cases hkd : re.kids with
 | nil=>rw [hkd] at hk; cases hk
 | cons kid l =>
  rw [hkd] at hk
  simp only at hk ⊢
  by_cases c2 : k < re.mn
  ·rw [if_pos c2] at hk ⊢; exact h _ _ _ _ hk
  rw [if_neg c2] at hk ⊢
  by_cases m1 : re.mode=1
  ·rw [if_pos m1] at hk ⊢
   cases hx : rec (-1) (.run next i c) s1 with
   | none=>rw [hx] at hk; cases hk
   | some y =>
    obtain ⟨b1,s2⟩ := y
    rw [hx] at hk
    refine sb_or (h _ _ _ _ hx) hk fun hk2=>?_
    by_cases cM : re.mx=-1 ∨ k < re.mx
    ·rw [if_pos cM] at hk2 ⊢; exact h _ _ _ _ hk2
    ·rw [if_neg cM] at hk2 ⊢; cases hk2; exact .no rfl
  ·rw [if_neg m1] at hk ⊢
   by_cases cM : re.mx=-1 ∨ k < re.mx
   ·rw [if_pos cM] at hk ⊢
    cases hx : rec (-1) (.run (.mk 0 kid 0 0 (.mk 2 re k i next)) i c) s1 with
    | none=>rw [hx] at hk; cases hk
    | some y =>
     obtain ⟨b1,s2⟩ := y
     rw [hx] at hk
     exact sb_or (h _ _ _ _ hx) hk fun hk2=>h _ _ _ _ hk2
   ·rw [if_neg cM] at hk ⊢
    exact sb_or (SB.no (d := d) rfl) hk fun hk2=>h _ _ _ _ hk2
end ahead
theorem ahead_all {t : List Int} {F d : Int} {E : List Int} {C : List CapsL} (d0 : 0≤d) (hC : C.length=E.length) : ∀ (n : Nat) (task : Task) (st : Sst) (b : Bool) (st' : Sst),evR t F n (-1) task st=some (b,st')→SB d E C st st' b (evR t (F + d) n (-1) task (st.pr d E C))
 | 0,_,_,_,_,hr=>by cases hr
 | n + 1,task,st,b,st',hr=>by
  have ih := ahead_all (t := t) (F := F) (E := E) (C := C) d0 hC n
  have hr : evStep t F (evR t F n) (-1) task st=some (b,st') := hr
  show SB d E C st st' b (evStep t (F + d) (evR t (F + d) n) (-1) task (st.pr d E C))
  cases task with
  | run g i c =>
   simp only [evStep] at hr ⊢
   by_cases c0 : i < 0 ∨ (t.length : Int) < i
   ·rw [if_pos c0] at hr; cases hr
   rw [if_neg c0] at hr ⊢
   cases g with
   | nil =>
    simp only at hr ⊢
    split at hr
    ·rename_i hc
     cases hr
     refine ⟨Int.le_refl _,by simp,fun _ hE=>?_⟩
     rw [if_pos (show (st.pr d E C).ends.length < 2000000000000∧(st.pr d E C).caps.length=(st.pr d E C).ends.length from ⟨by simp only [Sst.pr,List.length_append,List.length_cons,List.length_nil] at hE ⊢; omega,by simp only [Sst.pr,List.length_append]; omega⟩)]
     simp [Sst.pr]
    ·cases hr
   | mk kind re k frm next =>
    simp only at hr ⊢
    by_cases k1 : kind=1
    ·rw [if_pos k1] at hr ⊢; exact ih _ _ _ _ hr
    rw [if_neg k1] at hr ⊢
    by_cases k2 : kind=2
    ·rw [if_pos k2] at hr ⊢
     by_cases q : re.mn≤k∧i=frm
     ·rw [if_pos q] at hr ⊢; cases hr; exact .no rfl
     ·rw [if_neg q] at hr ⊢
      by_cases q2 : k < 0 ∨ 10000000000000 < k
      ·rw [if_pos q2] at hr; cases hr
      ·rw [if_neg q2] at hr ⊢; exact ih _ _ _ _ hr
    rw [if_neg k2] at hr ⊢
    by_cases k3 : kind=3
    ·rw [if_pos k3] at hr ⊢
     by_cases q : 1000000000 < c.length
     ·rw [if_pos q] at hr; cases hr
     ·rw [if_neg q] at hr ⊢; exact ih _ _ _ _ hr
    rw [if_neg k3] at hr ⊢
    by_cases k4 : kind=4
    ·rw [if_pos k4] at hr ⊢
     by_cases q : i=frm
     ·rw [if_pos q] at hr ⊢; exact ih _ _ _ _ hr
     ·rw [if_neg q] at hr ⊢; cases hr; exact .no rfl
    rw [if_neg k4] at hr ⊢
    exact ih _ _ _ _ hr
  | rep g i c =>
   simp only [evStep] at hr ⊢
   by_cases c0 : i < 0 ∨ (t.length : Int) < i
   ·rw [if_pos c0] at hr; cases hr
   rw [if_neg c0] at hr ⊢
   cases g with
   | nil=>cases hr
   | mk kind re k frm next=>exact sb_rep (fun task st b st'=>shift_all d0 n 1 task st b st') ih d0 hr
  | node g i c =>
   simp only [evStep] at hr ⊢
   by_cases c0 : i < 0 ∨ (t.length : Int) < i
   ·rw [if_pos c0] at hr; cases hr
   rw [if_neg c0] at hr ⊢
   cases g with
   | nil=>cases hr
   | mk kind re k frm next =>
    simp only at hr ⊢
    by_cases o4 : re.op=4
    ·rw [if_pos o4] at hr ⊢; exact ih _ _ _ _ hr
    rw [if_neg o4] at hr ⊢
    by_cases q1 : 1000000000 < re.set.length ∨ 1000000000 < re.kids.length ∨ 1000000000 < c.length
    ·rw [if_pos q1] at hr; cases hr
    rw [if_neg q1] at hr ⊢
    exact sb_stepped (K := fun s=>nodeR t (evR t F n) (-1) re next i c s) (K' := fun s=>nodeR t (evR t (F + d) n) (-1) re next i c s) d0 hr fun hk=>sb_node (fun task st b st'=>shift_all d0 n 1 task st b st') ih hk
end Go.Proofs.Ytimnnipoaafdfaa
