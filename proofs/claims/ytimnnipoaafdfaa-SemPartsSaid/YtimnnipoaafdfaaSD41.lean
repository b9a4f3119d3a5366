/- A part of the proof (G54 G55 E3 E4). -/
import Derived.Test.YtimnnipoaafdfaaSD20
import Derived.Test.YtimnnipoaafdfaaSD22
import Derived.Test.YtimnnipoaafdfaaSD29
set_option linter.unusedSimpArgs false
set_option linter.unusedVariables false
set_option maxRecDepth 100000
set_option maxHeartbeats 80000000
namespace Go.Proofs.Ytimnnipoaafdfaa
open Go.VL Go.Proofs.Try
def FA (F F' : Int) (st st' : Sst) (b : Bool) (o : Option (Bool × Sst)) : Prop :=
 st.steps≤st'.steps∧(st'.empty=true→b=true∧F < st'.steps)∧(st.steps≤F'→(st'.steps≤F'→o=some (b,st'))∧(F' < st'.steps→∃ s2,o=some (true,s2)∧s2.empty=true))
def FB {α : Type} (F F' : Int) (st st' : Sst) (r : Option α) (o : Option (Option α × Sst)) : Prop :=
 st.steps≤st'.steps∧(st'.empty=true→r=none∧F < st'.steps)∧(st.steps≤F'→(st'.steps≤F'→o=some (r,st'))∧(F' < st'.steps→∃ s2,o=some (none,s2)∧s2.empty=true))
section fuel
variable {t : List Int} {F F' : Int} {rec rec' : Int→Task→Sst→Option (Bool × Sst)}
theorem FA.no {st : Sst} {o : Option (Bool × Sst)} (he : st.empty=false) (ho : o=some (false,st)) : FA F F' st st false o :=
 ⟨Int.le_refl _,fun h=>(by rw [he] at h; cases h),fun hs=>⟨fun _=>ho,fun h=>by omega⟩⟩
theorem fa_or {st s1 st' : Sst} {b1 b : Bool} {a' : Option (Bool × Sst)} {k k' : Sst→Option (Bool × Sst)} (h1 : FA F F' st s1 b1 a') (hr : orR (some (b1,s1)) k=some (b,st')) (hk : s1.empty=false→k s1=some (b,st')→FA F F' s1 st' b (k' s1)) : FA F F' st st' b (orR a' k') := by
 cases b1 with
 | true =>
  simp only [orR,Option.some.injEq,Prod.mk.injEq] at hr
  obtain ⟨rfl,rfl⟩ := hr
  obtain ⟨a1,a2,a3⟩ := h1
  refine ⟨a1,a2,fun h0=>⟨fun hs=>by rw [(a3 h0).1 hs]; rfl,fun hs=>?_⟩⟩
  obtain ⟨s2,q1,q2⟩ := (a3 h0).2 hs
  exact ⟨s2,by rw [q1]; rfl,q2⟩
 | false =>
  simp only [orR] at hr
  have he : s1.empty=false := by
   cases hx : s1.empty with
   | false=>rfl
   | true=>have := (h1.2.1 hx).1; cases this
  obtain ⟨a1,a2,a3⟩ := h1
  obtain ⟨b1,b2,b3⟩ := hk he hr
  refine ⟨by omega,b2,fun h0=>?_⟩
  by_cases hs1 : s1.steps≤F'
  ·rw [(a3 h0).1 hs1]
   exact b3 hs1
  ·obtain ⟨s2,q1,q2⟩ := (a3 h0).2 (by omega)
   exact ⟨fun hs=>by omega,fun _=>⟨s2,by rw [q1]; rfl,q2⟩⟩
def seqR {α : Type} (o : Option (Option α × Sst)) (k : Option α→Sst→Option (Bool × Sst)) : Option (Bool × Sst) :=
 match o with
 | none=>none
 | some (r,s)=>k r s
theorem fa_seq {α : Type} {st s1 st' : Sst} {b : Bool} {r : Option α} {o : Option (Option α × Sst)} {o2 : Option (Bool × Sst)} {k' : Option α→Sst→Option (Bool × Sst)} (h1 : FB F F' st s1 r o) (ho : o2=seqR o k')
  (hem : s1.empty=true→b=true∧st'=s1) (hex : ∀ s2,s2.empty=true→k' none s2=some (true,s2)) (hk : s1.empty=false→FA F F' s1 st' b (k' r s1)) : FA F F' st st' b o2 := by
 obtain ⟨a1,a2,a3⟩ := h1
 subst ho
 unfold seqR
 by_cases he : s1.empty=true
 ·obtain ⟨rfl,rfl⟩ := hem he
  refine ⟨a1,fun _=>⟨rfl,(a2 he).2⟩,fun h0=>⟨fun hs=>?_,fun hs=>?_⟩⟩
  ·rw [(a3 h0).1 hs]
   have := (a2 he).1
   rw [this]
   exact hex _ he
  ·obtain ⟨s2,q1,q2⟩ := (a3 h0).2 hs
   exact ⟨s2,by rw [q1]; exact hex _ q2,q2⟩
 ·obtain ⟨b1,b2,b3⟩ := hk (by simpa using he)
  refine ⟨by omega,b2,fun h0=>?_⟩
  by_cases hs1 : s1.steps≤F'
  ·rw [(a3 h0).1 hs1]
   exact b3 hs1
  ·obtain ⟨s2,q1,q2⟩ := (a3 h0).2 (by omega)
   exact ⟨fun hs=>by omega,fun _=>⟨s2,by rw [q1]; exact hex _ q2,q2⟩⟩
theorem fb_behind {f f' : Int→Sst→Option (Option (Int × CapsL) × Sst)} (hf : ∀ k st o s2,f k st=some (o,s2)→st.empty=false→FB F F' st s2 o (f' k st)) : ∀ (j : Nat) (st s2 : Sst) (r : Option CapsL),
  behindR f j st=some (r,s2)→st.empty=false→FB F F' st s2 r (behindR f' j st)
 | 0,st,s2,r,hr,he=>by
  simp only [behindR] at hr
  cases hr
  exact ⟨Int.le_refl _,fun h=>(by rw [he] at h; cases h),fun _=>⟨fun _=>rfl,fun h=>by omega⟩⟩
 | j + 1,st,s2,r,hr,he=>by
  simp only [behindR] at hr
  rw [if_neg (by rw [he]; simp)] at hr
  have hend : ∀ (g : Int→Sst→Option (Option (Int × CapsL) × Sst)) (s3 : Sst),s3.empty=true→behindR g j s3=some (none,s3) := by
   intro g s3 h3
   cases j with
   | zero=>simp only [behindR]
   | succ j=>simp only [behindR]; rw [if_pos h3]
  cases hx : f j st with
  | none=>rw [hx] at hr; cases hr
  | some y =>
   obtain ⟨o,s1⟩ := y
   rw [hx] at hr
   obtain ⟨a1,a2,a3⟩ := hf _ _ _ _ hx he
   simp only [behindR]
   rw [if_neg (by rw [he]; simp)]
   cases o with
   | some p =>
    obtain ⟨e,d⟩ := p
    simp only at hr
    cases hr
    refine ⟨a1,fun hh=>?_,fun h0=>⟨fun hle=>by rw [(a3 h0).1 hle],fun hlt=>?_⟩⟩
    ·have := (a2 hh).1; cases this
    ·obtain ⟨s3,q1,q2⟩ := (a3 h0).2 hlt
     exact ⟨s3,by rw [q1]; exact hend _ _ q2,q2⟩
   | none =>
    simp only at hr
    by_cases he1 : s1.empty=true
    ·rw [hend _ _ he1] at hr
     cases hr
     refine ⟨a1,fun _=>⟨rfl,(a2 he1).2⟩,fun h0=>⟨fun hle=>by rw [(a3 h0).1 hle]; exact hend _ _ he1,fun hlt=>?_⟩⟩
     obtain ⟨s3,q1,q2⟩ := (a3 h0).2 hlt
     exact ⟨s3,by rw [q1]; exact hend _ _ q2,q2⟩
    ·obtain ⟨b1,b2,b3⟩ := fb_behind hf j s1 s2 r hr (by simpa using he1)
     refine ⟨by omega,b2,fun h0=>?_⟩
     by_cases hs1 : s1.steps≤F'
     ·rw [(a3 h0).1 hs1]
      exact b3 hs1
     ·obtain ⟨s3,q1,q2⟩ := (a3 h0).2 (by omega)
      exact ⟨fun hs=>by omega,fun _=>⟨s3,by rw [q1]; exact hend _ _ q2,q2⟩⟩
variable (h : ∀ most task st b st',rec most task st=some (b,st')→st.empty=false→FA F F' st st' b (rec' most task st))
include h
theorem fb_first {g : Goal} {i : Int} {c : CapsL} {st s2 : Sst} {o : Option (Int × CapsL)} (hr : firstR rec g i c st=some (o,s2)) : FB F F' st s2 o (firstR rec' g i c st) := by
 unfold firstR at hr
 cases hx : rec 1 (.run g i c) ⟨st.steps,false,[],[]⟩ with
 | none=>rw [hx] at hr; cases hr
 | some y =>
  obtain ⟨b,x⟩ := y
  rw [hx] at hr
  simp only at hr
  obtain ⟨a1,a2,a3⟩ := h _ _ _ _ _ hx rfl
  have hst : s2.steps=x.steps∧s2.empty=x.empty := by
   split at hr
   ·cases hr; exact ⟨rfl,rfl⟩
   ·split at hr
    ·cases hr; exact ⟨rfl,rfl⟩
    ·cases hr; exact ⟨rfl,rfl⟩
    ·cases hr
  refine ⟨by rw [hst.1]; exact a1,fun he=>?_,fun h0=>⟨fun hle=>?_,fun hlt=>?_⟩⟩
  ·rw [hst.2] at he
   rw [if_pos he] at hr
   cases hr
   exact ⟨rfl,(a2 he).2⟩
  ·rw [hst.1] at hle
   unfold firstR
   rw [(a3 h0).1 hle]
   exact hr
  ·rw [hst.1] at hlt
   obtain ⟨s3,q1,q2⟩ := (a3 h0).2 hlt
   refine ⟨{ st with steps := s3.steps,empty := s3.empty },?_,q2⟩
   unfold firstR
   rw [q1]
   simp only
   rw [if_pos q2]
theorem fa_alt {g : Re→Task} {most : Int} : ∀ (l : List Re) (st st' : Sst) (b : Bool),altR (fun k st=>rec most (g k) st) l st=some (b,st')→st.empty=false→FA F F' st st' b (altR (fun k st=>rec' most (g k) st) l st)
 | [],st,st',b,hr,he=>by
  simp only [altR] at hr ⊢
  cases hr
  exact FA.no he rfl
 | k :: l,st,st',b,hr,he=>by
  simp only [altR] at hr ⊢
  cases hx : rec most (g k) st with
  | none=>rw [hx] at hr; cases hr
  | some y =>
   obtain ⟨b1,s1⟩ := y
   rw [hx] at hr
   exact fa_or (h _ _ _ _ _ hx he) hr fun he1 hk=>fa_alt l s1 st' b hk he1
end fuel
section fuel
variable {t : List Int} {F F' : Int} (hFF : F'≤F)
include hFF
theorem fa_step {st st' : Sst} {b : Bool} {K K' : Sst→Option (Bool × Sst)} (he0 : st.empty=false) (hr : (if (st.step F).empty=true then some (true,st.step F) else K (st.step F))=some (b,st')) (hk : (st.step F).empty=false→K (st.step F)=some (b,st')→FA F F' (st.step F) st' b (K' (st.step F))) :
  FA F F' st st' b (if (st.step F').empty=true then some (true,st.step F') else K' (st.step F')) := by
 have hs : ∀ f,(st.step f).steps=st.steps + 1 := fun _=>rfl
 have hem : ∀ f,(st.step f).empty=decide (f < st.steps + 1) := fun f=>by simp [Sst.step,he0]
 by_cases he : (st.step F).empty=true
 ·rw [if_pos he] at hr
  cases hr
  have hlt : F < st.steps + 1 := by rw [hem] at he; exact of_decide_eq_true he
  refine ⟨by rw [hs]; omega,fun _=>⟨rfl,by rw [hs]; exact hlt⟩,fun h0=>⟨fun h1=>by rw [hs] at h1; omega,fun _=>⟨st.step F',?_,?_⟩⟩⟩
  ·rw [if_pos]
   rw [hem,decide_eq_true (by omega)]
  ·rw [hem,decide_eq_true (by omega)]
 ·rw [if_neg he] at hr
  have he : (st.step F).empty=false := by simpa using he
  have hge : ¬ F < st.steps + 1 := by rw [hem] at he; exact of_decide_eq_false he
  obtain ⟨b1,b2,b3⟩ := hk he hr
  rw [hs] at b1 b3
  refine ⟨by omega,b2,fun h0=>?_⟩
  by_cases hle : st.steps + 1≤F'
  ·have heq : st.step F'=st.step F := by
    have h1 : (st.step F').empty=(st.step F).empty := by rw [he,hem,decide_eq_false (by omega)]
    have : st.step F'={ st.step F with empty := (st.step F').empty } := rfl
    rw [this,h1]
   rw [heq,if_neg (by rw [he]; simp)]
   exact b3 hle
  ·refine ⟨fun h1=>by omega,fun _=>⟨st.step F',?_,?_⟩⟩
   ·rw [if_pos]
    rw [hem,decide_eq_true (by omega)]
   ·rw [hem,decide_eq_true (by omega)]
variable {rec rec' : Int→Task→Sst→Option (Bool × Sst)} (h : ∀ most task st b st',rec most task st=some (b,st')→st.empty=false→FA F F' st st' b (rec' most task st))
include h
omit hFF in
theorem fa_node {most : Int} {re : Re} {next : Goal} {i : Int} {c : CapsL} {st st' : Sst} {b : Bool} (hr : nodeR t rec most re next i c st=some (b,st')) (he : st.empty=false) : FA F F' st st' b (nodeR t rec' most re next i c st) := by
 unfold nodeR at hr ⊢
 have no : ∀ {b : Bool} {st' : Sst},some (false,st)=some (b,st')→FA F F' st st' b (some (false,st)) := by
  intro b st' hh; cases hh; exact FA.no he rfl
 by_cases o1 : re.op=1
 ·rw [if_pos o1] at hr ⊢
  by_cases q : i < t.length∧inB re.set (tAt t i)=true
  ·rw [if_pos q] at hr ⊢; exact h _ _ _ _ _ hr he
  ·rw [if_neg q] at hr ⊢; exact no hr
 rw [if_neg o1] at hr ⊢
 by_cases o2 : re.op=2
 ·rw [if_pos o2] at hr ⊢; exact h _ _ _ _ _ hr he
 rw [if_neg o2] at hr ⊢
 by_cases o3 : re.op=3
 ·rw [if_pos o3] at hr ⊢
  exact fa_alt (g := fun k=>.run (.mk 0 k 0 0 next) i c) h re.kids st st' b hr he
 rw [if_neg o3] at hr ⊢
 by_cases o5 : re.op=5
 ·rw [if_pos o5] at hr ⊢
  cases hk : re.kids with
  | nil=>rw [hk] at hr; cases hr
  | cons kid l=>rw [hk] at hr; exact h _ _ _ _ _ hr he
 rw [if_neg o5] at hr ⊢
 by_cases o6 : re.op=6
 ·rw [if_pos o6] at hr ⊢
  simp only at hr ⊢
  by_cases q1 : (spanR c re.n).1 < 0
  ·rw [if_pos q1] at hr ⊢; exact no hr
  rw [if_neg q1] at hr ⊢
  by_cases q2 : (spanR c re.n).2 < (spanR c re.n).1 ∨ (t.length : Int) < (spanR c re.n).2
  ·rw [if_pos q2] at hr; cases hr
  rw [if_neg q2] at hr ⊢
  by_cases q3 : t.length < i + (spanR c re.n).2 - (spanR c re.n).1
  ·rw [if_pos q3] at hr ⊢; exact no hr
  rw [if_neg q3] at hr ⊢
  by_cases q4 : sameR t (spanR c re.n).1 i ((spanR c re.n).2 - (spanR c re.n).1).toNat=true
  ·rw [if_pos q4] at hr ⊢; exact h _ _ _ _ _ hr he
  ·rw [if_neg q4] at hr ⊢; exact no hr
 rw [if_neg o6] at hr ⊢
 by_cases o7 : re.op=7 ∨ re.op=8
 ·rw [if_pos o7] at hr ⊢
  cases hk : re.kids with
  | nil=>rw [hk] at hr; cases hr
  | cons kid l =>
   rw [hk] at hr
   simp only at hr ⊢
   cases hl : lookR rec re.op kid i c st with
   | none=>rw [hl] at hr; cases hr
   | some y =>
    obtain ⟨ro,s1⟩ := y
    rw [hl] at hr
    simp only at hr
    have hfb : FB F F' st s1 ro (lookR rec' re.op kid i c st) := by
     unfold lookR at hl ⊢
     by_cases p7 : re.op=7
     ·rw [if_pos p7] at hl ⊢
      cases hf : firstR rec (.mk 0 kid 0 0 .nil) i c st with
      | none=>rw [hf] at hl; cases hl
      | some z =>
       obtain ⟨o,s3⟩ := z
       rw [hf] at hl
       cases hl
       obtain ⟨a1,a2,a3⟩ := fb_first h hf
       refine ⟨a1,fun hh=>⟨by rw [(a2 hh).1]; rfl,(a2 hh).2⟩,fun h0=>⟨fun hle=>by rw [(a3 h0).1 hle],fun hlt=>?_⟩⟩
       obtain ⟨s4,q1,q2⟩ := (a3 h0).2 hlt
       exact ⟨s4,by rw [q1]; rfl,q2⟩
     ·rw [if_neg p7] at hl ⊢
      exact fb_behind (fun k st o s2 hf _=>fb_first h hf) _ _ _ _ hl he
    refine fa_seq (k' := fun r st'=>if st'.empty=true then some (true,st') else if re.neg=true then (match r with | some _=>some (false,st') | none=>rec' most (.run next i c) st') else match r with | some d=>rec' most (.run next i d) st' | none=>some (false,st')) hfb ?_ (fun he1=>?_) (fun s2 h2=>by simp only; rw [if_pos h2]) (fun he1=>?_)
    ·generalize lookR rec' re.op kid i c st=z; rcases z with _ | ⟨r,s⟩ <;> rfl
    ·rw [if_pos he1] at hr; cases hr; exact ⟨rfl,rfl⟩
    ·rw [if_neg (by rw [he1]; simp)] at hr
     try simp only
     rw [if_neg (by rw [he1]; simp)]
     by_cases hn : re.neg=true
     ·rw [if_pos hn] at hr ⊢
      cases ro with
      | some d=>simp only at hr ⊢; cases hr; exact FA.no he1 rfl
      | none=>exact h _ _ _ _ _ hr he1
     ·rw [if_neg hn] at hr ⊢
      cases ro with
      | some d=>exact h _ _ _ _ _ hr he1
      | none=>simp only at hr ⊢; cases hr; exact FA.no he1 rfl
 rw [if_neg o7] at hr ⊢
 by_cases o9 : re.op=9
 ·rw [if_pos o9] at hr ⊢
  cases hk : re.kids with
  | nil=>rw [hk] at hr; cases hr
  | cons kid l =>
   rw [hk] at hr
   simp only at hr ⊢
   cases hf : firstR rec (.mk 0 kid 0 0 .nil) i c st with
   | none=>rw [hf] at hr; cases hr
   | some y =>
    obtain ⟨o,s1⟩ := y
    rw [hf] at hr
    simp only at hr
    refine fa_seq (k' := fun r st'=>if st'.empty=true then some (true,st') else match r with | some (e,d)=>rec' most (.run next e d) st' | none=>some (false,st')) (fb_first h hf) ?_ (fun he1=>?_) (fun s2 h2=>by simp only; rw [if_pos h2]) (fun he1=>?_)
    ·generalize firstR rec' (.mk 0 kid 0 0 .nil) i c st=z; rcases z with _ | ⟨r,s⟩ <;> rfl
    ·rw [if_pos he1] at hr; cases hr; exact ⟨rfl,rfl⟩
    ·rw [if_neg (by rw [he1]; simp)] at hr
     try simp only
     rw [if_neg (by rw [he1]; simp)]
     cases o with
     | some p=>exact h _ _ _ _ _ hr he1
     | none=>simp only at hr ⊢; cases hr; exact FA.no he1 rfl
 rw [if_neg o9] at hr ⊢
 by_cases o10 : re.op=10
 ·rw [if_pos o10] at hr ⊢
  match hk : re.kids with
  | []=>rw [hk] at hr; cases hr
  | [_]=>rw [hk] at hr; cases hr
  | yes :: no' :: l=>rw [hk] at hr; exact h _ _ _ _ _ hr he
 rw [if_neg o10] at hr ⊢
 by_cases o11 : re.op=11
 ·rw [if_pos o11] at hr ⊢
  by_cases q : holdsR re.n t i=true
  ·rw [if_pos q] at hr ⊢; exact h _ _ _ _ _ hr he
  ·rw [if_neg q] at hr ⊢; exact no hr
 rw [if_neg o11] at hr ⊢
 exact h _ _ _ _ _ hr he
theorem fa_rep {most : Int} {re : Re} {k : Int} {next : Goal} {i : Int} {c : CapsL} {st st' : Sst} {b : Bool} (hr : repR F rec most re k next i c st=some (b,st')) (he : st.empty=false) : FA F F' st st' b (repR F' rec' most re k next i c st) := by
 unfold repR at hr ⊢
 by_cases m2 : re.mode=2
 ·rw [if_pos m2] at hr ⊢
  cases hf : firstR rec (.mk 1 (re.setMode 0) 0 0 .nil) i c st with
  | none=>rw [hf] at hr; cases hr
  | some y =>
   obtain ⟨o,s1⟩ := y
   rw [hf] at hr
   simp only at hr
   have hfb := fb_first h hf
   refine fa_seq (k' := fun r st'=>match r with | some (e,d)=>rec' most (.run next e d) st' | none=>some (st'.empty,st')) hfb ?_ (fun he1=>?_) (fun s2 h2=>by simp only; rw [h2]) (fun he1=>?_)
   ·generalize firstR rec' (.mk 1 (re.setMode 0) 0 0 .nil) i c st=z; rcases z with _ | ⟨r,s⟩ <;> rfl
   ·have := (hfb.2.1 he1).1
    subst this
    simp only at hr
    cases hr
    exact ⟨he1,rfl⟩
   ·cases o with
    | some p=>exact h _ _ _ _ _ hr he1
    | none =>
     simp only at hr ⊢
     cases hr
     rw [he1]
     exact FA.no he1 rfl
 rw [if_neg m2] at hr ⊢
 by_cases c0 : st.steps < 0 ∨ 10000000000000 < st.steps
 ·rw [if_pos c0] at hr; cases hr
 rw [if_neg c0] at hr ⊢
 simp only at hr ⊢
 refine fa_step hFF (K := fun s1=>match re.kids with
   | []=>none
   | kid :: _=>if k < re.mn then rec most (.run (.mk 0 kid 0 0 (.mk 2 re k i next)) i c) s1
    else if re.mode=1 then orR (rec most (.run next i c) s1) (fun s=>if re.mx=-1 ∨ k < re.mx then rec most (.run (.mk 0 kid 0 0 (.mk 2 re k i next)) i c) s else some (false,s))
    else orR (if re.mx=-1 ∨ k < re.mx then rec most (.run (.mk 0 kid 0 0 (.mk 2 re k i next)) i c) s1 else some (false,s1)) (fun s=>rec most (.run next i c) s))
  (K' := fun s1=>match re.kids with
   | []=>none
   | kid :: _=>if k < re.mn then rec' most (.run (.mk 0 kid 0 0 (.mk 2 re k i next)) i c) s1
    else if re.mode=1 then orR (rec' most (.run next i c) s1) (fun s=>if re.mx=-1 ∨ k < re.mx then rec' most (.run (.mk 0 kid 0 0 (.mk 2 re k i next)) i c) s else some (false,s))
    else orR (if re.mx=-1 ∨ k < re.mx then rec' most (.run (.mk 0 kid 0 0 (.mk 2 re k i next)) i c) s1 else some (false,s1)) (fun s=>rec' most (.run next i c) s)) he hr (fun he1 hk=>?_)
 generalize st.step F=s1 at *
 cases hkd : re.kids with
 | nil=>rw [hkd] at hk; cases hk
 | cons kid l =>
  rw [hkd] at hk
  simp only at hk ⊢
  by_cases c2 : k < re.mn
  ·rw [if_pos c2] at hk ⊢; exact h _ _ _ _ _ hk he1
  rw [if_neg c2] at hk ⊢
  by_cases m1 : re.mode=1
  ·rw [if_pos m1] at hk ⊢
   cases hx : rec most (.run next i c) s1 with
   | none=>rw [hx] at hk; cases hk
   | some y =>
    obtain ⟨b1,s2⟩ := y
    rw [hx] at hk
    refine fa_or (h _ _ _ _ _ hx he1) hk fun he2 hk2=>?_
    by_cases cM : re.mx=-1 ∨ k < re.mx
    ·rw [if_pos cM] at hk2 ⊢; exact h _ _ _ _ _ hk2 he2
    ·rw [if_neg cM] at hk2 ⊢; cases hk2; exact FA.no he2 rfl
  ·rw [if_neg m1] at hk ⊢
   by_cases cM : re.mx=-1 ∨ k < re.mx
   ·rw [if_pos cM] at hk ⊢
    cases hx : rec most (.run (.mk 0 kid 0 0 (.mk 2 re k i next)) i c) s1 with
    | none=>rw [hx] at hk; cases hk
    | some y =>
     obtain ⟨b1,s2⟩ := y
     rw [hx] at hk
     exact fa_or (h _ _ _ _ _ hx he1) hk fun he2 hk2=>h _ _ _ _ _ hk2 he2
   ·rw [if_neg cM] at hk ⊢
    exact fa_or (FA.no (F := F) (F' := F') he1 rfl) hk fun he2 hk2=>h _ _ _ _ _ hk2 he2
end fuel
theorem fuel_all {t : List Int} {F F' : Int} (hFF : F'≤F) : ∀ (n : Nat) (most : Int) (task : Task) (st : Sst) (b : Bool) (st' : Sst),evR t F n most task st=some (b,st')→st.empty=false→FA F F' st st' b (evR t F' n most task st)
 | 0,_,_,_,_,_,hr,_=>by cases hr
 | n + 1,most,task,st,b,st',hr,he=>by
  have ih := fuel_all (t := t) hFF n
  have hr : evStep t F (evR t F n) most task st=some (b,st') := hr
  show FA F F' st st' b (evStep t F' (evR t F' n) most task st)
  cases task with
  | run g i c =>
   simp only [evStep] at hr ⊢
   by_cases c0 : i < 0 ∨ (t.length : Int) < i
   ·rw [if_pos c0] at hr; cases hr
   rw [if_neg c0] at hr ⊢
   cases g with
   | nil =>
    simp only at hr ⊢
    split at hr
    ·rename_i hc
     cases hr
     exact ⟨Int.le_refl _,fun hh=>(by have hh : st.empty=true := hh; rw [he] at hh; cases hh),fun h0=>⟨fun _=>by rw [if_pos hc],fun hl=>by have hl : F' < st.steps := hl; omega⟩⟩
    ·cases hr
   | mk kind re k frm next =>
    simp only at hr ⊢
    by_cases k1 : kind=1
    ·rw [if_pos k1] at hr ⊢; exact ih _ _ _ _ _ hr he
    rw [if_neg k1] at hr ⊢
    by_cases k2 : kind=2
    ·rw [if_pos k2] at hr ⊢
     by_cases q : re.mn≤k∧i=frm
     ·rw [if_pos q] at hr ⊢; cases hr; exact FA.no he rfl
     ·rw [if_neg q] at hr ⊢
      by_cases q2 : k < 0 ∨ 10000000000000 < k
      ·rw [if_pos q2] at hr; cases hr
      ·rw [if_neg q2] at hr ⊢; exact ih _ _ _ _ _ hr he
    rw [if_neg k2] at hr ⊢
    by_cases k3 : kind=3
    ·rw [if_pos k3] at hr ⊢
     by_cases q : 1000000000 < c.length
     ·rw [if_pos q] at hr; cases hr
     ·rw [if_neg q] at hr ⊢; exact ih _ _ _ _ _ hr he
    rw [if_neg k3] at hr ⊢
    by_cases k4 : kind=4
    ·rw [if_pos k4] at hr ⊢
     by_cases q : i=frm
     ·rw [if_pos q] at hr ⊢; exact ih _ _ _ _ _ hr he
     ·rw [if_neg q] at hr ⊢; cases hr; exact FA.no he rfl
    rw [if_neg k4] at hr ⊢
    exact ih _ _ _ _ _ hr he
  | rep g i c =>
   simp only [evStep] at hr ⊢
   by_cases c0 : i < 0 ∨ (t.length : Int) < i
   ·rw [if_pos c0] at hr; cases hr
   rw [if_neg c0] at hr ⊢
   cases g with
   | nil=>cases hr
   | mk kind re k frm next=>exact fa_rep hFF ih hr he
  | node g i c =>
   simp only [evStep] at hr ⊢
   by_cases c0 : i < 0 ∨ (t.length : Int) < i
   ·rw [if_pos c0] at hr; cases hr
   rw [if_neg c0] at hr ⊢
   cases g with
   | nil=>cases hr
   | mk kind re k frm next =>
    simp only at hr ⊢
    by_cases o4 : re.op=4
    ·rw [if_pos o4] at hr ⊢; exact ih _ _ _ _ _ hr he
    rw [if_neg o4] at hr ⊢
    by_cases q1 : 1000000000 < re.set.length ∨ 1000000000 < re.kids.length ∨ 1000000000 < c.length
    ·rw [if_pos q1] at hr; cases hr
    rw [if_neg q1] at hr ⊢
    by_cases q2 : st.steps < 0 ∨ 10000000000000 < st.steps
    ·rw [if_pos q2] at hr; cases hr
    rw [if_neg q2] at hr ⊢
    exact fa_step hFF (K := fun s=>nodeR t (evR t F n) most re next i c s) (K' := fun s=>nodeR t (evR t F' n) most re next i c s) he hr fun he1 hk=>fa_node ih hk he1
theorem valid7_fuel {p : Pat} {t : List Int} {f f' : Int} (h : valid7 p t f=0) (h0 : 0≤f') (h1 : f'≤1099511627776) : valid7 p t f'=0 := by
 obtain ⟨v1,v2,v3,_,_⟩ := valid7_spec h
 unfold valid7
 rw [if_neg (by rw [v1]; simp),if_neg (by omega),if_neg (by rw [v3]; simp),if_neg (by omega)]
theorem allE_valid {p : Pat} {t : List Int} {i most f : Int} (h : allE p t i most f=0) : valid7 p t f=0∧0≤i∧i≤t.length∧(searchX p t i most f).2.empty=false := by
 unfold allE at h
 by_cases c1 : valid7 p t f ≠ 0
 ·rw [if_pos c1] at h; exact absurd h c1
 rw [if_neg c1] at h
 have c1 : valid7 p t f=0 := by simpa using c1
 by_cases c2 : i < 0 ∨ (t.length : Int) < i
 ·rw [if_pos c2] at h; omega
 rw [if_neg c2] at h
 by_cases c3 : (searchX p t i most f).2.empty=true
 ·rw [if_pos c3] at h; omega
 ·exact ⟨c1,by omega,by omega,by simpa using c3⟩
theorem allE_zero {p : Pat} {t : List Int} {i most f : Int} (hv : valid7 p t f=0) (h0 : 0≤i) (h1 : i≤t.length) (he : (searchX p t i most f).2.empty=false) : allE p t i most f=0 := by
 unfold allE
 rw [if_neg (by rw [hv]; simp),if_neg (by omega),if_neg (by rw [he]; simp)]
theorem search_at {p : Pat} {t : List Int} {i most f : Int} (hv : valid7 p t f=0) (h0 : 0≤i) (h1 : i≤t.length) : ∃ n b x,searchX p t i most f=(b,x)∧evR t f n most (.run (.mk 0 p.re 0 0 .nil) i (cap0 p)) ⟨0,false,[],[]⟩=some (b,x) := by
 obtain ⟨n,e,_⟩ := search_ends (most := most) hv h0 h1
 exact ⟨n,_,_,rfl,e⟩
theorem allE_cases {p : Pat} {t : List Int} {i most f : Int} (hv : valid7 p t f=0) (h0 : 0≤i) (h1 : i≤t.length) : allE p t i most f=0 ∨ allE p t i most f=11 := by
 unfold allE
 rw [if_neg (by rw [hv]; simp),if_neg (by omega)]
 split
 ·exact .inr rfl
 ·exact .inl rfl
theorem steps_le {p : Pat} {t : List Int} {i most f : Int} (h : allE p t i most f=0) : 0≤allN p t i most f∧allN p t i most f≤f := by
 obtain ⟨hv,h0,h1,he⟩ := allE_valid h
 obtain ⟨k,_,e2⟩ := search_ends (most := most) hv h0 h1
 unfold allN
 rw [if_pos h]
 have h2 := e2.empty
 rw [he] at h2
 have := of_decide_eq_false h2.symm
 have := e2.s0
 simp only at this
 omega
theorem fuel_same {p : Pat} {t : List Int} {i most f f' : Int} (h : allE p t i most f=0) (hN : allN p t i most f≤f') (h1' : f'≤1099511627776) : allE p t i most f'=0∧allM p t i most f'=allM p t i most f∧allN p t i most f'=allN p t i most f∧searchX p t i most f'=searchX p t i most f := by
 obtain ⟨hv,h0,h1,he⟩ := allE_valid h
 obtain ⟨hs0,hs1⟩ := steps_le h
 have hNe : allN p t i most f=(searchX p t i most f).2.steps := by unfold allN; rw [if_pos h]
 have hv' := valid7_fuel (f' := f') hv (by omega) h1'
 obtain ⟨k,b,x,hx,e1⟩ := search_at (most := most) hv h0 h1
 obtain ⟨k',b',x',hx',e1'⟩ := search_at (most := most) hv' h0 h1
 rw [hx] at hNe he
 have hsame : searchX p t i most f'=searchX p t i most f := by
  rw [hx,hx']
  rcases Int.le_total f' f with hle | hle
  ·have hfa := (fuel_all hle k most _ _ _ _ e1 rfl).2.2 (by show (0 : Int)≤_; omega)
   have := (evX_eq (hfa.1 (by show x.steps≤f'; have : allN p t i most f=x.steps := hNe; omega)))
   rw [← hx']
   exact this
  ·have hfa := (fuel_all hle k' most _ _ _ _ e1' rfl).2.2 (by show (0 : Int)≤_; omega)
   by_cases hst : x'.steps≤f
   ·have := evX_eq (hfa.1 hst)
    rw [← hx]
    exact this.symm
   ·obtain ⟨s2,q1,q2⟩ := hfa.2 (by omega)
    have h3 : searchX p t i most f=(true,s2) := evX_eq q1
    rw [hx] at h3
    cases h3
    rw [show x.empty=true from q2] at he
    cases he
 have hE : allE p t i most f'=0 := allE_zero hv' h0 h1 (by rw [hsame,hx]; exact he)
 refine ⟨hE,?_,?_,hsame⟩
 ·unfold allM; rw [if_pos hE,if_pos h,hsame]
 ·unfold allN; rw [if_pos hE,if_pos h,hsame]
theorem searchX_caps {p : Pat} {t : List Int} {i most f : Int} (h : allE p t i most f=0) : (searchX p t i most f).2.caps.length=(searchX p t i most f).2.ends.length := by
 obtain ⟨hv,h0,h1,he⟩ := allE_valid h
 obtain ⟨k,_,e2⟩ := search_ends (most := most) hv h0 h1
 obtain ⟨new,newc,z1,z2,z3,_⟩ := e2.more
 rw [z1,z2]; simpa using z3
theorem zip_take {α β : Type} : ∀ (n : Nat) (a : List α) (b : List β),(a.take n).zip (b.take n)=(a.zip b).take n
 | 0,a,b=>by simp
 | n + 1,[],b=>by simp
 | n + 1,x :: a,[]=>by simp
 | n + 1,x :: a,y :: b=>by simp [zip_take n a b]
theorem prefix_law {p : Pat} {t : List Int} {i f : Int} {n : Nat} (hn : 1≤n) (h : allE p t i (-1) f=0) : allE p t i n f=0∧allM p t i n f=(allM p t i (-1) f).take n∧allN p t i n f≤allN p t i (-1) f := by
 obtain ⟨hv,h0,h1,he⟩ := allE_valid h
 obtain ⟨k,b,x,hx,e1⟩ := search_at (most := -1) hv h0 h1
 have hcap := searchX_caps h
 have hM1 : allM p t i (-1) f=x.ends.zip x.caps := by unfold allM; rw [if_pos h,hx]
 have hN1 : allN p t i (-1) f=x.steps := by unfold allN; rw [if_pos h,hx]
 rw [hx] at he hcap
 simp only at he hcap
 rcases prefix_all (N := n) k _ _ _ _ e1 rfl he (by show 0 < n; omega) rfl with ⟨c1,c2⟩ | ⟨c1,s2,c2,c3,c4,c5,c6⟩
 ·have hx2 : searchX p t i n f=(false,x) := evX_eq c2
  have hE : allE p t i n f=0 := allE_zero hv h0 h1 (by rw [hx2]; exact he)
  refine ⟨hE,?_,?_⟩
  ·rw [hM1]
   unfold allM
   rw [if_pos hE,hx2]
   exact (List.take_of_length_le (by rw [List.length_zip,hcap]; simp; omega)).symm
  ·rw [hN1]
   unfold allN
   rw [if_pos hE,hx2]
   exact Int.le_refl _
 ·have hx2 : searchX p t i n f=(true,s2) := evX_eq c2
  have hE : allE p t i n f=0 := allE_zero hv h0 h1 (by rw [hx2]; exact c3)
  refine ⟨hE,?_,?_⟩
  ·rw [hM1]
   unfold allM
   rw [if_pos hE,hx2]
   show s2.ends.zip s2.caps=_
   rw [c5,c6,zip_take]
  ·rw [hN1]
   unfold allN
   rw [if_pos hE,hx2]
   exact c4
theorem ends_le {p : Pat} {t : List Int} {i most f : Int} (h : allE p t i most f=0) : ((searchX p t i most f).2.ends.length : Int)≤allN p t i most f + 1 := by
 obtain ⟨hv,h0,h1,he⟩ := allE_valid h
 obtain ⟨_,_,e2⟩ := search_ends (most := most) hv h0 h1
 obtain ⟨new,newc,z1,z2,z3,z4,_⟩ := e2.more
 have hN : allN p t i most f=(searchX p t i most f).2.steps := by unfold allN; rw [if_pos h]
 rw [hN,z1]
 simp only [List.nil_append] at *
 omega
theorem empty_valid (caps : Int) (h0 : 0≤caps) (h1 : caps≤9) : validR ⟨.mk 0 [] [] 0 0 0 0 false,caps,false⟩=0 := by
 have hw : Re.whole (.mk 0 [] [] 0 0 0 0 false) caps (topR false)=true := by
  rw [Re.whole,Re.every_iff]
  refine ⟨?_,fun k hk=>by simp [Re.kids] at hk⟩
  simp [nodeOk,Re.op,Re.kids,Re.set,Re.mn,Re.mx,Re.mode,Re.n,Re.neg,kidsR]
 have hs : Re.size (.mk 0 [] [] 0 0 0 0 false)=1 := by rfl
 have hd : Re.depth (.mk 0 [] [] 0 0 0 0 false)=1 := by rfl
 unfold validR
 rw [if_neg (by show ¬ (256 < Re.size (.mk 0 [] [] 0 0 0 0 false) ∨ 24 < Re.depth (.mk 0 [] [] 0 0 0 0 false)); rw [hs,hd]; omega),if_neg]
 show ¬ (caps < 0 ∨ 9 < caps ∨ Re.whole (.mk 0 [] [] 0 0 0 0 false) caps (topR false)=false)
 rw [hw]
 simp
 omega
theorem empty_good (caps : Int) (h0 : 0≤caps) (h1 : caps≤9) (F : Int) (hF0 : 1≤F) (hF1 : F≤1099511627776) : allE ⟨.mk 0 [] [] 0 0 0 0 false,caps,false⟩ [] 0 (-1) F=0 := by
 have hv7 : valid7 ⟨.mk 0 [] [] 0 0 0 0 false,caps,false⟩ [] F=0 := by
  unfold valid7
  rw [if_neg (by rw [empty_valid caps h0 h1]; simp),if_neg (by simp),if_neg (by simp),if_neg (by omega)]
 refine allE_zero hv7 (Int.le_refl _) (by simp) ?_
 obtain ⟨n,e1,e2⟩ := search_ends (most := -1) hv7 (Int.le_refl 0) (by simp)
 have hlen : (cap0 ⟨.mk 0 [] [] 0 0 0 0 false,caps,false⟩).length≤9 := by unfold cap0; rw [List.length_replicate]; show caps.toNat≤9; omega
 have hev : evR [] F 3 (-1) (.run (.mk 0 (.mk 0 [] [] 0 0 0 0 false) 0 0 .nil) 0 (cap0 ⟨.mk 0 [] [] 0 0 0 0 false,caps,false⟩)) ⟨0,false,[],[]⟩=some (false,⟨1,false,[0],[cap0 ⟨.mk 0 [] [] 0 0 0 0 false,caps,false⟩]⟩) := by
  generalize cap0 ⟨.mk 0 [] [] 0 0 0 0 false,caps,false⟩=c at *
  show evStep [] F (evR [] F 2) (-1) (.run (.mk 0 (.mk 0 [] [] 0 0 0 0 false) 0 0 .nil) 0 c) ⟨0,false,[],[]⟩=_
  have hst : (Sst.step F ⟨0,false,[],[]⟩)=⟨1,false,[],[]⟩ := by
   simp only [Sst.step,Bool.false_or]
   congr 1
   exact decide_eq_false (by omega)
  simp only [evStep]
  rw [if_neg (by simp),if_neg (by decide),if_neg (by decide),if_neg (by decide),if_neg (by decide)]
  show evStep [] F (evR [] F 1) (-1) (.node (.mk 0 (.mk 0 [] [] 0 0 0 0 false) 0 0 .nil) 0 c) ⟨0,false,[],[]⟩=_
  simp only [evStep]
  rw [if_neg (by simp),if_neg (by simp [Re.op]),if_neg (by simp [Re.set,Re.kids]; omega),if_neg (by simp),hst,if_neg (by simp)]
  unfold nodeR
  rw [if_neg (show ¬ (Re.mk 0 [] [] 0 0 0 0 false).op=1 by decide),if_neg (show ¬ (Re.mk 0 [] [] 0 0 0 0 false).op=2 by decide),if_neg (show ¬ (Re.mk 0 [] [] 0 0 0 0 false).op=3 by decide),if_neg (show ¬ (Re.mk 0 [] [] 0 0 0 0 false).op=5 by decide),if_neg (show ¬ (Re.mk 0 [] [] 0 0 0 0 false).op=6 by decide),if_neg (show ¬ ((Re.mk 0 [] [] 0 0 0 0 false).op=7 ∨ (Re.mk 0 [] [] 0 0 0 0 false).op=8) by decide),if_neg (show ¬ (Re.mk 0 [] [] 0 0 0 0 false).op=9 by decide),if_neg (show ¬ (Re.mk 0 [] [] 0 0 0 0 false).op=10 by decide),if_neg (show ¬ (Re.mk 0 [] [] 0 0 0 0 false).op=11 by decide)]
  show evStep [] F (evR [] F 0) (-1) (.run .nil 0 c) ⟨1,false,[],[]⟩=_
  simp only [evStep]
  rw [if_neg (by simp),if_pos (by simp)]
  simp
 have hX : searchX ⟨.mk 0 [] [] 0 0 0 0 false,caps,false⟩ [] 0 (-1) F=_ := evX_eq hev
 rw [hX]
theorem fits_good {p : Pat} {t : List Int} {F : Int} (hv : validR p=0) (hf : p.re.fine=true) (hF0 : 1≤F) (hF1 : F≤1099511627776) : ∀ n,n≤t.length + 1→(∀ i : Int,0≤i→i≤(fitsFrom p t F n).2.length→allE (fitsFrom p t F n).1 (fitsFrom p t F n).2 i (-1) F=0)∧(fitsFrom p t F n).1.re.fine=true∧(fitsFrom p t F n).2.length≤t.length
 | 0,_=>by
  obtain ⟨_,_,k3,k4,_⟩ := validR_spec hv
  refine ⟨fun i h0 h1=>?_,by rfl,Nat.zero_le _⟩
  have h1 : i≤0 := by simpa [fitsFrom] using h1
  have : i=0 := by omega
  subst this
  exact empty_good p.caps k3 k4 F hF0 hF1
 | n + 1,hn=>by
  simp only [fitsFrom]
  by_cases c : (List.range (n + 1)).all (goodAt p t n F)=true
  ·rw [if_pos c]
   refine ⟨fun i h0 h1=>?_,hf,by rw [List.length_take]; omega⟩
   have hl : (t.take n).length=n := by rw [List.length_take]; omega
   have h1 : i≤((t.take n).length : Int) := h1
   rw [hl] at h1
   have := List.all_eq_true.1 c i.toNat (List.mem_range.2 (by omega))
   unfold goodAt at this
   have := of_decide_eq_true this
   rwa [show ((i.toNat : Nat) : Int)=i by omega] at this
  ·rw [if_neg c]
   exact fits_good hv hf hF0 hF1 n (by omega)
end Go.Proofs.Ytimnnipoaafdfaa
