/- A part of the proof (E11). -/
import Derived.Test.YtllagoeijcjpiaaSL18
set_option linter.unusedSimpArgs false
set_option linter.unusedVariables false
set_option maxRecDepth 100000
set_option maxHeartbeats 80000000
namespace Go.Proofs.Ytllagoeijcjpiaa
open Go.VL Go.Proofs.Try
def SC {α:Type} (N:Int) (st st':Sst) (r:α) (o:Option (α × Sst)):Prop:=st.ends.length≤st'.ends.length∧((st'.ends.length:Int) < N→o=some (r,st'))
def seqC {α:Type} (o:Option (Option α × Sst)) (k:Option α→Sst→Option (Bool × Sst)):Option (Bool × Sst) :=
 match o with
 | none=>none
 | some (r,s)=>k r s
section big
variable {t:List Int} {F N:Int} {rec:Int→Task→Sst→Option (Bool × Sst)}
theorem SC.no {α:Type} {r:α} {st:Sst} {o:Option (α × Sst)} (ho:o=some (r,st)):SC N st st r o:=⟨Nat.le_refl _,fun _=>ho⟩
theorem sc_or {st s1 st':Sst} {b1 b:Bool} {a':Option (Bool × Sst)} {k k':Sst→Option (Bool × Sst)} (h1:SC N st s1 b1 a') (hr:orR (some (b1,s1)) k=some (b,st')) (hk:k s1=some (b,st')→SC N s1 st' b (k' s1)):SC N st st' b (orR a' k'):=by
 cases b1 with
 | true =>
  simp only[orR,Option.some.injEq,Prod.mk.injEq] at hr
  obtain⟨rfl,rfl⟩:=hr
  exact⟨h1.1,fun hs=>by rw[h1.2 hs]; rfl⟩
 | false =>
  obtain⟨k1,k2⟩:=hk hr
  have:=h1.1
  exact⟨by omega,fun hs=>by rw[h1.2 (by omega)]; exact k2 hs⟩
theorem sc_seq {α:Type} {st s1 st':Sst} {b:Bool} {r:Option α} {o:Option (Option α × Sst)} {o2:Option (Bool × Sst)} {k':Option α→Sst→Option (Bool × Sst)} (h1:SC N st s1 r o) (ho:o2=seqC o k') (hk:SC N s1 st' b (k' r s1)):SC N st st' b o2:=by
 subst ho
 obtain⟨k1,k2⟩:=hk
 have:=h1.1
 exact⟨by omega,fun hs=>by rw[h1.2 (by omega)]; exact k2 hs⟩
theorem sc_behind {f f':Int→Sst→Option (Option (Int × CapsL) × Sst)} (hf:∀k st o s2,f k st=some (o,s2)→SC N st s2 o (f' k st)):∀(j:Nat) (st s2:Sst) (r:Option CapsL),behindR f j st=some (r,s2)→SC N st s2 r (behindR f' j st)
 | 0,st,s2,r,hr=>by simp only[behindR] at hr; cases hr; exact .no rfl
 | j + 1,st,s2,r,hr=>by
  simp only[behindR] at hr ⊢
  by_cases he:st.empty=true
  ·rw[if_pos he] at hr
   rw[if_pos (show st.empty=true from he)]
   cases hr
   exact .no rfl
  rw[if_neg he] at hr
  rw[if_neg (show ¬st.empty=true from he)]
  cases hx:f j st with
  | none=>rw[hx] at hr; cases hr
  | some y =>
   obtain⟨o,s1⟩:=y
   rw[hx] at hr
   obtain⟨a1,a2⟩:=hf _ _ _ _ hx
   cases o with
   | some p =>
    simp only at hr
    cases hr
    exact⟨a1,fun hs=>by rw[a2 hs]⟩
   | none =>
    simp only at hr
    obtain⟨k1,k2⟩:=sc_behind hf j s1 s2 r hr
    exact⟨by omega,fun hs=>by rw[a2 (by omega)]; exact k2 hs⟩
variable (h:∀task st b st',rec (-1) task st=some (b,st')→SC N st st' b (rec N task st))
include h
omit h in
theorem sc_first {g:Goal} {i:Int} {c:CapsL} {st s2:Sst} {o:Option (Int × CapsL)} (hr:firstR rec g i c st=some (o,s2)):SC N st s2 o (firstR rec g i c st):=by
 refine⟨?_,fun _=>hr⟩
 unfold firstR at hr
 cases hx:rec 1 (.run g i c) ⟨st.steps,false,[],[]⟩ with
 | none=>rw[hx] at hr; cases hr
 | some y =>
  obtain⟨b,x⟩:=y
  rw[hx] at hr
  simp only at hr
  split at hr
  ·cases hr; exact Nat.le_refl _
  ·split at hr
   ·cases hr; exact Nat.le_refl _
   ·cases hr; exact Nat.le_refl _
   ·cases hr
theorem sc_alt {g:Re→Task}:∀(l:List Re) (st st':Sst) (b:Bool),altR (fun k st=>rec (-1) (g k) st) l st=some (b,st')→SC N st st' b (altR (fun k st=>rec N (g k) st) l st)
 | [],st,st',b,hr=>by simp only[altR] at hr ⊢; cases hr; exact .no rfl
 | k::l,st,st',b,hr=>by
  simp only[altR] at hr ⊢
  cases hx:rec (-1) (g k) st with
  | none=>rw[hx] at hr; cases hr
  | some y =>
   obtain⟨b1,s1⟩:=y
   rw[hx] at hr
   exact sc_or (h _ _ _ _ hx) hr fun hk=>sc_alt l s1 st' b hk
theorem sc_node {re:Re} {next:Goal} {i:Int} {c:CapsL} {st st':Sst} {b:Bool} (hr:nodeR t rec (-1) re next i c st=some (b,st')):SC N st st' b (nodeR t rec N re next i c st):=by
 unfold nodeR at hr ⊢
 have no:∀{b:Bool} {st':Sst},some (false,st)=some (b,st')→SC N st st' b (some (false,st)):=by
  intro b st' hh; cases hh; exact .no rfl
 by_cases o1:re.op=1
 ·rw[if_pos o1] at hr ⊢
  by_cases q:i < t.length∧inB re.set (tAt t i)=true
  ·rw[if_pos q] at hr ⊢; exact h _ _ _ _ hr
  ·rw[if_neg q] at hr ⊢; exact no hr
 rw[if_neg o1] at hr ⊢
 by_cases o2:re.op=2
 ·rw[if_pos o2] at hr ⊢; exact h _ _ _ _ hr
 rw[if_neg o2] at hr ⊢
 by_cases o3:re.op=3
 ·rw[if_pos o3] at hr ⊢
  exact sc_alt (g:=fun k=>.run (.mk 0 k 0 0 next) i c) h re.kids st st' b hr
 rw[if_neg o3] at hr ⊢
 by_cases o5:re.op=5
 ·rw[if_pos o5] at hr ⊢
  cases hk:re.kids with
  | nil=>rw[hk] at hr; cases hr
  | cons kid l=>rw[hk] at hr; exact h _ _ _ _ hr
 rw[if_neg o5] at hr ⊢
 by_cases o6:re.op=6
 ·rw[if_pos o6] at hr ⊢
  simp only at hr ⊢
  by_cases q1:(spanR c re.n).1 < 0
  ·rw[if_pos q1] at hr ⊢; exact no hr
  rw[if_neg q1] at hr ⊢
  by_cases q2:(spanR c re.n).2 < (spanR c re.n).1∨(t.length:Int) < (spanR c re.n).2
  ·rw[if_pos q2] at hr; cases hr
  rw[if_neg q2] at hr ⊢
  by_cases q3:t.length < i + (spanR c re.n).2 - (spanR c re.n).1
  ·rw[if_pos q3] at hr ⊢; exact no hr
  rw[if_neg q3] at hr ⊢
  by_cases q4:sameR t (spanR c re.n).1 i ((spanR c re.n).2 - (spanR c re.n).1).toNat=true
  ·rw[if_pos q4] at hr ⊢; exact h _ _ _ _ hr
  ·rw[if_neg q4] at hr ⊢; exact no hr
 rw[if_neg o6] at hr ⊢
 by_cases o7:re.op=7∨re.op=8
 ·rw[if_pos o7] at hr ⊢
  cases hk:re.kids with
  | nil=>rw[hk] at hr; cases hr
  | cons kid l =>
   rw[hk] at hr
   simp only at hr ⊢
   cases hl:lookR rec re.op kid i c st with
   | none=>rw[hl] at hr; cases hr
   | some y =>
    obtain⟨ro,s1⟩:=y
    rw[hl] at hr
    simp only at hr
    have hfb:SC N st s1 ro (some (ro,s1)):=by
     unfold lookR at hl
     by_cases p7:re.op=7
     ·rw[if_pos p7] at hl
      cases hf:firstR rec (.mk 0 kid 0 0 .nil) i c st with
      | none=>rw[hf] at hl; cases hl
      | some z =>
       obtain⟨o,s3⟩:=z
       rw[hf] at hl
       cases hl
       obtain⟨a1,a2⟩:=sc_first (N:=N) hf
       exact⟨a1,fun _=>rfl⟩
     ·rw[if_neg p7] at hl
      exact⟨(sc_behind (N:=N) (fun k st o s2 hf=>sc_first (N:=N) hf) _ _ _ _ hl).1,fun _=>rfl⟩
    refine sc_seq (k':=fun r st'=>if st'.empty=true then some (true,st') else if re.neg=true then (match r with | some _=>some (false,st') | none=>rec N (.run next i c) st') else match r with | some d=>rec N (.run next i d) st' | none=>some (false,st')) (o:=some (ro,s1)) ⟨hfb.1,fun _=>rfl⟩ ?_ ?_
    ·rfl
    ·try simp only
     by_cases he1:s1.empty=true
     ·rw[if_pos he1] at hr
      rw[if_pos (show s1.empty=true from he1)]
      cases hr; exact .no rfl
     rw[if_neg he1] at hr
     rw[if_neg (show ¬s1.empty=true from he1)]
     by_cases hn:re.neg=true
     ·rw[if_pos hn] at hr ⊢
      cases ro with
      | some d=>simp only at hr ⊢; cases hr; exact .no rfl
      | none=>exact h _ _ _ _ hr
     ·rw[if_neg hn] at hr ⊢
      cases ro with
      | some d=>exact h _ _ _ _ hr
      | none=>simp only at hr ⊢; cases hr; exact .no rfl
 rw[if_neg o7] at hr ⊢
 by_cases o9:re.op=9
 ·rw[if_pos o9] at hr ⊢
  cases hk:re.kids with
  | nil=>rw[hk] at hr; cases hr
  | cons kid l =>
   rw[hk] at hr
   simp only at hr ⊢
   cases hf:firstR rec (.mk 0 kid 0 0 .nil) i c st with
   | none=>rw[hf] at hr; cases hr
   | some y =>
    obtain⟨o,s1⟩:=y
    rw[hf] at hr
    simp only at hr
    refine sc_seq (k':=fun r st'=>if st'.empty=true then some (true,st') else match r with | some (e,d)=>rec N (.run next e d) st' | none=>some (false,st')) (o:=some (o,s1)) ⟨(sc_first (N:=N) hf).1,fun _=>rfl⟩ ?_ ?_
    ·rfl
    ·try simp only
     by_cases he1:s1.empty=true
     ·rw[if_pos he1] at hr
      rw[if_pos (show s1.empty=true from he1)]
      cases hr; exact .no rfl
     rw[if_neg he1] at hr
     rw[if_neg (show ¬s1.empty=true from he1)]
     cases o with
     | some p=>exact h _ _ _ _ hr
     | none=>simp only at hr ⊢; cases hr; exact .no rfl
 rw[if_neg o9] at hr ⊢
 by_cases o10:re.op=10
 ·rw[if_pos o10] at hr ⊢
  match hk:re.kids with
  | []=>rw[hk] at hr; cases hr
  | [_]=>rw[hk] at hr; cases hr
  | yes::no'::l=>rw[hk] at hr; exact h _ _ _ _ hr
 rw[if_neg o10] at hr ⊢
 by_cases o11:re.op=11
 ·rw[if_pos o11] at hr ⊢
  by_cases q:holdsR re.n t i=true
  ·rw[if_pos q] at hr ⊢; exact h _ _ _ _ hr
  ·rw[if_neg q] at hr ⊢; exact no hr
 rw[if_neg o11] at hr ⊢
 exact h _ _ _ _ hr
omit h in
theorem sc_stepped {st st':Sst} {b:Bool} {K K':Sst→Option (Bool × Sst)} (hr:(if st.steps < 0∨10000000000000 < st.steps then none else if (st.step F).empty=true then some (true,st.step F) else K (st.step F))=some (b,st')) (hk:K (st.step F)=some (b,st')→SC N (st.step F) st' b (K' (st.step F))) :
  SC N st st' b (if st.steps < 0∨10000000000000 < st.steps then none else if (st.step F).empty=true then some (true,st.step F) else K' (st.step F)):=by
 by_cases c0:st.steps < 0∨10000000000000 < st.steps
 ·rw[if_pos c0] at hr; cases hr
 rw[if_neg c0] at hr ⊢
 by_cases he:(st.step F).empty=true
 ·rw[if_pos he] at hr ⊢
  cases hr
  exact⟨Nat.le_refl _,fun _=>rfl⟩
 ·rw[if_neg he] at hr ⊢
  exact hk hr
theorem sc_rep {re:Re} {k:Int} {next:Goal} {i:Int} {c:CapsL} {st st':Sst} {b:Bool} (hr:repR F rec (-1) re k next i c st=some (b,st')):SC N st st' b (repR F rec N re k next i c st):=by
 unfold repR at hr ⊢
 by_cases m2:re.mode=2
 ·rw[if_pos m2] at hr ⊢
  cases hf:firstR rec (.mk 1 (re.setMode 0) 0 0 .nil) i c st with
  | none=>rw[hf] at hr; cases hr
  | some y =>
   obtain⟨o,s1⟩:=y
   rw[hf] at hr
   simp only at hr
   refine sc_seq (k':=fun r st'=>match r with | some (e,d)=>rec N (.run next e d) st' | none=>some (st'.empty,st')) (o:=some (o,s1)) ⟨(sc_first (N:=N) hf).1,fun _=>rfl⟩ ?_ ?_
   ·rfl
   ·cases o with
    | some p=>exact h _ _ _ _ hr
    | none=>simp only at hr ⊢; cases hr; exact .no rfl
 rw[if_neg m2] at hr ⊢
 simp only at hr ⊢
 refine sc_stepped (K:=fun s1=>match re.kids with
   | []=>none
   | kid::_=>if k < re.mn then rec (-1) (.run (.mk 0 kid 0 0 (.mk 2 re k i next)) i c) s1
    else if re.mode=1 then orR (rec (-1) (.run next i c) s1) (fun s=>if re.mx=-1∨k < re.mx then rec (-1) (.run (.mk 0 kid 0 0 (.mk 2 re k i next)) i c) s else some (false,s))
    else orR (if re.mx=-1∨k < re.mx then rec (-1) (.run (.mk 0 kid 0 0 (.mk 2 re k i next)) i c) s1 else some (false,s1)) (fun s=>rec (-1) (.run next i c) s))
  (K':=fun s1=>match re.kids with
   | []=>none
   | kid::_=>if k < re.mn then rec N (.run (.mk 0 kid 0 0 (.mk 2 re k i next)) i c) s1
    else if re.mode=1 then orR (rec N (.run next i c) s1) (fun s=>if re.mx=-1∨k < re.mx then rec N (.run (.mk 0 kid 0 0 (.mk 2 re k i next)) i c) s else some (false,s))
    else orR (if re.mx=-1∨k < re.mx then rec N (.run (.mk 0 kid 0 0 (.mk 2 re k i next)) i c) s1 else some (false,s1)) (fun s=>rec N (.run next i c) s)) hr (fun hk=>?_)
 generalize st.step F=s1 at *
 cases hkd:re.kids with
 | nil=>rw[hkd] at hk; cases hk
 | cons kid l =>
  rw[hkd] at hk
  simp only at hk ⊢
  by_cases c2:k < re.mn
  ·rw[if_pos c2] at hk ⊢; exact h _ _ _ _ hk
  rw[if_neg c2] at hk ⊢
  by_cases m1:re.mode=1
  ·rw[if_pos m1] at hk ⊢
   cases hx:rec (-1) (.run next i c) s1 with
   | none=>rw[hx] at hk; cases hk
   | some y =>
    obtain⟨b1,s2⟩:=y
    rw[hx] at hk
    refine sc_or (h _ _ _ _ hx) hk fun hk2=>?_
    by_cases cM:re.mx=-1∨k < re.mx
    ·rw[if_pos cM] at hk2 ⊢; exact h _ _ _ _ hk2
    ·rw[if_neg cM] at hk2 ⊢; cases hk2; exact .no rfl
  ·rw[if_neg m1] at hk ⊢
   by_cases cM:re.mx=-1∨k < re.mx
   ·rw[if_pos cM] at hk ⊢
    cases hx:rec (-1) (.run (.mk 0 kid 0 0 (.mk 2 re k i next)) i c) s1 with
    | none=>rw[hx] at hk; cases hk
    | some y =>
     obtain⟨b1,s2⟩:=y
     rw[hx] at hk
     exact sc_or (h _ _ _ _ hx) hk fun hk2=>h _ _ _ _ hk2
   ·rw[if_neg cM] at hk ⊢
    exact sc_or (SC.no rfl) hk fun hk2=>h _ _ _ _ hk2
end big
theorem big_all {t:List Int} {F N:Int}:∀(n:Nat) (task:Task) (st:Sst) (b:Bool) (st':Sst),evR t F n (-1) task st=some (b,st')→SC N st st' b (evR t F n N task st)
 | 0,_,_,_,_,hr=>by cases hr
 | n + 1,task,st,b,st',hr=>by
  have ih:=big_all (t:=t) (F:=F) (N:=N) n
  have hr:evStep t F (evR t F n) (-1) task st=some (b,st'):=hr
  show SC N st st' b (evStep t F (evR t F n) N task st)
  cases task with
  | run g i c =>
   simp only[evStep] at hr ⊢
   by_cases c0:i < 0∨(t.length:Int) < i
   ·rw[if_pos c0] at hr; cases hr
   rw[if_neg c0] at hr ⊢
   cases g with
   | nil =>
    simp only at hr ⊢
    split at hr
    ·rename_i hc
     cases hr
     refine⟨by simp,fun hE=>?_⟩
     rw[if_pos hc]
     simp only[List.length_append,List.length_cons,List.length_nil] at hE
     rw[decide_eq_false (p:=N≤(st.ends.length:Int) + 1) (by omega)]
     simp
    ·cases hr
   | mk kind re k frm next =>
    simp only at hr ⊢
    by_cases k1:kind=1
    ·rw[if_pos k1] at hr ⊢; exact ih _ _ _ _ hr
    rw[if_neg k1] at hr ⊢
    by_cases k2:kind=2
    ·rw[if_pos k2] at hr ⊢
     by_cases q:re.mn≤k∧i=frm
     ·rw[if_pos q] at hr ⊢; cases hr; exact .no rfl
     ·rw[if_neg q] at hr ⊢
      by_cases q2:k < 0∨10000000000000 < k
      ·rw[if_pos q2] at hr; cases hr
      ·rw[if_neg q2] at hr ⊢; exact ih _ _ _ _ hr
    rw[if_neg k2] at hr ⊢
    by_cases k3:kind=3
    ·rw[if_pos k3] at hr ⊢
     by_cases q:1000000000 < c.length
     ·rw[if_pos q] at hr; cases hr
     ·rw[if_neg q] at hr ⊢; exact ih _ _ _ _ hr
    rw[if_neg k3] at hr ⊢
    by_cases k4:kind=4
    ·rw[if_pos k4] at hr ⊢
     by_cases q:i=frm
     ·rw[if_pos q] at hr ⊢; exact ih _ _ _ _ hr
     ·rw[if_neg q] at hr ⊢; cases hr; exact .no rfl
    rw[if_neg k4] at hr ⊢
    exact ih _ _ _ _ hr
  | rep g i c =>
   simp only[evStep] at hr ⊢
   by_cases c0:i < 0∨(t.length:Int) < i
   ·rw[if_pos c0] at hr; cases hr
   rw[if_neg c0] at hr ⊢
   cases g with
   | nil=>cases hr
   | mk kind re k frm next=>exact sc_rep ih hr
  | node g i c =>
   simp only[evStep] at hr ⊢
   by_cases c0:i < 0∨(t.length:Int) < i
   ·rw[if_pos c0] at hr; cases hr
   rw[if_neg c0] at hr ⊢
   cases g with
   | nil=>cases hr
   | mk kind re k frm next =>
    simp only at hr ⊢
    by_cases o4:re.op=4
    ·rw[if_pos o4] at hr ⊢; exact ih _ _ _ _ hr
    rw[if_neg o4] at hr ⊢
    by_cases q1:1000000000 < re.set.length∨1000000000 < re.kids.length∨1000000000 < c.length
    ·rw[if_pos q1] at hr; cases hr
    rw[if_neg q1] at hr ⊢
    exact sc_stepped (K:=fun s=>nodeR t (evR t F n) (-1) re next i c s) (K':=fun s=>nodeR t (evR t F n) N re next i c s) hr fun hk=>sc_node ih hk
end Go.Proofs.Ytllagoeijcjpiaa
