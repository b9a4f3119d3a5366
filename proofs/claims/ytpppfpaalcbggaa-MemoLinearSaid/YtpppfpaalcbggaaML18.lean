/- A part of the proof (G2 G3). -/
import Derived.Test.YtpppfpaalcbggaaML5
import Derived.Test.YtpppfpaalcbggaaML15
set_option linter.unusedSimpArgs false
set_option linter.unusedVariables false
set_option maxRecDepth 100000
set_option maxHeartbeats 80000000
namespace Go.Proofs.Ytpppfpaalcbggaa
open Go.VL Go.Proofs.Try
section mono
variable {rec rec':Int→Task→Sst→Option (Bool × Sst)} (h:∀m task st r,rec m task st=some r→rec' m task st=some r)
include h
theorem firstR_mono {g:Goal} {i:Int} {c:CapsL} {st:Sst} {r:Option (Int × CapsL) × Sst} (hr:firstR rec g i c st=some r):firstR rec' g i c st=some r:=by
 unfold firstR at hr ⊢
 cases hx:rec 1 (.run g i c) ⟨st.steps,false,[],[]⟩ with
 | none=>rw[hx] at hr; cases hr
 | some x=>rw[hx] at hr; rw[h _ _ _ _ hx]; exact hr
omit h in
theorem orR_mono {a a':Option (Bool × Sst)} {k k':Sst→Option (Bool × Sst)} (h1:∀r,a=some r→a'=some r) (h2:∀s r,k s=some r→k' s=some r) {r:Bool × Sst} (hr:orR a k=some r):orR a' k'=some r:=by
 cases a with
 | none=>cases hr
 | some x =>
  rw[h1 x rfl]
  obtain⟨b,s⟩:=x
  cases b with
  | true=>exact hr
  | false=>exact h2 s r hr
omit h in
theorem behindR_mono {f f':Int→Sst→Option (Option (Int × CapsL) × Sst)} (hf:∀k st r,f k st=some r→f' k st=some r):∀(n:Nat) (st:Sst) (r:Option CapsL × Sst),behindR f n st=some r→behindR f' n st=some r
 | 0,_,_,hr=>hr
 | n + 1,st,r,hr=>by
  simp only[behindR] at hr ⊢
  by_cases he:st.empty=true
  ·rw[if_pos he] at hr ⊢; exact hr
  ·rw[if_neg he] at hr ⊢
   cases hx:f n st with
   | none=>rw[hx] at hr; cases hr
   | some x =>
    rw[hx] at hr
    rw[hf _ _ _ hx]
    obtain⟨o,s⟩:=x
    cases o with
    | none=>exact behindR_mono hf n s r hr
    | some p=>exact hr
theorem lookR_mono {op:Int} {kid:Re} {i:Int} {c:CapsL} {st:Sst} {r:Option CapsL × Sst} (hr:lookR rec op kid i c st=some r):lookR rec' op kid i c st=some r:=by
 unfold lookR at hr ⊢
 by_cases o:op=7
 ·rw[if_pos o] at hr ⊢
  cases hx:firstR rec (.mk 0 kid 0 0 .nil) i c st with
  | none=>rw[hx] at hr; cases hr
  | some x=>rw[hx] at hr; rw[firstR_mono h hx]; exact hr
 ·rw[if_neg o] at hr ⊢
  exact behindR_mono (fun k st r hr=>firstR_mono h hr) _ _ _ hr
omit h in
theorem altR_mono {f f':Re→Sst→Option (Bool × Sst)} (hf:∀k st r,f k st=some r→f' k st=some r):∀(l:List Re) (st:Sst) (r:Bool × Sst),altR f l st=some r→altR f' l st=some r
 | [],_,_,hr=>hr
 | k::l,st,r,hr=>by
  simp only[altR] at hr ⊢
  exact orR_mono (hf k st) (altR_mono hf l) hr
theorem nodeR_mono {t:List Int} {most:Int} {re:Re} {next:Goal} {i:Int} {c:CapsL} {st:Sst} {r:Bool × Sst} (hr:nodeR t rec most re next i c st=some r):nodeR t rec' most re next i c st=some r:=by
 unfold nodeR at hr ⊢
 by_cases o1:re.op=1
 ·rw[if_pos o1] at hr ⊢
  by_cases hc:i < t.length∧inB re.set (tAt t i)=true
  ·rw[if_pos hc] at hr ⊢; exact h _ _ _ _ hr
  ·rw[if_neg hc] at hr ⊢; exact hr
 rw[if_neg o1] at hr ⊢
 by_cases o2:re.op=2
 ·rw[if_pos o2] at hr ⊢; exact h _ _ _ _ hr
 rw[if_neg o2] at hr ⊢
 by_cases o3:re.op=3
 ·rw[if_pos o3] at hr ⊢; exact altR_mono (fun k st r hr=>h _ _ _ _ hr) _ _ _ hr
 rw[if_neg o3] at hr ⊢
 by_cases o5:re.op=5
 ·rw[if_pos o5] at hr ⊢
  cases hk:re.kids with
  | nil=>rw[hk] at hr; cases hr
  | cons k l=>rw[hk] at hr; exact h _ _ _ _ hr
 rw[if_neg o5] at hr ⊢
 by_cases o6:re.op=6
 ·rw[if_pos o6] at hr ⊢
  simp only at hr ⊢
  by_cases c1:(spanR c re.n).1 < 0
  ·rw[if_pos c1] at hr ⊢; exact hr
  rw[if_neg c1] at hr ⊢
  by_cases c2:(spanR c re.n).2 < (spanR c re.n).1∨(t.length:Int) < (spanR c re.n).2
  ·rw[if_pos c2] at hr; cases hr
  rw[if_neg c2] at hr ⊢
  by_cases c3:t.length < i + (spanR c re.n).2 - (spanR c re.n).1
  ·rw[if_pos c3] at hr ⊢; exact hr
  rw[if_neg c3] at hr ⊢
  by_cases c4:sameR t (spanR c re.n).1 i ((spanR c re.n).2 - (spanR c re.n).1).toNat=true
  ·rw[if_pos c4] at hr ⊢; exact h _ _ _ _ hr
  ·rw[if_neg c4] at hr ⊢; exact hr
 rw[if_neg o6] at hr ⊢
 by_cases o7:re.op=7∨re.op=8
 ·rw[if_pos o7] at hr ⊢
  cases hk:re.kids with
  | nil=>rw[hk] at hr; cases hr
  | cons k l =>
   rw[hk] at hr
   simp only at hr ⊢
   cases hx:lookR rec re.op k i c st with
   | none=>rw[hx] at hr; cases hr
   | some x =>
    rw[hx] at hr
    rw[lookR_mono h hx]
    obtain⟨o,s⟩:=x
    simp only at hr ⊢
    by_cases he:s.empty=true
    ·rw[if_pos he] at hr ⊢; exact hr
    rw[if_neg he] at hr ⊢
    by_cases hn:re.neg=true
    ·rw[if_pos hn] at hr ⊢
     cases o with
     | none=>exact h _ _ _ _ hr
     | some d=>exact hr
    ·rw[if_neg hn] at hr ⊢
     cases o with
     | none=>exact hr
     | some d=>exact h _ _ _ _ hr
 rw[if_neg o7] at hr ⊢
 by_cases o9:re.op=9
 ·rw[if_pos o9] at hr ⊢
  cases hk:re.kids with
  | nil=>rw[hk] at hr; cases hr
  | cons k l =>
   rw[hk] at hr
   simp only at hr ⊢
   cases hx:firstR rec (.mk 0 k 0 0 .nil) i c st with
   | none=>rw[hx] at hr; cases hr
   | some x =>
    rw[hx] at hr
    rw[firstR_mono h hx]
    obtain⟨o,s⟩:=x
    simp only at hr ⊢
    by_cases he:s.empty=true
    ·rw[if_pos he] at hr ⊢; exact hr
    rw[if_neg he] at hr ⊢
    cases o with
    | none=>exact hr
    | some d=>exact h _ _ _ _ hr
 rw[if_neg o9] at hr ⊢
 by_cases o10:re.op=10
 ·rw[if_pos o10] at hr ⊢
  match hk:re.kids with
  | []=>rw[hk] at hr; cases hr
  | [_]=>rw[hk] at hr; cases hr
  | a::b::l=>rw[hk] at hr; exact h _ _ _ _ hr
 rw[if_neg o10] at hr ⊢
 by_cases o11:re.op=11
 ·rw[if_pos o11] at hr ⊢
  by_cases hc:holdsR re.n t i=true
  ·rw[if_pos hc] at hr ⊢; exact h _ _ _ _ hr
  ·rw[if_neg hc] at hr ⊢; exact hr
 rw[if_neg o11] at hr ⊢
 exact h _ _ _ _ hr
theorem repR_mono {fuel most:Int} {re:Re} {k:Int} {next:Goal} {i:Int} {c:CapsL} {st:Sst} {r:Bool × Sst} (hr:repR fuel rec most re k next i c st=some r):repR fuel rec' most re k next i c st=some r:=by
 unfold repR at hr ⊢
 by_cases m:re.mode=2
 ·rw[if_pos m] at hr ⊢
  cases hx:firstR rec (.mk 1 (re.setMode 0) 0 0 .nil) i c st with
  | none=>rw[hx] at hr; cases hr
  | some x =>
   rw[hx] at hr
   rw[firstR_mono h hx]
   obtain⟨o,s⟩:=x
   cases o with
   | none=>exact hr
   | some d=>exact h _ _ _ _ hr
 rw[if_neg m] at hr ⊢
 by_cases c1:st.steps < 0∨10000000000000 < st.steps
 ·rw[if_pos c1] at hr; cases hr
 rw[if_neg c1] at hr ⊢
 simp only at hr ⊢
 by_cases he:(st.step fuel).empty=true
 ·rw[if_pos he] at hr ⊢; exact hr
 rw[if_neg he] at hr ⊢
 cases hk:re.kids with
 | nil=>rw[hk] at hr; cases hr
 | cons kid l =>
  rw[hk] at hr
  simp only at hr ⊢
  by_cases c2:k < re.mn
  ·rw[if_pos c2] at hr ⊢; exact h _ _ _ _ hr
  rw[if_neg c2] at hr ⊢
  by_cases c3:re.mx=-1∨k < re.mx
  ·simp only[if_pos c3] at hr ⊢
   by_cases c4:re.mode=1
   ·rw[if_pos c4] at hr ⊢
    exact orR_mono (fun r hr=>h _ _ _ _ hr) (fun s r hr=>h _ _ _ _ hr) hr
   ·rw[if_neg c4] at hr ⊢
    exact orR_mono (fun r hr=>h _ _ _ _ hr) (fun s r hr=>h _ _ _ _ hr) hr
  ·simp only[if_neg c3] at hr ⊢
   by_cases c4:re.mode=1
   ·rw[if_pos c4] at hr ⊢
    exact orR_mono (fun r hr=>h _ _ _ _ hr) (fun s r hr=>hr) hr
   ·rw[if_neg c4] at hr ⊢
    exact orR_mono (fun r hr=>hr) (fun s r hr=>h _ _ _ _ hr) hr
theorem evStep_mono {t:List Int} {fuel most:Int} {task:Task} {st:Sst} {r:Bool × Sst} (hr:evStep t fuel rec most task st=some r):evStep t fuel rec' most task st=some r:=by
 cases task with
 | run g i c =>
  simp only[evStep] at hr ⊢
  by_cases hi:i < 0∨(t.length:Int) < i
  ·rw[if_pos hi] at hr; cases hr
  rw[if_neg hi] at hr ⊢
  cases g with
  | nil=>exact hr
  | mk kind re k frm next =>
   simp only at hr ⊢
   by_cases k1:kind=1
   ·rw[if_pos k1] at hr ⊢; exact h _ _ _ _ hr
   rw[if_neg k1] at hr ⊢
   by_cases k2:kind=2
   ·rw[if_pos k2] at hr ⊢
    by_cases c1:re.mn≤k∧i=frm
    ·rw[if_pos c1] at hr ⊢; exact hr
    rw[if_neg c1] at hr ⊢
    by_cases c2:k < 0∨10000000000000 < k
    ·rw[if_pos c2] at hr; cases hr
    rw[if_neg c2] at hr ⊢; exact h _ _ _ _ hr
   rw[if_neg k2] at hr ⊢
   by_cases k3:kind=3
   ·rw[if_pos k3] at hr ⊢
    by_cases c1:1000000000 < c.length
    ·rw[if_pos c1] at hr; cases hr
    rw[if_neg c1] at hr ⊢; exact h _ _ _ _ hr
   rw[if_neg k3] at hr ⊢
   by_cases k4:kind=4
   ·rw[if_pos k4] at hr ⊢
    by_cases c1:i=frm
    ·rw[if_pos c1] at hr ⊢; exact h _ _ _ _ hr
    ·rw[if_neg c1] at hr ⊢; exact hr
   rw[if_neg k4] at hr ⊢; exact h _ _ _ _ hr
 | rep g i c =>
  simp only[evStep] at hr ⊢
  by_cases hi:i < 0∨(t.length:Int) < i
  ·rw[if_pos hi] at hr; cases hr
  rw[if_neg hi] at hr ⊢
  cases g with
  | nil=>cases hr
  | mk kind re k frm next=>exact repR_mono h hr
 | node g i c =>
  simp only[evStep] at hr ⊢
  by_cases hi:i < 0∨(t.length:Int) < i
  ·rw[if_pos hi] at hr; cases hr
  rw[if_neg hi] at hr ⊢
  cases g with
  | nil=>cases hr
  | mk kind re k frm next =>
   simp only at hr ⊢
   by_cases o4:re.op=4
   ·rw[if_pos o4] at hr ⊢; exact h _ _ _ _ hr
   rw[if_neg o4] at hr ⊢
   by_cases c0:1000000000 < re.set.length∨1000000000 < re.kids.length∨1000000000 < c.length
   ·rw[if_pos c0] at hr; cases hr
   rw[if_neg c0] at hr ⊢
   by_cases c1:st.steps < 0∨10000000000000 < st.steps
   ·rw[if_pos c1] at hr; cases hr
   rw[if_neg c1] at hr ⊢
   by_cases he:(st.step fuel).empty=true
   ·rw[if_pos he] at hr ⊢; exact hr
   rw[if_neg he] at hr ⊢
   exact nodeR_mono h hr
end mono
theorem evR_succ {t:List Int} {fuel:Int}:∀(n:Nat) (m:Int) (task:Task) (st:Sst) (r:Bool × Sst),evR t fuel n m task st=some r→evR t fuel (n + 1) m task st=some r
 | 0,_,_,_,_,hr=>by cases hr
 | n + 1,m,task,st,r,hr=>evStep_mono (rec:=evR t fuel n) (fun m task st r hr=>evR_succ n m task st r hr) hr
theorem evR_mono {t:List Int} {fuel:Int} {n n':Nat} (hn:n≤n') {m:Int} {task:Task} {st:Sst} {r:Bool × Sst} (hr:evR t fuel n m task st=some r):evR t fuel n' m task st=some r:=by
 induction hn with
 | refl=>exact hr
 | step _ ih=>exact evR_succ _ _ _ _ _ ih
theorem evR_det {t:List Int} {fuel:Int} {n n':Nat} {m:Int} {task:Task} {st:Sst} {r r':Bool × Sst} (h1:evR t fuel n m task st=some r) (h2:evR t fuel n' m task st=some r'):r=r':=by
 have e1:=evR_mono (Nat.le_max_left n n') h1
 have e2:=evR_mono (Nat.le_max_right n n') h2
 rw[e1] at e2
 exact Option.some.inj e2
def shapeB (re:Re):Bool:=decide ((re.op=4∨re.op=5∨re.op=7∨re.op=8∨re.op=9→re.kids≠[])∧(re.op=10→2≤re.kids.length)∧re.set.length≤1000000000∧re.kids.length≤1000000000)
def SpanOk (t:List Int) (p:Int × Int):Prop:=p=(-1,-1)∨(0≤p.1∧p.1≤p.2∧p.2≤t.length)
def CapsOk (t:List Int) (c:CapsL):Prop:=c.length≤1000000000∧∀p∈c,SpanOk t p
def GoalOk (t:List Int) (i s:Int):Goal→Prop
 | .nil=>True
 | .mk kind re k frm next=>(0≤kind∧kind≤4)∧re.every shapeB=true∧(kind=1∨kind=2→re.op=4)∧(kind=1→0≤k∧k≤s)∧(kind=2→0≤k∧k < s)∧(kind=3→0≤frm∧frm≤i)∧GoalOk t i s next
theorem GoalOk.mono {t:List Int} {i i' s s':Int} (hi:i≤i') (hs:s≤s'):∀{g:Goal},GoalOk t i s g→GoalOk t i' s' g
 | .nil,_=>trivial
 | .mk _ _ _ _ _,h=>by
  obtain⟨h0,h1,h2,h3,h4,h5,h6⟩:=h
  exact⟨h0,h1,h2,fun k=>by have:=h3 k; omega,fun k=>by have:=h4 k; omega,fun k=>by have:=h5 k; omega,h6.mono hi hs⟩
def rankG:Goal→Nat
 | .nil=>0
 | .mk kind re _ _ next=>if kind=1 then (if re.mode=2 then 4 else 2) else if kind=2 then 5 else if kind=3∨kind=4 then 7 + rankG next else 6
def slackG:Goal→Int
 | .nil=>1
 | .mk kind _ _ _ next=>if kind=3∨kind=4 then slackG next else 0
theorem slackG_range:∀g:Goal,0≤slackG g∧slackG g≤1
 | .nil=>by simp [slackG]
 | .mk kind _ _ _ next=>by
  have:=slackG_range next
  unfold slackG
  split
  ·exact this
  ·omega
def Task.rank:Task→Nat
 | .run g _ _=>rankG g
 | .rep (.mk _ re _ _ _) _ _=>if re.mode=2 then 3 else 1
 | .rep .nil _ _=>0
 | .node _ _ _=>5
def Task.slack:Task→Int
 | .run g _ _=>slackG g
 | _=>0
def Task.pos:Task→Int
 | .run _ i _=>i
 | .rep _ i _=>i
 | .node _ i _=>i
def Task.caps:Task→CapsL
 | .run _ _ c=>c
 | .rep _ _ c=>c
 | .node _ _ c=>c
def Task.steppy:Task→Prop
 | .run (.mk kind re _ _ _) _ _=>kind=1∧re.mode≠2
 | .run .nil _ _=>False
 | .rep (.mk _ re _ _ _) _ _=>re.mode≠2
 | .rep .nil _ _=>False
 | .node (.mk _ re _ _ _) _ _=>re.op≠4
 | .node .nil _ _=>False
def Task.ok (t:List Int) (s:Int):Task→Prop
 | .run g i _=>GoalOk t i s g
 | .rep .nil _ _=>False
 | .rep (.mk _ re k _ next) i _=>re.every shapeB=true∧re.op=4∧0≤k∧k≤s∧GoalOk t i s next
 | .node .nil _ _=>False
 | .node (.mk _ re _ _ next) i _=>re.every shapeB=true∧GoalOk t i s next
structure Pre (t:List Int) (F:Int) (task:Task) (st:Sst):Prop where
 ok:task.ok t st.steps
 i0:0≤task.pos
 i1:task.pos≤t.length
 caps:CapsOk t task.caps
 empty:st.empty=false
 s0:0≤st.steps
 s1:st.steps≤F
 ends:(st.ends.length:Int) + task.slack≤st.steps
 same:st.caps.length=st.ends.length
structure PostG (t:List Int) (F:Int) (sl i:Int) (nc:Nat) (st:Sst) (b:Bool) (st':Sst):Prop where
 s0:st.steps≤st'.steps
 s1:st'.steps≤F + 1
 empty:st'.empty=decide (F < st'.steps)
 full:st'.empty=true→b=true
 more:∃new newc,st'.ends=st.ends++new∧st'.caps=st.caps++newc∧newc.length=new.length∧(new.length:Int)≤st'.steps - st.steps + sl∧(∀e∈new,i≤e∧e≤t.length)∧∀d∈newc,CapsOk t d∧d.length=nc
theorem PostG.weak {t:List Int} {F sl sl' i i':Int} {nc:Nat} {st st':Sst} {b:Bool} (h:PostG t F sl i nc st b st') (hs:sl≤sl') (hi:i'≤i):PostG t F sl' i' nc st b st':=by
 obtain⟨new,newc,h1,h2,h3,h4,h5,h6⟩:=h.more
 exact⟨h.s0,h.s1,h.empty,h.full,new,newc,h1,h2,h3,by omega,fun e he=>⟨by have:=h5 e he; omega,(h5 e he).2⟩,h6⟩
theorem PostG.trans {t:List Int} {F sl1 sl2 i:Int} {nc:Nat} {st s2 st':Sst} {b1 b:Bool} (h:PostG t F sl1 i nc st b1 s2) (k:PostG t F sl2 i nc s2 b st'):PostG t F (sl1 + sl2) i nc st b st':=by
 obtain⟨new,newc,h1,h2,h3,h4,h5,h6⟩:=h.more
 obtain⟨new',newc',k1,k2,k3,k4,k5,k6⟩:=k.more
 refine⟨by have:=h.s0; have:=k.s0; omega,k.s1,k.empty,k.full,new++new',newc++newc',by rw[k1,h1,List.append_assoc],by rw[k2,h2,List.append_assoc],by simp [h3,k3],by simp only[List.length_append,Int.natCast_add]; omega,fun e he=>?_,fun d hd=>?_⟩
 ·rcases List.mem_append.1 he with he | he
  ·exact h5 e he
  ·exact k5 e he
 ·rcases List.mem_append.1 hd with hd | hd
  ·exact h6 d hd
  ·exact k6 d hd
theorem PostG.step {t:List Int} {F sl i:Int} {nc:Nat} {st st':Sst} {b:Bool} (h:PostG t F sl i nc (st.step F) b st'):PostG t F (sl - 1) i nc st b st':=by
 obtain⟨new,newc,h1,h2,h3,h4,h5,h6⟩:=h.more
 have hs:(st.step F).steps=st.steps + 1:=rfl
 rw[hs] at h4
 exact⟨by have:=h.s0; rw[hs] at this; omega,h.s1,h.empty,h.full,new,newc,h1,h2,h3,by omega,h5,h6⟩
theorem PostG.no {t:List Int} {F sl i:Int} {nc:Nat} {st:Sst} (h1:st.steps≤F) (h2:st.empty=false) (hs:0≤sl):PostG t F sl i nc st false st :=
 ⟨Int.le_refl _,by omega,by rw[h2,decide_eq_false (by omega)],fun h=>(by rw[h2] at h; cases h),[],[],by simp,by simp,rfl,(by simp; omega),by simp,by simp⟩
theorem PostG.out {t:List Int} {F i:Int} {nc:Nat} {st:Sst} (h1:st.steps≤F) (h2:(st.step F).empty=true) (he:st.empty=false):PostG t F 0 i nc st true (st.step F):=by
 have hs:(st.step F).steps=st.steps + 1:=rfl
 have hd:F < st.steps + 1:=by
  simp only[Sst.step,he,Bool.false_or,decide_eq_true_eq] at h2
  exact h2
 exact⟨by rw[hs]; omega,by rw[hs]; omega,by rw[h2,hs,decide_eq_true hd],fun _=>rfl,[],[],by simp [Sst.step],by simp [Sst.step],rfl,(by rw[hs]; simp; try omega),by simp,by simp⟩
def Ends (t:List Int) (F most:Int) (task:Task) (st:Sst):Prop :=
 ∃n b st',evR t F n most task st=some (b,st')∧PostG t F task.slack task.pos task.caps.length st b st'∧(task.steppy→st.steps < st'.steps)
structure Here (t:List Int) (F:Int) (i:Int) (c:CapsL) (sl:Int) (st:Sst):Prop where
 i0:0≤i
 i1:i≤t.length
 caps:CapsOk t c
 empty:st.empty=false
 s0:0≤st.steps
 s1:st.steps≤F
 ends:(st.ends.length:Int) + sl≤st.steps
 same:st.caps.length=st.ends.length
theorem first_ends {t:List Int} {F:Int} {g:Goal} {i:Int} {c:CapsL} {sl:Int} {st:Sst} (H:Here t F i c sl st) (h:Ends t F 1 (.run g i c) ⟨st.steps,false,[],[]⟩) (hsl:slackG g=0) :
  ∃n r s',firstR (evR t F n) g i c st=some (r,s')∧st.steps≤s'.steps∧s'.steps≤F + 1∧s'.empty=decide (F < s'.steps)∧s'.ends=st.ends∧s'.caps=st.caps∧(s'.empty=true→r=none) ∧
   (∀e d,r=some (e,d)→i≤e∧e≤t.length∧CapsOk t d∧d.length=c.length)∧((Task.run g i c).steppy→st.steps < s'.steps):=by
 obtain⟨n,b,x,h1,h2,h3⟩:=h
 obtain⟨new,newc,k1,k2,k3,k4,k5,k6⟩:=h2.more
 simp only[List.nil_append] at k1 k2
 have hs0:=h2.s0
 have hs1:=h2.s1
 have hs2:=h2.empty
 simp only at hs0
 unfold firstR
 cases he:x.empty with
 | true =>
  refine⟨n,none,{ st with steps:=x.steps,empty:=x.empty },?_,hs0,hs1,hs2,rfl,rfl,fun _=>rfl,fun e d h=>(by cases h),h3⟩
  rw[h1]
  simp only[he,if_true]
 | false =>
  cases hn:new with
  | nil =>
   refine⟨n,none,{ st with steps:=x.steps,empty:=x.empty },?_,hs0,hs1,hs2,rfl,rfl,fun _=>rfl,fun e d h=>(by cases h),h3⟩
   rw[hn] at k1
   rw[h1]
   simp only[he,Bool.false_eq_true,if_false,k1]
  | cons e es =>
   rw[hn] at k1 k3 k5
   cases hc:newc with
   | nil=>rw[hc] at k3; cases k3
   | cons d ds =>
    rw[hc] at k2 k6
    refine⟨n,some (e,d),{ st with steps:=x.steps,empty:=x.empty },?_,hs0,hs1,hs2,rfl,rfl,fun h=>?_,fun e' d' h=>?_,h3⟩
    ·rw[h1]
     simp only[he,Bool.false_eq_true,if_false,k1,k2]
    ·simp only[he] at h; cases h
    ·cases h
     have q1:=k5 e (by simp)
     have q2:=k6 d (by simp)
     exact⟨q1.1,q1.2,q2.1,q2.2⟩
end Go.Proofs.Ytpppfpaalcbggaa
