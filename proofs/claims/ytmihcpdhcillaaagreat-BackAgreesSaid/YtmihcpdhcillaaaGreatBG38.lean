/- A part of the proof (G54 G55). -/
import Derived.Test.YtmihcpdhcillaaaGreatBG19
set_option linter.unusedSimpArgs false
set_option linter.unusedVariables false
set_option maxRecDepth 100000
set_option maxHeartbeats 80000000
namespace Go.Proofs.YtmihcpdhcillaaaGreat
open Go.VL Go.Proofs.Tryz
def FA (F F':Int) (st st':aQ) (b:Bool) (o:Option (Bool×aQ)):Prop :=
 st.steps≤st'.steps∧(st'.empty=true→b=true∧F<st'.steps)∧(st.steps≤F'→(st'.steps≤F'→o=some (b,st'))∧(F'<st'.steps→∃s2,o=some (true,s2)∧s2.empty=true))
def FB {α:Type} (F F':Int) (st st':aQ) (r:Option α) (o:Option (Option α×aQ)):Prop :=
 st.steps≤st'.steps∧(st'.empty=true→r=none∧F<st'.steps)∧(st.steps≤F'→(st'.steps≤F'→o=some (r,st'))∧(F'<st'.steps→∃s2,o=some (none,s2)∧s2.empty=true))
section fuel
variable {t:List Int}{F F':Int}{rec rec':Int→Task→aQ→Option (Bool×aQ)}
theorem FA.no {st:aQ}{o:Option (Bool×aQ)} (he:st.empty=false) (ho:o=some (false,st)):FA F F' st st false o :=
 ⟨WW _,fun h=>(by rw[he]at h;cases h),fun hs=>⟨fun _=>ho,fun h=>by omega⟩⟩
theorem F6 {st s1 st':aQ}{b1 b:Bool}{a':Option (Bool×aQ)}{k k':aQ→Option (Bool×aQ)} (h1:FA F F' st s1 b1 a') (hr:jP (some (b1,s1)) k=some (b,st')) (hk:s1.empty=false→k s1=some (b,st')→FA F F' s1 st' b (k' s1)):FA F F' st st' b (jP a' k'):=by
 cases b1 with
 |true =>
  simp only[jP,WX,Xs]at hr
  obtain⟨rfl,rfl⟩:=hr
  obtain⟨a1,a2,a3⟩:=h1
  refine⟨a1,a2,fun h0=>⟨fun hs=>by rw[(a3 h0).1 hs];rfl,fun hs=>?_⟩⟩
  obtain⟨s2,q1,q2⟩:=(a3 h0).2 hs
  exact⟨s2,by rw[q1];rfl,q2⟩
 |false =>
  simp only[jP]at hr
  have he:s1.empty=false:=by
   cases hx:s1.empty with
   |false=>rfl
   |true=>have:=(h1.2.1 hx).1;cases this
  obtain⟨a1,a2,a3⟩:=h1
  obtain⟨b1,b2,b3⟩:=hk he hr
  refine⟨by omega,b2,fun h0=>?_⟩
  by_cases gy:s1.steps≤F'
  ·rw[(a3 h0).1 gy]
   exact b3 gy
  ·obtain⟨s2,q1,q2⟩:=(a3 h0).2 (by omega)
   exact⟨fun hs=>by omega,fun _=>⟨s2,by rw[q1];rfl,q2⟩⟩
def Q3 {α:Type} (o:Option (Option α×aQ)) (k:Option α→aQ→Option (Bool×aQ)):Option (Bool×aQ) :=
 match o with
 |none=>none
 |some (r,s)=>k r s
theorem E5 {α:Type}{st s1 st':aQ}{b:Bool}{r:Option α}{o:Option (Option α×aQ)}{o2:Option (Bool×aQ)}{k':Option α→aQ→Option (Bool×aQ)} (h1:FB F F' st s1 r o) (ho:o2=Q3 o k')
  (hem:s1.empty=true→b=true∧st'=s1) (hex:∀s2,s2.empty=true→k' none s2=some (true,s2)) (hk:s1.empty=false→FA F F' s1 st' b (k' r s1)):FA F F' st st' b o2:=by
 obtain⟨a1,a2,a3⟩:=h1
 subst ho
 unfold Q3
 by_cases he:s1.empty=true
 ·obtain⟨rfl,rfl⟩:=hem he
  refine⟨a1,fun _=>⟨rfl,(a2 he).2⟩,fun h0=>⟨fun hs=>?_,fun hs=>?_⟩⟩
  ·rw[(a3 h0).1 hs]
   have:=(a2 he).1
   rw[this]
   exact hex _ he
  ·obtain⟨s2,q1,q2⟩:=(a3 h0).2 hs
   exact⟨s2,by rw[q1];exact hex _ q2,q2⟩
 ·obtain⟨b1,b2,b3⟩:=hk (by simpa using he)
  refine⟨by omega,b2,fun h0=>?_⟩
  by_cases gy:s1.steps≤F'
  ·rw[(a3 h0).1 gy]
   exact b3 gy
  ·obtain⟨s2,q1,q2⟩:=(a3 h0).2 (by omega)
   exact⟨fun hs=>by omega,fun _=>⟨s2,by rw[q1];exact hex _ q2,q2⟩⟩
theorem Ac {f f':Int→aQ→Option (Option (Int×ar)×aQ)} (hf:∀k st o s2,f k st=some (o,s2)→st.empty=false→FB F F' st s2 o (f' k st)):∀(j:Nat) (st s2:aQ) (r:Option ar),
  bQ f j st=some (r,s2)→st.empty=false→FB F F' st s2 r (bQ f' j st)
 |0,st,s2,r,hr,he=>by
  simp only[bQ]at hr
  cases hr
  exact⟨WW _,fun h=>(by rw[he]at h;cases h),fun _=>⟨fun _=>rfl,fun h=>by omega⟩⟩
 |j+1,st,s2,r,hr,he=>by
  simp only[bQ]at hr
  rw[if_neg (by rw[he];simp)]at hr
  have kT:∀(g:Int→aQ→Option (Option (Int×ar)×aQ)) (s3:aQ),s3.empty=true→bQ g j s3=some (none,s3):=by
   intro g s3 h3
   cases j with
   |zero=>simp only[bQ]
   |succ j=>simp only[bQ];rw[if_pos h3]
  cases hx:f j st with
  |none=>rw[hx]at hr;cases hr
  |some y =>
   obtain⟨o,s1⟩:=y
   rw[hx]at hr
   obtain⟨a1,a2,a3⟩:=hf _ _ _ _ hx he
   simp only[bQ]
   rw[if_neg (by rw[he];simp)]
   cases o with
   |some p =>
    obtain⟨e,d⟩:=p
    simp only at hr
    cases hr
    refine⟨a1,fun hh=>?_,fun h0=>⟨fun hle=>by rw[(a3 h0).1 hle],fun aS=>?_⟩⟩
    ·have:=(a2 hh).1;cases this
    ·obtain⟨s3,q1,q2⟩:=(a3 h0).2 aS
     exact⟨s3,by rw[q1];exact kT _ _ q2,q2⟩
   |none =>
    simp only at hr
    by_cases jK:s1.empty=true
    ·rw[kT _ _ jK]at hr
     cases hr
     refine⟨a1,fun _=>⟨rfl,(a2 jK).2⟩,fun h0=>⟨fun hle=>by rw[(a3 h0).1 hle];exact kT _ _ jK,fun aS=>?_⟩⟩
     obtain⟨s3,q1,q2⟩:=(a3 h0).2 aS
     exact⟨s3,by rw[q1];exact kT _ _ q2,q2⟩
    ·obtain⟨b1,b2,b3⟩:=Ac hf j s1 s2 r hr (by simpa using jK)
     refine⟨by omega,b2,fun h0=>?_⟩
     by_cases gy:s1.steps≤F'
     ·rw[(a3 h0).1 gy]
      exact b3 gy
     ·obtain⟨s3,q1,q2⟩:=(a3 h0).2 (by omega)
      exact⟨fun hs=>by omega,fun _=>⟨s3,by rw[q1];exact kT _ _ q2,q2⟩⟩
variable (h:∀ah task st b st',rec ah task st=some (b,st')→st.empty=false→FA F F' st st' b (rec' ah task st))
include h
theorem tt {g:Goal}{i:Int}{c:ar}{st s2:aQ}{o:Option (Int×ar)} (hr:bJ rec g i c st=some (o,s2)):FB F F' st s2 o (bJ rec' g i c st):=by
 unfold bJ at hr
 cases hx:rec 1 (.run g i c) ⟨st.steps,false,[],[]⟩ with
 |none=>rw[hx]at hr;cases hr
 |some y =>
  obtain⟨b,x⟩:=y
  rw[hx]at hr
  simp only at hr
  obtain⟨a1,a2,a3⟩:=h _ _ _ _ _ hx rfl
  have aW:s2.steps=x.steps∧s2.empty=x.empty:=by
   split at hr
   ·cases hr;exact⟨rfl,rfl⟩
   ·split at hr
    ·cases hr;exact⟨rfl,rfl⟩
    ·cases hr;exact⟨rfl,rfl⟩
    ·cases hr
  refine⟨by rw[aW.1];exact a1,fun he=>?_,fun h0=>⟨fun hle=>?_,fun aS=>?_⟩⟩
  ·rw[aW.2]at he
   rw[if_pos he]at hr
   cases hr
   exact⟨rfl,(a2 he).2⟩
  ·rw[aW.1]at hle
   unfold bJ
   rw[(a3 h0).1 hle]
   exact hr
  ·rw[aW.1]at aS
   obtain⟨s3,q1,q2⟩:=(a3 h0).2 aS
   refine⟨{ st with steps:=s3.steps,empty:=s3.empty },?_,q2⟩
   unfold bJ
   rw[q1]
   simp only
   rw[if_pos q2]
theorem Kv {g:Re→Task}{ah:Int}:∀(l:List Re) (st st':aQ) (b:Bool),iT (fun k st=>rec ah (g k) st) l st=some (b,st')→st.empty=false→FA F F' st st' b (iT (fun k st=>rec' ah (g k) st) l st)
 |[],st,st',b,hr,he=>by
  simp only[iT]at hr ⊢
  cases hr
  exact FA.no he rfl
 |k::l,st,st',b,hr,he=>by
  simp only[iT]at hr ⊢
  cases hx:rec ah (g k) st with
  |none=>rw[hx]at hr;cases hr
  |some y =>
   obtain⟨b1,s1⟩:=y
   rw[hx]at hr
   exact F6 (h _ _ _ _ _ hx he) hr fun jK hk=>Kv l s1 st' b hk jK
end fuel
section fuel
variable {t:List Int}{F F':Int} (NS:F'≤F)
include NS
theorem Gs {st st':aQ}{b:Bool}{K K':aQ→Option (Bool×aQ)} (QV:st.empty=false) (hr:(if (st.step F).empty=true then some (true,st.step F) else K (st.step F))=some (b,st')) (hk:(st.step F).empty=false→K (st.step F)=some (b,st')→FA F F' (st.step F) st' b (K' (st.step F))) :
  FA F F' st st' b (if (st.step F').empty=true then some (true,st.step F') else K' (st.step F')):=by
 have hs:∀f,(st.step f).steps=st.steps+1:=fun _=>rfl
 have hem:∀f,(st.step f).empty=decide (f<st.steps+1):=fun f=>by simp [aQ.step,QV]
 by_cases he:(st.step F).empty=true
 ·rw[if_pos he]at hr
  cases hr
  have aS:F<st.steps+1:=by rw[hem]at he;exact of_decide_eq_true he
  refine⟨by rw[hs];omega,fun _=>⟨rfl,by rw[hs];exact aS⟩,fun h0=>⟨fun h1=>by rw[hs]at h1;omega,fun _=>⟨st.step F',?_,?_⟩⟩⟩
  ·rw[if_pos]
   rw[hem,decide_eq_true (by omega)]
  ·rw[hem,decide_eq_true (by omega)]
 ·rw[if_neg he]at hr
  have he:(st.step F).empty=false:=by simpa using he
  have lW:¬F<st.steps+1:=by rw[hem]at he;exact of_decide_eq_false he
  obtain⟨b1,b2,b3⟩:=hk he hr
  rw[hs]at b1 b3
  refine⟨by omega,b2,fun h0=>?_⟩
  by_cases hle:st.steps+1≤F'
  ·have heq:st.step F'=st.step F:=by
    have h1:(st.step F').empty=(st.step F).empty:=by rw[he,hem,decide_eq_false (by omega)]
    have:st.step F'={ st.step F with empty:=(st.step F').empty }:=rfl
    rw[this,h1]
   rw[heq,if_neg (by rw[he];simp)]
   exact b3 hle
  ·refine⟨fun h1=>by omega,fun _=>⟨st.step F',?_,?_⟩⟩
   ·rw[if_pos]
    rw[hem,decide_eq_true (by omega)]
   ·rw[hem,decide_eq_true (by omega)]
variable {rec rec':Int→Task→aQ→Option (Bool×aQ)} (h:∀ah task st b st',rec ah task st=some (b,st')→st.empty=false→FA F F' st st' b (rec' ah task st))
include h
omit NS in
theorem LD {ah:Int}{re:Re}{next:Goal}{i:Int}{c:ar}{st st':aQ}{b:Bool} (hr:cQ t rec ah re next i c st=some (b,st')) (he:st.empty=false):FA F F' st st' b (cQ t rec' ah re next i c st):=by
 unfold cQ at hr ⊢
 have no:∀{b:Bool}{st':aQ},some (false,st)=some (b,st')→FA F F' st st' b (some (false,st)):=by
  intro b st' hh;cases hh;exact FA.no he rfl
 by_cases o1:re.op=1
 ·rw[if_pos o1]at hr ⊢
  by_cases q:i<t.length∧nn re.set (fX t i)=true
  ·rw[if_pos q]at hr ⊢;exact h _ _ _ _ _ hr he
  ·rw[if_neg q]at hr ⊢;exact no hr
 rw[if_neg o1]at hr ⊢
 by_cases o2:re.op=2
 ·rw[if_pos o2]at hr ⊢;exact h _ _ _ _ _ hr he
 rw[if_neg o2]at hr ⊢
 by_cases o3:re.op=3
 ·rw[if_pos o3]at hr ⊢
  exact Kv (g:=fun k=>.run (.mk 0 k 0 0 next) i c) h re.kids st st' b hr he
 rw[if_neg o3]at hr ⊢
 by_cases o5:re.op=5
 ·rw[if_pos o5]at hr ⊢
  cases hk:re.kids with
  |nil=>rw[hk]at hr;cases hr
  |cons kid l=>rw[hk]at hr;exact h _ _ _ _ _ hr he
 rw[if_neg o5]at hr ⊢
 by_cases o6:re.op=6
 ·rw[if_pos o6]at hr ⊢
  simp only at hr ⊢
  by_cases q1:(bm c re.n).1<0
  ·rw[if_pos q1]at hr ⊢;exact no hr
  rw[if_neg q1]at hr ⊢
  by_cases q2:(bm c re.n).2<(bm c re.n).1∨(t.length:Int)<(bm c re.n).2
  ·rw[if_pos q2]at hr;cases hr
  rw[if_neg q2]at hr ⊢
  by_cases q3:t.length<i+(bm c re.n).2-(bm c re.n).1
  ·rw[if_pos q3]at hr ⊢;exact no hr
  rw[if_neg q3]at hr ⊢
  by_cases q4:cW t (bm c re.n).1 i ((bm c re.n).2-(bm c re.n).1).toNat=true
  ·rw[if_pos q4]at hr ⊢;exact h _ _ _ _ _ hr he
  ·rw[if_neg q4]at hr ⊢;exact no hr
 rw[if_neg o6]at hr ⊢
 by_cases o7:re.op=7∨re.op=8
 ·rw[if_pos o7]at hr ⊢
  cases hk:re.kids with
  |nil=>rw[hk]at hr;cases hr
  |cons kid l =>
   rw[hk]at hr
   simp only at hr ⊢
   cases hl:fS rec re.op kid i c st with
   |none=>rw[hl]at hr;cases hr
   |some y =>
    obtain⟨ro,s1⟩:=y
    rw[hl]at hr
    simp only at hr
    have PD:FB F F' st s1 ro (fS rec' re.op kid i c st):=by
     unfold fS at hl ⊢
     by_cases p7:re.op=7
     ·rw[if_pos p7]at hl ⊢
      cases hf:bJ rec (.mk 0 kid 0 0 .nil) i c st with
      |none=>rw[hf]at hl;cases hl
      |some z =>
       obtain⟨o,s3⟩:=z
       rw[hf]at hl
       cases hl
       obtain⟨a1,a2,a3⟩:=tt h hf
       refine⟨a1,fun hh=>⟨by rw[(a2 hh).1];rfl,(a2 hh).2⟩,fun h0=>⟨fun hle=>by rw[(a3 h0).1 hle],fun aS=>?_⟩⟩
       obtain⟨s4,q1,q2⟩:=(a3 h0).2 aS
       exact⟨s4,by rw[q1];rfl,q2⟩
     ·rw[if_neg p7]at hl ⊢
      exact Ac (fun k st o s2 hf _=>tt h hf) _ _ _ _ hl he
    refine E5 (k':=fun r st'=>if st'.empty=true then some (true,st') else if re.neg=true then (match r with|some _=>some (false,st')|none=>rec' ah (.run next i c) st') else match r with|some d=>rec' ah (.run next i d) st'|none=>some (false,st')) PD ?_ (fun jK=>?_) (fun s2 h2=>by simp only;rw[if_pos h2]) (fun jK=>?_)
    ·generalize fS rec' re.op kid i c st=z;rcases z with _|⟨r,s⟩ <;> rfl
    ·rw[if_pos jK]at hr;cases hr;exact⟨rfl,rfl⟩
    ·rw[if_neg (by rw[jK];simp)]at hr
     try simp only
     rw[if_neg (by rw[jK];simp)]
     by_cases hn:re.neg=true
     ·rw[if_pos hn]at hr ⊢
      cases ro with
      |some d=>simp only at hr ⊢;cases hr;exact FA.no jK rfl
      |none=>exact h _ _ _ _ _ hr jK
     ·rw[if_neg hn]at hr ⊢
      cases ro with
      |some d=>exact h _ _ _ _ _ hr jK
      |none=>simp only at hr ⊢;cases hr;exact FA.no jK rfl
 rw[if_neg o7]at hr ⊢
 by_cases o9:re.op=9
 ·rw[if_pos o9]at hr ⊢
  cases hk:re.kids with
  |nil=>rw[hk]at hr;cases hr
  |cons kid l =>
   rw[hk]at hr
   simp only at hr ⊢
   cases hf:bJ rec (.mk 0 kid 0 0 .nil) i c st with
   |none=>rw[hf]at hr;cases hr
   |some y =>
    obtain⟨o,s1⟩:=y
    rw[hf]at hr
    simp only at hr
    refine E5 (k':=fun r st'=>if st'.empty=true then some (true,st') else match r with|some (e,d)=>rec' ah (.run next e d) st'|none=>some (false,st')) (tt h hf) ?_ (fun jK=>?_) (fun s2 h2=>by simp only;rw[if_pos h2]) (fun jK=>?_)
    ·generalize bJ rec' (.mk 0 kid 0 0 .nil) i c st=z;rcases z with _|⟨r,s⟩ <;> rfl
    ·rw[if_pos jK]at hr;cases hr;exact⟨rfl,rfl⟩
    ·rw[if_neg (by rw[jK];simp)]at hr
     try simp only
     rw[if_neg (by rw[jK];simp)]
     cases o with
     |some p=>exact h _ _ _ _ _ hr jK
     |none=>simp only at hr ⊢;cases hr;exact FA.no jK rfl
 rw[if_neg o9]at hr ⊢
 by_cases oS:re.op=10
 ·rw[if_pos oS]at hr ⊢
  match hk:re.kids with
  |[]=>rw[hk]at hr;cases hr
  |[_]=>rw[hk]at hr;cases hr
  |yes::Sv::l=>rw[hk]at hr;exact h _ _ _ _ _ hr he
 rw[if_neg oS]at hr ⊢
 by_cases rA:re.op=11
 ·rw[if_pos rA]at hr ⊢
  by_cases q:bO re.n t i=true
  ·rw[if_pos q]at hr ⊢;exact h _ _ _ _ _ hr he
  ·rw[if_neg q]at hr ⊢;exact no hr
 rw[if_neg rA]at hr ⊢
 exact h _ _ _ _ _ hr he
theorem NZ {ah:Int}{re:Re}{k:Int}{next:Goal}{i:Int}{c:ar}{st st':aQ}{b:Bool} (hr:jA F rec ah re k next i c st=some (b,st')) (he:st.empty=false):FA F F' st st' b (jA F' rec' ah re k next i c st):=by
 unfold jA at hr ⊢
 by_cases m2:re.mode=2
 ·rw[if_pos m2]at hr ⊢
  cases hf:bJ rec (.mk 1 (re.cq 0) 0 0 .nil) i c st with
  |none=>rw[hf]at hr;cases hr
  |some y =>
   obtain⟨o,s1⟩:=y
   rw[hf]at hr
   simp only at hr
   have PD:=tt h hf
   refine E5 (k':=fun r st'=>match r with|some (e,d)=>rec' ah (.run next e d) st'|none=>some (st'.empty,st')) PD ?_ (fun jK=>?_) (fun s2 h2=>by simp only;rw[h2]) (fun jK=>?_)
   ·generalize bJ rec' (.mk 1 (re.cq 0) 0 0 .nil) i c st=z;rcases z with _|⟨r,s⟩ <;> rfl
   ·have:=(PD.2.1 jK).1
    subst this
    simp only at hr
    cases hr
    exact⟨jK,rfl⟩
   ·cases o with
    |some p=>exact h _ _ _ _ _ hr jK
    |none =>
     simp only at hr ⊢
     cases hr
     rw[jK]
     exact FA.no jK rfl
 rw[if_neg m2]at hr ⊢
 by_cases c0:st.steps<0∨10000000000000<st.steps
 ·rw[if_pos c0]at hr;cases hr
 rw[if_neg c0]at hr ⊢
 simp only at hr ⊢
 refine Gs NS (K:=fun s1=>match re.kids with
   |[]=>none
   |kid::_=>if k<re.mn then rec ah (.run (.mk 0 kid 0 0 (.mk 2 re k i next)) i c) s1
    else if re.mode=1 then jP (rec ah (.run next i c) s1) (fun s=>if re.mx=-1∨k<re.mx then rec ah (.run (.mk 0 kid 0 0 (.mk 2 re k i next)) i c) s else some (false,s))
    else jP (if re.mx=-1∨k<re.mx then rec ah (.run (.mk 0 kid 0 0 (.mk 2 re k i next)) i c) s1 else some (false,s1)) (fun s=>rec ah (.run next i c) s))
  (K':=fun s1=>match re.kids with
   |[]=>none
   |kid::_=>if k<re.mn then rec' ah (.run (.mk 0 kid 0 0 (.mk 2 re k i next)) i c) s1
    else if re.mode=1 then jP (rec' ah (.run next i c) s1) (fun s=>if re.mx=-1∨k<re.mx then rec' ah (.run (.mk 0 kid 0 0 (.mk 2 re k i next)) i c) s else some (false,s))
    else jP (if re.mx=-1∨k<re.mx then rec' ah (.run (.mk 0 kid 0 0 (.mk 2 re k i next)) i c) s1 else some (false,s1)) (fun s=>rec' ah (.run next i c) s)) he hr (fun jK hk=>?_)
 generalize st.step F=s1 at *
 cases Hp:re.kids with
 |nil=>rw[Hp]at hk;cases hk
 |cons kid l =>
  rw[Hp]at hk
  simp only at hk ⊢
  by_cases c2:k<re.mn
  ·rw[if_pos c2]at hk ⊢;exact h _ _ _ _ _ hk jK
  rw[if_neg c2]at hk ⊢
  by_cases m1:re.mode=1
  ·rw[if_pos m1]at hk ⊢
   cases hx:rec ah (.run next i c) s1 with
   |none=>rw[hx]at hk;cases hk
   |some y =>
    obtain⟨b1,s2⟩:=y
    rw[hx]at hk
    refine F6 (h _ _ _ _ _ hx jK) hk fun s8 od=>?_
    by_cases cM:re.mx=-1∨k<re.mx
    ·rw[if_pos cM]at od ⊢;exact h _ _ _ _ _ od s8
    ·rw[if_neg cM]at od ⊢;cases od;exact FA.no s8 rfl
  ·rw[if_neg m1]at hk ⊢
   by_cases cM:re.mx=-1∨k<re.mx
   ·rw[if_pos cM]at hk ⊢
    cases hx:rec ah (.run (.mk 0 kid 0 0 (.mk 2 re k i next)) i c) s1 with
    |none=>rw[hx]at hk;cases hk
    |some y =>
     obtain⟨b1,s2⟩:=y
     rw[hx]at hk
     exact F6 (h _ _ _ _ _ hx jK) hk fun s8 od=>h _ _ _ _ _ od s8
   ·rw[if_neg cM]at hk ⊢
    exact F6 (FA.no (F:=F) (F':=F') jK rfl) hk fun s8 od=>h _ _ _ _ _ od s8
end fuel
theorem xC {t:List Int}{F F':Int} (NS:F'≤F):∀(n:Nat) (ah:Int) (task:Task) (st:aQ) (b:Bool) (st':aQ),dA t F n ah task st=some (b,st')→st.empty=false→FA F F' st st' b (dA t F' n ah task st)
 |0,_,_,_,_,_,hr,_=>by cases hr
 |n+1,ah,task,st,b,st',hr,he=>by
  have ih:=xC (t:=t) NS n
  have hr:bI t F (dA t F n) ah task st=some (b,st'):=hr
  show FA F F' st st' b (bI t F' (dA t F' n) ah task st)
  cases task with
  |run g i c =>
   simp only[bI]at hr ⊢
   by_cases c0:i<0∨(t.length:Int)<i
   ·rw[if_pos c0]at hr;cases hr
   rw[if_neg c0]at hr ⊢
   cases g with
   |nil =>
    simp only at hr ⊢
    split at hr
    ·rename_i hc
     cases hr
     exact⟨WW _,fun hh=>(by have hh:st.empty=true:=hh;rw[he]at hh;cases hh),fun h0=>⟨fun _=>by rw[if_pos hc],fun hl=>by have hl:F'<st.steps:=hl;omega⟩⟩
    ·cases hr
   |mk kind re k cT next =>
    simp only at hr ⊢
    by_cases k1:kind=1
    ·rw[if_pos k1]at hr ⊢;exact ih _ _ _ _ _ hr he
    rw[if_neg k1]at hr ⊢
    by_cases k2:kind=2
    ·rw[if_pos k2]at hr ⊢
     by_cases q:re.mn≤k∧i=cT
     ·rw[if_pos q]at hr ⊢;cases hr;exact FA.no he rfl
     ·rw[if_neg q]at hr ⊢
      by_cases q2:k<0∨10000000000000<k
      ·rw[if_pos q2]at hr;cases hr
      ·rw[if_neg q2]at hr ⊢;exact ih _ _ _ _ _ hr he
    rw[if_neg k2]at hr ⊢
    by_cases k3:kind=3
    ·rw[if_pos k3]at hr ⊢
     by_cases q:1000000000<c.length
     ·rw[if_pos q]at hr;cases hr
     ·rw[if_neg q]at hr ⊢;exact ih _ _ _ _ _ hr he
    rw[if_neg k3]at hr ⊢
    by_cases k4:kind=4
    ·rw[if_pos k4]at hr ⊢
     by_cases q:i=cT
     ·rw[if_pos q]at hr ⊢;exact ih _ _ _ _ _ hr he
     ·rw[if_neg q]at hr ⊢;cases hr;exact FA.no he rfl
    rw[if_neg k4]at hr ⊢
    exact ih _ _ _ _ _ hr he
  |rep g i c =>
   simp only[bI]at hr ⊢
   by_cases c0:i<0∨(t.length:Int)<i
   ·rw[if_pos c0]at hr;cases hr
   rw[if_neg c0]at hr ⊢
   cases g with
   |nil=>cases hr
   |mk kind re k cT next=>exact NZ NS ih hr he
  |node g i c =>
   simp only[bI]at hr ⊢
   by_cases c0:i<0∨(t.length:Int)<i
   ·rw[if_pos c0]at hr;cases hr
   rw[if_neg c0]at hr ⊢
   cases g with
   |nil=>cases hr
   |mk kind re k cT next =>
    simp only at hr ⊢
    by_cases o4:re.op=4
    ·rw[if_pos o4]at hr ⊢;exact ih _ _ _ _ _ hr he
    rw[if_neg o4]at hr ⊢
    by_cases q1:1000000000<re.set.length∨1000000000<re.kids.length∨1000000000<c.length
    ·rw[if_pos q1]at hr;cases hr
    rw[if_neg q1]at hr ⊢
    by_cases q2:st.steps<0∨10000000000000<st.steps
    ·rw[if_pos q2]at hr;cases hr
    rw[if_neg q2]at hr ⊢
    exact Gs NS (K:=fun s=>cQ t (dA t F n) ah re next i c s) (K':=fun s=>cQ t (dA t F' n) ah re next i c s) he hr fun jK hk=>LD ih hk jK
end Go.Proofs.YtmihcpdhcillaaaGreat
