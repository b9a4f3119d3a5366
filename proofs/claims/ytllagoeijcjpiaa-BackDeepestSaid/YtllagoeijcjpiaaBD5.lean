/- A part of the proof (G1 G2 G3 F71). -/
import Derived.Test.YtllagoeijcjpiaaBD3
import Derived.Test.YtllagoeijcjpiaaBD4
set_option linter.unusedSimpArgs false
set_option linter.unusedVariables false
set_option maxRecDepth 100000
set_option maxHeartbeats 80000000
namespace Go.Proofs.Ytllagoeijcjpiaa
open Go.VL Go.Proofs.Try
inductive Goal where
 |nil
 |mk (kind:Int) (re:Re) (k bO:Int) (next:Goal)
abbrev aq:=List (Int×Int)
def bd (c:aq):D:=.sl (c.map aM)
def Goal.d:Goal→D
 |.nil=>.sc (.pointer none)
 |.mk kind re k bO next=>.el (iD kind::(re.cells++[iD k,iD bO,next.d]))
structure aU where
 steps:Int
 empty:Bool
 ends:List Int
 ai:List aq
inductive Task where
 |run (g:Goal) (i:Int) (c:aq)
 |rep (g:Goal) (i:Int) (c:aq)
 |node (g:Goal) (i:Int) (c:aq)
def eH (t:List Int) (i:Int):Int:=t.getD i.toNat 0
def oH (x:Int):Bool:=(decide (48≤x)&&decide (x≤57))||((decide (65≤x)&&decide (x≤90))||((decide (97≤x)&&decide (x≤122))||decide (x=95)))
def mi (t:List Int) (i:Int):Bool:=decide (0<i)&&oH (eH t (i-1))
def jx (t:List Int) (i:Int):Bool:=decide (i<t.length)&&oH (eH t i)
def bN (n:Int) (t:List Int) (i:Int):Bool :=
 if n=0 then decide (i=0) else if n=1 then decide (i=t.length)
 else if n=2 then decide (i=0)||decide (eH t (i-1)=10)
 else if n=3 then decide (i=t.length)||decide (eH t i=10)
 else if n=4 then mi t i != jx t i
 else mi t i == jx t i
def oQ (l:List (Int×Int)) (x:Int):Bool:=l.any fun s=>decide (s.1≤x)&&decide (x≤s.2)
def jf (c:aq) (n bO to:Int):aq:=if 1≤n∧n≤c.length then c.set (n-1).toNat (bO,to) else c
def bo (c:aq) (n:Int):Int×Int:=if n<1∨(c.length:Int)<n then (-1,-1) else c.getD (n-1).toNat (-1,-1)
def Re.bP (re:Re) (m:Int):Re:=.mk re.op re.set re.kids re.mn re.mx m re.n re.neg
def aU.step (fuel:Int) (st:aU):aU:={ st with steps:=st.steps+1,empty:=st.empty||decide (fuel<st.steps+1) }
def rm (r:Option (Bool×aU)) (k:aU→Option (Bool×aU)):Option (Bool×aU) :=
 match r with
 |none=>none
 |some (true,s)=>some (true,s)
 |some (false,s)=>k s
def cT (rec:Int→Task→aU→Option (Bool×aU)) (g:Goal) (i:Int) (c:aq) (st:aU):Option (Option (Int×aq)×aU) :=
 match rec 1 (.run g i c) ⟨st.steps,false,[],[]⟩ with
 |none=>none
 |some (_,x)=>if x.empty then some (none,{ st with steps:=x.steps,empty:=x.empty }) else match x.ends,x.ai with
   |[],_=>some (none,{ st with steps:=x.steps,empty:=x.empty })
   |e::_,d::_=>some (some (e,d),{ st with steps:=x.steps,empty:=x.empty })
   |_::_,[]=>none
def dK (f:Int→aU→Option (Option (Int×aq)×aU)):Nat→aU→Option (Option aq×aU)
 |0,st=>some (none,st)
 |n+1,st=>if st.empty then some (none,st) else match f n st with
  |none=>none
  |some (some (_,d),st')=>some (some d,st')
  |some (none,st')=>dK f n st'
def kN (rec:Int→Task→aU→Option (Bool×aU)) (op:Int) (kid:Re) (i:Int) (c:aq) (st:aU):Option (Option aq×aU) :=
 if op=7 then match cT rec (.mk 0 kid 0 0 .nil) i c st with
  |none=>none
  |some (r,st')=>some (r.map (·.2),st')
 else dK (fun k st=>cT rec (.mk 0 kid 0 0 (.mk 4 (.mk 0 [] [] 0 0 0 0 false) 0 i .nil)) k c st) (i.toNat+1) st
def gu (kids:List Re) (next:Goal):Goal:=kids.foldr (fun k nx=>.mk 0 k 0 0 nx) next
def oM (f:Re→aU→Option (Bool×aU)):List Re→aU→Option (Bool×aU)
 |[],st=>some (false,st)
 |k::l,st=>rm (f k st) (oM f l)
def cO (t:List Int) (a i:Int) (n:Nat):Bool:=(List.range n).all fun j=>eH t (a+j) == eH t (i+j)
def eQ (t:List Int) (rec:Int→Task→aU→Option (Bool×aU)) (ah:Int) (re:Re) (next:Goal) (i:Int) (c:aq) (st:aU):Option (Bool×aU) :=
 if re.op=1 then (if i<t.length∧oQ re.set (eH t i)=true then rec ah (.run next (i+1) c) st else some (false,st))
 else if re.op=2 then rec ah (.run (gu re.kids next) i c) st
 else if re.op=3 then oM (fun k st=>rec ah (.run (.mk 0 k 0 0 next) i c) st) re.kids st
 else if re.op=5 then match re.kids with
  |[]=>none
  |kid::_=>rec ah (.run (.mk 0 kid 0 0 (.mk 3 re 0 i next)) i c) st
 else if re.op=6 then
  let x:=bo c re.n
  if x.1<0 then some (false,st)
  else if x.2<x.1∨(t.length:Int)<x.2 then none
  else if t.length<i+x.2-x.1 then some (false,st)
  else if cO t x.1 i (x.2-x.1).toNat=true then rec ah (.run next (i+x.2-x.1) c) st else some (false,st)
 else if re.op=7∨re.op=8 then match re.kids with
  |[]=>none
  |kid::_=>match kN rec re.op kid i c st with
   |none=>none
   |some (r,st') =>
    if st'.empty then some (true,st')
    else if re.neg=true then (match r with
     |some _=>some (false,st')
     |none=>rec ah (.run next i c) st')
    else match r with
     |some d=>rec ah (.run next i d) st'
     |none=>some (false,st')
 else if re.op=9 then match re.kids with
  |[]=>none
  |kid::_=>match cT rec (.mk 0 kid 0 0 .nil) i c st with
   |none=>none
   |some (r,st')=>if st'.empty then some (true,st') else match r with
    |some (e,d)=>rec ah (.run next e d) st'
    |none=>some (false,st')
 else if re.op=10 then match re.kids with
  |yes::no::_=>rec ah (.run (.mk 0 (if 0≤(bo c re.n).1 then yes else no) 0 0 next) i c) st
  |_=>none
 else if re.op=11 then (if bN re.n t i=true then rec ah (.run next i c) st else some (false,st))
 else rec ah (.run next i c) st
def n8 (fuel:Int) (rec:Int→Task→aU→Option (Bool×aU)) (ah:Int) (re:Re) (k:Int) (next:Goal) (i:Int) (c:aq) (st:aU):Option (Bool×aU) :=
 if re.mode=2 then match cT rec (.mk 1 (re.bP 0) 0 0 .nil) i c st with
  |none=>none
  |some (r,st')=>match r with
   |some (e,d)=>rec ah (.run next e d) st'
   |none=>some (st'.empty,st')
 else if st.steps<0∨10000000000000<st.steps then none
 else
  let s1:=st.step fuel
  if s1.empty then some (true,s1)
  else match re.kids with
   |[]=>none
   |kid::_ =>
    let more:=re.mx=-1∨k<re.mx
    let once:aU→Option (Bool×aU):=fun s=>rec ah (.run (.mk 0 kid 0 0 (.mk 2 re k i next)) i c) s
    if k<re.mn then once s1
    else if re.mode=1 then rm (rec ah (.run next i c) s1) (fun s=>if more then once s else some (false,s))
    else rm (if more then once s1 else some (false,s1)) (fun s=>rec ah (.run next i c) s)
def b8 (t:List Int) (fuel:Int) (rec:Int→Task→aU→Option (Bool×aU)) (ah:Int):Task→aU→Option (Bool×aU)
 |.run g i c,st =>
  if i<0∨(t.length:Int)<i then none else match g with
  |.nil=>if st.ends.length<2000000000000∧st.ai.length=st.ends.length then some (decide (0≤ah)&&decide (ah≤(st.ends.length:Int)+1),{ st with ends:=st.ends++[i],ai:=st.ai++[c] }) else none
  |.mk kind re k bO next =>
   if kind=1 then rec ah (.rep (.mk kind re k bO next) i c) st
   else if kind=2 then (if re.mn≤k∧i=bO then some (false,st) else if k<0∨10000000000000<k then none else rec ah (.run (.mk 1 re (k+1) 0 next) i c) st)
   else if kind=3 then (if 1000000000<c.length then none else rec ah (.run next i (jf c re.n bO i)) st)
   else if kind=4 then (if i=bO then rec ah (.run next i c) st else some (false,st))
   else rec ah (.node (.mk kind re k bO next) i c) st
 |.rep g i c,st=>if i<0∨(t.length:Int)<i then none else match g with
  |.nil=>none
  |.mk _ re k _ next=>n8 fuel rec ah re k next i c st
 |.node g i c,st=>if i<0∨(t.length:Int)<i then none else match g with
  |.nil=>none
  |.mk _ re _ _ next =>
   if re.op=4 then rec ah (.rep (.mk 1 re 0 0 next) i c) st
   else if 1000000000<re.set.length∨1000000000<re.kids.length∨1000000000<c.length then none
   else if st.steps<0∨10000000000000<st.steps then none
   else if (st.step fuel).empty then some (true,st.step fuel)
   else eQ t rec ah re next i c (st.step fuel)
def eh (t:List Int) (fuel:Int):Nat→Int→Task→aU→Option (Bool×aU)
 |0=>fun _ _ _=>none
 |n+1=>b8 t fuel (eh t fuel n)
section mono
variable {rec rec':Int→Task→aU→Option (Bool×aU)} (h:∀m task st r,rec m task st=some r→rec' m task st=some r)
include h
theorem gk {g:Goal}{i:Int}{c:aq}{st:aU}{r:Option (Int×aq)×aU} (hr:cT rec g i c st=some r):cT rec' g i c st=some r:=by
 unfold cT at hr ⊢
 cases hx:rec 1 (.run g i c) ⟨st.steps,false,[],[]⟩ with
 |none=>rw[hx]at hr;cases hr
 |some x=>rw[hx]at hr;rw[h _ _ _ _ hx];exact hr
omit h in
theorem pJ {a a':Option (Bool×aU)}{k k':aU→Option (Bool×aU)} (h1:∀r,a=some r→a'=some r) (h2:∀s r,k s=some r→k' s=some r) {r:Bool×aU} (hr:rm a k=some r):rm a' k'=some r:=by
 cases a with
 |none=>cases hr
 |some x =>
  rw[h1 x rfl]
  obtain⟨b,s⟩:=x
  cases b with
  |true=>exact hr
  |false=>exact h2 s r hr
omit h in
theorem nN {f f':Int→aU→Option (Option (Int×aq)×aU)} (hf:∀k st r,f k st=some r→f' k st=some r):∀(n:Nat) (st:aU) (r:Option aq×aU),dK f n st=some r→dK f' n st=some r
 |0,_,_,hr=>hr
 |n+1,st,r,hr=>by
  simp only[dK]at hr ⊢
  by_cases he:st.empty=true
  ·rw[if_pos he]at hr ⊢;exact hr
  ·rw[if_neg he]at hr ⊢
   cases hx:f n st with
   |none=>rw[hx]at hr;cases hr
   |some x =>
    rw[hx]at hr
    rw[hf _ _ _ hx]
    obtain⟨o,s⟩:=x
    cases o with
    |none=>exact nN hf n s r hr
    |some p=>exact hr
theorem rW {op:Int}{kid:Re}{i:Int}{c:aq}{st:aU}{r:Option aq×aU} (hr:kN rec op kid i c st=some r):kN rec' op kid i c st=some r:=by
 unfold kN at hr ⊢
 by_cases o:op=7
 ·rw[if_pos o]at hr ⊢
  cases hx:cT rec (.mk 0 kid 0 0 .nil) i c st with
  |none=>rw[hx]at hr;cases hr
  |some x=>rw[hx]at hr;rw[gk h hx];exact hr
 ·rw[if_neg o]at hr ⊢
  exact nN (fun k st r hr=>gk h hr) _ _ _ hr
omit h in
theorem ur {f f':Re→aU→Option (Bool×aU)} (hf:∀k st r,f k st=some r→f' k st=some r):∀(l:List Re) (st:aU) (r:Bool×aU),oM f l st=some r→oM f' l st=some r
 |[],_,_,hr=>hr
 |k::l,st,r,hr=>by
  simp only[oM]at hr ⊢
  exact pJ (hf k st) (ur hf l) hr
theorem En {t:List Int}{ah:Int}{re:Re}{next:Goal}{i:Int}{c:aq}{st:aU}{r:Bool×aU} (hr:eQ t rec ah re next i c st=some r):eQ t rec' ah re next i c st=some r:=by
 unfold eQ at hr ⊢
 by_cases o1:re.op=1
 ·rw[if_pos o1]at hr ⊢
  by_cases hc:i<t.length∧oQ re.set (eH t i)=true
  ·rw[if_pos hc]at hr ⊢;exact h _ _ _ _ hr
  ·rw[if_neg hc]at hr ⊢;exact hr
 rw[if_neg o1]at hr ⊢
 by_cases o2:re.op=2
 ·rw[if_pos o2]at hr ⊢;exact h _ _ _ _ hr
 rw[if_neg o2]at hr ⊢
 by_cases o3:re.op=3
 ·rw[if_pos o3]at hr ⊢;exact ur (fun k st r hr=>h _ _ _ _ hr) _ _ _ hr
 rw[if_neg o3]at hr ⊢
 by_cases o5:re.op=5
 ·rw[if_pos o5]at hr ⊢
  cases hk:re.kids with
  |nil=>rw[hk]at hr;cases hr
  |cons k l=>rw[hk]at hr;exact h _ _ _ _ hr
 rw[if_neg o5]at hr ⊢
 by_cases o6:re.op=6
 ·rw[if_pos o6]at hr ⊢
  simp only at hr ⊢
  by_cases c1:(bo c re.n).1<0
  ·rw[if_pos c1]at hr ⊢;exact hr
  rw[if_neg c1]at hr ⊢
  by_cases c2:(bo c re.n).2<(bo c re.n).1∨(t.length:Int)<(bo c re.n).2
  ·rw[if_pos c2]at hr;cases hr
  rw[if_neg c2]at hr ⊢
  by_cases c3:t.length<i+(bo c re.n).2-(bo c re.n).1
  ·rw[if_pos c3]at hr ⊢;exact hr
  rw[if_neg c3]at hr ⊢
  by_cases c4:cO t (bo c re.n).1 i ((bo c re.n).2-(bo c re.n).1).toNat=true
  ·rw[if_pos c4]at hr ⊢;exact h _ _ _ _ hr
  ·rw[if_neg c4]at hr ⊢;exact hr
 rw[if_neg o6]at hr ⊢
 by_cases o7:re.op=7∨re.op=8
 ·rw[if_pos o7]at hr ⊢
  cases hk:re.kids with
  |nil=>rw[hk]at hr;cases hr
  |cons k l =>
   rw[hk]at hr
   simp only at hr ⊢
   cases hx:kN rec re.op k i c st with
   |none=>rw[hx]at hr;cases hr
   |some x =>
    rw[hx]at hr
    rw[rW h hx]
    obtain⟨o,s⟩:=x
    simp only at hr ⊢
    by_cases he:s.empty=true
    ·rw[if_pos he]at hr ⊢;exact hr
    rw[if_neg he]at hr ⊢
    by_cases hn:re.neg=true
    ·rw[if_pos hn]at hr ⊢
     cases o with
     |none=>exact h _ _ _ _ hr
     |some d=>exact hr
    ·rw[if_neg hn]at hr ⊢
     cases o with
     |none=>exact hr
     |some d=>exact h _ _ _ _ hr
 rw[if_neg o7]at hr ⊢
 by_cases o9:re.op=9
 ·rw[if_pos o9]at hr ⊢
  cases hk:re.kids with
  |nil=>rw[hk]at hr;cases hr
  |cons k l =>
   rw[hk]at hr
   simp only at hr ⊢
   cases hx:cT rec (.mk 0 k 0 0 .nil) i c st with
   |none=>rw[hx]at hr;cases hr
   |some x =>
    rw[hx]at hr
    rw[gk h hx]
    obtain⟨o,s⟩:=x
    simp only at hr ⊢
    by_cases he:s.empty=true
    ·rw[if_pos he]at hr ⊢;exact hr
    rw[if_neg he]at hr ⊢
    cases o with
    |none=>exact hr
    |some d=>exact h _ _ _ _ hr
 rw[if_neg o9]at hr ⊢
 by_cases sg:re.op=10
 ·rw[if_pos sg]at hr ⊢
  match hk:re.kids with
  |[]=>rw[hk]at hr;cases hr
  |[_]=>rw[hk]at hr;cases hr
  |a::b::l=>rw[hk]at hr;exact h _ _ _ _ hr
 rw[if_neg sg]at hr ⊢
 by_cases wT:re.op=11
 ·rw[if_pos wT]at hr ⊢
  by_cases hc:bN re.n t i=true
  ·rw[if_pos hc]at hr ⊢;exact h _ _ _ _ hr
  ·rw[if_neg hc]at hr ⊢;exact hr
 rw[if_neg wT]at hr ⊢
 exact h _ _ _ _ hr
theorem Hb {fuel ah:Int}{re:Re}{k:Int}{next:Goal}{i:Int}{c:aq}{st:aU}{r:Bool×aU} (hr:n8 fuel rec ah re k next i c st=some r):n8 fuel rec' ah re k next i c st=some r:=by
 unfold n8 at hr ⊢
 by_cases m:re.mode=2
 ·rw[if_pos m]at hr ⊢
  cases hx:cT rec (.mk 1 (re.bP 0) 0 0 .nil) i c st with
  |none=>rw[hx]at hr;cases hr
  |some x =>
   rw[hx]at hr
   rw[gk h hx]
   obtain⟨o,s⟩:=x
   cases o with
   |none=>exact hr
   |some d=>exact h _ _ _ _ hr
 rw[if_neg m]at hr ⊢
 by_cases c1:st.steps<0∨10000000000000<st.steps
 ·rw[if_pos c1]at hr;cases hr
 rw[if_neg c1]at hr ⊢
 simp only at hr ⊢
 by_cases he:(st.step fuel).empty=true
 ·rw[if_pos he]at hr ⊢;exact hr
 rw[if_neg he]at hr ⊢
 cases hk:re.kids with
 |nil=>rw[hk]at hr;cases hr
 |cons kid l =>
  rw[hk]at hr
  simp only at hr ⊢
  by_cases c2:k<re.mn
  ·rw[if_pos c2]at hr ⊢;exact h _ _ _ _ hr
  rw[if_neg c2]at hr ⊢
  by_cases c3:re.mx=-1∨k<re.mx
  ·simp only[if_pos c3]at hr ⊢
   by_cases c4:re.mode=1
   ·rw[if_pos c4]at hr ⊢
    exact pJ (fun r hr=>h _ _ _ _ hr) (fun s r hr=>h _ _ _ _ hr) hr
   ·rw[if_neg c4]at hr ⊢
    exact pJ (fun r hr=>h _ _ _ _ hr) (fun s r hr=>h _ _ _ _ hr) hr
  ·simp only[if_neg c3]at hr ⊢
   by_cases c4:re.mode=1
   ·rw[if_pos c4]at hr ⊢
    exact pJ (fun r hr=>h _ _ _ _ hr) (fun s r hr=>hr) hr
   ·rw[if_neg c4]at hr ⊢
    exact pJ (fun r hr=>hr) (fun s r hr=>h _ _ _ _ hr) hr
theorem Cr {t:List Int}{fuel ah:Int}{task:Task}{st:aU}{r:Bool×aU} (hr:b8 t fuel rec ah task st=some r):b8 t fuel rec' ah task st=some r:=by
 cases task with
 |run g i c =>
  simp only[b8]at hr ⊢
  by_cases hi:i<0∨(t.length:Int)<i
  ·rw[if_pos hi]at hr;cases hr
  rw[if_neg hi]at hr ⊢
  cases g with
  |nil=>exact hr
  |mk kind re k bO next =>
   simp only at hr ⊢
   by_cases k1:kind=1
   ·rw[if_pos k1]at hr ⊢;exact h _ _ _ _ hr
   rw[if_neg k1]at hr ⊢
   by_cases k2:kind=2
   ·rw[if_pos k2]at hr ⊢
    by_cases c1:re.mn≤k∧i=bO
    ·rw[if_pos c1]at hr ⊢;exact hr
    rw[if_neg c1]at hr ⊢
    by_cases c2:k<0∨10000000000000<k
    ·rw[if_pos c2]at hr;cases hr
    rw[if_neg c2]at hr ⊢;exact h _ _ _ _ hr
   rw[if_neg k2]at hr ⊢
   by_cases k3:kind=3
   ·rw[if_pos k3]at hr ⊢
    by_cases c1:1000000000<c.length
    ·rw[if_pos c1]at hr;cases hr
    rw[if_neg c1]at hr ⊢;exact h _ _ _ _ hr
   rw[if_neg k3]at hr ⊢
   by_cases k4:kind=4
   ·rw[if_pos k4]at hr ⊢
    by_cases c1:i=bO
    ·rw[if_pos c1]at hr ⊢;exact h _ _ _ _ hr
    ·rw[if_neg c1]at hr ⊢;exact hr
   rw[if_neg k4]at hr ⊢;exact h _ _ _ _ hr
 |rep g i c =>
  simp only[b8]at hr ⊢
  by_cases hi:i<0∨(t.length:Int)<i
  ·rw[if_pos hi]at hr;cases hr
  rw[if_neg hi]at hr ⊢
  cases g with
  |nil=>cases hr
  |mk kind re k bO next=>exact Hb h hr
 |node g i c =>
  simp only[b8]at hr ⊢
  by_cases hi:i<0∨(t.length:Int)<i
  ·rw[if_pos hi]at hr;cases hr
  rw[if_neg hi]at hr ⊢
  cases g with
  |nil=>cases hr
  |mk kind re k bO next =>
   simp only at hr ⊢
   by_cases o4:re.op=4
   ·rw[if_pos o4]at hr ⊢;exact h _ _ _ _ hr
   rw[if_neg o4]at hr ⊢
   by_cases c0:1000000000<re.set.length∨1000000000<re.kids.length∨1000000000<c.length
   ·rw[if_pos c0]at hr;cases hr
   rw[if_neg c0]at hr ⊢
   by_cases c1:st.steps<0∨10000000000000<st.steps
   ·rw[if_pos c1]at hr;cases hr
   rw[if_neg c1]at hr ⊢
   by_cases he:(st.step fuel).empty=true
   ·rw[if_pos he]at hr ⊢;exact hr
   rw[if_neg he]at hr ⊢
   exact En h hr
end mono
theorem DS {t:List Int}{fuel:Int}:∀(n:Nat) (m:Int) (task:Task) (st:aU) (r:Bool×aU),eh t fuel n m task st=some r→eh t fuel (n+1) m task st=some r
 |0,_,_,_,_,hr=>by cases hr
 |n+1,m,task,st,r,hr=>Cr (rec:=eh t fuel n) (fun m task st r hr=>DS n m task st r hr) hr
theorem ek {t:List Int}{fuel:Int}{n n':Nat} (hn:n≤n') {m:Int}{task:Task}{st:aU}{r:Bool×aU} (hr:eh t fuel n m task st=some r):eh t fuel n' m task st=some r:=by
 induction hn with
 |refl=>exact hr
 |step _ ih=>exact DS _ _ _ _ _ ih
theorem Lu {t:List Int}{fuel:Int}{n n':Nat}{m:Int}{task:Task}{st:aU}{r r':Bool×aU} (h1:eh t fuel n m task st=some r) (h2:eh t fuel n' m task st=some r'):r=r':=by
 have e1:=ek (Ws n n') h1
 have e2:=ek (Wp n n') h2
 rw[e1]at e2
 exact Option.some.inj e2
def ix (re:Re):Bool:=decide ((re.op=4∨re.op=5∨re.op=7∨re.op=8∨re.op=9→re.kids≠[])∧(re.op=10→2≤re.kids.length)∧re.set.length≤1000000000∧re.kids.length≤1000000000)
def Ke (t:List Int) (p:Int×Int):Prop:=p=(-1,-1)∨(0≤p.1∧p.1≤p.2∧p.2≤t.length)
def cr (t:List Int) (c:aq):Prop:=c.length≤1000000000∧∀p∈c,Ke t p
def iw (t:List Int) (i s:Int):Goal→Prop
 |.nil=>True
 |.mk kind re k bO next=>(0≤kind∧kind≤4)∧re.every ix=true∧(kind=1∨kind=2→re.op=4)∧(kind=1→0≤k∧k≤s)∧(kind=2→0≤k∧k<s)∧(kind=3→0≤bO∧bO≤i)∧iw t i s next
theorem iw.mono {t:List Int}{i i' s s':Int} (hi:i≤i') (hs:s≤s'):∀{g:Goal},iw t i s g→iw t i' s' g
 |.nil,_=>trivial
 |.mk _ _ _ _ _,h=>by
  obtain⟨h0,h1,h2,h3,h4,h5,h6⟩:=h
  exact⟨h0,h1,h2,fun k=>by have:=h3 k;omega,fun k=>by have:=h4 k;omega,fun k=>by have:=h5 k;omega,h6.mono hi hs⟩
def sy:Goal→Nat
 |.nil=>0
 |.mk kind re _ _ next=>if kind=1 then (if re.mode=2 then 4 else 2) else if kind=2 then 5 else if kind=3∨kind=4 then 7+sy next else 6
def ez:Goal→Int
 |.nil=>1
 |.mk kind _ _ _ next=>if kind=3∨kind=4 then ez next else 0
theorem gv:∀g:Goal,0≤ez g∧ez g≤1
 |.nil=>by simp [ez]
 |.mk kind _ _ _ next=>by
  have:=gv next
  unfold ez
  split
  ·exact this
  ·omega
def Task.tQ:Task→Nat
 |.run g _ _=>sy g
 |.rep (.mk _ re _ _ _) _ _=>if re.mode=2 then 3 else 1
 |.rep .nil _ _=>0
 |.node _ _ _=>5
def Task.gl:Task→Int
 |.run g _ _=>ez g
 |_=>0
def Task.pos:Task→Int
 |.run _ i _=>i
 |.rep _ i _=>i
 |.node _ i _=>i
def Task.ai:Task→aq
 |.run _ _ c=>c
 |.rep _ _ c=>c
 |.node _ _ c=>c
def Task.xF:Task→Prop
 |.run (.mk kind re _ _ _) _ _=>kind=1∧re.mode≠2
 |.run .nil _ _=>False
 |.rep (.mk _ re _ _ _) _ _=>re.mode≠2
 |.rep .nil _ _=>False
 |.node (.mk _ re _ _ _) _ _=>re.op≠4
 |.node .nil _ _=>False
def Task.ok (t:List Int) (s:Int):Task→Prop
 |.run g i _=>iw t i s g
 |.rep .nil _ _=>False
 |.rep (.mk _ re k _ next) i _=>re.every ix=true∧re.op=4∧0≤k∧k≤s∧iw t i s next
 |.node .nil _ _=>False
 |.node (.mk _ re _ _ next) i _=>re.every ix=true∧iw t i s next
structure U7 (t:List Int) (F:Int) (task:Task) (st:aU):Prop where
 ok:task.ok t st.steps
 i0:0≤task.pos
 i1:task.pos≤t.length
 ai:cr t task.ai
 empty:st.empty=false
 s0:0≤st.steps
 s1:st.steps≤F
 ends:(st.ends.length:Int)+task.gl≤st.steps
 same:st.ai.length=st.ends.length
structure eg (t:List Int) (F:Int) (sl i:Int) (nc:Nat) (st:aU) (b:Bool) (st':aU):Prop where
 s0:st.steps≤st'.steps
 s1:st'.steps≤F+1
 empty:st'.empty=decide (F<st'.steps)
 full:st'.empty=true→b=true
 more:∃new pM,st'.ends=st.ends++new∧st'.ai=st.ai++pM∧pM.length=new.length∧(new.length:Int)≤st'.steps-st.steps+sl∧(∀e∈new,i≤e∧e≤t.length)∧∀d∈pM,cr t d∧d.length=nc
theorem eg.dZ {t:List Int}{F sl sl' i i':Int}{nc:Nat}{st st':aU}{b:Bool} (h:eg t F sl i nc st b st') (hs:sl≤sl') (hi:i'≤i):eg t F sl' i' nc st b st':=by
 obtain⟨new,pM,h1,h2,h3,h4,h5,h6⟩:=h.more
 exact⟨h.s0,h.s1,h.empty,h.full,new,pM,h1,h2,h3,by omega,fun e he=>⟨by have:=h5 e he;omega,(h5 e he).2⟩,h6⟩
theorem eg.trans {t:List Int}{F Tx Tv i:Int}{nc:Nat}{st s2 st':aU}{b1 b:Bool} (h:eg t F Tx i nc st b1 s2) (k:eg t F Tv i nc s2 b st'):eg t F (Tx+Tv) i nc st b st':=by
 obtain⟨new,pM,h1,h2,h3,h4,h5,h6⟩:=h.more
 obtain⟨SN,PG,k1,k2,k3,k4,k5,k6⟩:=k.more
 refine⟨by have:=h.s0;have:=k.s0;omega,k.s1,k.empty,k.full,new++SN,pM++PG,by rw[k1,h1,VY],by rw[k2,h2,VY],by simp [h3,k3],by simp only[VN,Wt];omega,fun e he=>?_,fun d hd=>?_⟩
 ·rcases List.mem_append.1 he with he|he
  ·exact h5 e he
  ·exact k5 e he
 ·rcases List.mem_append.1 hd with hd|hd
  ·exact h6 d hd
  ·exact k6 d hd
theorem eg.step {t:List Int}{F sl i:Int}{nc:Nat}{st st':aU}{b:Bool} (h:eg t F sl i nc (st.step F) b st'):eg t F (sl-1) i nc st b st':=by
 obtain⟨new,pM,h1,h2,h3,h4,h5,h6⟩:=h.more
 have hs:(st.step F).steps=st.steps+1:=rfl
 rw[hs]at h4
 exact⟨by have:=h.s0;rw[hs]at this;omega,h.s1,h.empty,h.full,new,pM,h1,h2,h3,by omega,h5,h6⟩
theorem eg.no {t:List Int}{F sl i:Int}{nc:Nat}{st:aU} (h1:st.steps≤F) (h2:st.empty=false) (hs:0≤sl):eg t F sl i nc st false st :=
 ⟨Vr _,by omega,by rw[h2,decide_eq_false (by omega)],fun h=>(by rw[h2]at h;cases h),[],[],by simp,by simp,rfl,(by simp;omega),by simp,by simp⟩
theorem eg.out {t:List Int}{F i:Int}{nc:Nat}{st:aU} (h1:st.steps≤F) (h2:(st.step F).empty=true) (he:st.empty=false):eg t F 0 i nc st true (st.step F):=by
 have hs:(st.step F).steps=st.steps+1:=rfl
 have hd:F<st.steps+1:=by
  simp only[aU.step,he,VM,decide_eq_true_eq]at h2
  exact h2
 exact⟨by rw[hs];omega,by rw[hs];omega,by rw[h2,hs,decide_eq_true hd],fun _=>rfl,[],[],by simp [aU.step],by simp [aU.step],rfl,(by rw[hs];simp;try omega),by simp,by simp⟩
def Ends (t:List Int) (F ah:Int) (task:Task) (st:aU):Prop :=
 ∃n b st',eh t F n ah task st=some (b,st')∧eg t F task.gl task.pos task.ai.length st b st'∧(task.xF→st.steps<st'.steps)
structure jS (t:List Int) (F:Int) (i:Int) (c:aq) (sl:Int) (st:aU):Prop where
 i0:0≤i
 i1:i≤t.length
 ai:cr t c
 empty:st.empty=false
 s0:0≤st.steps
 s1:st.steps≤F
 ends:(st.ends.length:Int)+sl≤st.steps
 same:st.ai.length=st.ends.length
theorem nO {t:List Int}{F:Int}{g:Goal}{i:Int}{c:aq}{sl:Int}{st:aU} (H:jS t F i c sl st) (h:Ends t F 1 (.run g i c) ⟨st.steps,false,[],[]⟩) (th:ez g=0) :
  ∃n r s',cT (eh t F n) g i c st=some (r,s')∧st.steps≤s'.steps∧s'.steps≤F+1∧s'.empty=decide (F<s'.steps)∧s'.ends=st.ends∧s'.ai=st.ai∧(s'.empty=true→r=none) ∧
   (∀e d,r=some (e,d)→i≤e∧e≤t.length∧cr t d∧d.length=c.length)∧((Task.run g i c).xF→st.steps<s'.steps):=by
 obtain⟨n,b,x,h1,h2,h3⟩:=h
 obtain⟨new,pM,k1,k2,k3,k4,k5,k6⟩:=h2.more
 simp only[Vx]at k1 k2
 have eB:=h2.s0
 have ga:=h2.s1
 have Nk:=h2.empty
 simp only at eB
 unfold cT
 cases he:x.empty with
 |true =>
  refine⟨n,none,{ st with steps:=x.steps,empty:=x.empty },?_,eB,ga,Nk,rfl,rfl,fun _=>rfl,fun e d h=>(by cases h),h3⟩
  rw[h1]
  simp only[he,if_true]
 |false =>
  cases hn:new with
  |nil =>
   refine⟨n,none,{ st with steps:=x.steps,empty:=x.empty },?_,eB,ga,Nk,rfl,rfl,fun _=>rfl,fun e d h=>(by cases h),h3⟩
   rw[hn]at k1
   rw[h1]
   simp only[he,Vw,if_false,k1]
  |cons e es =>
   rw[hn]at k1 k3 k5
   cases hc:pM with
   |nil=>rw[hc]at k3;cases k3
   |cons d ds =>
    rw[hc]at k2 k6
    refine⟨n,some (e,d),{ st with steps:=x.steps,empty:=x.empty },?_,eB,ga,Nk,rfl,rfl,fun h=>?_,fun e' d' h=>?_,h3⟩
    ·rw[h1]
     simp only[he,Vw,if_false,k1,k2]
    ·simp only[he]at h;cases h
    ·cases h
     have q1:=k5 e (by simp)
     have q2:=k6 d (by simp)
     exact⟨q1.1,q1.2,q2.1,q2.2⟩
theorem JI (c:aq):∀e∈(c.map aM).map (fun x=>x.map V.d),e.length=2:=by
 intro e he
 obtain⟨y,hy,rfl⟩:=List.mem_map.1 he
 obtain⟨z,_,rfl⟩:=List.mem_map.1 hy
 rfl
theorem Ar (l:aq) (hl:l.length≤1000000000):bI prog 93 [.d (bd l)] (.d (bd l)):=by
 unfold bd
 refine av func93 rfl ntmps93 results93 rfl 0 5 (by simp) (by simp) ?_
 cases l with
 |nil =>
  simp only[zX,simprocAttr,]
  first|rfl|exact⟨⟨_,rfl⟩,rfl⟩|exact⟨⟨_,rfl⟩,by simp,by simp⟩
 |cons x l =>
  simp only[zX,simprocAttr,]
  have he:(List.map V.d (aM x)::List.map (fun x=>List.map V.d x) (List.map aM l))=((x::l).map aM).map (fun c=>c.map V.d):=rfl
  simp only[VC]at hl
  refine⟨⟨_,rfl⟩,by rw[he];exact JI (x::l),⟨by omega,by simp⟩,?_⟩
  rw[he,nz 7 0 _ _ (0+(l.length+1)) (by simp),if_pos (by omega)]
  rfl
end Go.Proofs.Ytllagoeijcjpiaa
