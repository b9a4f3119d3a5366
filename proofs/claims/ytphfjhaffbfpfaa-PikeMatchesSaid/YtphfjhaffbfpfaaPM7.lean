/- A part of the proof (G1 G2 G3 F71). -/
import Derived.Test.YtphfjhaffbfpfaaPM3
import Derived.Test.YtphfjhaffbfpfaaPM6
set_option linter.all false
set_option maxRecDepth 100000
set_option maxHeartbeats 80000000
namespace Go.Proofs.Ytphfjhaffbfpfaa
open Go.VL Go.Proofs.Try
inductive Goal where
 |nil
 |mk (kind:Int) (re:Re) (k cq:Int) (next:Goal)
abbrev aC:=List (Int×Int)
def bQ (c:aC):D:=.sl (c.map aN)
def Goal.d:Goal->D
 |.nil=>.sc (.pointer none)
 |.mk kind re k cq next=>.el (iD kind::(re.cells++[iD k,iD cq,next.d]))
structure bd where
 steps:Int
 empty:Bool
 ends:List Int
 ah:List aC
inductive Task where
 |run (g:Goal) (i:Int) (c:aC)
 |rep (g:Goal) (i:Int) (c:aC)
 |node (g:Goal) (i:Int) (c:aC)
def gQ (t:List Int) (i:Int):Int:=t.getD i.toNat 0
def qn (x:Int):Bool:=(decide (48<=x)&&decide (x<=57))||((decide (65<=x)&&decide (x<=90))||((decide (97<=x)&&decide (x<=122))||decide (x=95)))
def ny (t:List Int) (i:Int):Bool:=decide (0<i)&&qn (gQ t (i-1))
def jX (t:List Int) (i:Int):Bool:=decide (i<t.length)&&qn (gQ t i)
def bN (n:Int) (t:List Int) (i:Int):Bool :=
 if n=0 then decide (i=0) else if n=1 then decide (i=t.length)
 else if n=2 then decide (i=0)||decide (gQ t (i-1)=10)
 else if n=3 then decide (i=t.length)||decide (gQ t i=10)
 else if n=4 then ny t i != jX t i
 else ny t i == jX t i
def tv (l:List (Int×Int)) (x:Int):Bool:=l.any λs=>decide (s.1<=x)&&decide (x<=s.2)
def kD (c:aC) (n cq to:Int):aC:=if 1<=n/\n<=c.length then c.set (n-1).toNat (cq,to) else c
def bH (c:aC) (n:Int):Int×Int:=if n<1\/(c.length:Int)<n then (-1,-1) else c.getD (n-1).toNat (-1,-1)
def Re.db (re:Re) (m:Int):Re:=.mk re.op re.set re.kids re.mn re.mx m re.n re.neg
def bd.step (fuel:Int) (st:bd):bd:={ st with steps:=st.steps+1,empty:=st.empty||decide (fuel<st.steps+1) }
def mz (r:Option (Bool×bd)) (k:bd->Option (Bool×bd)):Option (Bool×bd) :=
 match r with
 |none=>none
 |some (true,s)=>some (true,s)
 |some (false,s)=>k s
def bS (rec:Int->Task->bd->Option (Bool×bd)) (g:Goal) (i:Int) (c:aC) (st:bd):Option (Option (Int×aC)×bd) :=
 match rec 1 (.run g i c) ⟨st.steps,false,[],[]⟩ with
 |none=>none
 |some (_,x)=>if x.empty then some (none,{ st with steps:=x.steps,empty:=x.empty }) else match x.ends,x.ah with
   |[],_=>some (none,{ st with steps:=x.steps,empty:=x.empty })
   |e::_,d::_=>some (some (e,d),{ st with steps:=x.steps,empty:=x.empty })
   |_::_,[]=>none
def cz (f:Int->bd->Option (Option (Int×aC)×bd)):Nat->bd->Option (Option aC×bd)
 |0,st=>some (none,st)
 |n+1,st=>if st.empty then some (none,st) else match f n st with
  |none=>none
  |some (some (_,d),st')=>some (some d,st')
  |some (none,st')=>cz f n st'
def iR (rec:Int->Task->bd->Option (Bool×bd)) (op:Int) (aL:Re) (i:Int) (c:aC) (st:bd):Option (Option aC×bd) :=
 if op=7 then match bS rec (.mk 0 aL 0 0 .nil) i c st with
  |none=>none
  |some (r,st')=>some (r.map (·.2),st')
 else cz (λk st=>bS rec (.mk 0 aL 0 0 (.mk 4 (.mk 0 [] [] 0 0 0 0 false) 0 i .nil)) k c st) (i.toNat+1) st
def ft (kids:List Re) (next:Goal):Goal:=kids.foldr (λk nx=>.mk 0 k 0 0 nx) next
def lL (f:Re->bd->Option (Bool×bd)):List Re->bd->Option (Bool×bd)
 |[],st=>some (false,st)
 |k::l,st=>mz (f k st) (lL f l)
def dI (t:List Int) (a i:Int) (n:Nat):Bool:=(List.range n).all λj=>gQ t (a+j) == gQ t (i+j)
def dw (t:List Int) (rec:Int->Task->bd->Option (Bool×bd)) (ai:Int) (re:Re) (next:Goal) (i:Int) (c:aC) (st:bd):Option (Bool×bd) :=
 if re.op=1 then (if i<t.length/\tv re.set (gQ t i)=true then rec ai (.run next (i+1) c) st else some (false,st))
 else if re.op=2 then rec ai (.run (ft re.kids next) i c) st
 else if re.op=3 then lL (λk st=>rec ai (.run (.mk 0 k 0 0 next) i c) st) re.kids st
 else if re.op=5 then match re.kids with
  |[]=>none
  |aL::_=>rec ai (.run (.mk 0 aL 0 0 (.mk 3 re 0 i next)) i c) st
 else if re.op=6 then
  let x:=bH c re.n
  if x.1<0 then some (false,st)
  else if x.2<x.1\/(t.length:Int)<x.2 then none
  else if t.length<i+x.2-x.1 then some (false,st)
  else if dI t x.1 i (x.2-x.1).toNat=true then rec ai (.run next (i+x.2-x.1) c) st else some (false,st)
 else if re.op=7\/re.op=8 then match re.kids with
  |[]=>none
  |aL::_=>match iR rec re.op aL i c st with
   |none=>none
   |some (r,st') =>
    if st'.empty then some (true,st')
    else if re.neg=true then (match r with
     |some _=>some (false,st')
     |none=>rec ai (.run next i c) st')
    else match r with
     |some d=>rec ai (.run next i d) st'
     |none=>some (false,st')
 else if re.op=9 then match re.kids with
  |[]=>none
  |aL::_=>match bS rec (.mk 0 aL 0 0 .nil) i c st with
   |none=>none
   |some (r,st')=>if st'.empty then some (true,st') else match r with
    |some (e,d)=>rec ai (.run next e d) st'
    |none=>some (false,st')
 else if re.op=10 then match re.kids with
  |yes::no::_=>rec ai (.run (.mk 0 (if 0<=(bH c re.n).1 then yes else no) 0 0 next) i c) st
  |_=>none
 else if re.op=11 then (if bN re.n t i=true then rec ai (.run next i c) st else some (false,st))
 else rec ai (.run next i c) st
def lR (fuel:Int) (rec:Int->Task->bd->Option (Bool×bd)) (ai:Int) (re:Re) (k:Int) (next:Goal) (i:Int) (c:aC) (st:bd):Option (Bool×bd) :=
 if re.mode=2 then match bS rec (.mk 1 (re.db 0) 0 0 .nil) i c st with
  |none=>none
  |some (r,st')=>match r with
   |some (e,d)=>rec ai (.run next e d) st'
   |none=>some (st'.empty,st')
 else if st.steps<0\/10000000000000<st.steps then none
 else
  let s1:=st.step fuel
  if s1.empty then some (true,s1)
  else match re.kids with
   |[]=>none
   |aL::_ =>
    let more:=re.mx=-1\/k<re.mx;let once:bd->Option (Bool×bd):=λs=>rec ai (.run (.mk 0 aL 0 0 (.mk 2 re k i next)) i c) s
    if k<re.mn then once s1
    else if re.mode=1 then mz (rec ai (.run next i c) s1) (λs=>if more then once s else some (false,s))
    else mz (if more then once s1 else some (false,s1)) (λs=>rec ai (.run next i c) s)
def bL (t:List Int) (fuel:Int) (rec:Int->Task->bd->Option (Bool×bd)) (ai:Int):Task->bd->Option (Bool×bd)
 |.run g i c,st =>
  if i<0\/(t.length:Int)<i then none else match g with
  |.nil=>if st.ends.length<2000000000000/\st.ah.length=st.ends.length then some (decide (0<=ai)&&decide (ai<=(st.ends.length:Int)+1),{ st with ends:=st.ends++[i],ah:=st.ah++[c] }) else none
  |.mk kind re k cq next =>
   if kind=1 then rec ai (.rep (.mk kind re k cq next) i c) st
   else if kind=2 then (if re.mn<=k/\i=cq then some (false,st) else if k<0\/10000000000000<k then none else rec ai (.run (.mk 1 re (k+1) 0 next) i c) st)
   else if kind=3 then (if 1000000000<c.length then none else rec ai (.run next i (kD c re.n cq i)) st)
   else if kind=4 then (if i=cq then rec ai (.run next i c) st else some (false,st))
   else rec ai (.node (.mk kind re k cq next) i c) st
 |.rep g i c,st=>if i<0\/(t.length:Int)<i then none else match g with
  |.nil=>none
  |.mk _ re k _ next=>lR fuel rec ai re k next i c st
 |.node g i c,st=>if i<0\/(t.length:Int)<i then none else match g with
  |.nil=>none
  |.mk _ re _ _ next =>
   if re.op=4 then rec ai (.rep (.mk 1 re 0 0 next) i c) st
   else if 1000000000<re.set.length\/1000000000<re.kids.length\/1000000000<c.length then none
   else if st.steps<0\/10000000000000<st.steps then none
   else if (st.step fuel).empty then some (true,st.step fuel)
   else dw t rec ai re next i c (st.step fuel)
def dO (t:List Int) (fuel:Int):Nat->Int->Task->bd->Option (Bool×bd)
 |0=>λ_ _ _=>none
 |n+1=>bL t fuel (dO t fuel n)
section mono
variable {rec rec':Int->Task->bd->Option (Bool×bd)} (h:∀m task st r,rec m task st=some r->rec' m task st=some r)
variable{st:bd}{c:aC}{i:Int}{r:Bool×bd}{t:List Int}{next:Goal}{ai:Int}{fuel:Int}
include h
theorem gD {g:Goal}{r:Option (Int×aC)×bd} (hr:bS rec g i c st=some r):bS rec' g i c st=some r:=by
 unfold bS at hr ⊢;cases hx:rec 1 (.run g i c) ⟨st.steps,false,[],[]⟩ with
 |none=>rw[hx]at hr;cases hr
 |some x=>rw[hx]at hr;rw[h _ _ _ _ hx];exact hr
omit h in
theorem qT {a a':Option (Bool×bd)}{k k':bd->Option (Bool×bd)} (h1:∀r,a=some r->a'=some r) (h2:∀s r,k s=some r->k' s=some r) (hr:mz a k=some r):mz a' k'=some r:=by
 cases a with
 |none=>cases hr
 |some x =>
  rw[h1 x rfl];obtain⟨b,s⟩:=x;cases b with
  |true=>exact hr
  |false=>exact h2 s r hr
omit h in
theorem pL {f f':Int->bd->Option (Option (Int×aC)×bd)} (hf:∀k st r,f k st=some r->f' k st=some r):∀(n:Nat) (st:bd) (r:Option aC×bd),cz f n st=some r->cz f' n st=some r
 |0,_,_,hr=>hr
 |n+1,st,r,hr=>by
  simp only[cz]at hr ⊢;by_cases he:st.empty=true
  ·rw[ap he]at hr ⊢;exact hr
  ·rw[am he]at hr ⊢;cases hx:f n st with
   |none=>rw[hx]at hr;cases hr
   |some x =>
    rw[hx]at hr;rw[hf _ _ _ hx];obtain⟨o,s⟩:=x;cases o with
    |none=>exact pL hf n s r hr
    |some p=>exact hr
theorem uD {op:Int}{aL:Re}{r:Option aC×bd} (hr:iR rec op aL i c st=some r):iR rec' op aL i c st=some r:=by
 unfold iR at hr ⊢;by_cases o:op=7
 ·rw[ap o]at hr ⊢;cases hx:bS rec (.mk 0 aL 0 0 .nil) i c st with
  |none=>rw[hx]at hr;cases hr
  |some x=>rw[hx]at hr;rw[gD h hx];exact hr
 ·rw[am o]at hr ⊢;exact pL (λk st r hr=>gD h hr) _ _ _ hr
omit h in
theorem wP {f f':Re->bd->Option (Bool×bd)} (hf:∀k st r,f k st=some r->f' k st=some r):∀(l:List Re) (st:bd) (r:Bool×bd),lL f l st=some r->lL f' l st=some r
 |[],_,_,hr=>hr
 |k::l,st,r,hr=>by simp only[lL]at hr ⊢;exact qT (hf k st) (wP hf l) hr
theorem Ji{re:Re} (hr:dw t rec ai re next i c st=some r):dw t rec' ai re next i c st=some r:=by
 unfold dw at hr ⊢;by_cases o1:re.op=1
 ·rw[ap o1]at hr ⊢;by_cases hc:i<t.length/\tv re.set (gQ t i)=true
  ·rw[ap hc]at hr ⊢;exact h _ _ _ _ hr
  ·rw[am hc]at hr ⊢;exact hr
 rw[am o1]at hr ⊢;by_cases o2:re.op=2
 ·rw[ap o2]at hr ⊢;exact h _ _ _ _ hr
 rw[am o2]at hr ⊢;by_cases o3:re.op=3
 ·rw[ap o3]at hr ⊢;exact wP (λk st r hr=>h _ _ _ _ hr) _ _ _ hr
 rw[am o3]at hr ⊢;by_cases o5:re.op=5
 ·rw[ap o5]at hr ⊢;cases hk:re.kids with
  |nil=>rw[hk]at hr;cases hr
  |cons k l=>rw[hk]at hr;exact h _ _ _ _ hr
 rw[am o5]at hr ⊢;by_cases o6:re.op=6
 ·rw[ap o6]at hr ⊢;simp only at hr ⊢;by_cases c1:(bH c re.n).1<0
  ·rw[ap c1]at hr ⊢;exact hr
  rw[am c1]at hr ⊢;by_cases c2:(bH c re.n).2<(bH c re.n).1\/(t.length:Int)<(bH c re.n).2
  ·rw[ap c2]at hr;cases hr
  rw[am c2]at hr ⊢;by_cases c3:t.length<i+(bH c re.n).2-(bH c re.n).1
  ·rw[ap c3]at hr ⊢;exact hr
  rw[am c3]at hr ⊢;by_cases c4:dI t (bH c re.n).1 i ((bH c re.n).2-(bH c re.n).1).toNat=true
  ·rw[ap c4]at hr ⊢;exact h _ _ _ _ hr
  ·rw[am c4]at hr ⊢;exact hr
 rw[am o6]at hr ⊢;by_cases o7:re.op=7\/re.op=8
 ·rw[ap o7]at hr ⊢;cases hk:re.kids with
  |nil=>rw[hk]at hr;cases hr
  |cons k l =>
   rw[hk]at hr;simp only at hr ⊢;cases hx:iR rec re.op k i c st with
   |none=>rw[hx]at hr;cases hr
   |some x =>
    rw[hx]at hr;rw[uD h hx];obtain⟨o,s⟩:=x;simp only at hr ⊢;by_cases he:s.empty=true
    ·rw[ap he]at hr ⊢;exact hr
    rw[am he]at hr ⊢;by_cases hn:re.neg=true
    ·rw[ap hn]at hr ⊢;cases o with
     |none=>exact h _ _ _ _ hr
     |some d=>exact hr
    ·rw[am hn]at hr ⊢;cases o with
     |none=>exact hr
     |some d=>exact h _ _ _ _ hr
 rw[am o7]at hr ⊢;by_cases o9:re.op=9
 ·rw[ap o9]at hr ⊢;cases hk:re.kids with
  |nil=>rw[hk]at hr;cases hr
  |cons k l =>
   rw[hk]at hr;simp only at hr ⊢;cases hx:bS rec (.mk 0 k 0 0 .nil) i c st with
   |none=>rw[hx]at hr;cases hr
   |some x =>
    rw[hx]at hr;rw[gD h hx];obtain⟨o,s⟩:=x;simp only at hr ⊢;by_cases he:s.empty=true
    ·rw[ap he]at hr ⊢;exact hr
    rw[am he]at hr ⊢;cases o with
    |none=>exact hr
    |some d=>exact h _ _ _ _ hr
 rw[am o9]at hr ⊢;by_cases rF:re.op=10
 ·rw[ap rF]at hr ⊢
  match hk:re.kids with
  |[]=>rw[hk]at hr;cases hr
  |[_]=>rw[hk]at hr;cases hr
  |a::b::l=>rw[hk]at hr;exact h _ _ _ _ hr
 rw[am rF]at hr ⊢;by_cases nb:re.op=11
 ·rw[ap nb]at hr ⊢;by_cases hc:bN re.n t i=true
  ·rw[ap hc]at hr ⊢;exact h _ _ _ _ hr
  ·rw[am hc]at hr ⊢;exact hr
 rw[am nb]at hr ⊢;exact h _ _ _ _ hr
theorem Lc{re:Re}{k:Int} (hr:lR fuel rec ai re k next i c st=some r):lR fuel rec' ai re k next i c st=some r:=by
 unfold lR at hr ⊢;by_cases m:re.mode=2
 ·rw[ap m]at hr ⊢;cases hx:bS rec (.mk 1 (re.db 0) 0 0 .nil) i c st with
  |none=>rw[hx]at hr;cases hr
  |some x =>
   rw[hx]at hr;rw[gD h hx];obtain⟨o,s⟩:=x;cases o with
   |none=>exact hr
   |some d=>exact h _ _ _ _ hr
 rw[am m]at hr ⊢;by_cases c1:st.steps<0\/10000000000000<st.steps
 ·rw[ap c1]at hr;cases hr
 rw[am c1]at hr ⊢;simp only at hr ⊢;by_cases he:(st.step fuel).empty=true
 ·rw[ap he]at hr ⊢;exact hr
 rw[am he]at hr ⊢;cases hk:re.kids with
 |nil=>rw[hk]at hr;cases hr
 |cons aL l =>
  rw[hk]at hr;simp only at hr ⊢;by_cases c2:k<re.mn
  ·rw[ap c2]at hr ⊢;exact h _ _ _ _ hr
  rw[am c2]at hr ⊢;by_cases c3:re.mx=-1\/k<re.mx
  ·simp only[ap c3]at hr ⊢;by_cases c4:re.mode=1
   ·rw[ap c4]at hr ⊢;exact qT (λr hr=>h _ _ _ _ hr) (λs r hr=>h _ _ _ _ hr) hr
   ·rw[am c4]at hr ⊢;exact qT (λr hr=>h _ _ _ _ hr) (λs r hr=>h _ _ _ _ hr) hr
  ·simp only[am c3]at hr ⊢;by_cases c4:re.mode=1
   ·rw[ap c4]at hr ⊢;exact qT (λr hr=>h _ _ _ _ hr) (λs r hr=>hr) hr
   ·rw[am c4]at hr ⊢;exact qT (λr hr=>hr) (λs r hr=>h _ _ _ _ hr) hr
theorem El{task:Task} (hr:bL t fuel rec ai task st=some r):bL t fuel rec' ai task st=some r:=by
 cases task with
 |run g i c =>
  simp only[bL]at hr ⊢;by_cases hi:i<0\/(t.length:Int)<i
  ·rw[ap hi]at hr;cases hr
  rw[am hi]at hr ⊢;cases g with
  |nil=>exact hr
  |mk kind re k cq next =>
   simp only at hr ⊢;by_cases k1:kind=1
   ·rw[ap k1]at hr ⊢;exact h _ _ _ _ hr
   rw[am k1]at hr ⊢;by_cases k2:kind=2
   ·rw[ap k2]at hr ⊢;by_cases c1:re.mn<=k/\i=cq
    ·rw[ap c1]at hr ⊢;exact hr
    rw[am c1]at hr ⊢;by_cases c2:k<0\/10000000000000<k
    ·rw[ap c2]at hr;cases hr
    rw[am c2]at hr ⊢;exact h _ _ _ _ hr
   rw[am k2]at hr ⊢;by_cases k3:kind=3
   ·rw[ap k3]at hr ⊢;by_cases c1:1000000000<c.length
    ·rw[ap c1]at hr;cases hr
    rw[am c1]at hr ⊢;exact h _ _ _ _ hr
   rw[am k3]at hr ⊢;by_cases k4:kind=4
   ·rw[ap k4]at hr ⊢;by_cases c1:i=cq
    ·rw[ap c1]at hr ⊢;exact h _ _ _ _ hr
    ·rw[am c1]at hr ⊢;exact hr
   rw[am k4]at hr ⊢;exact h _ _ _ _ hr
 |rep g i c =>
  simp only[bL]at hr ⊢;by_cases hi:i<0\/(t.length:Int)<i
  ·rw[ap hi]at hr;cases hr
  rw[am hi]at hr ⊢;cases g with
  |nil=>cases hr
  |mk kind re k cq next=>exact Lc h hr
 |node g i c =>
  simp only[bL]at hr ⊢;by_cases hi:i<0\/(t.length:Int)<i
  ·rw[ap hi]at hr;cases hr
  rw[am hi]at hr ⊢;cases g with
  |nil=>cases hr
  |mk kind re k cq next =>
   simp only at hr ⊢;by_cases o4:re.op=4
   ·rw[ap o4]at hr ⊢;exact h _ _ _ _ hr
   rw[am o4]at hr ⊢;by_cases c0:1000000000<re.set.length\/1000000000<re.kids.length\/1000000000<c.length
   ·rw[ap c0]at hr;cases hr
   rw[am c0]at hr ⊢;by_cases c1:st.steps<0\/10000000000000<st.steps
   ·rw[ap c1]at hr;cases hr
   rw[am c1]at hr ⊢;by_cases he:(st.step fuel).empty=true
   ·rw[ap he]at hr ⊢;exact hr
   rw[am he]at hr ⊢;exact Ji h hr
end mono
variable{st:bd}{t:List Int}{r:Bool×bd}{fuel:Int}{task:Task}{n':Nat}{i':Int}{i:Int}{F:Int}{sl:Int}{nc:Nat}{st':bd}{b:Bool}
theorem EB {t:List Int}{fuel:Int}:∀(n:Nat) (m:Int) (task:Task) (st:bd) (r:Bool×bd),dO t fuel n m task st=some r->dO t fuel (n+1) m task st=some r
 |0,_,_,_,_,hr=>by cases hr
 |n+1,m,task,st,r,hr=>El (rec:=dO t fuel n) (λm task st r hr=>EB n m task st r hr) hr
theorem eu{n:Nat} (hn:n<=n') {m:Int} (hr:dO t fuel n m task st=some r):dO t fuel n' m task st=some r:=by
 induction hn with
 |refl=>exact hr
 |step _ ih=>exact EB _ _ _ _ _ ih
theorem RM{n:Nat}{m:Int}{r':Bool×bd} (h1:dO t fuel n m task st=some r) (h2:dO t fuel n' m task st=some r'):r=r':=by have e1:=eu (Nat.le_max_left n n') h1;have e2:=eu (Nat.le_max_right n n') h2;rw[e1]at e2;exact Option.some.inj e2
def ja (re:Re):Bool:=decide ((re.op=4\/re.op=5\/re.op=7\/re.op=8\/re.op=9->re.kids≠[])/\(re.op=10->2<=re.kids.length)/\re.set.length<=1000000000/\re.kids.length<=1000000000)
def Nc (t:List Int) (p:Int×Int):Prop:=p=(-1,-1)\/(0<=p.1/\p.1<=p.2/\p.2<=t.length)
def dj (t:List Int) (c:aC):Prop:=c.length<=1000000000/\∀p∈c,Nc t p
def iY (t:List Int) (i s:Int):Goal->Prop
 |.nil=>True
 |.mk kind re k cq next=>(0<=kind/\kind<=4)/\re.every ja=true/\(kind=1\/kind=2->re.op=4)/\(kind=1->0<=k/\k<=s)/\(kind=2->0<=k/\k<s)/\(kind=3->0<=cq/\cq<=i)/\iY t i s next
theorem iY.mono{s s':Int} (hi:i<=i') (hs:s<=s'):∀{g:Goal},iY t i s g->iY t i' s' g
 |.nil,_=>trivial
 |.mk _ _ _ _ _,h=>by obtain⟨h0,h1,h2,h3,h4,h5,h6⟩:=h;exact⟨h0,h1,h2,λk=>by have:=h3 k;omega,λk=>by have:=h4 k;omega,λk=>by have:=h5 k;omega,h6.mono hi hs⟩
def vI:Goal->Nat
 |.nil=>0
 |.mk kind re _ _ next=>if kind=1 then (if re.mode=2 then 4 else 2) else if kind=2 then 5 else if kind=3\/kind=4 then 7+vI next else 6
def ey:Goal->Int
 |.nil=>1
 |.mk kind _ _ _ next=>if kind=3\/kind=4 then ey next else 0
theorem gP:∀g:Goal,0<=ey g/\ey g<=1
 |.nil=>by simp [ey]
 |.mk kind _ _ _ next=>by
  have:=gP next
  unfold ey;split
  ·exact this
  ·omega
def Task.wz:Task->Nat
 |.run g _ _=>vI g
 |.rep (.mk _ re _ _ _) _ _=>if re.mode=2 then 3 else 1
 |.rep .nil _ _=>0
 |.node _ _ _=>5
def Task.gH:Task->Int
 |.run g _ _=>ey g
 |_=>0
def Task.pos:Task->Int
 |.run _ i _=>i
 |.rep _ i _=>i
 |.node _ i _=>i
def Task.ah:Task->aC
 |.run _ _ c=>c
 |.rep _ _ c=>c
 |.node _ _ c=>c
def Task.yT:Task->Prop
 |.run (.mk kind re _ _ _) _ _=>kind=1/\re.mode≠2
 |.run .nil _ _=>False
 |.rep (.mk _ re _ _ _) _ _=>re.mode≠2
 |.rep .nil _ _=>False
 |.node (.mk _ re _ _ _) _ _=>re.op≠4
 |.node .nil _ _=>False
def Task.ok (t:List Int) (s:Int):Task->Prop
 |.run g i _=>iY t i s g
 |.rep .nil _ _=>False
 |.rep (.mk _ re k _ next) i _=>re.every ja=true/\re.op=4/\0<=k/\k<=s/\iY t i s next
 |.node .nil _ _=>False
 |.node (.mk _ re _ _ next) i _=>re.every ja=true/\iY t i s next
structure Pre (t:List Int) (F:Int) (task:Task) (st:bd):Prop where
 ok:task.ok t st.steps
 i0:0<=task.pos
 i1:task.pos<=t.length
 ah:dj t task.ah
 empty:st.empty=false
 s0:0<=st.steps
 s1:st.steps<=F
 ends:(st.ends.length:Int)+task.gH<=st.steps
 same:st.ah.length=st.ends.length
structure eo (t:List Int) (F:Int) (sl i:Int) (nc:Nat) (st:bd) (b:Bool) (st':bd):Prop where
 s0:st.steps<=st'.steps
 s1:st'.steps<=F+1
 empty:st'.empty=decide (F<st'.steps)
 full:st'.empty=true->b=true
 more:∃new mR,st'.ends=st.ends++new/\st'.ah=st.ah++mR/\mR.length=new.length/\(new.length:Int)<=st'.steps-st.steps+sl/\(∀e∈new,i<=e/\e<=t.length)/\∀d∈mR,dj t d/\d.length=nc
theorem eo.oX{sl':Int} (h:eo t F sl i nc st b st') (hs:sl<=sl') (hi:i'<=i):eo t F sl' i' nc st b st':=by obtain⟨new,mR,h1,h2,h3,h4,h5,h6⟩:=h.more;exact⟨h.s0,h.s1,h.empty,h.full,new,mR,h1,h2,h3,by omega,λe he=>⟨by have:=h5 e he;omega,(h5 e he).2⟩,h6⟩
theorem eo.trans{sl1 ZF:Int}{s2:bd}{b1:Bool} (h:eo t F sl1 i nc st b1 s2) (k:eo t F ZF i nc s2 b st'):eo t F (sl1+ZF) i nc st b st':=by
 obtain⟨new,mR,h1,h2,h3,h4,h5,h6⟩:=h.more;obtain⟨V2,Sw,k1,k2,k3,k4,k5,k6⟩:=k.more;refine⟨by have:=h.s0;have:=k.s0;omega,k.s1,k.empty,k.full,new++V2,mR++Sw,by rw[k1,h1,adX],by rw[k2,h2,adX],by simp [h3,k3],by simp only[adx,aef];omega,λe he=>?_,λd hd=>?_⟩
 ·rcases List.mem_append.1 he with he|he
  ·exact h5 e he
  ·exact k5 e he
 ·rcases List.mem_append.1 hd with hd|hd
  ·exact h6 d hd
  ·exact k6 d hd
theorem eo.step (h:eo t F sl i nc (st.step F) b st'):eo t F (sl-1) i nc st b st':=by obtain⟨new,mR,h1,h2,h3,h4,h5,h6⟩:=h.more;have hs:(st.step F).steps=st.steps+1:=rfl;rw[hs]at h4;exact⟨by have:=h.s0;rw[hs]at this;omega,h.s1,h.empty,h.full,new,mR,h1,h2,h3,by omega,h5,h6⟩
theorem eo.no (h1:st.steps<=F) (h2:st.empty=false) (hs:0<=sl):eo t F sl i nc st false st :=
 ⟨ady _,by omega,by rw[h2,adl (by omega)],λh=>(by rw[h2]at h;cases h),[],[],by simp,by simp,rfl,(by simp;omega),by simp,by simp⟩
theorem eo.out (h1:st.steps<=F) (h2:(st.step F).empty=true) (he:st.empty=false):eo t F 0 i nc st true (st.step F):=by
 have hs:(st.step F).steps=st.steps+1:=rfl;have hd:F<st.steps+1:=by simp only[bd.step,he,adY,adC]at h2;exact h2
 exact⟨by rw[hs];omega,by rw[hs];omega,by rw[h2,hs,adu hd],λ_=>rfl,[],[],by simp [bd.step],by simp [bd.step],rfl,(by rw[hs];simp;try omega),by simp,by simp⟩
def Ends (t:List Int) (F ai:Int) (task:Task) (st:bd):Prop :=
 ∃n b st',dO t F n ai task st=some (b,st')/\eo t F task.gH task.pos task.ah.length st b st'/\(task.yT->st.steps<st'.steps)
structure kP (t:List Int) (F:Int) (i:Int) (c:aC) (sl:Int) (st:bd):Prop where
 i0:0<=i
 i1:i<=t.length
 ah:dj t c
 empty:st.empty=false
 s0:0<=st.steps
 s1:st.steps<=F
 ends:(st.ends.length:Int)+sl<=st.steps
 same:st.ah.length=st.ends.length
theorem qi{g:Goal}{c:aC} (H:kP t F i c sl st) (h:Ends t F 1 (.run g i c) ⟨st.steps,false,[],[]⟩) (sO:ey g=0) :
  ∃n r s',bS (dO t F n) g i c st=some (r,s')/\st.steps<=s'.steps/\s'.steps<=F+1/\s'.empty=decide (F<s'.steps)/\s'.ends=st.ends/\s'.ah=st.ah/\(s'.empty=true->r=none) /\
   (∀e d,r=some (e,d)->i<=e/\e<=t.length/\dj t d/\d.length=c.length)/\((Task.run g i c).yT->st.steps<s'.steps):=by
 obtain⟨n,b,x,h1,h2,h3⟩:=h;obtain⟨new,mR,k1,k2,k3,k4,k5,k6⟩:=h2.more;simp only[adt]at k1 k2;have fW:=h2.s0;have eC:=h2.s1;have lP:=h2.empty;simp only at fW;unfold bS;cases he:x.empty with
 |true =>
  refine⟨n,none,{ st with steps:=x.steps,empty:=x.empty },?_,fW,eC,lP,rfl,rfl,λ_=>rfl,λe d h=>(by cases h),h3⟩;rw[h1];simp only[he,if_true]
 |false =>
  cases hn:new with
  |nil =>
   refine⟨n,none,{ st with steps:=x.steps,empty:=x.empty },?_,fW,eC,lP,rfl,rfl,λ_=>rfl,λe d h=>(by cases h),h3⟩;rw[hn]at k1;rw[h1];simp only[he,adq,if_false,k1]
  |cons e es =>
   rw[hn]at k1 k3 k5;cases hc:mR with
   |nil=>rw[hc]at k3;cases k3
   |cons d ds =>
    rw[hc]at k2 k6;refine⟨n,some (e,d),{ st with steps:=x.steps,empty:=x.empty },?_,fW,eC,lP,rfl,rfl,λh=>?_,λe' d' h=>?_,h3⟩
    ·rw[h1];simp only[he,adq,if_false,k1,k2]
    ·simp only[he]at h;cases h
    ·cases h;have q1:=k5 e (by simp);have q2:=k6 d (by simp);exact⟨q1.1,q1.2,q2.1,q2.2⟩
theorem Nt (c:aC):∀e∈(c.map aN).map (λx=>x.map V.d),e.length=2:=by intro e he;obtain⟨y,hy,rfl⟩:=List.mem_map.1 he;obtain⟨z,_,rfl⟩:=List.mem_map.1 hy;rfl
theorem CF (l:aC) (hl:l.length<=1000000000):ba prog 46 [.d (bQ l)] (.d (bQ l)):=by
 unfold bQ;refine ar func46 rfl ntmps46 results46 rfl 0 5 (by simp) (by simp) ?_;cases l with
 |nil =>
  simp only[zX,simprocAttr,];first|rfl|exact⟨⟨_,rfl⟩,rfl⟩|exact⟨⟨_,rfl⟩,by simp,by simp⟩
 |cons x l =>
  simp only[zX,simprocAttr,];have he:(List.map V.d (aN x)::List.map (λx=>List.map V.d x) (List.map aN l))=((x::l).map aN).map (λc=>c.map V.d):=rfl;simp only[adA]at hl;refine⟨⟨_,rfl⟩,by rw[he];exact Nt (x::l),⟨by omega,by simp⟩,?_⟩;rw[he,lB 7 0 _ _ (0+(l.length+1)) (by simp),ap (by omega)];rfl
end Go.Proofs.Ytphfjhaffbfpfaa
