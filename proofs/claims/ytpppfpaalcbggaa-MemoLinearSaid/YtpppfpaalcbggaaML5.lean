/- A part of the proof (G1 MM1 MM4 MM5 MM6 G25B F71). -/
import Derived.RangeFuncKeeps
import Derived.RangeFuncLeaves
import Derived.Shelf.Abstract
import Derived.WalkKit
import Derived.OwnWalkIn
import Derived.TacticsInMore
import Derived.LoopNIn
import Derived.LoopIn
import Derived.Test.YtpppfpaalcbggaaProg
import Derived.Test.YtpppfpaalcbggaaML3
import Derived.Test.YtpppfpaalcbggaaML4
set_option linter.unusedSimpArgs false
set_option linter.unusedVariables false
set_option maxRecDepth 100000
set_option maxHeartbeats 80000000
namespace Go.Proofs.Ytpppfpaalcbggaa
open Go.VL Go.Proofs.Try
inductive Goal where
 | nil
 | mk (kind:Int) (re:Re) (k frm:Int) (next:Goal)
abbrev CapsL:=List (Int × Int)
def capD (c:CapsL):D:=.sl (c.map spanC)
def Goal.d:Goal→D
 | .nil=>.sc (.pointer none)
 | .mk kind re k frm next=>.el (iD kind::(re.cells++[iD k,iD frm,next.d]))
structure Sst where
 steps:Int
 empty:Bool
 ends:List Int
 caps:List CapsL
inductive Task where
 | run (g:Goal) (i:Int) (c:CapsL)
 | rep (g:Goal) (i:Int) (c:CapsL)
 | node (g:Goal) (i:Int) (c:CapsL)
def tAt (t:List Int) (i:Int):Int:=t.getD i.toNat 0
def wordB (x:Int):Bool:=(decide (48≤x)&&decide (x≤57))||((decide (65≤x)&&decide (x≤90))||((decide (97≤x)&&decide (x≤122))||decide (x=95)))
def leftB (t:List Int) (i:Int):Bool:=decide (0 < i)&&wordB (tAt t (i - 1))
def rightB (t:List Int) (i:Int):Bool:=decide (i < t.length)&&wordB (tAt t i)
def holdsR (n:Int) (t:List Int) (i:Int):Bool :=
 if n=0 then decide (i=0) else if n=1 then decide (i=t.length)
 else if n=2 then decide (i=0)||decide (tAt t (i - 1)=10)
 else if n=3 then decide (i=t.length)||decide (tAt t i=10)
 else if n=4 then leftB t i != rightB t i
 else leftB t i == rightB t i
def inB (l:List (Int × Int)) (x:Int):Bool:=l.any fun s=>decide (s.1≤x)&&decide (x≤s.2)
def withR (c:CapsL) (n frm to:Int):CapsL:=if 1≤n∧n≤c.length then c.set (n - 1).toNat (frm,to) else c
def spanR (c:CapsL) (n:Int):Int × Int:=if n < 1∨(c.length:Int) < n then (-1,-1) else c.getD (n - 1).toNat (-1,-1)
def Re.setMode (re:Re) (m:Int):Re:=.mk re.op re.set re.kids re.mn re.mx m re.n re.neg
def Sst.step (fuel:Int) (st:Sst):Sst:={ st with steps:=st.steps + 1,empty:=st.empty||decide (fuel < st.steps + 1) }
def orR (r:Option (Bool × Sst)) (k:Sst→Option (Bool × Sst)):Option (Bool × Sst) :=
 match r with
 | none=>none
 | some (true,s)=>some (true,s)
 | some (false,s)=>k s
def firstR (rec:Int→Task→Sst→Option (Bool × Sst)) (g:Goal) (i:Int) (c:CapsL) (st:Sst):Option (Option (Int × CapsL) × Sst) :=
 match rec 1 (.run g i c) ⟨st.steps,false,[],[]⟩ with
 | none=>none
 | some (_,x)=>if x.empty then some (none,{ st with steps:=x.steps,empty:=x.empty }) else match x.ends,x.caps with
   | [],_=>some (none,{ st with steps:=x.steps,empty:=x.empty })
   | e::_,d::_=>some (some (e,d),{ st with steps:=x.steps,empty:=x.empty })
   | _::_,[]=>none
def behindR (f:Int→Sst→Option (Option (Int × CapsL) × Sst)):Nat→Sst→Option (Option CapsL × Sst)
 | 0,st=>some (none,st)
 | n + 1,st=>if st.empty then some (none,st) else match f n st with
  | none=>none
  | some (some (_,d),st')=>some (some d,st')
  | some (none,st')=>behindR f n st'
def lookR (rec:Int→Task→Sst→Option (Bool × Sst)) (op:Int) (kid:Re) (i:Int) (c:CapsL) (st:Sst):Option (Option CapsL × Sst) :=
 if op=7 then match firstR rec (.mk 0 kid 0 0 .nil) i c st with
  | none=>none
  | some (r,st')=>some (r.map (·.2),st')
 else behindR (fun k st=>firstR rec (.mk 0 kid 0 0 (.mk 4 (.mk 0 [] [] 0 0 0 0 false) 0 i .nil)) k c st) (i.toNat + 1) st
def pushAll (kids:List Re) (next:Goal):Goal:=kids.foldr (fun k nx=>.mk 0 k 0 0 nx) next
def altR (f:Re→Sst→Option (Bool × Sst)):List Re→Sst→Option (Bool × Sst)
 | [],st=>some (false,st)
 | k::l,st=>orR (f k st) (altR f l)
def sameR (t:List Int) (a i:Int) (n:Nat):Bool:=(List.range n).all fun j=>tAt t (a + j) == tAt t (i + j)
def nodeR (t:List Int) (rec:Int→Task→Sst→Option (Bool × Sst)) (most:Int) (re:Re) (next:Goal) (i:Int) (c:CapsL) (st:Sst):Option (Bool × Sst) :=
 if re.op=1 then (if i < t.length∧inB re.set (tAt t i)=true then rec most (.run next (i + 1) c) st else some (false,st))
 else if re.op=2 then rec most (.run (pushAll re.kids next) i c) st
 else if re.op=3 then altR (fun k st=>rec most (.run (.mk 0 k 0 0 next) i c) st) re.kids st
 else if re.op=5 then match re.kids with
  | []=>none
  | kid::_=>rec most (.run (.mk 0 kid 0 0 (.mk 3 re 0 i next)) i c) st
 else if re.op=6 then
  let x:=spanR c re.n
  if x.1 < 0 then some (false,st)
  else if x.2 < x.1∨(t.length:Int) < x.2 then none
  else if t.length < i + x.2 - x.1 then some (false,st)
  else if sameR t x.1 i (x.2 - x.1).toNat=true then rec most (.run next (i + x.2 - x.1) c) st else some (false,st)
 else if re.op=7∨re.op=8 then match re.kids with
  | []=>none
  | kid::_=>match lookR rec re.op kid i c st with
   | none=>none
   | some (r,st') =>
    if st'.empty then some (true,st')
    else if re.neg=true then (match r with
     | some _=>some (false,st')
     | none=>rec most (.run next i c) st')
    else match r with
     | some d=>rec most (.run next i d) st'
     | none=>some (false,st')
 else if re.op=9 then match re.kids with
  | []=>none
  | kid::_=>match firstR rec (.mk 0 kid 0 0 .nil) i c st with
   | none=>none
   | some (r,st')=>if st'.empty then some (true,st') else match r with
    | some (e,d)=>rec most (.run next e d) st'
    | none=>some (false,st')
 else if re.op=10 then match re.kids with
  | yes::no::_=>rec most (.run (.mk 0 (if 0≤(spanR c re.n).1 then yes else no) 0 0 next) i c) st
  | _=>none
 else if re.op=11 then (if holdsR re.n t i=true then rec most (.run next i c) st else some (false,st))
 else rec most (.run next i c) st
def repR (fuel:Int) (rec:Int→Task→Sst→Option (Bool × Sst)) (most:Int) (re:Re) (k:Int) (next:Goal) (i:Int) (c:CapsL) (st:Sst):Option (Bool × Sst) :=
 if re.mode=2 then match firstR rec (.mk 1 (re.setMode 0) 0 0 .nil) i c st with
  | none=>none
  | some (r,st')=>match r with
   | some (e,d)=>rec most (.run next e d) st'
   | none=>some (st'.empty,st')
 else if st.steps < 0∨10000000000000 < st.steps then none
 else
  let s1:=st.step fuel
  if s1.empty then some (true,s1)
  else match re.kids with
   | []=>none
   | kid::_ =>
    let more:=re.mx=-1∨k < re.mx
    let once:Sst→Option (Bool × Sst):=fun s=>rec most (.run (.mk 0 kid 0 0 (.mk 2 re k i next)) i c) s
    if k < re.mn then once s1
    else if re.mode=1 then orR (rec most (.run next i c) s1) (fun s=>if more then once s else some (false,s))
    else orR (if more then once s1 else some (false,s1)) (fun s=>rec most (.run next i c) s)
def evStep (t:List Int) (fuel:Int) (rec:Int→Task→Sst→Option (Bool × Sst)) (most:Int):Task→Sst→Option (Bool × Sst)
 | .run g i c,st =>
  if i < 0∨(t.length:Int) < i then none else match g with
  | .nil=>if st.ends.length < 2000000000000∧st.caps.length=st.ends.length then some (decide (0≤most)&&decide (most≤(st.ends.length:Int) + 1),{ st with ends:=st.ends++[i],caps:=st.caps++[c] }) else none
  | .mk kind re k frm next =>
   if kind=1 then rec most (.rep (.mk kind re k frm next) i c) st
   else if kind=2 then (if re.mn≤k∧i=frm then some (false,st) else if k < 0∨10000000000000 < k then none else rec most (.run (.mk 1 re (k + 1) 0 next) i c) st)
   else if kind=3 then (if 1000000000 < c.length then none else rec most (.run next i (withR c re.n frm i)) st)
   else if kind=4 then (if i=frm then rec most (.run next i c) st else some (false,st))
   else rec most (.node (.mk kind re k frm next) i c) st
 | .rep g i c,st=>if i < 0∨(t.length:Int) < i then none else match g with
  | .nil=>none
  | .mk _ re k _ next=>repR fuel rec most re k next i c st
 | .node g i c,st=>if i < 0∨(t.length:Int) < i then none else match g with
  | .nil=>none
  | .mk _ re _ _ next =>
   if re.op=4 then rec most (.rep (.mk 1 re 0 0 next) i c) st
   else if 1000000000 < re.set.length∨1000000000 < re.kids.length∨1000000000 < c.length then none
   else if st.steps < 0∨10000000000000 < st.steps then none
   else if (st.step fuel).empty then some (true,st.step fuel)
   else nodeR t rec most re next i c (st.step fuel)
def evR (t:List Int) (fuel:Int):Nat→Int→Task→Sst→Option (Bool × Sst)
 | 0=>fun _ _ _=>none
 | n + 1=>evStep t fuel (evR t fuel n)
inductive Nd where
 | mk (re:Re) (id:Int) (kids:List Nd) (loop:Bool)
def Nd.re:Nd→Re | .mk re _ _ _=>re
def Nd.id:Nd→Int | .mk _ i _ _=>i
def Nd.kids:Nd→List Nd | .mk _ _ k _=>k
def Nd.loop:Nd→Bool | .mk _ _ _ l=>l
mutual
def Nd.d:Nd→D
 | .mk re id kids loop=>.el [.el re.cells,.sc (.int .i64 id),.sl (Nd.ds kids),.sc (.bool loop)]
def Nd.ds:List Nd→List (List D)
 | []=>[]
 | n::l=>[n.d]::Nd.ds l
end
inductive Gl where
 | nil
 | mk (kind:Int) (node:Option Nd) (n at_ env:Int) (next:Gl)
def ndO:Option Nd→D
 | none=>.sc (.pointer none)
 | some n=>n.d
def Gl.d:Gl→D
 | .nil=>.sc (.pointer none)
 | .mk kind node n at_ env next=>.el [.sc (.int .i64 kind),ndO node,.sc (.int .i64 n),.sc (.int .i64 at_),.sc (.int .i64 env),next.d]
structure MPl where
 at_:Int
 caps:Option CapsL
 todo:Gl
def MPl.zero:MPl:=⟨0,none,.nil⟩
structure Frm where
 env:Int
 node:Int
 n:Int
 at_:Int
deriving DecidableEq
structure Beg where
 node:Int
 kind:Int
 n:Int
 at_:Int
 stop:Int
 env:Int
 caps:Int
deriving DecidableEq
inductive Ltr where
 | place (p:MPl)
 | note (b:Beg)
structure Mm where
 root:Nd
 t:List Int
 failed:List Beg
 stk:List Ltr
 top:Nat
 gen:Nat
 stop:Int
 steps:Int
 fuel:Int
 spent:Bool
 depends:Bool
 frames:List (Frm × Int)
abbrev RsM:=Mm × MPl × Bool
def Mm.push (m:Mm) (x:Ltr):Mm:={ m with stk:=m.stk.take m.top++[x],top:=m.top + 1,gen:=m.gen + 1 }
def Mm.pop (m:Mm):Mm:={ m with top:=m.top - 1 }
def Ltr.zero:Ltr:=.place .zero
def Mm.clear (m:Mm) (base:Nat):Mm:={ m with stk:=m.stk.take base++(List.replicate (m.top - base) Ltr.zero++m.stk.drop m.top),top:=base }
def countedR (re:Re) (n:Int):Int:=if re.mx=-1 then min n re.mn else n
def Mm.inside (m:Mm) (f:Frm):Option (Mm × Int) :=
 match m.frames.find? (fun p=>decide (p.1=f)) with
 | some x=>if m.frames.all (fun p=>decide (p.1=f→p.2=x.2))=true then some (m,x.2) else none
 | none=>if 1000000000 < m.frames.length then none else some ({ m with frames:=m.frames++[(f,(m.frames.length:Int) + 1)] },(m.frames.length:Int) + 1)
def fit16 (x:Int):Bool:=decide (-32768≤x∧x < 32768)
def fit32 (x:Int):Bool:=decide (-2147483648≤x∧x < 2147483648)
def Mm.describe (m:Mm) (p:MPl):Option Beg :=
 if m.depends=true then none else match p.todo with
 | .mk kind (some nd) n _ env _ =>
   let k:=if kind=1 then countedR nd.re n else 0
   if (fit16 nd.id&&fit16 kind&&fit16 k&&fit32 p.at_&&fit32 m.stop&&fit32 env)=true then
    some ⟨nd.id,kind,k,p.at_,m.stop,env,0⟩
   else none
 | _=>none
def Mm.enter (m:Mm) (p:MPl):Option (Mm × Bool) :=
 match m.describe p with
 | none=>none
 | some b =>
  if b∈m.failed then some (m,false)
  else if m.fuel≤m.steps then some ({ m with spent:=true },false)
  else some ({ m with steps:=m.steps + 1 }.push (.note b),true)
def Mm.fail (m:Mm) (b:Beg):Mm:=if b∈m.failed then m else { m with failed:=m.failed++[b] }
abbrev RecM:=Mm→Nat→MPl→Option RsM
def firstM (rec:RecM) (m:Mm) (p:MPl) (stop:Int):Option RsM :=
 match rec { m with stop:=stop } m.top p with
 | none=>none
 | some (m',p',found)=>if m'.top < m.top∨m'.stk.length < m'.top then none else some ({ m' with stop:=m.stop }.clear m.top,p',found)
def aloneM (rec:RecM) (m:Mm) (p:MPl) (part:Gl):Option RsM :=
 match firstM rec m { p with todo:=part } (-1) with
 | none=>none
 | some (m',r,found)=>some (m',{ r with todo:=p.todo },found)
def goM (p:MPl) (kind:Int) (nd:Nd) (n at_ env:Int):MPl:={ p with todo:=.mk kind (some nd) n at_ env p.todo }
def repM (rec:RecM) (m:Mm) (nd:Nd) (env:Int) (p:MPl):Option RsM :=
 if nd.re.mode=2 then aloneM rec m p (.mk 1 (some nd) 0 0 0 .nil) else some (m,goM p 1 nd 0 0 env,true)
def roundM (m:Mm) (nd:Nd) (n env:Int) (p:MPl):Option RsM :=
 match nd.kids with
 | []=>none
 | kid::_ =>
  let re:=nd.re
  let under:Frm:=⟨env,nd.id,countedR re n,if nd.loop=true∧re.mn≤n then p.at_ else -1⟩
  if re.mn≤n∧0≤re.mx∧re.mx≤n then some (m,p,true)
  else
   let after:Gl:=.mk (if n < re.mn then 1 else 2) (some nd) (n + 1) p.at_ env p.todo
   match m.inside under with
   | none=>none
   | some x =>
    let more:MPl:={ p with todo:=.mk 0 (some kid) 0 0 x.2 after }
    if n < re.mn then some (x.1,more,true)
    else if re.mode=1 then some (x.1.push (.place more),p,true)
    else some (x.1.push (.place p),more,true)
def setM (t:List Int) (re:Re) (p:MPl):MPl × Bool :=
 if p.at_ < t.length∧inB re.set (tAt t p.at_)=true then ({ p with at_:=p.at_ + 1 },true) else (.zero,false)
def pushM (kids:List Nd) (env:Int) (next:Gl):Gl:=kids.foldr (fun k nx=>.mk 0 (some k) 0 0 env nx) next
def altM (p:MPl) (env:Int):List Nd→Mm→Mm × MPl
 | [],m=>(m,p)
 | [k],m=>(m,goM p 0 k 0 0 env)
 | k::l,m=>((l.foldr (fun (y:Nd) (m:Mm)=>m.push (.place (goM p 0 y 0 0 env))) m),goM p 0 k 0 0 env)
def beginM (rec:RecM) (m:Mm) (nd:Nd) (env:Int) (p:MPl):Option RsM :=
 let re:=nd.re
 if re.op=1 then some (m,setM m.t re p)
 else if re.op=2 then some (m,{ p with todo:=pushM nd.kids env p.todo },true)
 else if re.op=3 then (let x:=altM p env nd.kids m; some (x.1,x.2,true))
 else if re.op=0 then some (m,p,true)
 else none
def Mm.good (m:Mm) (p:MPl):Prop:=(0≤m.steps∧m.steps≤10000000000000∧m.top≤m.stk.length∧m.top≤1200000000000)∧(0≤p.at_∧p.at_≤m.t.length)∧m.t.length≤1000000
instance (m:Mm) (p:MPl):Decidable (m.good p):=by unfold Mm.good; infer_instance
def advM (rec:RecM) (m:Mm) (p:MPl):Option RsM :=
 if ¬m.good p then none else match p.todo with
 | .nil=>none
 | .mk kind node n at_ env next =>
  let q:={ p with todo:=next }
  if n < 0∨10000000000000 < n then none
  else match node with
  | none=>none
  | some nd =>
   if 1000000000 < nd.re.set.length∨1000000000 < nd.kids.length then none
   else if kind=0 then
    if nd.re.op=4 then repM rec m nd env q
    else match m.enter p with
    | none=>none
    | some (m',ok)=>if ok=true then beginM rec m' nd env q else some (m',.zero,false)
   else if kind=1 then match m.enter p with
    | none=>none
    | some (m',ok)=>if ok=true then roundM m' nd n env q else some (m',.zero,false)
   else if kind=2 then (if p.at_=at_ then some (m,.zero,false) else some (m,{ p with todo:=.mk 1 (some nd) n 0 env next },true))
   else none
def MPl.goals (p:MPl):Bool:=match p.todo with
 | .nil=>false
 | .mk ..=>true
def srchM:Nat→Bool→Mm→Nat→MPl→Bool→Option RsM
 | 0,_,_,_,_,_=>none
 | k + 1,out,m,base,p,alive =>
  if out=true∧m.spent=true then some (m,.zero,false)
  else if alive=true∧p.goals=true then match advM (fun m base p=>srchM k true m base p true) m p with
   | none=>none
   | some (m',p',alive')=>srchM k false m' base p' alive'
  else if alive=true then some (m,p,!m.spent)
  else if m.top≤base then some (m,.zero,false)
  else if m.stk.length < m.top∨1200000000000 < m.top then none
  else match m.stk[m.top - 1]? with
   | none=>none
   | some (.note b)=>srchM k false (m.pop.fail b) base p false
   | some (.place last)=>srchM k true m.pop base last true
open Go.RowKit Go.Shelf Go.Proofs.Try
attribute [local go_sem] Oper.semAt_some
theorem back_in (F:Fence) (n:Nat) (hF:F.fn 109) (hro:F.round=none) (hn:1≤n) (l:Nat) (a1:Addr) (N:Nat) (hN:N≤1000000000) (J:Nat→World→Prop)
  (hM:∀i W,J i W→∃oa cap,W.cell? a1=some (.slice oa N cap)∧(i < N→∃b o u,oa=some ⟨b,o,none⟩∧W.cell? ⟨b,o + (N - 1 - i),none⟩=some u∧YieldAt F (n - 1) Try.prog l #[.int .i64 ((N - 1 - i:Nat):Int),u] W fun e W'=>e=.returned (.bool true)∧J (i + 1) W'))
  (W:World) (h0:J 0 W):CallsIn F n Try.prog 109 #[.func (.yield l) #[] #[],.pointer (some a1)] W fun e W'=>(∃v,e=.returned v)∧J N W':=by
 refine callsIn_of_wp Try.func109 rfl hF ?_ hro
 simp only[Try.ntmps109,List.size_toArray,List.length_cons,List.length_nil,Nat.reduceAdd,Nat.reduceSub,Array.replicate_succ,Array.replicate_zero,List.push_toArray,List.append_toArray,List.nil_append,List.cons_append]
 obtain⟨oa0,cap0,m0,_⟩:=hM 0 W h0
 have w0:IntKind.i64.wrap ((N:Int) - 1)=(N:Int) - 1:=w64 _ (by omega)
 gi_wp2
 gi_loopw [3] (fun p wr=>∃i:Nat,p=.int .i64 ((N:Int) - 1 - i)∧i≤N∧J i wr) (fun p _=>match p with | .int _ i=>(i + 1).toNat | _=>0)
 case atStart=>exact⟨0,by simp,by omega,h0⟩
 case round =>
  obtain⟨i,rfl,hi,hJ⟩:=hrel
  obtain⟨oa,cap,m1,hY⟩:=hM i _ hJ
  by_cases hlt:i < N
  ·obtain⟨b,o,u,rfl,m2,hy0⟩:=hY hlt
   obtain⟨fn,tmps,assign,body,hy,hR⟩:=hy0
   have hge:(0:Int)≤(N:Int) - 1 - (i:Int):=by omega
   have hltN:(N:Int) - 1 - (i:Int) < (N:Int):=by omega
   have e1:((N - 1 - i:Nat):Int)=(N:Int) - 1 - (i:Int):=by omega
   have e2:((N:Int) - 1 - (i:Int)).toNat=N - 1 - i:=by omega
   have w2:IntKind.i64.wrap ((N:Int) - 1 - (i:Int) - 1)=(N:Int) - 1 - (i:Int) - 1:=w64 _ (by omega)
   rw[e1] at hy
   gi_wp2
   refine hR.mono ?_
   rintro e W3 ⟨rfl,hJ3⟩
   gi_wp2
   go_roundw
   case rel=>exact⟨i + 1,by push_cast; congr 1; omega,by omega,hJ3⟩
   case measure=>simp; omega
  ·have hlt':¬(0:Int)≤(N:Int) - 1 - (i:Int):=by omega
   gi_wp2
   go_end0
   exact⟨⟨_,rfl⟩,by rw[show N=i by omega]; exact hJ⟩
def backAt (l:List D) (i:Nat):D × D:=(iD ((l.length - 1 - i:Nat):Int),l.getD (l.length - 1 - i) (.sc (.pointer none)))
theorem back_iter (l:List D) (hl:l.length≤1000000000):IterD Try.prog 109 [.el [.sl (l.map fun d=>[d])]] l.length (backAt l):=by
 refine⟨enters_of Try.func109 (by kernel_rfl) rfl,?_⟩
 intro lb ly J hlb hM hY W h0
 obtain⟨lb⟩:=lb
 match lb,hlb with
 | [x1],_ =>
  have cell:∀{O:Nat→Prop} {W:World} {x:Value},RepD O W (.el [.sl (l.map fun d=>[d])]) x→∃ad u,x=.pointer (some ad)∧W.cell? ⟨ad.block,ad.off,none⟩=some u∧ad.spot=none∧RepD O W (.sl (l.map fun d=>[d])) u:=by
   intro O W x h
   cases h with | el cs ad f h1 h2 h3=>?_
   have:=(h2 0 _ rfl).1
   exact⟨ad,f 0,rfl,by simpa using this,h1,h3 0 _ rfl⟩
  obtain⟨d1,_,rfl,_,s1,_⟩:=cell (hM 0 W h0 0 _ rfl)
  have hd1:d1=⟨d1.block,d1.off,none⟩:=by cases d1; simp only at s1; subst s1; rfl
  have:=back_in (rdF none) 1 trivial rfl (Nat.le_refl _) ly d1 l.length hl J (fun i W hJ=>?_) W h0
  ·exact⟨trivial,fun cs _=>this.2 cs (rdF_room _ _)⟩
  by_cases hi:i < l.length
  ·obtain⟨O,hO,hy⟩:=hY i W hJ hi
   obtain⟨ad,u,he,hc,_,hu⟩:=cell (hO 0 _ rfl)
   cases he
   rw[hd1,hc]
   generalize hL:(l.map fun d=>[d])=L at hu
   cases hu with
   | nil =>
    cases l with
    | nil=>simp at hi
    | cons _ _=>cases hL
   | sl els a cap sz f k1 k2 k3 k4 k5 =>
    subst hL
    refine⟨some a,cap,by simp,fun _=>?_⟩
    have hne:(l.map fun d=>[d])≠[]:=by
     cases l with
     | nil=>simp at hi
     | cons _ _=>simp
    have hsz:sz=1:=by
     cases l with
     | nil=>simp at hi
     | cons y ys=>exact(k3 [y] (by simp)).symm
    subst hsz
    obtain⟨y,hy'⟩:∃y,l[l.length - 1 - i]?=some y:=⟨_,List.getElem?_eq_getElem (by omega)⟩
    have hx:(((l.map fun d=>[d])[l.length - 1 - i]?).bind (·[0]?))=some y:=by simp [hy']
    have hcell:=(k4 _ 0 y hx).1
    have hrep:=k5 _ 0 y hx
    simp only[Nat.mul_one,Nat.add_zero] at hcell
    refine⟨a.block,a.off,_,?_,hcell,hy _ _ ?_ ?_⟩
    ·rw[← k2 hne]
    ·exact .sc _ rfl
    ·show RepD O W (l.getD (l.length - 1 - i) _) _
     rw[List.getD_eq_getElem?_getD,hy']
     exact hrep
  ·obtain⟨ad,u,he,hc,_,hu⟩:=cell (hM i W hJ 0 _ rfl)
   cases he
   rw[hd1,hc]
   generalize hL:(l.map fun d=>[d])=L at hu
   cases hu with
   | nil =>
    have:l=[]:=by
     cases l with
     | nil=>rfl
     | cons _ _=>cases hL
    subst this
    exact⟨none,0,rfl,fun h=>absurd h hi⟩
   | sl els a cap sz f k1 k2 k3 k4 k5 =>
    subst hL
    exact⟨some a,cap,by simp,fun h=>absurd h hi⟩
theorem backward_ok (l:List D):PureOK Try.prog 102 [.d (.sl (l.map fun d=>[d]))] (.d (.cl (.func 109) [] [.el [.sl (l.map fun d=>[d])]])):=by
 refine fn_ok Try.func102 rfl Try.ntmps102 Try.results102 rfl 0 7 (by simp) (by simp) ?_
 simp only[zX,Nat.reduceShiftRight,Nat.reduceMod,Nat.reduceLT,Nat.reduceMul,Nat.reduceSub,Int.reduceToNat,Int.reduceNeg,Int.reduceLT,Int.reduceLE,Int.reduceEq,Nat.reduceEqDiff,Nat.reduceAdd,Nat.reduceLeDiff,reduceIte,reduceCtorEq,Nat.reduceBEq,i64,bV,iD,bD]
def cap9 (c:CapsL):D:=.el (c.flatMap fun x=>[iD x.1,iD x.2])
def capO9:Option CapsL→D
 | none=>.sc (.pointer none)
 | some c=>cap9 c
def MPl.cells (p:MPl):List D:=[iD p.at_,capO9 p.caps,p.todo.d]
def MPl.v (p:MPl):V:=.ag (p.cells.map .d)
def rsM (p:MPl) (x:Bool):V:=.tu [p.v,bV x]
def Beg.vals (b:Beg):List Value:=kI [.i16,.i16,.i16,.i32,.i32,.i32,.i32] [b.node,b.kind,b.n,b.at_,b.stop,b.env,b.caps]
def Beg.val (b:Beg):Value:=.agg b.vals.toArray
def Beg.cs (b:Beg):List V:=b.vals.map fun v=>.d (.sc v)
def Beg.v (b:Beg):V:=.ag b.cs
def Frm.vals (f:Frm):List Value:=kI [.i64,.i64,.i64,.i64] [f.env,f.node,f.n,f.at_]
def Frm.val (f:Frm):Value:=.agg f.vals.toArray
def Frm.v (f:Frm):V:=.ag (f.vals.map fun v=>.d (.sc v))
def Beg.fit (b:Beg):Bool:=wfI [.i16,.i16,.i16,.i32,.i32,.i32,.i32] [b.node,b.kind,b.n,b.at_,b.stop,b.env,b.caps]
def Frm.fit (f:Frm):Bool:=wfI [.i64,.i64,.i64,.i64] [f.env,f.node,f.n,f.at_]
def stM:Ltr→List V
 | .place p=>p.cells.map .d++Beg.cs ⟨0,0,0,0,0,0,0⟩++[bV false]
 | .note b=>MPl.zero.cells.map .d++b.cs++[bV true]
def failE (l:List Beg):List (List V):=rowsK (l.map fun b=>(b.val,.agg #[]))
def frmE (l:List (Frm × Int)):List (List V):=rowsK (l.map fun p=>(p.1.val,.int .i64 p.2))
def Mm.objs (m:Mm):List VL.Obj :=
 [⟨0,true,11,[[.d m.root.d,.d (intsD m.t),.mp 3 0,.so 6 m.gen 0 m.top,i64 m.stop,i64 m.steps,i64 m.fuel,bV m.spent,bV m.depends,.mp 4 0,.cl (.func 54) [] [.rf 1 0 0 0,.rf 2 0 0 0]]]⟩,
  ⟨0,true,1,[[.rf 0 0 0 0]]⟩,⟨0,true,1,[[.mp 5 0]]⟩,⟨0,true,2,failE m.failed⟩,⟨0,true,2,frmE m.frames⟩,⟨0,true,2,[]⟩,⟨m.gen,true,11,m.stk.map stM⟩]
theorem rows_refs (n:Nat) (L:List (Value × Value)):((rowsK L).all fun e=>e.all (refsV n))=true:=by
 unfold rowsK
 rw[List.all_map,List.all_eq_true]
 intro x _
 rfl
theorem stM_refs (n:Nat) (l:List Ltr):((l.map stM).all fun e=>e.all (refsV n))=true:=by
 rw[List.all_map,List.all_eq_true]
 intro x _
 cases x <;> rfl
theorem rows_ren (ρ:List Nat) (L:List (Value × Value)):(rowsK L).map (renV.go ρ)=rowsK L:=by
 unfold rowsK
 rw[List.map_map]
 rfl
theorem stM_ren (ρ:List Nat) (l:List Ltr):(l.map stM).map (renV.go ρ)=l.map stM:=by
 rw[List.map_map]
 refine List.map_congr_left fun x _=>?_
 cases x <;> rfl
theorem mm_ok (m:Mm):m.objs.all (objOk 7)=true:=by
 unfold Mm.objs
 simp only[List.all_cons,List.all_nil,Bool.and_true,objOk,failE,frmE,rows_refs,stM_refs,i64,bV]
 simp [refsV,refsV.go]
theorem mm_ok' (m:Mm) (n:Nat) (h:7≤n):m.objs.all (objOk n)=true:=by
 unfold Mm.objs
 simp only[List.all_cons,List.all_nil,Bool.and_true,objOk,failE,frmE,rows_refs,stM_refs,i64,bV]
 simp [refsV,refsV.go]
 omega
theorem mm_ren (m:Mm):m.objs.map (renO [0,1,2,3,4,5,6])=m.objs:=by
 unfold Mm.objs renO
 simp only[List.map_cons,List.map_nil,failE,frmE,rows_ren,stM_ren]
 simp [renV.go,renV,i64,bV]
theorem call_mm {f:FuncId} {cargs:List V} {m m':Mm} {r:V} (h:callWp Try.prog f cargs m.objs fun v s=>v=r∧s=m'.objs) (ha:cargs.map (renV [0,1,2,3,4,5,6])=cargs) (hra:refsV.go 7 cargs=true) (hr:renV [0,1,2,3,4,5,6] r=r)
  (ext:List VL.Obj):callWp Try.prog f cargs (m.objs++ext) fun v s=>v=r∧s=m'.objs++ext:=by
 refine call_map [0,1,2,3,4,5,6] h (by decide) (by rfl) ?_ ha.symm hra (mm_ok m) hr ?_
 ·have e:m.objs.map (fun o=>some (renO [0,1,2,3,4,5,6] o))=m.objs.map some:=by
   conv=>rhs; rw[← mm_ren m]
   rw[List.map_map]; rfl
  exact e.symm ▸ rfl
 ·rw[mm_ren]
  exact⟨rfl,rfl⟩
theorem callF_mm {f:FuncId} {cargs:List V} {m m':Mm} {r:V} {K:V→List VL.Obj→Prop} (h:callWp Try.prog f cargs m.objs fun v s=>v=r∧s=m'.objs) (ha:cargs.map (renV [0,1,2,3,4,5,6])=cargs) (hra:refsV.go 7 cargs=true) (hr:renV [0,1,2,3,4,5,6] r=r)
  (ext:List VL.Obj) (hk:K r (m'.objs++ext)):callF Try.prog [0,1,2,3,4,5,6] [0,1,2,3,4,5,6] f cargs (m.objs++ext) K:=by
 refine callF_map [0,1,2,3,4,5,6] h (by decide) (by rfl) ?_ ha.symm hra (mm_ok m) hr ?_
 ·have e:m.objs.map (fun o=>some (renO [0,1,2,3,4,5,6] o))=m.objs.map some:=by
   conv=>rhs; rw[← mm_ren m]
   rw[List.map_map]; rfl
  exact e.symm ▸ rfl
 ·rw[mm_ren]
  exact hk
theorem ty_beg:flatKey Try.prog 114=some [.i16,.i16,.i16,.i32,.i32,.i32,.i32]:=by kernel_rfl
theorem ty_frm:flatKey Try.prog 165=some [.i64,.i64,.i64,.i64]:=by kernel_rfl
theorem memo_laid:laidOutB Try.prog=true:=by kernel_rfl
theorem memo_size:∃m,Try.prog.types.size=m + 1:=by
 refine⟨Try.prog.types.size - 1,?_⟩
 have:(decide (0 < Try.prog.types.size))=true:=by kernel_rfl
 have:=of_decide_eq_true this
 omega
theorem law_beg:WideMaps.KeyLaw Try.prog 114:=flat_law memo_laid (of_decide_eq_true (by kernel_rfl)) ty_beg (by kernel_rfl)
theorem law_frm:WideMaps.KeyLaw Try.prog 165:=flat_law memo_laid (of_decide_eq_true (by kernel_rfl)) ty_frm (by kernel_rfl)
theorem ok_beg {b:Beg} (h:b.fit=true):KeyOk Try.prog 114 b.val:=keyOk_flat ty_beg memo_size h
theorem ok_frm {f:Frm} (h:f.fit=true):KeyOk Try.prog 165 f.val:=keyOk_flat ty_frm memo_size h
theorem und_fail:Try.prog.underlying 75=some (.map 114 139):=by kernel_rfl
theorem und_frm:Try.prog.underlying 77=some (.map 165 3):=by kernel_rfl
theorem mt_frm:mapTy Try.prog 77=none:=by kernel_rfl
theorem mft_frm:mapFTy Try.prog 77=none:=by kernel_rfl
theorem mt_fail:mapTy Try.prog 75=none:=by kernel_rfl
theorem mft_fail:mapFTy Try.prog 75=none:=by kernel_rfl
theorem zero_unit:ZeroE Try.prog 139 (.agg #[]):=by
 have h:(Try.prog.info? 139).bind (·.zero)=some (.agg #[]):=by kernel_rfl
 obtain⟨ti,h1,h2⟩:=Option.bind_eq_some_iff.1 h
 exact⟨ti,h1,h2⟩
theorem zero_int:ZeroE Try.prog 3 (.int .i64 0):=by
 have h:(Try.prog.info? 3).bind (·.zero)=some (.int .i64 0):=by kernel_rfl
 obtain⟨ti,h1,h2⟩:=Option.bind_eq_some_iff.1 h
 exact⟨ti,h1,h2⟩
theorem Beg.val_inj {a b:Beg} (h:a.val=b.val):a=b:=by
 obtain⟨⟩:=a
 obtain⟨⟩:=b
 simp only[Beg.val,Beg.vals,kI,Value.agg.injEq,List.toArray_inj,List.cons.injEq,Value.int.injEq,true_and,and_true] at h
 obtain⟨rfl,rfl,rfl,rfl,rfl,rfl,rfl⟩:=h
 rfl
theorem Frm.val_inj {a b:Frm} (h:a.val=b.val):a=b:=by
 obtain⟨⟩:=a
 obtain⟨⟩:=b
 simp only[Frm.val,Frm.vals,kI,Value.agg.injEq,List.toArray_inj,List.cons.injEq,Value.int.injEq,true_and,and_true] at h
 obtain⟨rfl,rfl,rfl,rfl⟩:=h
 rfl
theorem fail_find (l:List Beg) (b:Beg):FindK (l.map fun b=>(b.val,.agg #[])) b.val (if b∈l then some (.agg #[]) else none):=by
 by_cases h:b∈l
 ·rw[if_pos h]
  refine⟨List.mem_map.2 ⟨b,h,rfl⟩,fun p hp _=>?_⟩
  obtain⟨x,_,rfl⟩:=List.mem_map.1 hp
  rfl
 ·rw[if_neg h]
  intro p hp he
  obtain⟨x,hx,rfl⟩:=List.mem_map.1 hp
  rw[Beg.val_inj he] at hx
  exact h hx
theorem failE_snoc (l:List Beg) (b:Beg):failE l++[[.d (.sc b.val),.d (.sc (.agg #[]))]]=failE (l++[b]):=by
 simp [failE,rowsK]
theorem frmE_snoc (l:List (Frm × Int)) (f:Frm) (n:Int):frmE l++[[.d (.sc f.val),.d (.sc (.int .i64 n))]]=frmE (l++[(f,n)]):=by
 simp [frmE,rowsK]
theorem frm_find_some {l:List (Frm × Int)} {f:Frm} {x:Frm × Int} (h:l.find? (fun p=>decide (p.1=f))=some x) (ha:l.all (fun p=>decide (p.1=f→p.2=x.2))=true) :
  FindK (l.map fun p=>(p.1.val,.int .i64 p.2)) f.val (some (.int .i64 x.2)):=by
 have h1:=List.mem_of_find?_eq_some h
 have h2:x.1=f:=by have:=List.find?_some h; exact of_decide_eq_true this
 rw[List.all_eq_true] at ha
 refine⟨List.mem_map.2 ⟨x,h1,by rw[h2]⟩,fun p hp he=>?_⟩
 obtain⟨y,hy,rfl⟩:=List.mem_map.1 hp
 have:=of_decide_eq_true (ha y hy) (Frm.val_inj he)
 simp [this]
theorem frm_find_none {l:List (Frm × Int)} {f:Frm} (h:l.find? (fun p=>decide (p.1=f))=none):FindK (l.map fun p=>(p.1.val,.int .i64 p.2)) f.val none:=by
 intro p hp he
 obtain⟨y,hy,rfl⟩:=List.mem_map.1 hp
 have:=List.find?_eq_none.1 h y hy
 exact this (decide_eq_true (Frm.val_inj he))
theorem tAt_get {t:List Int} {i:Int} (h0:0≤i) (h1:i < t.length):t[i.toNat]?=some (tAt t i):=by
 unfold tAt
 rw[List.getElem?_eq_getElem (by omega)]
 simp [List.getD,List.getElem?_eq_getElem (show i.toNat < t.length by omega)]
theorem inB_pos {l:List (Int × Int)} {x:Int} {y:Int × Int} {i:Nat} (hy:l[i]?=some y) (h1:y.1≤x) (h2:x≤y.2):inB l x=true:=by
 unfold inB; rw[List.any_eq_true]; exact⟨y,List.mem_of_getElem? hy,by rw[decide_eq_true h1,decide_eq_true h2]; rfl⟩
theorem inB_neg {l:List (Int × Int)} {x:Int} {y:Int × Int} {i:Nat} (hy:l[i]?=some y) (h:inB (l.take i) x=false) (hn:¬(y.1≤x∧x≤y.2)):inB (l.take (i + 1)) x=false:=by
 rw[take_get hy]
 unfold inB at h ⊢
 rw[List.any_append,h]
 have:(decide (y.1≤x)&&decide (x≤y.2))=false:=by
  rw[Bool.eq_false_iff]; intro hc
  simp only[Bool.and_eq_true,decide_eq_true_eq] at hc
  exact hn hc
 simp [this]
theorem capV_len (c:CapsL):∀e∈(c.map spanC).map (fun x=>x.map V.d),e.length=2:=by
 intro e he
 obtain⟨y,hy,rfl⟩:=List.mem_map.1 he
 obtain⟨z,_,rfl⟩:=List.mem_map.1 hy
 rfl
theorem cloneCaps_ok (l:CapsL) (hl:l.length≤1000000000):PureOK prog 28 [.d (capD l)] (.d (capD l)):=by
 unfold capD
 refine fn_ok func28 rfl ntmps28 results28 rfl 0 5 (by simp) (by simp) ?_
 cases l with
 | nil =>
  simp only[zX,Nat.reduceShiftRight,Nat.reduceMod,Nat.reduceLT,Nat.reduceMul,Nat.reduceSub,Int.reduceToNat,Int.reduceNeg,Int.reduceLT,Int.reduceLE,Int.reduceEq,Nat.reduceEqDiff,Nat.reduceAdd,Nat.reduceLeDiff,reduceIte,reduceCtorEq,Nat.reduceBEq,]
  first | rfl | exact⟨⟨_,rfl⟩,rfl⟩ | exact⟨⟨_,rfl⟩,by simp,by simp⟩
 | cons x l =>
  simp only[zX,Nat.reduceShiftRight,Nat.reduceMod,Nat.reduceLT,Nat.reduceMul,Nat.reduceSub,Int.reduceToNat,Int.reduceNeg,Int.reduceLT,Int.reduceLE,Int.reduceEq,Nat.reduceEqDiff,Nat.reduceAdd,Nat.reduceLeDiff,reduceIte,reduceCtorEq,Nat.reduceBEq,]
  have he:(List.map V.d (spanC x)::List.map (fun x=>List.map V.d x) (List.map spanC l))=((x::l).map spanC).map (fun c=>c.map V.d):=rfl
  simp only[List.length_cons] at hl
  refine⟨⟨_,rfl⟩,by rw[he]; exact capV_len (x::l),⟨by omega,by simp⟩,?_⟩
  rw[he,frz_data 7 0 _ _ (0 + (l.length + 1)) (by simp),if_pos (by omega)]
  rfl
end Go.Proofs.Ytpppfpaalcbggaa
