/- A part of the proof (Vr Vs Vt). -/
import Derived.Test.YtfmdmlfhigocaaaON11
set_option linter.unusedSimpArgs false
set_option linter.unusedVariables false
set_option maxRecDepth 100000
set_option maxHeartbeats 80000000
namespace Go.VL
variable{K:Env->List Obj->Prop}{s:List Obj}{p:Prop}{b:Bool}{A:Env->Prop}{B:Env->Prop}{e:Env}{d:Option Nat}{want:Bool}{N:Nat}{P:Program}{o:Oper}{full:List Oper}{rest:List Oper}{ty:TypeId}{pos:String}{af:Array Edge}{g:FuncId}{c:Operand}{i:Nat}{fs:cx}{bars:List Nat}{x:Operand}{parts:Array (Nat×Operand)}{i':Operand}{ak:List D}{args:List V}{e0:V}{first:List D}{fn:Fn}{l:List D}
def Dd (K:V->List Obj->Prop) (s:List Obj) (v:V):Prop:=K v s
theorem AU {K:V->List Obj->Prop}{v:V}:Dd K s v=K v s:=(rfl)
def YA (K:V->List Obj->Prop) (s:List Obj):Prop:=K .un s
theorem AS {K:V->List Obj->Prop}:YA K s=K .un s:=(rfl)
def na {α β:Type} (x:V) (A B:α->β->Prop) (e:α) (s:β):Prop:=r8 x (A e s) (B e s)
theorem qY {α β:Type}{A B:α->β->Prop}{e:α}{s:β}:na (.d (.sc (.bool true))) A B e s=A e s:=by simp [na,r8,gK]
theorem oI {α β:Type}{A B:α->β->Prop}{e:α}{s:β}:na (.d (.sc (.bool false))) A B e s=B e s:=by simp [na,r8,gK]
theorem yI {α β:Type}{A B:α->β->Prop}{e:α}{s:β} [Decidable p]:na (.d (.sc (.bool (decide p)))) A B e s=((p->A e s)/\(¬p->B e s)):=by simp [na,r8,gK]
theorem uz {α β:Type}{A B:α->β->Prop}{e:α}{s:β}:na (.d (.sc (.bool (!b)))) A B e s=na (.d (.sc (.bool b))) B A e s:=by cases b <;> simp [na,r8,gK]
theorem xE {α β:Type}{A B:α->β->Prop}{e:α}{s:β}:na (.d .ub) A B e s=(A e s/\B e s):=(rfl)
theorem MV {α β:Type}{A B:α->β->Prop}{e:α}{s:β}:na (.d (.sc (.bool b))) A B e s=((b=true->A e s)/\(b=false->B e s)):=by simp [na,r8,gK]
def rV (x:V) (A B:List Obj->Prop) (s:List Obj):Prop:=gK x (A s) (B s)
theorem rr {A B:List Obj->Prop}:rV (.d (.sc (.bool true))) A B s=A s:=by simp [rV,gK]
theorem oQ {A B:List Obj->Prop}:rV (.d (.sc (.bool false))) A B s=B s:=by simp [rV,gK]
theorem EU {A B:List Obj->Prop} [Decidable p]:rV (.d (.sc (.bool (decide p)))) A B s=((p->A s)/\(¬p->B s)):=by simp [rV,gK]
theorem tN {A B:List Obj->Prop}:rV (.d (.sc (.bool (!b)))) A B s=rV (.d (.sc (.bool b))) B A s:=by cases b <;> simp [rV,gK]
def eK (x:V) (d:Nat) (want:Bool) (A B:Env->Prop) (e:Env):Prop :=
 match x with
 |.d (.sc (.bool b))=>(b=want->A (bz e d (.d (.sc (.bool want)))))/\(b=(!want)->B (bz e d (.d (.sc (.bool (!want))))))
 |.un=>B e
 |_=>False
theorem ur {d:Nat}:eK (.d (.sc (.bool true))) d true A B e=A (bz e d (.d (.sc (.bool true)))):=by simp [eK]
theorem tD {d:Nat}:eK (.d (.sc (.bool false))) d false A B e=A (bz e d (.d (.sc (.bool false)))):=by simp [eK]
theorem uK {d:Nat}:eK (.d (.sc (.bool true))) d false A B e=B (bz e d (.d (.sc (.bool true)))):=by simp [eK]
theorem tO {d:Nat}:eK (.d (.sc (.bool false))) d true A B e=B (bz e d (.d (.sc (.bool false)))):=by simp [eK]
theorem uJ {d:Nat}:eK .un d want A B e=B e:=(rfl)
theorem zg {d:Nat} [Decidable p]:eK (.d (.sc (.bool (decide p)))) d true A B e=((p->A (bz e d (.d (.sc (.bool true)))))/\(¬p->B (bz e d (.d (.sc (.bool false)))))):=by simp [eK]
theorem yw {d:Nat} [Decidable p]:eK (.d (.sc (.bool (decide p)))) d false A B e=((p->B (bz e d (.d (.sc (.bool true)))))/\(¬p->A (bz e d (.d (.sc (.bool false)))))):=by simp only[eK,decide_eq_false_iff_not,af4,decide_eq_true_eq];exact propext And.comm
theorem vZ {d:Nat} [Decidable p]:eK (.d (.sc (.bool (!decide p)))) d true A B e=((p->B (bz e d (.d (.sc (.bool false)))))/\(¬p->A (bz e d (.d (.sc (.bool true)))))):=by simp only[eK,Bool.not_eq_true',aga,Bool.not_eq_false',decide_eq_false_iff_not,decide_eq_true_eq];exact propext And.comm
theorem vS {d:Nat} [Decidable p]:eK (.d (.sc (.bool (!decide p)))) d false A B e=((p->A (bz e d (.d (.sc (.bool false)))))/\(¬p->B (bz e d (.d (.sc (.bool true)))))):=by simp only[eK,Bool.not_eq_true',af4,Bool.not_eq_false',decide_eq_false_iff_not,decide_eq_true_eq]
def GA (x:Option Nat) (want:Bool) (A B:Env->Prop) (e:Env):Prop:=lh x e want A B
theorem oD {d:Nat}:GA (some d) want A B e=eK (e d) d want A B e:=by unfold GA lh eK;exact(rfl)
def gA (P:Program) (N:Nat) (full rest:List Oper) (d:Option Nat) (o:Oper) (s:List Obj) (K:Env->List Obj->Prop) (e:Env):Prop:=cN P o e s (cont P N full rest e d K)
def gB (P:Program) (N:Nat) (full rest:List Oper) (d:Option Nat) (s:List Obj) (K:Env->List Obj->Prop) (e:Env):Prop:=oS P N full rest (iP e d .un) s K
theorem FK:gA P N full rest d o s K e=cN P o e s (cont P N full rest e d K):=(rfl)
theorem F8:gB P N full rest d s K e=oS P N full rest (iP e d .un) s K:=(rfl)
theorem ue{op:Op} :
  oS P N full (⟨d,op,ty,pos,af,none⟩::rest) e s K=(dY N d/\cN P ⟨d,op,ty,pos,af,none⟩ e s (cont P N full rest e d K)):=(rfl)
theorem tB{op:Op}{g:Nat} :
  oS P N full (⟨d,op,ty,pos,af,some (g,want)⟩::rest) e s K=(dY N d/\GA (lM full g) want (gA P N full rest d ⟨d,op,ty,pos,af,some (g,want)⟩ s K) (gB P N full rest d s K) e):=(rfl)
theorem qx{L M:Nat}{Q:Exit->Env->List Obj->Prop}{a b:Code}:codeWp P N L M (.cond c a b) Q e s=na (ev e c) (codeWp P N L M a Q) (codeWp P N L M b Q) (pg M e) s:=(rfl)
def hA (P:Program) (N:Nat) (full:List Oper) (bars:List Nat) (fs:cx) (i:Nat) (rest:List Oper) (d:Option Nat) (o:Oper) (s:List Obj) (K:Env->List Obj->Prop) (e:Env):Prop:=eZ P bars fs i o e s (ga P N full bars fs (i+1) rest e d K)
def hB (P:Program) (N:Nat) (full:List Oper) (bars:List Nat) (fs:cx) (i:Nat) (rest:List Oper) (d:Option Nat) (s:List Obj) (K:Env->List Obj->Prop) (e:Env):Prop:=gE P N full bars fs (i+1) rest (iP e d .un) s K
theorem Fz:hA P N full bars fs i rest d o s K e=eZ P bars fs i o e s (ga P N full bars fs (i+1) rest e d K):=(rfl)
theorem FJ:hB P N full bars fs i rest d s K e=gE P N full bars fs (i+1) rest (iP e d .un) s K:=(rfl)
theorem tG :
  gE P N full bars fs i (⟨d,.move x,ty,pos,af,none⟩::rest) e s K=(dY N d/\eZ P bars fs i ⟨d,.move x,ty,pos,af,none⟩ e s (ga P N full bars fs (i+1) rest e d K)):=(rfl)
theorem oO :
  gE P N full bars fs i (⟨d,.assign x,ty,pos,af,none⟩::rest) e s K=(dY N d/\eZ P bars fs i ⟨d,.assign x,ty,pos,af,none⟩ e s (ga P N full bars fs (i+1) rest e d K)):=(rfl)
theorem qu{t:TypeId} :
  gE P N full bars fs i (⟨d,.alloc t,ty,pos,af,none⟩::rest) e s K=(dY N d/\eZ P bars fs i ⟨d,.alloc t,ty,pos,af,none⟩ e s (ga P N full bars fs (i+1) rest e d K)):=(rfl)
theorem wQ{t:TypeId} :
  gE P N full bars fs i (⟨d,.box t x,ty,pos,af,none⟩::rest) e s K=(dY N d/\eZ P bars fs i ⟨d,.box t x,ty,pos,af,none⟩ e s (ga P N full bars fs (i+1) rest e d K)):=(rfl)
theorem qM{t:TypeId} :
  gE P N full bars fs i (⟨d,.build t parts,ty,pos,af,none⟩::rest) e s K=(dY N d/\eZ P bars fs i ⟨d,.build t parts,ty,pos,af,none⟩ e s (ga P N full bars fs (i+1) rest e d K)):=(rfl)
theorem j0{t:TypeId}{n:Nat} :
  gE P N full bars fs i (⟨d,.buildSlice t n parts,ty,pos,af,none⟩::rest) e s K=(dY N d/\eZ P bars fs i ⟨d,.buildSlice t n parts,ty,pos,af,none⟩ e s (ga P N full bars fs (i+1) rest e d K)):=(rfl)
theorem uv{t:TypeId}{a:Operand} :
  gE P N full bars fs i (⟨d,.load t a,ty,pos,af,none⟩::rest) e s K=(dY N d/\eZ P bars fs i ⟨d,.load t a,ty,pos,af,none⟩ e s (ga P N full bars fs (i+1) rest e d K)):=(rfl)
theorem np{t:TypeId}{r:Option Operand} :
  gE P N full bars fs i (⟨d,.makeMap t r,ty,pos,af,none⟩::rest) e s K=(dY N d/\eZ P bars fs i ⟨d,.makeMap t r,ty,pos,af,none⟩ e s (ga P N full bars fs (i+1) rest e d K)):=(rfl)
theorem py{t:TypeId}{x i':Operand}{ok:Bool} :
  gE P N full bars fs i (⟨d,.lookup t x i' ok,ty,pos,af,none⟩::rest) e s K=(dY N d/\eZ P bars fs i ⟨d,.lookup t x i' ok,ty,pos,af,none⟩ e s (ga P N full bars fs (i+1) rest e d K)):=(rfl)
theorem kT{t:TypeId}{m k:Operand} :
  gE P N full bars fs i (⟨d,.mapUpdate t m k x,ty,pos,af,none⟩::rest) e s K=(dY N d/\eZ P bars fs i ⟨d,.mapUpdate t m k x,ty,pos,af,none⟩ e s (ga P N full bars fs (i+1) rest e d K)):=(rfl)
theorem rj{t:TypeId}{a:Operand} :
  gE P N full bars fs i (⟨d,.store t a x,ty,pos,af,none⟩::rest) e s K=(dY N d/\eZ P bars fs i ⟨d,.store t a x,ty,pos,af,none⟩ e s (ga P N full bars fs (i+1) rest e d K)):=(rfl)
theorem x7 :
  gE P N full bars fs i (⟨d,.nilCheck x,ty,pos,af,none⟩::rest) e s K=(dY N d/\eZ P bars fs i ⟨d,.nilCheck x,ty,pos,af,none⟩ e s (ga P N full bars fs (i+1) rest e d K)):=(rfl)
theorem x9{op:BinOp}{t t':TypeId}{x y:Operand} :
  gE P N full bars fs i (⟨d,.binOp op t x y t',ty,pos,af,none⟩::rest) e s K=(dY N d/\eZ P bars fs i ⟨d,.binOp op t x y t',ty,pos,af,none⟩ e s (ga P N full bars fs (i+1) rest e d K)):=(rfl)
theorem tt{op:UnOp}{t:TypeId} :
  gE P N full bars fs i (⟨d,.unOp op t x,ty,pos,af,none⟩::rest) e s K=(dY N d/\eZ P bars fs i ⟨d,.unOp op t x,ty,pos,af,none⟩ e s (ga P N full bars fs (i+1) rest e d K)):=(rfl)
theorem nz{a b:TypeId} :
  gE P N full bars fs i (⟨d,.convert a b x,ty,pos,af,none⟩::rest) e s K=(dY N d/\eZ P bars fs i ⟨d,.convert a b x,ty,pos,af,none⟩ e s (ga P N full bars fs (i+1) rest e d K)):=(rfl)
theorem mh{fn:Fn}{first ak:Array Operand} :
  gE P N full bars fs i (⟨d,.makeFunc fn first ak,ty,pos,af,none⟩::rest) e s K=(dY N d/\eZ P bars fs i ⟨d,.makeFunc fn first ak,ty,pos,af,none⟩ e s (ga P N full bars fs (i+1) rest e d K)):=(rfl)
theorem kS{t:TypeId}{l:Operand} :
  gE P N full bars fs i (⟨d,.makeSlice t l c,ty,pos,af,none⟩::rest) e s K=(dY N d/\eZ P bars fs i ⟨d,.makeSlice t l c,ty,pos,af,none⟩ e s (ga P N full bars fs (i+1) rest e d K)):=(rfl)
theorem rk{t:TypeId}{x:Operand}{lo hi mx:Option Operand} :
  gE P N full bars fs i (⟨d,.slice t x lo hi mx,ty,pos,af,none⟩::rest) e s K=(dY N d/\eZ P bars fs i ⟨d,.slice t x lo hi mx,ty,pos,af,none⟩ e s (ga P N full bars fs (i+1) rest e d K)):=(rfl)
theorem kQ{t:TypeId}{x:Operand}{f:Nat} :
  gE P N full bars fs i (⟨d,.fieldAddr t x f,ty,pos,af,none⟩::rest) e s K=(dY N d/\eZ P bars fs i ⟨d,.fieldAddr t x f,ty,pos,af,none⟩ e s (ga P N full bars fs (i+1) rest e d K)):=(rfl)
theorem qC{t:TypeId}{x:Operand}{f:Nat} :
  gE P N full bars fs i (⟨d,.field t x f,ty,pos,af,none⟩::rest) e s K=(dY N d/\eZ P bars fs i ⟨d,.field t x f,ty,pos,af,none⟩ e s (ga P N full bars fs (i+1) rest e d K)):=(rfl)
theorem lp{t:TypeId}{x:Operand} :
  gE P N full bars fs i (⟨d,.indexAddr t x i',ty,pos,af,none⟩::rest) e s K=(dY N d/\eZ P bars fs i ⟨d,.indexAddr t x i',ty,pos,af,none⟩ e s (ga P N full bars fs (i+1) rest e d K)):=(rfl)
theorem qK{t:TypeId}{x:Operand} :
  gE P N full bars fs i (⟨d,.index t x i',ty,pos,af,none⟩::rest) e s K=(dY N d/\eZ P bars fs i ⟨d,.index t x i',ty,pos,af,none⟩ e s (ga P N full bars fs (i+1) rest e d K)):=(rfl)
theorem nA{x:Operand}{i':Nat} :
  gE P N full bars fs i (⟨d,.extract x i',ty,pos,af,none⟩::rest) e s K=(dY N d/\eZ P bars fs i ⟨d,.extract x i',ty,pos,af,none⟩ e s (ga P N full bars fs (i+1) rest e d K)):=(rfl)
theorem tJ{c:Call} :
  gE P N full bars fs i (⟨d,.call c,ty,pos,af,none⟩::rest) e s K=(dY N d/\eZ P bars fs i ⟨d,.call c,ty,pos,af,none⟩ e s (ga P N full bars fs (i+1) rest e d K)):=(rfl)
theorem tX{c a b:Operand} :
  gE P N full bars fs i (⟨d,.pick c a b,ty,pos,af,none⟩::rest) e s K=(dY N d/\bars.contains i=false/\gP fs i=none/\rV (ev e c) (ga P N full bars fs (i+1) rest e d K (ev e a)) (ga P N full bars fs (i+1) rest e d K (ev e b)) s):=(rfl)
theorem ts{op:Op}{g:Nat} :
  gE P N full bars fs i (⟨d,op,ty,pos,af,some (g,want)⟩::rest) e s K=(dY N d/\GA (lM full g) want (hA P N full bars fs i rest d ⟨d,op,ty,pos,af,some (g,want)⟩ s K) (hB P N full bars fs i rest d s K) e):=(rfl)
def Jf (P:Program) (e0 x:V) (args:List V) (s:List Obj) (K:V->List Obj->Prop):Prop :=
 match Dw e0 x with
 |.cl (.func g) first ak=>aq P g (first++args++ak) s K
 |_=>False
theorem xt{first ak:List V}{K:V->List Obj->Prop}:Jf P e0 (.cl (.func g) first ak) args s K=aq P g (first++args++ak) s K:=(rfl)
theorem LA{K:V->List Obj->Prop}:Jf P e0 (.d (.cl (.func g) first ak)) args s K=aq P g (dv.go e0 first++args++dv.go e0 ak) s K:=by unfold Jf Dw;simp only[dv]
theorem MG{first ak:List V}:Dw e0 (.cl fn first ak)=.cl fn first ak:=(rfl)
theorem Rz:Dw e0 (.d (.cl fn first ak))=.cl fn (dv.go e0 first) (dv.go e0 ak):=by unfold Dw;simp only[dv]
theorem Qa:Dw e0 (.d (.sc (.func fn ⟨[]⟩ ⟨[]⟩)))=.cl fn [] []:=(rfl)
theorem IL {id g off b a:Nat}:Ji (.pp id g i off b a) b a=.pp id g i off b a:=by simp [Ji]
theorem E4{b a:Nat}:dv e0 (.sc (.pointer (some ⟨b,a,none⟩)))=Ji e0 b a:=by simp only[dv]
theorem Eu{k:IntKind}{n:Int}:dv e0 (.sc (.int k n))=.d (.sc (.int k n)):=by simp only[dv]
theorem Cf:dv e0 (.sc (.bool b))=.d (.sc (.bool b)):=by simp only[dv]
theorem Fa:dv e0 (.sc (.pointer none))=.d (.sc (.pointer none)):=by simp only[dv]
theorem Hp{aw:List (List D)}:dv e0 (.sl aw)=.d (.sl aw):=by simp only[dv]
theorem DW{x:D}:dv e0 (.el [x])=.bx (dv e0 x):=by simp only[dv]
theorem D8{x y:D}:dv e0 (.el (x::y::l))=.d (.el (x::y::l)):=by simp only[dv]
theorem GS:dv e0 (.cl fn first ak)=.cl fn (dv.go e0 first) (dv.go e0 ak):=by simp only[dv]
theorem DV:dv.go e0 []=[]:=(rfl)
theorem B5 {e0:V}{x:D}:dv.go e0 (x::l)=dv e0 x::dv.go e0 l:=(rfl)
theorem L6{K:V->List Obj->Prop}:Jf P e0 (.d (.sc (.func (.func g) ⟨[]⟩ ⟨[]⟩))) args s K=aq P g ([]++args++[]) s K:=(rfl)
section
variable {P:Program}{d:Option Nat}{ty:TypeId}{pos:String}{af:Array Edge}{g:Option (Nat×Bool)}{e:Nat->V}{s:List Obj}{K:V->List Obj->Prop}
variable{x:Operand}{a:Operand}{c:Operand}{t:TypeId}{parts:Array (Nat×Operand)}{e0:V}{i:Nat}{id:Nat}{off:Nat}{b:Nat}{op:BinOp}{t':TypeId}{f:Nat}{m:Operand}{k:Operand}{args:Array Operand}{GL:Array TypeId}{y:Operand}
theorem xP:cN P ⟨d,.move x,ty,pos,af,g⟩ e s K=(K (ev e x) s):=(rfl)
theorem qW:cN P ⟨d,.assign x,ty,pos,af,g⟩ e s K=(K (ev e x) s):=(rfl)
theorem ya {b:Operand}:cN P ⟨d,.pick c a b,ty,pos,af,g⟩ e s K=(rV (ev e c) (K (ev e a)) (K (ev e b)) s):=(rfl)
theorem tv:cN P ⟨d,.alloc t,ty,pos,af,g⟩ e s K=(pq P t s K):=(rfl)
theorem AX:cN P ⟨d,.box t x,ty,pos,af,g⟩ e s K=(zT s (ev e x) K):=(rfl)
theorem tC:cN P ⟨d,.build t parts,ty,pos,af,g⟩ e s K=(pr P t (parts.toList.map λp=>(p.1,ev e p.2)) (Dd K s)):=(rfl)
theorem ly{n:Nat}:cN P ⟨d,.buildSlice t n parts,ty,pos,af,g⟩ e s K=(ey P t n (parts.toList.map λp=>(p.1,ev e p.2)) s K):=(rfl)
theorem Iq{cs:List D}:vk e0 (.d (.el cs))=.d (.el cs):=(rfl)
theorem IV{g:Nat}:vk e0 (.rf id g i off)=.rf id g i off:=(rfl)
theorem Jo{g a:Nat}:vk e0 (.pp id g i off b a)=.pp id g i off b a:=(rfl)
theorem ES{a:Nat}:vk e0 (.d (.sc (.pointer (some ⟨b,a,none⟩))))=BV e0 b a:=(rfl)
theorem L3 {g a:Nat}:BV (.pp id g i off b a) b a=.rf id g i off:=by simp [BV]
theorem Ed {g a k:Nat}:BV (.pp id g i off b a) b (a+k)=.rf id g i (off+k):=by simp [BV]
theorem xk:cN P ⟨d,.load t a,ty,pos,af,g⟩ e s K=(lB P t s (vk (e 0) (ev e a)) (Dd K s)):=(rfl)
theorem tR:cN P ⟨d,.store t a x,ty,pos,af,g⟩ e s K=(gY P t s (ev e a) (ev e x) (YA K)):=(rfl)
theorem AL:cN P ⟨d,.nilCheck x,ty,pos,af,g⟩ e s K=(jy s (ev e x) (Dd K s)):=(rfl)
theorem xM{y:Nat}:cN P ⟨d,.binOp op t x (.tmp y) t',ty,pos,af,g⟩ e s K=(pD P op t s (ev e x) (ev e (.tmp y)) (Dd K s)):=(rfl)
theorem xB{k:IntKind}{y:Int}:cN P ⟨d,.binOp op t x (.const (.int k y)) t',ty,pos,af,g⟩ e s K=(pD P op t s (ev e x) (ev e (.const (.int k y))) (Dd K s)):=(rfl)
theorem xx{y:Bool}:cN P ⟨d,.binOp op t x (.const (.bool y)) t',ty,pos,af,g⟩ e s K=(pD P op t s (ev e x) (ev e (.const (.bool y))) (Dd K s)):=(rfl)
theorem xb{y:Option Addr}:cN P ⟨d,.binOp op t x (.const (.pointer y)) t',ty,pos,af,g⟩ e s K=(pD P op t s (ev e x) (ev e (.const (.pointer y))) (Dd K s)):=(rfl)
theorem xu:cN P ⟨d,.binOp op t x (.const (.slice none 0 0)) t',ty,pos,af,g⟩ e s K=(dU P op t s (ev e x) (Dd K s)):=(rfl)
theorem xm {op:UnOp}:cN P ⟨d,.unOp op t x,ty,pos,af,g⟩ e s K=(Au op (ev e x) (Dd K s)):=(rfl)
theorem pa {a b:TypeId}:cN P ⟨d,.convert a b x,ty,pos,af,g⟩ e s K=(pI P a b (ev e x) (Dd K s)):=(rfl)
theorem nf {fn:Fn}{first ak:Array Operand}:cN P ⟨d,.makeFunc fn first ak,ty,pos,af,g⟩ e s K=(K (.cl fn (first.toList.map (ev e)) (ak.toList.map (ev e))) s):=(rfl)
theorem l8{l:Operand}:cN P ⟨d,.makeSlice t l c,ty,pos,af,g⟩ e s K=(fY P t (ev e l) (ev e c) s K):=(rfl)
theorem tI{lo hi mx:Option Operand}:cN P ⟨d,.slice t x lo hi mx,ty,pos,af,g⟩ e s K=(kU P t (ev e x) (lo.map (ev e)) (hi.map (ev e)) (mx.map (ev e)) s (Dd K s)):=(rfl)
theorem l7:cN P ⟨d,.fieldAddr t x f,ty,pos,af,g⟩ e s K=(eD P t s (ev e x) f (Dd K s)):=(rfl)
theorem tH:cN P ⟨d,.field t x f,ty,pos,af,g⟩ e s K=(mj P t (ev e x) f (Dd K s)):=(rfl)
theorem mf{i:Operand}:cN P ⟨d,.indexAddr t x i,ty,pos,af,g⟩ e s K=(dy P t s (ev e x) (ev e i) (Dd K s)):=(rfl)
theorem oW{r:Option Operand}:cN P ⟨d,.makeMap t r,ty,pos,af,g⟩ e s K=(nD P t r s K):=(rfl)
theorem qF{i:Operand}:cN P ⟨d,.lookup t x i false,ty,pos,af,g⟩ e s K=(jh P t s (ev e x) (ev e i) (Dd K s)):=(rfl)
theorem l9:cN P ⟨d,.mapUpdate t m k x,ty,pos,af,g⟩ e s K=(vq P t s (ev e m) (ev e k) (ev e x) (YA K)):=(rfl)
theorem qP:cN P ⟨d,.insert t m k x,ty,pos,af,g⟩ e s K=(vq P t s (ev e m) (ev e k) (ev e x) (YA K)):=(rfl)
theorem tU{i:Operand}:cN P ⟨d,.index t x i,ty,pos,af,g⟩ e s K=(ka P t (ev e x) (ev e i) (Dd K s)):=(rfl)
theorem pw:cN P ⟨d,.extract x i,ty,pos,af,g⟩ e s K=(xF (ev e x) i (Dd K s)):=(rfl)
theorem xz {f:FuncId}:cN P ⟨d,.call ⟨.value (.func f),args,GL⟩,ty,pos,af,g⟩ e s K=(aq P f (args.toList.map (ev e)) s K):=(rfl)
theorem tW:cN P ⟨d,.call ⟨.value (.tmp f),args,GL⟩,ty,pos,af,g⟩ e s K=(Jf P (e 0) (e f) (args.toList.map (ev e)) s K):=(rfl)
theorem AN:cN P ⟨d,.call ⟨.builtin .len,#[x],#[t]⟩,ty,pos,af,g⟩ e s K=(lq P t (ev e x) s (Dd K s)):=(rfl)
theorem rm:cN P ⟨d,.call ⟨.builtin .append,#[a,x],#[t,t']⟩,ty,pos,af,g⟩ e s K=(if t=t' then df P t (ev e a) (ev e x) s K else kD P t t' (ev e a) (ev e x) s K):=(rfl)
theorem xn:cN P ⟨d,.call ⟨.builtin .copy,#[a,x],#[t,t']⟩,ty,pos,af,g⟩ e s K=(t=t'/\yx P t (ev e a) (ev e x) s K):=(rfl)
theorem tS:cN P ⟨d,.call ⟨.builtin .clear,#[x],#[t]⟩,ty,pos,af,g⟩ e s K=(oM P t (ev e x) s K):=(rfl)
theorem A0:cN P ⟨d,.call ⟨.builtin .min,#[x,y],GL⟩,ty,pos,af,g⟩ e s K=(eX true (ev e x) [ev e y] (Dd K s)):=(rfl)
theorem AF:cN P ⟨d,.call ⟨.builtin .max,#[x,y],GL⟩,ty,pos,af,g⟩ e s K=(eX false (ev e x) [ev e y] (Dd K s)):=(rfl)
end
variable{id:Nat}{g:Nat}{s:List Obj}{P:Program}{K:V->List Obj->Prop}{e:Env}{lim:Nat}
theorem tP {cs:List V}:dT (.ag cs)=some cs:=(rfl)
theorem xD {x:D}:dT (.d x)=some [.d x]:=(rfl)
theorem tT {aw:List (List D)}:dT (.fu aw)=some [.fu aw]:=(rfl)
theorem uf {lo n:Nat}:dT (.so id g lo n)=some [.so id g lo n]:=(rfl)
theorem tE {i off:Nat}:dT (.rf id g i off)=some [.rf id g i off]:=(rfl)
theorem uC {fn:Fn}{a b:List V}:dT (.cl fn a b)=some [.cl fn a b]:=(rfl)
theorem Mv{f:FuncId} (k:Nat) {cargs args:List V}{o o':Obj}{r r':V} (h:aq P f cargs [o] λv s'=>v=r/\s'=[o']) (ha:args=cargs.map (aL [k])) (DC:ah.go 1 cargs=true)
  (hoo:aG 1 o=true) (ho:s[k]?=some (aT [k] o)) (hr:aL [k] r=r') (hk:K r' (s.set k (aT [k] o'))):aq P f args s K:=by
 refine vM h [k] rfl (by simp) (λj ob hj=>?_) ha DC (by simp [hoo]) λv s' hv=>?_
 ·cases j with
  |zero=>simp at hj;subst hj;simpa using ho
  |succ j=>simp at hj
 ·obtain⟨rfl,rfl⟩:=hv;refine⟨rfl,?_⟩;rw[hr];simpa [aE]using hk
def nV (aY:List Nat) (e:Env):Env:=λt=>if aY.contains t then e t else .any
theorem D9 {aY:List Nat}{t:Nat}:nV aY e t=if aY.contains t then e t else .any:=(rfl)
theorem br.cut {L:Nat}{s':List Obj} (lim:Nat) (hL:L<=lim) (hs:s.take lim=s') (ho:s'.all (aG lim)=true) (aY:List Nat) (hk:aY.all (λt=>ah lim (e t))=true):br L e s (nV aY e) s':=by
 subst hs;intro σ0 s0 w0 σ w N a qj hE hI hR;refine⟨σ,hE.take (by omega),hI.take ho,hR.1,hR.2.1,λt=>?_⟩;unfold nV;split
 ·rename_i ht;rw[af8]at hk;exact(hR.2.2 t).take (hk t (by simpa using ht))
 ·exact .any
theorem A3 {z:Nat}{lv:Bool}{l:List (List D)}:aG lim ⟨g,lv,z,l.map λc=>c.map V.d⟩=true:=by simp [aG,ah]
def BP (lim:Nat) (s:List Obj) (r:V) (K:V->List Obj->Prop):Prop:=(s.take lim).all (aG lim)=true/\ah lim r=true/\K r (s.take lim)
def Ug (P:Program) (rs:List ResultVar) (lim:Nat) (K:V->List Obj->Prop) (ex:Exit) (e:Env) (s:List Obj):Prop:=xT ex/\xp P rs e s λr=>BP lim s r K
theorem yF{rs:List ResultVar}{ex:Exit}:Ug P rs lim K ex e s=(xT ex/\xp P rs e s λr=>BP lim s r K):=(rfl)
theorem FW {P : Program} {f : FuncId} {fn : Func} {c : Code} {args : List V} {exts : List Obj} {K : V → List Obj → Prop} (hf : P.funcs[f]? = some fn) (hb : fn.body = some c) {N : Nat} (hN : fn.ntmps = N) {rs : Array ResultVar} (PA : fn.results = rs) (hn : (fn.name != "runtime.NumGoroutine") = true)
  (lim M:Nat) (hl:exts.length<=lim) (ha:args.length<=N)
  (h:codeWp P N lim M c (Ug P rs.toList lim K) (im args) exts):aq P f args exts K:=by
 subst hN;subst PA;refine⟨by simp only[Jz,hf,hn,hb,Option.isSome_some,ag3],λσ w vals hI Uc hv=>?_⟩;refine calls_of_wp hf hb ?_;have hR:dQ σ exts w fn.ntmps (im args) { tmps:=vals++Array.replicate (fn.ntmps-vals.size) undef,defers:=[] }:=by
  refine⟨rfl,by simp;omega,λt=>?_⟩;rw[nI];by_cases ht:t<args.length
  ·have h1:=hv t args[t] (by simp [ht]);have:(vals++Array.replicate (fn.ntmps-vals.size) undef).getD t undef=vals.getD t undef:=by rw[agh,ag1 (by omega),agh]
   rw[this];simpa [ht]using h1
  ·have:(vals++Array.replicate (fn.ntmps-vals.size) undef).getD t undef=undef:=by rw[agh,ag6 (by omega),Array.getElem?_replicate];split <;> rfl
   rw[this];simp [ht];exact .un
 refine wp_mono (nj hl c _ (im args) exts σ w _ (aF.refl _ _ _) hI hR h) λex a' w' ⟨e',σ',s',hE,jo,oR,hex,hq⟩=>?_;obtain⟨v,u,k1,k2,k3⟩:=my jo oR hq;obtain⟨h1,h2⟩:=k3;have fin:a'.defers=[]/\∃v,(results fn a'.tmps).run P w'=.ok v w'/\∃u Qp vC rh,Ending.returned v=.returned u/\aF σ exts w vC rh w'/\Inv vC rh w'/\aA vC rh w' Qp u/\K Qp rh:=by refine⟨oR.1,u,k1,?_⟩;exact⟨u,v,σ',s'.take lim,rfl,hE.take hl,jo.take h1,k2.take h2.1,h2.2⟩
 rcases qq hex with rfl|rfl
 ·exact fin
 ·exact fin
abbrev Zk:=am @oU @mc @oT @rC @qx @nd @oV<|am @qE @tF @ue @tB @FK @F8 @Fz<|am @FJ @oD @ur @tD @uK @tO @uJ<|am @zg @yw @vZ @vS @qY @oI @yI<|am @uz @rr @oQ @EU @tN @AU @AS<|am @xt @xV @Gc @oK @wX @ug @oY<|am @xZ @tV @xA @tG @oO @qu @wQ<|am @qM @j0 @uv @np @py @kT @rj<|am @x7 @x9 @tt @nz @mh @kS @rk<|am @kQ @qC @lp @qK @nA @tJ @tX<|am @ts @uE @tM @xP @qW @ya @tv<|am @AX @tC @ly @xk @oW @qF @l9<|am @qP @tR @AL @xM @xB @xx @xb<|am @xu @xE @xm @pa @nf @l8 @tI<|am @l7 @tH @mf @tU @pw @xz @tW<|am @AN @rm @xn @tS @A0 @AF @xj<|am @nH @lV @aH @tP @xD @tT @uf<|am @tE @uC @true_and @and_true @true_or @or_true @Bool.not_true<|am @Bool.not_false @false_or @or_false @decide_eq_true_eq @true_imp_iff @false_imp_iff @not_true_eq_false<|am @not_false_eq_true @decide_eq_false_iff_not @Bool.and_self @Bool.or_false @Bool.false_or @Bool.or_true @Bool.true_or<|am @Bool.and_true @Bool.true_and @Int.toNat_natCast @Int.ofNat_lt @Int.natCast_nonneg @decide_true @decide_false<|And.intro @V.d.injEq<|And.intro @D.sc.injEq<|And.intro @Go.Value.int.injEq @Go.Value.bool.injEq
end Go.VL
