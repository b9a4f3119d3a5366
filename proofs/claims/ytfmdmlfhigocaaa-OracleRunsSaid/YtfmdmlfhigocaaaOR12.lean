/- A part of the proof (Vr Vs Vt). -/
import Derived.Test.YtfmdmlfhigocaaaOR11
set_option linter.unusedSimpArgs false
set_option linter.unusedVariables false
set_option maxRecDepth 100000
set_option maxHeartbeats 80000000
namespace Go.VL
variable{K:Env->List Obj->Prop}{s:List Obj}{p:Prop}{b:Bool}{A:Env->Prop}{B:Env->Prop}{e:Env}{d:Option Nat}{want:Bool}{N:Nat}{P:Program}{o:Oper}{full:List Oper}{rest:List Oper}{ty:TypeId}{pos:String}{af:Array Edge}{g:FuncId}{c:Operand}{i:Nat}{fs:cI}{bars:List Nat}{x:Operand}{parts:Array (Nat×Operand)}{i':Operand}{ai:List D}{args:List V}{e0:V}{first:List D}{fn:Fn}{l:List D}
def FC (K:V->List Obj->Prop) (s:List Obj) (v:V):Prop:=K v s
theorem C9 {K:V->List Obj->Prop}{v:V}:FC K s v=K v s:=(rfl)
def unS (K:V->List Obj->Prop) (s:List Obj):Prop:=K .un s
theorem C6 {K:V->List Obj->Prop}:unS K s=K .un s:=(rfl)
def ow {α β:Type} (x:V) (A B:α->β->Prop) (e:α) (s:β):Prop:=tT x (A e s) (B e s)
theorem sP {α β:Type}{A B:α->β->Prop}{e:α}{s:β}:ow (.d (.sc (.bool true))) A B e s=A e s:=by simp [ow,tT,iM]
theorem qf {α β:Type}{A B:α->β->Prop}{e:α}{s:β}:ow (.d (.sc (.bool false))) A B e s=B e s:=by simp [ow,tT,iM]
theorem AF {α β:Type}{A B:α->β->Prop}{e:α}{s:β} [Decidable p]:ow (.d (.sc (.bool (decide p)))) A B e s=((p->A e s)/\(¬p->B e s)):=by simp [ow,tT,iM]
theorem wB {α β:Type}{A B:α->β->Prop}{e:α}{s:β}:ow (.d (.sc (.bool (!b)))) A B e s=ow (.d (.sc (.bool b))) B A e s:=by cases b <;> simp [ow,tT,iM]
theorem zu {α β:Type}{A B:α->β->Prop}{e:α}{s:β}:ow (.d .ub) A B e s=(A e s/\B e s):=(rfl)
theorem Qe {α β:Type}{A B:α->β->Prop}{e:α}{s:β}:ow (.d (.sc (.bool b))) A B e s=((b=true->A e s)/\(b=false->B e s)):=by simp [ow,tT,iM]
def tQ (x:V) (A B:List Obj->Prop) (s:List Obj):Prop:=iM x (A s) (B s)
theorem tc {A B:List Obj->Prop}:tQ (.d (.sc (.bool true))) A B s=A s:=by simp [tQ,iM]
theorem qo {A B:List Obj->Prop}:tQ (.d (.sc (.bool false))) A B s=B s:=by simp [tQ,iM]
theorem Ht {A B:List Obj->Prop} [Decidable p]:tQ (.d (.sc (.bool (decide p)))) A B s=((p->A s)/\(¬p->B s)):=by simp [tQ,iM]
theorem vK {A B:List Obj->Prop}:tQ (.d (.sc (.bool (!b)))) A B s=tQ (.d (.sc (.bool b))) B A s:=by cases b <;> simp [tQ,iM]
def fm (x:V) (d:Nat) (want:Bool) (A B:Env->Prop) (e:Env):Prop :=
 match x with
 |.d (.sc (.bool b))=>(b=want->A (bX e d (.d (.sc (.bool want)))))/\(b=(!want)->B (bX e d (.d (.sc (.bool (!want))))))
 |.un=>B e
 |_=>False
theorem wu {d:Nat}:fm (.d (.sc (.bool true))) d true A B e=A (bX e d (.d (.sc (.bool true)))):=by simp [fm]
theorem vC {d:Nat}:fm (.d (.sc (.bool false))) d false A B e=A (bX e d (.d (.sc (.bool false)))):=by simp [fm]
theorem wM {d:Nat}:fm (.d (.sc (.bool true))) d false A B e=B (bX e d (.d (.sc (.bool true)))):=by simp [fm]
theorem vL {d:Nat}:fm (.d (.sc (.bool false))) d true A B e=B (bX e d (.d (.sc (.bool false)))):=by simp [fm]
theorem wL {d:Nat}:fm .un d want A B e=B e:=(rfl)
theorem Bg {d:Nat} [Decidable p]:fm (.d (.sc (.bool (decide p)))) d true A B e=((p->A (bX e d (.d (.sc (.bool true)))))/\(¬p->B (bX e d (.d (.sc (.bool false)))))):=by simp [fm]
theorem At {d:Nat} [Decidable p]:fm (.d (.sc (.bool (decide p)))) d false A B e=((p->B (bX e d (.d (.sc (.bool true)))))/\(¬p->A (bX e d (.d (.sc (.bool false)))))):=by simp only[fm,decide_eq_false_iff_not,ajd,decide_eq_true_eq];exact propext And.comm
theorem yl {d:Nat} [Decidable p]:fm (.d (.sc (.bool (!decide p)))) d true A B e=((p->B (bX e d (.d (.sc (.bool false)))))/\(¬p->A (bX e d (.d (.sc (.bool true)))))):=by simp only[fm,Bool.not_eq_true',aje,Bool.not_eq_false',decide_eq_false_iff_not,decide_eq_true_eq];exact propext And.comm
theorem ya {d:Nat} [Decidable p]:fm (.d (.sc (.bool (!decide p)))) d false A B e=((p->A (bX e d (.d (.sc (.bool false)))))/\(¬p->B (bX e d (.d (.sc (.bool true)))))):=by simp only[fm,Bool.not_eq_true',ajd,Bool.not_eq_false',decide_eq_false_iff_not,decide_eq_true_eq]
def Jh (x:Option Nat) (want:Bool) (A B:Env->Prop) (e:Env):Prop:=mh x e want A B
theorem qc {d:Nat}:Jh (some d) want A B e=fm (e d) d want A B e:=by unfold Jh mh fm;exact(rfl)
def gA (P:Program) (N:Nat) (full rest:List Oper) (d:Option Nat) (o:Oper) (s:List Obj) (K:Env->List Obj->Prop) (e:Env):Prop:=dg P o e s (cont P N full rest e d K)
def gB (P:Program) (N:Nat) (full rest:List Oper) (d:Option Nat) (s:List Obj) (K:Env->List Obj->Prop) (e:Env):Prop:=qq P N full rest (jJ e d .un) s K
theorem Im:gA P N full rest d o s K e=dg P o e s (cont P N full rest e d K):=(rfl)
theorem IL:gB P N full rest d s K e=qq P N full rest (jJ e d .un) s K:=(rfl)
theorem wg{op:Op} :
  qq P N full (⟨d,op,ty,pos,af,none⟩::rest) e s K=(eP N d/\dg P ⟨d,op,ty,pos,af,none⟩ e s (cont P N full rest e d K)):=(rfl)
theorem vA{op:Op}{g:Nat} :
  qq P N full (⟨d,op,ty,pos,af,some (g,want)⟩::rest) e s K=(eP N d/\Jh (mN full g) want (gA P N full rest d ⟨d,op,ty,pos,af,some (g,want)⟩ s K) (gB P N full rest d s K) e):=(rfl)
theorem rX{L M:Nat}{Q:Exit->Env->List Obj->Prop}{a b:Code}:codeWp P N L M (.cond c a b) Q e s=ow (ev e c) (codeWp P N L M a Q) (codeWp P N L M b Q) (qz M e) s:=(rfl)
def hA (P:Program) (N:Nat) (full:List Oper) (bars:List Nat) (fs:cI) (i:Nat) (rest:List Oper) (d:Option Nat) (o:Oper) (s:List Obj) (K:Env->List Obj->Prop) (e:Env):Prop:=fF P bars fs i o e s (g8 P N full bars fs (i+1) rest e d K)
def hB (P:Program) (N:Nat) (full:List Oper) (bars:List Nat) (fs:cI) (i:Nat) (rest:List Oper) (d:Option Nat) (s:List Obj) (K:Env->List Obj->Prop) (e:Env):Prop:=iE P N full bars fs (i+1) rest (jJ e d .un) s K
theorem H8:hA P N full bars fs i rest d o s K e=fF P bars fs i o e s (g8 P N full bars fs (i+1) rest e d K):=(rfl)
theorem Ij:hB P N full bars fs i rest d s K e=iE P N full bars fs (i+1) rest (jJ e d .un) s K:=(rfl)
theorem vF :
  iE P N full bars fs i (⟨d,.move x,ty,pos,af,none⟩::rest) e s K=(eP N d/\fF P bars fs i ⟨d,.move x,ty,pos,af,none⟩ e s (g8 P N full bars fs (i+1) rest e d K)):=(rfl)
theorem qm :
  iE P N full bars fs i (⟨d,.assign x,ty,pos,af,none⟩::rest) e s K=(eP N d/\fF P bars fs i ⟨d,.assign x,ty,pos,af,none⟩ e s (g8 P N full bars fs (i+1) rest e d K)):=(rfl)
theorem rU{t:TypeId} :
  iE P N full bars fs i (⟨d,.alloc t,ty,pos,af,none⟩::rest) e s K=(eP N d/\fF P bars fs i ⟨d,.alloc t,ty,pos,af,none⟩ e s (g8 P N full bars fs (i+1) rest e d K)):=(rfl)
theorem yL{t:TypeId} :
  iE P N full bars fs i (⟨d,.box t x,ty,pos,af,none⟩::rest) e s K=(eP N d/\fF P bars fs i ⟨d,.box t x,ty,pos,af,none⟩ e s (g8 P N full bars fs (i+1) rest e d K)):=(rfl)
theorem sy{t:TypeId} :
  iE P N full bars fs i (⟨d,.build t parts,ty,pos,af,none⟩::rest) e s K=(eP N d/\fF P bars fs i ⟨d,.build t parts,ty,pos,af,none⟩ e s (g8 P N full bars fs (i+1) rest e d K)):=(rfl)
theorem lh{t:TypeId}{n:Nat} :
  iE P N full bars fs i (⟨d,.buildSlice t n parts,ty,pos,af,none⟩::rest) e s K=(eP N d/\fF P bars fs i ⟨d,.buildSlice t n parts,ty,pos,af,none⟩ e s (g8 P N full bars fs (i+1) rest e d K)):=(rfl)
theorem wy{t:TypeId}{a:Operand} :
  iE P N full bars fs i (⟨d,.load t a,ty,pos,af,none⟩::rest) e s K=(eP N d/\fF P bars fs i ⟨d,.load t a,ty,pos,af,none⟩ e s (g8 P N full bars fs (i+1) rest e d K)):=(rfl)
theorem oJ{t:TypeId}{r:Option Operand} :
  iE P N full bars fs i (⟨d,.makeMap t r,ty,pos,af,none⟩::rest) e s K=(eP N d/\fF P bars fs i ⟨d,.makeMap t r,ty,pos,af,none⟩ e s (g8 P N full bars fs (i+1) rest e d K)):=(rfl)
theorem qJ{t:TypeId}{x i':Operand}{ok:Bool} :
  iE P N full bars fs i (⟨d,.lookup t x i' ok,ty,pos,af,none⟩::rest) e s K=(eP N d/\fF P bars fs i ⟨d,.lookup t x i' ok,ty,pos,af,none⟩ e s (g8 P N full bars fs (i+1) rest e d K)):=(rfl)
theorem l9{t:TypeId}{m k:Operand} :
  iE P N full bars fs i (⟨d,.mapUpdate t m k x,ty,pos,af,none⟩::rest) e s K=(eP N d/\fF P bars fs i ⟨d,.mapUpdate t m k x,ty,pos,af,none⟩ e s (g8 P N full bars fs (i+1) rest e d K)):=(rfl)
theorem sX{t:TypeId}{a:Operand} :
  iE P N full bars fs i (⟨d,.store t a x,ty,pos,af,none⟩::rest) e s K=(eP N d/\fF P bars fs i ⟨d,.store t a x,ty,pos,af,none⟩ e s (g8 P N full bars fs (i+1) rest e d K)):=(rfl)
theorem zV :
  iE P N full bars fs i (⟨d,.nilCheck x,ty,pos,af,none⟩::rest) e s K=(eP N d/\fF P bars fs i ⟨d,.nilCheck x,ty,pos,af,none⟩ e s (g8 P N full bars fs (i+1) rest e d K)):=(rfl)
theorem zZ{op:BinOp}{t t':TypeId}{x y:Operand} :
  iE P N full bars fs i (⟨d,.binOp op t x y t',ty,pos,af,none⟩::rest) e s K=(eP N d/\fF P bars fs i ⟨d,.binOp op t x y t',ty,pos,af,none⟩ e s (g8 P N full bars fs (i+1) rest e d K)):=(rfl)
theorem vu{op:UnOp}{t:TypeId} :
  iE P N full bars fs i (⟨d,.unOp op t x,ty,pos,af,none⟩::rest) e s K=(eP N d/\fF P bars fs i ⟨d,.unOp op t x,ty,pos,af,none⟩ e s (g8 P N full bars fs (i+1) rest e d K)):=(rfl)
theorem oS{a b:TypeId} :
  iE P N full bars fs i (⟨d,.convert a b x,ty,pos,af,none⟩::rest) e s K=(eP N d/\fF P bars fs i ⟨d,.convert a b x,ty,pos,af,none⟩ e s (g8 P N full bars fs (i+1) rest e d K)):=(rfl)
theorem nr{fn:Fn}{first ai:Array Operand} :
  iE P N full bars fs i (⟨d,.makeFunc fn first ai,ty,pos,af,none⟩::rest) e s K=(eP N d/\fF P bars fs i ⟨d,.makeFunc fn first ai,ty,pos,af,none⟩ e s (g8 P N full bars fs (i+1) rest e d K)):=(rfl)
theorem l8{t:TypeId}{l:Operand} :
  iE P N full bars fs i (⟨d,.makeSlice t l c,ty,pos,af,none⟩::rest) e s K=(eP N d/\fF P bars fs i ⟨d,.makeSlice t l c,ty,pos,af,none⟩ e s (g8 P N full bars fs (i+1) rest e d K)):=(rfl)
theorem sY{t:TypeId}{x:Operand}{lo hi mx:Option Operand} :
  iE P N full bars fs i (⟨d,.slice t x lo hi mx,ty,pos,af,none⟩::rest) e s K=(eP N d/\fF P bars fs i ⟨d,.slice t x lo hi mx,ty,pos,af,none⟩ e s (g8 P N full bars fs (i+1) rest e d K)):=(rfl)
theorem lY{t:TypeId}{x:Operand}{f:Nat} :
  iE P N full bars fs i (⟨d,.fieldAddr t x f,ty,pos,af,none⟩::rest) e s K=(eP N d/\fF P bars fs i ⟨d,.fieldAddr t x f,ty,pos,af,none⟩ e s (g8 P N full bars fs (i+1) rest e d K)):=(rfl)
theorem sa{t:TypeId}{x:Operand}{f:Nat} :
  iE P N full bars fs i (⟨d,.field t x f,ty,pos,af,none⟩::rest) e s K=(eP N d/\fF P bars fs i ⟨d,.field t x f,ty,pos,af,none⟩ e s (g8 P N full bars fs (i+1) rest e d K)):=(rfl)
theorem mm{t:TypeId}{x:Operand} :
  iE P N full bars fs i (⟨d,.indexAddr t x i',ty,pos,af,none⟩::rest) e s K=(eP N d/\fF P bars fs i ⟨d,.indexAddr t x i',ty,pos,af,none⟩ e s (g8 P N full bars fs (i+1) rest e d K)):=(rfl)
theorem sq{t:TypeId}{x:Operand} :
  iE P N full bars fs i (⟨d,.index t x i',ty,pos,af,none⟩::rest) e s K=(eP N d/\fF P bars fs i ⟨d,.index t x i',ty,pos,af,none⟩ e s (g8 P N full bars fs (i+1) rest e d K)):=(rfl)
theorem oU{x:Operand}{i':Nat} :
  iE P N full bars fs i (⟨d,.extract x i',ty,pos,af,none⟩::rest) e s K=(eP N d/\fF P bars fs i ⟨d,.extract x i',ty,pos,af,none⟩ e s (g8 P N full bars fs (i+1) rest e d K)):=(rfl)
theorem vI{c:Call} :
  iE P N full bars fs i (⟨d,.call c,ty,pos,af,none⟩::rest) e s K=(eP N d/\fF P bars fs i ⟨d,.call c,ty,pos,af,none⟩ e s (g8 P N full bars fs (i+1) rest e d K)):=(rfl)
theorem vX{c a b:Operand} :
  iE P N full bars fs i (⟨d,.pick c a b,ty,pos,af,none⟩::rest) e s K=(eP N d/\bars.contains i=false/\iP fs i=none/\tQ (ev e c) (g8 P N full bars fs (i+1) rest e d K (ev e a)) (g8 P N full bars fs (i+1) rest e d K (ev e b)) s):=(rfl)
theorem vq{op:Op}{g:Nat} :
  iE P N full bars fs i (⟨d,op,ty,pos,af,some (g,want)⟩::rest) e s K=(eP N d/\Jh (mN full g) want (hA P N full bars fs i rest d ⟨d,op,ty,pos,af,some (g,want)⟩ s K) (hB P N full bars fs i rest d s K) e):=(rfl)
def L1 (P:Program) (e0 x:V) (args:List V) (s:List Obj) (K:V->List Obj->Prop):Prop :=
 match FW e0 x with
 |.cl (.func g) first ai=>az P g (first++args++ai) s K
 |_=>False
theorem zh{first ai:List V}{K:V->List Obj->Prop}:L1 P e0 (.cl (.func g) first ai) args s K=az P g (first++args++ai) s K:=(rfl)
theorem OG{K:V->List Obj->Prop}:L1 P e0 (.d (.cl (.func g) first ai)) args s K=az P g (dQ.go e0 first++args++dQ.go e0 ai) s K:=by unfold L1 FW;simp only[dQ]
theorem PR{first ai:List V}:FW e0 (.cl fn first ai)=.cl fn first ai:=(rfl)
theorem Uy:FW e0 (.d (.cl fn first ai))=.cl fn (dQ.go e0 first) (dQ.go e0 ai):=by unfold FW;simp only[dQ]
theorem Th:FW e0 (.d (.sc (.func fn ⟨[]⟩ ⟨[]⟩)))=.cl fn [] []:=(rfl)
theorem Lm {id g off b a:Nat}:L3 (.pp id g i off b a) b a=.pp id g i off b a:=by simp [L3]
theorem HC{b a:Nat}:dQ e0 (.sc (.pointer (some ⟨b,a,none⟩)))=L3 e0 b a:=by simp only[dQ]
theorem G6{k:IntKind}{n:Int}:dQ e0 (.sc (.int k n))=.d (.sc (.int k n)):=by simp only[dQ]
theorem EL:dQ e0 (.sc (.bool b))=.d (.sc (.bool b)):=by simp only[dQ]
theorem HI:dQ e0 (.sc (.pointer none))=.d (.sc (.pointer none)):=by simp only[dQ]
theorem JZ{aw:List (List D)}:dQ e0 (.sl aw)=.d (.sl aw):=by simp only[dQ]
theorem Gw{x:D}:dQ e0 (.el [x])=.bx (dQ e0 x):=by simp only[dQ]
theorem GI{x y:D}:dQ e0 (.el (x::y::l))=.d (.el (x::y::l)):=by simp only[dQ]
theorem Jx:dQ e0 (.cl fn first ai)=.cl fn (dQ.go e0 first) (dQ.go e0 ai):=by simp only[dQ]
theorem Gv:dQ.go e0 []=[]:=(rfl)
theorem Ey {e0:V}{x:D}:dQ.go e0 (x::l)=dQ e0 x::dQ.go e0 l:=(rfl)
theorem Pb{K:V->List Obj->Prop}:L1 P e0 (.d (.sc (.func (.func g) ⟨[]⟩ ⟨[]⟩))) args s K=az P g ([]++args++[]) s K:=(rfl)
section
variable {P:Program}{d:Option Nat}{ty:TypeId}{pos:String}{af:Array Edge}{g:Option (Nat×Bool)}{e:Nat->V}{s:List Obj}{K:V->List Obj->Prop}
variable{x:Operand}{a:Operand}{c:Operand}{t:TypeId}{parts:Array (Nat×Operand)}{e0:V}{i:Nat}{id:Nat}{off:Nat}{b:Nat}{op:BinOp}{t':TypeId}{f:Nat}{m:Operand}{k:Operand}{args:Array Operand}{Jp:Array TypeId}{y:Operand}
theorem zE:dg P ⟨d,.move x,ty,pos,af,g⟩ e s K=(K (ev e x) s):=(rfl)
theorem sO:dg P ⟨d,.assign x,ty,pos,af,g⟩ e s K=(K (ev e x) s):=(rfl)
theorem z0 {b:Operand}:dg P ⟨d,.pick c a b,ty,pos,af,g⟩ e s K=(tQ (ev e c) (K (ev e a)) (K (ev e b)) s):=(rfl)
theorem vv:dg P ⟨d,.alloc t,ty,pos,af,g⟩ e s K=(qF P t s K):=(rfl)
theorem De:dg P ⟨d,.box t x,ty,pos,af,g⟩ e s K=(BZ s (ev e x) K):=(rfl)
theorem vB:dg P ⟨d,.build t parts,ty,pos,af,g⟩ e s K=(qG P t (parts.toList.map λp=>(p.1,ev e p.2)) (FC K s)):=(rfl)
theorem mw{n:Nat}:dg P ⟨d,.buildSlice t n parts,ty,pos,af,g⟩ e s K=(e9 P t n (parts.toList.map λp=>(p.1,ev e p.2)) s K):=(rfl)
theorem K0{cs:List D}:xt e0 (.d (.el cs))=.d (.el cs):=(rfl)
theorem Ly{g:Nat}:xt e0 (.rf id g i off)=.rf id g i off:=(rfl)
theorem L7{g a:Nat}:xt e0 (.pp id g i off b a)=.pp id g i off b a:=(rfl)
theorem Hq{a:Nat}:xt e0 (.d (.sc (.pointer (some ⟨b,a,none⟩))))=Ep e0 b a:=(rfl)
theorem O8 {g a:Nat}:Ep (.pp id g i off b a) b a=.rf id g i off:=by simp [Ep]
theorem GS {g a k:Nat}:Ep (.pp id g i off b a) b (a+k)=.rf id g i (off+k):=by simp [Ep]
theorem y7:dg P ⟨d,.load t a,ty,pos,af,g⟩ e s K=(mz P t s (xt (e 0) (ev e a)) (FC K s)):=(rfl)
theorem vP:dg P ⟨d,.store t a x,ty,pos,af,g⟩ e s K=(iY P t s (ev e a) (ev e x) (unS K)):=(rfl)
theorem CR:dg P ⟨d,.nilCheck x,ty,pos,af,g⟩ e s K=(kD s (ev e x) (FC K s)):=(rfl)
theorem zB{y:Nat}:dg P ⟨d,.binOp op t x (.tmp y) t',ty,pos,af,g⟩ e s K=(qP P op t s (ev e x) (ev e (.tmp y)) (FC K s)):=(rfl)
theorem zp{k:IntKind}{y:Int}:dg P ⟨d,.binOp op t x (.const (.int k y)) t',ty,pos,af,g⟩ e s K=(qP P op t s (ev e x) (ev e (.const (.int k y))) (FC K s)):=(rfl)
theorem zm{y:Bool}:dg P ⟨d,.binOp op t x (.const (.bool y)) t',ty,pos,af,g⟩ e s K=(qP P op t s (ev e x) (ev e (.const (.bool y))) (FC K s)):=(rfl)
theorem yY{y:Option Addr}:dg P ⟨d,.binOp op t x (.const (.pointer y)) t',ty,pos,af,g⟩ e s K=(qP P op t s (ev e x) (ev e (.const (.pointer y))) (FC K s)):=(rfl)
theorem zi:dg P ⟨d,.binOp op t x (.const (.slice none 0 0)) t',ty,pos,af,g⟩ e s K=(eI P op t s (ev e x) (FC K s)):=(rfl)
theorem zb {op:UnOp}:dg P ⟨d,.unOp op t x,ty,pos,af,g⟩ e s K=(Cw op (ev e x) (FC K s)):=(rfl)
theorem qx {a b:TypeId}:dg P ⟨d,.convert a b x,ty,pos,af,g⟩ e s K=(qU P a b (ev e x) (FC K s)):=(rfl)
theorem oy {fn:Fn}{first ai:Array Operand}:dg P ⟨d,.makeFunc fn first ai,ty,pos,af,g⟩ e s K=(K (.cl fn (first.toList.map (ev e)) (ai.toList.map (ev e))) s):=(rfl)
theorem m9{l:Operand}:dg P ⟨d,.makeSlice t l c,ty,pos,af,g⟩ e s K=(gY P t (ev e l) (ev e c) s K):=(rfl)
theorem vH{lo hi mx:Option Operand}:dg P ⟨d,.slice t x lo hi mx,ty,pos,af,g⟩ e s K=(ma P t (ev e x) (lo.map (ev e)) (hi.map (ev e)) (mx.map (ev e)) s (FC K s)):=(rfl)
theorem m8:dg P ⟨d,.fieldAddr t x f,ty,pos,af,g⟩ e s K=(fh P t s (ev e x) f (FC K s)):=(rfl)
theorem vG:dg P ⟨d,.field t x f,ty,pos,af,g⟩ e s K=(ny P t (ev e x) f (FC K s)):=(rfl)
theorem nm{i:Operand}:dg P ⟨d,.indexAddr t x i,ty,pos,af,g⟩ e s K=(dT P t s (ev e x) (ev e i) (FC K s)):=(rfl)
theorem qv{r:Option Operand}:dg P ⟨d,.makeMap t r,ty,pos,af,g⟩ e s K=(oW P t r s K):=(rfl)
theorem sg{i:Operand}:dg P ⟨d,.lookup t x i false,ty,pos,af,g⟩ e s K=(j0 P t s (ev e x) (ev e i) (FC K s)):=(rfl)
theorem ng:dg P ⟨d,.mapUpdate t m k x,ty,pos,af,g⟩ e s K=(xA P t s (ev e m) (ev e k) (ev e x) (unS K)):=(rfl)
theorem sD:dg P ⟨d,.insert t m k x,ty,pos,af,g⟩ e s K=(xA P t s (ev e m) (ev e k) (ev e x) (unS K)):=(rfl)
theorem vT{i:Operand}:dg P ⟨d,.index t x i,ty,pos,af,g⟩ e s K=(lj P t (ev e x) (ev e i) (FC K s)):=(rfl)
theorem qI:dg P ⟨d,.extract x i,ty,pos,af,g⟩ e s K=(zv (ev e x) i (FC K s)):=(rfl)
theorem zn {f:FuncId}:dg P ⟨d,.call ⟨.value (.func f),args,Jp⟩,ty,pos,af,g⟩ e s K=(az P f (args.toList.map (ev e)) s K):=(rfl)
theorem vW:dg P ⟨d,.call ⟨.value (.tmp f),args,Jp⟩,ty,pos,af,g⟩ e s K=(L1 P (e 0) (e f) (args.toList.map (ev e)) s K):=(rfl)
theorem CU:dg P ⟨d,.call ⟨.builtin .len,#[x],#[t]⟩,ty,pos,af,g⟩ e s K=(mo P t (ev e x) s (FC K s)):=(rfl)
theorem s9:dg P ⟨d,.call ⟨.builtin .append,#[a,x],#[t,t']⟩,ty,pos,af,g⟩ e s K=(if t=t' then dj P t (ev e a) (ev e x) s K else lJ P t t' (ev e a) (ev e x) s K):=(rfl)
theorem zc:dg P ⟨d,.call ⟨.builtin .copy,#[a,x],#[t,t']⟩,ty,pos,af,g⟩ e s K=(t=t'/\Au P t (ev e a) (ev e x) s K):=(rfl)
theorem vQ:dg P ⟨d,.call ⟨.builtin .clear,#[x],#[t]⟩,ty,pos,af,g⟩ e s K=(qk P t (ev e x) s K):=(rfl)
theorem Dh:dg P ⟨d,.call ⟨.builtin .min,#[x,y],Jp⟩,ty,pos,af,g⟩ e s K=(fD true (ev e x) [ev e y] (FC K s)):=(rfl)
theorem CF:dg P ⟨d,.call ⟨.builtin .max,#[x,y],Jp⟩,ty,pos,af,g⟩ e s K=(fD false (ev e x) [ev e y] (FC K s)):=(rfl)
end
variable{id:Nat}{g:Nat}{s:List Obj}{P:Program}{K:V->List Obj->Prop}{e:Env}{lim:Nat}
theorem vM {cs:List V}:eH (.ag cs)=some cs:=(rfl)
theorem zt {x:D}:eH (.d x)=some [.d x]:=(rfl)
theorem vS {aw:List (List D)}:eH (.fu aw)=some [.fu aw]:=(rfl)
theorem wh {lo n:Nat}:eH (.so id g lo n)=some [.so id g lo n]:=(rfl)
theorem vD {i off:Nat}:eH (.rf id g i off)=some [.rf id g i off]:=(rfl)
theorem wG {fn:Fn}{a b:List V}:eH (.cl fn a b)=some [.cl fn a b]:=(rfl)
theorem PB{f:FuncId} (k:Nat) {cargs args:List V}{o o':Obj}{r r':V} (h:az P f cargs [o] λv s'=>v=r/\s'=[o']) (ha:args=cargs.map (aS [k])) (F6:ak.go 1 cargs=true)
  (RL:bc 1 o=true) (ho:s[k]?=some (bf [k] o)) (hr:aS [k] r=r') (hk:K r' (s.set k (bf [k] o'))):az P f args s K:=by
 refine xX h [k] rfl aj (λj ob hj=>?_) ha F6 (by simp [RL]) λv s' hv=>?_
 ·cases j with
  |zero=>simp at hj;subst hj;simpa using ho
  |succ j=>simp at hj
 ·obtain⟨rfl,rfl⟩:=hv;refine⟨rfl,?_⟩;rw[hr];simpa [aO]using hk
def pC (ba:List Nat) (e:Env):Env:=λt=>if ba.contains t then e t else .any
theorem GN {ba:List Nat}{t:Nat}:pC ba e t=if ba.contains t then e t else .any:=(rfl)
theorem bJ.cut {L:Nat}{s':List Obj} (lim:Nat) (hL:L<=lim) (hs:s.take lim=s') (ho:s'.all (bc lim)=true) (ba:List Nat) (hk:ba.all (λt=>ak lim (e t))=true):bJ L e s (pC ba e) s':=by
 subst hs;intro σ0 s0 w0 σ w N a nR hE hI hR;refine⟨σ,hE.take ae,hI.take ho,hR.1,hR.2.1,λt=>?_⟩;unfold pC;split
 ·rename_i ht;rw[ajo]at hk;exact(hR.2.2 t).take (hk t (by simpa using ht))
 ·exact .any
theorem Dl {z:Nat}{lv:Bool}{l:List (List D)}:bc lim ⟨g,lv,z,l.map λc=>c.map V.d⟩=true:=by simp [bc,ak]
def Ek (lim:Nat) (s:List Obj) (r:V) (K:V->List Obj->Prop):Prop:=(s.take lim).all (bc lim)=true/\ak lim r=true/\K r (s.take lim)
def Xf (P:Program) (rs:List ResultVar) (lim:Nat) (K:V->List Obj->Prop) (ex:Exit) (e:Env) (s:List Obj):Prop:=zK ex/\ze P rs e s λr=>Ek lim s r K
theorem AD{rs:List ResultVar}{ex:Exit}:Xf P rs lim K ex e s=(zK ex/\ze P rs e s λr=>Ek lim s r K):=(rfl)
theorem Iv {P : Program} {f : FuncId} {fn : Func} {c : Code} {args : List V} {exts : List Obj} {K : V → List Obj → Prop} (hf : P.funcs[f]? = some fn) (hb : fn.body = some c) {N : Nat} (hN : fn.ntmps = N) {rs : Array ResultVar} (Qt : fn.results = rs) (hn : (fn.name != "runtime.NumGoroutine") = true)
  (lim M:Nat) (hl:exts.length<=lim) (ha:args.length<=N)
  (h:codeWp P N lim M c (Xf P rs.toList lim K) (iX args) exts):az P f args exts K:=by
 subst hN;subst Qt;refine⟨by simp only[Ml,hf,hn,hb,Option.isSome_some,aka],λσ w vals hI Xb hv=>?_⟩;refine calls_of_wp hf hb ?_;have hR:eC σ exts w fn.ntmps (iX args) { tmps:=vals++Array.replicate (fn.ntmps-vals.size) undef,defers:=[] }:=by
  refine⟨rfl,cG,λt=>?_⟩;rw[oZ];by_cases ht:t<args.length
  ·have h1:=hv t args[t] (by simp [ht]);have:(vals++Array.replicate (fn.ntmps-vals.size) undef).getD t undef=vals.getD t undef:=by rw[ajl,aj8 ae,ajl]
   rw[this];simpa [ht]using h1
  ·have:(vals++Array.replicate (fn.ntmps-vals.size) undef).getD t undef=undef:=by rw[ajl,akd ae,Array.getElem?_replicate];split <;> rfl
   rw[this];simp [ht];exact .un
 refine wp_mono (oH hl c _ (iX args) exts σ w _ (aG.refl _ _ _) hI hR h) λex a' w' ⟨e',σ',s',hE,ko,qp,hex,hq⟩=>?_;obtain⟨v,u,k1,k2,k3⟩:=nG ko qp hq;obtain⟨h1,h2⟩:=k3;have fin:a'.defers=[]/\∃v,(results fn a'.tmps).run P w'=.ok v w'/\∃u Ts xH sT,Ending.returned v=.returned u/\aG σ exts w xH sT w'/\Inv xH sT w'/\aC xH sT w' Ts u/\K Ts sT:=by refine⟨qp.1,u,k1,?_⟩;exact⟨u,v,σ',s'.take lim,rfl,hE.take hl,ko.take h1,k2.take h2.1,h2.2⟩
 rcases rQ hex with rfl|rfl
 ·exact fin
 ·exact fin
abbrev vsA:=am @qt @ni @qs @tq @rX @ox @qu<|am @sf @vE @wg @vA @Im @IL @H8<|am @Ij @qc @wu @vC @wM @vL @wL<|am @Bg @At @yl @ya @sP @qf @AF<|am @wB @tc @qo @Ht @vK @C9 @C6<|am @zh @zL @IP @qi @yS @wj @qw<|am @zR @vU @zo @vF @qm @rU @yL<|am @sy @lh @wy @oJ @qJ @l9 @sX<|am @zV @zZ @vu @oS @nr @l8 @sY<|am @lY @sa @mm @sq @oU @vI @vX<|am @vq @wI @vJ @zE @sO @z0 @vv<|am @De @vB @mw @y7 @qv @sg @ng<|am @sD @vP @CR @zB @zp @zm @yY<|am @zi @zu @zb @qx @oy @m9 @vH<|am @m8 @vG @nm @vT @qI @zn @vW<|am @CU @s9 @zc @vQ @Dh @CF @y6<|am @oY @mX @aY @vM @zt @vS @wh<|am @vD @wG @true_and @and_true @true_or @or_true @Bool.not_true<|am @Bool.not_false @false_or @or_false @decide_eq_true_eq @true_imp_iff @false_imp_iff @not_true_eq_false<|am @not_false_eq_true @decide_eq_false_iff_not @Bool.and_self @Bool.or_false @Bool.false_or @Bool.or_true @Bool.true_or<|am @Bool.and_true @Bool.true_and @Int.toNat_natCast @Int.ofNat_lt @Int.natCast_nonneg @decide_true @decide_false<|And.intro @V.d.injEq<|And.intro @D.sc.injEq<|And.intro @Go.Value.int.injEq @Go.Value.bool.injEq
end Go.VL
