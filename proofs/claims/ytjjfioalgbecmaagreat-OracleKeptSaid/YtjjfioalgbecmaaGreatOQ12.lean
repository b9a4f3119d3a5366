/- A part of the proof (Vr Vs Vt). -/
import Derived.Test.YtjjfioalgbecmaaGreatOQ11
set_option linter.unusedSimpArgs false
set_option linter.unusedVariables false
set_option maxRecDepth 100000
set_option maxHeartbeats 80000000
namespace Go.VL
variable{K:Env->List Obj->Prop}{s:List Obj}{p:Prop}{b:Bool}{A:Env->Prop}{B:Env->Prop}{e:Env}{d:Option Nat}{want:Bool}{N:Nat}{P:Program}{o:Oper}{full:List Oper}{rest:List Oper}{ty:TypeId}{pos:String}{af:Array Edge}{g:FuncId}{c:Operand}{fs:cE}{i:Nat}{bars:List Nat}{x:Operand}{parts:Array (Nat×Operand)}{i':Operand}{ai:List D}{args:List V}{e0:V}{first:List D}{fn:Fn}{l:List D}
def ER (K:V->List Obj->Prop) (s:List Obj) (v:V):Prop:=K v s
theorem BW {K:V->List Obj->Prop}{v:V}:ER K s v=K v s:=(rfl)
def unS (K:V->List Obj->Prop) (s:List Obj):Prop:=K .un s
theorem BU {K:V->List Obj->Prop}:unS K s=K .un s:=(rfl)
def mb {α β:Type} (x:V) (A B:α->β->Prop) (e:α) (s:β):Prop:=pS x (A e s) (B e s)
theorem rP {α β:Type}{A B:α->β->Prop}{e:α}{s:β}:mb (.d (.sc (.bool true))) A B e s=A e s:=by simp [mb,pS,gF]
theorem ph {α β:Type}{A B:α->β->Prop}{e:α}{s:β}:mb (.d (.sc (.bool false))) A B e s=B e s:=by simp [mb,pS,gF]
theorem zg {α β:Type}{A B:α->β->Prop}{e:α}{s:β} [Decidable p]:mb (.d (.sc (.bool (decide p)))) A B e s=((p->A e s)/\(¬p->B e s)):=by simp [mb,pS,gF]
theorem vk {α β:Type}{A B:α->β->Prop}{e:α}{s:β}:mb (.d (.sc (.bool (!b)))) A B e s=mb (.d (.sc (.bool b))) B A e s:=by cases b <;> simp [mb,pS,gF]
theorem yg {α β:Type}{A B:α->β->Prop}{e:α}{s:β}:mb (.d .ub) A B e s=(A e s/\B e s):=(rfl)
theorem Pz {α β:Type}{A B:α->β->Prop}{e:α}{s:β}:mb (.d (.sc (.bool b))) A B e s=((b=true->A e s)/\(b=false->B e s)):=by simp [mb,pS,gF]
def sO (x:V) (A B:List Obj->Prop) (s:List Obj):Prop:=gF x (A s) (B s)
theorem r8 {A B:List Obj->Prop}:sO (.d (.sc (.bool true))) A B s=A s:=by simp [sO,gF]
theorem pr {A B:List Obj->Prop}:sO (.d (.sc (.bool false))) A B s=B s:=by simp [sO,gF]
theorem GZ {A B:List Obj->Prop} [Decidable p]:sO (.d (.sc (.bool (decide p)))) A B s=((p->A s)/\(¬p->B s)):=by simp [sO,gF]
theorem uN {A B:List Obj->Prop}:sO (.d (.sc (.bool (!b)))) A B s=sO (.d (.sc (.bool b))) B A s:=by cases b <;> simp [sO,gF]
def eT (x:V) (d:Nat) (want:Bool) (A B:Env->Prop) (e:Env):Prop :=
 match x with
 |.d (.sc (.bool b))=>(b=want->A (bK e d (.d (.sc (.bool want)))))/\(b=(!want)->B (bK e d (.d (.sc (.bool (!want))))))
 |.un=>B e
 |_=>False
theorem vf {d:Nat}:eT (.d (.sc (.bool true))) d true A B e=A (bK e d (.d (.sc (.bool true)))):=by simp [eT]
theorem uA {d:Nat}:eT (.d (.sc (.bool false))) d false A B e=A (bK e d (.d (.sc (.bool false)))):=by simp [eT]
theorem vx {d:Nat}:eT (.d (.sc (.bool true))) d false A B e=B (bK e d (.d (.sc (.bool true)))):=by simp [eT]
theorem uO {d:Nat}:eT (.d (.sc (.bool false))) d true A B e=B (bK e d (.d (.sc (.bool false)))):=by simp [eT]
theorem vv {d:Nat}:eT .un d want A B e=B e:=(rfl)
theorem Ah {d:Nat} [Decidable p]:eT (.d (.sc (.bool (decide p)))) d true A B e=((p->A (bK e d (.d (.sc (.bool true)))))/\(¬p->B (bK e d (.d (.sc (.bool false)))))):=by simp [eT]
theorem yY {d:Nat} [Decidable p]:eT (.d (.sc (.bool (decide p)))) d false A B e=((p->B (bK e d (.d (.sc (.bool true)))))/\(¬p->A (bK e d (.d (.sc (.bool false)))))):=by simp only[eT,decide_eq_false_iff_not,aj2,decide_eq_true_eq];exact propext And.comm
theorem xc {d:Nat} [Decidable p]:eT (.d (.sc (.bool (!decide p)))) d true A B e=((p->B (bK e d (.d (.sc (.bool false)))))/\(¬p->A (bK e d (.d (.sc (.bool true)))))):=by simp only[eT,Bool.not_eq_true',aj0,Bool.not_eq_false',decide_eq_false_iff_not,decide_eq_true_eq];exact propext And.comm
theorem wW {d:Nat} [Decidable p]:eT (.d (.sc (.bool (!decide p)))) d false A B e=((p->A (bK e d (.d (.sc (.bool false)))))/\(¬p->B (bK e d (.d (.sc (.bool true)))))):=by simp only[eT,Bool.not_eq_true',aj2,Bool.not_eq_false',decide_eq_false_iff_not,decide_eq_true_eq]
def IA (x:Option Nat) (want:Bool) (A B:Env->Prop) (e:Env):Prop:=kq x e want A B
theorem oY {d:Nat}:IA (some d) want A B e=eT (e d) d want A B e:=by unfold IA kq eT;exact(rfl)
def gA (P:Program) (N:Nat) (full rest:List Oper) (d:Option Nat) (o:Oper) (s:List Obj) (K:Env->List Obj->Prop) (e:Env):Prop:=cz P o e s (cont P N full rest e d K)
def gB (P:Program) (N:Nat) (full rest:List Oper) (d:Option Nat) (s:List Obj) (K:Env->List Obj->Prop) (e:Env):Prop:=ng P N full rest (gP e d .un) s K
theorem HK:gA P N full rest d o s K e=cz P o e s (cont P N full rest e d K):=(rfl)
theorem HZ:gB P N full rest d s K e=ng P N full rest (gP e d .un) s K:=(rfl)
theorem u6{op:Op} :
  ng P N full (⟨d,op,ty,pos,af,none⟩::rest) e s K=(dQ N d/\cz P ⟨d,op,ty,pos,af,none⟩ e s (cont P N full rest e d K)):=(rfl)
theorem uw{op:Op}{g:Nat} :
  ng P N full (⟨d,op,ty,pos,af,some (g,want)⟩::rest) e s K=(dQ N d/\IA (lR full g) want (gA P N full rest d ⟨d,op,ty,pos,af,some (g,want)⟩ s K) (gB P N full rest d s K) e):=(rfl)
theorem qS{L M:Nat}{Q:Exit->Env->List Obj->Prop}{a b:Code}:codeWp P N L M (.cond c a b) Q e s=mb (ev e c) (codeWp P N L M a Q) (codeWp P N L M b Q) (mU M e) s:=(rfl)
def hA (P:Program) (N:Nat) (full:List Oper) (bars:List Nat) (fs:cE) (i:Nat) (rest:List Oper) (d:Option Nat) (o:Oper) (s:List Obj) (K:Env->List Obj->Prop) (e:Env):Prop:=ff P bars fs i o e s (gi P N full bars fs (i+1) rest e d K)
def hB (P:Program) (N:Nat) (full:List Oper) (bars:List Nat) (fs:cE) (i:Nat) (rest:List Oper) (d:Option Nat) (s:List Obj) (K:Env->List Obj->Prop) (e:Env):Prop:=gJ P N full bars fs (i+1) rest (gP e d .un) s K
theorem Hw:hA P N full bars fs i rest d o s K e=ff P bars fs i o e s (gi P N full bars fs (i+1) rest e d K):=(rfl)
theorem HG:hB P N full bars fs i rest d s K e=gJ P N full bars fs (i+1) rest (gP e d .un) s K:=(rfl)
theorem uD :
  gJ P N full bars fs i (⟨d,.move x,ty,pos,af,none⟩::rest) e s K=(dQ N d/\ff P bars fs i ⟨d,.move x,ty,pos,af,none⟩ e s (gi P N full bars fs (i+1) rest e d K)):=(rfl)
theorem po :
  gJ P N full bars fs i (⟨d,.assign x,ty,pos,af,none⟩::rest) e s K=(dQ N d/\ff P bars fs i ⟨d,.assign x,ty,pos,af,none⟩ e s (gi P N full bars fs (i+1) rest e d K)):=(rfl)
theorem qP{t:TypeId} :
  gJ P N full bars fs i (⟨d,.alloc t,ty,pos,af,none⟩::rest) e s K=(dQ N d/\ff P bars fs i ⟨d,.alloc t,ty,pos,af,none⟩ e s (gi P N full bars fs (i+1) rest e d K)):=(rfl)
theorem xE{t:TypeId} :
  gJ P N full bars fs i (⟨d,.box t x,ty,pos,af,none⟩::rest) e s K=(dQ N d/\ff P bars fs i ⟨d,.box t x,ty,pos,af,none⟩ e s (gi P N full bars fs (i+1) rest e d K)):=(rfl)
theorem rA{t:TypeId} :
  gJ P N full bars fs i (⟨d,.build t parts,ty,pos,af,none⟩::rest) e s K=(dQ N d/\ff P bars fs i ⟨d,.build t parts,ty,pos,af,none⟩ e s (gi P N full bars fs (i+1) rest e d K)):=(rfl)
theorem kr{t:TypeId}{n:Nat} :
  gJ P N full bars fs i (⟨d,.buildSlice t n parts,ty,pos,af,none⟩::rest) e s K=(dQ N d/\ff P bars fs i ⟨d,.buildSlice t n parts,ty,pos,af,none⟩ e s (gi P N full bars fs (i+1) rest e d K)):=(rfl)
theorem vh{t:TypeId}{a:Operand} :
  gJ P N full bars fs i (⟨d,.load t a,ty,pos,af,none⟩::rest) e s K=(dQ N d/\ff P bars fs i ⟨d,.load t a,ty,pos,af,none⟩ e s (gi P N full bars fs (i+1) rest e d K)):=(rfl)
theorem ny{t:TypeId}{r:Option Operand} :
  gJ P N full bars fs i (⟨d,.makeMap t r,ty,pos,af,none⟩::rest) e s K=(dQ N d/\ff P bars fs i ⟨d,.makeMap t r,ty,pos,af,none⟩ e s (gi P N full bars fs (i+1) rest e d K)):=(rfl)
theorem pL{t:TypeId}{x i':Operand}{ok:Bool} :
  gJ P N full bars fs i (⟨d,.lookup t x i' ok,ty,pos,af,none⟩::rest) e s K=(dQ N d/\ff P bars fs i ⟨d,.lookup t x i' ok,ty,pos,af,none⟩ e s (gi P N full bars fs (i+1) rest e d K)):=(rfl)
theorem lq{t:TypeId}{m k:Operand} :
  gJ P N full bars fs i (⟨d,.mapUpdate t m k x,ty,pos,af,none⟩::rest) e s K=(dQ N d/\ff P bars fs i ⟨d,.mapUpdate t m k x,ty,pos,af,none⟩ e s (gi P N full bars fs (i+1) rest e d K)):=(rfl)
theorem rV{t:TypeId}{a:Operand} :
  gJ P N full bars fs i (⟨d,.store t a x,ty,pos,af,none⟩::rest) e s K=(dQ N d/\ff P bars fs i ⟨d,.store t a x,ty,pos,af,none⟩ e s (gi P N full bars fs (i+1) rest e d K)):=(rfl)
theorem yB :
  gJ P N full bars fs i (⟨d,.nilCheck x,ty,pos,af,none⟩::rest) e s K=(dQ N d/\ff P bars fs i ⟨d,.nilCheck x,ty,pos,af,none⟩ e s (gi P N full bars fs (i+1) rest e d K)):=(rfl)
theorem yD{op:BinOp}{t t':TypeId}{x y:Operand} :
  gJ P N full bars fs i (⟨d,.binOp op t x y t',ty,pos,af,none⟩::rest) e s K=(dQ N d/\ff P bars fs i ⟨d,.binOp op t x y t',ty,pos,af,none⟩ e s (gi P N full bars fs (i+1) rest e d K)):=(rfl)
theorem uo{op:UnOp}{t:TypeId} :
  gJ P N full bars fs i (⟨d,.unOp op t x,ty,pos,af,none⟩::rest) e s K=(dQ N d/\ff P bars fs i ⟨d,.unOp op t x,ty,pos,af,none⟩ e s (gi P N full bars fs (i+1) rest e d K)):=(rfl)
theorem nJ{a b:TypeId} :
  gJ P N full bars fs i (⟨d,.convert a b x,ty,pos,af,none⟩::rest) e s K=(dQ N d/\ff P bars fs i ⟨d,.convert a b x,ty,pos,af,none⟩ e s (gi P N full bars fs (i+1) rest e d K)):=(rfl)
theorem mH{fn:Fn}{first ai:Array Operand} :
  gJ P N full bars fs i (⟨d,.makeFunc fn first ai,ty,pos,af,none⟩::rest) e s K=(dQ N d/\ff P bars fs i ⟨d,.makeFunc fn first ai,ty,pos,af,none⟩ e s (gi P N full bars fs (i+1) rest e d K)):=(rfl)
theorem lp{t:TypeId}{l:Operand} :
  gJ P N full bars fs i (⟨d,.makeSlice t l c,ty,pos,af,none⟩::rest) e s K=(dQ N d/\ff P bars fs i ⟨d,.makeSlice t l c,ty,pos,af,none⟩ e s (gi P N full bars fs (i+1) rest e d K)):=(rfl)
theorem rW{t:TypeId}{x:Operand}{lo hi mx:Option Operand} :
  gJ P N full bars fs i (⟨d,.slice t x lo hi mx,ty,pos,af,none⟩::rest) e s K=(dQ N d/\ff P bars fs i ⟨d,.slice t x lo hi mx,ty,pos,af,none⟩ e s (gi P N full bars fs (i+1) rest e d K)):=(rfl)
theorem la{t:TypeId}{x:Operand}{f:Nat} :
  gJ P N full bars fs i (⟨d,.fieldAddr t x f,ty,pos,af,none⟩::rest) e s K=(dQ N d/\ff P bars fs i ⟨d,.fieldAddr t x f,ty,pos,af,none⟩ e s (gi P N full bars fs (i+1) rest e d K)):=(rfl)
theorem qY{t:TypeId}{x:Operand}{f:Nat} :
  gJ P N full bars fs i (⟨d,.field t x f,ty,pos,af,none⟩::rest) e s K=(dQ N d/\ff P bars fs i ⟨d,.field t x f,ty,pos,af,none⟩ e s (gi P N full bars fs (i+1) rest e d K)):=(rfl)
theorem lJ{t:TypeId}{x:Operand} :
  gJ P N full bars fs i (⟨d,.indexAddr t x i',ty,pos,af,none⟩::rest) e s K=(dQ N d/\ff P bars fs i ⟨d,.indexAddr t x i',ty,pos,af,none⟩ e s (gi P N full bars fs (i+1) rest e d K)):=(rfl)
theorem rp{t:TypeId}{x:Operand} :
  gJ P N full bars fs i (⟨d,.index t x i',ty,pos,af,none⟩::rest) e s K=(dQ N d/\ff P bars fs i ⟨d,.index t x i',ty,pos,af,none⟩ e s (gi P N full bars fs (i+1) rest e d K)):=(rfl)
theorem nM{x:Operand}{i':Nat} :
  gJ P N full bars fs i (⟨d,.extract x i',ty,pos,af,none⟩::rest) e s K=(dQ N d/\ff P bars fs i ⟨d,.extract x i',ty,pos,af,none⟩ e s (gi P N full bars fs (i+1) rest e d K)):=(rfl)
theorem uH{c:Call} :
  gJ P N full bars fs i (⟨d,.call c,ty,pos,af,none⟩::rest) e s K=(dQ N d/\ff P bars fs i ⟨d,.call c,ty,pos,af,none⟩ e s (gi P N full bars fs (i+1) rest e d K)):=(rfl)
theorem uZ{c a b:Operand} :
  gJ P N full bars fs i (⟨d,.pick c a b,ty,pos,af,none⟩::rest) e s K=(dQ N d/\bars.contains i=false/\ic fs i=none/\sO (ev e c) (gi P N full bars fs (i+1) rest e d K (ev e a)) (gi P N full bars fs (i+1) rest e d K (ev e b)) s):=(rfl)
theorem uj{op:Op}{g:Nat} :
  gJ P N full bars fs i (⟨d,op,ty,pos,af,some (g,want)⟩::rest) e s K=(dQ N d/\IA (lR full g) want (hA P N full bars fs i rest d ⟨d,op,ty,pos,af,some (g,want)⟩ s K) (hB P N full bars fs i rest d s K) e):=(rfl)
def Lo (P:Program) (e0 x:V) (args:List V) (s:List Obj) (K:V->List Obj->Prop):Prop :=
 match Ff e0 x with
 |.cl (.func g) first ai=>ar P g (first++args++ai) s K
 |_=>False
theorem x5{first ai:List V}{K:V->List Obj->Prop}:Lo P e0 (.cl (.func g) first ai) args s K=ar P g (first++args++ai) s K:=(rfl)
theorem NQ{K:V->List Obj->Prop}:Lo P e0 (.d (.cl (.func g) first ai)) args s K=ar P g (dE.go e0 first++args++dE.go e0 ai) s K:=by unfold Lo Ff;simp only[dE]
theorem Pc{first ai:List V}:Ff e0 (.cl fn first ai)=.cl fn first ai:=(rfl)
theorem Uz:Ff e0 (.d (.cl fn first ai))=.cl fn (dE.go e0 first) (dE.go e0 ai):=by unfold Ff;simp only[dE]
theorem S1:Ff e0 (.d (.sc (.func fn ⟨[]⟩ ⟨[]⟩)))=.cl fn [] []:=(rfl)
theorem KL {id g off b a:Nat}:Lq (.pp id g i off b a) b a=.pp id g i off b a:=by simp [Lq]
theorem Hb{b a:Nat}:dE e0 (.sc (.pointer (some ⟨b,a,none⟩)))=Lq e0 b a:=by simp only[dE]
theorem Gs{k:IntKind}{n:Int}:dE e0 (.sc (.int k n))=.d (.sc (.int k n)):=by simp only[dE]
theorem Dk:dE e0 (.sc (.bool b))=.d (.sc (.bool b)):=by simp only[dE]
theorem Hf:dE e0 (.sc (.pointer none))=.d (.sc (.pointer none)):=by simp only[dE]
theorem Jm{au:List (List D)}:dE e0 (.sl au)=.d (.sl au):=by simp only[dE]
theorem FP{x:D}:dE e0 (.el [x])=.bx (dE e0 x):=by simp only[dE]
theorem F3{x y:D}:dE e0 (.el (x::y::l))=.d (.el (x::y::l)):=by simp only[dE]
theorem IQ:dE e0 (.cl fn first ai)=.cl fn (dE.go e0 first) (dE.go e0 ai):=by simp only[dE]
theorem FO:dE.go e0 []=[]:=(rfl)
theorem C8 {e0:V}{x:D}:dE.go e0 (x::l)=dE e0 x::dE.go e0 l:=(rfl)
theorem Ot{K:V->List Obj->Prop}:Lo P e0 (.d (.sc (.func (.func g) ⟨[]⟩ ⟨[]⟩))) args s K=ar P g ([]++args++[]) s K:=(rfl)
section
variable {P:Program}{d:Option Nat}{ty:TypeId}{pos:String}{af:Array Edge}{g:Option (Nat×Bool)}{e:Nat->V}{s:List Obj}{K:V->List Obj->Prop}
variable{x:Operand}{a:Operand}{c:Operand}{t:TypeId}{parts:Array (Nat×Operand)}{e0:V}{i:Nat}{id:Nat}{off:Nat}{b:Nat}{op:BinOp}{t':TypeId}{f:Nat}{m:Operand}{k:Operand}{args:Array Operand}{E7:Array TypeId}{y:Operand}
theorem yn:cz P ⟨d,.move x,ty,pos,af,g⟩ e s K=(K (ev e x) s):=(rfl)
theorem rO:cz P ⟨d,.assign x,ty,pos,af,g⟩ e s K=(K (ev e x) s):=(rfl)
theorem yE {b:Operand}:cz P ⟨d,.pick c a b,ty,pos,af,g⟩ e s K=(sO (ev e c) (K (ev e a)) (K (ev e b)) s):=(rfl)
theorem ur:cz P ⟨d,.alloc t,ty,pos,af,g⟩ e s K=(pF P t s K):=(rfl)
theorem BZ:cz P ⟨d,.box t x,ty,pos,af,g⟩ e s K=(AX s (ev e x) K):=(rfl)
theorem uz:cz P ⟨d,.build t parts,ty,pos,af,g⟩ e s K=(pI P t (parts.toList.map λp=>(p.1,ev e p.2)) (ER K s)):=(rfl)
theorem lP{n:Nat}:cz P ⟨d,.buildSlice t n parts,ty,pos,af,g⟩ e s K=(eN P t n (parts.toList.map λp=>(p.1,ev e p.2)) s K):=(rfl)
theorem Km{cs:List D}:vQ e0 (.d (.el cs))=.d (.el cs):=(rfl)
theorem KW{g:Nat}:vQ e0 (.rf id g i off)=.rf id g i off:=(rfl)
theorem Lx{g a:Nat}:vQ e0 (.pp id g i off b a)=.pp id g i off b a:=(rfl)
theorem GW{a:Nat}:vQ e0 (.d (.sc (.pointer (some ⟨b,a,none⟩))))=CX e0 b a:=(rfl)
theorem Ol {g a:Nat}:CX (.pp id g i off b a) b a=.rf id g i off:=by simp [CX]
theorem Gc {g a k:Nat}:CX (.pp id g i off b a) b (a+k)=.rf id g i (off+k):=by simp [CX]
theorem xW:cz P ⟨d,.load t a,ty,pos,af,g⟩ e s K=(lT P t s (vQ (e 0) (ev e a)) (ER K s)):=(rfl)
theorem uR:cz P ⟨d,.store t a x,ty,pos,af,g⟩ e s K=(iF P t s (ev e a) (ev e x) (unS K)):=(rfl)
theorem BN:cz P ⟨d,.nilCheck x,ty,pos,af,g⟩ e s K=(jP s (ev e x) (ER K s)):=(rfl)
theorem yl{y:Nat}:cz P ⟨d,.binOp op t x (.tmp y) t',ty,pos,af,g⟩ e s K=(pP P op t s (ev e x) (ev e (.tmp y)) (ER K s)):=(rfl)
theorem yb{k:IntKind}{y:Int}:cz P ⟨d,.binOp op t x (.const (.int k y)) t',ty,pos,af,g⟩ e s K=(pP P op t s (ev e x) (ev e (.const (.int k y))) (ER K s)):=(rfl)
theorem x8{y:Bool}:cz P ⟨d,.binOp op t x (.const (.bool y)) t',ty,pos,af,g⟩ e s K=(pP P op t s (ev e x) (ev e (.const (.bool y))) (ER K s)):=(rfl)
theorem xR{y:Option Addr}:cz P ⟨d,.binOp op t x (.const (.pointer y)) t',ty,pos,af,g⟩ e s K=(pP P op t s (ev e x) (ev e (.const (.pointer y))) (ER K s)):=(rfl)
theorem x6:cz P ⟨d,.binOp op t x (.const (.slice none 0 0)) t',ty,pos,af,g⟩ e s K=(ej P op t s (ev e x) (ER K s)):=(rfl)
theorem xZ {op:UnOp}:cz P ⟨d,.unOp op t x,ty,pos,af,g⟩ e s K=(Bv op (ev e x) (ER K s)):=(rfl)
theorem pC {a b:TypeId}:cz P ⟨d,.convert a b x,ty,pos,af,g⟩ e s K=(pX P a b (ev e x) (ER K s)):=(rfl)
theorem nm {fn:Fn}{first ai:Array Operand}:cz P ⟨d,.makeFunc fn first ai,ty,pos,af,g⟩ e s K=(K (.cl fn (first.toList.map (ev e)) (ai.toList.map (ev e))) s):=(rfl)
theorem mz{l:Operand}:cz P ⟨d,.makeSlice t l c,ty,pos,af,g⟩ e s K=(fY P t (ev e l) (ev e c) s K):=(rfl)
theorem uF{lo hi mx:Option Operand}:cz P ⟨d,.slice t x lo hi mx,ty,pos,af,g⟩ e s K=(ly P t (ev e x) (lo.map (ev e)) (hi.map (ev e)) (mx.map (ev e)) s (ER K s)):=(rfl)
theorem my:cz P ⟨d,.fieldAddr t x f,ty,pos,af,g⟩ e s K=(eR P t s (ev e x) f (ER K s)):=(rfl)
theorem uE:cz P ⟨d,.field t x f,ty,pos,af,g⟩ e s K=(mK P t (ev e x) f (ER K s)):=(rfl)
theorem mF{i:Operand}:cz P ⟨d,.indexAddr t x i,ty,pos,af,g⟩ e s K=(dG P t s (ev e x) (ev e i) (ER K s)):=(rfl)
theorem pz{r:Option Operand}:cz P ⟨d,.makeMap t r,ty,pos,af,g⟩ e s K=(nN P t r s K):=(rfl)
theorem rj{i:Operand}:cz P ⟨d,.lookup t x i false,ty,pos,af,g⟩ e s K=(jt P t s (ev e x) (ev e i) (ER K s)):=(rfl)
theorem mA:cz P ⟨d,.mapUpdate t m k x,ty,pos,af,g⟩ e s K=(vY P t s (ev e m) (ev e k) (ev e x) (unS K)):=(rfl)
theorem rD:cz P ⟨d,.insert t m k x,ty,pos,af,g⟩ e s K=(vY P t s (ev e m) (ev e k) (ev e x) (unS K)):=(rfl)
theorem uW{i:Operand}:cz P ⟨d,.index t x i,ty,pos,af,g⟩ e s K=(ks P t (ev e x) (ev e i) (ER K s)):=(rfl)
theorem pK:cz P ⟨d,.extract x i,ty,pos,af,g⟩ e s K=(yh (ev e x) i (ER K s)):=(rfl)
theorem x9 {f:FuncId}:cz P ⟨d,.call ⟨.value (.func f),args,E7⟩,ty,pos,af,g⟩ e s K=(ar P f (args.toList.map (ev e)) s K):=(rfl)
theorem uY:cz P ⟨d,.call ⟨.value (.tmp f),args,E7⟩,ty,pos,af,g⟩ e s K=(Lo P (e 0) (e f) (args.toList.map (ev e)) s K):=(rfl)
theorem BQ:cz P ⟨d,.call ⟨.builtin .len,#[x],#[t]⟩,ty,pos,af,g⟩ e s K=(lK P t (ev e x) s (ER K s)):=(rfl)
theorem rY:cz P ⟨d,.call ⟨.builtin .append,#[a,x],#[t,t']⟩,ty,pos,af,g⟩ e s K=(if t=t' then dt P t (ev e a) (ev e x) s K else kN P t t' (ev e a) (ev e x) s K):=(rfl)
theorem x3:cz P ⟨d,.call ⟨.builtin .copy,#[a,x],#[t,t']⟩,ty,pos,af,g⟩ e s K=(t=t'/\yZ P t (ev e a) (ev e x) s K):=(rfl)
theorem uS:cz P ⟨d,.call ⟨.builtin .clear,#[x],#[t]⟩,ty,pos,af,g⟩ e s K=(nr P t (ev e x) s K):=(rfl)
theorem B4:cz P ⟨d,.call ⟨.builtin .min,#[x,y],E7⟩,ty,pos,af,g⟩ e s K=(fe true (ev e x) [ev e y] (ER K s)):=(rfl)
theorem BG:cz P ⟨d,.call ⟨.builtin .max,#[x,y],E7⟩,ty,pos,af,g⟩ e s K=(fe false (ev e x) [ev e y] (ER K s)):=(rfl)
end
theorem uP {cs:List V}:eg (.ag cs)=some cs:=(rfl)
theorem yf {x:D}:eg (.d x)=some [.d x]:=(rfl)
theorem uU {au:List (List D)}:eg (.fu au)=some [.fu au]:=(rfl)
theorem u7 {id g lo n:Nat}:eg (.so id g lo n)=some [.so id g lo n]:=(rfl)
theorem uB {id g i off:Nat}:eg (.rf id g i off)=some [.rf id g i off]:=(rfl)
theorem vn {fn:Fn}{a b:List V}:eg (.cl fn a b)=some [.cl fn a b]:=(rfl)
theorem Im {P:Program}{f:FuncId} (k:Nat) {cargs args:List V}{s:List Obj}{o o':Obj}{r r':V}{K:V->List Obj->Prop} (h:ar P f cargs [o] λv s'=>v=r/\s'=[o']) (ha:args=cargs.map (aE [k])) (wY:aj.go 1 cargs=true)
  (hoo:aK 1 o=true) (ho:s[k]?=some (aN [k] o)) (hr:aE [k] r=r') (hk:K r' (s.set k (aN [k] o'))):ar P f args s K:=by
 refine rE h [k] rfl ak (λj ob hj=>?_) ha wY (by simp [hoo]) λv s' hv=>?_
 ·cases j with
  |zero=>simp at hj;subst hj;simpa using ho
  |succ j=>simp at hj
 ·obtain⟨rfl,rfl⟩:=hv;refine⟨rfl,?_⟩;rw[hr];simpa [aJ]using hk
def od (aZ:List Nat) (e:Env):Env:=λt=>if aZ.contains t then e t else .any
theorem F5 {aZ:List Nat}{e:Env}{t:Nat}:od aZ e t=if aZ.contains t then e t else .any:=(rfl)
theorem bA.cut {L:Nat}{e:Env}{s s':List Obj} (lim:Nat) (hL:L<=lim) (hs:s.take lim=s') (ho:s'.all (aK lim)=true) (aZ:List Nat) (hk:aZ.all (λt=>aj lim (e t))=true):bA L e s (od aZ e) s':=by
 subst hs;intro σ0 s0 w0 σ w N a kA hE hI hR;refine⟨σ,hE.take ae,hI.take ho,hR.1,hR.2.1,λt=>?_⟩;unfold od;split
 ·rename_i ht;rw[aj3]at hk;exact(hR.2.2 t).take (hk t (by simpa using ht))
 ·exact .any
theorem B7 {lim g z:Nat}{lv:Bool}{l:List (List D)}:aK lim ⟨g,lv,z,l.map λc=>c.map V.d⟩=true:=by simp [aK,aj]
abbrev vsA:=am @px @mD @pw @oH @qS @kZ @py<|am @rh @uC @u6 @uw @HK @HZ @Hw<|am @HG @oY @vf @uA @vx @uO @vv<|am @Ah @yY @xc @wW @rP @ph @zg<|am @vk @r8 @pr @GZ @uN @BW @BU<|am @x5 @yr @H5 @pj @xM @u9 @pA<|am @yy @uX @ya @uD @po @qP @xE<|am @rA @kr @vh @ny @pL @lq @rV<|am @yB @yD @uo @nJ @mH @lp @rW<|am @la @qY @lJ @rp @nM @uH @uZ<|am @uj @vq @uL @yn @rO @yE @ur<|am @BZ @uz @lP @xW @pz @rj @mA<|am @rD @uR @BN @yl @yb @x8 @xR<|am @x6 @yg @xZ @pC @nm @mz @uF<|am @my @uE @mF @uW @pK @x9 @uY<|am @BQ @rY @x3 @uS @B4 @BG @xV<|am @nQ @mo @aS @uP @yf @uU @u7<|am @uB @vn @true_and @and_true @true_or @or_true @Bool.not_true<|am @Bool.not_false @false_or @or_false @decide_eq_true_eq @true_imp_iff @false_imp_iff @not_true_eq_false<|am @not_false_eq_true @decide_eq_false_iff_not @Bool.and_self @Bool.or_false @Bool.false_or @Bool.or_true @Bool.true_or<|am @Bool.and_true @Bool.true_and @Int.toNat_natCast @Int.ofNat_lt @Int.natCast_nonneg @decide_true @decide_false<|And.intro @V.d.injEq<|And.intro @D.sc.injEq<|And.intro @Go.Value.int.injEq @Go.Value.bool.injEq
end Go.VL
