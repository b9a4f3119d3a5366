/- A part of the proof. -/
import Derived.Test.YtjjfioalgbecmaaGreatOA9
set_option linter.unusedSimpArgs false
set_option linter.unusedVariables false
set_option maxRecDepth 100000
set_option maxHeartbeats 80000000
namespace Go.VL
variable{K:Env->List Obj->Prop}{s:List Obj}{p:Prop}{b:Bool}{A:Env->Prop}{B:Env->Prop}{e:Env}{want:Bool}{N:Nat}{P:Program}{o:Oper}{full:List Oper}{rest:List Oper}{ty:TypeId}{pos:String}{af:Array Edge}{g:FuncId}{c:Operand}{i:Nat}{fs:cT}{bars:List Nat}{x:Operand}{parts:Array (Nat×Operand)}{i':Operand}{aj:List D}{args:List V}{e0:V}{first:List D}{fn:Fn}{l:List D}
def FW (K:V->List Obj->Prop) (s:List Obj) (v:V):Prop:=K v s
theorem De {K:V->List Obj->Prop}{v:V}:FW K s v=K v s:=(rfl)
def unS (K:V->List Obj->Prop) (s:List Obj):Prop:=K .un s
theorem C9 {K:V->List Obj->Prop}:unS K s=K .un s:=(rfl)
def ow {α β:Type} (x:V) (A B:α->β->Prop) (e:α) (s:β):Prop:=uu x (A e s) (B e s)
theorem te {α β:Type}{A B:α->β->Prop}{e:α}{s:β}:ow (.d (.sc (.bool true))) A B e s=A e s:=by simp [ow,uu,iH]
theorem ql {α β:Type}{A B:α->β->Prop}{e:α}{s:β}:ow (.d (.sc (.bool false))) A B e s=B e s:=by simp [ow,uu,iH]
theorem AH {α β:Type}{A B:α->β->Prop}{e:α}{s:β} [Decidable p]:ow (.d (.sc (.bool (decide p)))) A B e s=((p->A e s)/\(¬p->B e s)):=by simp [ow,uu,iH]
theorem wE {α β:Type}{A B:α->β->Prop}{e:α}{s:β}:ow (.d (.sc (.bool (!b)))) A B e s=ow (.d (.sc (.bool b))) B A e s:=by cases b <;> simp [ow,uu,iH]
theorem zB {α β:Type}{A B:α->β->Prop}{e:α}{s:β}:ow (.d .ub) A B e s=(A e s/\B e s):=(rfl)
theorem QB {α β:Type}{A B:α->β->Prop}{e:α}{s:β}:ow (.d (.sc (.bool b))) A B e s=((b=true->A e s)/\(b=false->B e s)):=by simp [ow,uu,iH]
def uq (x:V) (A B:List Obj->Prop) (s:List Obj):Prop:=iH x (A s) (B s)
theorem tG {A B:List Obj->Prop}:uq (.d (.sc (.bool true))) A B s=A s:=by simp [uq,iH]
theorem qt {A B:List Obj->Prop}:uq (.d (.sc (.bool false))) A B s=B s:=by simp [uq,iH]
theorem HX {A B:List Obj->Prop} [Decidable p]:uq (.d (.sc (.bool (decide p)))) A B s=((p->A s)/\(¬p->B s)):=by simp [uq,iH]
theorem vP {A B:List Obj->Prop}:uq (.d (.sc (.bool (!b)))) A B s=uq (.d (.sc (.bool b))) B A s:=by cases b <;> simp [uq,iH]
def fp (x:V) (d:Nat) (want:Bool) (A B:Env->Prop) (e:Env):Prop :=
 match x with
 |.d (.sc (.bool b))=>(b=want->A (ca e d (.d (.sc (.bool want)))))/\(b=(!want)->B (ca e d (.d (.sc (.bool (!want))))))
 |.un=>B e
 |_=>False
theorem wv {d:Nat}:fp (.d (.sc (.bool true))) d true A B e=A (ca e d (.d (.sc (.bool true)))):=by simp [fp]
theorem vG {d:Nat}:fp (.d (.sc (.bool false))) d false A B e=A (ca e d (.d (.sc (.bool false)))):=by simp [fp]
theorem wP {d:Nat}:fp (.d (.sc (.bool true))) d false A B e=B (ca e d (.d (.sc (.bool true)))):=by simp [fp]
theorem vQ {d:Nat}:fp (.d (.sc (.bool false))) d true A B e=B (ca e d (.d (.sc (.bool false)))):=by simp [fp]
theorem wN {d:Nat}:fp .un d want A B e=B e:=(rfl)
theorem Bk {d:Nat} [Decidable p]:fp (.d (.sc (.bool (decide p)))) d true A B e=((p->A (ca e d (.d (.sc (.bool true)))))/\(¬p->B (ca e d (.d (.sc (.bool false)))))):=by simp [fp]
theorem Au {d:Nat} [Decidable p]:fp (.d (.sc (.bool (decide p)))) d false A B e=((p->B (ca e d (.d (.sc (.bool true)))))/\(¬p->A (ca e d (.d (.sc (.bool false)))))):=by simp only[fp,decide_eq_false_iff_not,ali,decide_eq_true_eq];exact propext And.comm
theorem yx {d:Nat} [Decidable p]:fp (.d (.sc (.bool (!decide p)))) d true A B e=((p->B (ca e d (.d (.sc (.bool false)))))/\(¬p->A (ca e d (.d (.sc (.bool true)))))):=by simp only[fp,Bool.not_eq_true',alh,Bool.not_eq_false',decide_eq_false_iff_not,decide_eq_true_eq];exact propext And.comm
theorem yj {d:Nat} [Decidable p]:fp (.d (.sc (.bool (!decide p)))) d false A B e=((p->A (ca e d (.d (.sc (.bool false)))))/\(¬p->B (ca e d (.d (.sc (.bool true)))))):=by simp only[fp,Bool.not_eq_true',ali,Bool.not_eq_false',decide_eq_false_iff_not,decide_eq_true_eq]
def JG (x:Option Nat) (want:Bool) (A B:Env->Prop) (e:Env):Prop:=me x e want A B
theorem qh {d:Nat}:JG (some d) want A B e=fp (e d) d want A B e:=by unfold JG me fp;exact(rfl)
def gA (P:Program) (N:Nat) (full rest:List Oper) (d:Option Nat) (o:Oper) (s:List Obj) (K:Env->List Obj->Prop) (e:Env):Prop:=du P o e s (cont P N full rest e d K)
def gB (P:Program) (N:Nat) (full rest:List Oper) (d:Option Nat) (s:List Obj) (K:Env->List Obj->Prop) (e:Env):Prop:=qv P N full rest (jH e d .un) s K
theorem IY{d:Option Nat}:gA P N full rest d o s K e=du P o e s (cont P N full rest e d K):=(rfl)
theorem Jg{d:Option Nat}:gB P N full rest d s K e=qv P N full rest (jH e d .un) s K:=(rfl)
theorem wj{d:Option Nat}{op:Op} :
  qv P N full (⟨d,op,ty,pos,af,none⟩::rest) e s K=(eS N d/\du P ⟨d,op,ty,pos,af,none⟩ e s (cont P N full rest e d K)):=(rfl)
theorem vE{d:Option Nat}{op:Op}{g:Nat} :
  qv P N full (⟨d,op,ty,pos,af,some (g,want)⟩::rest) e s K=(eS N d/\JG (mU full g) want (gA P N full rest d ⟨d,op,ty,pos,af,some (g,want)⟩ s K) (gB P N full rest d s K) e):=(rfl)
theorem si{L M:Nat}{Q:Exit->Env->List Obj->Prop}{a b:Code}:codeWp P N L M (.cond c a b) Q e s=ow (ev e c) (codeWp P N L M a Q) (codeWp P N L M b Q) (qD M e) s:=(rfl)
def hA (P:Program) (N:Nat) (full:List Oper) (bars:List Nat) (fs:cT) (i:Nat) (rest:List Oper) (d:Option Nat) (o:Oper) (s:List Obj) (K:Env->List Obj->Prop) (e:Env):Prop:=fJ P bars fs i o e s (gV P N full bars fs (i+1) rest e d K)
def hB (P:Program) (N:Nat) (full:List Oper) (bars:List Nat) (fs:cT) (i:Nat) (rest:List Oper) (d:Option Nat) (s:List Obj) (K:Env->List Obj->Prop) (e:Env):Prop:=im P N full bars fs (i+1) rest (jH e d .un) s K
theorem IL{d:Option Nat}:hA P N full bars fs i rest d o s K e=fJ P bars fs i o e s (gV P N full bars fs (i+1) rest e d K):=(rfl)
theorem IW{d:Option Nat}:hB P N full bars fs i rest d s K e=im P N full bars fs (i+1) rest (jH e d .un) s K:=(rfl)
theorem vJ{d:Option Nat} :
  im P N full bars fs i (⟨d,.move x,ty,pos,af,none⟩::rest) e s K=(eS N d/\fJ P bars fs i ⟨d,.move x,ty,pos,af,none⟩ e s (gV P N full bars fs (i+1) rest e d K)):=(rfl)
theorem qp{d:Option Nat} :
  im P N full bars fs i (⟨d,.assign x,ty,pos,af,none⟩::rest) e s K=(eS N d/\fJ P bars fs i ⟨d,.assign x,ty,pos,af,none⟩ e s (gV P N full bars fs (i+1) rest e d K)):=(rfl)
theorem sf{d:Option Nat}{t:TypeId} :
  im P N full bars fs i (⟨d,.alloc t,ty,pos,af,none⟩::rest) e s K=(eS N d/\fJ P bars fs i ⟨d,.alloc t,ty,pos,af,none⟩ e s (gV P N full bars fs (i+1) rest e d K)):=(rfl)
theorem yY{d:Option Nat}{t:TypeId} :
  im P N full bars fs i (⟨d,.box t x,ty,pos,af,none⟩::rest) e s K=(eS N d/\fJ P bars fs i ⟨d,.box t x,ty,pos,af,none⟩ e s (gV P N full bars fs (i+1) rest e d K)):=(rfl)
theorem sN{d:Option Nat}{t:TypeId} :
  im P N full bars fs i (⟨d,.build t parts,ty,pos,af,none⟩::rest) e s K=(eS N d/\fJ P bars fs i ⟨d,.build t parts,ty,pos,af,none⟩ e s (gV P N full bars fs (i+1) rest e d K)):=(rfl)
theorem kO{d:Option Nat}{t:TypeId}{n:Nat} :
  im P N full bars fs i (⟨d,.buildSlice t n parts,ty,pos,af,none⟩::rest) e s K=(eS N d/\fJ P bars fs i ⟨d,.buildSlice t n parts,ty,pos,af,none⟩ e s (gV P N full bars fs (i+1) rest e d K)):=(rfl)
theorem wA{d:Option Nat}{t:TypeId}{a:Operand} :
  im P N full bars fs i (⟨d,.load t a,ty,pos,af,none⟩::rest) e s K=(eS N d/\fJ P bars fs i ⟨d,.load t a,ty,pos,af,none⟩ e s (gV P N full bars fs (i+1) rest e d K)):=(rfl)
theorem oI{d:Option Nat}{t:TypeId}{r:Option Operand} :
  im P N full bars fs i (⟨d,.makeMap t r,ty,pos,af,none⟩::rest) e s K=(eS N d/\fJ P bars fs i ⟨d,.makeMap t r,ty,pos,af,none⟩ e s (gV P N full bars fs (i+1) rest e d K)):=(rfl)
theorem qO{d:Option Nat}{t:TypeId}{x i':Operand}{ok:Bool} :
  im P N full bars fs i (⟨d,.lookup t x i' ok,ty,pos,af,none⟩::rest) e s K=(eS N d/\fJ P bars fs i ⟨d,.lookup t x i' ok,ty,pos,af,none⟩ e s (gV P N full bars fs (i+1) rest e d K)):=(rfl)
theorem lV{d:Option Nat}{t:TypeId}{m k:Operand} :
  im P N full bars fs i (⟨d,.mapUpdate t m k x,ty,pos,af,none⟩::rest) e s K=(eS N d/\fJ P bars fs i ⟨d,.mapUpdate t m k x,ty,pos,af,none⟩ e s (gV P N full bars fs (i+1) rest e d K)):=(rfl)
theorem tA{d:Option Nat}{t:TypeId}{a:Operand} :
  im P N full bars fs i (⟨d,.store t a x,ty,pos,af,none⟩::rest) e s K=(eS N d/\fJ P bars fs i ⟨d,.store t a x,ty,pos,af,none⟩ e s (gV P N full bars fs (i+1) rest e d K)):=(rfl)
theorem Ab{d:Option Nat} :
  im P N full bars fs i (⟨d,.nilCheck x,ty,pos,af,none⟩::rest) e s K=(eS N d/\fJ P bars fs i ⟨d,.nilCheck x,ty,pos,af,none⟩ e s (gV P N full bars fs (i+1) rest e d K)):=(rfl)
theorem Ad{d:Option Nat}{op:BinOp}{t t':TypeId}{x y:Operand} :
  im P N full bars fs i (⟨d,.binOp op t x y t',ty,pos,af,none⟩::rest) e s K=(eS N d/\fJ P bars fs i ⟨d,.binOp op t x y t',ty,pos,af,none⟩ e s (gV P N full bars fs (i+1) rest e d K)):=(rfl)
theorem vy{d:Option Nat}{op:UnOp}{t:TypeId} :
  im P N full bars fs i (⟨d,.unOp op t x,ty,pos,af,none⟩::rest) e s K=(eS N d/\fJ P bars fs i ⟨d,.unOp op t x,ty,pos,af,none⟩ e s (gV P N full bars fs (i+1) rest e d K)):=(rfl)
theorem oO{d:Option Nat}{a b:TypeId} :
  im P N full bars fs i (⟨d,.convert a b x,ty,pos,af,none⟩::rest) e s K=(eS N d/\fJ P bars fs i ⟨d,.convert a b x,ty,pos,af,none⟩ e s (gV P N full bars fs (i+1) rest e d K)):=(rfl)
theorem nE{d:Option Nat}{fn:Fn}{first aj:Array Operand} :
  im P N full bars fs i (⟨d,.makeFunc fn first aj,ty,pos,af,none⟩::rest) e s K=(eS N d/\fJ P bars fs i ⟨d,.makeFunc fn first aj,ty,pos,af,none⟩ e s (gV P N full bars fs (i+1) rest e d K)):=(rfl)
theorem lU{d:Option Nat}{t:TypeId}{l:Operand} :
  im P N full bars fs i (⟨d,.makeSlice t l c,ty,pos,af,none⟩::rest) e s K=(eS N d/\fJ P bars fs i ⟨d,.makeSlice t l c,ty,pos,af,none⟩ e s (gV P N full bars fs (i+1) rest e d K)):=(rfl)
theorem tB{d:Option Nat}{t:TypeId}{x:Operand}{lo hi mx:Option Operand} :
  im P N full bars fs i (⟨d,.slice t x lo hi mx,ty,pos,af,none⟩::rest) e s K=(eS N d/\fJ P bars fs i ⟨d,.slice t x lo hi mx,ty,pos,af,none⟩ e s (gV P N full bars fs (i+1) rest e d K)):=(rfl)
theorem lO{d:Option Nat}{t:TypeId}{x:Operand}{f:Nat} :
  im P N full bars fs i (⟨d,.fieldAddr t x f,ty,pos,af,none⟩::rest) e s K=(eS N d/\fJ P bars fs i ⟨d,.fieldAddr t x f,ty,pos,af,none⟩ e s (gV P N full bars fs (i+1) rest e d K)):=(rfl)
theorem sr{d:Option Nat}{t:TypeId}{x:Operand}{f:Nat} :
  im P N full bars fs i (⟨d,.field t x f,ty,pos,af,none⟩::rest) e s K=(eS N d/\fJ P bars fs i ⟨d,.field t x f,ty,pos,af,none⟩ e s (gV P N full bars fs (i+1) rest e d K)):=(rfl)
theorem mi{d:Option Nat}{t:TypeId}{x:Operand} :
  im P N full bars fs i (⟨d,.indexAddr t x i',ty,pos,af,none⟩::rest) e s K=(eS N d/\fJ P bars fs i ⟨d,.indexAddr t x i',ty,pos,af,none⟩ e s (gV P N full bars fs (i+1) rest e d K)):=(rfl)
theorem sD{d:Option Nat}{t:TypeId}{x:Operand} :
  im P N full bars fs i (⟨d,.index t x i',ty,pos,af,none⟩::rest) e s K=(eS N d/\fJ P bars fs i ⟨d,.index t x i',ty,pos,af,none⟩ e s (gV P N full bars fs (i+1) rest e d K)):=(rfl)
theorem oQ{d:Option Nat}{x:Operand}{i':Nat} :
  im P N full bars fs i (⟨d,.extract x i',ty,pos,af,none⟩::rest) e s K=(eS N d/\fJ P bars fs i ⟨d,.extract x i',ty,pos,af,none⟩ e s (gV P N full bars fs (i+1) rest e d K)):=(rfl)
theorem vM{d:Option Nat}{c:Call} :
  im P N full bars fs i (⟨d,.call c,ty,pos,af,none⟩::rest) e s K=(eS N d/\fJ P bars fs i ⟨d,.call c,ty,pos,af,none⟩ e s (gV P N full bars fs (i+1) rest e d K)):=(rfl)
theorem v8{d:Option Nat}{c a b:Operand} :
  im P N full bars fs i (⟨d,.pick c a b,ty,pos,af,none⟩::rest) e s K=(eS N d/\bars.contains i=false/\iK fs i=none/\uq (ev e c) (gV P N full bars fs (i+1) rest e d K (ev e a)) (gV P N full bars fs (i+1) rest e d K (ev e b)) s):=(rfl)
theorem vv{d:Option Nat}{op:Op}{g:Nat} :
  im P N full bars fs i (⟨d,op,ty,pos,af,some (g,want)⟩::rest) e s K=(eS N d/\JG (mU full g) want (hA P N full bars fs i rest d ⟨d,op,ty,pos,af,some (g,want)⟩ s K) (hB P N full bars fs i rest d s K) e):=(rfl)
def Ms (P:Program) (e0 x:V) (args:List V) (s:List Obj) (K:V->List Obj->Prop):Prop :=
 match Gl e0 x with
 |.cl (.func g) first aj=>av P g (first++args++aj) s K
 |_=>False
theorem zo{first aj:List V}{K:V->List Obj->Prop}:Ms P e0 (.cl (.func g) first aj) args s K=av P g (first++args++aj) s K:=(rfl)
theorem OQ{K:V->List Obj->Prop}:Ms P e0 (.d (.cl (.func g) first aj)) args s K=av P g (dY.go e0 first++args++dY.go e0 aj) s K:=by unfold Ms Gl;simp only[dY]
theorem Qa{first aj:List V}:Gl e0 (.cl fn first aj)=.cl fn first aj:=(rfl)
theorem VM:Gl e0 (.d (.cl fn first aj))=.cl fn (dY.go e0 first) (dY.go e0 aj):=by unfold Gl;simp only[dY]
theorem Ua:Gl e0 (.d (.sc (.func fn ⟨[]⟩ ⟨[]⟩)))=.cl fn [] []:=(rfl)
theorem LM {id g off b a:Nat}:Mu (.pp id g i off b a) b a=.pp id g i off b a:=by simp [Mu]
theorem H7{b a:Nat}:dY e0 (.sc (.pointer (some ⟨b,a,none⟩)))=Mu e0 b a:=by simp only[dY]
theorem HA{k:IntKind}{n:Int}:dY e0 (.sc (.int k n))=.d (.sc (.int k n)):=by simp only[dY]
theorem EC:dY e0 (.sc (.bool b))=.d (.sc (.bool b)):=by simp only[dY]
theorem Ig:dY e0 (.sc (.pointer none))=.d (.sc (.pointer none)):=by simp only[dY]
theorem Kp{aA:List (List D)}:dY e0 (.sl aA)=.d (.sl aA):=by simp only[dY]
theorem G0{x:D}:dY e0 (.el [x])=.bx (dY e0 x):=by simp only[dY]
theorem Hb{x y:D}:dY e0 (.el (x::y::l))=.d (.el (x::y::l)):=by simp only[dY]
theorem JW:dY e0 (.cl fn first aj)=.cl fn (dY.go e0 first) (dY.go e0 aj):=by simp only[dY]
theorem GZ:dY.go e0 []=[]:=(rfl)
theorem Er {e0:V}{x:D}:dY.go e0 (x::l)=dY e0 x::dY.go e0 l:=(rfl)
theorem Px{K:V->List Obj->Prop}:Ms P e0 (.d (.sc (.func (.func g) ⟨[]⟩ ⟨[]⟩))) args s K=av P g ([]++args++[]) s K:=(rfl)
section
variable {P:Program}{d:Option Nat}{ty:TypeId}{pos:String}{af:Array Edge}{g:Option (Nat×Bool)}{e:Nat->V}{s:List Obj}{K:V->List Obj->Prop}
variable{x:Operand}{a:Operand}{c:Operand}{t:TypeId}{parts:Array (Nat×Operand)}{e0:V}{i:Nat}{id:Nat}{off:Nat}{b:Nat}{t':TypeId}{f:Nat}{m:Operand}{k:Operand}{args:Array Operand}{JM:Array TypeId}{y:Operand}
theorem zN:du P ⟨d,.move x,ty,pos,af,g⟩ e s K=(K (ev e x) s):=(rfl)
theorem td:du P ⟨d,.assign x,ty,pos,af,g⟩ e s K=(K (ev e x) s):=(rfl)
theorem Ae {b:Operand}:du P ⟨d,.pick c a b,ty,pos,af,g⟩ e s K=(uq (ev e c) (K (ev e a)) (K (ev e b)) s):=(rfl)
theorem vA:du P ⟨d,.alloc t,ty,pos,af,g⟩ e s K=(qJ P t s K):=(rfl)
theorem Dh:du P ⟨d,.box t x,ty,pos,af,g⟩ e s K=(B9 s (ev e x) K):=(rfl)
theorem vF:du P ⟨d,.build t parts,ty,pos,af,g⟩ e s K=(qK P t (parts.toList.map λp=>(p.1,ev e p.2)) (FW K s)):=(rfl)
theorem mu{n:Nat}:du P ⟨d,.buildSlice t n parts,ty,pos,af,g⟩ e s K=(fh P t n (parts.toList.map λp=>(p.1,ev e p.2)) s K):=(rfl)
theorem Ln{cs:List D}:xw e0 (.d (.el cs))=.d (.el cs):=(rfl)
theorem L2{g:Nat}:xw e0 (.rf id g i off)=.rf id g i off:=(rfl)
theorem Mx{g a:Nat}:xw e0 (.pp id g i off b a)=.pp id g i off b a:=(rfl)
theorem HV{a:Nat}:xw e0 (.d (.sc (.pointer (some ⟨b,a,none⟩))))=Ek e0 b a:=(rfl)
theorem Pu {g a:Nat}:Ek (.pp id g i off b a) b a=.rf id g i off:=by simp [Ek]
theorem Hn {g a k:Nat}:Ek (.pp id g i off b a) b (a+k)=.rf id g i (off+k):=by simp [Ek]
theorem zg:du P ⟨d,.load t a,ty,pos,af,g⟩ e s K=(mA P t s (xw (e 0) (ev e a)) (FW K s)):=(rfl)
theorem vT:du P ⟨d,.store t a x,ty,pos,af,g⟩ e s K=(iU P t s (ev e a) (ev e x) (unS K)):=(rfl)
theorem CV:du P ⟨d,.nilCheck x,ty,pos,af,g⟩ e s K=(kg s (ev e x) (FW K s)):=(rfl)
theorem zH {op:BinOp}{y:Nat}:du P ⟨d,.binOp op t x (.tmp y) t',ty,pos,af,g⟩ e s K=(qR P op t s (ev e x) (ev e (.tmp y)) (FW K s)):=(rfl)
theorem zv {op:BinOp}{k:IntKind}{y:Int}:du P ⟨d,.binOp op t x (.const (.int k y)) t',ty,pos,af,g⟩ e s K=(qR P op t s (ev e x) (ev e (.const (.int k y))) (FW K s)):=(rfl)
theorem zr {op:BinOp}{y:Bool}:du P ⟨d,.binOp op t x (.const (.bool y)) t',ty,pos,af,g⟩ e s K=(qR P op t s (ev e x) (ev e (.const (.bool y))) (FW K s)):=(rfl)
theorem y9 {op:BinOp}{y:Option Addr}:du P ⟨d,.binOp op t x (.const (.pointer y)) t',ty,pos,af,g⟩ e s K=(qR P op t s (ev e x) (ev e (.const (.pointer y))) (FW K s)):=(rfl)
theorem zp {op:BinOp}:du P ⟨d,.binOp op t x (.const (.slice none 0 0)) t',ty,pos,af,g⟩ e s K=(eJ P op t s (ev e x) (FW K s)):=(rfl)
theorem zi {op:UnOp}:du P ⟨d,.unOp op t x,ty,pos,af,g⟩ e s K=(CF op (ev e x) (FW K s)):=(rfl)
theorem qB {a b:TypeId}:du P ⟨d,.convert a b x,ty,pos,af,g⟩ e s K=(qV P a b (ev e x) (FW K s)):=(rfl)
theorem oy {fn:Fn}{first aj:Array Operand}:du P ⟨d,.makeFunc fn first aj,ty,pos,af,g⟩ e s K=(K (.cl fn (first.toList.map (ev e)) (aj.toList.map (ev e))) s):=(rfl)
theorem nr{l:Operand}:du P ⟨d,.makeSlice t l c,ty,pos,af,g⟩ e s K=(gR P t (ev e l) (ev e c) s K):=(rfl)
theorem vL{lo hi mx:Option Operand}:du P ⟨d,.slice t x lo hi mx,ty,pos,af,g⟩ e s K=(lX P t (ev e x) (lo.map (ev e)) (hi.map (ev e)) (mx.map (ev e)) s (FW K s)):=(rfl)
theorem nq:du P ⟨d,.fieldAddr t x f,ty,pos,af,g⟩ e s K=(fm P t s (ev e x) f (FW K s)):=(rfl)
theorem vK:du P ⟨d,.field t x f,ty,pos,af,g⟩ e s K=(nJ P t (ev e x) f (FW K s)):=(rfl)
theorem nA{i:Operand}:du P ⟨d,.indexAddr t x i,ty,pos,af,g⟩ e s K=(dZ P t s (ev e x) (ev e i) (FW K s)):=(rfl)
theorem qz{r:Option Operand}:du P ⟨d,.makeMap t r,ty,pos,af,g⟩ e s K=(oR P t r s K):=(rfl)
theorem sx{i:Operand}:du P ⟨d,.lookup t x i false,ty,pos,af,g⟩ e s K=(jP P t s (ev e x) (ev e i) (FW K s)):=(rfl)
theorem nu:du P ⟨d,.mapUpdate t m k x,ty,pos,af,g⟩ e s K=(xC P t s (ev e m) (ev e k) (ev e x) (unS K)):=(rfl)
theorem sS:du P ⟨d,.insert t m k x,ty,pos,af,g⟩ e s K=(xC P t s (ev e m) (ev e k) (ev e x) (unS K)):=(rfl)
theorem vX{i:Operand}:du P ⟨d,.index t x i,ty,pos,af,g⟩ e s K=(kP P t (ev e x) (ev e i) (FW K s)):=(rfl)
theorem qN:du P ⟨d,.extract x i,ty,pos,af,g⟩ e s K=(zC (ev e x) i (FW K s)):=(rfl)
theorem zt {f:FuncId}:du P ⟨d,.call ⟨.value (.func f),args,JM⟩,ty,pos,af,g⟩ e s K=(av P f (args.toList.map (ev e)) s K):=(rfl)
theorem vZ:du P ⟨d,.call ⟨.value (.tmp f),args,JM⟩,ty,pos,af,g⟩ e s K=(Ms P (e 0) (e f) (args.toList.map (ev e)) s K):=(rfl)
theorem CY:du P ⟨d,.call ⟨.builtin .len,#[x],#[t]⟩,ty,pos,af,g⟩ e s K=(mj P t (ev e x) s (FW K s)):=(rfl)
theorem tD:du P ⟨d,.call ⟨.builtin .append,#[a,x],#[t,t']⟩,ty,pos,af,g⟩ e s K=(if t=t' then dN P t (ev e a) (ev e x) s K else lr P t t' (ev e a) (ev e x) s K):=(rfl)
theorem zj:du P ⟨d,.call ⟨.builtin .copy,#[a,x],#[t,t']⟩,ty,pos,af,g⟩ e s K=(t=t'/\xN P t (ev e a) (ev e x) s K):=(rfl)
theorem vU:du P ⟨d,.call ⟨.builtin .clear,#[x],#[t]⟩,ty,pos,af,g⟩ e s K=(lW P t (ev e x) s K):=(rfl)
theorem Dj:du P ⟨d,.call ⟨.builtin .min,#[x,y],JM⟩,ty,pos,af,g⟩ e s K=(fG true (ev e x) [ev e y] (FW K s)):=(rfl)
theorem CO:du P ⟨d,.call ⟨.builtin .max,#[x,y],JM⟩,ty,pos,af,g⟩ e s K=(fG false (ev e x) [ev e y] (FW K s)):=(rfl)
end
variable{id:Nat}{g:Nat}{s:List Obj}{P:Program}{K:V->List Obj->Prop}{e:Env}{l:List (List D)}{bM:Nat}{p:Prop}{b:Bool}{A:Env->Prop}{B:Env->Prop}{base:List Obj}{sz:Nat}{v:V}
theorem vR {cs:List V}:eI (.ag cs)=some cs:=(rfl)
theorem zA {x:D}:eI (.d x)=some [.d x]:=(rfl)
theorem vW {aA:List (List D)}:eI (.fu aA)=some [.fu aA]:=(rfl)
theorem wk {lo n:Nat}:eI (.so id g lo n)=some [.so id g lo n]:=(rfl)
theorem vH {i off:Nat}:eI (.rf id g i off)=some [.rf id g i off]:=(rfl)
theorem wH {fn:Fn}{a b:List V}:eI (.cl fn a b)=some [.cl fn a b]:=(rfl)
theorem Da{f:FuncId} (k:Nat) {cargs args:List V}{o o':Obj}{r r':V} (h:av P f cargs [o] λv s'=>v=r/\s'=[o']) (ha:args=cargs.map (aI [k])) (xj:ak.go 1 cargs=true)
  (Nd:aY 1 o=true) (ho:s[k]?=some (ba [k] o)) (hr:aI [k] r=r') (hk:K r' (s.set k (ba [k] o'))):av P f args s K:=by
 refine x9 h [k] rfl aq (λj ob hj=>?_) ha xj (by simp [Nd]) λv s' hv=>?_
 ·cases j with
  |zero=>simp at hj;subst hj;simpa using ho
  |succ j=>simp at hj
 ·obtain⟨rfl,rfl⟩:=hv;refine⟨rfl,?_⟩;rw[hr];simpa [aT]using hk
def ot (bp:List Nat) (e:Env):Env:=λt=>if bp.contains t then e t else .any
theorem Hg {bp:List Nat}{t:Nat}:ot bp e t=if bp.contains t then e t else .any:=(rfl)
theorem bO.cut {L:Nat}{s':List Obj} (bM:Nat) (hL:L<=bM) (hs:s.take bM=s') (ho:s'.all (aY bM)=true) (bp:List Nat) (hk:bp.all (λt=>ak bM (e t))=true):bO L e s (ot bp e) s':=by
 subst hs;intro σ0 s0 w0 σ w N a jW hE hI hR;refine⟨σ,hE.take ae,hI.take ho,hR.1,hR.2.1,λt=>?_⟩;unfold ot;split
 ·rename_i ht;rw[als]at hk;exact(hR.2.2 t).take (hk t (by simpa using ht))
 ·exact .any
theorem Dl {z:Nat}{lv:Bool}:aY bM ⟨g,lv,z,l.map λc=>c.map V.d⟩=true:=by simp [aY,ak]
def Eg (bM:Nat) (s:List Obj) (r:V) (K:V->List Obj->Prop):Prop:=(s.take bM).all (aY bM)=true/\ak bM r=true/\K r (s.take bM)
def YN (P:Program) (rs:List ResultVar) (bM:Nat) (K:V->List Obj->Prop) (ex:Exit) (e:Env) (s:List Obj):Prop:=zR ex/\zl P rs e s λr=>Eg bM s r K
theorem AE{rs:List ResultVar}{ex:Exit}:YN P rs bM K ex e s=(zR ex/\zl P rs e s λr=>Eg bM s r K):=(rfl)
theorem I5 {P : Program} {f : FuncId} {fn : Func} {c : Code} {args : List V} {exts : List Obj} {K : V → List Obj → Prop} (hf : P.funcs[f]? = some fn) (hb : fn.body = some c) {N : Nat} (hN : fn.ntmps = N) {rs : Array ResultVar} (QS : fn.results = rs) (hn : (fn.name != "runtime.NumGoroutine") = true)
  (bM M:Nat) (hl:exts.length<=bM) (ha:args.length<=N)
  (h:codeWp P N bM M c (YN P rs.toList bM K) (iT args) exts):av P f args exts K:=by
 subst hN;subst QS;refine⟨by simp only[MJ,hf,hn,hb,Option.isSome_some,amh],λσ w vals hI YH hv=>?_⟩;refine calls_of_wp hf hb ?_;have hR:eE σ exts w fn.ntmps (iT args) { tmps:=vals++Array.replicate (fn.ntmps-vals.size) undef,defers:=[] }:=by
  exact Zaf
 refine wp_mono (oF hl c _ (iT args) exts σ w _ (aK.refl _ _ _) hI hR h) λex a' w' ⟨e',σ',s',hE,jR,qu,hex,hq⟩=>?_;obtain⟨v,u,k1,k2,k3⟩:=nS jR qu hq;obtain⟨h1,h2⟩:=k3;have fin:a'.defers=[]/\∃v,(results fn a'.tmps).run P w'=.ok v w'/\∃u Ut xM tm,Ending.returned v=.returned u/\aK σ exts w xM tm w'/\Inv xM tm w'/\aD xM tm w' Ut u/\K Ut tm:=by refine⟨qu.1,u,k1,?_⟩;exact⟨u,v,σ',s'.take bM,rfl,hE.take hl,jR.take h1,k2.take h2.1,h2.2⟩
 exact ZbC
abbrev vsA:=am @qx @ny @qw @tM @si @ox @qy<|am @sw @vI @wj @vE @IY @Jg @IL<|am @IW @qh @wv @vG @wP @vQ @wN<|am @Bk @Au @yx @yj @te @ql @AH<|am @wE @tG @qt @HX @vP @De @C9<|am @zo @zS @Jl @qn @y6 @wm @qA<|am @z8 @vY @zu @vJ @qp @sf @yY<|am @sN @kO @wA @oI @qO @lV @tA<|am @Ab @Ad @vy @oO @nE @lU @tB<|am @lO @sr @mi @sD @oQ @vM @v8<|am @vv @wJ @vO @zN @td @Ae @vA<|am @Dh @vF @mu @zg @qz @sx @nu<|am @sS @vT @CV @zH @zv @zr @y9<|am @zp @zB @zi @qB @oy @nr @vL<|am @nq @vK @nA @vX @qN @zt @vZ<|am @CY @tD @zj @vU @Dj @CO @zf<|am @oU @nh @aZ @vR @zA @vW @wk<|am @vH @wH @true_and @and_true @true_or @or_true @Bool.not_true<|am @Bool.not_false @false_or @or_false @decide_eq_true_eq @true_imp_iff @false_imp_iff @not_true_eq_false<|am @not_false_eq_true @decide_eq_false_iff_not @Bool.and_self @Bool.or_false @Bool.false_or @Bool.or_true @Bool.true_or<|am @Bool.and_true @Bool.true_and @Int.toNat_natCast @Int.ofNat_lt @Int.natCast_nonneg @decide_true @decide_false<|And.intro @V.d.injEq<|And.intro @D.sc.injEq<|And.intro @Go.Value.int.injEq @Go.Value.bool.injEq
theorem lq {α β:Type}{A B:α->β->Prop}{e:α}{s:β} [Decidable p] (h:p->A e s) (k:¬p->B e s):ow (.d (.sc (.bool (decide p)))) A B e s:=by rw[AH];exact⟨h,k⟩
theorem iW {α β:Type}{A B:α->β->Prop}{e:α}{s:β} (h:b=true->A e s) (k:b=false->B e s):ow (.d (.sc (.bool b))) A B e s:=by rw[QB];exact⟨h,k⟩
theorem eB {d:Nat} [Decidable p] (h:p->A (ca e d (.d (.sc (.bool true))))) (k:¬p->B (ca e d (.d (.sc (.bool false))))):fp (.d (.sc (.bool (decide p)))) d true A B e:=by rw[Bk];exact⟨h,k⟩
theorem eA {d:Nat} [Decidable p] (h:p->B (ca e d (.d (.sc (.bool true))))) (k:¬p->A (ca e d (.d (.sc (.bool false))))):fp (.d (.sc (.bool (decide p)))) d false A B e:=by rw[Au];exact⟨h,k⟩
theorem dy {d:Nat} [Decidable p] (h:p->B (ca e d (.d (.sc (.bool false))))) (k:¬p->A (ca e d (.d (.sc (.bool true))))):fp (.d (.sc (.bool (!decide p)))) d true A B e:=by rw[yx];exact⟨h,k⟩
theorem dx {d:Nat} [Decidable p] (h:p->A (ca e d (.d (.sc (.bool false))))) (k:¬p->B (ca e d (.d (.sc (.bool true))))):fp (.d (.sc (.bool (!decide p)))) d false A B e:=by rw[yj];exact⟨h,k⟩
theorem eu {d:Nat}{w:Bool} (h:b=true->fp (.d (.sc (.bool true))) d w A B e) (k:b=false->fp (.d (.sc (.bool false))) d w A B e):fp (.d (.sc (.bool b))) d w A B e:=by
 cases b
 ·exact k rfl
 ·exact h rfl
theorem Kx {α:Type}{x:α}:(some x).toArray.toList=[x]:=(rfl)
theorem MD {α:Type}:(none:Option α).toArray.toList=[]:=(rfl)
theorem yW {f:Operand->V}:Option.map f none=none:=(rfl)
theorem HR {d:Int}:CJ none d=some d:=(rfl)
theorem LC {k:IntKind}{n d:Int}:CJ (some (.d (.sc (.int k n)))) d=some n:=(rfl)
abbrev JT:=am @Kx @MD @HR @LC @yW @qx @ny<|am @qw @tM @si @ox @qy @sw @vI<|am @wj @vE @IY @Jg @IL @IW @qh<|am @wv @vG @wP @vQ @wN @te @ql<|am @wE @tG @qt @vP @De @C9 @zo<|am @zS @Jl @qn @y6 @wm @qA @z8<|am @vY @zu @vJ @qp @sf @yY @sN<|am @kO @wA @oI @qO @lV @tA @Ab<|am @Ad @vy @oO @nE @lU @tB @lO<|am @sr @mi @sD @oQ @vM @v8 @vv<|am @wJ @vO @zN @td @Ae @vA @Dh<|am @vF @mu @zg @qz @sx @nu @sS<|am @vT @CV @zH @zv @zr @y9 @zp<|am @zB @zi @qB @oy @nr @vL @nq<|am @vK @nA @vX @qN @zt @vZ @CY<|am @tD @zj @vU @Dj @CO @zf @oU<|am @nh @aZ @vR @zA @vW @wk @vH<|am @wH @true_and @and_true @true_or @or_true @Bool.not_true @Bool.not_false<|am @false_or @or_false @decide_eq_true_eq @true_imp_iff @false_imp_iff @not_true_eq_false @not_false_eq_true<|am @decide_eq_false_iff_not @Bool.and_self @Bool.or_false @Bool.false_or @Bool.or_true @Bool.true_or @Bool.and_true<|am @Bool.true_and @Int.toNat_natCast @Int.ofNat_lt @Int.natCast_nonneg @decide_true @decide_false @V.d.injEq<|And.intro @D.sc.injEq<|And.intro @Go.Value.int.injEq @Go.Value.bool.injEq
def Acc (base:List Obj) (sz:Nat) (v:V) (s:List Obj) (l:List (List D)):Prop :=
 (v=.fu l/\s=base)\/∃g,v=.so base.length g 0 l.length/\s=base++[⟨g,true,sz,l.map (·.map .d)⟩]
theorem Acc.append{t et:TypeId}{i:S4}{ns:List (List D)} (ha:Acc base sz v s l) (ht:jn P t=some (et,i)) (hz:i.sz=sz) (h0:0<sz) (hb:0<i.EP)
  (hl:∀e∈l,e.length=sz) (hn:∀e∈ns,e.length=sz) (eX:0<ns.length) (gr:(l.length+ns.length)*i.EP<=140737488355328) (hk:∀v' s',Acc base sz v' s' (l++ns)->K v' s'):dN P t v (.fu ns) s K:=by
 subst hz;have WW:∀e∈ns.map (λ(e:List D)=>e.map V.d),e.length=i.sz:=by intro e he;obtain⟨d,hd,rfl⟩:=List.mem_map.1 he;simpa using hn d hd
 unfold dN;simp only[ht,jl];refine⟨⟨WW,h0,hb⟩,?_⟩;rcases ha with ⟨rfl,rfl⟩|⟨g,rfl,rfl⟩
 ·simp only;refine⟨⟨.inr (by simpa using eX),by simpa using gr,hl⟩,?_⟩;have:=hk (.so s.length 0 0 (l++ns).length) (s++[⟨0,true,i.sz,(l++ns).map (·.map .d)⟩]) (.inr ⟨0,rfl,rfl⟩);simpa [amp]using this
 ·simp only[wq];rw[List.getElem?_append_right (ale _),ame];simp only[List.getElem?_cons_zero,true_and];refine⟨⟨aq,by simpa using gr⟩,?_⟩;have:=hk (.so base.length (g+1) 0 (l++ns).length) (base++[⟨g+1,true,i.sz,(l++ns).map (·.map .d)⟩]) (.inr ⟨g+1,rfl,rfl⟩);have he:((l.map (λ(e:List D)=>e.map V.d)).take l.length)=l.map (λ(e:List D)=>e.map V.d):=aln aq;simp only[alV,ak4,he];rw[al0 _ _ (ale _),ame];simpa [amp]using this
theorem GQ (f:V->Option D) (hf:∀x,f (.d x)=some x):∀l:List (List D),((l.map λc=>c.map V.d).mapM λ(e:List V)=>e.mapM f)=some l
 |[]=>rfl
 |c::l=>by
  have h1:∀c:List D,(c.map V.d).mapM f=some c:=by
   intro c;induction c with
   |nil=>rfl
   |cons x c ih=>rw[ak8,ami,hf,ih];rfl
  rw[ak8,ami,h1,GQ f hf l];rfl
theorem Acc.frz (ha:Acc base sz v s l) (h:bM<=base.length):bq bM s v=some (.d (.sl l)):=by
 rcases ha with ⟨rfl,rfl⟩|⟨g,rfl,rfl⟩
 ·rfl
 ·simp only[bq,cJ];rw[List.getElem?_append_right (ale _),ame];simp only[List.getElem?_cons_zero,true_and];rw[be ⟨aq,.inl h⟩];have he:((l.map (λ(e:List D)=>e.map V.d)).take l.length)=l.map (λ(e:List D)=>e.map V.d):=aln aq;rw[alV,he,GQ _ (λx=>rfl) l];rfl
theorem Acc.get (ha:Acc base sz v s l){o:Obj} (h:base[id]?=some o):s[id]?=some o:=by
 rcases ha with ⟨rfl,rfl⟩|⟨g,rfl,rfl⟩
 ·exact h
 ·rw[List.getElem?_append_left (List.getElem?_eq_some_iff.1 h).1];exact h
theorem Lv{d t:Nat}:ca e d v t=if t=d then v else e t:=(rfl)
abbrev F7:=am @eq_self.{1} @hole.eq_1 @fJ.eq_1 @mK.eq_1 @iK.eq_1 @iK.eq_2 @Jy.eq_1<|am @Jy.eq_2 @Jm.eq_1 @Wp.eq_1 @R6.eq_1 @tH.eq_1 @TG.eq_1 @U3.eq_1<|am @TP.eq_1 @gG.eq_1 @gG.eq_2 @gG.eq_3 @gG.eq_4 @gG.eq_5 @Go.Op.operands.eq_1<|am @Go.Op.operands.eq_2 @Go.Op.operands.eq_3 @Go.Op.operands.eq_4 @Go.Op.operands.eq_5 @Go.Op.operands.eq_6 @Go.Op.operands.eq_7 @Go.Op.operands.eq_8<|am @Go.Op.operands.eq_9 @Go.Op.operands.eq_10 @Go.Op.operands.eq_11 @Go.Op.operands.eq_12 @Go.Op.operands.eq_13 @Go.Op.operands.eq_14 @Go.Op.operands.eq_15<|am @Go.Op.operands.eq_16 @Go.Op.operands.eq_17 @Go.Op.operands.eq_18 @Go.Op.operands.eq_19 @Go.Op.operands.eq_20 @Go.Op.operands.eq_21 @Go.Op.operands.eq_22<|am @Go.Op.operands.eq_23 @Go.Op.operands.eq_24 @Go.Op.operands.eq_25 @Go.Op.operands.eq_26 @Go.Op.operands.eq_27 @Go.Op.operands.eq_28 @Go.Op.operands.eq_29<|am @Go.Op.operands.eq_30 @Go.Op.operands.eq_31 @Go.Op.operands.eq_32 @Go.Op.operands.eq_33 @Go.Op.operands.eq_34 @Go.Op.operands.eq_35 @Go.Op.operands.eq_36<|am @Go.Op.operands.eq_37 @Go.Op.operands.eq_38 @Go.Op.operands.eq_39 @Go.Op.operands.eq_40 @Go.Op.operands.eq_41 @Go.Op.operands.eq_42 @Go.Op.operands.eq_43<|am @Go.Call.operands.eq_1 @Array.toList_append.{0} @eJ.eq_1 @eJ.eq_2 @eJ.eq_3 @eJ.eq_4 @eJ.eq_5<|am @eJ.eq_6 @eJ.eq_7 @zR.eq_1 @zR.eq_2 @zR.eq_3 @mU.eq_1 @eS.eq_1<|am @eS.eq_2 @jH.eq_1 @jH.eq_2 @Lv @ev.eq_1 @ev.eq_2 @ev.eq_3<|am @ev.eq_4 @Zg.eq_1 @Zg.eq_2 @cv.eq_1 @cv.eq_2 @cv.eq_3 @cv.eq_4<|am @qR.eq_1 @qj.eq_1 @qj.eq_2 @qj.eq_3 @tj.eq_1 @tj.eq_2 @dM.eq_1<|am @dM.eq_2 @dM.eq_3 @dM.eq_4 @dM.eq_5 @dM.eq_6 @dM.eq_7 @dM.eq_8<|am @dM.eq_9 @dM.eq_10 @dM.eq_11 @dM.eq_12 @fy.eq_1 @fy.eq_2 @fy.eq_3<|am @fy.eq_4 @fy.eq_5 @fy.eq_6 @fy.eq_7 @fy.eq_8 @fy.eq_9 @fy.eq_10<|am @fy.eq_11 @fy.eq_12 @fy.eq_13 @fy.eq_14 @fy.eq_15 @CF.eq_1 @CF.eq_2<|am @CF.eq_3 @kg.eq_1 @kg.eq_2 @kg.eq_3 @kg.eq_4 @kg.eq_5 @kg.eq_6<|am @zl.eq_1 @JD.eq_1 @JD.eq_2 @Nv.eq_1 @Nv.eq_2 @P8.eq_1 @bq.eq_1<|am @bq.eq_2 @bq.eq_3 @bq.eq_4 @bq.eq_5 @bq.eq_6 @bq.eq_7 @bq.eq_8<|am @bq.eq_9 @bq.eq_10 @bq.eq_11 @bq.eq_12 @bq.go.eq_1 @bq.go.eq_2 @cJ.eq_1<|am @cJ.eq_2 @cJ.eq_3 @cJ.eq_4 @cJ.eq_5 @cJ.eq_6 @cJ.eq_7 @cJ.eq_8<|am @iT.eq_1 @iT.eq_2 @iT.eq_3 @mA.eq_1 @qS.eq_1 @qS.eq_2 @qS.eq_3<|am @iU.eq_1 @B9.eq_1 @qJ.eq_1 @mj.eq_1 @mj.eq_2 @mj.eq_3 @mj.eq_4<|am @mj.eq_5 @dZ.eq_1 @dZ.eq_2 @fm.eq_1 @nJ.eq_1 @nJ.eq_2 @kP.eq_1<|am @kP.eq_2 @kP.eq_3 @uA.eq_1 @YL.eq_1 @wq.eq_1 @zC.eq_1 @zC.eq_2<|am @qs.eq_1 @qs.eq_2 @qs.eq_3 @qs.eq_4 @List.map_cons.{0,0} @List.map_nil.{0,0} @List.toList_toArray.{0}<|am @List.getElem?_cons_zero.{0} @List.getElem?_cons_succ.{0} @List.take_zero.{0} @List.all_nil.{0} @List.length_cons.{0} @List.length_nil.{0} @List.drop_zero.{0}<|am @List.drop_succ_cons.{0} @if_true.{1} @if_false.{1} @List.nil_append.{0} @List.cons_append.{0} @ne_eq.{1} @qK.eq_1<|am @fh.eq_1 @xB.eq_1 @xB.eq_2 @uT.eq_1 @uT.eq_2 @rb.eq_1 @Ql.eq_1<|am @Ql.eq_2 @Ql.eq_3 @gR.eq_1 @jl.eq_1 @jl.eq_2 @jl.eq_3 @jl.eq_4<|am @aY.eq_1 @ak.eq_1 @ak.eq_2 @ak.eq_3 @ak.eq_4 @ak.eq_5 @ak.eq_6<|am @ak.eq_7 @ak.eq_8 @ak.eq_9 @ak.eq_10 @ak.eq_11 @ak.eq_12 @ak.go.eq_1<|am @ak.go.eq_2 @lX.eq_1 @CJ.eq_1 @CJ.eq_2 @Mq.eq_1 @Mq.eq_2 @qV.eq_1<|am @qV.eq_2 @fG.eq_1 @fG.eq_2 @fG.eq_3 @List.replicate.eq_1.{0} @List.replicate.eq_2.{0} @List.mapM_cons.{0,0,0}<|am @List.mapM_nil.{0,0,0} @Option.pure_def.{0} @Option.bind_eq_bind.{0} @Option.bind_some.{0,0} @iE.eq_1 @List.set_cons_zero.{0} @List.set_cons_succ.{0}<|am @List.take_succ_cons.{0} @List.contains_nil.{0} @List.contains_cons.{0} @List.flatMap_cons.{0,0} @List.flatMap_nil.{0,0} @List.all_cons.{0} @List.append_nil.{0}<|am @List.length_map.{0,0} @List.getElem?_map.{0,0} @Option.map_some.{0,0} @jP.eq_1 @xC.eq_1 @oR.eq_1 @jU.eq_1<|am @jU.eq_2 @jU.eq_3 @jU.eq_4 @Go.VL.Ln @Go.VL.L2 @Go.VL.Mx @Go.VL.HV<|am @Go.VL.Pu @Go.VL.Hn @Go.VL.OQ @Go.VL.Px @Go.VL.Qa @Go.VL.VM @Go.VL.Ua<|am @Go.VL.LM @Go.VL.H7 @Go.VL.HA @Go.VL.EC @Go.VL.Ig @Go.VL.Kp @Go.VL.G0<|And.intro @Go.VL.Hb<|And.intro @Go.VL.JW<|And.intro @Go.VL.GZ<|And.intro @Go.VL.Er @m6.eq_1
end Go.VL
namespace Go.Proofs.YtjjfioalgbecmaaGreat
open Go.VL Go.Proofs.Tryz
def iD (n:Int):D:=.sc (.int .i64 n)
def bD (b:Bool):D:=.sc (.bool b)
def i64 (n:Int):V:=.d (.sc (.int .i64 n))
def bV (b:Bool):V:=.d (.sc (.bool b))
abbrev ar (l:List Int):D:=.sl (l.map λx=>[iD x])
theorem bK (n:Int) (h:-9223372036854775808<=n/\n<=9223372036854775807):IntKind.i64.wrap n=n:=IntWalk.i64_in n h
def aU (s:Int×Int):List D:=[iD s.1,iD s.2]
inductive Re where
 |mk (op:Int) (set:List (Int×Int)) (kids:List Re) (mn mx mode n:Int) (neg:Bool)
def Re.op:Re->Int|.mk x _ _ _ _ _ _ _=>x
def Re.set:Re->List (Int×Int)|.mk _ x _ _ _ _ _ _=>x
def Re.kids:Re->List Re|.mk _ _ x _ _ _ _ _=>x
def Re.mn:Re->Int|.mk _ _ _ x _ _ _ _=>x
def Re.mx:Re->Int|.mk _ _ _ _ x _ _ _=>x
def Re.mode:Re->Int|.mk _ _ _ _ _ x _ _=>x
def Re.n:Re->Int|.mk _ _ _ _ _ _ x _=>x
def Re.neg:Re->Bool|.mk _ _ _ _ _ _ _ x=>x
mutual
def Re.cells:Re->List D
 |.mk op set kids mn mx mode n neg=>[iD op,.sl (set.map aU),.sl (Re.D6 kids),iD mn,iD mx,iD mode,iD n,bD neg]
def Re.D6:List Re->List (List D)
 |[]=>[]
 |k::l=>k.cells::Re.D6 l
end
theorem Re.HM:∀l:List Re,Re.D6 l=l.map Re.cells
 |[]=>by simp [Re.D6]
 |k::l=>by simp [Re.D6,Re.HM l]
theorem Re.ah (re:Re):re.cells=[iD re.op,.sl (re.set.map aU),.sl (re.kids.map Re.cells),iD re.mn,iD re.mx,iD re.mode,iD re.n,bD re.neg]:=by
 cases re;simp [Re.cells,Re.HM,Re.op,Re.set,Re.kids,Re.mn,Re.mx,Re.mode,Re.n,Re.neg]
theorem Re.iJ (re:Re):re.cells.length=8:=by rw[Re.ah];rfl
def lI (re:Re):V:=.ag (re.cells.map .d)
theorem DX (re:Re):(re.cells.map V.d).take 8=re.cells.map V.d:=aln (by simp [Re.iJ])
theorem Ef (re:Re):(re.cells.map V.d).drop 8=[]:=List.drop_of_length_le (by simp [Re.iJ])
theorem J6 (re:Re):V.ag (re.cells.map V.d)=lI re:=rfl
theorem au (re:Re):lI re=.ag [.d (iD re.op),.d (.sl (re.set.map aU)),.d (.sl (re.kids.map Re.cells)),.d (iD re.mn),.d (iD re.mx),.d (iD re.mode),.d (iD re.n),.d (bD re.neg)]:=by rw[lI,Re.ah];rfl
theorem zE (ρ:List Nat) (re:Re):aI ρ (lI re)=lI re:=by rw[au];rfl
def fY (re:Re):V:=.d (.el re.cells)
mutual
def Re.size:Re->Nat
 |.mk _ _ kids _ _ _ _ _=>1+Re.da kids
def Re.da:List Re->Nat
 |[]=>0
 |k::l=>k.size+Re.da l
end
theorem Re.size_eq (re:Re):re.size=1+Re.da re.kids:=by cases re;simp [Re.size,Re.kids]
theorem Re.size_pos (re:Re):0<re.size:=by rw[Re.size_eq];omega
theorem Re.Az:∀{l:List Re}{k:Re},k∈l->k.size<=Re.da l
 |k'::l,k,h=>by
  simp only[Re.da];rcases List.mem_cons.1 h with rfl|h
  ·omega
  ·have:=Re.Az h;omega
theorem Re.bZ {re k:Re} (h:k∈re.kids):k.size<re.size:=by have:=Re.Az h;rw[Re.size_eq re];omega
theorem Re.mX:∀l:List Re,l.length<=Re.da l
 |[]=>aq
 |k::l=>by simp only[alg,Re.da];have:=Re.mX l;have:=k.size_pos;omega
theorem bn {α:Type}{l:List α}{i:Nat}{x:α} (h:l[i]?=some x):l.take (i+1)=l.take i++[x]:=by rw[List.take_add_one,h];rfl
theorem Re.oG:∀a b:List Re,Re.da (a++b)=Re.da a+Re.da b
 |[],b=>by simp [Re.da]
 |k::l,b=>by simp only[ak5,Re.da,Re.oG l b];omega
theorem Re.NK (l:List Re) (i:Nat):Re.da (l.take i)<=Re.da l:=by
 conv=>rhs;rw[<- amw i l]
 rw[Re.oG];omega
theorem Dx (re:Re):eI (lI re)=some (re.cells.map V.d):=rfl
theorem mapM_some {α β:Type} (f:α->Option β) (g:β->α) (h:∀x,f (g x)=some x):∀l:List β,(l.map g).mapM f=some l
 |[]=>rfl
 |x::l=>by rw[ak8,ami,h,mapM_some f g h l];rfl
theorem M8 (cs:List D):(cs.map V.d).mapM Ql=some cs:=mapM_some Ql V.d (λ_=>rfl) cs
theorem OO (n bM:Nat) (s:List VL.Obj) (x:D):cJ n bM s (.d x)=some x:=by cases n <;> rfl
theorem Bj (n bM:Nat) (s:List VL.Obj) (cs:List D):(cs.map V.d).mapM (cJ n bM s)=some cs:=mapM_some (cJ n bM s) V.d (OO n bM s) cs
theorem vz (n bM:Nat) (s:List VL.Obj) (l:List (List D)):(l.map λc=>c.map V.d).mapM (λ(e:List V)=>e.mapM (cJ n bM s))=some l:=mapM_some (λ(e:List V)=>e.mapM (cJ n bM s)) (λc=>c.map V.d) (Bj n bM s) l
theorem Re.ind {Q:Re->Prop} (h:∀re,(∀k∈re.kids,Q k)->Q re) (re:Re):Q re:=by
 induction hn:re.size using Nat.strongRecOn generalizing re with
 |_ n ih=>exact h re λk hk=>ih k.size (by have:=Re.bZ hk;omega) k rfl
abbrev F6:=am @Dx @M8 @Bj @vz @OO @Re.iJ @DX<|And.intro @Ef @J6
abbrev zX:=And.intro JT<|And.intro F6<|And.intro F7<|And.intro rJ @dN.eq_1
abbrev zW:=And.intro vsA<|And.intro F6<|And.intro F7<|And.intro rJ @dN.eq_1
abbrev zQ:=And.intro zX<|And.intro @i64.eq_1<|And.intro @bV.eq_1<|And.intro @iD.eq_1 @bD.eq_1
abbrev zI:=And.intro zX @i64.eq_1
abbrev zJ:=And.intro zW @i64.eq_1
abbrev zU:=am @Hg @List.contains_cons.{0} @List.contains_nil.{0} amo alB Bool.or_true alE<|And.intro @ca.eq_1<|And.intro @oU<|And.intro @nh<|And.intro @aZ<|And.intro @if_true.{1} @if_false.{1}
theorem Qq (bM:Nat) (re:Re):ak bM (lI re)=true:=by unfold lI;rw[ak,Oy]
inductive Goal where
 |nil
 |mk (kind:Int) (re:Re) (k fi:Int) (next:Goal)
abbrev aC:=List (Int×Int)
def bS (c:aC):D:=.sl (c.map aU)
def Goal.d:Goal->D
 |.nil=>.sc (.pointer none)
 |.mk kind re k fi next=>.el (iD kind::(re.cells++[iD k,iD fi,next.d]))
structure bE where
 steps:Int
 empty:Bool
 ends:List Int
 aj:List aC
inductive Task where
 |run (g:Goal) (i:Int) (c:aC)
 |rep (g:Goal) (i:Int) (c:aC)
 |node (g:Goal) (i:Int) (c:aC)
def lK (t:List Int) (i:Int):Int:=t.getD i.toNat 0
def tQ (x:Int):Bool:=(decide (48<=x)&&decide (x<=57))||((decide (65<=x)&&decide (x<=90))||((decide (97<=x)&&decide (x<=122))||decide (x=95)))
def qo (t:List Int) (i:Int):Bool:=decide (0<i)&&tQ (lK t (i-1))
def mf (t:List Int) (i:Int):Bool:=decide (i<t.length)&&tQ (lK t i)
def bY (n:Int) (t:List Int) (i:Int):Bool :=
 if n=0 then decide (i=0) else if n=1 then decide (i=t.length)
 else if n=2 then decide (i=0)||decide (lK t (i-1)=10)
 else if n=3 then decide (i=t.length)||decide (lK t i=10)
 else if n=4 then qo t i != mf t i
 else qo t i == mf t i
def yP (l:List (Int×Int)) (x:Int):Bool:=l.any λs=>decide (s.1<=x)&&decide (x<=s.2)
def mR (c:aC) (n fi to:Int):aC:=if 1<=n/\n<=c.length then c.set (n-1).toNat (fi,to) else c
def ct (c:aC) (n:Int):Int×Int:=if n<1\/(c.length:Int)<n then (-1,-1) else c.getD (n-1).toNat (-1,-1)
def Re.dJ (re:Re) (m:Int):Re:=.mk re.op re.set re.kids re.mn re.mx m re.n re.neg
def bE.step (fuel:Int) (st:bE):bE:={ st with steps:=st.steps+1,empty:=st.empty||decide (fuel<st.steps+1) }
def xc (r:Option (Bool×bE)) (k:bE->Option (Bool×bE)):Option (Bool×bE) :=
 match r with
 |none=>none
 |some (true,s)=>some (true,s)
 |some (false,s)=>k s
def cY (rec:Int->Task->bE->Option (Bool×bE)) (g:Goal) (i:Int) (c:aC) (st:bE):Option (Option (Int×aC)×bE) :=
 match rec 1 (.run g i c) ⟨st.steps,false,[],[]⟩ with
 |none=>none
 |some (_,x)=>if x.empty then some (none,{ st with steps:=x.steps,empty:=x.empty }) else match x.ends,x.aj with
   |[],_=>some (none,{ st with steps:=x.steps,empty:=x.empty })
   |e::_,d::_=>some (some (e,d),{ st with steps:=x.steps,empty:=x.empty })
   |_::_,[]=>none
def dT (f:Int->bE->Option (Option (Int×aC)×bE)):Nat->bE->Option (Option aC×bE)
 |0,st=>some (none,st)
 |n+1,st=>if st.empty then some (none,st) else match f n st with
  |none=>none
  |some (some (_,d),st')=>some (some d,st')
  |some (none,st')=>dT f n st'
def oq (rec:Int->Task->bE->Option (Bool×bE)) (op:Int) (aJ:Re) (i:Int) (c:aC) (st:bE):Option (Option aC×bE) :=
 if op=7 then match cY rec (.mk 0 aJ 0 0 .nil) i c st with
  |none=>none
  |some (r,st')=>some (r.map (·.2),st')
 else dT (λk st=>cY rec (.mk 0 aJ 0 0 (.mk 4 (.mk 0 [] [] 0 0 0 0 false) 0 i .nil)) k c st) (i.toNat+1) st
def gm (kids:List Re) (next:Goal):Goal:=kids.foldr (λk nx=>.mk 0 k 0 0 nx) next
def uD (f:Re->bE->Option (Bool×bE)):List Re->bE->Option (Bool×bE)
 |[],st=>some (false,st)
 |k::l,st=>xc (f k st) (uD f l)
def jv (t:List Int) (a i:Int) (n:Nat):Bool:=(List.range n).all λj=>lK t (a+j) == lK t (i+j)
def fA (t:List Int) (rec:Int->Task->bE->Option (Bool×bE)) (ai:Int) (re:Re) (next:Goal) (i:Int) (c:aC) (st:bE):Option (Bool×bE) :=
 if re.op=1 then (if i<t.length/\yP re.set (lK t i)=true then rec ai (.run next (i+1) c) st else some (false,st))
 else if re.op=2 then rec ai (.run (gm re.kids next) i c) st
 else if re.op=3 then uD (λk st=>rec ai (.run (.mk 0 k 0 0 next) i c) st) re.kids st
 else if re.op=5 then match re.kids with
  |[]=>none
  |aJ::_=>rec ai (.run (.mk 0 aJ 0 0 (.mk 3 re 0 i next)) i c) st
 else if re.op=6 then
  let x:=ct c re.n
  if x.1<0 then some (false,st)
  else if x.2<x.1\/(t.length:Int)<x.2 then none
  else if t.length<i+x.2-x.1 then some (false,st)
  else if jv t x.1 i (x.2-x.1).toNat=true then rec ai (.run next (i+x.2-x.1) c) st else some (false,st)
 else if re.op=7\/re.op=8 then match re.kids with
  |[]=>none
  |aJ::_=>match oq rec re.op aJ i c st with
   |none=>none
   |some (r,st') =>
    if st'.empty then some (true,st')
    else if re.neg=true then (match r with
     |some _=>some (false,st')
     |none=>rec ai (.run next i c) st')
    else match r with
     |some d=>rec ai (.run next i d) st'
     |none=>some (false,st')
 else if re.op=9 then match re.kids with
  |[]=>none
  |aJ::_=>match cY rec (.mk 0 aJ 0 0 .nil) i c st with
   |none=>none
   |some (r,st')=>if st'.empty then some (true,st') else match r with
    |some (e,d)=>rec ai (.run next e d) st'
    |none=>some (false,st')
 else if re.op=10 then match re.kids with
  |yes::no::_=>rec ai (.run (.mk 0 (if 0<=(ct c re.n).1 then yes else no) 0 0 next) i c) st
  |_=>none
 else if re.op=11 then (if bY re.n t i=true then rec ai (.run next i c) st else some (false,st))
 else rec ai (.run next i c) st
def sO (fuel:Int) (rec:Int->Task->bE->Option (Bool×bE)) (ai:Int) (re:Re) (k:Int) (next:Goal) (i:Int) (c:aC) (st:bE):Option (Bool×bE) :=
 if re.mode=2 then match cY rec (.mk 1 (re.dJ 0) 0 0 .nil) i c st with
  |none=>none
  |some (r,st')=>match r with
   |some (e,d)=>rec ai (.run next e d) st'
   |none=>some (st'.empty,st')
 else if st.steps<0\/10000000000000<st.steps then none
 else
  let s1:=st.step fuel
  if s1.empty then some (true,s1)
  else match re.kids with
   |[]=>none
   |aJ::_ =>
    let more:=re.mx=-1\/k<re.mx;let once:bE->Option (Bool×bE):=λs=>rec ai (.run (.mk 0 aJ 0 0 (.mk 2 re k i next)) i c) s
    if k<re.mn then once s1
    else if re.mode=1 then xc (rec ai (.run next i c) s1) (λs=>if more then once s else some (false,s))
    else xc (if more then once s1 else some (false,s1)) (λs=>rec ai (.run next i c) s)
def cw (t:List Int) (fuel:Int) (rec:Int->Task->bE->Option (Bool×bE)) (ai:Int):Task->bE->Option (Bool×bE)
 |.run g i c,st =>
  if i<0\/(t.length:Int)<i then none else match g with
  |.nil=>if st.ends.length<2000000000000/\st.aj.length=st.ends.length then some (decide (0<=ai)&&decide (ai<=(st.ends.length:Int)+1),{ st with ends:=st.ends++[i],aj:=st.aj++[c] }) else none
  |.mk kind re k fi next =>
   if kind=1 then rec ai (.rep (.mk kind re k fi next) i c) st
   else if kind=2 then (if re.mn<=k/\i=fi then some (false,st) else if k<0\/10000000000000<k then none else rec ai (.run (.mk 1 re (k+1) 0 next) i c) st)
   else if kind=3 then (if 1000000000<c.length then none else rec ai (.run next i (mR c re.n fi i)) st)
   else if kind=4 then (if i=fi then rec ai (.run next i c) st else some (false,st))
   else rec ai (.node (.mk kind re k fi next) i c) st
 |.rep g i c,st=>if i<0\/(t.length:Int)<i then none else match g with
  |.nil=>none
  |.mk _ re k _ next=>sO fuel rec ai re k next i c st
 |.node g i c,st=>if i<0\/(t.length:Int)<i then none else match g with
  |.nil=>none
  |.mk _ re _ _ next =>
   if re.op=4 then rec ai (.rep (.mk 1 re 0 0 next) i c) st
   else if 1000000000<re.set.length\/1000000000<re.kids.length\/1000000000<c.length then none
   else if st.steps<0\/10000000000000<st.steps then none
   else if (st.step fuel).empty then some (true,st.step fuel)
   else fA t rec ai re next i c (st.step fuel)
def eK (t:List Int) (fuel:Int):Nat->Int->Task->bE->Option (Bool×bE)
 |0=>λ_ _ _=>none
 |n+1=>cw t fuel (eK t fuel n)
theorem Ov (re:Re):re.size<=1000000000->aS prog 92 [lI re] (i64 re.size):=by
 induction re using Re.ind with
 |h re ih =>
 intro hs;have hlen:=Re.mX re.kids;have gr:=Re.size_eq re;refine br func92 ntmps92 results92 0 31 ?_;simp only[zW,simprocAttr,au re,iD,bD];refine ay (λn e s=>∃i:Nat,n=re.kids.length-i/\i<=re.kids.length/\e 1=.rf 0 0 0 0/\e 3=i64 (1+Re.da (re.kids.take i):Nat)/\e 4=i64 i/\s=[⟨0,true,8,[re.cells.map .d]⟩]) ⟨_,_,_,bO.refl,0,rfl,aq,rfl,rfl,rfl,by simp [Re.ah re,iD,bD]⟩ ?_;rintro n e s ⟨i,rfl,hi,h1,h3,h4,rfl⟩;rcases alw i re.kids.length with aE|gE
 ·obtain⟨k,hk⟩:∃k,re.kids[i]?=some k:=cb aE;have hm:=List.mem_of_getElem? hk;have IF:=Re.bZ hm;simp only[zW,simprocAttr,Re.ah re,iD,bD,h1,h3,h4,i64,aE,hk];refine dk (ih k hm ae) ?_;have h5:=Re.NK re.kids (i+1);rw[bn hk,Re.oG]at h5;simp only[Re.da]at h5;simp only[zW,simprocAttr,Re.ah re,iD,bD,h1,h3,h4,i64,aE,hk];refine⟨_,_,_,?_,bO.refl,i+1,rfl,aE,?_⟩
  ·omega
  simp only[ca,Nat.reduceEqDiff,if_true,if_false];refine⟨h1,?_,?_,by simp [Re.ah re,iD,bD]⟩
  ·rw[bK _ ae,bn hk,Re.oG];simp only[Re.da,i64];congr 3;omega
  ·rw[bK _ ae];rfl
 ·have eg:i=re.kids.length:=by omega
  subst eg;simp only[zW,simprocAttr,Re.ah re,iD,bD,h1,h3,h4,i64,al5];simp [gr]
theorem mix:prog.follows .mixedOrders=true:=eh
def jD (n:Int):Prop:=-9223372036854775808<=n/\n<=9223372036854775807
def EE (n ai:Int):Int:=if n<0 then (-(n+1)).tmod ai else n.tmod ai
theorem RI (n m:Int) (hm:1<=m) (hn:jD n):aS prog 19 [i64 n,i64 m] (i64 (EE n m)):=by
 unfold jD at hn;refine br func19 ntmps19 results19 0 19 ?_;simp only[vsA,F6,F7,dN,simprocAttr,i64];refine⟨λh=>⟨ae,?_⟩,λh=>⟨ae,?_⟩⟩
 ·rw[bK (n+1) ae,bK _ ae];simp [EE,h]
 ·simp [EE,h]
def pick (l:List Int) (i:Int) (ai:Int):Int:=if i<0\/l.length<=i then 0 else EE (l[i.toNat]?.getD 0) ai
theorem CW (l:List Int) (hl:∀x∈l,jD x) (i m:Int) (hm:1<=m):aS prog 24 [.d (ar l),i64 i,i64 m] (i64 (pick l i m)):=by
 refine br func24 ntmps24 results24 0 71 ?_;by_cases h0:i<0
 ·simp only[zJ,simprocAttr,ar,iD,h0];simp [h0,pick]
 ·by_cases h1:(l.length:Int)<=i
  ·simp only[zJ,simprocAttr,ar,iD,h0,h1,ge_iff_le];simp [h0,pick];omega
  ·have aE:i.toNat<l.length:=by omega
   obtain⟨x,hx⟩:∃x,l[i.toNat]?=some x:=cb aE;simp only[zJ,simprocAttr,ar,iD,h0,h1,ge_iff_le,hx,show 0<=i by omega,show i<l.length by omega];refine dk (RI x m hm (hl x (List.mem_of_getElem? hx))) ?_;simp only[zW,simprocAttr,i64];simp [h0,pick,hx];omega
end Go.Proofs.YtjjfioalgbecmaaGreat
