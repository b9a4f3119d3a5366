/- A part of the proof (Vr Vs Vt). -/
import Derived.Test.YtfmdmlfhigocaaaOF11
set_option linter.unusedSimpArgs false
set_option linter.unusedVariables false
set_option maxRecDepth 100000
set_option maxHeartbeats 80000000
namespace Go.VL
def zC (K:V->List Obj->Prop) (s:List Obj) (v:V):Prop:=K v s
theorem xL {K:V->List Obj->Prop}{s:List Obj}{v:V}:zC K s v=K v s:=(rfl)
def S3 (K:V->List Obj->Prop) (s:List Obj):Prop:=K .un s
theorem xJ {K:V->List Obj->Prop}{s:List Obj}:S3 K s=K .un s:=(rfl)
def lh {α β:Type} (x:V) (A B:α->β->Prop) (e:α) (s:β):Prop:=pz x (A e s) (B e s)
theorem oG {α β:Type}{A B:α->β->Prop}{e:α}{s:β}:lh (.d (.sc (.bool true))) A B e s=A e s:=by simp [lh,pz,fz]
theorem mw {α β:Type}{A B:α->β->Prop}{e:α}{s:β}:lh (.d (.sc (.bool false))) A B e s=B e s:=by simp [lh,pz,fz]
theorem vo {α β:Type}{A B:α->β->Prop}{e:α}{s:β}{p:Prop} [Decidable p]:lh (.d (.sc (.bool (decide p)))) A B e s=((p->A e s)/\(¬p->B e s)):=by simp [lh,pz,fz]
theorem ry {α β:Type}{A B:α->β->Prop}{e:α}{s:β}{b:Bool}:lh (.d (.sc (.bool (!b)))) A B e s=lh (.d (.sc (.bool b))) B A e s:=by cases b <;> simp [lh,pz,fz]
theorem ug {α β:Type}{A B:α->β->Prop}{e:α}{s:β}:lh (.d .ub) A B e s=(A e s/\B e s):=(rfl)
theorem Iv {α β:Type}{A B:α->β->Prop}{e:α}{s:β}{b:Bool}:lh (.d (.sc (.bool b))) A B e s=((b=true->A e s)/\(b=false->B e s)):=by simp [lh,pz,fz]
def po (x:V) (A B:List Obj->Prop) (s:List Obj):Prop:=fz x (A s) (B s)
theorem oP {A B:List Obj->Prop}{s:List Obj}:po (.d (.sc (.bool true))) A B s=A s:=by simp [po,fz]
theorem mH {A B:List Obj->Prop}{s:List Obj}:po (.d (.sc (.bool false))) A B s=B s:=by simp [po,fz]
theorem A5 {A B:List Obj->Prop}{s:List Obj}{p:Prop} [Decidable p]:po (.d (.sc (.bool (decide p)))) A B s=((p->A s)/\(¬p->B s)):=by simp [po,fz]
theorem qK {A B:List Obj->Prop}{s:List Obj}{b:Bool}:po (.d (.sc (.bool (!b)))) A B s=po (.d (.sc (.bool b))) B A s:=by cases b <;> simp [po,fz]
def dR (x:V) (d:Nat) (want:Bool) (A B:Env->Prop) (e:Env):Prop :=
 match x with
 |.d (.sc (.bool b))=>(b=want->A (bB e d (.d (.sc (.bool want)))))/\(b=(!want)->B (bB e d (.d (.sc (.bool (!want))))))
 |.un=>B e
 |_=>False
theorem rk {d:Nat}{A B:Env->Prop}{e:Env}:dR (.d (.sc (.bool true))) d true A B e=A (bB e d (.d (.sc (.bool true)))):=by simp [dR]
theorem qB {d:Nat}{A B:Env->Prop}{e:Env}:dR (.d (.sc (.bool false))) d false A B e=A (bB e d (.d (.sc (.bool false)))):=by simp [dR]
theorem rF {d:Nat}{A B:Env->Prop}{e:Env}:dR (.d (.sc (.bool true))) d false A B e=B (bB e d (.d (.sc (.bool true)))):=by simp [dR]
theorem qL {d:Nat}{A B:Env->Prop}{e:Env}:dR (.d (.sc (.bool false))) d true A B e=B (bB e d (.d (.sc (.bool false)))):=by simp [dR]
theorem rE {d:Nat}{want:Bool}{A B:Env->Prop}{e:Env}:dR .un d want A B e=B e:=(rfl)
theorem v7 {d:Nat}{A B:Env->Prop}{e:Env}{p:Prop} [Decidable p]:dR (.d (.sc (.bool (decide p)))) d true A B e=((p->A (bB e d (.d (.sc (.bool true)))))/\(¬p->B (bB e d (.d (.sc (.bool false)))))):=by simp [dR]
theorem ve {d:Nat}{A B:Env->Prop}{e:Env}{p:Prop} [Decidable p]:dR (.d (.sc (.bool (decide p)))) d false A B e=((p->B (bB e d (.d (.sc (.bool true)))))/\(¬p->A (bB e d (.d (.sc (.bool false)))))):=by
 simp only[dR,decide_eq_false_iff_not,Bool.not_false,decide_eq_true_eq];exact propext And.comm
theorem sW {d:Nat}{A B:Env->Prop}{e:Env}{p:Prop} [Decidable p]:dR (.d (.sc (.bool (!decide p)))) d true A B e=((p->B (bB e d (.d (.sc (.bool false)))))/\(¬p->A (bB e d (.d (.sc (.bool true)))))):=by
 simp only[dR,Bool.not_eq_true',Bool.not_true,Bool.not_eq_false',decide_eq_false_iff_not,decide_eq_true_eq];exact propext And.comm
theorem sN {d:Nat}{A B:Env->Prop}{e:Env}{p:Prop} [Decidable p]:dR (.d (.sc (.bool (!decide p)))) d false A B e=((p->A (bB e d (.d (.sc (.bool false)))))/\(¬p->B (bB e d (.d (.sc (.bool true)))))):=by
 simp only[dR,Bool.not_eq_true',Bool.not_false,Bool.not_eq_false',decide_eq_false_iff_not,decide_eq_true_eq]
def Ct (x:Option Nat) (want:Bool) (A B:Env->Prop) (e:Env):Prop:=jA x e want A B
theorem mr {d:Nat}{want:Bool}{A B:Env->Prop}{e:Env}:Ct (some d) want A B e=dR (e d) d want A B e:=by
 unfold Ct jA dR;exact(rfl)
def gA (P:Program) (N:Nat) (full rest:List Oper) (d:Option Nat) (o:Oper) (s:List Obj) (K:Env->List Obj->Prop) (e:Env):Prop:=cz P o e s (cont P N full rest e d K)
def gB (P:Program) (N:Nat) (full rest:List Oper) (d:Option Nat) (s:List Obj) (K:Env->List Obj->Prop) (e:Env):Prop:=mI P N full rest (gp e d .un) s K
theorem BI {P:Program}{N:Nat}{full rest:List Oper}{d:Option Nat}{o:Oper}{s:List Obj}{K:Env->List Obj->Prop}{e:Env}:gA P N full rest d o s K e=cz P o e s (cont P N full rest e d K):=(rfl)
theorem B6 {P:Program}{N:Nat}{full rest:List Oper}{d:Option Nat}{s:List Obj}{K:Env->List Obj->Prop}{e:Env}:gB P N full rest d s K e=mI P N full rest (gp e d .un) s K:=(rfl)
theorem qZ {P:Program}{N:Nat}{full rest:List Oper}{d:Option Nat}{op:Op}{ty:TypeId}{pos:String}{af:Array Edge}{e:Env}{s:List Obj}{K:Env->List Obj->Prop} :
  mI P N full (⟨d,op,ty,pos,af,none⟩::rest) e s K=(dz N d/\cz P ⟨d,op,ty,pos,af,none⟩ e s (cont P N full rest e d K)):=(rfl)
theorem qz {P:Program}{N:Nat}{full rest:List Oper}{d:Option Nat}{op:Op}{ty:TypeId}{pos:String}{af:Array Edge}{g:Nat}{want:Bool}{e:Env}{s:List Obj}{K:Env->List Obj->Prop} :
  mI P N full (⟨d,op,ty,pos,af,some (g,want)⟩::rest) e s K=(dz N d/\Ct (jV full g) want (gA P N full rest d ⟨d,op,ty,pos,af,some (g,want)⟩ s K) (gB P N full rest d s K) e):=(rfl)
theorem nW {P:Program}{N L M:Nat}{Q:Exit->Env->List Obj->Prop}{e:Env}{s:List Obj}{c:Operand}{a b:Code}:codeWp P N L M (.cond c a b) Q e s=lh (ev e c) (codeWp P N L M a Q) (codeWp P N L M b Q) (mS M e) s:=(rfl)
def hA (P:Program) (N:Nat) (full:List Oper) (bars:List Nat) (fs:cd) (i:Nat) (rest:List Oper) (d:Option Nat) (o:Oper) (s:List Obj) (K:Env->List Obj->Prop) (e:Env):Prop:=eg P bars fs i o e s (eX P N full bars fs (i+1) rest e d K)
def hB (P:Program) (N:Nat) (full:List Oper) (bars:List Nat) (fs:cd) (i:Nat) (rest:List Oper) (d:Option Nat) (s:List Obj) (K:Env->List Obj->Prop) (e:Env):Prop:=ft P N full bars fs (i+1) rest (gp e d .un) s K
theorem By {P:Program}{N:Nat}{full:List Oper}{bars:List Nat}{fs:cd}{i:Nat}{rest:List Oper}{d:Option Nat}{o:Oper}{s:List Obj}{K:Env->List Obj->Prop}{e:Env}:hA P N full bars fs i rest d o s K e=eg P bars fs i o e s (eX P N full bars fs (i+1) rest e d K):=(rfl)
theorem BG {P:Program}{N:Nat}{full:List Oper}{bars:List Nat}{fs:cd}{i:Nat}{rest:List Oper}{d:Option Nat}{s:List Obj}{K:Env->List Obj->Prop}{e:Env}:hB P N full bars fs i rest d s K e=ft P N full bars fs (i+1) rest (gp e d .un) s K:=(rfl)
theorem qE {P:Program}{N:Nat}{full:List Oper}{bars:List Nat}{fs:cd}{i:Nat}{rest:List Oper}{d:Option Nat}{x:Operand}{ty:TypeId}{pos:String}{af:Array Edge}{e:Env}{s:List Obj}{K:Env->List Obj->Prop} :
  ft P N full bars fs i (⟨d,.move x,ty,pos,af,none⟩::rest) e s K=(dz N d/\eg P bars fs i ⟨d,.move x,ty,pos,af,none⟩ e s (eX P N full bars fs (i+1) rest e d K)):=(rfl)
theorem mF {P:Program}{N:Nat}{full:List Oper}{bars:List Nat}{fs:cd}{i:Nat}{rest:List Oper}{d:Option Nat}{x:Operand}{ty:TypeId}{pos:String}{af:Array Edge}{e:Env}{s:List Obj}{K:Env->List Obj->Prop} :
  ft P N full bars fs i (⟨d,.assign x,ty,pos,af,none⟩::rest) e s K=(dz N d/\eg P bars fs i ⟨d,.assign x,ty,pos,af,none⟩ e s (eX P N full bars fs (i+1) rest e d K)):=(rfl)
theorem nU {P:Program}{N:Nat}{full:List Oper}{bars:List Nat}{fs:cd}{i:Nat}{rest:List Oper}{d:Option Nat}{t:TypeId}{ty:TypeId}{pos:String}{af:Array Edge}{e:Env}{s:List Obj}{K:Env->List Obj->Prop} :
  ft P N full bars fs i (⟨d,.alloc t,ty,pos,af,none⟩::rest) e s K=(dz N d/\eg P bars fs i ⟨d,.alloc t,ty,pos,af,none⟩ e s (eX P N full bars fs (i+1) rest e d K)):=(rfl)
theorem tA {P:Program}{N:Nat}{full:List Oper}{bars:List Nat}{fs:cd}{i:Nat}{rest:List Oper}{d:Option Nat}{t:TypeId}{x:Operand}{ty:TypeId}{pos:String}{af:Array Edge}{e:Env}{s:List Obj}{K:Env->List Obj->Prop} :
  ft P N full bars fs i (⟨d,.box t x,ty,pos,af,none⟩::rest) e s K=(dz N d/\eg P bars fs i ⟨d,.box t x,ty,pos,af,none⟩ e s (eX P N full bars fs (i+1) rest e d K)):=(rfl)
theorem ou {P:Program}{N:Nat}{full:List Oper}{bars:List Nat}{fs:cd}{i:Nat}{rest:List Oper}{d:Option Nat}{t:TypeId}{parts:Array (Nat×Operand)}{ty:TypeId}{pos:String}{af:Array Edge}{e:Env}{s:List Obj}{K:Env->List Obj->Prop} :
  ft P N full bars fs i (⟨d,.build t parts,ty,pos,af,none⟩::rest) e s K=(dz N d/\eg P bars fs i ⟨d,.build t parts,ty,pos,af,none⟩ e s (eX P N full bars fs (i+1) rest e d K)):=(rfl)
theorem iK {P:Program}{N:Nat}{full:List Oper}{bars:List Nat}{fs:cd}{i:Nat}{rest:List Oper}{d:Option Nat}{t:TypeId}{n:Nat}{parts:Array (Nat×Operand)}{ty:TypeId}{pos:String}{af:Array Edge}{e:Env}{s:List Obj}{K:Env->List Obj->Prop} :
  ft P N full bars fs i (⟨d,.buildSlice t n parts,ty,pos,af,none⟩::rest) e s K=(dz N d/\eg P bars fs i ⟨d,.buildSlice t n parts,ty,pos,af,none⟩ e s (eX P N full bars fs (i+1) rest e d K)):=(rfl)
theorem rp {P:Program}{N:Nat}{full:List Oper}{bars:List Nat}{fs:cd}{i:Nat}{rest:List Oper}{d:Option Nat}{t:TypeId}{a:Operand}{ty:TypeId}{pos:String}{af:Array Edge}{e:Env}{s:List Obj}{K:Env->List Obj->Prop} :
  ft P N full bars fs i (⟨d,.load t a,ty,pos,af,none⟩::rest) e s K=(dz N d/\eg P bars fs i ⟨d,.load t a,ty,pos,af,none⟩ e s (eX P N full bars fs (i+1) rest e d K)):=(rfl)
theorem lr {P:Program}{N:Nat}{full:List Oper}{bars:List Nat}{fs:cd}{i:Nat}{rest:List Oper}{d:Option Nat}{t:TypeId}{r:Option Operand}{ty:TypeId}{pos:String}{af:Array Edge}{e:Env}{s:List Obj}{K:Env->List Obj->Prop} :
  ft P N full bars fs i (⟨d,.makeMap t r,ty,pos,af,none⟩::rest) e s K=(dz N d/\eg P bars fs i ⟨d,.makeMap t r,ty,pos,af,none⟩ e s (eX P N full bars fs (i+1) rest e d K)):=(rfl)
theorem m6 {P:Program}{N:Nat}{full:List Oper}{bars:List Nat}{fs:cd}{i:Nat}{rest:List Oper}{d:Option Nat}{t:TypeId}{x i':Operand}{ok:Bool}{ty:TypeId}{pos:String}{af:Array Edge}{e:Env}{s:List Obj}{K:Env->List Obj->Prop} :
  ft P N full bars fs i (⟨d,.lookup t x i' ok,ty,pos,af,none⟩::rest) e s K=(dz N d/\eg P bars fs i ⟨d,.lookup t x i' ok,ty,pos,af,none⟩ e s (eX P N full bars fs (i+1) rest e d K)):=(rfl)
theorem ju {P:Program}{N:Nat}{full:List Oper}{bars:List Nat}{fs:cd}{i:Nat}{rest:List Oper}{d:Option Nat}{t:TypeId}{m k x:Operand}{ty:TypeId}{pos:String}{af:Array Edge}{e:Env}{s:List Obj}{K:Env->List Obj->Prop} :
  ft P N full bars fs i (⟨d,.mapUpdate t m k x,ty,pos,af,none⟩::rest) e s K=(dz N d/\eg P bars fs i ⟨d,.mapUpdate t m k x,ty,pos,af,none⟩ e s (eX P N full bars fs (i+1) rest e d K)):=(rfl)
theorem oK {P:Program}{N:Nat}{full:List Oper}{bars:List Nat}{fs:cd}{i:Nat}{rest:List Oper}{d:Option Nat}{t:TypeId}{a x:Operand}{ty:TypeId}{pos:String}{af:Array Edge}{e:Env}{s:List Obj}{K:Env->List Obj->Prop} :
  ft P N full bars fs i (⟨d,.store t a x,ty,pos,af,none⟩::rest) e s K=(dz N d/\eg P bars fs i ⟨d,.store t a x,ty,pos,af,none⟩ e s (eX P N full bars fs (i+1) rest e d K)):=(rfl)
theorem uM {P:Program}{N:Nat}{full:List Oper}{bars:List Nat}{fs:cd}{i:Nat}{rest:List Oper}{d:Option Nat}{x:Operand}{ty:TypeId}{pos:String}{af:Array Edge}{e:Env}{s:List Obj}{K:Env->List Obj->Prop} :
  ft P N full bars fs i (⟨d,.nilCheck x,ty,pos,af,none⟩::rest) e s K=(dz N d/\eg P bars fs i ⟨d,.nilCheck x,ty,pos,af,none⟩ e s (eX P N full bars fs (i+1) rest e d K)):=(rfl)
theorem uN {P:Program}{N:Nat}{full:List Oper}{bars:List Nat}{fs:cd}{i:Nat}{rest:List Oper}{d:Option Nat}{op:BinOp}{t t':TypeId}{x y:Operand}{ty:TypeId}{pos:String}{af:Array Edge}{e:Env}{s:List Obj}{K:Env->List Obj->Prop} :
  ft P N full bars fs i (⟨d,.binOp op t x y t',ty,pos,af,none⟩::rest) e s K=(dz N d/\eg P bars fs i ⟨d,.binOp op t x y t',ty,pos,af,none⟩ e s (eX P N full bars fs (i+1) rest e d K)):=(rfl)
theorem qt {P:Program}{N:Nat}{full:List Oper}{bars:List Nat}{fs:cd}{i:Nat}{rest:List Oper}{d:Option Nat}{op:UnOp}{t:TypeId}{x:Operand}{ty:TypeId}{pos:String}{af:Array Edge}{e:Env}{s:List Obj}{K:Env->List Obj->Prop} :
  ft P N full bars fs i (⟨d,.unOp op t x,ty,pos,af,none⟩::rest) e s K=(dz N d/\eg P bars fs i ⟨d,.unOp op t x,ty,pos,af,none⟩ e s (eX P N full bars fs (i+1) rest e d K)):=(rfl)
theorem lG {P:Program}{N:Nat}{full:List Oper}{bars:List Nat}{fs:cd}{i:Nat}{rest:List Oper}{d:Option Nat}{a b:TypeId}{x:Operand}{ty:TypeId}{pos:String}{af:Array Edge}{e:Env}{s:List Obj}{K:Env->List Obj->Prop} :
  ft P N full bars fs i (⟨d,.convert a b x,ty,pos,af,none⟩::rest) e s K=(dz N d/\eg P bars fs i ⟨d,.convert a b x,ty,pos,af,none⟩ e s (eX P N full bars fs (i+1) rest e d K)):=(rfl)
theorem kx {P:Program}{N:Nat}{full:List Oper}{bars:List Nat}{fs:cd}{i:Nat}{rest:List Oper}{d:Option Nat}{fn:Fn}{first ai:Array Operand}{ty:TypeId}{pos:String}{af:Array Edge}{e:Env}{s:List Obj}{K:Env->List Obj->Prop} :
  ft P N full bars fs i (⟨d,.makeFunc fn first ai,ty,pos,af,none⟩::rest) e s K=(dz N d/\eg P bars fs i ⟨d,.makeFunc fn first ai,ty,pos,af,none⟩ e s (eX P N full bars fs (i+1) rest e d K)):=(rfl)
theorem jt {P:Program}{N:Nat}{full:List Oper}{bars:List Nat}{fs:cd}{i:Nat}{rest:List Oper}{d:Option Nat}{t:TypeId}{l c:Operand}{ty:TypeId}{pos:String}{af:Array Edge}{e:Env}{s:List Obj}{K:Env->List Obj->Prop} :
  ft P N full bars fs i (⟨d,.makeSlice t l c,ty,pos,af,none⟩::rest) e s K=(dz N d/\eg P bars fs i ⟨d,.makeSlice t l c,ty,pos,af,none⟩ e s (eX P N full bars fs (i+1) rest e d K)):=(rfl)
theorem oL {P:Program}{N:Nat}{full:List Oper}{bars:List Nat}{fs:cd}{i:Nat}{rest:List Oper}{d:Option Nat}{t:TypeId}{x:Operand}{lo hi mx:Option Operand}{ty:TypeId}{pos:String}{af:Array Edge}{e:Env}{s:List Obj}{K:Env->List Obj->Prop} :
  ft P N full bars fs i (⟨d,.slice t x lo hi mx,ty,pos,af,none⟩::rest) e s K=(dz N d/\eg P bars fs i ⟨d,.slice t x lo hi mx,ty,pos,af,none⟩ e s (eX P N full bars fs (i+1) rest e d K)):=(rfl)
theorem jq {P:Program}{N:Nat}{full:List Oper}{bars:List Nat}{fs:cd}{i:Nat}{rest:List Oper}{d:Option Nat}{t:TypeId}{x:Operand}{f:Nat}{ty:TypeId}{pos:String}{af:Array Edge}{e:Env}{s:List Obj}{K:Env->List Obj->Prop} :
  ft P N full bars fs i (⟨d,.fieldAddr t x f,ty,pos,af,none⟩::rest) e s K=(dz N d/\eg P bars fs i ⟨d,.fieldAddr t x f,ty,pos,af,none⟩ e s (eX P N full bars fs (i+1) rest e d K)):=(rfl)
theorem n6 {P:Program}{N:Nat}{full:List Oper}{bars:List Nat}{fs:cd}{i:Nat}{rest:List Oper}{d:Option Nat}{t:TypeId}{x:Operand}{f:Nat}{ty:TypeId}{pos:String}{af:Array Edge}{e:Env}{s:List Obj}{K:Env->List Obj->Prop} :
  ft P N full bars fs i (⟨d,.field t x f,ty,pos,af,none⟩::rest) e s K=(dz N d/\eg P bars fs i ⟨d,.field t x f,ty,pos,af,none⟩ e s (eX P N full bars fs (i+1) rest e d K)):=(rfl)
theorem jF {P:Program}{N:Nat}{full:List Oper}{bars:List Nat}{fs:cd}{i:Nat}{rest:List Oper}{d:Option Nat}{t:TypeId}{x i':Operand}{ty:TypeId}{pos:String}{af:Array Edge}{e:Env}{s:List Obj}{K:Env->List Obj->Prop} :
  ft P N full bars fs i (⟨d,.indexAddr t x i',ty,pos,af,none⟩::rest) e s K=(dz N d/\eg P bars fs i ⟨d,.indexAddr t x i',ty,pos,af,none⟩ e s (eX P N full bars fs (i+1) rest e d K)):=(rfl)
theorem oo {P:Program}{N:Nat}{full:List Oper}{bars:List Nat}{fs:cd}{i:Nat}{rest:List Oper}{d:Option Nat}{t:TypeId}{x i':Operand}{ty:TypeId}{pos:String}{af:Array Edge}{e:Env}{s:List Obj}{K:Env->List Obj->Prop} :
  ft P N full bars fs i (⟨d,.index t x i',ty,pos,af,none⟩::rest) e s K=(dz N d/\eg P bars fs i ⟨d,.index t x i',ty,pos,af,none⟩ e s (eX P N full bars fs (i+1) rest e d K)):=(rfl)
theorem lI {P:Program}{N:Nat}{full:List Oper}{bars:List Nat}{fs:cd}{i:Nat}{rest:List Oper}{d:Option Nat}{x:Operand}{i':Nat}{ty:TypeId}{pos:String}{af:Array Edge}{e:Env}{s:List Obj}{K:Env->List Obj->Prop} :
  ft P N full bars fs i (⟨d,.extract x i',ty,pos,af,none⟩::rest) e s K=(dz N d/\eg P bars fs i ⟨d,.extract x i',ty,pos,af,none⟩ e s (eX P N full bars fs (i+1) rest e d K)):=(rfl)
theorem qH {P:Program}{N:Nat}{full:List Oper}{bars:List Nat}{fs:cd}{i:Nat}{rest:List Oper}{d:Option Nat}{c:Call}{ty:TypeId}{pos:String}{af:Array Edge}{e:Env}{s:List Obj}{K:Env->List Obj->Prop} :
  ft P N full bars fs i (⟨d,.call c,ty,pos,af,none⟩::rest) e s K=(dz N d/\eg P bars fs i ⟨d,.call c,ty,pos,af,none⟩ e s (eX P N full bars fs (i+1) rest e d K)):=(rfl)
theorem qW {P:Program}{N:Nat}{full:List Oper}{bars:List Nat}{fs:cd}{i:Nat}{rest:List Oper}{d:Option Nat}{c a b:Operand}{ty:TypeId}{pos:String}{af:Array Edge}{e:Env}{s:List Obj}{K:Env->List Obj->Prop} :
  ft P N full bars fs i (⟨d,.pick c a b,ty,pos,af,none⟩::rest) e s K=(dz N d/\bars.contains i=false/\fC fs i=none/\po (ev e c) (eX P N full bars fs (i+1) rest e d K (ev e a)) (eX P N full bars fs (i+1) rest e d K (ev e b)) s):=(rfl)
theorem qs {P:Program}{N:Nat}{full:List Oper}{bars:List Nat}{fs:cd}{i:Nat}{rest:List Oper}{d:Option Nat}{op:Op}{ty:TypeId}{pos:String}{af:Array Edge}{g:Nat}{want:Bool}{e:Env}{s:List Obj}{K:Env->List Obj->Prop} :
  ft P N full bars fs i (⟨d,op,ty,pos,af,some (g,want)⟩::rest) e s K=(dz N d/\Ct (jV full g) want (hA P N full bars fs i rest d ⟨d,op,ty,pos,af,some (g,want)⟩ s K) (hB P N full bars fs i rest d s K) e):=(rfl)
def EY (P:Program) (e0 x:V) (args:List V) (s:List Obj) (K:V->List Obj->Prop):Prop :=
 match zV e0 x with
 |.cl (.func g) first ai=>aq P g (first++args++ai) s K
 |_=>False
theorem tR {P:Program}{e0:V}{g:FuncId}{first ai args:List V}{s:List Obj}{K:V->List Obj->Prop}:EY P e0 (.cl (.func g) first ai) args s K=aq P g (first++args++ai) s K:=(rfl)
theorem He {P:Program}{e0:V}{g:FuncId}{first ai:List D}{args:List V}{s:List Obj}{K:V->List Obj->Prop}:EY P e0 (.d (.cl (.func g) first ai)) args s K=aq P g (cX.go e0 first++args++cX.go e0 ai) s K:=by
 unfold EY zV
 simp only[cX]
theorem Ic {e0:V}{fn:Fn}{first ai:List V}:zV e0 (.cl fn first ai)=.cl fn first ai:=(rfl)
theorem Mn {e0:V}{fn:Fn}{first ai:List D}:zV e0 (.d (.cl fn first ai))=.cl fn (cX.go e0 first) (cX.go e0 ai):=by
 unfold zV
 simp only[cX]
theorem K9 {e0:V}{fn:Fn}:zV e0 (.d (.sc (.func fn ⟨[]⟩ ⟨[]⟩)))=.cl fn [] []:=(rfl)
theorem Ep {id g i off b a:Nat}:E0 (.pp id g i off b a) b a=.pp id g i off b a:=by simp [E0]
theorem Bb {e0:V}{b a:Nat}:cX e0 (.sc (.pointer (some ⟨b,a,none⟩)))=E0 e0 b a:=by simp only[cX]
theorem AL {e0:V}{k:IntKind}{n:Int}:cX e0 (.sc (.int k n))=.d (.sc (.int k n)):=by simp only[cX]
theorem yO {e0:V}{b:Bool}:cX e0 (.sc (.bool b))=.d (.sc (.bool b)):=by simp only[cX]
theorem Bg {e0:V}:cX e0 (.sc (.pointer none))=.d (.sc (.pointer none)):=by simp only[cX]
theorem Dd {e0:V}{au:List (List D)}:cX e0 (.sl au)=.d (.sl au):=by simp only[cX]
theorem Ao {e0:V}{x:D}:cX e0 (.el [x])=.bx (cX e0 x):=by simp only[cX]
theorem Au {e0:V}{x y:D}{l:List D}:cX e0 (.el (x::y::l))=.d (.el (x::y::l)):=by simp only[cX]
theorem CD {e0:V}{fn:Fn}{first ai:List D}:cX e0 (.cl fn first ai)=.cl fn (cX.go e0 first) (cX.go e0 ai):=by simp only[cX]
theorem An {e0:V}:cX.go e0 []=[]:=(rfl)
theorem yH {e0:V}{x:D}{l:List D}:cX.go e0 (x::l)=cX e0 x::cX.go e0 l:=(rfl)
theorem HF {P:Program}{e0:V}{g:FuncId}{args:List V}{s:List Obj}{K:V->List Obj->Prop}:EY P e0 (.d (.sc (.func (.func g) ⟨[]⟩ ⟨[]⟩))) args s K=aq P g ([]++args++[]) s K:=(rfl)
section
variable {P:Program}{d:Option Nat}{ty:TypeId}{pos:String}{af:Array Edge}{g:Option (Nat×Bool)}{e:Nat->V}{s:List Obj}{K:V->List Obj->Prop}
theorem uz {x:Operand}:cz P ⟨d,.move x,ty,pos,af,g⟩ e s K=(K (ev e x) s):=(rfl)
theorem oF {x:Operand}:cz P ⟨d,.assign x,ty,pos,af,g⟩ e s K=(K (ev e x) s):=(rfl)
theorem uO {c a b:Operand}:cz P ⟨d,.pick c a b,ty,pos,af,g⟩ e s K=(po (ev e c) (K (ev e a)) (K (ev e b)) s):=(rfl)
theorem qv {t:TypeId}:cz P ⟨d,.alloc t,ty,pos,af,g⟩ e s K=(mW P t s K):=(rfl)
theorem xP {t:TypeId}{x:Operand}:cz P ⟨d,.box t x,ty,pos,af,g⟩ e s K=(wR s (ev e x) K):=(rfl)
theorem qA {t:TypeId}{parts:Array (Nat×Operand)}:cz P ⟨d,.build t parts,ty,pos,af,g⟩ e s K=(mX P t (parts.toList.map fun p=>(p.1,ev e p.2)) (zC K s)):=(rfl)
theorem jI {t:TypeId}{n:Nat}{parts:Array (Nat×Operand)}:cz P ⟨d,.buildSlice t n parts,ty,pos,af,g⟩ e s K=(dK P t n (parts.toList.map fun p=>(p.1,ev e p.2)) s K):=(rfl)
theorem D6 {e0:V}{cs:List D}:sa e0 (.d (.el cs))=.d (.el cs):=(rfl)
theorem EA {e0:V}{id g i off:Nat}:sa e0 (.rf id g i off)=.rf id g i off:=(rfl)
theorem E6 {e0:V}{id g i off b a:Nat}:sa e0 (.pp id g i off b a)=.pp id g i off b a:=(rfl)
theorem A3 {e0:V}{b a:Nat}:sa e0 (.d (.sc (.pointer (some ⟨b,a,none⟩))))=yD e0 b a:=(rfl)
theorem HC {id g i off b a:Nat}:yD (.pp id g i off b a) b a=.rf id g i off:=by simp [yD]
theorem Az {id g i off b a k:Nat}:yD (.pp id g i off b a) b (a+k)=.rf id g i (off+k):=by simp [yD]
theorem tM {t:TypeId}{a:Operand}:cz P ⟨d,.load t a,ty,pos,af,g⟩ e s K=(jJ P t s (sa (e 0) (ev e a)) (zC K s)):=(rfl)
theorem qP {t:TypeId}{a x:Operand}:cz P ⟨d,.store t a x,ty,pos,af,g⟩ e s K=(fK P t s (ev e a) (ev e x) (S3 K)):=(rfl)
theorem xF {x:Operand}:cz P ⟨d,.nilCheck x,ty,pos,af,g⟩ e s K=(ic s (ev e x) (zC K s)):=(rfl)
theorem uv {op:BinOp}{t t':TypeId}{x:Operand}{y:Nat}:cz P ⟨d,.binOp op t x (.tmp y) t',ty,pos,af,g⟩ e s K=(na P op t s (ev e x) (ev e (.tmp y)) (zC K s)):=(rfl)
theorem tZ {op:BinOp}{t t':TypeId}{x:Operand}{k:IntKind}{y:Int}:cz P ⟨d,.binOp op t x (.const (.int k y)) t',ty,pos,af,g⟩ e s K=(na P op t s (ev e x) (ev e (.const (.int k y))) (zC K s)):=(rfl)
theorem tW {op:BinOp}{t t':TypeId}{x:Operand}{y:Bool}:cz P ⟨d,.binOp op t x (.const (.bool y)) t',ty,pos,af,g⟩ e s K=(na P op t s (ev e x) (ev e (.const (.bool y))) (zC K s)):=(rfl)
theorem tH {op:BinOp}{t t':TypeId}{x:Operand}{y:Option Addr}:cz P ⟨d,.binOp op t x (.const (.pointer y)) t',ty,pos,af,g⟩ e s K=(na P op t s (ev e x) (ev e (.const (.pointer y))) (zC K s)):=(rfl)
theorem tS {op:BinOp}{t t':TypeId}{x:Operand}:cz P ⟨d,.binOp op t x (.const (.slice none 0 0)) t',ty,pos,af,g⟩ e s K=(dv P op t s (ev e x) (zC K s)):=(rfl)
theorem tO {op:UnOp}{t:TypeId}{x:Operand}:cz P ⟨d,.unOp op t x,ty,pos,af,g⟩ e s K=(xm op (ev e x) (zC K s)):=(rfl)
theorem mR {a b:TypeId}{x:Operand}:cz P ⟨d,.convert a b x,ty,pos,af,g⟩ e s K=(nh P a b (ev e x) (zC K s)):=(rfl)
theorem lk {fn:Fn}{first ai:Array Operand}:cz P ⟨d,.makeFunc fn first ai,ty,pos,af,g⟩ e s K=(K (.cl fn (first.toList.map (ev e)) (ai.toList.map (ev e))) s):=(rfl)
theorem kj {t:TypeId}{l c:Operand}:cz P ⟨d,.makeSlice t l c,ty,pos,af,g⟩ e s K=(eV P t (ev e l) (ev e c) s K):=(rfl)
theorem qG {t:TypeId}{x:Operand}{lo hi mx:Option Operand}:cz P ⟨d,.slice t x lo hi mx,ty,pos,af,g⟩ e s K=(jw P t (ev e x) (lo.map (ev e)) (hi.map (ev e)) (mx.map (ev e)) s (zC K s)):=(rfl)
theorem ki {t:TypeId}{x:Operand}{f:Nat}:cz P ⟨d,.fieldAddr t x f,ty,pos,af,g⟩ e s K=(dN P t s (ev e x) f (zC K s)):=(rfl)
theorem qF {t:TypeId}{x:Operand}{f:Nat}:cz P ⟨d,.field t x f,ty,pos,af,g⟩ e s K=(kz P t (ev e x) f (zC K s)):=(rfl)
theorem ku {t:TypeId}{x i:Operand}:cz P ⟨d,.indexAddr t x i,ty,pos,af,g⟩ e s K=(c7 P t s (ev e x) (ev e i) (zC K s)):=(rfl)
theorem mO {t:TypeId}{r:Option Operand}:cz P ⟨d,.makeMap t r,ty,pos,af,g⟩ e s K=(lK P t r s K):=(rfl)
theorem oc {t:TypeId}{x i:Operand}:cz P ⟨d,.lookup t x i false,ty,pos,af,g⟩ e s K=(gN P t s (ev e x) (ev e i) (zC K s)):=(rfl)
theorem kk {t:TypeId}{m k x:Operand}:cz P ⟨d,.mapUpdate t m k x,ty,pos,af,g⟩ e s K=(si P t s (ev e m) (ev e k) (ev e x) (S3 K)):=(rfl)
theorem ox {t:TypeId}{m k x:Operand}:cz P ⟨d,.insert t m k x,ty,pos,af,g⟩ e s K=(si P t s (ev e m) (ev e k) (ev e x) (S3 K)):=(rfl)
theorem qT {t:TypeId}{x i:Operand}:cz P ⟨d,.index t x i,ty,pos,af,g⟩ e s K=(iL P t (ev e x) (ev e i) (zC K s)):=(rfl)
theorem mZ {x:Operand}{i:Nat}:cz P ⟨d,.extract x i,ty,pos,af,g⟩ e s K=(uj (ev e x) i (zC K s)):=(rfl)
theorem tX {f:FuncId}{args:Array Operand}{Cz:Array TypeId}:cz P ⟨d,.call ⟨.value (.func f),args,Cz⟩,ty,pos,af,g⟩ e s K=(aq P f (args.toList.map (ev e)) s K):=(rfl)
theorem qV {f:Nat}{args:Array Operand}{Cz:Array TypeId}:cz P ⟨d,.call ⟨.value (.tmp f),args,Cz⟩,ty,pos,af,g⟩ e s K=(EY P (e 0) (e f) (args.toList.map (ev e)) s K):=(rfl)
theorem xG {x:Operand}{t:TypeId}:cz P ⟨d,.call ⟨.builtin .len,#[x],#[t]⟩,ty,pos,af,g⟩ e s K=(jG P t (ev e x) s (zC K s)):=(rfl)
theorem oN {a x:Operand}{t t':TypeId}:cz P ⟨d,.call ⟨.builtin .append,#[a,x],#[t,t']⟩,ty,pos,af,g⟩ e s K=(if t=t' then cP P t (ev e a) (ev e x) s K else jd P t t' (ev e a) (ev e x) s K):=(rfl)
theorem tP {a x:Operand}{t t':TypeId}:cz P ⟨d,.call ⟨.builtin .copy,#[a,x],#[t,t']⟩,ty,pos,af,g⟩ e s K=(t=t'/\vf P t (ev e a) (ev e x) s K):=(rfl)
theorem qQ {x:Operand}{t:TypeId}:cz P ⟨d,.call ⟨.builtin .clear,#[x],#[t]⟩,ty,pos,af,g⟩ e s K=(mD P t (ev e x) s K):=(rfl)
theorem xQ {x y:Operand}{Cz:Array TypeId}:cz P ⟨d,.call ⟨.builtin .min,#[x,y],Cz⟩,ty,pos,af,g⟩ e s K=(ed true (ev e x) [ev e y] (zC K s)):=(rfl)
theorem xA {x y:Operand}{Cz:Array TypeId}:cz P ⟨d,.call ⟨.builtin .max,#[x,y],Cz⟩,ty,pos,af,g⟩ e s K=(ed false (ev e x) [ev e y] (zC K s)):=(rfl)
end
theorem qM {cs:List V}:du (.ag cs)=some cs:=(rfl)
theorem uf {x:D}:du (.d x)=some [.d x]:=(rfl)
theorem qS {au:List (List D)}:du (.fu au)=some [.fu au]:=(rfl)
theorem rb {id g lo n:Nat}:du (.so id g lo n)=some [.so id g lo n]:=(rfl)
theorem qC {id g i off:Nat}:du (.rf id g i off)=some [.rf id g i off]:=(rfl)
theorem rA {fn:Fn}{a b:List V}:du (.cl fn a b)=some [.cl fn a b]:=(rfl)
theorem H5 {P:Program}{f:FuncId} (k:Nat) {cargs args:List V}{s:List Obj}{o o':Obj}{r r':V}{K:V->List Obj->Prop} (h:aq P f cargs [o] fun v s'=>v=r/\s'=[o']) (ha:args=cargs.map (aJ [k])) (z8:ah.go 1 cargs=true)
  (hoo:aQ 1 o=true) (ho:s[k]?=some (aP [k] o)) (hr:aJ [k] r=r') (hk:K r' (s.set k (aP [k] o'))):aq P f args s K:=by
 refine sJ h [k] rfl (by simp) (fun j ob hj=>?_) ha z8 (by simp [hoo]) fun v s' hv=>?_
 ·cases j with
  |zero=>simp at hj;subst hj;simpa using ho
  |succ j=>simp at hj
 ·obtain⟨rfl,rfl⟩:=hv
  refine⟨rfl,?_⟩
  rw[hr]
  simpa [aH]using hk
def mJ (aR:List Nat) (e:Env):Env:=fun t=>if aR.contains t then e t else .any
theorem Av {aR:List Nat}{e:Env}{t:Nat}:mJ aR e t=if aR.contains t then e t else .any:=(rfl)
theorem bI.cut {L:Nat}{e:Env}{s s':List Obj} (lim:Nat) (hL:L<=lim) (hs:s.take lim=s') (ho:s'.all (aQ lim)=true) (aR:List Nat) (hk:aR.all (fun t=>ah lim (e t))=true):bI L e s (mJ aR e) s':=by
 subst hs
 intro σ0 s0 w0 σ w N a pk hE hI hR
 refine⟨σ,hE.take (by omega),hI.take ho,hR.1,hR.2.1,fun t=>?_⟩
 unfold mJ
 split
 ·rename_i ht
  rw[List.all_eq_true]at hk
  exact(hR.2.2 t).take (hk t (by simpa using ht))
 ·exact .any
theorem xS {lim g z:Nat}{lv:Bool}{l:List (List D)}:aQ lim ⟨g,lv,z,l.map fun c=>c.map V.d⟩=true:=by
 simp [aQ,ah]
theorem TY:type_of% (
 And.intro @mM <|
 And.intro @kr <|
 And.intro @mK <|
 And.intro @oT <|
 And.intro @nW <|
 And.intro @lj <|
 And.intro @mN <|
 And.intro @n8 <|
 And.intro @qD <|
 And.intro @qZ <|
 And.intro @qz <|
 And.intro @BI <|
 And.intro @B6 <|
 And.intro @By <|
 And.intro @BG <|
 And.intro @mr <|
 And.intro @rk <|
 And.intro @qB <|
 And.intro @rF <|
 And.intro @qL <|
 And.intro @rE <|
 And.intro @v7 <|
 And.intro @ve <|
 And.intro @sW <|
 And.intro @sN <|
 And.intro @oG <|
 And.intro @mw <|
 And.intro @vo <|
 And.intro @ry <|
 And.intro @oP <|
 And.intro @mH <|
 And.intro @A5 <|
 And.intro @qK <|
 And.intro @xL <|
 And.intro @xJ <|
 And.intro @tR <|
 And.intro @uG <|
 And.intro @Ca <|
 And.intro @mz <|
 And.intro @tF <|
 And.intro @rh <|
 And.intro @mP <|
 And.intro @uJ <|
 And.intro @qU <|
 And.intro @tY <|
 And.intro @qE <|
 And.intro @mF <|
 And.intro @nU <|
 And.intro @tA <|
 And.intro @ou <|
 And.intro @iK <|
 And.intro @rp <|
 And.intro @lr <|
 And.intro @m6 <|
 And.intro @ju <|
 And.intro @oK <|
 And.intro @uM <|
 And.intro @uN <|
 And.intro @qt <|
 And.intro @lG <|
 And.intro @kx <|
 And.intro @jt <|
 And.intro @oL <|
 And.intro @jq <|
 And.intro @n6 <|
 And.intro @jF <|
 And.intro @oo <|
 And.intro @lI <|
 And.intro @qH <|
 And.intro @qW <|
 And.intro @qs <|
 And.intro @rC <|
 And.intro @qJ <|
 And.intro @uz <|
 And.intro @oF <|
 And.intro @uO <|
 And.intro @qv <|
 And.intro @xP <|
 And.intro @qA <|
 And.intro @jI <|
 And.intro @tM <|
 And.intro @mO <|
 And.intro @oc <|
 And.intro @kk <|
 And.intro @ox <|
 And.intro @qP <|
 And.intro @xF <|
 And.intro @uv <|
 And.intro @tZ <|
 And.intro @tW <|
 And.intro @tH <|
 And.intro @tS <|
 And.intro @ug <|
 And.intro @tO <|
 And.intro @mR <|
 And.intro @lk <|
 And.intro @kj <|
 And.intro @qG <|
 And.intro @ki <|
 And.intro @qF <|
 And.intro @ku <|
 And.intro @qT <|
 And.intro @mZ <|
 And.intro @tX <|
 And.intro @qV <|
 And.intro @xG <|
 And.intro @oN <|
 And.intro @tP <|
 And.intro @qQ <|
 And.intro @xQ <|
 And.intro @xA <|
 And.intro @tL <|
 And.intro @lN <|
 And.intro @ka <|
 And.intro @aL <|
 And.intro @qM <|
 And.intro @uf <|
 And.intro @qS <|
 And.intro @rb <|
 And.intro @qC <|
 And.intro @rA <|
 And.intro @true_and <|
 And.intro @and_true <|
 And.intro @true_or <|
 And.intro @or_true <|
 And.intro @Bool.not_true <|
 And.intro @Bool.not_false <|
 And.intro @false_or <|
 And.intro @or_false <|
 And.intro @decide_eq_true_eq <|
 And.intro @true_imp_iff <|
 And.intro @false_imp_iff <|
 And.intro @not_true_eq_false <|
 And.intro @not_false_eq_true <|
 And.intro @decide_eq_false_iff_not <|
 And.intro @Bool.and_self <|
 And.intro @Bool.or_false <|
 And.intro @Bool.false_or <|
 And.intro @Bool.or_true <|
 And.intro @Bool.true_or <|
 And.intro @Bool.and_true <|
 And.intro @Bool.true_and <|
 And.intro @Int.toNat_natCast <|
 And.intro @Int.ofNat_lt <|
 And.intro @Int.natCast_nonneg <|
 And.intro @decide_true <|
 And.intro @decide_false <|
 And.intro @V.d.injEq <|
 And.intro @D.sc.injEq <|
 And.intro @Go.Value.int.injEq <|
 @Go.Value.bool.injEq) :=
 And.intro @mM <|
 And.intro @kr <|
 And.intro @mK <|
 And.intro @oT <|
 And.intro @nW <|
 And.intro @lj <|
 And.intro @mN <|
 And.intro @n8 <|
 And.intro @qD <|
 And.intro @qZ <|
 And.intro @qz <|
 And.intro @BI <|
 And.intro @B6 <|
 And.intro @By <|
 And.intro @BG <|
 And.intro @mr <|
 And.intro @rk <|
 And.intro @qB <|
 And.intro @rF <|
 And.intro @qL <|
 And.intro @rE <|
 And.intro @v7 <|
 And.intro @ve <|
 And.intro @sW <|
 And.intro @sN <|
 And.intro @oG <|
 And.intro @mw <|
 And.intro @vo <|
 And.intro @ry <|
 And.intro @oP <|
 And.intro @mH <|
 And.intro @A5 <|
 And.intro @qK <|
 And.intro @xL <|
 And.intro @xJ <|
 And.intro @tR <|
 And.intro @uG <|
 And.intro @Ca <|
 And.intro @mz <|
 And.intro @tF <|
 And.intro @rh <|
 And.intro @mP <|
 And.intro @uJ <|
 And.intro @qU <|
 And.intro @tY <|
 And.intro @qE <|
 And.intro @mF <|
 And.intro @nU <|
 And.intro @tA <|
 And.intro @ou <|
 And.intro @iK <|
 And.intro @rp <|
 And.intro @lr <|
 And.intro @m6 <|
 And.intro @ju <|
 And.intro @oK <|
 And.intro @uM <|
 And.intro @uN <|
 And.intro @qt <|
 And.intro @lG <|
 And.intro @kx <|
 And.intro @jt <|
 And.intro @oL <|
 And.intro @jq <|
 And.intro @n6 <|
 And.intro @jF <|
 And.intro @oo <|
 And.intro @lI <|
 And.intro @qH <|
 And.intro @qW <|
 And.intro @qs <|
 And.intro @rC <|
 And.intro @qJ <|
 And.intro @uz <|
 And.intro @oF <|
 And.intro @uO <|
 And.intro @qv <|
 And.intro @xP <|
 And.intro @qA <|
 And.intro @jI <|
 And.intro @tM <|
 And.intro @mO <|
 And.intro @oc <|
 And.intro @kk <|
 And.intro @ox <|
 And.intro @qP <|
 And.intro @xF <|
 And.intro @uv <|
 And.intro @tZ <|
 And.intro @tW <|
 And.intro @tH <|
 And.intro @tS <|
 And.intro @ug <|
 And.intro @tO <|
 And.intro @mR <|
 And.intro @lk <|
 And.intro @kj <|
 And.intro @qG <|
 And.intro @ki <|
 And.intro @qF <|
 And.intro @ku <|
 And.intro @qT <|
 And.intro @mZ <|
 And.intro @tX <|
 And.intro @qV <|
 And.intro @xG <|
 And.intro @oN <|
 And.intro @tP <|
 And.intro @qQ <|
 And.intro @xQ <|
 And.intro @xA <|
 And.intro @tL <|
 And.intro @lN <|
 And.intro @ka <|
 And.intro @aL <|
 And.intro @qM <|
 And.intro @uf <|
 And.intro @qS <|
 And.intro @rb <|
 And.intro @qC <|
 And.intro @rA <|
 And.intro @true_and <|
 And.intro @and_true <|
 And.intro @true_or <|
 And.intro @or_true <|
 And.intro @Bool.not_true <|
 And.intro @Bool.not_false <|
 And.intro @false_or <|
 And.intro @or_false <|
 And.intro @decide_eq_true_eq <|
 And.intro @true_imp_iff <|
 And.intro @false_imp_iff <|
 And.intro @not_true_eq_false <|
 And.intro @not_false_eq_true <|
 And.intro @decide_eq_false_iff_not <|
 And.intro @Bool.and_self <|
 And.intro @Bool.or_false <|
 And.intro @Bool.false_or <|
 And.intro @Bool.or_true <|
 And.intro @Bool.true_or <|
 And.intro @Bool.and_true <|
 And.intro @Bool.true_and <|
 And.intro @Int.toNat_natCast <|
 And.intro @Int.ofNat_lt <|
 And.intro @Int.natCast_nonneg <|
 And.intro @decide_true <|
 And.intro @decide_false <|
 And.intro @V.d.injEq <|
 And.intro @D.sc.injEq <|
 And.intro @Go.Value.int.injEq <|
 @Go.Value.bool.injEq
end Go.VL
