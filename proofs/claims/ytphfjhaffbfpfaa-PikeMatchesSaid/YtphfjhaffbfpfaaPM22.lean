/- A part of the proof (K21 K22 K23 K24 K25 K26). -/
import Derived.Test.YtphfjhaffbfpfaaPM16
import Derived.Test.YtphfjhaffbfpfaaPM20
import Derived.Test.YtphfjhaffbfpfaaPM21
set_option linter.all false
set_option maxRecDepth 100000
set_option maxHeartbeats 80000000
namespace Go.Proofs.Ytphfjhaffbfpfaa
open Go.VL Go.Proofs.Try
def mu (g:cJ):Nat:=g.ins.length+1
def fY (g:cJ):zA:=⟨List.replicate g.ins.length false,[]⟩
structure xw where
 at_:Int
 st:zA
def zx (g:cJ) (t:List Int) (at_:Int):xw:=⟨at_,iE g t at_ (mu g) 0 (List.replicate (2*g.ah).toNat (-1)) (fY g)⟩
theorem CC (n:Nat):free (List.replicate n false)=n:=by
 induction n with
 |zero=>rfl
 |succ n ih=>unfold free at *;rw[List.replicate_succ,List.countP_cons];simp;omega
theorem Kx (l:List Bool):free l<=l.length:=List.countP_le_length
def jf (g:cJ):VL.Obj:=⟨0,true,3,[[.d (.sl (g.ins.map bR.cells)),i64 g.ah,bV g.aK]]⟩
structure rv.ok (g:cJ) (x:rv):Prop where
 p0:0<=x.pc
 p1:x.pc<g.ins.length
 aE:x.aE.length=(2*g.ah).toNat
 op:(bk g x.pc).op=0\/(bk g x.pc).op=1
theorem mW (g:cJ) (hg:g.bW) (t:List Int) (at_:Int):∀(k:Nat) (pc:Int) (aE:List Int) (st:zA),0<=pc->pc<g.ins.length->aE.length=(2*g.ah).toNat->(∀x∈st.jg,x.ok g)->∀x∈(iE g t at_ k pc aE st).jg,x.ok g
 |0,_,_,st,_,_,_,h=>by simpa [iE]using h
 |k+1,pc,aE,st,h0,h1,hr,h=>by
  have hx:=fE h0 h1;have hs:=hg.split pc.toNat _ hx;have hj:=hg.jump pc.toNat _ hx;have hn:=hg.next pc.toNat _ hx;have ho:=hg.ops _ (adw hx);rw[iE];split
  ·exact h
  simp only;split
  ·rename_i o2;have:=hs o2;exact mW g hg t at_ k _ _ _ (by omega) (by omega) hr (mW g hg t at_ k _ _ _ (by omega) (by omega) hr h)
  split
  ·rename_i o3;have:=hj o3;exact mW g hg t at_ k _ _ _ (by omega) (by omega) hr h
  split
  ·rename_i o4;have:=hn (.inr (by omega));exact mW g hg t at_ k _ _ _ (by omega) (by omega) (by simpa using hr) h
  split
  ·rename_i o5;have:=hn (.inr (by omega));split
   ·exact mW g hg t at_ k _ _ _ (by omega) (by omega) hr h
   ·exact h
  ·intro x hx;rcases List.mem_append.1 hx with hx|hx
   ·exact h x hx
   ·rw[List.mem_singleton.1 hx];exact⟨h0,h1,hr,by show (bk g pc).op=0\/(bk g pc).op=1;omega⟩
def ef (g:cJ):List rv->List rv×Bool
 |[]=>([],false)
 |x::l=>if (bk g x.pc).op=0 then ([x],true) else (x::(ef g l).1,(ef g l).2)
def hasB (l:List (Int×Int)) (x:Int):Bool:=l.any λs=>decide (s.1<=x/\x<=s.2)
def ly (g:cJ) (t:List Int) (at_:Int) (st:zA) (x:rv):zA :=
 if (bk g x.pc).op=1/\hasB (bk g x.pc).set (gQ t at_)=true then iE g t (at_+1) (mu g) (x.pc+1) x.aE st else st
def Cl (g:cJ) (t:List Int) (at_:Int) (l:List rv):zA:=l.foldl (ly g t at_) (fY g)
def J0 (g:cJ) (t:List Int) (l:xw):xw:=⟨l.at_+1,Cl g t l.at_ (ef g l.st.jg).1⟩
theorem BF (g:cJ) (hg:g.bW) (t:List Int) (at_:Int):∀(l:List rv) (st:zA),(∀x∈l,x.ok g)->st.added.length=g.ins.length->st.jg.length+free st.added<=g.ins.length->(∀x∈st.jg,x.ok g) ->
  (l.foldl (ly g t at_) st).added.length=g.ins.length/\(l.foldl (ly g t at_) st).jg.length+free (l.foldl (ly g t at_) st).added<=g.ins.length/\∀x∈(l.foldl (ly g t at_) st).jg,x.ok g
 |[],st,_,h1,h2,h3=>⟨h1,h2,h3⟩
 |x::l,st,hl,h1,h2,h3=>by
  rw[List.foldl_cons];have hx:=hl x (by simp);have rb:=fE hx.p0 hx.p1;refine BF g hg t at_ l _ (λy hy=>hl y (by simp [hy])) ?_ ?_ ?_;all_goals
   unfold ly;split
   ·rename_i hc;have hn:=hg.next x.pc.toNat _ rb (.inl hc.1);have Cj:=hx.p0;have hb:=jj g t (at_+1) (mu g) (x.pc+1) x.aE st;first
     |omega
     |exact mW g hg t (at_+1) (mu g) (x.pc+1) x.aE st (by omega) (by omega) hx.aE h3
   ·first|exact h1|exact h2|exact h3
theorem PJ (g:cJ) (hg:g.bW) (t:List Int) (at_:Int) (l:List rv) (hl:∀x∈l,x.ok g):(Cl g t at_ l).added.length=g.ins.length/\(Cl g t at_ l).jg.length+free (Cl g t at_ l).added<=g.ins.length/\∀x∈(Cl g t at_ l).jg,x.ok g :=
 BF g hg t at_ l _ hl (by simp [fY]) (by simp only[fY];rw[CC];simp) (λx hx=>by simp [fY]at hx)
def tU (aE:List Int) (j:Nat):Int×Int :=
 if aE.getD (2*j) 0=-1\/aE.getD (2*j+1) 0=-1 then (-1,-1) else (aE.getD (2*j) 0,aE.getD (2*j+1) 0)
def mL (c:Nat) (aE:List Int):aC:=(List.range c).map (tU aE)
theorem uU {l:List Int}{i:Nat} (h:i<l.length):l[i]?=some (l.getD i 0):=by rw[List.getD,adn h];rfl
theorem CE {g:cJ} (h:gV g=0):g.bW:=by
 unfold gV at h;by_cases c1:8192<g.ins.length
 ·rw[ap c1]at h;omega
 rw[am c1]at h;by_cases c2:g.ins.length=0\/g.ah<0\/9<g.ah
 ·rw[ap c2]at h;omega
 rw[am c2]at h;have c3:g.ins.all (iw g.ins.length g.ah g.aK)=true:=by
  cases hc:g.ins.all (iw g.ins.length g.ah g.aK) with
  |true=>rfl
  |false=>rw[am (by rw[hc];simp)]at h;omega
 rw[ap c3]at h;by_cases c4:pK g=1\/4<=pK g
 ·rw[ap c4]at h;omega
 rw[adE]at c3;have xV:∀x∈g.ins,dk x=true/\mV g.ins.length g.ah g.aK x=true:=λx hx=>by have:=c3 x hx;unfold iw at this;rwa [adD]at this
 have Yw:∀x∈g.ins,0<=x.op/\x.op<=5:=λx hx=>by
  have:=(xV x hx).2;unfold mV at this;by_cases o0:x.op=0
  ·omega
  by_cases o1:x.op=1
  ·omega
  by_cases o2:x.op=2
  ·omega
  by_cases o3:x.op=3
  ·omega
  by_cases o4:x.op=4
  ·omega
  by_cases o5:x.op=5
  ·omega
  rw[am o0,am o1,am o2,am o3,am o4,am o5]at this;cases this
 refine⟨by omega,by omega,by omega,by omega,λx hx=>?_,λi x hx o=>?_,λi x hx o=>?_,λi x hx o=>?_,λi x hx o=>?_,λi x hx o=>?_,Yw⟩
 ·obtain⟨hu,ho⟩:=xV x hx;by_cases o1:x.op=1
  ·unfold mV at ho;rw[am (by omega),ap o1,adD]at ho;have:=of_decide_eq_true ho.1;unfold wN at this;split at this
   ·split at this
    ·omega
    ·omega
   ·omega
  ·have:=(of_decide_eq_true hu).1 o1;omega
 ·have ho:=(xV x (adw hx)).2;unfold mV qK at ho;rw[am (by omega),am (by omega),ap o,adD,adC,adC]at ho;omega
 ·have ho:=(xV x (adw hx)).2;unfold mV qK at ho;rw[am (by omega),am (by omega),am (by omega),ap o,adC]at ho;omega
 ·have ho:=(xV x (adw hx)).2;unfold mV at ho;rw[am (by omega),am (by omega),am (by omega),am (by omega),ap o,adC]at ho;exact ho
 ·have ho:=(xV x (adw hx)).2;unfold mV at ho;rw[am (by omega),am (by omega),am (by omega),am (by omega),am (by omega),ap o,adC]at ho;exact ho
 ·have aH:=(List.getElem?_eq_some_iff.1 hx).1;rcases adV (i+1) g.ins.length with h'|h'
  ·exact h'
  ·exfalso;have hi:g.ins.length-1=i:=by omega
   apply c4;unfold pK;rw[hi,hx];exact o
def Bb (g:cJ) (t:List Int) (at_:Int):Int:=if gV g≠0 then gV g else if 65536<t.length then 4 else if at_<0\/(t.length:Int)<at_ then 5 else 0
def mQ (l:List rv):List Int:=match l[l.length-1]? with|none=>[]|some x=>x.aE
def G2 (g:cJ) (start:Int) (l:xw) (b:Option ra):Option ra :=
 if (ef g l.st.jg).2=true then some ⟨start,l.at_,mL g.ah.toNat (mQ (ef g l.st.jg).1)⟩ else b
def LJ (g:cJ) (t:List Int) (start:Int):Nat->xw->Option ra->Option ra
 |0,_,b=>b
 |k+1,l,b=>if (ef g l.st.jg).1=[]\/(t.length:Int)<=l.at_ then G2 g start l b else LJ g t start k (J0 g t l) (G2 g start l b)
def Dz (g:cJ) (t:List Int) (at_:Int):Option ra:=LJ g t at_ (t.length+1) (zx g t at_) none
def Et (b:Option ra):ra:=b.getD ⟨0,0,[]⟩
theorem NS (g:cJ) (hg:g.bW) (t:List Int) (at_:Int):(∀x∈(zx g t at_).st.jg,x.ok g)/\(zx g t at_).st.jg.length<=1000000:=by have ek:=hg.IQ;have oV:=hg.CI;have h:=jj g t at_ (mu g) 0 (List.replicate (2*g.ah).toNat (-1)) (fY g);have e:free (fY g).added=g.ins.length:=CC _;have e2:(fY g).jg.length=0:=rfl;refine⟨mW g hg t at_ _ _ _ _ (ady _) (by omega) (by simp) (λx hx=>by simp [fY]at hx),?_⟩;show (iE g t at_ (mu g) 0 (List.replicate (2*g.ah).toNat (-1)) (fY g)).jg.length<=_;omega
def wk (g:cJ) (t:List Int) (at_:Int):Option ra×Int:=if Bb g t at_=0 then (Dz g t at_,0) else (none,Bb g t at_)
end Go.Proofs.Ytphfjhaffbfpfaa
