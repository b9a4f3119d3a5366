/- A part of the proof (F6 F7 F8 F9 F10). -/
import Derived.Test.YtphfjhaffbfpfaaPM3
set_option linter.all false
set_option maxRecDepth 100000
set_option maxHeartbeats 80000000
namespace Go.Proofs.Ytphfjhaffbfpfaa
open Go.VL Go.Proofs.Try
variable{b:Int}{m:Mk}{c:Int}{z:Int}
def Mk.has (m:Mk) (u:Int):Bool:=decide (0<fk .and .i64 m.cu u)
def Re.node (op:Int) (kids:List Re):Re:=.mk op [] kids 0 0 0 0 false
def aT (t:Mk->Re×Mk):Nat->Int->Mk->List Re×Mk
 |0,_,m=>([],m)
 |f+1,i,m =>
  if i<2+(m.next 2).1 then
   (((t (m.next 2).2).1)::(aT t f (i+1) (t (m.next 2).2).2).1,(aT t f (i+1) (t (m.next 2).2).2).2)
  else ([],(m.next 2).2)
def iG:List Int:=[0,0,0,0,1,1,1,0,2,0,1,2]
def gi:List Int:=[-1,-1,-1,1,-1,-1,2,2,2,3,1,-1]
def eE (m:Mk):Int×Mk :=
 let x:=m.next 2
 if m.has 8 then (if (x.2.next 4).1=0 then 2 else x.1,(x.2.next 4).2) else x
def iv (t:Mk->Re×Mk) (m:Mk):Re×Mk :=
 let x:=t m
 if fk .and .i64 x.2.cu 32=0/\x.1.pg=true then x.2.set else x
def Mk.rep (t:Mk->Re×Mk) (m:Mk):Re×Mk :=
 let k:=m.next 12;let md:=eE k.2;let aL:=iv t md.2
 (.mk 4 [] [aL.1] ((iG[k.1.toNat]?).getD 0) ((gi[k.1.toNat]?).getD 0) md.1 0 false,aL.2)
def ej (m:Mk):Int×Mk :=
 let again (m:Mk):Int×Mk:=(1+(m.next (max 1 m.ah)).1,(m.next (max 1 m.ah)).2)
 if 4<m.ah+1 then again m
 else if 0<m.ah then (if (m.next 9).1=0 then again (m.next 9).2 else (m.ah+1,(m.next 9).2))
 else (m.ah+1,m)
def Mk.jP (m:Mk) (c:Int):Mk:=⟨m.l,m.pos,m.cu,m.left,c⟩
def Mk.less (m:Mk):Mk:=⟨m.l,m.pos,m.cu,m.left-1,m.ah⟩
def Mk.gL (t:Mk->Re×Mk) (m:Mk):Re×Mk :=
 let c:=ej m;let r:=t (c.2.jP (max c.2.ah c.1))
 (.mk 5 [] [r.1] 0 0 0 c.1 false,r.2)
def Mk.node (t:Mk->Re×Mk) (k:Int) (m:Mk):Re×Mk :=
 if k<5 then (Re.node 2 (aT t 4 0 m).1,(aT t 4 0 m).2)
 else if k<8 then (Re.node 3 (aT t 4 0 m).1,(aT t 4 0 m).2)
 else if k<12 then m.rep t
 else if k=12/\m.has 64=true then m.gL t
 else if k=13/\m.has 64=true then m.gL t
 else if k=14/\m.has 16=true then (.mk 11 [] [] 0 0 0 (m.next 6).1 false,(m.next 6).2)
 else if k=15/\m.has 4=true then
  let y:=(m.next 3).2.next 2
  (.mk (7+y.1) [] [(t y.2).1] 0 0 0 0 (decide ((m.next 3).1=0)),(t y.2).2)
 else if k=16/\m.has 8=true then (Re.node 9 [(t m).1],(t m).2)
 else if k=17/\m.has 1=true/\0<m.ah then (.mk 6 [] [] 0 0 0 (1+(m.next m.ah).1) false,(m.next m.ah).2)
 else if k=18/\m.has 2=true/\0<m.ah then
  let x:=m.next m.ah;let y:=t x.2;let z:=t y.2
  (.mk 10 [] [y.1,z.1] 0 0 0 (1+x.1) false,z.2)
 else m.set
def Mk.tree:Nat->Mk->Re×Mk
 |0,m =>
  let x:=m.less.next 20
  if x.1=0 then (Re.node 0 [],x.2) else x.2.set
 |d+1,m =>
  let x:=m.less.next 20
  if x.2.left<3\/(x.2.l.length:Int)<x.2.pos then (if x.1=0 then (Re.node 0 [],x.2) else x.2.set)
  else x.2.node (Mk.tree d) x.1
structure Mk.In (m:Mk) (b:Int):Prop where
 l:∀x∈m.l,kg x
 p0:0<=m.pos
 p1:m.pos<=b
 l0:-b<=m.left
 l1:m.left<=1000000
 c0:0<=m.ah
 c1:m.ah<=4
theorem Mk.In.mono{b':Int} (h:m.In b) (hb:b<=b'):m.In b' :=
 ⟨h.l,h.p0,by have:=h.p1;omega,by have:=h.l0;omega,h.l1,h.c0,h.c1⟩
theorem Mk.In.next (h:m.In b) (n:Int):(m.next n).2.In (b+1) :=
 ⟨h.l,by have:=h.p0;simp only[Mk.next];omega,by have:=h.p1;simp only[Mk.next];omega,by have:=h.l0;simp only[Mk.next];omega,h.l1,h.c0,h.c1⟩
theorem Mk.In.set (h:m.In b):m.set.2.In (b+1):=h.next 15
def Good (t:Mk->Re×Mk) (c z:Int):Prop:=∀m b,0<=b->Mk.In m b->(t m).2.In (b+c)/\((t m).1.size:Int)<=z
theorem ql (s:List (Int×Int)):(Re.PN s).size=1:=rfl
theorem tA {t:Mk->Re×Mk}{c z:Int} (hc:0<=c) (ht:Good t c z):∀(f:Nat) (i:Int) (m:Mk) (b:Int),0<=b->m.In b ->
  (aT t f i m).2.In (b+f*(c+1))/\(Re.dT (aT t f i m).1:Int)<=((aT t f i m).1.length:Int)*z/\(aT t f i m).1.length<=f
 |0,i,m,b,_,h=>by simp only[aT];exact⟨by simpa using h,by simp [Re.dT],by simp⟩
 |f+1,i,m,b,hb,h=>by
  simp only[aT];have hf:(0:Int)<=f*(c+1):=Int.mul_nonneg (by omega) (by omega);have e:((f+1:Nat):Int)*(c+1)=f*(c+1)+c+1:=by rw[aef,Int.add_mul];simp;omega
  split
  ·have h1:=h.next 2;obtain⟨h2,h3⟩:=ht _ (b+1) (by omega) h1;obtain⟨h4,h5,h6⟩:=tA hc ht f (i+1) _ (b+1+c) (by omega) h2;refine⟨h4.mono (by omega),?_,by simpa using h6⟩;simp only[Re.dT,adA,aef,Int.add_mul];omega
  ·exact⟨(h.next 2).mono (by omega),by simp [Re.dT],by simp⟩
theorem AK (h:m.In b):(eE m).2.In (b+2):=by
 unfold eE;simp only;split
 ·have:=(h.next 2).next 4;rwa [show b+1+1=b+2 by omega]at this
 ·exact(h.next 2).mono (by omega)
theorem Hw {t:Mk->Re×Mk} (hc:0<=c) (hz:1<=z) (ht:Good t c z):Good (iv t) (c+1) z:=by
 intro m b hb h;obtain⟨h1,h2⟩:=ht m b hb h;unfold iv;simp only;split
 ·exact⟨by have:=h1.set;rwa [Int.add_assoc]at this,by simp only[Mk.set];rw[ql];omega⟩
 ·exact⟨h1.mono (by omega),h2⟩
theorem qR (op mn mx mode n:Int) (neg:Bool) (k:Re):((Re.mk op [] [k] mn mx mode n neg).size:Int)=1+k.size:=by simp [Re.size,Re.dT]
theorem O5 {t:Mk->Re×Mk} (hc:0<=c) (hz:1<=z) (ht:Good t c z):Good (Mk.rep t) (c+4) (z+1):=by intro m b hb h;have h1:=AK (h.next 12);obtain⟨h2,h3⟩:=Hw hc hz ht _ _ (by omega) h1;simp only[Mk.rep];exact⟨h2.mono (by omega),by rw[qR];omega⟩
theorem wE (h:m.In b):(ej m).2.In (b+2)/\(ej m).2.ah=m.ah/\1<=(ej m).1/\(ej m).1<=4:=by
 have h0:=h.c0;have h1:=h.c1;have again:∀(m':Mk),m'.ah=m.ah->0<m.ah->0<=pick m'.l m'.pos (max 1 m'.ah)/\pick m'.l m'.pos (max 1 m'.ah)<m.ah:=by intro m' he hp;have:=ct m'.l m'.pos (max 1 m'.ah) (by omega);rw[he]at this ⊢;omega
 unfold ej;simp only;split
 ·have:=again m rfl (by omega);exact⟨(h.next (max 1 m.ah)).mono (by omega),rfl,by simp only[Mk.next];omega,by simp only[Mk.next];omega⟩
 ·split
  ·split
   ·have:=again (m.next 9).2 rfl (by omega);refine⟨?_,rfl,by simp only[Mk.next]at this ⊢;omega,by simp only[Mk.next]at this ⊢;omega⟩;have h2:=(h.next 9).next (max 1 (m.next 9).2.ah);rwa [show b+1+1=b+2 by omega]at h2
   ·exact⟨(h.next 9).mono (by omega),rfl,by omega,by omega⟩
  ·exact⟨h.mono (by omega),rfl,by omega,by omega⟩
theorem vM {t:Mk->Re×Mk} (hc:0<=c) (ht:Good t c z):Good (Mk.gL t) (c+2) (z+1):=by intro m b hb h;obtain⟨h1,h2,h3,h4⟩:=wE h;simp only[Mk.gL];obtain⟨h5,h6⟩:=ht ((ej m).2.jP (max (ej m).2.ah (ej m).1)) (b+2) (by omega) ⟨h1.l,h1.p0,h1.p1,h1.l0,h1.l1,by show 0<=max _ _;omega,by have:=h.c1;show max _ _<=4;omega⟩;exact⟨h5.mono (by omega),by rw[qR];omega⟩
theorem Lg {t:Mk->Re×Mk} (hc:0<=c) (hz:1<=z) (ht:Good t c z) (k:Int):Good (Mk.node t k) (4*(c+1)) (4*z+1):=by
 intro m b hb h;obtain⟨a1,a2,a3⟩:=tA hc ht 4 0 m b hb h;have a2':(Re.dT (aT t 4 0 m).1:Int)<=4*z:=by have:((aT t 4 0 m).1.length:Int)*z<=4*z:=aec (by omega) (by omega);omega
 have a1':(aT t 4 0 m).2.In (b+4*(c+1)):=a1;have sz:∀op,((Re.node op (aT t 4 0 m).1).size:Int)<=4*z+1:=by intro op;simp only[Re.node,Re.size];omega
 unfold Mk.node;split
 ·exact⟨a1',sz _⟩
 split
 ·exact⟨a1',sz _⟩
 split
 ·obtain⟨h1,h2⟩:=O5 hc hz ht m b hb h;exact⟨h1.mono (by omega),by omega⟩
 split
 ·obtain⟨h1,h2⟩:=vM hc ht m b hb h;exact⟨h1.mono (by omega),by omega⟩
 split
 ·obtain⟨h1,h2⟩:=vM hc ht m b hb h;exact⟨h1.mono (by omega),by omega⟩
 split
 ·exact⟨(h.next 6).mono (by omega),by simp [Re.size,Re.dT];omega⟩
 split
 ·simp only;obtain⟨h1,h2⟩:=ht _ (b+1+1) (by omega) ((h.next 3).next 2);exact⟨h1.mono (by omega),by rw[qR];omega⟩
 split
 ·obtain⟨h1,h2⟩:=ht m b hb h;exact⟨h1.mono (by omega),by simp only[Re.node];rw[qR];omega⟩
 split
 ·exact⟨(h.next m.ah).mono (by omega),by simp [Re.size,Re.dT];omega⟩
 split
 ·simp only;obtain⟨h1,h2⟩:=ht _ (b+1) (by omega) (h.next m.ah);obtain⟨h3,h4⟩:=ht _ (b+1+c) (by omega) h1;exact⟨h3.mono (by omega),by simp only[Re.size,Re.dT];omega⟩
 ·exact⟨h.set.mono (by omega),by simp only[Mk.set];rw[ql];omega⟩
def cD:Nat->Int
 |0=>3
 |d+1=>2+4*(cD d+1)
def zD:Nat->Int
 |0=>1
 |d+1=>4*zD d+1
theorem bX:∀d,3<=cD d
 |0=>by simp [cD]
 |d+1=>by have:=bX d;simp only[cD];omega
theorem wm:∀d,1<=zD d
 |0=>by simp [zD]
 |d+1=>by have:=wm d;simp only[zD];omega
theorem Mk.In.left (h:m.In b):m.less.In (b+1) :=
 ⟨h.l,h.p0,by have:=h.p1;show m.pos<=_;omega,by have:=h.l0;show _<=m.left-1;omega,by have:=h.l1;show m.left-1<=_;omega,h.c0,h.c1⟩
theorem iJ:∀d,Good (Mk.tree d) (cD d) (zD d)
 |0=>by
  intro m b hb h;have h1:=h.left.next 20;simp only[Mk.tree,cD,zD];split
  ·exact⟨h1.mono (by omega),by simp [Re.node,Re.size,Re.dT]⟩
  ·exact⟨h1.set.mono (by omega),by simp only[Mk.set];rw[ql];omega⟩
 |d+1=>by
  intro m b hb h;have h1:=h.left.next 20;have hc:=bX d;have hz:=wm d;simp only[Mk.tree,cD,zD];split
  ·split
   ·exact⟨h1.mono (by omega),by simp [Re.node,Re.size,Re.dT];omega⟩
   ·exact⟨h1.set.mono (by omega),by simp only[Mk.set];rw[ql];omega⟩
  ·obtain⟨h2,h3⟩:=Lg (by omega) hz (iJ d) ((m.less.next 20).1) _ (b+1+1) (by omega) h1;exact⟨h2.mono (by omega),h3⟩
def dV (d:Nat):Prop:=∀(m:Mk) (b:Int),0<=b->m.In b->b+cD d<=1000000000 ->
 au prog 49 [cG,i64 d] [cb m] λv s=>v=lQ (m.tree d).1/\s=[cb (m.tree d).2]
theorem xM {t:Mk->Re×Mk}{f:Nat}{i:Int} (h:i<2+(m.next 2).1):aT t (f+1) i m=((t (m.next 2).2).1::(aT t f (i+1) (t (m.next 2).2).2).1,(aT t f (i+1) (t (m.next 2).2).2).2):=by rw[aT,ap h]
theorem A8 {t:Mk->Re×Mk}{f:Nat}{i:Int} (h:¬i<2+(m.next 2).1):aT t (f+1) i m=([],(m.next 2).2):=by rw[aT,am h]
def W0 (l:List Re):D:=.sl (l.map Re.cells)
theorem KL (d:Nat) (hd:d<=1000) (ht:dV d) (m:Mk) (b:Int) (hb:0<=b) (hm:m.In b) (hs:b+4*(cD d+1)<=1000000000) :
  au prog 68 [cG,i64 (d+1:Nat)] [cb m] λv s=>v=.d (W0 (aT (Mk.tree d) 4 0 m).1)/\s=[cb (aT (Mk.tree d) 4 0 m).2]:=by
 have hc:=bX d;have w1:IntKind.i64.wrap ((d+1:Nat)-1:Int)=(d:Int):=by rw[bM _ (by omega)];omega
 refine ar func68 rfl ntmps68 results68 rfl 1 115 (by simp) (by simp) ?_;simp only[zW,simprocAttr,i64,cG];refine aJ (λn e s=>∃(i:Nat) (m':Mk) (l:List Re),n=4-i/\i<=3/\m'.In (b+i*(cD d+1))/\l.length=i/\e 0=.rf 0 0 0 0/\e 1=i64 (d+1:Nat)/\e 6=i64 i /\
   aT (Mk.tree d) 4 0 m=(l++(aT (Mk.tree d) (4-i) i m').1,(aT (Mk.tree d) (4-i) i m').2) /\
   ((i=0/\e 5=.fu []/\s=[cb m'])\/∃g,e 5=.so 1 g 0 i/\s=[cb m',⟨g,true,8,(l.map Re.cells).map λc=>c.map V.d⟩])) ⟨_,_,_,cU.refl,0,m,[],rfl,by omega,by simpa using hm,rfl,rfl,rfl,rfl,by simp,.inl ⟨rfl,rfl,rfl⟩⟩ ?_
 rintro n e s ⟨i,m',l,rfl,hi,mr,hl,h0,h1,h6,hk,lr⟩;have hp:=ct m'.l m'.pos 2 (by omega);have w2:IntKind.i64.wrap (2+pick m'.l m'.pos 2)=2+pick m'.l m'.pos 2:=bM _ (by omega);have hci:(i:Int)*(cD d+1)+(cD d+1)<=4*(cD d+1):=by have:=aec (show (i:Int)+1<=4 by omega) (show (0:Int)<=cD d+1 by omega);rw[Int.add_mul,Int.one_mul]at this;exact this
 have aaY:0<=(i:Int)*(cD d+1):=Int.mul_nonneg (by omega) (by omega);have dx:0<=m'.pos/\m'.pos<=1000000000:=⟨mr.p0,by have:=mr.p1;omega⟩
 have hf:4-i=(3-i)+1:=by omega
 rw[hf]at hk;rcases lr with ⟨rfl,h5,rfl⟩|⟨g,h5,rfl⟩
 ·simp only[zW,simprocAttr,i64,h0,h1,h6,cG];refine aP (cj m' mr.l dx 2 (by omega)) rfl rfl rfl rfl rfl rfl ?_;have aH:(0:Int)<2+pick m'.l m'.pos 2:=by omega
  simp only[zW,simprocAttr,i64,h0,h1,h6,cG,Mk.next,w1,w2,aH,adK];refine aP (ht (m'.next 2).2 (b+1) (by omega) (by simpa using mr.next 2) (by omega)) rfl rfl rfl rfl rfl (bG _ _) ?_;simp only[zW,simprocAttr,i64,h0,h1,h5,h6,cG,Mk.next,w1,w2,aH,adK];obtain⟨g1,g2⟩:=iJ d (m'.next 2).2 (b+1) (by omega) (by simpa using mr.next 2);refine⟨λx hx=>by rw[List.mem_singleton.1 hx];simp [Re.gU],by simp,3,_,_,by omega,cU.refl,1,((Mk.tree d) (m'.next 2).2).2,[((Mk.tree d) (m'.next 2).2).1],rfl,by omega,g1.mono (by simp;omega),rfl,?_,?_,?_,?_,.inr ⟨0,?_,?_⟩⟩
  ·simp only[zU,Nat.reduceBEq,Nat.reduceShiftRight,Nat.reduceMod,Nat.reduceEqDiff,reduceIte];exact h0
  ·simp only[zU,Nat.reduceBEq,Nat.reduceShiftRight,Nat.reduceMod,Nat.reduceEqDiff,reduceIte];exact h1
  ·simp only[zU,Nat.reduceBEq,Nat.reduceShiftRight,Nat.reduceMod,Nat.reduceEqDiff,reduceIte];rw[bM _ (by omega)];rfl
  ·rw[hk,xM (by simpa [Mk.next]using aH)];have:l=[]:=adJ hl;subst this;rfl
  ·simp only[zU,Nat.reduceBEq,Nat.reduceShiftRight,Nat.reduceMod,Nat.reduceEqDiff,reduceIte]
  ·rfl
 ·by_cases aH:(i:Int)<2+pick m'.l m'.pos 2
  ·rw[xM (f:=3-i) (i:=i) (m:=m') (by simpa [Mk.next]using aH)]at hk;obtain⟨g1,g2⟩:=iJ d (m'.next 2).2 (b+i*(cD d+1)+1) (by omega) (mr.next 2);simp only[zW,simprocAttr,i64,h0,h1,h6,cG];refine aP (cj m' mr.l dx 2 (by omega)) rfl rfl rfl rfl rfl rfl ?_;simp only[zW,simprocAttr,i64,h0,h1,h6,cG,Mk.next,w1,w2,aH];refine aP (ht (m'.next 2).2 (b+i*(cD d+1)+1) (by omega) (mr.next 2) (by omega)) rfl rfl rfl rfl rfl (bG _ _) ?_;simp only[zW,simprocAttr,i64,h0,h1,h5,h6,cG,Mk.next,w1,w2,aH];refine⟨λx hx=>by rw[List.mem_singleton.1 hx];simp [Re.gU],⟨by omega,by omega⟩,4-(i+1),_,_,by omega,cU.refl,i+1,((Mk.tree d) (m'.next 2).2).2,l++[((Mk.tree d) (m'.next 2).2).1],rfl,?_,g1.mono ?_,by simp [hl],?_,?_,?_,?_,.inr ⟨g+1,?_,?_⟩⟩
   ·omega
   ·rw[aef,Int.add_mul];simp;omega
   ·simp only[zU,Nat.reduceBEq,Nat.reduceShiftRight,Nat.reduceMod,Nat.reduceEqDiff,reduceIte];exact h0
   ·simp only[zU,Nat.reduceBEq,Nat.reduceShiftRight,Nat.reduceMod,Nat.reduceEqDiff,reduceIte];exact h1
   ·simp only[zU,Nat.reduceBEq,Nat.reduceShiftRight,Nat.reduceMod,Nat.reduceEqDiff,reduceIte];rw[bM _ (by omega)];rfl
   ·rw[hk,show 4-(i+1)=3-i by omega];simp
   ·simp only[zU,Nat.reduceBEq,Nat.reduceShiftRight,Nat.reduceMod,Nat.reduceEqDiff,reduceIte]
   ·simp [hl,<- List.map_take,adT (Nat.le_of_eq hl)];exact⟨rfl,rfl⟩
  ·rw[A8 (f:=3-i) (i:=i) (m:=m') (by simpa [Mk.next]using aH)]at hk;simp only[zW,simprocAttr,i64,h0,h1,h6,cG];refine aP (cj m' mr.l dx 2 (by omega)) rfl rfl rfl rfl rfl rfl ?_;have hle:0+i<=l.length:=by omega
   have tG:((l.map Re.cells).map λc=>c.map V.d).take i=(l.map Re.cells).map λc=>c.map V.d:=adT (by simp [hl]);simp only[zW,simprocAttr,i64,h0,h1,h5,h6,cG,Mk.next,w1,w2,aH,hle,tG];rw[hk];exact⟨rfl,by simp [W0],rfl⟩
theorem zP (d:Nat) (hd:d<=1000) (ht:dV d) (m:Mk) (b:Int) (hb:0<=b) (hm:m.In b) (hs:b+(cD d+2)<=1000000000) :
  au prog 70 [cG,i64 (d+1:Nat)] [cb m] λv s=>v=lQ (m.gL (Mk.tree d)).1/\s=[cb (m.gL (Mk.tree d)).2]:=by
 have hc:=bX d;have c0:=hm.c0;have c1:=hm.c1;have w1:IntKind.i64.wrap ((d+1:Nat)-1:Int)=(d:Int):=by rw[bM _ (by omega)];omega
 have w2:IntKind.i64.wrap (m.ah+1)=m.ah+1:=bM _ (by omega);have dx:0<=m.pos/\m.pos<=1000000000:=⟨hm.p0,by have:=hm.p1;omega⟩
 obtain⟨g1,g2,g3,g4⟩:=wE hm;refine ar func70 rfl ntmps70 results70 rfl 1 51 (by simp) (by simp) ?_;have JT:∀m':Mk,m'.In (b+2)->m'.ah=m.ah->∀n:Int,1<=n->n<=4->(m'.jP (max m'.ah n)).In (b+2):=λm' h he n h1 h2=>⟨h.l,h.p0,h.p1,h.l0,h.l1,by show 0<=max _ _;omega,by show max _ _<=4;omega⟩
 by_cases h4:4<m.ah+1
 ·have hp:=ct m.l m.pos (max 1 m.ah) (by omega);have w3:IntKind.i64.wrap (1+pick m.l m.pos (max 1 m.ah))=1+pick m.l m.pos (max 1 m.ah):=bM _ (by omega);simp only[zW,simprocAttr,i64,cG,cb,w1,w2,h4];refine aP (cj m hm.l dx (max 1 m.ah) (by omega)) rfl rfl rfl rfl rfl rfl ?_;simp only[zW,simprocAttr,i64,cG,cb,w1,w2,h4,Mk.next,w3];refine aP (ht ((m.next (max 1 m.ah)).2.jP (max m.ah (1+pick m.l m.pos (max 1 m.ah)))) (b+2) (by omega) (JT _ ((hm.next _).mono (by omega)) rfl _ (by omega) (by omega)) (by omega)) rfl rfl rfl rfl rfl (bG _ _) ?_;simp only[zW,simprocAttr,i64,cG,cb,w1,w2,h4,Mk.next,w3];have Ua:ej m=(1+pick m.l m.pos (max 1 m.ah),(m.next (max 1 m.ah)).2):=by simp [ej,h4,Mk.next]
  simp only[Mk.gL,Ua];first|exact⟨rfl,rfl⟩|exact⟨rfl,trivial⟩
 by_cases h0:0<m.ah
 ·simp only[zW,simprocAttr,i64,cG,cb,w1,w2,h4,h0];refine aP (cj m hm.l dx 9 (by omega)) rfl rfl rfl rfl rfl rfl ?_;by_cases h9:pick m.l m.pos 9=0
  ·have hp:=ct m.l (m.pos+1) (max 1 m.ah) (by omega);have w3:IntKind.i64.wrap (1+pick m.l (m.pos+1) (max 1 m.ah))=1+pick m.l (m.pos+1) (max 1 m.ah):=bM _ (by omega);simp only[zW,simprocAttr,i64,cG,cb,w1,w2,h4,Mk.next,h9];refine aP (cj (m.next 9).2 hm.l (by have:=hm.p1;simp only[Mk.next];omega) (max 1 m.ah) (by omega)) rfl rfl rfl rfl rfl rfl ?_;simp only[zW,simprocAttr,i64,cG,cb,w1,w2,h4,Mk.next,w3];refine aP (ht (((m.next 9).2.next (max 1 m.ah)).2.jP (max m.ah (1+pick m.l (m.pos+1) (max 1 m.ah)))) (b+2) (by omega) (JT _ (((hm.next 9).next _).mono (by omega)) rfl _ (by omega) (by omega)) (by omega)) rfl rfl rfl rfl rfl (bG _ _) ?_;simp only[zW,simprocAttr,i64,cG,cb,w1,w2,h4,Mk.next,w3];have Ua:ej m=(1+pick m.l (m.pos+1) (max 1 m.ah),((m.next 9).2.next (max 1 m.ah)).2):=by simp [ej,h4,h0,h9,Mk.next]
   simp only[Mk.gL,Ua];first|exact⟨rfl,rfl⟩|exact⟨rfl,trivial⟩
  ·simp only[zW,simprocAttr,i64,cG,cb,w1,w2,h4,Mk.next,h9];refine aP (ht ((m.next 9).2.jP (max m.ah (m.ah+1))) (b+2) (by omega) (JT _ ((hm.next 9).mono (by omega)) rfl _ (by omega) (by omega)) (by omega)) rfl rfl rfl rfl rfl (bG _ _) ?_;simp only[zW,simprocAttr,i64,cG,cb,w1,w2,h4,Mk.next];have Ua:ej m=(m.ah+1,(m.next 9).2):=by simp [ej,h4,h0,h9,Mk.next]
   simp only[Mk.gL,Ua];first|exact⟨rfl,rfl⟩|exact⟨rfl,trivial⟩
 ·simp only[zW,simprocAttr,i64,cG,cb,w1,w2,h4,h0];refine aP (ht (m.jP (max m.ah (m.ah+1))) (b+2) (by omega) (JT _ (hm.mono (by omega)) rfl _ (by omega) (by omega)) (by omega)) rfl rfl rfl rfl rfl (bG _ _) ?_;simp only[zW,simprocAttr,i64,cG,cb,w1,w2,h4];have Ua:ej m=(m.ah+1,m):=by simp [ej,h4,h0]
  simp only[Mk.gL,Ua];first|exact⟨rfl,rfl⟩|exact⟨rfl,trivial⟩
theorem UC (d:Nat) (hd:d<=1000) (ht:dV d) (m:Mk) (b:Int) (hb:0<=b) (hm:m.In b) (hs:b+(cD d+4)<=1000000000) (hz:zD d<=1000000000) :
  au prog 69 [cG,i64 (d+1:Nat)] [cb m] λv s=>v=lQ (m.rep (Mk.tree d)).1/\s=[cb (m.rep (Mk.tree d)).2]:=by
 have hc:=bX d;have w1:IntKind.i64.wrap ((d+1:Nat)-1:Int)=(d:Int):=by rw[bM _ (by omega)];omega
 have dx:0<=m.pos/\m.pos<=1000000000:=⟨hm.p0,by have:=hm.p1;omega⟩
 have hk:=ct m.l m.pos 12 (by omega);have jl:(pick m.l m.pos 12).toNat<12:=by omega
 have NA:([[D.sc (Value.int IntKind.i64 0)],[D.sc (Value.int IntKind.i64 0)],[D.sc (Value.int IntKind.i64 0)],[D.sc (Value.int IntKind.i64 0)],[D.sc (Value.int IntKind.i64 1)],[D.sc (Value.int IntKind.i64 1)],[D.sc (Value.int IntKind.i64 1)],[D.sc (Value.int IntKind.i64 0)],[D.sc (Value.int IntKind.i64 2)],[D.sc (Value.int IntKind.i64 0)],[D.sc (Value.int IntKind.i64 1)],[D.sc (Value.int IntKind.i64 2)]]:List (List D))[(pick m.l m.pos 12).toNat]?=some [D.sc (Value.int IntKind.i64 ((iG[(pick m.l m.pos 12).toNat]?).getD 0))]:=by rw[show ([[D.sc (Value.int IntKind.i64 0)],[D.sc (Value.int IntKind.i64 0)],[D.sc (Value.int IntKind.i64 0)],[D.sc (Value.int IntKind.i64 0)],[D.sc (Value.int IntKind.i64 1)],[D.sc (Value.int IntKind.i64 1)],[D.sc (Value.int IntKind.i64 1)],[D.sc (Value.int IntKind.i64 0)],[D.sc (Value.int IntKind.i64 2)],[D.sc (Value.int IntKind.i64 0)],[D.sc (Value.int IntKind.i64 1)],[D.sc (Value.int IntKind.i64 2)]]:List (List D))=iG.map (λx=>[D.sc (Value.int IntKind.i64 x)]) from rfl,adL,adn (show (pick m.l m.pos 12).toNat<iG.length from jl)];rfl
 have NO:([[D.sc (Value.int IntKind.i64 (-1))],[D.sc (Value.int IntKind.i64 (-1))],[D.sc (Value.int IntKind.i64 (-1))],[D.sc (Value.int IntKind.i64 1)],[D.sc (Value.int IntKind.i64 (-1))],[D.sc (Value.int IntKind.i64 (-1))],[D.sc (Value.int IntKind.i64 2)],[D.sc (Value.int IntKind.i64 2)],[D.sc (Value.int IntKind.i64 2)],[D.sc (Value.int IntKind.i64 3)],[D.sc (Value.int IntKind.i64 1)],[D.sc (Value.int IntKind.i64 (-1))]]:List (List D))[(pick m.l m.pos 12).toNat]?=some [D.sc (Value.int IntKind.i64 ((gi[(pick m.l m.pos 12).toNat]?).getD 0))]:=by rw[show ([[D.sc (Value.int IntKind.i64 (-1))],[D.sc (Value.int IntKind.i64 (-1))],[D.sc (Value.int IntKind.i64 (-1))],[D.sc (Value.int IntKind.i64 1)],[D.sc (Value.int IntKind.i64 (-1))],[D.sc (Value.int IntKind.i64 (-1))],[D.sc (Value.int IntKind.i64 2)],[D.sc (Value.int IntKind.i64 2)],[D.sc (Value.int IntKind.i64 2)],[D.sc (Value.int IntKind.i64 3)],[D.sc (Value.int IntKind.i64 1)],[D.sc (Value.int IntKind.i64 (-1))]]:List (List D))=gi.map (λx=>[D.sc (Value.int IntKind.i64 x)]) from rfl,adL,adn (show (pick m.l m.pos 12).toNat<gi.length from jl)];rfl
 refine ar func69 rfl ntmps69 results69 rfl 1 243 (by simp) (by simp) ?_;simp only[zW,simprocAttr,i64,cG,cb,w1];refine aP (cj m hm.l dx 12 (by omega)) rfl rfl rfl rfl rfl rfl ?_;simp only[zW,simprocAttr,i64,cG,cb,w1,Mk.next];refine aS ca.bh ?_;refine ao mix [12] [(9,[0],[0]),(11,[2],[2])] (by rfl) ?_;simp only[zW,simprocAttr,i64,cG,cb,w1,Mk.next,NA,NO];refine⟨hk.1,by omega,hk.1,by omega,?_⟩;refine su (cj (m.next 12).2 hm.l (by have:=hm.p1;simp only[Mk.next];omega) 2 (by omega)) rfl rfl rfl rfl rfl rfl ?_;by_cases h8:0<fk .and .i64 m.cu 8
 ·simp only[zW,simprocAttr,i64,cG,cb,w1,Mk.next,NA,NO,h8];refine aP (cj ((m.next 12).2.next 2).2 hm.l (by have:=hm.p1;simp only[Mk.next];omega) 4 (by omega)) rfl rfl rfl rfl rfl rfl ?_;by_cases h4:pick m.l (m.pos+1+1) 4=0
  ·simp only[zW,simprocAttr,i64,cG,cb,w1,Mk.next,h4];obtain⟨g1,g2⟩:=iJ d (((m.next 12).2.next 2).2.next 4).2 (b+3) (by omega) ((((hm.next 12).next 2).next 4).mono (by omega));refine aP (ht (((m.next 12).2.next 2).2.next 4).2 (b+3) (by omega) ((((hm.next 12).next 2).next 4).mono (by omega)) (by omega)) rfl rfl rfl rfl rfl (bG _ _) ?_;have UG:eE (m.next 12).2=(2,(((m.next 12).2.next 2).2.next 4).2):=by simp [eE,Mk.has,h8,Mk.next,h4]
   have hrep:m.rep (Mk.tree d)=(.mk 4 [] [(iv (Mk.tree d) (((m.next 12).2.next 2).2.next 4).2).1] ((iG[(pick m.l m.pos 12).toNat]?).getD 0) ((gi[(pick m.l m.pos 12).toNat]?).getD 0) 2 0 false,(iv (Mk.tree d) (((m.next 12).2.next 2).2.next 4).2).2):=by simp only[Mk.rep,UG];rfl
   have Tc:iv (Mk.tree d) (((m.next 12).2.next 2).2.next 4).2=if fk .and .i64 (Mk.tree d (((m.next 12).2.next 2).2.next 4).2).2.cu 32=0/\(Mk.tree d (((m.next 12).2.next 2).2.next 4).2).1.pg=true then (Mk.tree d (((m.next 12).2.next 2).2.next 4).2).2.set else Mk.tree d (((m.next 12).2.next 2).2.next 4).2:=rfl
   rw[hrep,Tc];generalize Mk.tree d (((m.next 12).2.next 2).2.next 4).2=R at *;by_cases jI:fk .and .i64 R.2.cu 32=0
   ·simp only[zW,simprocAttr,i64,cG,cb,w1,Mk.next,jI];refine az (iu R.1 (by omega)) (by simp [ak,ak.go,aq,i64,bV,bP]) (by simp [ak,ak.go,aq,i64,bV,bP]) ?_;cases hn:R.1.pg with
    |true =>
     simp only[zW,simprocAttr,i64,bV,cG,cb,w1,Mk.next,jI,hn];refine aP (iU R.2 g1.l ⟨g1.p0,by have:=g1.p1;omega⟩) rfl rfl rfl rfl rfl (bG _ _) ?_;simp only[zW,simprocAttr,i64,bV,cG,cb,w1,Mk.next,jI,hn];all_goals first|exact⟨rfl,rfl⟩|exact⟨rfl,trivial⟩|rfl|trivial|(rw[aq];rfl)
    |false =>
     simp only[zW,simprocAttr,i64,bV,cG,cb,w1,Mk.next,jI,hn];all_goals first|exact⟨rfl,rfl⟩|exact⟨rfl,trivial⟩|rfl|trivial|(rw[aq];rfl)
   ·simp only[zW,simprocAttr,i64,cG,cb,w1,Mk.next,jI];all_goals first|exact⟨rfl,rfl⟩|exact⟨rfl,trivial⟩|rfl|trivial|(rw[aq];rfl)
  ·simp only[zW,simprocAttr,i64,cG,cb,w1,Mk.next,h4];obtain⟨g1,g2⟩:=iJ d (((m.next 12).2.next 2).2.next 4).2 (b+3) (by omega) ((((hm.next 12).next 2).next 4).mono (by omega));refine aP (ht (((m.next 12).2.next 2).2.next 4).2 (b+3) (by omega) ((((hm.next 12).next 2).next 4).mono (by omega)) (by omega)) rfl rfl rfl rfl rfl (bG _ _) ?_;have UG:eE (m.next 12).2=((pick m.l (m.pos+1) 2),(((m.next 12).2.next 2).2.next 4).2):=by simp [eE,Mk.has,h8,Mk.next,h4]
   have hrep:m.rep (Mk.tree d)=(.mk 4 [] [(iv (Mk.tree d) (((m.next 12).2.next 2).2.next 4).2).1] ((iG[(pick m.l m.pos 12).toNat]?).getD 0) ((gi[(pick m.l m.pos 12).toNat]?).getD 0) (pick m.l (m.pos+1) 2) 0 false,(iv (Mk.tree d) (((m.next 12).2.next 2).2.next 4).2).2):=by simp only[Mk.rep,UG];rfl
   have Tc:iv (Mk.tree d) (((m.next 12).2.next 2).2.next 4).2=if fk .and .i64 (Mk.tree d (((m.next 12).2.next 2).2.next 4).2).2.cu 32=0/\(Mk.tree d (((m.next 12).2.next 2).2.next 4).2).1.pg=true then (Mk.tree d (((m.next 12).2.next 2).2.next 4).2).2.set else Mk.tree d (((m.next 12).2.next 2).2.next 4).2:=rfl
   rw[hrep,Tc];generalize Mk.tree d (((m.next 12).2.next 2).2.next 4).2=R at *;by_cases jI:fk .and .i64 R.2.cu 32=0
   ·simp only[zW,simprocAttr,i64,cG,cb,w1,Mk.next,jI];refine az (iu R.1 (by omega)) (by simp [ak,ak.go,aq,i64,bV,bP]) (by simp [ak,ak.go,aq,i64,bV,bP]) ?_;cases hn:R.1.pg with
    |true =>
     simp only[zW,simprocAttr,i64,bV,cG,cb,w1,Mk.next,jI,hn];refine aP (iU R.2 g1.l ⟨g1.p0,by have:=g1.p1;omega⟩) rfl rfl rfl rfl rfl (bG _ _) ?_;simp only[zW,simprocAttr,i64,bV,cG,cb,w1,Mk.next,jI,hn];all_goals first|exact⟨rfl,rfl⟩|exact⟨rfl,trivial⟩|rfl|trivial|(rw[aq];rfl)
    |false =>
     simp only[zW,simprocAttr,i64,bV,cG,cb,w1,Mk.next,jI,hn];all_goals first|exact⟨rfl,rfl⟩|exact⟨rfl,trivial⟩|rfl|trivial|(rw[aq];rfl)
   ·simp only[zW,simprocAttr,i64,cG,cb,w1,Mk.next,jI];all_goals first|exact⟨rfl,rfl⟩|exact⟨rfl,trivial⟩|rfl|trivial|(rw[aq];rfl)
 ·simp only[zW,simprocAttr,i64,cG,cb,w1,Mk.next,NA,NO,h8];obtain⟨g1,g2⟩:=iJ d ((m.next 12).2.next 2).2 (b+3) (by omega) (((hm.next 12).next 2).mono (by omega));refine aP (ht ((m.next 12).2.next 2).2 (b+3) (by omega) (((hm.next 12).next 2).mono (by omega)) (by omega)) rfl rfl rfl rfl rfl (bG _ _) ?_;have UG:eE (m.next 12).2=((pick m.l (m.pos+1) 2),((m.next 12).2.next 2).2):=by simp [eE,Mk.has,h8,Mk.next]
  have hrep:m.rep (Mk.tree d)=(.mk 4 [] [(iv (Mk.tree d) ((m.next 12).2.next 2).2).1] ((iG[(pick m.l m.pos 12).toNat]?).getD 0) ((gi[(pick m.l m.pos 12).toNat]?).getD 0) (pick m.l (m.pos+1) 2) 0 false,(iv (Mk.tree d) ((m.next 12).2.next 2).2).2):=by simp only[Mk.rep,UG];rfl
  have Tc:iv (Mk.tree d) ((m.next 12).2.next 2).2=if fk .and .i64 (Mk.tree d ((m.next 12).2.next 2).2).2.cu 32=0/\(Mk.tree d ((m.next 12).2.next 2).2).1.pg=true then (Mk.tree d ((m.next 12).2.next 2).2).2.set else Mk.tree d ((m.next 12).2.next 2).2:=rfl
  rw[hrep,Tc];generalize Mk.tree d ((m.next 12).2.next 2).2=R at *;by_cases jI:fk .and .i64 R.2.cu 32=0
  ·simp only[zW,simprocAttr,i64,cG,cb,w1,Mk.next,jI];refine az (iu R.1 (by omega)) (by simp [ak,ak.go,aq,i64,bV,bP]) (by simp [ak,ak.go,aq,i64,bV,bP]) ?_;cases hn:R.1.pg with
   |true =>
    simp only[zW,simprocAttr,i64,bV,cG,cb,w1,Mk.next,jI,hn];refine aP (iU R.2 g1.l ⟨g1.p0,by have:=g1.p1;omega⟩) rfl rfl rfl rfl rfl (bG _ _) ?_;simp only[zW,simprocAttr,i64,bV,cG,cb,w1,Mk.next,jI,hn];all_goals first|exact⟨rfl,rfl⟩|exact⟨rfl,trivial⟩|rfl|trivial|(rw[aq];rfl)
   |false =>
    simp only[zW,simprocAttr,i64,bV,cG,cb,w1,Mk.next,jI,hn];all_goals first|exact⟨rfl,rfl⟩|exact⟨rfl,trivial⟩|rfl|trivial|(rw[aq];rfl)
  ·simp only[zW,simprocAttr,i64,cG,cb,w1,Mk.next,jI];all_goals first|exact⟨rfl,rfl⟩|exact⟨rfl,trivial⟩|rfl|trivial|(rw[aq];rfl)
end Go.Proofs.Ytphfjhaffbfpfaa
