/- A part of the proof (F6 F7 F8 F9 F10 F11 F12). -/
import Derived.Test.YtmihcpdhcillaaaGreatBG3
set_option linter.unusedSimpArgs false
set_option linter.unusedVariables false
set_option maxRecDepth 100000
set_option maxHeartbeats 80000000
set_option linter.unusedSimpArgs false
set_option linter.unusedVariables false
namespace Go.Proofs.YtmihcpdhcillaaaGreat
open Go.VL Go.Proofs.Tryz
def Mk.has (m:Mk) (u:Int):Bool:=decide (0<gj .and .i64 m.cL u)
def Re.node (op:Int) (kids:List Re):Re:=.mk op [] kids 0 0 0 0 false
def bL (t:Mk→Re×Mk):Nat→Int→Mk→List Re×Mk
 |0,_,m=>([],m)
 |f+1,i,m =>
  if i<2+(m.next 2).1 then
   (((t (m.next 2).2).1)::(bL t f (i+1) (t (m.next 2).2).2).1,(bL t f (i+1) (t (m.next 2).2).2).2)
  else ([],(m.next 2).2)
def jY:List Int:=[0,0,0,0,1,1,1,0,2,0,1,2]
def iy:List Int:=[-1,-1,-1,1,-1,-1,2,2,2,3,1,-1]
def gv (m:Mk):Int×Mk :=
 let x:=m.next 2
 if m.has 8 then (if (x.2.next 4).1=0 then 2 else x.1,(x.2.next 4).2) else x
def ju (t:Mk→Re×Mk) (m:Mk):Re×Mk :=
 let x:=t m
 if gj .and .i64 x.2.cL 32=0∧x.1.vl=true then x.2.set else x
def Mk.rep (t:Mk→Re×Mk) (m:Mk):Re×Mk :=
 let k:=m.next 12
 let md:=gv k.2
 let kid:=ju t md.2
 (.mk 4 [] [kid.1] ((jY[k.1.toNat]?).getD 0) ((iy[k.1.toNat]?).getD 0) md.1 0 false,kid.2)
def eF (m:Mk):Int×Mk :=
 let again (m:Mk):Int×Mk:=(1+(m.next (max 1 m.ak)).1,(m.next (max 1 m.ak)).2)
 if 4<m.ak+1 then again m
 else if 0<m.ak then (if (m.next 9).1=0 then again (m.next 9).2 else (m.ak+1,(m.next 9).2))
 else (m.ak+1,m)
def Mk.iX (m:Mk) (c:Int):Mk:=⟨m.l,m.pos,m.cL,m.left,c⟩
def Mk.less (m:Mk):Mk:=⟨m.l,m.pos,m.cL,m.left-1,m.ak⟩
def Mk.fx (t:Mk→Re×Mk) (m:Mk):Re×Mk :=
 let c:=eF m
 let r:=t (c.2.iX (max c.2.ak c.1))
 (.mk 5 [] [r.1] 0 0 0 c.1 false,r.2)
def Mk.node (t:Mk→Re×Mk) (k:Int) (m:Mk):Re×Mk :=
 if k<5 then (Re.node 2 (bL t 4 0 m).1,(bL t 4 0 m).2)
 else if k<8 then (Re.node 3 (bL t 4 0 m).1,(bL t 4 0 m).2)
 else if k<12 then m.rep t
 else if k=12∧m.has 64=true then m.fx t
 else if k=13∧m.has 64=true then m.fx t
 else if k=14∧m.has 16=true then (.mk 11 [] [] 0 0 0 (m.next 6).1 false,(m.next 6).2)
 else if k=15∧m.has 4=true then
  let y:=(m.next 3).2.next 2
  (.mk (7+y.1) [] [(t y.2).1] 0 0 0 0 (decide ((m.next 3).1=0)),(t y.2).2)
 else if k=16∧m.has 8=true then (Re.node 9 [(t m).1],(t m).2)
 else if k=17∧m.has 1=true∧0<m.ak then (.mk 6 [] [] 0 0 0 (1+(m.next m.ak).1) false,(m.next m.ak).2)
 else if k=18∧m.has 2=true∧0<m.ak then
  let x:=m.next m.ak
  let y:=t x.2
  let z:=t y.2
  (.mk 10 [] [y.1,z.1] 0 0 0 (1+x.1) false,z.2)
 else m.set
def Mk.tree:Nat→Mk→Re×Mk
 |0,m =>
  let x:=m.less.next 20
  if x.1=0 then (Re.node 0 [],x.2) else x.2.set
 |d+1,m =>
  let x:=m.less.next 20
  if x.2.left<3∨(x.2.l.length:Int)<x.2.pos then (if x.1=0 then (Re.node 0 [],x.2) else x.2.set)
  else x.2.node (Mk.tree d) x.1
structure Mk.In (m:Mk) (b:Int):Prop where
 l:∀x∈m.l,jX x
 p0:0≤m.pos
 p1:m.pos≤b
 l0:-b≤m.left
 l1:m.left≤1000000
 c0:0≤m.ak
 c1:m.ak≤4
theorem Mk.In.mono {m:Mk}{b b':Int} (h:m.In b) (hb:b≤b'):m.In b' :=
 ⟨h.l,h.p0,by have:=h.p1;omega,by have:=h.l0;omega,h.l1,h.c0,h.c1⟩
theorem Mk.In.next {m:Mk}{b:Int} (h:m.In b) (n:Int):(m.next n).2.In (b+1) :=
 ⟨h.l,by have:=h.p0;simp only[Mk.next];omega,by have:=h.p1;simp only[Mk.next];omega,by have:=h.l0;simp only[Mk.next];omega,h.l1,h.c0,h.c1⟩
theorem Mk.In.set {m:Mk}{b:Int} (h:m.In b):m.set.2.In (b+1):=h.next 15
def Good (t:Mk→Re×Mk) (c z:Int):Prop:=∀m b,0≤b→Mk.In m b→(t m).2.In (b+c)∧((t m).1.size:Int)≤z
theorem oF (s:List (Int×Int)):(Re.Jb s).size=1:=rfl
theorem rm {t:Mk→Re×Mk}{c z:Int} (hc:0≤c) (ht:Good t c z):∀(f:Nat) (i:Int) (m:Mk) (b:Int),0≤b→m.In b →
  (bL t f i m).2.In (b+f*(c+1))∧(Re.dL (bL t f i m).1:Int)≤((bL t f i m).1.length:Int)*z∧(bL t f i m).1.length≤f
 |0,i,m,b,_,h=>by simp only[bL];exact⟨by simpa using h,by simp [Re.dL],by simp⟩
 |f+1,i,m,b,hb,h=>by
  simp only[bL]
  have hf:(0:Int)≤f*(c+1):=Int.mul_nonneg (by omega) (by omega)
  have e:((f+1:Nat):Int)*(c+1)=f*(c+1)+c+1:=by rw[XY,Int.add_mul];simp;omega
  split
  ·have h1:=h.next 2
   obtain⟨h2,h3⟩:=ht _ (b+1) (by omega) h1
   obtain⟨h4,h5,h6⟩:=rm hc ht f (i+1) _ (b+1+c) (by omega) h2
   refine⟨h4.mono (by omega),?_,by simpa using h6⟩
   simp only[Re.dL,W3,XY,Int.add_mul]
   omega
  ·exact⟨(h.next 2).mono (by omega),by simp [Re.dL],by simp⟩
theorem xt {m:Mk}{b:Int} (h:m.In b):(gv m).2.In (b+2):=by
 unfold gv
 simp only
 split
 ·have:=(h.next 2).next 4
  rwa [show b+1+1=b+2 by omega]at this
 ·exact(h.next 2).mono (by omega)
theorem D5 {t:Mk→Re×Mk}{c z:Int} (hc:0≤c) (hz:1≤z) (ht:Good t c z):Good (ju t) (c+1) z:=by
 intro m b hb h
 obtain⟨h1,h2⟩:=ht m b hb h
 unfold ju
 simp only
 split
 ·exact⟨by have:=h1.set;rwa [XJ]at this,by simp only[Mk.set];rw[oF];omega⟩
 ·exact⟨h1.mono (by omega),h2⟩
theorem pk (op mn mx mode n:Int) (neg:Bool) (k:Re):((Re.mk op [] [k] mn mx mode n neg).size:Int)=1+k.size:=by
 simp [Re.size,Re.dL]
theorem K6 {t:Mk→Re×Mk}{c z:Int} (hc:0≤c) (hz:1≤z) (ht:Good t c z):Good (Mk.rep t) (c+4) (z+1):=by
 intro m b hb h
 have h1:=xt (h.next 12)
 obtain⟨h2,h3⟩:=D5 hc hz ht _ _ (by omega) h1
 simp only[Mk.rep]
 exact⟨h2.mono (by omega),by rw[pk];omega⟩
theorem ur {m:Mk}{b:Int} (h:m.In b):(eF m).2.In (b+2)∧(eF m).2.ak=m.ak∧1≤(eF m).1∧(eF m).1≤4:=by
 have h0:=h.c0
 have h1:=h.c1
 have again:∀(m':Mk),m'.ak=m.ak→0<m.ak→0≤pick m'.l m'.pos (max 1 m'.ak)∧pick m'.l m'.pos (max 1 m'.ak)<m.ak:=by
  intro m' he hp
  have:=cB m'.l m'.pos (max 1 m'.ak) (by omega)
  rw[he]at this ⊢
  omega
 unfold eF
 simp only
 split
 ·have:=again m rfl (by omega)
  exact⟨(h.next (max 1 m.ak)).mono (by omega),rfl,by simp only[Mk.next];omega,by simp only[Mk.next];omega⟩
 ·split
  ·split
   ·have:=again (m.next 9).2 rfl (by omega)
    refine⟨?_,rfl,by simp only[Mk.next]at this ⊢;omega,by simp only[Mk.next]at this ⊢;omega⟩
    have h2:=(h.next 9).next (max 1 (m.next 9).2.ak)
    rwa [show b+1+1=b+2 by omega]at h2
   ·exact⟨(h.next 9).mono (by omega),rfl,by omega,by omega⟩
  ·exact⟨h.mono (by omega),rfl,by omega,by omega⟩
theorem tJ {t:Mk→Re×Mk}{c z:Int} (hc:0≤c) (ht:Good t c z):Good (Mk.fx t) (c+2) (z+1):=by
 intro m b hb h
 obtain⟨h1,h2,h3,h4⟩:=ur h
 simp only[Mk.fx]
 obtain⟨h5,h6⟩:=ht ((eF m).2.iX (max (eF m).2.ak (eF m).1)) (b+2) (by omega) ⟨h1.l,h1.p0,h1.p1,h1.l0,h1.l1,by show 0≤max _ _;omega,by have:=h.c1;show max _ _≤4;omega⟩
 exact⟨h5.mono (by omega),by rw[pk];omega⟩
theorem HI {t:Mk→Re×Mk}{c z:Int} (hc:0≤c) (hz:1≤z) (ht:Good t c z) (k:Int):Good (Mk.node t k) (4*(c+1)) (4*z+1):=by
 intro m b hb h
 obtain⟨a1,a2,a3⟩:=rm hc ht 4 0 m b hb h
 have WI:(Re.dL (bL t 4 0 m).1:Int)≤4*z:=by
  have:((bL t 4 0 m).1.length:Int)*z≤4*z:=Int.mul_le_mul_of_nonneg_right (by omega) (by omega)
  omega
 have Uh:(bL t 4 0 m).2.In (b+4*(c+1)):=a1
 have sz:∀op,((Re.node op (bL t 4 0 m).1).size:Int)≤4*z+1:=by intro op;simp only[Re.node,Re.size];omega
 unfold Mk.node
 split
 ·exact⟨Uh,sz _⟩
 split
 ·exact⟨Uh,sz _⟩
 split
 ·obtain⟨h1,h2⟩:=K6 hc hz ht m b hb h
  exact⟨h1.mono (by omega),by omega⟩
 split
 ·obtain⟨h1,h2⟩:=tJ hc ht m b hb h
  exact⟨h1.mono (by omega),by omega⟩
 split
 ·obtain⟨h1,h2⟩:=tJ hc ht m b hb h
  exact⟨h1.mono (by omega),by omega⟩
 split
 ·exact⟨(h.next 6).mono (by omega),by simp [Re.size,Re.dL];omega⟩
 split
 ·simp only
  obtain⟨h1,h2⟩:=ht _ (b+1+1) (by omega) ((h.next 3).next 2)
  exact⟨h1.mono (by omega),by rw[pk];omega⟩
 split
 ·obtain⟨h1,h2⟩:=ht m b hb h
  exact⟨h1.mono (by omega),by simp only[Re.node];rw[pk];omega⟩
 split
 ·exact⟨(h.next m.ak).mono (by omega),by simp [Re.size,Re.dL];omega⟩
 split
 ·simp only
  obtain⟨h1,h2⟩:=ht _ (b+1) (by omega) (h.next m.ak)
  obtain⟨h3,h4⟩:=ht _ (b+1+c) (by omega) h1
  exact⟨h3.mono (by omega),by simp only[Re.size,Re.dL];omega⟩
 ·exact⟨h.set.mono (by omega),by simp only[Mk.set];rw[oF];omega⟩
def cD:Nat→Int
 |0=>3
 |d+1=>2+4*(cD d+1)
def zD:Nat→Int
 |0=>1
 |d+1=>4*zD d+1
theorem bP:∀d,3≤cD d
 |0=>by simp [cD]
 |d+1=>by have:=bP d;simp only[cD];omega
theorem uq:∀d,1≤zD d
 |0=>by simp [zD]
 |d+1=>by have:=uq d;simp only[zD];omega
theorem Mk.In.left {m:Mk}{b:Int} (h:m.In b):m.less.In (b+1) :=
 ⟨h.l,h.p0,by have:=h.p1;show m.pos≤_;omega,by have:=h.l0;show _≤m.left-1;omega,by have:=h.l1;show m.left-1≤_;omega,h.c0,h.c1⟩
theorem gT:∀d,Good (Mk.tree d) (cD d) (zD d)
 |0=>by
  intro m b hb h
  have h1:=h.left.next 20
  simp only[Mk.tree,cD,zD]
  split
  ·exact⟨h1.mono (by omega),by simp [Re.node,Re.size,Re.dL]⟩
  ·exact⟨h1.set.mono (by omega),by simp only[Mk.set];rw[oF];omega⟩
 |d+1=>by
  intro m b hb h
  have h1:=h.left.next 20
  have hc:=bP d
  have hz:=uq d
  simp only[Mk.tree,cD,zD]
  split
  ·split
   ·exact⟨h1.mono (by omega),by simp [Re.node,Re.size,Re.dL];omega⟩
   ·exact⟨h1.set.mono (by omega),by simp only[Mk.set];rw[oF];omega⟩
  ·obtain⟨h2,h3⟩:=HI (by omega) hz (gT d) ((m.less.next 20).1) _ (b+1+1) (by omega) h1
   exact⟨h2.mono (by omega),h3⟩
def dO (d:Nat):Prop:=∀(m:Mk) (b:Int),0≤b→m.In b→b+cD d≤1000000000 →
 av prog 28 [ct,i64 d] [bY m] fun v s=>v=lk (m.tree d).1∧s=[bY (m.tree d).2]
theorem vt {t:Mk→Re×Mk}{f:Nat}{i:Int}{m:Mk} (h:i<2+(m.next 2).1):bL t (f+1) i m=((t (m.next 2).2).1::(bL t f (i+1) (t (m.next 2).2).2).1,(bL t f (i+1) (t (m.next 2).2).2).2):=by
 rw[bL,if_pos h]
theorem y5 {t:Mk→Re×Mk}{f:Nat}{i:Int}{m:Mk} (h:¬i<2+(m.next 2).1):bL t (f+1) i m=([],(m.next 2).2):=by
 rw[bL,if_neg h]
def Qx (l:List Re):D:=.sl (l.map Re.cells)
theorem Gn (d:Nat) (hd:d≤1000) (ht:dO d) (m:Mk) (b:Int) (hb:0≤b) (hm:m.In b) (hs:b+4*(cD d+1)≤1000000000) :
  av prog 45 [ct,i64 (d+1:Nat)] [bY m] fun v s=>v=.d (Qx (bL (Mk.tree d) 4 0 m).1)∧s=[bY (bL (Mk.tree d) 4 0 m).2]:=by
 have hc:=bP d
 have w1:IntKind.i64.wrap ((d+1:Nat)-1:Int)=(d:Int):=by rw[bU _ (by omega)];omega
 refine aw func45 rfl ntmps45 results45 rfl 1 115 (by simp) (by simp) ?_
 simp only[zW,simprocAttr,i64,ct]
 refine aX (fun n e s=>∃(i:Nat) (m':Mk) (l:List Re),n=4-i∧i≤3∧m'.In (b+i*(cD d+1))∧l.length=i∧e 0=.rf 0 0 0 0∧e 1=i64 (d+1:Nat)∧e 6=i64 i ∧
   bL (Mk.tree d) 4 0 m=(l++(bL (Mk.tree d) (4-i) i m').1,(bL (Mk.tree d) (4-i) i m').2) ∧
   ((i=0∧e 5=.fu []∧s=[bY m'])∨∃g,e 5=.so 1 g 0 i∧s=[bY m',⟨g,true,8,(l.map Re.cells).map fun c=>c.map V.d⟩])) ⟨_,_,_,dw.refl,0,m,[],rfl,by omega,by simpa using hm,rfl,rfl,rfl,rfl,by simp,.inl ⟨rfl,rfl,rfl⟩⟩ ?_
 rintro n e s ⟨i,m',l,rfl,hi,nq,hl,h0,h1,h6,hk,ky⟩
 have hp:=cB m'.l m'.pos 2 (by omega)
 have w2:IntKind.i64.wrap (2+pick m'.l m'.pos 2)=2+pick m'.l m'.pos 2:=bU _ (by omega)
 have WE:(i:Int)*(cD d+1)+(cD d+1)≤4*(cD d+1):=by
  have:=Int.mul_le_mul_of_nonneg_right (show (i:Int)+1≤4 by omega) (show (0:Int)≤cD d+1 by omega)
  rw[Int.add_mul,Int.one_mul]at this;exact this
 have Wp:0≤(i:Int)*(cD d+1):=Int.mul_nonneg (by omega) (by omega)
 have dC:0≤m'.pos∧m'.pos≤1000000000:=⟨nq.p0,by have:=nq.p1;omega⟩
 have hf:4-i=(3-i)+1:=by omega
 rw[hf]at hk
 rcases ky with ⟨rfl,h5,rfl⟩|⟨g,h5,rfl⟩
 ·simp only[zW,simprocAttr,i64,h0,h1,h6,ct]
  refine aL (b8 m' nq.l dC 2 (by omega)) rfl rfl rfl rfl rfl rfl ?_
  have aS:(0:Int)<2+pick m'.l m'.pos 2:=by omega
  simp only[zW,simprocAttr,i64,h0,h1,h6,ct,Mk.next,w1,w2,aS,W8]
  refine aL (ht (m'.next 2).2 (b+1) (by omega) (by simpa using nq.next 2) (by omega)) rfl rfl rfl rfl rfl (bK _ _) ?_
  simp only[zW,simprocAttr,i64,h0,h1,h5,h6,ct,Mk.next,w1,w2,aS,W8]
  obtain⟨g1,g2⟩:=gT d (m'.next 2).2 (b+1) (by omega) (by simpa using nq.next 2)
  refine⟨fun x hx=>by rw[List.mem_singleton.1 hx];simp [Re.gm],by simp,3,_,_,by omega,dw.refl,1,((Mk.tree d) (m'.next 2).2).2,[((Mk.tree d) (m'.next 2).2).1],rfl,by omega,g1.mono (by simp;omega),rfl,?_,?_,?_,?_,.inr ⟨0,?_,?_⟩⟩
  ·simp only[zU,Nat.reduceBEq,Nat.reduceShiftRight,Nat.reduceMod,Nat.reduceEqDiff,reduceIte];exact h0
  ·simp only[zU,Nat.reduceBEq,Nat.reduceShiftRight,Nat.reduceMod,Nat.reduceEqDiff,reduceIte];exact h1
  ·simp only[zU,Nat.reduceBEq,Nat.reduceShiftRight,Nat.reduceMod,Nat.reduceEqDiff,reduceIte];rw[bU _ (by omega)];rfl
  ·rw[hk,vt (by simpa [Mk.next]using aS)]
   have:l=[]:=Xb hl
   subst this
   rfl
  ·simp only[zU,Nat.reduceBEq,Nat.reduceShiftRight,Nat.reduceMod,Nat.reduceEqDiff,reduceIte]
  ·rfl
 ·by_cases aS:(i:Int)<2+pick m'.l m'.pos 2
  ·rw[vt (f:=3-i) (i:=i) (m:=m') (by simpa [Mk.next]using aS)]at hk
   obtain⟨g1,g2⟩:=gT d (m'.next 2).2 (b+i*(cD d+1)+1) (by omega) (nq.next 2)
   simp only[zW,simprocAttr,i64,h0,h1,h6,ct]
   refine aL (b8 m' nq.l dC 2 (by omega)) rfl rfl rfl rfl rfl rfl ?_
   simp only[zW,simprocAttr,i64,h0,h1,h6,ct,Mk.next,w1,w2,aS]
   refine aL (ht (m'.next 2).2 (b+i*(cD d+1)+1) (by omega) (nq.next 2) (by omega)) rfl rfl rfl rfl rfl (bK _ _) ?_
   simp only[zW,simprocAttr,i64,h0,h1,h5,h6,ct,Mk.next,w1,w2,aS]
   refine⟨fun x hx=>by rw[List.mem_singleton.1 hx];simp [Re.gm],⟨by omega,by omega⟩,4-(i+1),_,_,by omega,dw.refl,i+1,((Mk.tree d) (m'.next 2).2).2,l++[((Mk.tree d) (m'.next 2).2).1],rfl,?_,g1.mono ?_,by simp [hl],?_,?_,?_,?_,.inr ⟨g+1,?_,?_⟩⟩
   ·omega
   ·rw[XY,Int.add_mul];simp;omega
   ·simp only[zU,Nat.reduceBEq,Nat.reduceShiftRight,Nat.reduceMod,Nat.reduceEqDiff,reduceIte];exact h0
   ·simp only[zU,Nat.reduceBEq,Nat.reduceShiftRight,Nat.reduceMod,Nat.reduceEqDiff,reduceIte];exact h1
   ·simp only[zU,Nat.reduceBEq,Nat.reduceShiftRight,Nat.reduceMod,Nat.reduceEqDiff,reduceIte];rw[bU _ (by omega)];rfl
   ·rw[hk,show 4-(i+1)=3-i by omega];simp
   ·simp only[zU,Nat.reduceBEq,Nat.reduceShiftRight,Nat.reduceMod,Nat.reduceEqDiff,reduceIte]
   ·simp [hl,← XR,Xv (Nat.le_of_eq hl)];exact⟨rfl,rfl⟩
  ·rw[y5 (f:=3-i) (i:=i) (m:=m') (by simpa [Mk.next]using aS)]at hk
   simp only[zW,simprocAttr,i64,h0,h1,h6,ct]
   refine aL (b8 m' nq.l dC 2 (by omega)) rfl rfl rfl rfl rfl rfl ?_
   have hle:0+i≤l.length:=by omega
   have vf:((l.map Re.cells).map fun c=>c.map V.d).take i=(l.map Re.cells).map fun c=>c.map V.d:=Xv (by simp [hl])
   simp only[zW,simprocAttr,i64,h0,h1,h5,h6,ct,Mk.next,w1,w2,aS,hle,vf]
   rw[hk]
   exact⟨rfl,by simp [Qx],rfl⟩
theorem xd (d:Nat) (hd:d≤1000) (ht:dO d) (m:Mk) (b:Int) (hb:0≤b) (hm:m.In b) (hs:b+(cD d+2)≤1000000000) :
  av prog 47 [ct,i64 (d+1:Nat)] [bY m] fun v s=>v=lk (m.fx (Mk.tree d)).1∧s=[bY (m.fx (Mk.tree d)).2]:=by
 have hc:=bP d
 have c0:=hm.c0
 have c1:=hm.c1
 have w1:IntKind.i64.wrap ((d+1:Nat)-1:Int)=(d:Int):=by rw[bU _ (by omega)];omega
 have w2:IntKind.i64.wrap (m.ak+1)=m.ak+1:=bU _ (by omega)
 have dC:0≤m.pos∧m.pos≤1000000000:=⟨hm.p0,by have:=hm.p1;omega⟩
 obtain⟨g1,g2,g3,g4⟩:=ur hm
 refine aw func47 rfl ntmps47 results47 rfl 1 51 (by simp) (by simp) ?_
 have Gb:∀m':Mk,m'.In (b+2)→m'.ak=m.ak→∀n:Int,1≤n→n≤4→(m'.iX (max m'.ak n)).In (b+2):=fun m' h he n h1 h2=>⟨h.l,h.p0,h.p1,h.l0,h.l1,by show 0≤max _ _;omega,by show max _ _≤4;omega⟩
 by_cases h4:4<m.ak+1
 ·have hp:=cB m.l m.pos (max 1 m.ak) (by omega)
  have w3:IntKind.i64.wrap (1+pick m.l m.pos (max 1 m.ak))=1+pick m.l m.pos (max 1 m.ak):=bU _ (by omega)
  simp only[zW,simprocAttr,i64,ct,bY,w1,w2,h4]
  refine aL (b8 m hm.l dC (max 1 m.ak) (by omega)) rfl rfl rfl rfl rfl rfl ?_
  simp only[zW,simprocAttr,i64,ct,bY,w1,w2,h4,Mk.next,w3]
  refine aL (ht ((m.next (max 1 m.ak)).2.iX (max m.ak (1+pick m.l m.pos (max 1 m.ak)))) (b+2) (by omega) (Gb _ ((hm.next _).mono (by omega)) rfl _ (by omega) (by omega)) (by omega)) rfl rfl rfl rfl rfl (bK _ _) ?_
  simp only[zW,simprocAttr,i64,ct,bY,w1,w2,h4,Mk.next,w3]
  have NX:eF m=(1+pick m.l m.pos (max 1 m.ak),(m.next (max 1 m.ak)).2):=by simp [eF,h4,Mk.next]
  simp only[Mk.fx,NX]
  first|exact⟨rfl,rfl⟩|exact⟨rfl,trivial⟩
 by_cases h0:0<m.ak
 ·simp only[zW,simprocAttr,i64,ct,bY,w1,w2,h4,h0]
  refine aL (b8 m hm.l dC 9 (by omega)) rfl rfl rfl rfl rfl rfl ?_
  by_cases h9:pick m.l m.pos 9=0
  ·have hp:=cB m.l (m.pos+1) (max 1 m.ak) (by omega)
   have w3:IntKind.i64.wrap (1+pick m.l (m.pos+1) (max 1 m.ak))=1+pick m.l (m.pos+1) (max 1 m.ak):=bU _ (by omega)
   simp only[zW,simprocAttr,i64,ct,bY,w1,w2,h4,Mk.next,h9]
   refine aL (b8 (m.next 9).2 hm.l (by have:=hm.p1;simp only[Mk.next];omega) (max 1 m.ak) (by omega)) rfl rfl rfl rfl rfl rfl ?_
   simp only[zW,simprocAttr,i64,ct,bY,w1,w2,h4,Mk.next,w3]
   refine aL (ht (((m.next 9).2.next (max 1 m.ak)).2.iX (max m.ak (1+pick m.l (m.pos+1) (max 1 m.ak)))) (b+2) (by omega) (Gb _ (((hm.next 9).next _).mono (by omega)) rfl _ (by omega) (by omega)) (by omega)) rfl rfl rfl rfl rfl (bK _ _) ?_
   simp only[zW,simprocAttr,i64,ct,bY,w1,w2,h4,Mk.next,w3]
   have NX:eF m=(1+pick m.l (m.pos+1) (max 1 m.ak),((m.next 9).2.next (max 1 m.ak)).2):=by simp [eF,h4,h0,h9,Mk.next]
   simp only[Mk.fx,NX]
   first|exact⟨rfl,rfl⟩|exact⟨rfl,trivial⟩
  ·simp only[zW,simprocAttr,i64,ct,bY,w1,w2,h4,Mk.next,h9]
   refine aL (ht ((m.next 9).2.iX (max m.ak (m.ak+1))) (b+2) (by omega) (Gb _ ((hm.next 9).mono (by omega)) rfl _ (by omega) (by omega)) (by omega)) rfl rfl rfl rfl rfl (bK _ _) ?_
   simp only[zW,simprocAttr,i64,ct,bY,w1,w2,h4,Mk.next]
   have NX:eF m=(m.ak+1,(m.next 9).2):=by simp [eF,h4,h0,h9,Mk.next]
   simp only[Mk.fx,NX]
   first|exact⟨rfl,rfl⟩|exact⟨rfl,trivial⟩
 ·simp only[zW,simprocAttr,i64,ct,bY,w1,w2,h4,h0]
  refine aL (ht (m.iX (max m.ak (m.ak+1))) (b+2) (by omega) (Gb _ (hm.mono (by omega)) rfl _ (by omega) (by omega)) (by omega)) rfl rfl rfl rfl rfl (bK _ _) ?_
  simp only[zW,simprocAttr,i64,ct,bY,w1,w2,h4]
  have NX:eF m=(m.ak+1,m):=by simp [eF,h4,h0]
  simp only[Mk.fx,NX]
  first|exact⟨rfl,rfl⟩|exact⟨rfl,trivial⟩
theorem Ob (d:Nat) (hd:d≤1000) (ht:dO d) (m:Mk) (b:Int) (hb:0≤b) (hm:m.In b) (hs:b+(cD d+4)≤1000000000) (hz:zD d≤1000000000) :
  av prog 46 [ct,i64 (d+1:Nat)] [bY m] fun v s=>v=lk (m.rep (Mk.tree d)).1∧s=[bY (m.rep (Mk.tree d)).2]:=by
 have hc:=bP d
 have w1:IntKind.i64.wrap ((d+1:Nat)-1:Int)=(d:Int):=by rw[bU _ (by omega)];omega
 have dC:0≤m.pos∧m.pos≤1000000000:=⟨hm.p0,by have:=hm.p1;omega⟩
 have hk:=cB m.l m.pos 12 (by omega)
 have uY:(pick m.l m.pos 12).toNat<12:=by omega
 have Km:([[D.sc (Value.int IntKind.i64 0)],[D.sc (Value.int IntKind.i64 0)],[D.sc (Value.int IntKind.i64 0)],[D.sc (Value.int IntKind.i64 0)],[D.sc (Value.int IntKind.i64 1)],[D.sc (Value.int IntKind.i64 1)],[D.sc (Value.int IntKind.i64 1)],[D.sc (Value.int IntKind.i64 0)],[D.sc (Value.int IntKind.i64 2)],[D.sc (Value.int IntKind.i64 0)],[D.sc (Value.int IntKind.i64 1)],[D.sc (Value.int IntKind.i64 2)]]:List (List D))[(pick m.l m.pos 12).toNat]?=some [D.sc (Value.int IntKind.i64 ((jY[(pick m.l m.pos 12).toNat]?).getD 0))]:=by
  rw[show ([[D.sc (Value.int IntKind.i64 0)],[D.sc (Value.int IntKind.i64 0)],[D.sc (Value.int IntKind.i64 0)],[D.sc (Value.int IntKind.i64 0)],[D.sc (Value.int IntKind.i64 1)],[D.sc (Value.int IntKind.i64 1)],[D.sc (Value.int IntKind.i64 1)],[D.sc (Value.int IntKind.i64 0)],[D.sc (Value.int IntKind.i64 2)],[D.sc (Value.int IntKind.i64 0)],[D.sc (Value.int IntKind.i64 1)],[D.sc (Value.int IntKind.i64 2)]]:List (List D))=jY.map (fun x=>[D.sc (Value.int IntKind.i64 x)]) from rfl,Xd,WZ (show (pick m.l m.pos 12).toNat<jY.length from uY)];rfl
 have Jx:([[D.sc (Value.int IntKind.i64 (-1))],[D.sc (Value.int IntKind.i64 (-1))],[D.sc (Value.int IntKind.i64 (-1))],[D.sc (Value.int IntKind.i64 1)],[D.sc (Value.int IntKind.i64 (-1))],[D.sc (Value.int IntKind.i64 (-1))],[D.sc (Value.int IntKind.i64 2)],[D.sc (Value.int IntKind.i64 2)],[D.sc (Value.int IntKind.i64 2)],[D.sc (Value.int IntKind.i64 3)],[D.sc (Value.int IntKind.i64 1)],[D.sc (Value.int IntKind.i64 (-1))]]:List (List D))[(pick m.l m.pos 12).toNat]?=some [D.sc (Value.int IntKind.i64 ((iy[(pick m.l m.pos 12).toNat]?).getD 0))]:=by
  rw[show ([[D.sc (Value.int IntKind.i64 (-1))],[D.sc (Value.int IntKind.i64 (-1))],[D.sc (Value.int IntKind.i64 (-1))],[D.sc (Value.int IntKind.i64 1)],[D.sc (Value.int IntKind.i64 (-1))],[D.sc (Value.int IntKind.i64 (-1))],[D.sc (Value.int IntKind.i64 2)],[D.sc (Value.int IntKind.i64 2)],[D.sc (Value.int IntKind.i64 2)],[D.sc (Value.int IntKind.i64 3)],[D.sc (Value.int IntKind.i64 1)],[D.sc (Value.int IntKind.i64 (-1))]]:List (List D))=iy.map (fun x=>[D.sc (Value.int IntKind.i64 x)]) from rfl,Xd,WZ (show (pick m.l m.pos 12).toNat<iy.length from uY)];rfl
 refine aw func46 rfl ntmps46 results46 rfl 1 243 (by simp) (by simp) ?_
 simp only[zW,simprocAttr,i64,ct,bY,w1]
 refine aL (b8 m hm.l dC 12 (by omega)) rfl rfl rfl rfl rfl rfl ?_
 simp only[zW,simprocAttr,i64,ct,bY,w1,Mk.next]
 refine aH bM.aP ?_
 refine aq mix [12] [(9,[0],[0]),(11,[2],[2])] (by rfl) ?_
 simp only[zW,simprocAttr,i64,ct,bY,w1,Mk.next,Km,Jx]
 refine⟨hk.1,by omega,hk.1,by omega,?_⟩
 refine zZ (b8 (m.next 12).2 hm.l (by have:=hm.p1;simp only[Mk.next];omega) 2 (by omega)) rfl rfl rfl rfl rfl rfl ?_
 by_cases h8:0<gj .and .i64 m.cL 8
 ·simp only[zW,simprocAttr,i64,ct,bY,w1,Mk.next,Km,Jx,h8]
  refine aL (b8 ((m.next 12).2.next 2).2 hm.l (by have:=hm.p1;simp only[Mk.next];omega) 4 (by omega)) rfl rfl rfl rfl rfl rfl ?_
  by_cases h4:pick m.l (m.pos+1+1) 4=0
  ·simp only[zW,simprocAttr,i64,ct,bY,w1,Mk.next,h4]
   obtain⟨g1,g2⟩:=gT d (((m.next 12).2.next 2).2.next 4).2 (b+3) (by omega) ((((hm.next 12).next 2).next 4).mono (by omega))
   refine aL (ht (((m.next 12).2.next 2).2.next 4).2 (b+3) (by omega) ((((hm.next 12).next 2).next 4).mono (by omega)) (by omega)) rfl rfl rfl rfl rfl (bK _ _) ?_
   have Mv:gv (m.next 12).2=(2,(((m.next 12).2.next 2).2.next 4).2):=by simp [gv,Mk.has,h8,Mk.next,h4]
   have hrep:m.rep (Mk.tree d)=(.mk 4 [] [(ju (Mk.tree d) (((m.next 12).2.next 2).2.next 4).2).1] ((jY[(pick m.l m.pos 12).toNat]?).getD 0) ((iy[(pick m.l m.pos 12).toNat]?).getD 0) 2 0 false,(ju (Mk.tree d) (((m.next 12).2.next 2).2.next 4).2).2):=by simp only[Mk.rep,Mv];rfl
   have NV:ju (Mk.tree d) (((m.next 12).2.next 2).2.next 4).2=if gj .and .i64 (Mk.tree d (((m.next 12).2.next 2).2.next 4).2).2.cL 32=0∧(Mk.tree d (((m.next 12).2.next 2).2.next 4).2).1.vl=true then (Mk.tree d (((m.next 12).2.next 2).2.next 4).2).2.set else Mk.tree d (((m.next 12).2.next 2).2.next 4).2:=rfl
   rw[hrep,NV]
   generalize Mk.tree d (((m.next 12).2.next 2).2.next 4).2=R at *
   by_cases ie:gj .and .i64 R.2.cL 32=0
   ·simp only[zW,simprocAttr,i64,ct,bY,w1,Mk.next,ie]
    refine aD (lS R.1 (by omega)) (by simp [ao,ao.go,ay,i64,bV,bT]) (by simp [ao,ao.go,ay,i64,bV,bT]) ?_
    cases hn:R.1.vl with
    |true =>
     simp only[zW,simprocAttr,i64,bV,ct,bY,w1,Mk.next,ie,hn]
     refine aL (im R.2 g1.l ⟨g1.p0,by have:=g1.p1;omega⟩) rfl rfl rfl rfl rfl (bK _ _) ?_
     simp only[zW,simprocAttr,i64,bV,ct,bY,w1,Mk.next,ie,hn]
     all_goals first|exact⟨rfl,rfl⟩|exact⟨rfl,trivial⟩|rfl|trivial|(rw[ay];rfl)
    |false =>
     simp only[zW,simprocAttr,i64,bV,ct,bY,w1,Mk.next,ie,hn]
     all_goals first|exact⟨rfl,rfl⟩|exact⟨rfl,trivial⟩|rfl|trivial|(rw[ay];rfl)
   ·simp only[zW,simprocAttr,i64,ct,bY,w1,Mk.next,ie]
    all_goals first|exact⟨rfl,rfl⟩|exact⟨rfl,trivial⟩|rfl|trivial|(rw[ay];rfl)
  ·simp only[zW,simprocAttr,i64,ct,bY,w1,Mk.next,h4]
   obtain⟨g1,g2⟩:=gT d (((m.next 12).2.next 2).2.next 4).2 (b+3) (by omega) ((((hm.next 12).next 2).next 4).mono (by omega))
   refine aL (ht (((m.next 12).2.next 2).2.next 4).2 (b+3) (by omega) ((((hm.next 12).next 2).next 4).mono (by omega)) (by omega)) rfl rfl rfl rfl rfl (bK _ _) ?_
   have Mv:gv (m.next 12).2=((pick m.l (m.pos+1) 2),(((m.next 12).2.next 2).2.next 4).2):=by simp [gv,Mk.has,h8,Mk.next,h4]
   have hrep:m.rep (Mk.tree d)=(.mk 4 [] [(ju (Mk.tree d) (((m.next 12).2.next 2).2.next 4).2).1] ((jY[(pick m.l m.pos 12).toNat]?).getD 0) ((iy[(pick m.l m.pos 12).toNat]?).getD 0) (pick m.l (m.pos+1) 2) 0 false,(ju (Mk.tree d) (((m.next 12).2.next 2).2.next 4).2).2):=by simp only[Mk.rep,Mv];rfl
   have NV:ju (Mk.tree d) (((m.next 12).2.next 2).2.next 4).2=if gj .and .i64 (Mk.tree d (((m.next 12).2.next 2).2.next 4).2).2.cL 32=0∧(Mk.tree d (((m.next 12).2.next 2).2.next 4).2).1.vl=true then (Mk.tree d (((m.next 12).2.next 2).2.next 4).2).2.set else Mk.tree d (((m.next 12).2.next 2).2.next 4).2:=rfl
   rw[hrep,NV]
   generalize Mk.tree d (((m.next 12).2.next 2).2.next 4).2=R at *
   by_cases ie:gj .and .i64 R.2.cL 32=0
   ·simp only[zW,simprocAttr,i64,ct,bY,w1,Mk.next,ie]
    refine aD (lS R.1 (by omega)) (by simp [ao,ao.go,ay,i64,bV,bT]) (by simp [ao,ao.go,ay,i64,bV,bT]) ?_
    cases hn:R.1.vl with
    |true =>
     simp only[zW,simprocAttr,i64,bV,ct,bY,w1,Mk.next,ie,hn]
     refine aL (im R.2 g1.l ⟨g1.p0,by have:=g1.p1;omega⟩) rfl rfl rfl rfl rfl (bK _ _) ?_
     simp only[zW,simprocAttr,i64,bV,ct,bY,w1,Mk.next,ie,hn]
     all_goals first|exact⟨rfl,rfl⟩|exact⟨rfl,trivial⟩|rfl|trivial|(rw[ay];rfl)
    |false =>
     simp only[zW,simprocAttr,i64,bV,ct,bY,w1,Mk.next,ie,hn]
     all_goals first|exact⟨rfl,rfl⟩|exact⟨rfl,trivial⟩|rfl|trivial|(rw[ay];rfl)
   ·simp only[zW,simprocAttr,i64,ct,bY,w1,Mk.next,ie]
    all_goals first|exact⟨rfl,rfl⟩|exact⟨rfl,trivial⟩|rfl|trivial|(rw[ay];rfl)
 ·simp only[zW,simprocAttr,i64,ct,bY,w1,Mk.next,Km,Jx,h8]
  obtain⟨g1,g2⟩:=gT d ((m.next 12).2.next 2).2 (b+3) (by omega) (((hm.next 12).next 2).mono (by omega))
  refine aL (ht ((m.next 12).2.next 2).2 (b+3) (by omega) (((hm.next 12).next 2).mono (by omega)) (by omega)) rfl rfl rfl rfl rfl (bK _ _) ?_
  have Mv:gv (m.next 12).2=((pick m.l (m.pos+1) 2),((m.next 12).2.next 2).2):=by simp [gv,Mk.has,h8,Mk.next]
  have hrep:m.rep (Mk.tree d)=(.mk 4 [] [(ju (Mk.tree d) ((m.next 12).2.next 2).2).1] ((jY[(pick m.l m.pos 12).toNat]?).getD 0) ((iy[(pick m.l m.pos 12).toNat]?).getD 0) (pick m.l (m.pos+1) 2) 0 false,(ju (Mk.tree d) ((m.next 12).2.next 2).2).2):=by simp only[Mk.rep,Mv];rfl
  have NV:ju (Mk.tree d) ((m.next 12).2.next 2).2=if gj .and .i64 (Mk.tree d ((m.next 12).2.next 2).2).2.cL 32=0∧(Mk.tree d ((m.next 12).2.next 2).2).1.vl=true then (Mk.tree d ((m.next 12).2.next 2).2).2.set else Mk.tree d ((m.next 12).2.next 2).2:=rfl
  rw[hrep,NV]
  generalize Mk.tree d ((m.next 12).2.next 2).2=R at *
  by_cases ie:gj .and .i64 R.2.cL 32=0
  ·simp only[zW,simprocAttr,i64,ct,bY,w1,Mk.next,ie]
   refine aD (lS R.1 (by omega)) (by simp [ao,ao.go,ay,i64,bV,bT]) (by simp [ao,ao.go,ay,i64,bV,bT]) ?_
   cases hn:R.1.vl with
   |true =>
    simp only[zW,simprocAttr,i64,bV,ct,bY,w1,Mk.next,ie,hn]
    refine aL (im R.2 g1.l ⟨g1.p0,by have:=g1.p1;omega⟩) rfl rfl rfl rfl rfl (bK _ _) ?_
    simp only[zW,simprocAttr,i64,bV,ct,bY,w1,Mk.next,ie,hn]
    all_goals first|exact⟨rfl,rfl⟩|exact⟨rfl,trivial⟩|rfl|trivial|(rw[ay];rfl)
   |false =>
    simp only[zW,simprocAttr,i64,bV,ct,bY,w1,Mk.next,ie,hn]
    all_goals first|exact⟨rfl,rfl⟩|exact⟨rfl,trivial⟩|rfl|trivial|(rw[ay];rfl)
  ·simp only[zW,simprocAttr,i64,ct,bY,w1,Mk.next,ie]
   all_goals first|exact⟨rfl,rfl⟩|exact⟨rfl,trivial⟩|rfl|trivial|(rw[ay];rfl)
theorem HR:dO 0:=by
 intro m b hb hm hs
 have hc:cD 0=3:=rfl
 have w1:IntKind.i64.wrap (m.left-1)=m.left-1:=bU _ (by have:=hm.l0;have:=hm.l1;omega)
 have dC:0≤m.pos∧m.pos≤1000000000:=⟨hm.p0,by have:=hm.p1;omega⟩
 have hk:=cB m.l m.pos 20 (by omega)
 refine aw func28 rfl ntmps28 results28 rfl 1 499 (by simp) (by simp) ?_
 simp only[zW,simprocAttr,i64,ct,bY,w1]
 refine aL (b8 m.less hm.l dC 20 (by omega)) rfl rfl rfl rfl rfl rfl ?_
 simp only[zW,simprocAttr,i64,ct,bY,w1,Mk.next,Mk.less]
 refine aq mix [] [] (by rfl) ?_
 by_cases h0:pick m.l m.pos 20=0
 ·simp only[zW,simprocAttr,i64,ct,bY,w1,Mk.next,h0,W8]
  rw[show Mk.tree 0 m=(Re.node 0 [],(m.less.next 20).2) by simp [Mk.tree,Mk.next,Mk.less,h0]]
  all_goals first|exact⟨rfl,rfl⟩|exact⟨rfl,trivial⟩|rfl|trivial|(rw[ay];rfl)
 ·simp only[zW,simprocAttr,i64,ct,bY,w1,Mk.next,h0,W8]
  refine aL (im (m.less.next 20).2 hm.l (by have:=hm.p1;simp only[Mk.next,Mk.less];omega)) rfl rfl rfl rfl rfl (bK _ _) ?_
  simp only[zW,simprocAttr,i64,ct,bY,w1,Mk.next,h0,W8]
  rw[show Mk.tree 0 m=(m.less.next 20).2.set by simp [Mk.tree,Mk.next,Mk.less,h0]]
  all_goals first|exact⟨rfl,rfl⟩|exact⟨rfl,trivial⟩|rfl|trivial|(rw[ay];rfl)
theorem cS {d:Nat}{m:Mk} (h3:¬m.left-1<3) (hp:¬(m.l.length:Int)<m.pos+1):Mk.tree (d+1) m=Mk.node (Mk.tree d) (pick m.l m.pos 20) (m.less.next 20).2:=by
 simp [Mk.tree,Mk.next,Mk.less,h3,hp]
theorem FW (d:Nat) (hd:d≤1000) (hz:zD d≤1000000000) (ht:dO d) (m:Mk) (b:Int) (hb:0≤b) (hm:m.In b) (hs:b+cD (d+1)≤1000000000) (h3:m.left-1<3) :
  av prog 28 [ct,i64 (d+1:Nat)] [bY m] fun v s=>v=lk (m.tree (d+1)).1∧s=[bY (m.tree (d+1)).2]:=by
 have hc:=bP d
 have zg:cD (d+1)=2+4*(cD d+1):=rfl
 have w1:IntKind.i64.wrap (m.left-1)=m.left-1:=bU _ (by have:=hm.l0;have:=hm.l1;omega)
 have w2:IntKind.i64.wrap ((d+1:Nat)-1:Int)=(d:Int):=by rw[bU _ (by omega)];omega
 have eM:¬((d+1:Nat):Int)=0:=by omega
 have dC:0≤m.pos∧m.pos≤1000000000:=⟨hm.p0,by have:=hm.p1;omega⟩
 have hy:(m.less.next 20).2.In (b+2):=by have:=hm.left.next 20;rwa [XJ]at this
 have hyp:0≤(m.less.next 20).2.pos∧(m.less.next 20).2.pos≤1000000000:=by have:=hm.p1;simp only[Mk.next,Mk.less];omega
 have c0:=hm.c0
 have c1:=hm.c1
 refine aw func28 rfl ntmps28 results28 rfl 1 499 (by simp) (by simp) ?_
 simp only[zW,simprocAttr,i64,ct,bY,w1]
 refine aL (b8 m.less hm.l dC 20 (by omega)) rfl rfl rfl rfl rfl rfl ?_
 simp only[zW,simprocAttr,i64,ct,bY,w1,Mk.next,Mk.less]
 refine aq mix [] [] (by rfl) ?_
 have hT:Mk.tree (d+1) m=if pick m.l m.pos 20=0 then (Re.node 0 [],(m.less.next 20).2) else (m.less.next 20).2.set:=if_pos (.inl h3)
 rw[hT]
 by_cases h0:pick m.l m.pos 20=0
 ·simp only[zW,simprocAttr,i64,ct,bY,w1,Mk.next,eM,h3,h0]
  all_goals first|exact⟨rfl,rfl⟩|exact⟨rfl,trivial⟩|rfl|trivial|(rw[ay];rfl)
 ·simp only[zW,simprocAttr,i64,ct,bY,w1,Mk.next,eM,h3,h0]
  refine aL (im (m.less.next 20).2 hm.l hyp) rfl rfl rfl rfl rfl (bK _ _) ?_
  simp only[zW,simprocAttr,i64,ct,bY,w1,Mk.next,eM,h3,h0]
  all_goals first|exact⟨rfl,rfl⟩|exact⟨rfl,trivial⟩|rfl|trivial|(rw[ay];rfl)
theorem Ep (d:Nat) (hd:d≤1000) (hz:zD d≤1000000000) (ht:dO d) (m:Mk) (b:Int) (hb:0≤b) (hm:m.In b) (hs:b+cD (d+1)≤1000000000) (h3:¬m.left-1<3) (ek:(m.l.length:Int)<m.pos+1) :
  av prog 28 [ct,i64 (d+1:Nat)] [bY m] fun v s=>v=lk (m.tree (d+1)).1∧s=[bY (m.tree (d+1)).2]:=by
 have hc:=bP d
 have zg:cD (d+1)=2+4*(cD d+1):=rfl
 have w1:IntKind.i64.wrap (m.left-1)=m.left-1:=bU _ (by have:=hm.l0;have:=hm.l1;omega)
 have w2:IntKind.i64.wrap ((d+1:Nat)-1:Int)=(d:Int):=by rw[bU _ (by omega)];omega
 have eM:¬((d+1:Nat):Int)=0:=by omega
 have dC:0≤m.pos∧m.pos≤1000000000:=⟨hm.p0,by have:=hm.p1;omega⟩
 have hy:(m.less.next 20).2.In (b+2):=by have:=hm.left.next 20;rwa [XJ]at this
 have hyp:0≤(m.less.next 20).2.pos∧(m.less.next 20).2.pos≤1000000000:=by have:=hm.p1;simp only[Mk.next,Mk.less];omega
 have c0:=hm.c0
 have c1:=hm.c1
 refine aw func28 rfl ntmps28 results28 rfl 1 499 (by simp) (by simp) ?_
 simp only[zW,simprocAttr,i64,ct,bY,w1]
 refine aL (b8 m.less hm.l dC 20 (by omega)) rfl rfl rfl rfl rfl rfl ?_
 simp only[zW,simprocAttr,i64,ct,bY,w1,Mk.next,Mk.less]
 refine aq mix [] [] (by rfl) ?_
 have hT:Mk.tree (d+1) m=if pick m.l m.pos 20=0 then (Re.node 0 [],(m.less.next 20).2) else (m.less.next 20).2.set:=if_pos (.inr ek)
 rw[hT]
 by_cases h0:pick m.l m.pos 20=0
 ·simp only[zW,simprocAttr,i64,ct,bY,w1,Mk.next,eM,h3,ek,h0]
  all_goals first|exact⟨rfl,rfl⟩|exact⟨rfl,trivial⟩|rfl|trivial|(rw[ay];rfl)
 ·simp only[zW,simprocAttr,i64,ct,bY,w1,Mk.next,eM,h3,ek,h0]
  refine aL (im (m.less.next 20).2 hm.l hyp) rfl rfl rfl rfl rfl (bK _ _) ?_
  simp only[zW,simprocAttr,i64,ct,bY,w1,Mk.next,eM,h3,ek,h0]
  all_goals first|exact⟨rfl,rfl⟩|exact⟨rfl,trivial⟩|rfl|trivial|(rw[ay];rfl)
theorem Jt (d:Nat) (hd:d≤1000) (hz:zD d≤1000000000) (ht:dO d) (m:Mk) (b:Int) (hb:0≤b) (hm:m.In b) (hs:b+cD (d+1)≤1000000000) (h3:¬m.left-1<3) (ek:¬(m.l.length:Int)<m.pos+1) (h5:pick m.l m.pos 20<5) :
  av prog 28 [ct,i64 (d+1:Nat)] [bY m] fun v s=>v=lk (m.tree (d+1)).1∧s=[bY (m.tree (d+1)).2]:=by
 have hc:=bP d
 have zg:cD (d+1)=2+4*(cD d+1):=rfl
 have w1:IntKind.i64.wrap (m.left-1)=m.left-1:=bU _ (by have:=hm.l0;have:=hm.l1;omega)
 have w2:IntKind.i64.wrap ((d+1:Nat)-1:Int)=(d:Int):=by rw[bU _ (by omega)];omega
 have eM:¬((d+1:Nat):Int)=0:=by omega
 have dC:0≤m.pos∧m.pos≤1000000000:=⟨hm.p0,by have:=hm.p1;omega⟩
 have hy:(m.less.next 20).2.In (b+2):=by have:=hm.left.next 20;rwa [XJ]at this
 have hyp:0≤(m.less.next 20).2.pos∧(m.less.next 20).2.pos≤1000000000:=by have:=hm.p1;simp only[Mk.next,Mk.less];omega
 have c0:=hm.c0
 have c1:=hm.c1
 refine aw func28 rfl ntmps28 results28 rfl 1 499 (by simp) (by simp) ?_
 simp only[zW,simprocAttr,i64,ct,bY,w1]
 refine aL (b8 m.less hm.l dC 20 (by omega)) rfl rfl rfl rfl rfl rfl ?_
 simp only[zW,simprocAttr,i64,ct,bY,w1,Mk.next,Mk.less]
 refine aq mix [] [] (by rfl) ?_
 rw[cS h3 ek]
 have hn:Mk.node (Mk.tree d) (pick m.l m.pos 20) (m.less.next 20).2=(Re.node 2 (bL (Mk.tree d) 4 0 (m.less.next 20).2).1,(bL (Mk.tree d) 4 0 (m.less.next 20).2).2):=by simp [Mk.node,Mk.has,Mk.next,Mk.less,h5]
 rw[hn]
 simp only[zW,simprocAttr,i64,ct,bY,w1,w2,Mk.next,Mk.less,eM,h3,ek,h5]
 refine aL (Gn d hd ht (m.less.next 20).2 (b+2) (by omega) hy (by omega)) rfl rfl rfl rfl rfl (by first|rfl|exact bK _ _) ?_
 simp only[zW,simprocAttr,i64,ct,bY,w1,w2,Mk.next,Mk.less,eM,h3,ek,h5]
 all_goals first|exact⟨rfl,rfl⟩|exact⟨rfl,trivial⟩|rfl|trivial|(rw[ay];rfl)
theorem KU (d:Nat) (hd:d≤1000) (hz:zD d≤1000000000) (ht:dO d) (m:Mk) (b:Int) (hb:0≤b) (hm:m.In b) (hs:b+cD (d+1)≤1000000000) (h3:¬m.left-1<3) (ek:¬(m.l.length:Int)<m.pos+1) (h5:¬pick m.l m.pos 20<5) (h8:pick m.l m.pos 20<8) :
  av prog 28 [ct,i64 (d+1:Nat)] [bY m] fun v s=>v=lk (m.tree (d+1)).1∧s=[bY (m.tree (d+1)).2]:=by
 have hc:=bP d
 have zg:cD (d+1)=2+4*(cD d+1):=rfl
 have w1:IntKind.i64.wrap (m.left-1)=m.left-1:=bU _ (by have:=hm.l0;have:=hm.l1;omega)
 have w2:IntKind.i64.wrap ((d+1:Nat)-1:Int)=(d:Int):=by rw[bU _ (by omega)];omega
 have eM:¬((d+1:Nat):Int)=0:=by omega
 have dC:0≤m.pos∧m.pos≤1000000000:=⟨hm.p0,by have:=hm.p1;omega⟩
 have hy:(m.less.next 20).2.In (b+2):=by have:=hm.left.next 20;rwa [XJ]at this
 have hyp:0≤(m.less.next 20).2.pos∧(m.less.next 20).2.pos≤1000000000:=by have:=hm.p1;simp only[Mk.next,Mk.less];omega
 have c0:=hm.c0
 have c1:=hm.c1
 refine aw func28 rfl ntmps28 results28 rfl 1 499 (by simp) (by simp) ?_
 simp only[zW,simprocAttr,i64,ct,bY,w1]
 refine aL (b8 m.less hm.l dC 20 (by omega)) rfl rfl rfl rfl rfl rfl ?_
 simp only[zW,simprocAttr,i64,ct,bY,w1,Mk.next,Mk.less]
 refine aq mix [] [] (by rfl) ?_
 rw[cS h3 ek]
 have hn:Mk.node (Mk.tree d) (pick m.l m.pos 20) (m.less.next 20).2=(Re.node 3 (bL (Mk.tree d) 4 0 (m.less.next 20).2).1,(bL (Mk.tree d) 4 0 (m.less.next 20).2).2):=by simp [Mk.node,Mk.has,Mk.next,Mk.less,h5,h8]
 rw[hn]
 simp only[zW,simprocAttr,i64,ct,bY,w1,w2,Mk.next,Mk.less,eM,h3,ek,h5,h8]
 refine aL (Gn d hd ht (m.less.next 20).2 (b+2) (by omega) hy (by omega)) rfl rfl rfl rfl rfl (by first|rfl|exact bK _ _) ?_
 simp only[zW,simprocAttr,i64,ct,bY,w1,w2,Mk.next,Mk.less,eM,h3,ek,h5,h8]
 all_goals first|exact⟨rfl,rfl⟩|exact⟨rfl,trivial⟩|rfl|trivial|(rw[ay];rfl)
theorem Kh (d:Nat) (hd:d≤1000) (hz:zD d≤1000000000) (ht:dO d) (m:Mk) (b:Int) (hb:0≤b) (hm:m.In b) (hs:b+cD (d+1)≤1000000000) (h3:¬m.left-1<3) (ek:¬(m.l.length:Int)<m.pos+1) (h5:¬pick m.l m.pos 20<5) (h8:¬pick m.l m.pos 20<8) (eU:pick m.l m.pos 20<12) :
  av prog 28 [ct,i64 (d+1:Nat)] [bY m] fun v s=>v=lk (m.tree (d+1)).1∧s=[bY (m.tree (d+1)).2]:=by
 have hc:=bP d
 have zg:cD (d+1)=2+4*(cD d+1):=rfl
 have w1:IntKind.i64.wrap (m.left-1)=m.left-1:=bU _ (by have:=hm.l0;have:=hm.l1;omega)
 have w2:IntKind.i64.wrap ((d+1:Nat)-1:Int)=(d:Int):=by rw[bU _ (by omega)];omega
 have eM:¬((d+1:Nat):Int)=0:=by omega
 have dC:0≤m.pos∧m.pos≤1000000000:=⟨hm.p0,by have:=hm.p1;omega⟩
 have hy:(m.less.next 20).2.In (b+2):=by have:=hm.left.next 20;rwa [XJ]at this
 have hyp:0≤(m.less.next 20).2.pos∧(m.less.next 20).2.pos≤1000000000:=by have:=hm.p1;simp only[Mk.next,Mk.less];omega
 have c0:=hm.c0
 have c1:=hm.c1
 refine aw func28 rfl ntmps28 results28 rfl 1 499 (by simp) (by simp) ?_
 simp only[zW,simprocAttr,i64,ct,bY,w1]
 refine aL (b8 m.less hm.l dC 20 (by omega)) rfl rfl rfl rfl rfl rfl ?_
 simp only[zW,simprocAttr,i64,ct,bY,w1,Mk.next,Mk.less]
 refine aq mix [] [] (by rfl) ?_
 rw[cS h3 ek]
 have hn:Mk.node (Mk.tree d) (pick m.l m.pos 20) (m.less.next 20).2=Mk.rep (Mk.tree d) (m.less.next 20).2:=by simp [Mk.node,Mk.has,Mk.next,Mk.less,h5,h8,eU]
 rw[hn]
 simp only[zW,simprocAttr,i64,ct,bY,w1,w2,Mk.next,Mk.less,eM,h3,ek,h5,h8,eU]
 refine aL (Ob d hd ht (m.less.next 20).2 (b+2) (by omega) hy (by omega) hz) rfl rfl rfl rfl rfl (by first|rfl|exact bK _ _) ?_
 simp only[zW,simprocAttr,i64,ct,bY,w1,w2,Mk.next,Mk.less,eM,h3,ek,h5,h8,eU]
 all_goals first|exact⟨rfl,rfl⟩|exact⟨rfl,trivial⟩|rfl|trivial|(rw[ay];rfl)
theorem Jm (d:Nat) (hd:d≤1000) (hz:zD d≤1000000000) (ht:dO d) (m:Mk) (b:Int) (hb:0≤b) (hm:m.In b) (hs:b+cD (d+1)≤1000000000) (h3:¬m.left-1<3) (ek:¬(m.l.length:Int)<m.pos+1) (hq:pick m.l m.pos 20=12) (hu:0<gj .and .i64 m.cL 64) :
  av prog 28 [ct,i64 (d+1:Nat)] [bY m] fun v s=>v=lk (m.tree (d+1)).1∧s=[bY (m.tree (d+1)).2]:=by
 have hc:=bP d
 have zg:cD (d+1)=2+4*(cD d+1):=rfl
 have w1:IntKind.i64.wrap (m.left-1)=m.left-1:=bU _ (by have:=hm.l0;have:=hm.l1;omega)
 have w2:IntKind.i64.wrap ((d+1:Nat)-1:Int)=(d:Int):=by rw[bU _ (by omega)];omega
 have eM:¬((d+1:Nat):Int)=0:=by omega
 have dC:0≤m.pos∧m.pos≤1000000000:=⟨hm.p0,by have:=hm.p1;omega⟩
 have hy:(m.less.next 20).2.In (b+2):=by have:=hm.left.next 20;rwa [XJ]at this
 have hyp:0≤(m.less.next 20).2.pos∧(m.less.next 20).2.pos≤1000000000:=by have:=hm.p1;simp only[Mk.next,Mk.less];omega
 have c0:=hm.c0
 have c1:=hm.c1
 refine aw func28 rfl ntmps28 results28 rfl 1 499 (by simp) (by simp) ?_
 simp only[zW,simprocAttr,i64,ct,bY,w1]
 refine aL (b8 m.less hm.l dC 20 (by omega)) rfl rfl rfl rfl rfl rfl ?_
 simp only[zW,simprocAttr,i64,ct,bY,w1,Mk.next,Mk.less]
 refine aq mix [] [] (by rfl) ?_
 rw[cS h3 ek]
 have hn:Mk.node (Mk.tree d) (pick m.l m.pos 20) (m.less.next 20).2=Mk.fx (Mk.tree d) (m.less.next 20).2:=by simp [Mk.node,Mk.has,Mk.next,Mk.less,hq,hu]
 rw[hn]
 simp only[zW,simprocAttr,i64,ct,bY,w1,w2,Mk.next,Mk.less,eM,h3,ek,hq,hu]
 refine aL (xd d hd ht (m.less.next 20).2 (b+2) (by omega) hy (by omega)) rfl rfl rfl rfl rfl (by first|rfl|exact bK _ _) ?_
 simp only[zW,simprocAttr,i64,ct,bY,w1,w2,Mk.next,Mk.less,eM,h3,ek,hq,hu]
 all_goals first|exact⟨rfl,rfl⟩|exact⟨rfl,trivial⟩|rfl|trivial|(rw[ay];rfl)
theorem HK (d:Nat) (hd:d≤1000) (hz:zD d≤1000000000) (ht:dO d) (m:Mk) (b:Int) (hb:0≤b) (hm:m.In b) (hs:b+cD (d+1)≤1000000000) (h3:¬m.left-1<3) (ek:¬(m.l.length:Int)<m.pos+1) (hq:pick m.l m.pos 20=12) (hu:¬0<gj .and .i64 m.cL 64) :
  av prog 28 [ct,i64 (d+1:Nat)] [bY m] fun v s=>v=lk (m.tree (d+1)).1∧s=[bY (m.tree (d+1)).2]:=by
 have hc:=bP d
 have zg:cD (d+1)=2+4*(cD d+1):=rfl
 have w1:IntKind.i64.wrap (m.left-1)=m.left-1:=bU _ (by have:=hm.l0;have:=hm.l1;omega)
 have w2:IntKind.i64.wrap ((d+1:Nat)-1:Int)=(d:Int):=by rw[bU _ (by omega)];omega
 have eM:¬((d+1:Nat):Int)=0:=by omega
 have dC:0≤m.pos∧m.pos≤1000000000:=⟨hm.p0,by have:=hm.p1;omega⟩
 have hy:(m.less.next 20).2.In (b+2):=by have:=hm.left.next 20;rwa [XJ]at this
 have hyp:0≤(m.less.next 20).2.pos∧(m.less.next 20).2.pos≤1000000000:=by have:=hm.p1;simp only[Mk.next,Mk.less];omega
 have c0:=hm.c0
 have c1:=hm.c1
 refine aw func28 rfl ntmps28 results28 rfl 1 499 (by simp) (by simp) ?_
 simp only[zW,simprocAttr,i64,ct,bY,w1]
 refine aL (b8 m.less hm.l dC 20 (by omega)) rfl rfl rfl rfl rfl rfl ?_
 simp only[zW,simprocAttr,i64,ct,bY,w1,Mk.next,Mk.less]
 refine aq mix [] [] (by rfl) ?_
 rw[cS h3 ek]
 have hn:Mk.node (Mk.tree d) (pick m.l m.pos 20) (m.less.next 20).2=(m.less.next 20).2.set:=by simp [Mk.node,Mk.has,Mk.next,Mk.less,hq,hu]
 rw[hn]
 simp only[zW,simprocAttr,i64,ct,bY,w1,w2,Mk.next,Mk.less,eM,h3,ek,hq,hu]
 refine aL (im (m.less.next 20).2 hm.l hyp) rfl rfl rfl rfl rfl (by first|rfl|exact bK _ _) ?_
 simp only[zW,simprocAttr,i64,ct,bY,w1,w2,Mk.next,Mk.less,eM,h3,ek,hq,hu]
 all_goals first|exact⟨rfl,rfl⟩|exact⟨rfl,trivial⟩|rfl|trivial|(rw[ay];rfl)
theorem Jl (d:Nat) (hd:d≤1000) (hz:zD d≤1000000000) (ht:dO d) (m:Mk) (b:Int) (hb:0≤b) (hm:m.In b) (hs:b+cD (d+1)≤1000000000) (h3:¬m.left-1<3) (ek:¬(m.l.length:Int)<m.pos+1) (hq:pick m.l m.pos 20=13) (hu:0<gj .and .i64 m.cL 64) :
  av prog 28 [ct,i64 (d+1:Nat)] [bY m] fun v s=>v=lk (m.tree (d+1)).1∧s=[bY (m.tree (d+1)).2]:=by
 have hc:=bP d
 have zg:cD (d+1)=2+4*(cD d+1):=rfl
 have w1:IntKind.i64.wrap (m.left-1)=m.left-1:=bU _ (by have:=hm.l0;have:=hm.l1;omega)
 have w2:IntKind.i64.wrap ((d+1:Nat)-1:Int)=(d:Int):=by rw[bU _ (by omega)];omega
 have eM:¬((d+1:Nat):Int)=0:=by omega
 have dC:0≤m.pos∧m.pos≤1000000000:=⟨hm.p0,by have:=hm.p1;omega⟩
 have hy:(m.less.next 20).2.In (b+2):=by have:=hm.left.next 20;rwa [XJ]at this
 have hyp:0≤(m.less.next 20).2.pos∧(m.less.next 20).2.pos≤1000000000:=by have:=hm.p1;simp only[Mk.next,Mk.less];omega
 have c0:=hm.c0
 have c1:=hm.c1
 refine aw func28 rfl ntmps28 results28 rfl 1 499 (by simp) (by simp) ?_
 simp only[zW,simprocAttr,i64,ct,bY,w1]
 refine aL (b8 m.less hm.l dC 20 (by omega)) rfl rfl rfl rfl rfl rfl ?_
 simp only[zW,simprocAttr,i64,ct,bY,w1,Mk.next,Mk.less]
 refine aq mix [] [] (by rfl) ?_
 rw[cS h3 ek]
 have hn:Mk.node (Mk.tree d) (pick m.l m.pos 20) (m.less.next 20).2=Mk.fx (Mk.tree d) (m.less.next 20).2:=by simp [Mk.node,Mk.has,Mk.next,Mk.less,hq,hu]
 rw[hn]
 simp only[zW,simprocAttr,i64,ct,bY,w1,w2,Mk.next,Mk.less,eM,h3,ek,hq,hu]
 refine aL (xd d hd ht (m.less.next 20).2 (b+2) (by omega) hy (by omega)) rfl rfl rfl rfl rfl (by first|rfl|exact bK _ _) ?_
 simp only[zW,simprocAttr,i64,ct,bY,w1,w2,Mk.next,Mk.less,eM,h3,ek,hq,hu]
 all_goals first|exact⟨rfl,rfl⟩|exact⟨rfl,trivial⟩|rfl|trivial|(rw[ay];rfl)
theorem Ie (d:Nat) (hd:d≤1000) (hz:zD d≤1000000000) (ht:dO d) (m:Mk) (b:Int) (hb:0≤b) (hm:m.In b) (hs:b+cD (d+1)≤1000000000) (h3:¬m.left-1<3) (ek:¬(m.l.length:Int)<m.pos+1) (hq:pick m.l m.pos 20=13) (hu:¬0<gj .and .i64 m.cL 64) :
  av prog 28 [ct,i64 (d+1:Nat)] [bY m] fun v s=>v=lk (m.tree (d+1)).1∧s=[bY (m.tree (d+1)).2]:=by
 have hc:=bP d
 have zg:cD (d+1)=2+4*(cD d+1):=rfl
 have w1:IntKind.i64.wrap (m.left-1)=m.left-1:=bU _ (by have:=hm.l0;have:=hm.l1;omega)
 have w2:IntKind.i64.wrap ((d+1:Nat)-1:Int)=(d:Int):=by rw[bU _ (by omega)];omega
 have eM:¬((d+1:Nat):Int)=0:=by omega
 have dC:0≤m.pos∧m.pos≤1000000000:=⟨hm.p0,by have:=hm.p1;omega⟩
 have hy:(m.less.next 20).2.In (b+2):=by have:=hm.left.next 20;rwa [XJ]at this
 have hyp:0≤(m.less.next 20).2.pos∧(m.less.next 20).2.pos≤1000000000:=by have:=hm.p1;simp only[Mk.next,Mk.less];omega
 have c0:=hm.c0
 have c1:=hm.c1
 refine aw func28 rfl ntmps28 results28 rfl 1 499 (by simp) (by simp) ?_
 simp only[zW,simprocAttr,i64,ct,bY,w1]
 refine aL (b8 m.less hm.l dC 20 (by omega)) rfl rfl rfl rfl rfl rfl ?_
 simp only[zW,simprocAttr,i64,ct,bY,w1,Mk.next,Mk.less]
 refine aq mix [] [] (by rfl) ?_
 rw[cS h3 ek]
 have hn:Mk.node (Mk.tree d) (pick m.l m.pos 20) (m.less.next 20).2=(m.less.next 20).2.set:=by simp [Mk.node,Mk.has,Mk.next,Mk.less,hq,hu]
 rw[hn]
 simp only[zW,simprocAttr,i64,ct,bY,w1,w2,Mk.next,Mk.less,eM,h3,ek,hq,hu]
 refine aL (im (m.less.next 20).2 hm.l hyp) rfl rfl rfl rfl rfl (by first|rfl|exact bK _ _) ?_
 simp only[zW,simprocAttr,i64,ct,bY,w1,w2,Mk.next,Mk.less,eM,h3,ek,hq,hu]
 all_goals first|exact⟨rfl,rfl⟩|exact⟨rfl,trivial⟩|rfl|trivial|(rw[ay];rfl)
theorem JT (d:Nat) (hd:d≤1000) (hz:zD d≤1000000000) (ht:dO d) (m:Mk) (b:Int) (hb:0≤b) (hm:m.In b) (hs:b+cD (d+1)≤1000000000) (h3:¬m.left-1<3) (ek:¬(m.l.length:Int)<m.pos+1) (hq:pick m.l m.pos 20=14) (hu:0<gj .and .i64 m.cL 16) :
  av prog 28 [ct,i64 (d+1:Nat)] [bY m] fun v s=>v=lk (m.tree (d+1)).1∧s=[bY (m.tree (d+1)).2]:=by
 have hc:=bP d
 have zg:cD (d+1)=2+4*(cD d+1):=rfl
 have w1:IntKind.i64.wrap (m.left-1)=m.left-1:=bU _ (by have:=hm.l0;have:=hm.l1;omega)
 have w2:IntKind.i64.wrap ((d+1:Nat)-1:Int)=(d:Int):=by rw[bU _ (by omega)];omega
 have eM:¬((d+1:Nat):Int)=0:=by omega
 have dC:0≤m.pos∧m.pos≤1000000000:=⟨hm.p0,by have:=hm.p1;omega⟩
 have hy:(m.less.next 20).2.In (b+2):=by have:=hm.left.next 20;rwa [XJ]at this
 have hyp:0≤(m.less.next 20).2.pos∧(m.less.next 20).2.pos≤1000000000:=by have:=hm.p1;simp only[Mk.next,Mk.less];omega
 have c0:=hm.c0
 have c1:=hm.c1
 refine aw func28 rfl ntmps28 results28 rfl 1 499 (by simp) (by simp) ?_
 simp only[zW,simprocAttr,i64,ct,bY,w1]
 refine aL (b8 m.less hm.l dC 20 (by omega)) rfl rfl rfl rfl rfl rfl ?_
 simp only[zW,simprocAttr,i64,ct,bY,w1,Mk.next,Mk.less]
 refine aq mix [] [] (by rfl) ?_
 rw[cS h3 ek]
 have hn:Mk.node (Mk.tree d) (pick m.l m.pos 20) (m.less.next 20).2=(.mk 11 [] [] 0 0 0 (((m.less.next 20).2).next 6).1 false,(((m.less.next 20).2).next 6).2):=by simp [Mk.node,Mk.has,Mk.next,Mk.less,hq,hu]
 rw[hn]
 simp only[zW,simprocAttr,i64,ct,bY,w1,w2,Mk.next,Mk.less,eM,h3,ek,hq,hu]
 refine aL (b8 (m.less.next 20).2 hm.l hyp 6 (by omega)) rfl rfl rfl rfl rfl (by first|rfl|exact bK _ _) ?_
 simp only[zW,simprocAttr,i64,ct,bY,w1,w2,Mk.next,Mk.less,eM,h3,ek,hq,hu]
 all_goals first|exact⟨rfl,rfl⟩|exact⟨rfl,trivial⟩|rfl|trivial|(rw[ay];rfl)
theorem IB (d:Nat) (hd:d≤1000) (hz:zD d≤1000000000) (ht:dO d) (m:Mk) (b:Int) (hb:0≤b) (hm:m.In b) (hs:b+cD (d+1)≤1000000000) (h3:¬m.left-1<3) (ek:¬(m.l.length:Int)<m.pos+1) (hq:pick m.l m.pos 20=14) (hu:¬0<gj .and .i64 m.cL 16) :
  av prog 28 [ct,i64 (d+1:Nat)] [bY m] fun v s=>v=lk (m.tree (d+1)).1∧s=[bY (m.tree (d+1)).2]:=by
 have hc:=bP d
 have zg:cD (d+1)=2+4*(cD d+1):=rfl
 have w1:IntKind.i64.wrap (m.left-1)=m.left-1:=bU _ (by have:=hm.l0;have:=hm.l1;omega)
 have w2:IntKind.i64.wrap ((d+1:Nat)-1:Int)=(d:Int):=by rw[bU _ (by omega)];omega
 have eM:¬((d+1:Nat):Int)=0:=by omega
 have dC:0≤m.pos∧m.pos≤1000000000:=⟨hm.p0,by have:=hm.p1;omega⟩
 have hy:(m.less.next 20).2.In (b+2):=by have:=hm.left.next 20;rwa [XJ]at this
 have hyp:0≤(m.less.next 20).2.pos∧(m.less.next 20).2.pos≤1000000000:=by have:=hm.p1;simp only[Mk.next,Mk.less];omega
 have c0:=hm.c0
 have c1:=hm.c1
 refine aw func28 rfl ntmps28 results28 rfl 1 499 (by simp) (by simp) ?_
 simp only[zW,simprocAttr,i64,ct,bY,w1]
 refine aL (b8 m.less hm.l dC 20 (by omega)) rfl rfl rfl rfl rfl rfl ?_
 simp only[zW,simprocAttr,i64,ct,bY,w1,Mk.next,Mk.less]
 refine aq mix [] [] (by rfl) ?_
 rw[cS h3 ek]
 have hn:Mk.node (Mk.tree d) (pick m.l m.pos 20) (m.less.next 20).2=(m.less.next 20).2.set:=by simp [Mk.node,Mk.has,Mk.next,Mk.less,hq,hu]
 rw[hn]
 simp only[zW,simprocAttr,i64,ct,bY,w1,w2,Mk.next,Mk.less,eM,h3,ek,hq,hu]
 refine aL (im (m.less.next 20).2 hm.l hyp) rfl rfl rfl rfl rfl (by first|rfl|exact bK _ _) ?_
 simp only[zW,simprocAttr,i64,ct,bY,w1,w2,Mk.next,Mk.less,eM,h3,ek,hq,hu]
 all_goals first|exact⟨rfl,rfl⟩|exact⟨rfl,trivial⟩|rfl|trivial|(rw[ay];rfl)
theorem Jf (d:Nat) (hd:d≤1000) (hz:zD d≤1000000000) (ht:dO d) (m:Mk) (b:Int) (hb:0≤b) (hm:m.In b) (hs:b+cD (d+1)≤1000000000) (h3:¬m.left-1<3) (ek:¬(m.l.length:Int)<m.pos+1) (hq:pick m.l m.pos 20=15) (hu:0<gj .and .i64 m.cL 4) :
  av prog 28 [ct,i64 (d+1:Nat)] [bY m] fun v s=>v=lk (m.tree (d+1)).1∧s=[bY (m.tree (d+1)).2]:=by
 have hc:=bP d
 have zg:cD (d+1)=2+4*(cD d+1):=rfl
 have w1:IntKind.i64.wrap (m.left-1)=m.left-1:=bU _ (by have:=hm.l0;have:=hm.l1;omega)
 have w2:IntKind.i64.wrap ((d+1:Nat)-1:Int)=(d:Int):=by rw[bU _ (by omega)];omega
 have eM:¬((d+1:Nat):Int)=0:=by omega
 have dC:0≤m.pos∧m.pos≤1000000000:=⟨hm.p0,by have:=hm.p1;omega⟩
 have hy:(m.less.next 20).2.In (b+2):=by have:=hm.left.next 20;rwa [XJ]at this
 have hyp:0≤(m.less.next 20).2.pos∧(m.less.next 20).2.pos≤1000000000:=by have:=hm.p1;simp only[Mk.next,Mk.less];omega
 have c0:=hm.c0
 have c1:=hm.c1
 refine aw func28 rfl ntmps28 results28 rfl 1 499 (by simp) (by simp) ?_
 simp only[zW,simprocAttr,i64,ct,bY,w1]
 refine aL (b8 m.less hm.l dC 20 (by omega)) rfl rfl rfl rfl rfl rfl ?_
 simp only[zW,simprocAttr,i64,ct,bY,w1,Mk.next,Mk.less]
 refine aq mix [] [] (by rfl) ?_
 rw[cS h3 ek]
 have MI:=cB m.l (m.pos+1+1) 2 (by omega)
 have w3:IntKind.i64.wrap (7+pick m.l (m.pos+1+1) 2)=7+pick m.l (m.pos+1+1) 2:=bU _ (by omega)
 have hn:Mk.node (Mk.tree d) (pick m.l m.pos 20) (m.less.next 20).2=(.mk (7+(((m.less.next 20).2.next 3).2.next 2).1) [] [(Mk.tree d (((m.less.next 20).2.next 3).2.next 2).2).1] 0 0 0 0 (decide (((m.less.next 20).2.next 3).1=0)),(Mk.tree d (((m.less.next 20).2.next 3).2.next 2).2).2):=by simp [Mk.node,Mk.has,Mk.next,Mk.less,hq,hu,w3]
 rw[hn]
 simp only[zW,simprocAttr,i64,ct,bY,w1,w2,Mk.next,Mk.less,eM,h3,ek,hq,hu,w3]
 refine aL (b8 (m.less.next 20).2 hm.l hyp 3 (by omega)) rfl rfl rfl rfl rfl (by first|rfl|exact bK _ _) ?_
 simp only[zW,simprocAttr,i64,ct,bY,w1,w2,Mk.next,Mk.less,eM,h3,ek,hq,hu,w3]
 refine aL (b8 ((m.less.next 20).2.next 3).2 hm.l (by have:=hm.p1;simp only[Mk.next,Mk.less];omega) 2 (by omega)) rfl rfl rfl rfl rfl (by first|rfl|exact bK _ _) ?_
 simp only[zW,simprocAttr,i64,ct,bY,w1,w2,Mk.next,Mk.less,eM,h3,ek,hq,hu,w3]
 refine aL (ht (((m.less.next 20).2.next 3).2.next 2).2 (b+4) (by omega) (((hy.next 3).next 2).mono (by omega)) (by omega)) rfl rfl rfl rfl rfl (by first|rfl|exact bK _ _) ?_
 simp only[zW,simprocAttr,i64,ct,bY,w1,w2,Mk.next,Mk.less,eM,h3,ek,hq,hu,w3]
 all_goals first|exact⟨rfl,rfl⟩|exact⟨rfl,trivial⟩|rfl|trivial|(rw[ay];rfl)
theorem Hn (d:Nat) (hd:d≤1000) (hz:zD d≤1000000000) (ht:dO d) (m:Mk) (b:Int) (hb:0≤b) (hm:m.In b) (hs:b+cD (d+1)≤1000000000) (h3:¬m.left-1<3) (ek:¬(m.l.length:Int)<m.pos+1) (hq:pick m.l m.pos 20=15) (hu:¬0<gj .and .i64 m.cL 4) :
  av prog 28 [ct,i64 (d+1:Nat)] [bY m] fun v s=>v=lk (m.tree (d+1)).1∧s=[bY (m.tree (d+1)).2]:=by
 have hc:=bP d
 have zg:cD (d+1)=2+4*(cD d+1):=rfl
 have w1:IntKind.i64.wrap (m.left-1)=m.left-1:=bU _ (by have:=hm.l0;have:=hm.l1;omega)
 have w2:IntKind.i64.wrap ((d+1:Nat)-1:Int)=(d:Int):=by rw[bU _ (by omega)];omega
 have eM:¬((d+1:Nat):Int)=0:=by omega
 have dC:0≤m.pos∧m.pos≤1000000000:=⟨hm.p0,by have:=hm.p1;omega⟩
 have hy:(m.less.next 20).2.In (b+2):=by have:=hm.left.next 20;rwa [XJ]at this
 have hyp:0≤(m.less.next 20).2.pos∧(m.less.next 20).2.pos≤1000000000:=by have:=hm.p1;simp only[Mk.next,Mk.less];omega
 have c0:=hm.c0
 have c1:=hm.c1
 refine aw func28 rfl ntmps28 results28 rfl 1 499 (by simp) (by simp) ?_
 simp only[zW,simprocAttr,i64,ct,bY,w1]
 refine aL (b8 m.less hm.l dC 20 (by omega)) rfl rfl rfl rfl rfl rfl ?_
 simp only[zW,simprocAttr,i64,ct,bY,w1,Mk.next,Mk.less]
 refine aq mix [] [] (by rfl) ?_
 rw[cS h3 ek]
 have hn:Mk.node (Mk.tree d) (pick m.l m.pos 20) (m.less.next 20).2=(m.less.next 20).2.set:=by simp [Mk.node,Mk.has,Mk.next,Mk.less,hq,hu]
 rw[hn]
 simp only[zW,simprocAttr,i64,ct,bY,w1,w2,Mk.next,Mk.less,eM,h3,ek,hq,hu]
 refine aL (im (m.less.next 20).2 hm.l hyp) rfl rfl rfl rfl rfl (by first|rfl|exact bK _ _) ?_
 simp only[zW,simprocAttr,i64,ct,bY,w1,w2,Mk.next,Mk.less,eM,h3,ek,hq,hu]
 all_goals first|exact⟨rfl,rfl⟩|exact⟨rfl,trivial⟩|rfl|trivial|(rw[ay];rfl)
theorem Le (d:Nat) (hd:d≤1000) (hz:zD d≤1000000000) (ht:dO d) (m:Mk) (b:Int) (hb:0≤b) (hm:m.In b) (hs:b+cD (d+1)≤1000000000) (h3:¬m.left-1<3) (ek:¬(m.l.length:Int)<m.pos+1) (hq:pick m.l m.pos 20=16) (hu:0<gj .and .i64 m.cL 8) :
  av prog 28 [ct,i64 (d+1:Nat)] [bY m] fun v s=>v=lk (m.tree (d+1)).1∧s=[bY (m.tree (d+1)).2]:=by
 have hc:=bP d
 have zg:cD (d+1)=2+4*(cD d+1):=rfl
 have w1:IntKind.i64.wrap (m.left-1)=m.left-1:=bU _ (by have:=hm.l0;have:=hm.l1;omega)
 have w2:IntKind.i64.wrap ((d+1:Nat)-1:Int)=(d:Int):=by rw[bU _ (by omega)];omega
 have eM:¬((d+1:Nat):Int)=0:=by omega
 have dC:0≤m.pos∧m.pos≤1000000000:=⟨hm.p0,by have:=hm.p1;omega⟩
 have hy:(m.less.next 20).2.In (b+2):=by have:=hm.left.next 20;rwa [XJ]at this
 have hyp:0≤(m.less.next 20).2.pos∧(m.less.next 20).2.pos≤1000000000:=by have:=hm.p1;simp only[Mk.next,Mk.less];omega
 have c0:=hm.c0
 have c1:=hm.c1
 refine aw func28 rfl ntmps28 results28 rfl 1 499 (by simp) (by simp) ?_
 simp only[zW,simprocAttr,i64,ct,bY,w1]
 refine aL (b8 m.less hm.l dC 20 (by omega)) rfl rfl rfl rfl rfl rfl ?_
 simp only[zW,simprocAttr,i64,ct,bY,w1,Mk.next,Mk.less]
 refine aq mix [] [] (by rfl) ?_
 rw[cS h3 ek]
 have hn:Mk.node (Mk.tree d) (pick m.l m.pos 20) (m.less.next 20).2=(Re.node 9 [(Mk.tree d (m.less.next 20).2).1],(Mk.tree d (m.less.next 20).2).2):=by simp [Mk.node,Mk.has,Mk.next,Mk.less,hq,hu]
 rw[hn]
 simp only[zW,simprocAttr,i64,ct,bY,w1,w2,Mk.next,Mk.less,eM,h3,ek,hq,hu]
 refine aL (ht (m.less.next 20).2 (b+2) (by omega) hy (by omega)) rfl rfl rfl rfl rfl (by first|rfl|exact bK _ _) ?_
 simp only[zW,simprocAttr,i64,ct,bY,w1,w2,Mk.next,Mk.less,eM,h3,ek,hq,hu]
 all_goals first|exact⟨rfl,rfl⟩|exact⟨rfl,trivial⟩|rfl|trivial|(rw[ay];rfl)
theorem Hv (d:Nat) (hd:d≤1000) (hz:zD d≤1000000000) (ht:dO d) (m:Mk) (b:Int) (hb:0≤b) (hm:m.In b) (hs:b+cD (d+1)≤1000000000) (h3:¬m.left-1<3) (ek:¬(m.l.length:Int)<m.pos+1) (hq:pick m.l m.pos 20=16) (hu:¬0<gj .and .i64 m.cL 8) :
  av prog 28 [ct,i64 (d+1:Nat)] [bY m] fun v s=>v=lk (m.tree (d+1)).1∧s=[bY (m.tree (d+1)).2]:=by
 have hc:=bP d
 have zg:cD (d+1)=2+4*(cD d+1):=rfl
 have w1:IntKind.i64.wrap (m.left-1)=m.left-1:=bU _ (by have:=hm.l0;have:=hm.l1;omega)
 have w2:IntKind.i64.wrap ((d+1:Nat)-1:Int)=(d:Int):=by rw[bU _ (by omega)];omega
 have eM:¬((d+1:Nat):Int)=0:=by omega
 have dC:0≤m.pos∧m.pos≤1000000000:=⟨hm.p0,by have:=hm.p1;omega⟩
 have hy:(m.less.next 20).2.In (b+2):=by have:=hm.left.next 20;rwa [XJ]at this
 have hyp:0≤(m.less.next 20).2.pos∧(m.less.next 20).2.pos≤1000000000:=by have:=hm.p1;simp only[Mk.next,Mk.less];omega
 have c0:=hm.c0
 have c1:=hm.c1
 refine aw func28 rfl ntmps28 results28 rfl 1 499 (by simp) (by simp) ?_
 simp only[zW,simprocAttr,i64,ct,bY,w1]
 refine aL (b8 m.less hm.l dC 20 (by omega)) rfl rfl rfl rfl rfl rfl ?_
 simp only[zW,simprocAttr,i64,ct,bY,w1,Mk.next,Mk.less]
 refine aq mix [] [] (by rfl) ?_
 rw[cS h3 ek]
 have hn:Mk.node (Mk.tree d) (pick m.l m.pos 20) (m.less.next 20).2=(m.less.next 20).2.set:=by simp [Mk.node,Mk.has,Mk.next,Mk.less,hq,hu]
 rw[hn]
 simp only[zW,simprocAttr,i64,ct,bY,w1,w2,Mk.next,Mk.less,eM,h3,ek,hq,hu]
 refine aL (im (m.less.next 20).2 hm.l hyp) rfl rfl rfl rfl rfl (by first|rfl|exact bK _ _) ?_
 simp only[zW,simprocAttr,i64,ct,bY,w1,w2,Mk.next,Mk.less,eM,h3,ek,hq,hu]
 all_goals first|exact⟨rfl,rfl⟩|exact⟨rfl,trivial⟩|rfl|trivial|(rw[ay];rfl)
theorem I2 (d:Nat) (hd:d≤1000) (hz:zD d≤1000000000) (ht:dO d) (m:Mk) (b:Int) (hb:0≤b) (hm:m.In b) (hs:b+cD (d+1)≤1000000000) (h3:¬m.left-1<3) (ek:¬(m.l.length:Int)<m.pos+1) (hq:pick m.l m.pos 20=17) (hu:0<gj .and .i64 m.cL 1) (sw:0<m.ak) :
  av prog 28 [ct,i64 (d+1:Nat)] [bY m] fun v s=>v=lk (m.tree (d+1)).1∧s=[bY (m.tree (d+1)).2]:=by
 have hc:=bP d
 have zg:cD (d+1)=2+4*(cD d+1):=rfl
 have w1:IntKind.i64.wrap (m.left-1)=m.left-1:=bU _ (by have:=hm.l0;have:=hm.l1;omega)
 have w2:IntKind.i64.wrap ((d+1:Nat)-1:Int)=(d:Int):=by rw[bU _ (by omega)];omega
 have eM:¬((d+1:Nat):Int)=0:=by omega
 have dC:0≤m.pos∧m.pos≤1000000000:=⟨hm.p0,by have:=hm.p1;omega⟩
 have hy:(m.less.next 20).2.In (b+2):=by have:=hm.left.next 20;rwa [XJ]at this
 have hyp:0≤(m.less.next 20).2.pos∧(m.less.next 20).2.pos≤1000000000:=by have:=hm.p1;simp only[Mk.next,Mk.less];omega
 have c0:=hm.c0
 have c1:=hm.c1
 refine aw func28 rfl ntmps28 results28 rfl 1 499 (by simp) (by simp) ?_
 simp only[zW,simprocAttr,i64,ct,bY,w1]
 refine aL (b8 m.less hm.l dC 20 (by omega)) rfl rfl rfl rfl rfl rfl ?_
 simp only[zW,simprocAttr,i64,ct,bY,w1,Mk.next,Mk.less]
 refine aq mix [] [] (by rfl) ?_
 rw[cS h3 ek]
 have MI:=cB m.l (m.pos+1) m.ak (by omega)
 have w3:IntKind.i64.wrap (1+pick m.l (m.pos+1) m.ak)=1+pick m.l (m.pos+1) m.ak:=bU _ (by omega)
 have hn:Mk.node (Mk.tree d) (pick m.l m.pos 20) (m.less.next 20).2=(.mk 6 [] [] 0 0 0 (1+((m.less.next 20).2.next m.ak).1) false,((m.less.next 20).2.next m.ak).2):=by simp [Mk.node,Mk.has,Mk.next,Mk.less,hq,hu,sw,w3]
 rw[hn]
 simp only[zW,simprocAttr,i64,ct,bY,w1,w2,Mk.next,Mk.less,eM,h3,ek,hq,hu,sw,w3]
 refine aL (b8 (m.less.next 20).2 hm.l hyp m.ak (by omega)) rfl rfl rfl rfl rfl (by first|rfl|exact bK _ _) ?_
 simp only[zW,simprocAttr,i64,ct,bY,w1,w2,Mk.next,Mk.less,eM,h3,ek,hq,hu,sw,w3]
 all_goals first|exact⟨rfl,rfl⟩|exact⟨rfl,trivial⟩|rfl|trivial|(rw[ay];rfl)
theorem Ih (d:Nat) (hd:d≤1000) (hz:zD d≤1000000000) (ht:dO d) (m:Mk) (b:Int) (hb:0≤b) (hm:m.In b) (hs:b+cD (d+1)≤1000000000) (h3:¬m.left-1<3) (ek:¬(m.l.length:Int)<m.pos+1) (hq:pick m.l m.pos 20=17) (hu:0<gj .and .i64 m.cL 1) (sw:¬0<m.ak) :
  av prog 28 [ct,i64 (d+1:Nat)] [bY m] fun v s=>v=lk (m.tree (d+1)).1∧s=[bY (m.tree (d+1)).2]:=by
 have hc:=bP d
 have zg:cD (d+1)=2+4*(cD d+1):=rfl
 have w1:IntKind.i64.wrap (m.left-1)=m.left-1:=bU _ (by have:=hm.l0;have:=hm.l1;omega)
 have w2:IntKind.i64.wrap ((d+1:Nat)-1:Int)=(d:Int):=by rw[bU _ (by omega)];omega
 have eM:¬((d+1:Nat):Int)=0:=by omega
 have dC:0≤m.pos∧m.pos≤1000000000:=⟨hm.p0,by have:=hm.p1;omega⟩
 have hy:(m.less.next 20).2.In (b+2):=by have:=hm.left.next 20;rwa [XJ]at this
 have hyp:0≤(m.less.next 20).2.pos∧(m.less.next 20).2.pos≤1000000000:=by have:=hm.p1;simp only[Mk.next,Mk.less];omega
 have c0:=hm.c0
 have c1:=hm.c1
 refine aw func28 rfl ntmps28 results28 rfl 1 499 (by simp) (by simp) ?_
 simp only[zW,simprocAttr,i64,ct,bY,w1]
 refine aL (b8 m.less hm.l dC 20 (by omega)) rfl rfl rfl rfl rfl rfl ?_
 simp only[zW,simprocAttr,i64,ct,bY,w1,Mk.next,Mk.less]
 refine aq mix [] [] (by rfl) ?_
 rw[cS h3 ek]
 have hn:Mk.node (Mk.tree d) (pick m.l m.pos 20) (m.less.next 20).2=(m.less.next 20).2.set:=by simp [Mk.node,Mk.has,Mk.next,Mk.less,hq,hu,sw]
 rw[hn]
 simp only[zW,simprocAttr,i64,ct,bY,w1,w2,Mk.next,Mk.less,eM,h3,ek,hq,hu,sw]
 refine aL (im (m.less.next 20).2 hm.l hyp) rfl rfl rfl rfl rfl (by first|rfl|exact bK _ _) ?_
 simp only[zW,simprocAttr,i64,ct,bY,w1,w2,Mk.next,Mk.less,eM,h3,ek,hq,hu,sw]
 all_goals first|exact⟨rfl,rfl⟩|exact⟨rfl,trivial⟩|rfl|trivial|(rw[ay];rfl)
theorem IF (d:Nat) (hd:d≤1000) (hz:zD d≤1000000000) (ht:dO d) (m:Mk) (b:Int) (hb:0≤b) (hm:m.In b) (hs:b+cD (d+1)≤1000000000) (h3:¬m.left-1<3) (ek:¬(m.l.length:Int)<m.pos+1) (hq:pick m.l m.pos 20=17) (hu:¬0<gj .and .i64 m.cL 1) :
  av prog 28 [ct,i64 (d+1:Nat)] [bY m] fun v s=>v=lk (m.tree (d+1)).1∧s=[bY (m.tree (d+1)).2]:=by
 have hc:=bP d
 have zg:cD (d+1)=2+4*(cD d+1):=rfl
 have w1:IntKind.i64.wrap (m.left-1)=m.left-1:=bU _ (by have:=hm.l0;have:=hm.l1;omega)
 have w2:IntKind.i64.wrap ((d+1:Nat)-1:Int)=(d:Int):=by rw[bU _ (by omega)];omega
 have eM:¬((d+1:Nat):Int)=0:=by omega
 have dC:0≤m.pos∧m.pos≤1000000000:=⟨hm.p0,by have:=hm.p1;omega⟩
 have hy:(m.less.next 20).2.In (b+2):=by have:=hm.left.next 20;rwa [XJ]at this
 have hyp:0≤(m.less.next 20).2.pos∧(m.less.next 20).2.pos≤1000000000:=by have:=hm.p1;simp only[Mk.next,Mk.less];omega
 have c0:=hm.c0
 have c1:=hm.c1
 refine aw func28 rfl ntmps28 results28 rfl 1 499 (by simp) (by simp) ?_
 simp only[zW,simprocAttr,i64,ct,bY,w1]
 refine aL (b8 m.less hm.l dC 20 (by omega)) rfl rfl rfl rfl rfl rfl ?_
 simp only[zW,simprocAttr,i64,ct,bY,w1,Mk.next,Mk.less]
 refine aq mix [] [] (by rfl) ?_
 rw[cS h3 ek]
 have hn:Mk.node (Mk.tree d) (pick m.l m.pos 20) (m.less.next 20).2=(m.less.next 20).2.set:=by simp [Mk.node,Mk.has,Mk.next,Mk.less,hq,hu]
 rw[hn]
 simp only[zW,simprocAttr,i64,ct,bY,w1,w2,Mk.next,Mk.less,eM,h3,ek,hq,hu]
 refine aL (im (m.less.next 20).2 hm.l hyp) rfl rfl rfl rfl rfl (by first|rfl|exact bK _ _) ?_
 simp only[zW,simprocAttr,i64,ct,bY,w1,w2,Mk.next,Mk.less,eM,h3,ek,hq,hu]
 all_goals first|exact⟨rfl,rfl⟩|exact⟨rfl,trivial⟩|rfl|trivial|(rw[ay];rfl)
theorem Ky (d:Nat) (hd:d≤1000) (hz:zD d≤1000000000) (ht:dO d) (m:Mk) (b:Int) (hb:0≤b) (hm:m.In b) (hs:b+cD (d+1)≤1000000000) (h3:¬m.left-1<3) (ek:¬(m.l.length:Int)<m.pos+1) (hq:pick m.l m.pos 20=18) (hu:0<gj .and .i64 m.cL 2) (sw:0<m.ak) :
  av prog 28 [ct,i64 (d+1:Nat)] [bY m] fun v s=>v=lk (m.tree (d+1)).1∧s=[bY (m.tree (d+1)).2]:=by
 have hc:=bP d
 have zg:cD (d+1)=2+4*(cD d+1):=rfl
 have w1:IntKind.i64.wrap (m.left-1)=m.left-1:=bU _ (by have:=hm.l0;have:=hm.l1;omega)
 have w2:IntKind.i64.wrap ((d+1:Nat)-1:Int)=(d:Int):=by rw[bU _ (by omega)];omega
 have eM:¬((d+1:Nat):Int)=0:=by omega
 have dC:0≤m.pos∧m.pos≤1000000000:=⟨hm.p0,by have:=hm.p1;omega⟩
 have hy:(m.less.next 20).2.In (b+2):=by have:=hm.left.next 20;rwa [XJ]at this
 have hyp:0≤(m.less.next 20).2.pos∧(m.less.next 20).2.pos≤1000000000:=by have:=hm.p1;simp only[Mk.next,Mk.less];omega
 have c0:=hm.c0
 have c1:=hm.c1
 refine aw func28 rfl ntmps28 results28 rfl 1 499 (by simp) (by simp) ?_
 simp only[zW,simprocAttr,i64,ct,bY,w1]
 refine aL (b8 m.less hm.l dC 20 (by omega)) rfl rfl rfl rfl rfl rfl ?_
 simp only[zW,simprocAttr,i64,ct,bY,w1,Mk.next,Mk.less]
 refine aq mix [] [] (by rfl) ?_
 rw[cS h3 ek]
 have MI:=cB m.l (m.pos+1) m.ak (by omega)
 have w3:IntKind.i64.wrap (1+pick m.l (m.pos+1) m.ak)=1+pick m.l (m.pos+1) m.ak:=bU _ (by omega)
 obtain⟨g1,g2⟩:=gT d ((m.less.next 20).2.next m.ak).2 (b+3) (by omega) ((hy.next m.ak).mono (by omega))
 have hn:Mk.node (Mk.tree d) (pick m.l m.pos 20) (m.less.next 20).2=(.mk 10 [] [(Mk.tree d ((m.less.next 20).2.next m.ak).2).1,(Mk.tree d (Mk.tree d ((m.less.next 20).2.next m.ak).2).2).1] 0 0 0 (1+((m.less.next 20).2.next m.ak).1) false,(Mk.tree d (Mk.tree d ((m.less.next 20).2.next m.ak).2).2).2):=by simp [Mk.node,Mk.has,Mk.next,Mk.less,hq,hu,sw,w3]
 rw[hn]
 simp only[zW,simprocAttr,i64,ct,bY,w1,w2,Mk.next,Mk.less,eM,h3,ek,hq,hu,sw,w3]
 refine aL (b8 (m.less.next 20).2 hm.l hyp m.ak (by omega)) rfl rfl rfl rfl rfl (by first|rfl|exact bK _ _) ?_
 simp only[zW,simprocAttr,i64,ct,bY,w1,w2,Mk.next,Mk.less,eM,h3,ek,hq,hu,sw,w3]
 refine aL (ht ((m.less.next 20).2.next m.ak).2 (b+3) (by omega) ((hy.next m.ak).mono (by omega)) (by omega)) rfl rfl rfl rfl rfl (by first|rfl|exact bK _ _) ?_
 simp only[zW,simprocAttr,i64,ct,bY,w1,w2,Mk.next,Mk.less,eM,h3,ek,hq,hu,sw,w3]
 refine aq mix [8] [(1,[2],[]),(5,[0],[0])] (by rfl) ?_
 simp only[zW,simprocAttr,i64,ct,bY,w1,w2,Mk.next,Mk.less,eM,h3,ek,hq,hu,sw,w3]
 refine zZ (ht (Mk.tree d ((m.less.next 20).2.next m.ak).2).2 (b+3+cD d) (by omega) g1 (by omega)) rfl rfl rfl rfl rfl (bK _ _) ?_
 simp only[zW,simprocAttr,i64,ct,bY,w1,w2,Mk.next,Mk.less,eM,h3,ek,hq,hu,sw,w3]
 all_goals first|exact⟨rfl,rfl⟩|exact⟨rfl,trivial⟩|rfl|trivial|(rw[ay];rfl)
theorem HB (d:Nat) (hd:d≤1000) (hz:zD d≤1000000000) (ht:dO d) (m:Mk) (b:Int) (hb:0≤b) (hm:m.In b) (hs:b+cD (d+1)≤1000000000) (h3:¬m.left-1<3) (ek:¬(m.l.length:Int)<m.pos+1) (hq:pick m.l m.pos 20=18) (hu:0<gj .and .i64 m.cL 2) (sw:¬0<m.ak) :
  av prog 28 [ct,i64 (d+1:Nat)] [bY m] fun v s=>v=lk (m.tree (d+1)).1∧s=[bY (m.tree (d+1)).2]:=by
 have hc:=bP d
 have zg:cD (d+1)=2+4*(cD d+1):=rfl
 have w1:IntKind.i64.wrap (m.left-1)=m.left-1:=bU _ (by have:=hm.l0;have:=hm.l1;omega)
 have w2:IntKind.i64.wrap ((d+1:Nat)-1:Int)=(d:Int):=by rw[bU _ (by omega)];omega
 have eM:¬((d+1:Nat):Int)=0:=by omega
 have dC:0≤m.pos∧m.pos≤1000000000:=⟨hm.p0,by have:=hm.p1;omega⟩
 have hy:(m.less.next 20).2.In (b+2):=by have:=hm.left.next 20;rwa [XJ]at this
 have hyp:0≤(m.less.next 20).2.pos∧(m.less.next 20).2.pos≤1000000000:=by have:=hm.p1;simp only[Mk.next,Mk.less];omega
 have c0:=hm.c0
 have c1:=hm.c1
 refine aw func28 rfl ntmps28 results28 rfl 1 499 (by simp) (by simp) ?_
 simp only[zW,simprocAttr,i64,ct,bY,w1]
 refine aL (b8 m.less hm.l dC 20 (by omega)) rfl rfl rfl rfl rfl rfl ?_
 simp only[zW,simprocAttr,i64,ct,bY,w1,Mk.next,Mk.less]
 refine aq mix [] [] (by rfl) ?_
 rw[cS h3 ek]
 have hn:Mk.node (Mk.tree d) (pick m.l m.pos 20) (m.less.next 20).2=(m.less.next 20).2.set:=by simp [Mk.node,Mk.has,Mk.next,Mk.less,hq,hu,sw]
 rw[hn]
 simp only[zW,simprocAttr,i64,ct,bY,w1,w2,Mk.next,Mk.less,eM,h3,ek,hq,hu,sw]
 refine aL (im (m.less.next 20).2 hm.l hyp) rfl rfl rfl rfl rfl (by first|rfl|exact bK _ _) ?_
 simp only[zW,simprocAttr,i64,ct,bY,w1,w2,Mk.next,Mk.less,eM,h3,ek,hq,hu,sw]
 all_goals first|exact⟨rfl,rfl⟩|exact⟨rfl,trivial⟩|rfl|trivial|(rw[ay];rfl)
theorem Ir (d:Nat) (hd:d≤1000) (hz:zD d≤1000000000) (ht:dO d) (m:Mk) (b:Int) (hb:0≤b) (hm:m.In b) (hs:b+cD (d+1)≤1000000000) (h3:¬m.left-1<3) (ek:¬(m.l.length:Int)<m.pos+1) (hq:pick m.l m.pos 20=18) (hu:¬0<gj .and .i64 m.cL 2) :
  av prog 28 [ct,i64 (d+1:Nat)] [bY m] fun v s=>v=lk (m.tree (d+1)).1∧s=[bY (m.tree (d+1)).2]:=by
 have hc:=bP d
 have zg:cD (d+1)=2+4*(cD d+1):=rfl
 have w1:IntKind.i64.wrap (m.left-1)=m.left-1:=bU _ (by have:=hm.l0;have:=hm.l1;omega)
 have w2:IntKind.i64.wrap ((d+1:Nat)-1:Int)=(d:Int):=by rw[bU _ (by omega)];omega
 have eM:¬((d+1:Nat):Int)=0:=by omega
 have dC:0≤m.pos∧m.pos≤1000000000:=⟨hm.p0,by have:=hm.p1;omega⟩
 have hy:(m.less.next 20).2.In (b+2):=by have:=hm.left.next 20;rwa [XJ]at this
 have hyp:0≤(m.less.next 20).2.pos∧(m.less.next 20).2.pos≤1000000000:=by have:=hm.p1;simp only[Mk.next,Mk.less];omega
 have c0:=hm.c0
 have c1:=hm.c1
 refine aw func28 rfl ntmps28 results28 rfl 1 499 (by simp) (by simp) ?_
 simp only[zW,simprocAttr,i64,ct,bY,w1]
 refine aL (b8 m.less hm.l dC 20 (by omega)) rfl rfl rfl rfl rfl rfl ?_
 simp only[zW,simprocAttr,i64,ct,bY,w1,Mk.next,Mk.less]
 refine aq mix [] [] (by rfl) ?_
 rw[cS h3 ek]
 have hn:Mk.node (Mk.tree d) (pick m.l m.pos 20) (m.less.next 20).2=(m.less.next 20).2.set:=by simp [Mk.node,Mk.has,Mk.next,Mk.less,hq,hu]
 rw[hn]
 simp only[zW,simprocAttr,i64,ct,bY,w1,w2,Mk.next,Mk.less,eM,h3,ek,hq,hu]
 refine aL (im (m.less.next 20).2 hm.l hyp) rfl rfl rfl rfl rfl (by first|rfl|exact bK _ _) ?_
 simp only[zW,simprocAttr,i64,ct,bY,w1,w2,Mk.next,Mk.less,eM,h3,ek,hq,hu]
 all_goals first|exact⟨rfl,rfl⟩|exact⟨rfl,trivial⟩|rfl|trivial|(rw[ay];rfl)
theorem Kp (d:Nat) (hd:d≤1000) (hz:zD d≤1000000000) (ht:dO d) (m:Mk) (b:Int) (hb:0≤b) (hm:m.In b) (hs:b+cD (d+1)≤1000000000) (h3:¬m.left-1<3) (ek:¬(m.l.length:Int)<m.pos+1) (hq:pick m.l m.pos 20=19) :
  av prog 28 [ct,i64 (d+1:Nat)] [bY m] fun v s=>v=lk (m.tree (d+1)).1∧s=[bY (m.tree (d+1)).2]:=by
 have hc:=bP d
 have zg:cD (d+1)=2+4*(cD d+1):=rfl
 have w1:IntKind.i64.wrap (m.left-1)=m.left-1:=bU _ (by have:=hm.l0;have:=hm.l1;omega)
 have w2:IntKind.i64.wrap ((d+1:Nat)-1:Int)=(d:Int):=by rw[bU _ (by omega)];omega
 have eM:¬((d+1:Nat):Int)=0:=by omega
 have dC:0≤m.pos∧m.pos≤1000000000:=⟨hm.p0,by have:=hm.p1;omega⟩
 have hy:(m.less.next 20).2.In (b+2):=by have:=hm.left.next 20;rwa [XJ]at this
 have hyp:0≤(m.less.next 20).2.pos∧(m.less.next 20).2.pos≤1000000000:=by have:=hm.p1;simp only[Mk.next,Mk.less];omega
 have c0:=hm.c0
 have c1:=hm.c1
 refine aw func28 rfl ntmps28 results28 rfl 1 499 (by simp) (by simp) ?_
 simp only[zW,simprocAttr,i64,ct,bY,w1]
 refine aL (b8 m.less hm.l dC 20 (by omega)) rfl rfl rfl rfl rfl rfl ?_
 simp only[zW,simprocAttr,i64,ct,bY,w1,Mk.next,Mk.less]
 refine aq mix [] [] (by rfl) ?_
 rw[cS h3 ek]
 have hn:Mk.node (Mk.tree d) (pick m.l m.pos 20) (m.less.next 20).2=(m.less.next 20).2.set:=by simp [Mk.node,Mk.has,Mk.next,Mk.less,hq]
 rw[hn]
 simp only[zW,simprocAttr,i64,ct,bY,w1,w2,Mk.next,Mk.less,eM,h3,ek,hq]
 refine aL (im (m.less.next 20).2 hm.l hyp) rfl rfl rfl rfl rfl (by first|rfl|exact bK _ _) ?_
 simp only[zW,simprocAttr,i64,ct,bY,w1,w2,Mk.next,Mk.less,eM,h3,ek,hq]
 all_goals first|exact⟨rfl,rfl⟩|exact⟨rfl,trivial⟩|rfl|trivial|(rw[ay];rfl)
theorem Hr (d:Nat) (hd:d≤1000) (hz:zD d≤1000000000) (ht:dO d):dO (d+1):=by
 intro m b hb hm hs
 have hk:=cB m.l m.pos 20 (by omega)
 by_cases h3:m.left-1<3
 ·exact FW d hd hz ht m b hb hm hs h3
 by_cases ek:(m.l.length:Int)<m.pos+1
 ·exact Ep d hd hz ht m b hb hm hs h3 ek
 by_cases h5:pick m.l m.pos 20<5
 ·exact Jt d hd hz ht m b hb hm hs h3 ek h5
 by_cases h8:pick m.l m.pos 20<8
 ·exact KU d hd hz ht m b hb hm hs h3 ek h5 h8
 by_cases eU:pick m.l m.pos 20<12
 ·exact Kh d hd hz ht m b hb hm hs h3 ek h5 h8 eU
 have rE:pick m.l m.pos 20=12∨pick m.l m.pos 20=13∨pick m.l m.pos 20=14∨pick m.l m.pos 20=15∨pick m.l m.pos 20=16∨pick m.l m.pos 20=17∨pick m.l m.pos 20=18∨pick m.l m.pos 20=19:=by omega
 rcases rE with hq|hq|hq|hq|hq|hq|hq|hq
 ·by_cases hu:0<gj .and .i64 m.cL 64
  ·exact Jm d hd hz ht m b hb hm hs h3 ek hq hu
  ·exact HK d hd hz ht m b hb hm hs h3 ek hq hu
 ·by_cases hu:0<gj .and .i64 m.cL 64
  ·exact Jl d hd hz ht m b hb hm hs h3 ek hq hu
  ·exact Ie d hd hz ht m b hb hm hs h3 ek hq hu
 ·by_cases hu:0<gj .and .i64 m.cL 16
  ·exact JT d hd hz ht m b hb hm hs h3 ek hq hu
  ·exact IB d hd hz ht m b hb hm hs h3 ek hq hu
 ·by_cases hu:0<gj .and .i64 m.cL 4
  ·exact Jf d hd hz ht m b hb hm hs h3 ek hq hu
  ·exact Hn d hd hz ht m b hb hm hs h3 ek hq hu
 ·by_cases hu:0<gj .and .i64 m.cL 8
  ·exact Le d hd hz ht m b hb hm hs h3 ek hq hu
  ·exact Hv d hd hz ht m b hb hm hs h3 ek hq hu
 ·by_cases hu:0<gj .and .i64 m.cL 1
  ·by_cases sw:0<m.ak
   ·exact I2 d hd hz ht m b hb hm hs h3 ek hq hu sw
   ·exact Ih d hd hz ht m b hb hm hs h3 ek hq hu sw
  ·exact IF d hd hz ht m b hb hm hs h3 ek hq hu
 ·by_cases hu:0<gj .and .i64 m.cL 2
  ·by_cases sw:0<m.ak
   ·exact Ky d hd hz ht m b hb hm hs h3 ek hq hu sw
   ·exact HB d hd hz ht m b hb hm hs h3 ek hq hu sw
  ·exact Ir d hd hz ht m b hb hm hs h3 ek hq hu
 ·exact Kp d hd hz ht m b hb hm hs h3 ek hq
theorem GP:∀d,d≤1000→zD d≤1000000000→dO d
 |0,_,_=>HR
 |d+1,hd,hz=>Hr d (by omega) (by have:=uq d;simp only[zD]at hz;omega) (GP d (by omega) (by have:=uq d;simp only[zD]at hz;omega))
structure fj where
 re:Re
 ak:Int
 bk:Bool
def cN (p:fj):V:=.ag (p.re.cells.map .d++[i64 p.ak,bV p.bk])
def mY (l:List Int) (cL ah:Int):fj :=
 let x:=Mk.tree 5 ⟨l,0,cL,ah,0⟩
 ⟨x.1,x.2.ak,false⟩
theorem Jc (ρ:List Nat) (m:Mk):bX ρ (bY m)=bY m:=rfl
theorem xk (re:Re) (l:List V):(re.cells.map V.d++l).take 8=re.cells.map V.d:=List.take_left' (by simp [Re.gm])
theorem xJ (re:Re) (l:List V) (n:Nat):(re.cells.map V.d++l).drop (n+8)=l.drop n:=by
 rw[Nat.add_comm,← List.drop_drop,List.drop_left' (by simp [Re.gm])]
theorem Fz (l:List Int) (cL ah:Int) (hl:∀x∈l,jX x) (h0:0≤ah) (h1:ah≤1000000):br prog 11 [.d (aB l),i64 cL,i64 ah] (cN (mY l cL ah)):=by
 refine aw func11 rfl ntmps11 results11 rfl 0 455 (by simp) (by simp) ?_
 simp only[zW,simprocAttr,i64]
 refine AV 1 (GP 5 (by omega) (by decide) ⟨l,0,cL,ah,0⟩ 0 (by omega) ⟨hl,by simp,by simp,by simpa using h0,h1,by simp,by simp⟩ (by decide)) rfl rfl rfl rfl (bK _ _) ?_
 rw[Jc]
 have hR:mY l cL ah=⟨(Mk.tree 5 ⟨l,0,cL,ah,0⟩).1,(Mk.tree 5 ⟨l,0,cL,ah,0⟩).2.ak,false⟩:=rfl
 rw[hR]
 generalize Mk.tree 5 ⟨l,0,cL,ah,0⟩=R
 simp only[zW,simprocAttr,i64]
 refine aq mix [6] [] (by rfl) ?_
 simp only[zW,simprocAttr,i64,bY,xk,xJ,W5]
 simp only[zW,simprocAttr,Re.ae,cN,bV,i64]
end Go.Proofs.YtmihcpdhcillaaaGreat
