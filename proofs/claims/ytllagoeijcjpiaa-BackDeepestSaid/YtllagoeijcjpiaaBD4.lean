/- A part of the proof (F17 F18 F19 F20 F21 F6 F7 F8 F9 F10 F14 F23 F24 F25). -/
import Derived.Test.YtllagoeijcjpiaaBD3
set_option linter.unusedSimpArgs false
set_option linter.unusedVariables false
set_option maxRecDepth 100000
set_option maxHeartbeats 80000000
set_option linter.unusedSimpArgs false
set_option linter.unusedVariables false
namespace Go.Proofs.Ytllagoeijcjpiaa
open Go.VL Go.Proofs.Try
end Go.Proofs.Ytllagoeijcjpiaa
namespace Go.Proofs.Ytllagoeijcjpiaa
open Go.VL Go.Proofs.Try
end Go.Proofs.Ytllagoeijcjpiaa
namespace Go.Proofs.Ytllagoeijcjpiaa
open Go.VL Go.Proofs.Try
mutual
def Re.every (p:Re→Bool):Re→Bool
 |.mk op set kids mn mx mode n neg=>p (.mk op set kids mn mx mode n neg)&&Re.Bh p kids
def Re.Bh (p:Re→Bool):List Re→Bool
 |[]=>true
 |k::l=>Re.every p k&&Re.Bh p l
end
theorem Re.xd (p:Re→Bool):∀l:List Re,Re.Bh p l=l.all (Re.every p)
 |[]=>rfl
 |k::l=>by simp [Re.Bh,Re.xd p l]
theorem Re.cS {p:Re→Bool} (re:Re):re.every p=true ↔ p re=true∧∀k∈re.kids,k.every p=true:=by
 cases re with
 |mk op set kids mn mx mode n neg=>simp only[Re.every,VE,Re.xd,VT,Re.kids]
def Mk.has (m:Mk) (u:Int):Bool:=decide (0<gE .and .i64 m.cU u)
def Re.node (op:Int) (kids:List Re):Re:=.mk op [] kids 0 0 0 0 false
def bF (t:Mk→Re×Mk):Nat→Int→Mk→List Re×Mk
 |0,_,m=>([],m)
 |f+1,i,m =>
  if i<2+(m.next 2).1 then
   (((t (m.next 2).2).1)::(bF t f (i+1) (t (m.next 2).2).2).1,(bF t f (i+1) (t (m.next 2).2).2).2)
  else ([],(m.next 2).2)
def kg:List Int:=[0,0,0,0,1,1,1,0,2,0,1,2]
def iL:List Int:=[-1,-1,-1,1,-1,-1,2,2,2,3,1,-1]
def gL (m:Mk):Int×Mk :=
 let x:=m.next 2
 if m.has 8 then (if (x.2.next 4).1=0 then 2 else x.1,(x.2.next 4).2) else x
def jI (t:Mk→Re×Mk) (m:Mk):Re×Mk :=
 let x:=t m
 if gE .and .i64 x.2.cU 32=0∧x.1.vf=true then x.2.set else x
def Mk.rep (t:Mk→Re×Mk) (m:Mk):Re×Mk :=
 let k:=m.next 12
 let md:=gL k.2
 let kid:=jI t md.2
 (.mk 4 [] [kid.1] ((kg[k.1.toNat]?).getD 0) ((iL[k.1.toNat]?).getD 0) md.1 0 false,kid.2)
def eI (m:Mk):Int×Mk :=
 let again (m:Mk):Int×Mk:=(1+(m.next (max 1 m.ai)).1,(m.next (max 1 m.ai)).2)
 if 4<m.ai+1 then again m
 else if 0<m.ai then (if (m.next 9).1=0 then again (m.next 9).2 else (m.ai+1,(m.next 9).2))
 else (m.ai+1,m)
def Mk.jr (m:Mk) (c:Int):Mk:=⟨m.l,m.pos,m.cU,m.left,c⟩
def Mk.less (m:Mk):Mk:=⟨m.l,m.pos,m.cU,m.left-1,m.ai⟩
def Mk.gN (t:Mk→Re×Mk) (m:Mk):Re×Mk :=
 let c:=eI m
 let r:=t (c.2.jr (max c.2.ai c.1))
 (.mk 5 [] [r.1] 0 0 0 c.1 false,r.2)
def Mk.node (t:Mk→Re×Mk) (k:Int) (m:Mk):Re×Mk :=
 if k<5 then (Re.node 2 (bF t 4 0 m).1,(bF t 4 0 m).2)
 else if k<8 then (Re.node 3 (bF t 4 0 m).1,(bF t 4 0 m).2)
 else if k<12 then m.rep t
 else if k=12∧m.has 64=true then m.gN t
 else if k=13∧m.has 64=true then m.gN t
 else if k=14∧m.has 16=true then (.mk 11 [] [] 0 0 0 (m.next 6).1 false,(m.next 6).2)
 else if k=15∧m.has 4=true then
  let y:=(m.next 3).2.next 2
  (.mk (7+y.1) [] [(t y.2).1] 0 0 0 0 (decide ((m.next 3).1=0)),(t y.2).2)
 else if k=16∧m.has 8=true then (Re.node 9 [(t m).1],(t m).2)
 else if k=17∧m.has 1=true∧0<m.ai then (.mk 6 [] [] 0 0 0 (1+(m.next m.ai).1) false,(m.next m.ai).2)
 else if k=18∧m.has 2=true∧0<m.ai then
  let x:=m.next m.ai
  let y:=t x.2
  let z:=t y.2
  (.mk 10 [] [y.1,z.1] 0 0 0 (1+x.1) false,z.2)
 else m.set
def Mk.tree:Nat→Mk→Re×Mk
 |0,m =>
  let x:=m.less.next 20
  if x.1=0 then (Re.node 0 [],x.2) else x.2.set
 |d+1,m =>
  let x:=m.less.next 20
  if x.2.left<3∨(x.2.l.length:Int)<x.2.pos then (if x.1=0 then (Re.node 0 [],x.2) else x.2.set)
  else x.2.node (Mk.tree d) x.1
structure Mk.In (m:Mk) (b:Int):Prop where
 l:∀x∈m.l,iV x
 p0:0≤m.pos
 p1:m.pos≤b
 l0:-b≤m.left
 l1:m.left≤1000000
 c0:0≤m.ai
 c1:m.ai≤4
theorem Mk.In.mono {m:Mk}{b b':Int} (h:m.In b) (hb:b≤b'):m.In b' :=
 ⟨h.l,h.p0,by have:=h.p1;omega,by have:=h.l0;omega,h.l1,h.c0,h.c1⟩
theorem Mk.In.next {m:Mk}{b:Int} (h:m.In b) (n:Int):(m.next n).2.In (b+1) :=
 ⟨h.l,by have:=h.p0;simp only[Mk.next];omega,by have:=h.p1;simp only[Mk.next];omega,by have:=h.l0;simp only[Mk.next];omega,h.l1,h.c0,h.c1⟩
theorem Mk.In.set {m:Mk}{b:Int} (h:m.In b):m.set.2.In (b+1):=h.next 15
def Good (t:Mk→Re×Mk) (c z:Int):Prop:=∀m b,0≤b→Mk.In m b→(t m).2.In (b+c)∧((t m).1.size:Int)≤z
theorem ox (s:List (Int×Int)):(Re.Ks s).size=1:=rfl
theorem rD {t:Mk→Re×Mk}{c z:Int} (hc:0≤c) (ht:Good t c z):∀(f:Nat) (i:Int) (m:Mk) (b:Int),0≤b→m.In b →
  (bF t f i m).2.In (b+f*(c+1))∧(Re.dQ (bF t f i m).1:Int)≤((bF t f i m).1.length:Int)*z∧(bF t f i m).1.length≤f
 |0,i,m,b,_,h=>by simp only[bF];exact⟨by simpa using h,by simp [Re.dQ],by simp⟩
 |f+1,i,m,b,hb,h=>by
  simp only[bF]
  have hf:(0:Int)≤f*(c+1):=Int.mul_nonneg (by omega) (by omega)
  have e:((f+1:Nat):Int)*(c+1)=f*(c+1)+c+1:=by rw[Wt,Int.add_mul];simp;omega
  split
  ·have h1:=h.next 2
   obtain⟨h2,h3⟩:=ht _ (b+1) (by omega) h1
   obtain⟨h4,h5,h6⟩:=rD hc ht f (i+1) _ (b+1+c) (by omega) h2
   refine⟨h4.mono (by omega),?_,by simpa using h6⟩
   simp only[Re.dQ,VC,Wt,Int.add_mul]
   omega
  ·exact⟨(h.next 2).mono (by omega),by simp [Re.dQ],by simp⟩
theorem yd {m:Mk}{b:Int} (h:m.In b):(gL m).2.In (b+2):=by
 unfold gL
 simp only
 split
 ·have:=(h.next 2).next 4
  rwa [show b+1+1=b+2 by omega]at this
 ·exact(h.next 2).mono (by omega)
theorem Cd {t:Mk→Re×Mk}{c z:Int} (hc:0≤c) (hz:1≤z) (ht:Good t c z):Good (jI t) (c+1) z:=by
 intro m b hb h
 obtain⟨h1,h2⟩:=ht m b hb h
 unfold jI
 simp only
 split
 ·exact⟨by have:=h1.set;rwa [Wh]at this,by simp only[Mk.set];rw[ox];omega⟩
 ·exact⟨h1.mono (by omega),h2⟩
theorem pt (op mn mx mode n:Int) (neg:Bool) (k:Re):((Re.mk op [] [k] mn mx mode n neg).size:Int)=1+k.size:=by
 simp [Re.size,Re.dQ]
theorem I8 {t:Mk→Re×Mk}{c z:Int} (hc:0≤c) (hz:1≤z) (ht:Good t c z):Good (Mk.rep t) (c+4) (z+1):=by
 intro m b hb h
 have h1:=yd (h.next 12)
 obtain⟨h2,h3⟩:=Cd hc hz ht _ _ (by omega) h1
 simp only[Mk.rep]
 exact⟨h2.mono (by omega),by rw[pt];omega⟩
theorem uM {m:Mk}{b:Int} (h:m.In b):(eI m).2.In (b+2)∧(eI m).2.ai=m.ai∧1≤(eI m).1∧(eI m).1≤4:=by
 have h0:=h.c0
 have h1:=h.c1
 have again:∀(m':Mk),m'.ai=m.ai→0<m.ai→0≤pick m'.l m'.pos (max 1 m'.ai)∧pick m'.l m'.pos (max 1 m'.ai)<m.ai:=by
  intro m' he hp
  have:=cK m'.l m'.pos (max 1 m'.ai) (by omega)
  rw[he]at this ⊢
  omega
 unfold eI
 simp only
 split
 ·have:=again m rfl (by omega)
  exact⟨(h.next (max 1 m.ai)).mono (by omega),rfl,by simp only[Mk.next];omega,by simp only[Mk.next];omega⟩
 ·split
  ·split
   ·have:=again (m.next 9).2 rfl (by omega)
    refine⟨?_,rfl,by simp only[Mk.next]at this ⊢;omega,by simp only[Mk.next]at this ⊢;omega⟩
    have h2:=(h.next 9).next (max 1 (m.next 9).2.ai)
    rwa [show b+1+1=b+2 by omega]at h2
   ·exact⟨(h.next 9).mono (by omega),rfl,by omega,by omega⟩
  ·exact⟨h.mono (by omega),rfl,by omega,by omega⟩
theorem td {t:Mk→Re×Mk}{c z:Int} (hc:0≤c) (ht:Good t c z):Good (Mk.gN t) (c+2) (z+1):=by
 intro m b hb h
 obtain⟨h1,h2,h3,h4⟩:=uM h
 simp only[Mk.gN]
 obtain⟨h5,h6⟩:=ht ((eI m).2.jr (max (eI m).2.ai (eI m).1)) (b+2) (by omega) ⟨h1.l,h1.p0,h1.p1,h1.l0,h1.l1,by show 0≤max _ _;omega,by have:=h.c1;show max _ _≤4;omega⟩
 exact⟨h5.mono (by omega),by rw[pt];omega⟩
theorem Hy {t:Mk→Re×Mk}{c z:Int} (hc:0≤c) (hz:1≤z) (ht:Good t c z) (k:Int):Good (Mk.node t k) (4*(c+1)) (4*z+1):=by
 intro m b hb h
 obtain⟨a1,a2,a3⟩:=rD hc ht 4 0 m b hb h
 have Ve:(Re.dQ (bF t 4 0 m).1:Int)≤4*z:=by
  have:((bF t 4 0 m).1.length:Int)*z≤4*z:=Int.mul_le_mul_of_nonneg_right (by omega) (by omega)
  omega
 have Te:(bF t 4 0 m).2.In (b+4*(c+1)):=a1
 have sz:∀op,((Re.node op (bF t 4 0 m).1).size:Int)≤4*z+1:=by intro op;simp only[Re.node,Re.size];omega
 unfold Mk.node
 split
 ·exact⟨Te,sz _⟩
 split
 ·exact⟨Te,sz _⟩
 split
 ·obtain⟨h1,h2⟩:=I8 hc hz ht m b hb h
  exact⟨h1.mono (by omega),by omega⟩
 split
 ·obtain⟨h1,h2⟩:=td hc ht m b hb h
  exact⟨h1.mono (by omega),by omega⟩
 split
 ·obtain⟨h1,h2⟩:=td hc ht m b hb h
  exact⟨h1.mono (by omega),by omega⟩
 split
 ·exact⟨(h.next 6).mono (by omega),by simp [Re.size,Re.dQ];omega⟩
 split
 ·simp only
  obtain⟨h1,h2⟩:=ht _ (b+1+1) (by omega) ((h.next 3).next 2)
  exact⟨h1.mono (by omega),by rw[pt];omega⟩
 split
 ·obtain⟨h1,h2⟩:=ht m b hb h
  exact⟨h1.mono (by omega),by simp only[Re.node];rw[pt];omega⟩
 split
 ·exact⟨(h.next m.ai).mono (by omega),by simp [Re.size,Re.dQ];omega⟩
 split
 ·simp only
  obtain⟨h1,h2⟩:=ht _ (b+1) (by omega) (h.next m.ai)
  obtain⟨h3,h4⟩:=ht _ (b+1+c) (by omega) h1
  exact⟨h3.mono (by omega),by simp only[Re.size,Re.dQ];omega⟩
 ·exact⟨h.set.mono (by omega),by simp only[Mk.set];rw[ox];omega⟩
def cD:Nat→Int
 |0=>3
 |d+1=>2+4*(cD d+1)
def zD:Nat→Int
 |0=>1
 |d+1=>4*zD d+1
theorem bT:∀d,3≤cD d
 |0=>by simp [cD]
 |d+1=>by have:=bT d;simp only[cD];omega
theorem tW:∀d,1≤zD d
 |0=>by simp [zD]
 |d+1=>by have:=tW d;simp only[zD];omega
theorem Mk.In.left {m:Mk}{b:Int} (h:m.In b):m.less.In (b+1) :=
 ⟨h.l,h.p0,by have:=h.p1;show m.pos≤_;omega,by have:=h.l0;show _≤m.left-1;omega,by have:=h.l1;show m.left-1≤_;omega,h.c0,h.c1⟩
theorem iq:∀d,Good (Mk.tree d) (cD d) (zD d)
 |0=>by
  intro m b hb h
  have h1:=h.left.next 20
  simp only[Mk.tree,cD,zD]
  split
  ·exact⟨h1.mono (by omega),by simp [Re.node,Re.size,Re.dQ]⟩
  ·exact⟨h1.set.mono (by omega),by simp only[Mk.set];rw[ox];omega⟩
 |d+1=>by
  intro m b hb h
  have h1:=h.left.next 20
  have hc:=bT d
  have hz:=tW d
  simp only[Mk.tree,cD,zD]
  split
  ·split
   ·exact⟨h1.mono (by omega),by simp [Re.node,Re.size,Re.dQ];omega⟩
   ·exact⟨h1.set.mono (by omega),by simp only[Mk.set];rw[ox];omega⟩
  ·obtain⟨h2,h3⟩:=Hy (by omega) hz (iq d) ((m.less.next 20).1) _ (b+1+1) (by omega) h1
   exact⟨h2.mono (by omega),h3⟩
def dU (d:Nat):Prop:=∀(m:Mk) (b:Int),0≤b→m.In b→b+cD d≤1000000000 →
 az prog 34 [cy,i64 d] [bZ m] fun v s=>v=lq (m.tree d).1∧s=[bZ (m.tree d).2]
theorem vc {t:Mk→Re×Mk}{f:Nat}{i:Int}{m:Mk} (h:i<2+(m.next 2).1):bF t (f+1) i m=((t (m.next 2).2).1::(bF t f (i+1) (t (m.next 2).2).2).1,(bF t f (i+1) (t (m.next 2).2).2).2):=by
 rw[bF,if_pos h]
theorem yR {t:Mk→Re×Mk}{f:Nat}{i:Int}{m:Mk} (h:¬i<2+(m.next 2).1):bF t (f+1) i m=([],(m.next 2).2):=by
 rw[bF,if_neg h]
def Pm (l:List Re):D:=.sl (l.map Re.cells)
theorem GH (d:Nat) (hd:d≤1000) (ht:dU d) (m:Mk) (b:Int) (hb:0≤b) (hm:m.In b) (hs:b+4*(cD d+1)≤1000000000) :
  az prog 70 [cy,i64 (d+1:Nat)] [bZ m] fun v s=>v=.d (Pm (bF (Mk.tree d) 4 0 m).1)∧s=[bZ (bF (Mk.tree d) 4 0 m).2]:=by
 have hc:=bT d
 have w1:IntKind.i64.wrap ((d+1:Nat)-1:Int)=(d:Int):=by rw[bR _ (by omega)];omega
 refine av func70 rfl ntmps70 results70 rfl 1 115 (by simp) (by simp) ?_
 simp only[zW,simprocAttr,i64,cy]
 refine aY (fun n e s=>∃(i:Nat) (m':Mk) (l:List Re),n=4-i∧i≤3∧m'.In (b+i*(cD d+1))∧l.length=i∧e 0=.rf 0 0 0 0∧e 1=i64 (d+1:Nat)∧e 6=i64 i ∧
   bF (Mk.tree d) 4 0 m=(l++(bF (Mk.tree d) (4-i) i m').1,(bF (Mk.tree d) (4-i) i m').2) ∧
   ((i=0∧e 5=.fu []∧s=[bZ m'])∨∃g,e 5=.so 1 g 0 i∧s=[bZ m',⟨g,true,8,(l.map Re.cells).map fun c=>c.map V.d⟩])) ⟨_,_,_,dt.refl,0,m,[],rfl,by omega,by simpa using hm,rfl,rfl,rfl,rfl,by simp,.inl ⟨rfl,rfl,rfl⟩⟩ ?_
 rintro n e s ⟨i,m',l,rfl,hi,nu,hl,h0,h1,h6,hk,kz⟩
 have hp:=cK m'.l m'.pos 2 (by omega)
 have w2:IntKind.i64.wrap (2+pick m'.l m'.pos 2)=2+pick m'.l m'.pos 2:=bR _ (by omega)
 have Vg:(i:Int)*(cD d+1)+(cD d+1)≤4*(cD d+1):=by
  have:=Int.mul_le_mul_of_nonneg_right (show (i:Int)+1≤4 by omega) (show (0:Int)≤cD d+1 by omega)
  rw[Int.add_mul,Int.one_mul]at this;exact this
 have TN:0≤(i:Int)*(cD d+1):=Int.mul_nonneg (by omega) (by omega)
 have dv:0≤m'.pos∧m'.pos≤1000000000:=⟨nu.p0,by have:=nu.p1;omega⟩
 have hf:4-i=(3-i)+1:=by omega
 rw[hf]at hk
 rcases kz with ⟨rfl,h5,rfl⟩|⟨g,h5,rfl⟩
 ·simp only[zW,simprocAttr,i64,h0,h1,h6,cy]
  refine au (cb m' nu.l dv 2 (by omega)) rfl rfl rfl rfl rfl rfl ?_
  have aT:(0:Int)<2+pick m'.l m'.pos 2:=by omega
  simp only[zW,simprocAttr,i64,h0,h1,h6,cy,Mk.next,w1,w2,aT,VG]
  refine au (ht (m'.next 2).2 (b+1) (by omega) (by simpa using nu.next 2) (by omega)) rfl rfl rfl rfl rfl (bE _ _) ?_
  simp only[zW,simprocAttr,i64,h0,h1,h5,h6,cy,Mk.next,w1,w2,aT,VG]
  obtain⟨g1,g2⟩:=iq d (m'.next 2).2 (b+1) (by omega) (by simpa using nu.next 2)
  refine⟨fun x hx=>by rw[List.mem_singleton.1 hx];simp [Re.gF],by simp,3,_,_,by omega,dt.refl,1,((Mk.tree d) (m'.next 2).2).2,[((Mk.tree d) (m'.next 2).2).1],rfl,by omega,g1.mono (by simp;omega),rfl,?_,?_,?_,?_,.inr ⟨0,?_,?_⟩⟩
  ·simp only[zU,Nat.reduceBEq,Nat.reduceShiftRight,Nat.reduceMod,Nat.reduceEqDiff,reduceIte];exact h0
  ·simp only[zU,Nat.reduceBEq,Nat.reduceShiftRight,Nat.reduceMod,Nat.reduceEqDiff,reduceIte];exact h1
  ·simp only[zU,Nat.reduceBEq,Nat.reduceShiftRight,Nat.reduceMod,Nat.reduceEqDiff,reduceIte];rw[bR _ (by omega)];rfl
  ·rw[hk,vc (by simpa [Mk.next]using aT)]
   have:l=[]:=VD hl
   subst this
   rfl
  ·simp only[zU,Nat.reduceBEq,Nat.reduceShiftRight,Nat.reduceMod,Nat.reduceEqDiff,reduceIte]
  ·rfl
 ·by_cases aT:(i:Int)<2+pick m'.l m'.pos 2
  ·rw[vc (f:=3-i) (i:=i) (m:=m') (by simpa [Mk.next]using aT)]at hk
   obtain⟨g1,g2⟩:=iq d (m'.next 2).2 (b+i*(cD d+1)+1) (by omega) (nu.next 2)
   simp only[zW,simprocAttr,i64,h0,h1,h6,cy]
   refine au (cb m' nu.l dv 2 (by omega)) rfl rfl rfl rfl rfl rfl ?_
   simp only[zW,simprocAttr,i64,h0,h1,h6,cy,Mk.next,w1,w2,aT]
   refine au (ht (m'.next 2).2 (b+i*(cD d+1)+1) (by omega) (nu.next 2) (by omega)) rfl rfl rfl rfl rfl (bE _ _) ?_
   simp only[zW,simprocAttr,i64,h0,h1,h5,h6,cy,Mk.next,w1,w2,aT]
   refine⟨fun x hx=>by rw[List.mem_singleton.1 hx];simp [Re.gF],⟨by omega,by omega⟩,4-(i+1),_,_,by omega,dt.refl,i+1,((Mk.tree d) (m'.next 2).2).2,l++[((Mk.tree d) (m'.next 2).2).1],rfl,?_,g1.mono ?_,by simp [hl],?_,?_,?_,?_,.inr ⟨g+1,?_,?_⟩⟩
   ·omega
   ·rw[Wt,Int.add_mul];simp;omega
   ·simp only[zU,Nat.reduceBEq,Nat.reduceShiftRight,Nat.reduceMod,Nat.reduceEqDiff,reduceIte];exact h0
   ·simp only[zU,Nat.reduceBEq,Nat.reduceShiftRight,Nat.reduceMod,Nat.reduceEqDiff,reduceIte];exact h1
   ·simp only[zU,Nat.reduceBEq,Nat.reduceShiftRight,Nat.reduceMod,Nat.reduceEqDiff,reduceIte];rw[bR _ (by omega)];rfl
   ·rw[hk,show 4-(i+1)=3-i by omega];simp
   ·simp only[zU,Nat.reduceBEq,Nat.reduceShiftRight,Nat.reduceMod,Nat.reduceEqDiff,reduceIte]
   ·simp [hl,← List.map_take,VZ (Nat.le_of_eq hl)];exact⟨rfl,rfl⟩
  ·rw[yR (f:=3-i) (i:=i) (m:=m') (by simpa [Mk.next]using aT)]at hk
   simp only[zW,simprocAttr,i64,h0,h1,h6,cy]
   refine au (cb m' nu.l dv 2 (by omega)) rfl rfl rfl rfl rfl rfl ?_
   have hle:0+i≤l.length:=by omega
   have yi:((l.map Re.cells).map fun c=>c.map V.d).take i=(l.map Re.cells).map fun c=>c.map V.d:=VZ (by simp [hl])
   simp only[zW,simprocAttr,i64,h0,h1,h5,h6,cy,Mk.next,w1,w2,aT,hle,yi]
   rw[hk]
   exact⟨rfl,by simp [Pm],rfl⟩
theorem xM (d:Nat) (hd:d≤1000) (ht:dU d) (m:Mk) (b:Int) (hb:0≤b) (hm:m.In b) (hs:b+(cD d+2)≤1000000000) :
  az prog 72 [cy,i64 (d+1:Nat)] [bZ m] fun v s=>v=lq (m.gN (Mk.tree d)).1∧s=[bZ (m.gN (Mk.tree d)).2]:=by
 have hc:=bT d
 have c0:=hm.c0
 have c1:=hm.c1
 have w1:IntKind.i64.wrap ((d+1:Nat)-1:Int)=(d:Int):=by rw[bR _ (by omega)];omega
 have w2:IntKind.i64.wrap (m.ai+1)=m.ai+1:=bR _ (by omega)
 have dv:0≤m.pos∧m.pos≤1000000000:=⟨hm.p0,by have:=hm.p1;omega⟩
 obtain⟨g1,g2,g3,g4⟩:=uM hm
 refine av func72 rfl ntmps72 results72 rfl 1 51 (by simp) (by simp) ?_
 have Gp:∀m':Mk,m'.In (b+2)→m'.ai=m.ai→∀n:Int,1≤n→n≤4→(m'.jr (max m'.ai n)).In (b+2):=fun m' h he n h1 h2=>⟨h.l,h.p0,h.p1,h.l0,h.l1,by show 0≤max _ _;omega,by show max _ _≤4;omega⟩
 by_cases h4:4<m.ai+1
 ·have hp:=cK m.l m.pos (max 1 m.ai) (by omega)
  have w3:IntKind.i64.wrap (1+pick m.l m.pos (max 1 m.ai))=1+pick m.l m.pos (max 1 m.ai):=bR _ (by omega)
  simp only[zW,simprocAttr,i64,cy,bZ,w1,w2,h4]
  refine au (cb m hm.l dv (max 1 m.ai) (by omega)) rfl rfl rfl rfl rfl rfl ?_
  simp only[zW,simprocAttr,i64,cy,bZ,w1,w2,h4,Mk.next,w3]
  refine au (ht ((m.next (max 1 m.ai)).2.jr (max m.ai (1+pick m.l m.pos (max 1 m.ai)))) (b+2) (by omega) (Gp _ ((hm.next _).mono (by omega)) rfl _ (by omega) (by omega)) (by omega)) rfl rfl rfl rfl rfl (bE _ _) ?_
  simp only[zW,simprocAttr,i64,cy,bZ,w1,w2,h4,Mk.next,w3]
  have vL:eI m=(1+pick m.l m.pos (max 1 m.ai),(m.next (max 1 m.ai)).2):=by simp [eI,h4,Mk.next]
  simp only[Mk.gN,vL]
  first|exact⟨rfl,rfl⟩|exact⟨rfl,trivial⟩
 by_cases h0:0<m.ai
 ·simp only[zW,simprocAttr,i64,cy,bZ,w1,w2,h4,h0]
  refine au (cb m hm.l dv 9 (by omega)) rfl rfl rfl rfl rfl rfl ?_
  by_cases h9:pick m.l m.pos 9=0
  ·have hp:=cK m.l (m.pos+1) (max 1 m.ai) (by omega)
   have w3:IntKind.i64.wrap (1+pick m.l (m.pos+1) (max 1 m.ai))=1+pick m.l (m.pos+1) (max 1 m.ai):=bR _ (by omega)
   simp only[zW,simprocAttr,i64,cy,bZ,w1,w2,h4,Mk.next,h9]
   refine au (cb (m.next 9).2 hm.l (by have:=hm.p1;simp only[Mk.next];omega) (max 1 m.ai) (by omega)) rfl rfl rfl rfl rfl rfl ?_
   simp only[zW,simprocAttr,i64,cy,bZ,w1,w2,h4,Mk.next,w3]
   refine au (ht (((m.next 9).2.next (max 1 m.ai)).2.jr (max m.ai (1+pick m.l (m.pos+1) (max 1 m.ai)))) (b+2) (by omega) (Gp _ (((hm.next 9).next _).mono (by omega)) rfl _ (by omega) (by omega)) (by omega)) rfl rfl rfl rfl rfl (bE _ _) ?_
   simp only[zW,simprocAttr,i64,cy,bZ,w1,w2,h4,Mk.next,w3]
   have vL:eI m=(1+pick m.l (m.pos+1) (max 1 m.ai),((m.next 9).2.next (max 1 m.ai)).2):=by simp [eI,h4,h0,h9,Mk.next]
   simp only[Mk.gN,vL]
   first|exact⟨rfl,rfl⟩|exact⟨rfl,trivial⟩
  ·simp only[zW,simprocAttr,i64,cy,bZ,w1,w2,h4,Mk.next,h9]
   refine au (ht ((m.next 9).2.jr (max m.ai (m.ai+1))) (b+2) (by omega) (Gp _ ((hm.next 9).mono (by omega)) rfl _ (by omega) (by omega)) (by omega)) rfl rfl rfl rfl rfl (bE _ _) ?_
   simp only[zW,simprocAttr,i64,cy,bZ,w1,w2,h4,Mk.next]
   have vL:eI m=(m.ai+1,(m.next 9).2):=by simp [eI,h4,h0,h9,Mk.next]
   simp only[Mk.gN,vL]
   first|exact⟨rfl,rfl⟩|exact⟨rfl,trivial⟩
 ·simp only[zW,simprocAttr,i64,cy,bZ,w1,w2,h4,h0]
  refine au (ht (m.jr (max m.ai (m.ai+1))) (b+2) (by omega) (Gp _ (hm.mono (by omega)) rfl _ (by omega) (by omega)) (by omega)) rfl rfl rfl rfl rfl (bE _ _) ?_
  simp only[zW,simprocAttr,i64,cy,bZ,w1,w2,h4]
  have vL:eI m=(m.ai+1,m):=by simp [eI,h4,h0]
  simp only[Mk.gN,vL]
  first|exact⟨rfl,rfl⟩|exact⟨rfl,trivial⟩
theorem Oy (d:Nat) (hd:d≤1000) (ht:dU d) (m:Mk) (b:Int) (hb:0≤b) (hm:m.In b) (hs:b+(cD d+4)≤1000000000) (hz:zD d≤1000000000) :
  az prog 71 [cy,i64 (d+1:Nat)] [bZ m] fun v s=>v=lq (m.rep (Mk.tree d)).1∧s=[bZ (m.rep (Mk.tree d)).2]:=by
 have hc:=bT d
 have w1:IntKind.i64.wrap ((d+1:Nat)-1:Int)=(d:Int):=by rw[bR _ (by omega)];omega
 have dv:0≤m.pos∧m.pos≤1000000000:=⟨hm.p0,by have:=hm.p1;omega⟩
 have hk:=cK m.l m.pos 12 (by omega)
 have vo:(pick m.l m.pos 12).toNat<12:=by omega
 have IJ:([[D.sc (Value.int IntKind.i64 0)],[D.sc (Value.int IntKind.i64 0)],[D.sc (Value.int IntKind.i64 0)],[D.sc (Value.int IntKind.i64 0)],[D.sc (Value.int IntKind.i64 1)],[D.sc (Value.int IntKind.i64 1)],[D.sc (Value.int IntKind.i64 1)],[D.sc (Value.int IntKind.i64 0)],[D.sc (Value.int IntKind.i64 2)],[D.sc (Value.int IntKind.i64 0)],[D.sc (Value.int IntKind.i64 1)],[D.sc (Value.int IntKind.i64 2)]]:List (List D))[(pick m.l m.pos 12).toNat]?=some [D.sc (Value.int IntKind.i64 ((kg[(pick m.l m.pos 12).toNat]?).getD 0))]:=by
  rw[show ([[D.sc (Value.int IntKind.i64 0)],[D.sc (Value.int IntKind.i64 0)],[D.sc (Value.int IntKind.i64 0)],[D.sc (Value.int IntKind.i64 0)],[D.sc (Value.int IntKind.i64 1)],[D.sc (Value.int IntKind.i64 1)],[D.sc (Value.int IntKind.i64 1)],[D.sc (Value.int IntKind.i64 0)],[D.sc (Value.int IntKind.i64 2)],[D.sc (Value.int IntKind.i64 0)],[D.sc (Value.int IntKind.i64 1)],[D.sc (Value.int IntKind.i64 2)]]:List (List D))=kg.map (fun x=>[D.sc (Value.int IntKind.i64 x)]) from rfl,VB,Vu (show (pick m.l m.pos 12).toNat<kg.length from vo)];rfl
 have Kj:([[D.sc (Value.int IntKind.i64 (-1))],[D.sc (Value.int IntKind.i64 (-1))],[D.sc (Value.int IntKind.i64 (-1))],[D.sc (Value.int IntKind.i64 1)],[D.sc (Value.int IntKind.i64 (-1))],[D.sc (Value.int IntKind.i64 (-1))],[D.sc (Value.int IntKind.i64 2)],[D.sc (Value.int IntKind.i64 2)],[D.sc (Value.int IntKind.i64 2)],[D.sc (Value.int IntKind.i64 3)],[D.sc (Value.int IntKind.i64 1)],[D.sc (Value.int IntKind.i64 (-1))]]:List (List D))[(pick m.l m.pos 12).toNat]?=some [D.sc (Value.int IntKind.i64 ((iL[(pick m.l m.pos 12).toNat]?).getD 0))]:=by
  rw[show ([[D.sc (Value.int IntKind.i64 (-1))],[D.sc (Value.int IntKind.i64 (-1))],[D.sc (Value.int IntKind.i64 (-1))],[D.sc (Value.int IntKind.i64 1)],[D.sc (Value.int IntKind.i64 (-1))],[D.sc (Value.int IntKind.i64 (-1))],[D.sc (Value.int IntKind.i64 2)],[D.sc (Value.int IntKind.i64 2)],[D.sc (Value.int IntKind.i64 2)],[D.sc (Value.int IntKind.i64 3)],[D.sc (Value.int IntKind.i64 1)],[D.sc (Value.int IntKind.i64 (-1))]]:List (List D))=iL.map (fun x=>[D.sc (Value.int IntKind.i64 x)]) from rfl,VB,Vu (show (pick m.l m.pos 12).toNat<iL.length from vo)];rfl
 refine av func71 rfl ntmps71 results71 rfl 1 243 (by simp) (by simp) ?_
 simp only[zW,simprocAttr,i64,cy,bZ,w1]
 refine au (cb m hm.l dv 12 (by omega)) rfl rfl rfl rfl rfl rfl ?_
 simp only[zW,simprocAttr,i64,cy,bZ,w1,Mk.next]
 refine aK bL.aV ?_
 refine an mix [12] [(9,[0],[0]),(11,[2],[2])] (by rfl) ?_
 simp only[zW,simprocAttr,i64,cy,bZ,w1,Mk.next,IJ,Kj]
 refine⟨hk.1,by omega,hk.1,by omega,?_⟩
 refine y8 (cb (m.next 12).2 hm.l (by have:=hm.p1;simp only[Mk.next];omega) 2 (by omega)) rfl rfl rfl rfl rfl rfl ?_
 by_cases h8:0<gE .and .i64 m.cU 8
 ·simp only[zW,simprocAttr,i64,cy,bZ,w1,Mk.next,IJ,Kj,h8]
  refine au (cb ((m.next 12).2.next 2).2 hm.l (by have:=hm.p1;simp only[Mk.next];omega) 4 (by omega)) rfl rfl rfl rfl rfl rfl ?_
  by_cases h4:pick m.l (m.pos+1+1) 4=0
  ·simp only[zW,simprocAttr,i64,cy,bZ,w1,Mk.next,h4]
   obtain⟨g1,g2⟩:=iq d (((m.next 12).2.next 2).2.next 4).2 (b+3) (by omega) ((((hm.next 12).next 2).next 4).mono (by omega))
   refine au (ht (((m.next 12).2.next 2).2.next 4).2 (b+3) (by omega) ((((hm.next 12).next 2).next 4).mono (by omega)) (by omega)) rfl rfl rfl rfl rfl (bE _ _) ?_
   have N1:gL (m.next 12).2=(2,(((m.next 12).2.next 2).2.next 4).2):=by simp [gL,Mk.has,h8,Mk.next,h4]
   have hrep:m.rep (Mk.tree d)=(.mk 4 [] [(jI (Mk.tree d) (((m.next 12).2.next 2).2.next 4).2).1] ((kg[(pick m.l m.pos 12).toNat]?).getD 0) ((iL[(pick m.l m.pos 12).toNat]?).getD 0) 2 0 false,(jI (Mk.tree d) (((m.next 12).2.next 2).2.next 4).2).2):=by simp only[Mk.rep,N1];rfl
   have NV:jI (Mk.tree d) (((m.next 12).2.next 2).2.next 4).2=if gE .and .i64 (Mk.tree d (((m.next 12).2.next 2).2.next 4).2).2.cU 32=0∧(Mk.tree d (((m.next 12).2.next 2).2.next 4).2).1.vf=true then (Mk.tree d (((m.next 12).2.next 2).2.next 4).2).2.set else Mk.tree d (((m.next 12).2.next 2).2.next 4).2:=rfl
   rw[hrep,NV]
   generalize Mk.tree d (((m.next 12).2.next 2).2.next 4).2=R at *
   by_cases jE:gE .and .i64 R.2.cU 32=0
   ·simp only[zW,simprocAttr,i64,cy,bZ,w1,Mk.next,jE]
    refine aE (lL R.1 (by omega)) (by simp [ar,ar.go,aw,i64,bV,ck]) (by simp [ar,ar.go,aw,i64,bV,ck]) ?_
    cases hn:R.1.vf with
    |true =>
     simp only[zW,simprocAttr,i64,bV,cy,bZ,w1,Mk.next,jE,hn]
     refine au (iz R.2 g1.l ⟨g1.p0,by have:=g1.p1;omega⟩) rfl rfl rfl rfl rfl (bE _ _) ?_
     simp only[zW,simprocAttr,i64,bV,cy,bZ,w1,Mk.next,jE,hn]
     all_goals first|exact⟨rfl,rfl⟩|exact⟨rfl,trivial⟩|rfl|trivial|(rw[aw];rfl)
    |false =>
     simp only[zW,simprocAttr,i64,bV,cy,bZ,w1,Mk.next,jE,hn]
     all_goals first|exact⟨rfl,rfl⟩|exact⟨rfl,trivial⟩|rfl|trivial|(rw[aw];rfl)
   ·simp only[zW,simprocAttr,i64,cy,bZ,w1,Mk.next,jE]
    all_goals first|exact⟨rfl,rfl⟩|exact⟨rfl,trivial⟩|rfl|trivial|(rw[aw];rfl)
  ·simp only[zW,simprocAttr,i64,cy,bZ,w1,Mk.next,h4]
   obtain⟨g1,g2⟩:=iq d (((m.next 12).2.next 2).2.next 4).2 (b+3) (by omega) ((((hm.next 12).next 2).next 4).mono (by omega))
   refine au (ht (((m.next 12).2.next 2).2.next 4).2 (b+3) (by omega) ((((hm.next 12).next 2).next 4).mono (by omega)) (by omega)) rfl rfl rfl rfl rfl (bE _ _) ?_
   have N1:gL (m.next 12).2=((pick m.l (m.pos+1) 2),(((m.next 12).2.next 2).2.next 4).2):=by simp [gL,Mk.has,h8,Mk.next,h4]
   have hrep:m.rep (Mk.tree d)=(.mk 4 [] [(jI (Mk.tree d) (((m.next 12).2.next 2).2.next 4).2).1] ((kg[(pick m.l m.pos 12).toNat]?).getD 0) ((iL[(pick m.l m.pos 12).toNat]?).getD 0) (pick m.l (m.pos+1) 2) 0 false,(jI (Mk.tree d) (((m.next 12).2.next 2).2.next 4).2).2):=by simp only[Mk.rep,N1];rfl
   have NV:jI (Mk.tree d) (((m.next 12).2.next 2).2.next 4).2=if gE .and .i64 (Mk.tree d (((m.next 12).2.next 2).2.next 4).2).2.cU 32=0∧(Mk.tree d (((m.next 12).2.next 2).2.next 4).2).1.vf=true then (Mk.tree d (((m.next 12).2.next 2).2.next 4).2).2.set else Mk.tree d (((m.next 12).2.next 2).2.next 4).2:=rfl
   rw[hrep,NV]
   generalize Mk.tree d (((m.next 12).2.next 2).2.next 4).2=R at *
   by_cases jE:gE .and .i64 R.2.cU 32=0
   ·simp only[zW,simprocAttr,i64,cy,bZ,w1,Mk.next,jE]
    refine aE (lL R.1 (by omega)) (by simp [ar,ar.go,aw,i64,bV,ck]) (by simp [ar,ar.go,aw,i64,bV,ck]) ?_
    cases hn:R.1.vf with
    |true =>
     simp only[zW,simprocAttr,i64,bV,cy,bZ,w1,Mk.next,jE,hn]
     refine au (iz R.2 g1.l ⟨g1.p0,by have:=g1.p1;omega⟩) rfl rfl rfl rfl rfl (bE _ _) ?_
     simp only[zW,simprocAttr,i64,bV,cy,bZ,w1,Mk.next,jE,hn]
     all_goals first|exact⟨rfl,rfl⟩|exact⟨rfl,trivial⟩|rfl|trivial|(rw[aw];rfl)
    |false =>
     simp only[zW,simprocAttr,i64,bV,cy,bZ,w1,Mk.next,jE,hn]
     all_goals first|exact⟨rfl,rfl⟩|exact⟨rfl,trivial⟩|rfl|trivial|(rw[aw];rfl)
   ·simp only[zW,simprocAttr,i64,cy,bZ,w1,Mk.next,jE]
    all_goals first|exact⟨rfl,rfl⟩|exact⟨rfl,trivial⟩|rfl|trivial|(rw[aw];rfl)
 ·simp only[zW,simprocAttr,i64,cy,bZ,w1,Mk.next,IJ,Kj,h8]
  obtain⟨g1,g2⟩:=iq d ((m.next 12).2.next 2).2 (b+3) (by omega) (((hm.next 12).next 2).mono (by omega))
  refine au (ht ((m.next 12).2.next 2).2 (b+3) (by omega) (((hm.next 12).next 2).mono (by omega)) (by omega)) rfl rfl rfl rfl rfl (bE _ _) ?_
  have N1:gL (m.next 12).2=((pick m.l (m.pos+1) 2),((m.next 12).2.next 2).2):=by simp [gL,Mk.has,h8,Mk.next]
  have hrep:m.rep (Mk.tree d)=(.mk 4 [] [(jI (Mk.tree d) ((m.next 12).2.next 2).2).1] ((kg[(pick m.l m.pos 12).toNat]?).getD 0) ((iL[(pick m.l m.pos 12).toNat]?).getD 0) (pick m.l (m.pos+1) 2) 0 false,(jI (Mk.tree d) ((m.next 12).2.next 2).2).2):=by simp only[Mk.rep,N1];rfl
  have NV:jI (Mk.tree d) ((m.next 12).2.next 2).2=if gE .and .i64 (Mk.tree d ((m.next 12).2.next 2).2).2.cU 32=0∧(Mk.tree d ((m.next 12).2.next 2).2).1.vf=true then (Mk.tree d ((m.next 12).2.next 2).2).2.set else Mk.tree d ((m.next 12).2.next 2).2:=rfl
  rw[hrep,NV]
  generalize Mk.tree d ((m.next 12).2.next 2).2=R at *
  by_cases jE:gE .and .i64 R.2.cU 32=0
  ·simp only[zW,simprocAttr,i64,cy,bZ,w1,Mk.next,jE]
   refine aE (lL R.1 (by omega)) (by simp [ar,ar.go,aw,i64,bV,ck]) (by simp [ar,ar.go,aw,i64,bV,ck]) ?_
   cases hn:R.1.vf with
   |true =>
    simp only[zW,simprocAttr,i64,bV,cy,bZ,w1,Mk.next,jE,hn]
    refine au (iz R.2 g1.l ⟨g1.p0,by have:=g1.p1;omega⟩) rfl rfl rfl rfl rfl (bE _ _) ?_
    simp only[zW,simprocAttr,i64,bV,cy,bZ,w1,Mk.next,jE,hn]
    all_goals first|exact⟨rfl,rfl⟩|exact⟨rfl,trivial⟩|rfl|trivial|(rw[aw];rfl)
   |false =>
    simp only[zW,simprocAttr,i64,bV,cy,bZ,w1,Mk.next,jE,hn]
    all_goals first|exact⟨rfl,rfl⟩|exact⟨rfl,trivial⟩|rfl|trivial|(rw[aw];rfl)
  ·simp only[zW,simprocAttr,i64,cy,bZ,w1,Mk.next,jE]
   all_goals first|exact⟨rfl,rfl⟩|exact⟨rfl,trivial⟩|rfl|trivial|(rw[aw];rfl)
end Go.Proofs.Ytllagoeijcjpiaa
namespace Go.Proofs.Ytllagoeijcjpiaa
open Go.VL Go.Proofs.Try
end Go.Proofs.Ytllagoeijcjpiaa
namespace Go.Proofs.Ytllagoeijcjpiaa
open Go.VL Go.Proofs.Try
structure LR (vf:Bool) (p:Int×Int):Prop where
 a0:0≤p.1
 a1:p.1≤1000000
 b0:-1≤p.2
 b1:p.2≤1000000
 ab:p.2=-1∨p.1≤p.2
 nl:vf=true ↔ p.1=0
end Go.Proofs.Ytllagoeijcjpiaa
