/- A part of the proof (F6 F7 F8 F9 F10). -/
import Derived.Test.YtpppfpaalcbggaaMB3
set_option linter.unusedSimpArgs false
set_option linter.unusedVariables false
set_option maxRecDepth 100000
set_option maxHeartbeats 80000000
set_option linter.unusedSimpArgs false
set_option linter.unusedVariables false
namespace Go.Proofs.Ytpppfpaalcbggaa
open Go.VL Go.Proofs.Try
def Mk.has (m:Mk) (u:Int):Bool:=decide (0 < bitV .and .i64 m.uses u)
def Re.node (op:Int) (kids:List Re):Re:=.mk op [] kids 0 0 0 0 false
def kidsFrom (t:Mk→Re × Mk):Nat→Int→Mk→List Re × Mk
 | 0,_,m=>([],m)
 | f + 1,i,m =>
  if i < 2 + (m.next 2).1 then
   (((t (m.next 2).2).1)::(kidsFrom t f (i + 1) (t (m.next 2).2).2).1,(kidsFrom t f (i + 1) (t (m.next 2).2).2).2)
  else ([],(m.next 2).2)
def repMins:List Int:=[0,0,0,0,1,1,1,0,2,0,1,2]
def repMaxs:List Int:=[-1,-1,-1,1,-1,-1,2,2,2,3,1,-1]
def repMode (m:Mk):Int × Mk :=
 let x:=m.next 2
 if m.has 8 then (if (x.2.next 4).1=0 then 2 else x.1,(x.2.next 4).2) else x
def repKid (t:Mk→Re × Mk) (m:Mk):Re × Mk :=
 let x:=t m
 if bitV .and .i64 x.2.uses 32=0∧x.1.nul=true then x.2.set else x
def Mk.rep (t:Mk→Re × Mk) (m:Mk):Re × Mk :=
 let k:=m.next 12
 let md:=repMode k.2
 let kid:=repKid t md.2
 (.mk 4 [] [kid.1] ((repMins[k.1.toNat]?).getD 0) ((repMaxs[k.1.toNat]?).getD 0) md.1 0 false,kid.2)
def capNum (m:Mk):Int × Mk :=
 let again (m:Mk):Int × Mk:=(1 + (m.next (max 1 m.caps)).1,(m.next (max 1 m.caps)).2)
 if 4 < m.caps + 1 then again m
 else if 0 < m.caps then (if (m.next 9).1=0 then again (m.next 9).2 else (m.caps + 1,(m.next 9).2))
 else (m.caps + 1,m)
def Mk.withCaps (m:Mk) (c:Int):Mk:=⟨m.l,m.pos,m.uses,m.left,c⟩
def Mk.less (m:Mk):Mk:=⟨m.l,m.pos,m.uses,m.left - 1,m.caps⟩
def Mk.capture (t:Mk→Re × Mk) (m:Mk):Re × Mk :=
 let c:=capNum m
 let r:=t (c.2.withCaps (max c.2.caps c.1))
 (.mk 5 [] [r.1] 0 0 0 c.1 false,r.2)
def Mk.node (t:Mk→Re × Mk) (k:Int) (m:Mk):Re × Mk :=
 if k < 5 then (Re.node 2 (kidsFrom t 4 0 m).1,(kidsFrom t 4 0 m).2)
 else if k < 8 then (Re.node 3 (kidsFrom t 4 0 m).1,(kidsFrom t 4 0 m).2)
 else if k < 12 then m.rep t
 else if k=12∧m.has 64=true then m.capture t
 else if k=13∧m.has 64=true then m.capture t
 else if k=14∧m.has 16=true then (.mk 11 [] [] 0 0 0 (m.next 6).1 false,(m.next 6).2)
 else if k=15∧m.has 4=true then
  let y:=(m.next 3).2.next 2
  (.mk (7 + y.1) [] [(t y.2).1] 0 0 0 0 (decide ((m.next 3).1=0)),(t y.2).2)
 else if k=16∧m.has 8=true then (Re.node 9 [(t m).1],(t m).2)
 else if k=17∧m.has 1=true∧0 < m.caps then (.mk 6 [] [] 0 0 0 (1 + (m.next m.caps).1) false,(m.next m.caps).2)
 else if k=18∧m.has 2=true∧0 < m.caps then
  let x:=m.next m.caps
  let y:=t x.2
  let z:=t y.2
  (.mk 10 [] [y.1,z.1] 0 0 0 (1 + x.1) false,z.2)
 else m.set
def Mk.tree:Nat→Mk→Re × Mk
 | 0,m =>
  let x:=m.less.next 20
  if x.1=0 then (Re.node 0 [],x.2) else x.2.set
 | d + 1,m =>
  let x:=m.less.next 20
  if x.2.left < 3∨(x.2.l.length:Int) < x.2.pos then (if x.1=0 then (Re.node 0 [],x.2) else x.2.set)
  else x.2.node (Mk.tree d) x.1
structure Mk.In (m:Mk) (b:Int):Prop where
 l:∀x∈m.l,I64 x
 p0:0≤m.pos
 p1:m.pos≤b
 l0:-b≤m.left
 l1:m.left≤1000000
 c0:0≤m.caps
 c1:m.caps≤4
theorem Mk.In.mono {m:Mk} {b b':Int} (h:m.In b) (hb:b≤b'):m.In b' :=
 ⟨h.l,h.p0,by have:=h.p1; omega,by have:=h.l0; omega,h.l1,h.c0,h.c1⟩
theorem Mk.In.next {m:Mk} {b:Int} (h:m.In b) (n:Int):(m.next n).2.In (b + 1) :=
 ⟨h.l,by have:=h.p0; simp only[Mk.next]; omega,by have:=h.p1; simp only[Mk.next]; omega,by have:=h.l0; simp only[Mk.next]; omega,h.l1,h.c0,h.c1⟩
theorem Mk.In.set {m:Mk} {b:Int} (h:m.In b):m.set.2.In (b + 1):=h.next 15
def Good (t:Mk→Re × Mk) (c z:Int):Prop:=∀m b,0≤b→Mk.In m b→(t m).2.In (b + c)∧((t m).1.size:Int)≤z
theorem ofSet_size (s:List (Int × Int)):(Re.ofSet s).size=1:=rfl
theorem kidsFrom_good {t:Mk→Re × Mk} {c z:Int} (hc:0≤c) (ht:Good t c z):∀(f:Nat) (i:Int) (m:Mk) (b:Int),0≤b→m.In b →
  (kidsFrom t f i m).2.In (b + f * (c + 1))∧(Re.sizeL (kidsFrom t f i m).1:Int)≤((kidsFrom t f i m).1.length:Int) * z∧(kidsFrom t f i m).1.length≤f
 | 0,i,m,b,_,h=>by simp only[kidsFrom]; exact⟨by simpa using h,by simp [Re.sizeL],by simp⟩
 | f + 1,i,m,b,hb,h=>by
  simp only[kidsFrom]
  have hf:(0:Int)≤f * (c + 1):=Int.mul_nonneg (by omega) (by omega)
  have e:((f + 1:Nat):Int) * (c + 1)=f * (c + 1) + c + 1:=by rw[Int.natCast_add,Int.add_mul]; simp; omega
  split
  ·have h1:=h.next 2
   obtain⟨h2,h3⟩:=ht _ (b + 1) (by omega) h1
   obtain⟨h4,h5,h6⟩:=kidsFrom_good hc ht f (i + 1) _ (b + 1 + c) (by omega) h2
   refine⟨h4.mono (by omega),?_,by simpa using h6⟩
   simp only[Re.sizeL,List.length_cons,Int.natCast_add,Int.add_mul]
   omega
  ·exact⟨(h.next 2).mono (by omega),by simp [Re.sizeL],by simp⟩
theorem repMode_in {m:Mk} {b:Int} (h:m.In b):(repMode m).2.In (b + 2):=by
 unfold repMode
 simp only
 split
 ·have:=(h.next 2).next 4
  rwa [show b + 1 + 1=b + 2 by omega] at this
 ·exact(h.next 2).mono (by omega)
theorem repKid_good {t:Mk→Re × Mk} {c z:Int} (hc:0≤c) (hz:1≤z) (ht:Good t c z):Good (repKid t) (c + 1) z:=by
 intro m b hb h
 obtain⟨h1,h2⟩:=ht m b hb h
 unfold repKid
 simp only
 split
 ·exact⟨by have:=h1.set; rwa [Int.add_assoc] at this,by simp only[Mk.set]; rw[ofSet_size]; omega⟩
 ·exact⟨h1.mono (by omega),h2⟩
theorem size_one (op mn mx mode n:Int) (neg:Bool) (k:Re):((Re.mk op [] [k] mn mx mode n neg).size:Int)=1 + k.size:=by
 simp [Re.size,Re.sizeL]
theorem rep_good {t:Mk→Re × Mk} {c z:Int} (hc:0≤c) (hz:1≤z) (ht:Good t c z):Good (Mk.rep t) (c + 4) (z + 1):=by
 intro m b hb h
 have h1:=repMode_in (h.next 12)
 obtain⟨h2,h3⟩:=repKid_good hc hz ht _ _ (by omega) h1
 simp only[Mk.rep]
 exact⟨h2.mono (by omega),by rw[size_one]; omega⟩
theorem capNum_in {m:Mk} {b:Int} (h:m.In b):(capNum m).2.In (b + 2)∧(capNum m).2.caps=m.caps∧1≤(capNum m).1∧(capNum m).1≤4:=by
 have h0:=h.c0
 have h1:=h.c1
 have again:∀(m':Mk),m'.caps=m.caps→0 < m.caps→0≤pick m'.l m'.pos (max 1 m'.caps)∧pick m'.l m'.pos (max 1 m'.caps) < m.caps:=by
  intro m' he hp
  have:=pick_range m'.l m'.pos (max 1 m'.caps) (by omega)
  rw[he] at this ⊢
  omega
 unfold capNum
 simp only
 split
 ·have:=again m rfl (by omega)
  exact⟨(h.next (max 1 m.caps)).mono (by omega),rfl,by simp only[Mk.next]; omega,by simp only[Mk.next]; omega⟩
 ·split
  ·split
   ·have:=again (m.next 9).2 rfl (by omega)
    refine⟨?_,rfl,by simp only[Mk.next] at this ⊢; omega,by simp only[Mk.next] at this ⊢; omega⟩
    have h2:=(h.next 9).next (max 1 (m.next 9).2.caps)
    rwa [show b + 1 + 1=b + 2 by omega] at h2
   ·exact⟨(h.next 9).mono (by omega),rfl,by omega,by omega⟩
  ·exact⟨h.mono (by omega),rfl,by omega,by omega⟩
theorem capture_good {t:Mk→Re × Mk} {c z:Int} (hc:0≤c) (ht:Good t c z):Good (Mk.capture t) (c + 2) (z + 1):=by
 intro m b hb h
 obtain⟨h1,h2,h3,h4⟩:=capNum_in h
 simp only[Mk.capture]
 obtain⟨h5,h6⟩:=ht ((capNum m).2.withCaps (max (capNum m).2.caps (capNum m).1)) (b + 2) (by omega) ⟨h1.l,h1.p0,h1.p1,h1.l0,h1.l1,by show 0≤max _ _; omega,by have:=h.c1; show max _ _≤4; omega⟩
 exact⟨h5.mono (by omega),by rw[size_one]; omega⟩
theorem node_good {t:Mk→Re × Mk} {c z:Int} (hc:0≤c) (hz:1≤z) (ht:Good t c z) (k:Int):Good (Mk.node t k) (4 * (c + 1)) (4 * z + 1):=by
 intro m b hb h
 obtain⟨a1,a2,a3⟩:=kidsFrom_good hc ht 4 0 m b hb h
 have a2':(Re.sizeL (kidsFrom t 4 0 m).1:Int)≤4 * z:=by
  have:((kidsFrom t 4 0 m).1.length:Int) * z≤4 * z:=Int.mul_le_mul_of_nonneg_right (by omega) (by omega)
  omega
 have a1':(kidsFrom t 4 0 m).2.In (b + 4 * (c + 1)):=a1
 have sz:∀op,((Re.node op (kidsFrom t 4 0 m).1).size:Int)≤4 * z + 1:=by intro op; simp only[Re.node,Re.size]; omega
 unfold Mk.node
 split
 ·exact⟨a1',sz _⟩
 split
 ·exact⟨a1',sz _⟩
 split
 ·obtain⟨h1,h2⟩:=rep_good hc hz ht m b hb h
  exact⟨h1.mono (by omega),by omega⟩
 split
 ·obtain⟨h1,h2⟩:=capture_good hc ht m b hb h
  exact⟨h1.mono (by omega),by omega⟩
 split
 ·obtain⟨h1,h2⟩:=capture_good hc ht m b hb h
  exact⟨h1.mono (by omega),by omega⟩
 split
 ·exact⟨(h.next 6).mono (by omega),by simp [Re.size,Re.sizeL]; omega⟩
 split
 ·simp only
  obtain⟨h1,h2⟩:=ht _ (b + 1 + 1) (by omega) ((h.next 3).next 2)
  exact⟨h1.mono (by omega),by rw[size_one]; omega⟩
 split
 ·obtain⟨h1,h2⟩:=ht m b hb h
  exact⟨h1.mono (by omega),by simp only[Re.node]; rw[size_one]; omega⟩
 split
 ·exact⟨(h.next m.caps).mono (by omega),by simp [Re.size,Re.sizeL]; omega⟩
 split
 ·simp only
  obtain⟨h1,h2⟩:=ht _ (b + 1) (by omega) (h.next m.caps)
  obtain⟨h3,h4⟩:=ht _ (b + 1 + c) (by omega) h1
  exact⟨h3.mono (by omega),by simp only[Re.size,Re.sizeL]; omega⟩
 ·exact⟨h.set.mono (by omega),by simp only[Mk.set]; rw[ofSet_size]; omega⟩
def cD:Nat→Int
 | 0=>3
 | d + 1=>2 + 4 * (cD d + 1)
def zD:Nat→Int
 | 0=>1
 | d + 1=>4 * zD d + 1
theorem cD_nonneg:∀d,3≤cD d
 | 0=>by simp [cD]
 | d + 1=>by have:=cD_nonneg d; simp only[cD]; omega
theorem zD_pos:∀d,1≤zD d
 | 0=>by simp [zD]
 | d + 1=>by have:=zD_pos d; simp only[zD]; omega
theorem Mk.In.left {m:Mk} {b:Int} (h:m.In b):m.less.In (b + 1) :=
 ⟨h.l,h.p0,by have:=h.p1; show m.pos≤_; omega,by have:=h.l0; show _≤m.left - 1; omega,by have:=h.l1; show m.left - 1≤_; omega,h.c0,h.c1⟩
theorem tree_good:∀d,Good (Mk.tree d) (cD d) (zD d)
 | 0=>by
  intro m b hb h
  have h1:=h.left.next 20
  simp only[Mk.tree,cD,zD]
  split
  ·exact⟨h1.mono (by omega),by simp [Re.node,Re.size,Re.sizeL]⟩
  ·exact⟨h1.set.mono (by omega),by simp only[Mk.set]; rw[ofSet_size]; omega⟩
 | d + 1=>by
  intro m b hb h
  have h1:=h.left.next 20
  have hc:=cD_nonneg d
  have hz:=zD_pos d
  simp only[Mk.tree,cD,zD]
  split
  ·split
   ·exact⟨h1.mono (by omega),by simp [Re.node,Re.size,Re.sizeL]; omega⟩
   ·exact⟨h1.set.mono (by omega),by simp only[Mk.set]; rw[ofSet_size]; omega⟩
  ·obtain⟨h2,h3⟩:=node_good (by omega) hz (tree_good d) ((m.less.next 20).1) _ (b + 1 + 1) (by omega) h1
   exact⟨h2.mono (by omega),h3⟩
def TreeOK (d:Nat):Prop:=∀(m:Mk) (b:Int),0≤b→m.In b→b + cD d≤1000000000 →
 callWp prog 17 [mkV,i64 d] [mkO m] fun v s=>v=reV (m.tree d).1∧s=[mkO (m.tree d).2]
theorem kidsFrom_go {t:Mk→Re × Mk} {f:Nat} {i:Int} {m:Mk} (h:i < 2 + (m.next 2).1):kidsFrom t (f + 1) i m=((t (m.next 2).2).1::(kidsFrom t f (i + 1) (t (m.next 2).2).2).1,(kidsFrom t f (i + 1) (t (m.next 2).2).2).2):=by
 rw[kidsFrom,if_pos h]
theorem kidsFrom_stop {t:Mk→Re × Mk} {f:Nat} {i:Int} {m:Mk} (h:¬i < 2 + (m.next 2).1):kidsFrom t (f + 1) i m=([],(m.next 2).2):=by
 rw[kidsFrom,if_neg h]
def resD (l:List Re):D:=.sl (l.map Re.cells)
theorem kids_ok (d:Nat) (hd:d≤1000) (ht:TreeOK d) (m:Mk) (b:Int) (hb:0≤b) (hm:m.In b) (hs:b + 4 * (cD d + 1)≤1000000000) :
  callWp prog 44 [mkV,i64 (d + 1:Nat)] [mkO m] fun v s=>v=.d (resD (kidsFrom (Mk.tree d) 4 0 m).1)∧s=[mkO (kidsFrom (Mk.tree d) 4 0 m).2]:=by
 have hc:=cD_nonneg d
 have w1:IntKind.i64.wrap ((d + 1:Nat) - 1:Int)=(d:Int):=by rw[w64 _ (by omega)]; omega
 refine fn_ok func44 rfl ntmps44 results44 rfl 1 115 (by simp) (by simp) ?_
 simp only[zW,Nat.reduceShiftRight,Nat.reduceMod,Nat.reduceLT,Nat.reduceMul,Nat.reduceSub,Int.reduceToNat,Int.reduceNeg,Int.reduceLT,Int.reduceLE,Int.reduceEq,Nat.reduceEqDiff,Nat.reduceAdd,Nat.reduceLeDiff,reduceIte,reduceCtorEq,Nat.reduceBEq,i64,mkV]
 refine loop_rule (fun n e s=>∃(i:Nat) (m':Mk) (l:List Re),n=4 - i∧i≤3∧m'.In (b + i * (cD d + 1))∧l.length=i∧e 0=.rf 0 0 0 0∧e 1=i64 (d + 1:Nat)∧e 6=i64 i ∧
   kidsFrom (Mk.tree d) 4 0 m=(l++(kidsFrom (Mk.tree d) (4 - i) i m').1,(kidsFrom (Mk.tree d) (4 - i) i m').2) ∧
   ((i=0∧e 5=.fu []∧s=[mkO m'])∨∃g,e 5=.so 1 g 0 i∧s=[mkO m',⟨g,true,8,(l.map Re.cells).map fun c=>c.map V.d⟩])) ⟨_,_,_,Cln.refl,0,m,[],rfl,by omega,by simpa using hm,rfl,rfl,rfl,rfl,by simp,.inl ⟨rfl,rfl,rfl⟩⟩ ?_
 rintro n e s ⟨i,m',l,rfl,hi,hm',hl,h0,h1,h6,hk,hacc⟩
 have hp:=pick_range m'.l m'.pos 2 (by omega)
 have w2:IntKind.i64.wrap (2 + pick m'.l m'.pos 2)=2 + pick m'.l m'.pos 2:=w64 _ (by omega)
 have hci:(i:Int) * (cD d + 1) + (cD d + 1)≤4 * (cD d + 1):=by
  have:=Int.mul_le_mul_of_nonneg_right (show (i:Int) + 1≤4 by omega) (show (0:Int)≤cD d + 1 by omega)
  rw[Int.add_mul,Int.one_mul] at this; exact this
 have hci0:0≤(i:Int) * (cD d + 1):=Int.mul_nonneg (by omega) (by omega)
 have hpos:0≤m'.pos∧m'.pos≤1000000000:=⟨hm'.p0,by have:=hm'.p1; omega⟩
 have hf:4 - i=(3 - i) + 1:=by omega
 rw[hf] at hk
 rcases hacc with ⟨rfl,h5,rfl⟩ | ⟨g,h5,rfl⟩
 ·simp only[zW,Nat.reduceShiftRight,Nat.reduceMod,Nat.reduceLT,Nat.reduceMul,Nat.reduceSub,Int.reduceToNat,Int.reduceNeg,Int.reduceLT,Int.reduceLE,Int.reduceEq,Nat.reduceEqDiff,Nat.reduceAdd,Nat.reduceLeDiff,reduceIte,reduceCtorEq,Nat.reduceBEq,i64,h0,h1,h6,mkV]
  refine call_one (next_ok m' hm'.l hpos 2 (by omega)) rfl rfl rfl rfl rfl rfl ?_
  have hlt:(0:Int) < 2 + pick m'.l m'.pos 2:=by omega
  simp only[zW,Nat.reduceShiftRight,Nat.reduceMod,Nat.reduceLT,Nat.reduceMul,Nat.reduceSub,Int.reduceToNat,Int.reduceNeg,Int.reduceLT,Int.reduceLE,Int.reduceEq,Nat.reduceEqDiff,Nat.reduceAdd,Nat.reduceLeDiff,reduceIte,reduceCtorEq,Nat.reduceBEq,i64,h0,h1,h6,mkV,Mk.next,w1,w2,hlt,Int.natCast_zero]
  refine call_one (ht (m'.next 2).2 (b + 1) (by omega) (by simpa using hm'.next 2) (by omega)) rfl rfl rfl rfl rfl (renV_reV _ _) ?_
  simp only[zW,Nat.reduceShiftRight,Nat.reduceMod,Nat.reduceLT,Nat.reduceMul,Nat.reduceSub,Int.reduceToNat,Int.reduceNeg,Int.reduceLT,Int.reduceLE,Int.reduceEq,Nat.reduceEqDiff,Nat.reduceAdd,Nat.reduceLeDiff,reduceIte,reduceCtorEq,Nat.reduceBEq,i64,h0,h1,h5,h6,mkV,Mk.next,w1,w2,hlt,Int.natCast_zero]
  obtain⟨g1,g2⟩:=tree_good d (m'.next 2).2 (b + 1) (by omega) (by simpa using hm'.next 2)
  refine⟨fun x hx=>by rw[List.mem_singleton.1 hx]; simp [Re.cells_len],by simp,3,_,_,by omega,Cln.refl,1,((Mk.tree d) (m'.next 2).2).2,[((Mk.tree d) (m'.next 2).2).1],rfl,by omega,g1.mono (by simp; omega),rfl,?_,?_,?_,?_,.inr ⟨0,?_,?_⟩⟩
  ·simp only[zU,Nat.reduceBEq,Nat.reduceShiftRight,Nat.reduceMod,Nat.reduceEqDiff,reduceIte]; exact h0
  ·simp only[zU,Nat.reduceBEq,Nat.reduceShiftRight,Nat.reduceMod,Nat.reduceEqDiff,reduceIte]; exact h1
  ·simp only[zU,Nat.reduceBEq,Nat.reduceShiftRight,Nat.reduceMod,Nat.reduceEqDiff,reduceIte]; rw[w64 _ (by omega)]; rfl
  ·rw[hk,kidsFrom_go (by simpa [Mk.next] using hlt)]
   have:l=[]:=List.eq_nil_of_length_eq_zero hl
   subst this
   rfl
  ·simp only[zU,Nat.reduceBEq,Nat.reduceShiftRight,Nat.reduceMod,Nat.reduceEqDiff,reduceIte]
  ·rfl
 ·by_cases hlt:(i:Int) < 2 + pick m'.l m'.pos 2
  ·rw[kidsFrom_go (f:=3 - i) (i:=i) (m:=m') (by simpa [Mk.next] using hlt)] at hk
   obtain⟨g1,g2⟩:=tree_good d (m'.next 2).2 (b + i * (cD d + 1) + 1) (by omega) (hm'.next 2)
   simp only[zW,Nat.reduceShiftRight,Nat.reduceMod,Nat.reduceLT,Nat.reduceMul,Nat.reduceSub,Int.reduceToNat,Int.reduceNeg,Int.reduceLT,Int.reduceLE,Int.reduceEq,Nat.reduceEqDiff,Nat.reduceAdd,Nat.reduceLeDiff,reduceIte,reduceCtorEq,Nat.reduceBEq,i64,h0,h1,h6,mkV]
   refine call_one (next_ok m' hm'.l hpos 2 (by omega)) rfl rfl rfl rfl rfl rfl ?_
   simp only[zW,Nat.reduceShiftRight,Nat.reduceMod,Nat.reduceLT,Nat.reduceMul,Nat.reduceSub,Int.reduceToNat,Int.reduceNeg,Int.reduceLT,Int.reduceLE,Int.reduceEq,Nat.reduceEqDiff,Nat.reduceAdd,Nat.reduceLeDiff,reduceIte,reduceCtorEq,Nat.reduceBEq,i64,h0,h1,h6,mkV,Mk.next,w1,w2,hlt]
   refine call_one (ht (m'.next 2).2 (b + i * (cD d + 1) + 1) (by omega) (hm'.next 2) (by omega)) rfl rfl rfl rfl rfl (renV_reV _ _) ?_
   simp only[zW,Nat.reduceShiftRight,Nat.reduceMod,Nat.reduceLT,Nat.reduceMul,Nat.reduceSub,Int.reduceToNat,Int.reduceNeg,Int.reduceLT,Int.reduceLE,Int.reduceEq,Nat.reduceEqDiff,Nat.reduceAdd,Nat.reduceLeDiff,reduceIte,reduceCtorEq,Nat.reduceBEq,i64,h0,h1,h5,h6,mkV,Mk.next,w1,w2,hlt]
   refine⟨fun x hx=>by rw[List.mem_singleton.1 hx]; simp [Re.cells_len],⟨by omega,by omega⟩,4 - (i + 1),_,_,by omega,Cln.refl,i + 1,((Mk.tree d) (m'.next 2).2).2,l++[((Mk.tree d) (m'.next 2).2).1],rfl,?_,g1.mono ?_,by simp [hl],?_,?_,?_,?_,.inr ⟨g + 1,?_,?_⟩⟩
   ·omega
   ·rw[Int.natCast_add,Int.add_mul]; simp; omega
   ·simp only[zU,Nat.reduceBEq,Nat.reduceShiftRight,Nat.reduceMod,Nat.reduceEqDiff,reduceIte]; exact h0
   ·simp only[zU,Nat.reduceBEq,Nat.reduceShiftRight,Nat.reduceMod,Nat.reduceEqDiff,reduceIte]; exact h1
   ·simp only[zU,Nat.reduceBEq,Nat.reduceShiftRight,Nat.reduceMod,Nat.reduceEqDiff,reduceIte]; rw[w64 _ (by omega)]; rfl
   ·rw[hk,show 4 - (i + 1)=3 - i by omega]; simp
   ·simp only[zU,Nat.reduceBEq,Nat.reduceShiftRight,Nat.reduceMod,Nat.reduceEqDiff,reduceIte]
   ·simp [hl,← List.map_take,List.take_of_length_le (Nat.le_of_eq hl)]; exact⟨rfl,rfl⟩
  ·rw[kidsFrom_stop (f:=3 - i) (i:=i) (m:=m') (by simpa [Mk.next] using hlt)] at hk
   simp only[zW,Nat.reduceShiftRight,Nat.reduceMod,Nat.reduceLT,Nat.reduceMul,Nat.reduceSub,Int.reduceToNat,Int.reduceNeg,Int.reduceLT,Int.reduceLE,Int.reduceEq,Nat.reduceEqDiff,Nat.reduceAdd,Nat.reduceLeDiff,reduceIte,reduceCtorEq,Nat.reduceBEq,i64,h0,h1,h6,mkV]
   refine call_one (next_ok m' hm'.l hpos 2 (by omega)) rfl rfl rfl rfl rfl rfl ?_
   have hle:0 + i≤l.length:=by omega
   have htk:((l.map Re.cells).map fun c=>c.map V.d).take i=(l.map Re.cells).map fun c=>c.map V.d:=List.take_of_length_le (by simp [hl])
   simp only[zW,Nat.reduceShiftRight,Nat.reduceMod,Nat.reduceLT,Nat.reduceMul,Nat.reduceSub,Int.reduceToNat,Int.reduceNeg,Int.reduceLT,Int.reduceLE,Int.reduceEq,Nat.reduceEqDiff,Nat.reduceAdd,Nat.reduceLeDiff,reduceIte,reduceCtorEq,Nat.reduceBEq,i64,h0,h1,h5,h6,mkV,Mk.next,w1,w2,hlt,hle,htk]
   rw[hk]
   exact⟨rfl,by simp [resD],rfl⟩
theorem capture_ok (d:Nat) (hd:d≤1000) (ht:TreeOK d) (m:Mk) (b:Int) (hb:0≤b) (hm:m.In b) (hs:b + (cD d + 2)≤1000000000) :
  callWp prog 46 [mkV,i64 (d + 1:Nat)] [mkO m] fun v s=>v=reV (m.capture (Mk.tree d)).1∧s=[mkO (m.capture (Mk.tree d)).2]:=by
 have hc:=cD_nonneg d
 have c0:=hm.c0
 have c1:=hm.c1
 have w1:IntKind.i64.wrap ((d + 1:Nat) - 1:Int)=(d:Int):=by rw[w64 _ (by omega)]; omega
 have w2:IntKind.i64.wrap (m.caps + 1)=m.caps + 1:=w64 _ (by omega)
 have hpos:0≤m.pos∧m.pos≤1000000000:=⟨hm.p0,by have:=hm.p1; omega⟩
 obtain⟨g1,g2,g3,g4⟩:=capNum_in hm
 refine fn_ok func46 rfl ntmps46 results46 rfl 1 51 (by simp) (by simp) ?_
 have tailM:∀m':Mk,m'.In (b + 2)→m'.caps=m.caps→∀n:Int,1≤n→n≤4→(m'.withCaps (max m'.caps n)).In (b + 2):=fun m' h he n h1 h2=>⟨h.l,h.p0,h.p1,h.l0,h.l1,by show 0≤max _ _; omega,by show max _ _≤4; omega⟩
 by_cases h4:4 < m.caps + 1
 ·have hp:=pick_range m.l m.pos (max 1 m.caps) (by omega)
  have w3:IntKind.i64.wrap (1 + pick m.l m.pos (max 1 m.caps))=1 + pick m.l m.pos (max 1 m.caps):=w64 _ (by omega)
  simp only[zW,Nat.reduceShiftRight,Nat.reduceMod,Nat.reduceLT,Nat.reduceMul,Nat.reduceSub,Int.reduceToNat,Int.reduceNeg,Int.reduceLT,Int.reduceLE,Int.reduceEq,Nat.reduceEqDiff,Nat.reduceAdd,Nat.reduceLeDiff,reduceIte,reduceCtorEq,Nat.reduceBEq,i64,mkV,mkO,w1,w2,h4]
  refine call_one (next_ok m hm.l hpos (max 1 m.caps) (by omega)) rfl rfl rfl rfl rfl rfl ?_
  simp only[zW,Nat.reduceShiftRight,Nat.reduceMod,Nat.reduceLT,Nat.reduceMul,Nat.reduceSub,Int.reduceToNat,Int.reduceNeg,Int.reduceLT,Int.reduceLE,Int.reduceEq,Nat.reduceEqDiff,Nat.reduceAdd,Nat.reduceLeDiff,reduceIte,reduceCtorEq,Nat.reduceBEq,i64,mkV,mkO,w1,w2,h4,Mk.next,w3]
  refine call_one (ht ((m.next (max 1 m.caps)).2.withCaps (max m.caps (1 + pick m.l m.pos (max 1 m.caps)))) (b + 2) (by omega) (tailM _ ((hm.next _).mono (by omega)) rfl _ (by omega) (by omega)) (by omega)) rfl rfl rfl rfl rfl (renV_reV _ _) ?_
  simp only[zW,Nat.reduceShiftRight,Nat.reduceMod,Nat.reduceLT,Nat.reduceMul,Nat.reduceSub,Int.reduceToNat,Int.reduceNeg,Int.reduceLT,Int.reduceLE,Int.reduceEq,Nat.reduceEqDiff,Nat.reduceAdd,Nat.reduceLeDiff,reduceIte,reduceCtorEq,Nat.reduceBEq,i64,mkV,mkO,w1,w2,h4,Mk.next,w3]
  have hcn:capNum m=(1 + pick m.l m.pos (max 1 m.caps),(m.next (max 1 m.caps)).2):=by simp [capNum,h4,Mk.next]
  simp only[Mk.capture,hcn]
  first | exact⟨rfl,rfl⟩ | exact⟨rfl,trivial⟩
 by_cases h0:0 < m.caps
 ·simp only[zW,Nat.reduceShiftRight,Nat.reduceMod,Nat.reduceLT,Nat.reduceMul,Nat.reduceSub,Int.reduceToNat,Int.reduceNeg,Int.reduceLT,Int.reduceLE,Int.reduceEq,Nat.reduceEqDiff,Nat.reduceAdd,Nat.reduceLeDiff,reduceIte,reduceCtorEq,Nat.reduceBEq,i64,mkV,mkO,w1,w2,h4,h0]
  refine call_one (next_ok m hm.l hpos 9 (by omega)) rfl rfl rfl rfl rfl rfl ?_
  by_cases h9:pick m.l m.pos 9=0
  ·have hp:=pick_range m.l (m.pos + 1) (max 1 m.caps) (by omega)
   have w3:IntKind.i64.wrap (1 + pick m.l (m.pos + 1) (max 1 m.caps))=1 + pick m.l (m.pos + 1) (max 1 m.caps):=w64 _ (by omega)
   simp only[zW,Nat.reduceShiftRight,Nat.reduceMod,Nat.reduceLT,Nat.reduceMul,Nat.reduceSub,Int.reduceToNat,Int.reduceNeg,Int.reduceLT,Int.reduceLE,Int.reduceEq,Nat.reduceEqDiff,Nat.reduceAdd,Nat.reduceLeDiff,reduceIte,reduceCtorEq,Nat.reduceBEq,i64,mkV,mkO,w1,w2,h4,Mk.next,h9]
   refine call_one (next_ok (m.next 9).2 hm.l (by have:=hm.p1; simp only[Mk.next]; omega) (max 1 m.caps) (by omega)) rfl rfl rfl rfl rfl rfl ?_
   simp only[zW,Nat.reduceShiftRight,Nat.reduceMod,Nat.reduceLT,Nat.reduceMul,Nat.reduceSub,Int.reduceToNat,Int.reduceNeg,Int.reduceLT,Int.reduceLE,Int.reduceEq,Nat.reduceEqDiff,Nat.reduceAdd,Nat.reduceLeDiff,reduceIte,reduceCtorEq,Nat.reduceBEq,i64,mkV,mkO,w1,w2,h4,Mk.next,w3]
   refine call_one (ht (((m.next 9).2.next (max 1 m.caps)).2.withCaps (max m.caps (1 + pick m.l (m.pos + 1) (max 1 m.caps)))) (b + 2) (by omega) (tailM _ (((hm.next 9).next _).mono (by omega)) rfl _ (by omega) (by omega)) (by omega)) rfl rfl rfl rfl rfl (renV_reV _ _) ?_
   simp only[zW,Nat.reduceShiftRight,Nat.reduceMod,Nat.reduceLT,Nat.reduceMul,Nat.reduceSub,Int.reduceToNat,Int.reduceNeg,Int.reduceLT,Int.reduceLE,Int.reduceEq,Nat.reduceEqDiff,Nat.reduceAdd,Nat.reduceLeDiff,reduceIte,reduceCtorEq,Nat.reduceBEq,i64,mkV,mkO,w1,w2,h4,Mk.next,w3]
   have hcn:capNum m=(1 + pick m.l (m.pos + 1) (max 1 m.caps),((m.next 9).2.next (max 1 m.caps)).2):=by simp [capNum,h4,h0,h9,Mk.next]
   simp only[Mk.capture,hcn]
   first | exact⟨rfl,rfl⟩ | exact⟨rfl,trivial⟩
  ·simp only[zW,Nat.reduceShiftRight,Nat.reduceMod,Nat.reduceLT,Nat.reduceMul,Nat.reduceSub,Int.reduceToNat,Int.reduceNeg,Int.reduceLT,Int.reduceLE,Int.reduceEq,Nat.reduceEqDiff,Nat.reduceAdd,Nat.reduceLeDiff,reduceIte,reduceCtorEq,Nat.reduceBEq,i64,mkV,mkO,w1,w2,h4,Mk.next,h9]
   refine call_one (ht ((m.next 9).2.withCaps (max m.caps (m.caps + 1))) (b + 2) (by omega) (tailM _ ((hm.next 9).mono (by omega)) rfl _ (by omega) (by omega)) (by omega)) rfl rfl rfl rfl rfl (renV_reV _ _) ?_
   simp only[zW,Nat.reduceShiftRight,Nat.reduceMod,Nat.reduceLT,Nat.reduceMul,Nat.reduceSub,Int.reduceToNat,Int.reduceNeg,Int.reduceLT,Int.reduceLE,Int.reduceEq,Nat.reduceEqDiff,Nat.reduceAdd,Nat.reduceLeDiff,reduceIte,reduceCtorEq,Nat.reduceBEq,i64,mkV,mkO,w1,w2,h4,Mk.next]
   have hcn:capNum m=(m.caps + 1,(m.next 9).2):=by simp [capNum,h4,h0,h9,Mk.next]
   simp only[Mk.capture,hcn]
   first | exact⟨rfl,rfl⟩ | exact⟨rfl,trivial⟩
 ·simp only[zW,Nat.reduceShiftRight,Nat.reduceMod,Nat.reduceLT,Nat.reduceMul,Nat.reduceSub,Int.reduceToNat,Int.reduceNeg,Int.reduceLT,Int.reduceLE,Int.reduceEq,Nat.reduceEqDiff,Nat.reduceAdd,Nat.reduceLeDiff,reduceIte,reduceCtorEq,Nat.reduceBEq,i64,mkV,mkO,w1,w2,h4,h0]
  refine call_one (ht (m.withCaps (max m.caps (m.caps + 1))) (b + 2) (by omega) (tailM _ (hm.mono (by omega)) rfl _ (by omega) (by omega)) (by omega)) rfl rfl rfl rfl rfl (renV_reV _ _) ?_
  simp only[zW,Nat.reduceShiftRight,Nat.reduceMod,Nat.reduceLT,Nat.reduceMul,Nat.reduceSub,Int.reduceToNat,Int.reduceNeg,Int.reduceLT,Int.reduceLE,Int.reduceEq,Nat.reduceEqDiff,Nat.reduceAdd,Nat.reduceLeDiff,reduceIte,reduceCtorEq,Nat.reduceBEq,i64,mkV,mkO,w1,w2,h4]
  have hcn:capNum m=(m.caps + 1,m):=by simp [capNum,h4,h0]
  simp only[Mk.capture,hcn]
  first | exact⟨rfl,rfl⟩ | exact⟨rfl,trivial⟩
theorem rep_ok (d:Nat) (hd:d≤1000) (ht:TreeOK d) (m:Mk) (b:Int) (hb:0≤b) (hm:m.In b) (hs:b + (cD d + 4)≤1000000000) (hz:zD d≤1000000000) :
  callWp prog 45 [mkV,i64 (d + 1:Nat)] [mkO m] fun v s=>v=reV (m.rep (Mk.tree d)).1∧s=[mkO (m.rep (Mk.tree d)).2]:=by
 have hc:=cD_nonneg d
 have w1:IntKind.i64.wrap ((d + 1:Nat) - 1:Int)=(d:Int):=by rw[w64 _ (by omega)]; omega
 have hpos:0≤m.pos∧m.pos≤1000000000:=⟨hm.p0,by have:=hm.p1; omega⟩
 have hk:=pick_range m.l m.pos 12 (by omega)
 have hkn:(pick m.l m.pos 12).toNat < 12:=by omega
 have hmins:([[D.sc (Value.int IntKind.i64 0)],[D.sc (Value.int IntKind.i64 0)],[D.sc (Value.int IntKind.i64 0)],[D.sc (Value.int IntKind.i64 0)],[D.sc (Value.int IntKind.i64 1)],[D.sc (Value.int IntKind.i64 1)],[D.sc (Value.int IntKind.i64 1)],[D.sc (Value.int IntKind.i64 0)],[D.sc (Value.int IntKind.i64 2)],[D.sc (Value.int IntKind.i64 0)],[D.sc (Value.int IntKind.i64 1)],[D.sc (Value.int IntKind.i64 2)]]:List (List D))[(pick m.l m.pos 12).toNat]?=some [D.sc (Value.int IntKind.i64 ((repMins[(pick m.l m.pos 12).toNat]?).getD 0))]:=by
  rw[show ([[D.sc (Value.int IntKind.i64 0)],[D.sc (Value.int IntKind.i64 0)],[D.sc (Value.int IntKind.i64 0)],[D.sc (Value.int IntKind.i64 0)],[D.sc (Value.int IntKind.i64 1)],[D.sc (Value.int IntKind.i64 1)],[D.sc (Value.int IntKind.i64 1)],[D.sc (Value.int IntKind.i64 0)],[D.sc (Value.int IntKind.i64 2)],[D.sc (Value.int IntKind.i64 0)],[D.sc (Value.int IntKind.i64 1)],[D.sc (Value.int IntKind.i64 2)]]:List (List D))=repMins.map (fun x=>[D.sc (Value.int IntKind.i64 x)]) from rfl,List.getElem?_map,List.getElem?_eq_getElem (show (pick m.l m.pos 12).toNat < repMins.length from hkn)]; rfl
 have hmaxs:([[D.sc (Value.int IntKind.i64 (-1))],[D.sc (Value.int IntKind.i64 (-1))],[D.sc (Value.int IntKind.i64 (-1))],[D.sc (Value.int IntKind.i64 1)],[D.sc (Value.int IntKind.i64 (-1))],[D.sc (Value.int IntKind.i64 (-1))],[D.sc (Value.int IntKind.i64 2)],[D.sc (Value.int IntKind.i64 2)],[D.sc (Value.int IntKind.i64 2)],[D.sc (Value.int IntKind.i64 3)],[D.sc (Value.int IntKind.i64 1)],[D.sc (Value.int IntKind.i64 (-1))]]:List (List D))[(pick m.l m.pos 12).toNat]?=some [D.sc (Value.int IntKind.i64 ((repMaxs[(pick m.l m.pos 12).toNat]?).getD 0))]:=by
  rw[show ([[D.sc (Value.int IntKind.i64 (-1))],[D.sc (Value.int IntKind.i64 (-1))],[D.sc (Value.int IntKind.i64 (-1))],[D.sc (Value.int IntKind.i64 1)],[D.sc (Value.int IntKind.i64 (-1))],[D.sc (Value.int IntKind.i64 (-1))],[D.sc (Value.int IntKind.i64 2)],[D.sc (Value.int IntKind.i64 2)],[D.sc (Value.int IntKind.i64 2)],[D.sc (Value.int IntKind.i64 3)],[D.sc (Value.int IntKind.i64 1)],[D.sc (Value.int IntKind.i64 (-1))]]:List (List D))=repMaxs.map (fun x=>[D.sc (Value.int IntKind.i64 x)]) from rfl,List.getElem?_map,List.getElem?_eq_getElem (show (pick m.l m.pos 12).toNat < repMaxs.length from hkn)]; rfl
 refine fn_ok func45 rfl ntmps45 results45 rfl 1 243 (by simp) (by simp) ?_
 simp only[zW,Nat.reduceShiftRight,Nat.reduceMod,Nat.reduceLT,Nat.reduceMul,Nat.reduceSub,Int.reduceToNat,Int.reduceNeg,Int.reduceLT,Int.reduceLE,Int.reduceEq,Nat.reduceEqDiff,Nat.reduceAdd,Nat.reduceLeDiff,reduceIte,reduceCtorEq,Nat.reduceBEq,i64,mkV,mkO,w1]
 refine call_one (next_ok m hm.l hpos 12 (by omega)) rfl rfl rfl rfl rfl rfl ?_
 simp only[zW,Nat.reduceShiftRight,Nat.reduceMod,Nat.reduceLT,Nat.reduceMul,Nat.reduceSub,Int.reduceToNat,Int.reduceNeg,Int.reduceLT,Int.reduceLE,Int.reduceEq,Nat.reduceEqDiff,Nat.reduceAdd,Nat.reduceLeDiff,reduceIte,reduceCtorEq,Nat.reduceBEq,i64,mkV,mkO,w1,Mk.next]
 refine draw_first Cln0.reserve ?_
 refine draw_c mix [12] [(9,[0],[0]),(11,[2],[2])] (by rfl) ?_
 simp only[zW,Nat.reduceShiftRight,Nat.reduceMod,Nat.reduceLT,Nat.reduceMul,Nat.reduceSub,Int.reduceToNat,Int.reduceNeg,Int.reduceLT,Int.reduceLE,Int.reduceEq,Nat.reduceEqDiff,Nat.reduceAdd,Nat.reduceLeDiff,reduceIte,reduceCtorEq,Nat.reduceBEq,i64,mkV,mkO,w1,Mk.next,hmins,hmaxs]
 refine⟨hk.1,by omega,hk.1,by omega,?_⟩
 refine callF_one (next_ok (m.next 12).2 hm.l (by have:=hm.p1; simp only[Mk.next]; omega) 2 (by omega)) rfl rfl rfl rfl rfl rfl ?_
 by_cases h8:0 < bitV .and .i64 m.uses 8
 ·simp only[zW,Nat.reduceShiftRight,Nat.reduceMod,Nat.reduceLT,Nat.reduceMul,Nat.reduceSub,Int.reduceToNat,Int.reduceNeg,Int.reduceLT,Int.reduceLE,Int.reduceEq,Nat.reduceEqDiff,Nat.reduceAdd,Nat.reduceLeDiff,reduceIte,reduceCtorEq,Nat.reduceBEq,i64,mkV,mkO,w1,Mk.next,hmins,hmaxs,h8]
  refine call_one (next_ok ((m.next 12).2.next 2).2 hm.l (by have:=hm.p1; simp only[Mk.next]; omega) 4 (by omega)) rfl rfl rfl rfl rfl rfl ?_
  by_cases h4:pick m.l (m.pos + 1 + 1) 4=0
  ·simp only[zW,Nat.reduceShiftRight,Nat.reduceMod,Nat.reduceLT,Nat.reduceMul,Nat.reduceSub,Int.reduceToNat,Int.reduceNeg,Int.reduceLT,Int.reduceLE,Int.reduceEq,Nat.reduceEqDiff,Nat.reduceAdd,Nat.reduceLeDiff,reduceIte,reduceCtorEq,Nat.reduceBEq,i64,mkV,mkO,w1,Mk.next,h4]
   obtain⟨g1,g2⟩:=tree_good d (((m.next 12).2.next 2).2.next 4).2 (b + 3) (by omega) ((((hm.next 12).next 2).next 4).mono (by omega))
   refine call_one (ht (((m.next 12).2.next 2).2.next 4).2 (b + 3) (by omega) ((((hm.next 12).next 2).next 4).mono (by omega)) (by omega)) rfl rfl rfl rfl rfl (renV_reV _ _) ?_
   have hrm:repMode (m.next 12).2=(2,(((m.next 12).2.next 2).2.next 4).2):=by simp [repMode,Mk.has,h8,Mk.next,h4]
   have hrep:m.rep (Mk.tree d)=(.mk 4 [] [(repKid (Mk.tree d) (((m.next 12).2.next 2).2.next 4).2).1] ((repMins[(pick m.l m.pos 12).toNat]?).getD 0) ((repMaxs[(pick m.l m.pos 12).toNat]?).getD 0) 2 0 false,(repKid (Mk.tree d) (((m.next 12).2.next 2).2.next 4).2).2):=by simp only[Mk.rep,hrm]; rfl
   have hrk:repKid (Mk.tree d) (((m.next 12).2.next 2).2.next 4).2=if bitV .and .i64 (Mk.tree d (((m.next 12).2.next 2).2.next 4).2).2.uses 32=0∧(Mk.tree d (((m.next 12).2.next 2).2.next 4).2).1.nul=true then (Mk.tree d (((m.next 12).2.next 2).2.next 4).2).2.set else Mk.tree d (((m.next 12).2.next 2).2.next 4).2:=rfl
   rw[hrep,hrk]
   generalize Mk.tree d (((m.next 12).2.next 2).2.next 4).2=R at *
   by_cases h32:bitV .and .i64 R.2.uses 32=0
   ·simp only[zW,Nat.reduceShiftRight,Nat.reduceMod,Nat.reduceLT,Nat.reduceMul,Nat.reduceSub,Int.reduceToNat,Int.reduceNeg,Int.reduceLT,Int.reduceLE,Int.reduceEq,Nat.reduceEqDiff,Nat.reduceAdd,Nat.reduceLeDiff,reduceIte,reduceCtorEq,Nat.reduceBEq,i64,mkV,mkO,w1,Mk.next,h32]
    refine call_pure (refNullable_ok R.1 (by omega)) (by simp [refsV,refsV.go,reV_eq,i64,bV,reEl]) (by simp [refsV,refsV.go,reV_eq,i64,bV,reEl]) ?_
    cases hn:R.1.nul with
    | true =>
     simp only[zW,Nat.reduceShiftRight,Nat.reduceMod,Nat.reduceLT,Nat.reduceMul,Nat.reduceSub,Int.reduceToNat,Int.reduceNeg,Int.reduceLT,Int.reduceLE,Int.reduceEq,Nat.reduceEqDiff,Nat.reduceAdd,Nat.reduceLeDiff,reduceIte,reduceCtorEq,Nat.reduceBEq,i64,bV,mkV,mkO,w1,Mk.next,h32,hn]
     refine call_one (set_ok R.2 g1.l ⟨g1.p0,by have:=g1.p1; omega⟩) rfl rfl rfl rfl rfl (renV_reV _ _) ?_
     simp only[zW,Nat.reduceShiftRight,Nat.reduceMod,Nat.reduceLT,Nat.reduceMul,Nat.reduceSub,Int.reduceToNat,Int.reduceNeg,Int.reduceLT,Int.reduceLE,Int.reduceEq,Nat.reduceEqDiff,Nat.reduceAdd,Nat.reduceLeDiff,reduceIte,reduceCtorEq,Nat.reduceBEq,i64,bV,mkV,mkO,w1,Mk.next,h32,hn]
     all_goals first | exact⟨rfl,rfl⟩ | exact⟨rfl,trivial⟩ | rfl | trivial | (rw[reV_eq]; rfl)
    | false =>
     simp only[zW,Nat.reduceShiftRight,Nat.reduceMod,Nat.reduceLT,Nat.reduceMul,Nat.reduceSub,Int.reduceToNat,Int.reduceNeg,Int.reduceLT,Int.reduceLE,Int.reduceEq,Nat.reduceEqDiff,Nat.reduceAdd,Nat.reduceLeDiff,reduceIte,reduceCtorEq,Nat.reduceBEq,i64,bV,mkV,mkO,w1,Mk.next,h32,hn]
     all_goals first | exact⟨rfl,rfl⟩ | exact⟨rfl,trivial⟩ | rfl | trivial | (rw[reV_eq]; rfl)
   ·simp only[zW,Nat.reduceShiftRight,Nat.reduceMod,Nat.reduceLT,Nat.reduceMul,Nat.reduceSub,Int.reduceToNat,Int.reduceNeg,Int.reduceLT,Int.reduceLE,Int.reduceEq,Nat.reduceEqDiff,Nat.reduceAdd,Nat.reduceLeDiff,reduceIte,reduceCtorEq,Nat.reduceBEq,i64,mkV,mkO,w1,Mk.next,h32]
    all_goals first | exact⟨rfl,rfl⟩ | exact⟨rfl,trivial⟩ | rfl | trivial | (rw[reV_eq]; rfl)
  ·simp only[zW,Nat.reduceShiftRight,Nat.reduceMod,Nat.reduceLT,Nat.reduceMul,Nat.reduceSub,Int.reduceToNat,Int.reduceNeg,Int.reduceLT,Int.reduceLE,Int.reduceEq,Nat.reduceEqDiff,Nat.reduceAdd,Nat.reduceLeDiff,reduceIte,reduceCtorEq,Nat.reduceBEq,i64,mkV,mkO,w1,Mk.next,h4]
   obtain⟨g1,g2⟩:=tree_good d (((m.next 12).2.next 2).2.next 4).2 (b + 3) (by omega) ((((hm.next 12).next 2).next 4).mono (by omega))
   refine call_one (ht (((m.next 12).2.next 2).2.next 4).2 (b + 3) (by omega) ((((hm.next 12).next 2).next 4).mono (by omega)) (by omega)) rfl rfl rfl rfl rfl (renV_reV _ _) ?_
   have hrm:repMode (m.next 12).2=((pick m.l (m.pos + 1) 2),(((m.next 12).2.next 2).2.next 4).2):=by simp [repMode,Mk.has,h8,Mk.next,h4]
   have hrep:m.rep (Mk.tree d)=(.mk 4 [] [(repKid (Mk.tree d) (((m.next 12).2.next 2).2.next 4).2).1] ((repMins[(pick m.l m.pos 12).toNat]?).getD 0) ((repMaxs[(pick m.l m.pos 12).toNat]?).getD 0) (pick m.l (m.pos + 1) 2) 0 false,(repKid (Mk.tree d) (((m.next 12).2.next 2).2.next 4).2).2):=by simp only[Mk.rep,hrm]; rfl
   have hrk:repKid (Mk.tree d) (((m.next 12).2.next 2).2.next 4).2=if bitV .and .i64 (Mk.tree d (((m.next 12).2.next 2).2.next 4).2).2.uses 32=0∧(Mk.tree d (((m.next 12).2.next 2).2.next 4).2).1.nul=true then (Mk.tree d (((m.next 12).2.next 2).2.next 4).2).2.set else Mk.tree d (((m.next 12).2.next 2).2.next 4).2:=rfl
   rw[hrep,hrk]
   generalize Mk.tree d (((m.next 12).2.next 2).2.next 4).2=R at *
   by_cases h32:bitV .and .i64 R.2.uses 32=0
   ·simp only[zW,Nat.reduceShiftRight,Nat.reduceMod,Nat.reduceLT,Nat.reduceMul,Nat.reduceSub,Int.reduceToNat,Int.reduceNeg,Int.reduceLT,Int.reduceLE,Int.reduceEq,Nat.reduceEqDiff,Nat.reduceAdd,Nat.reduceLeDiff,reduceIte,reduceCtorEq,Nat.reduceBEq,i64,mkV,mkO,w1,Mk.next,h32]
    refine call_pure (refNullable_ok R.1 (by omega)) (by simp [refsV,refsV.go,reV_eq,i64,bV,reEl]) (by simp [refsV,refsV.go,reV_eq,i64,bV,reEl]) ?_
    cases hn:R.1.nul with
    | true =>
     simp only[zW,Nat.reduceShiftRight,Nat.reduceMod,Nat.reduceLT,Nat.reduceMul,Nat.reduceSub,Int.reduceToNat,Int.reduceNeg,Int.reduceLT,Int.reduceLE,Int.reduceEq,Nat.reduceEqDiff,Nat.reduceAdd,Nat.reduceLeDiff,reduceIte,reduceCtorEq,Nat.reduceBEq,i64,bV,mkV,mkO,w1,Mk.next,h32,hn]
     refine call_one (set_ok R.2 g1.l ⟨g1.p0,by have:=g1.p1; omega⟩) rfl rfl rfl rfl rfl (renV_reV _ _) ?_
     simp only[zW,Nat.reduceShiftRight,Nat.reduceMod,Nat.reduceLT,Nat.reduceMul,Nat.reduceSub,Int.reduceToNat,Int.reduceNeg,Int.reduceLT,Int.reduceLE,Int.reduceEq,Nat.reduceEqDiff,Nat.reduceAdd,Nat.reduceLeDiff,reduceIte,reduceCtorEq,Nat.reduceBEq,i64,bV,mkV,mkO,w1,Mk.next,h32,hn]
     all_goals first | exact⟨rfl,rfl⟩ | exact⟨rfl,trivial⟩ | rfl | trivial | (rw[reV_eq]; rfl)
    | false =>
     simp only[zW,Nat.reduceShiftRight,Nat.reduceMod,Nat.reduceLT,Nat.reduceMul,Nat.reduceSub,Int.reduceToNat,Int.reduceNeg,Int.reduceLT,Int.reduceLE,Int.reduceEq,Nat.reduceEqDiff,Nat.reduceAdd,Nat.reduceLeDiff,reduceIte,reduceCtorEq,Nat.reduceBEq,i64,bV,mkV,mkO,w1,Mk.next,h32,hn]
     all_goals first | exact⟨rfl,rfl⟩ | exact⟨rfl,trivial⟩ | rfl | trivial | (rw[reV_eq]; rfl)
   ·simp only[zW,Nat.reduceShiftRight,Nat.reduceMod,Nat.reduceLT,Nat.reduceMul,Nat.reduceSub,Int.reduceToNat,Int.reduceNeg,Int.reduceLT,Int.reduceLE,Int.reduceEq,Nat.reduceEqDiff,Nat.reduceAdd,Nat.reduceLeDiff,reduceIte,reduceCtorEq,Nat.reduceBEq,i64,mkV,mkO,w1,Mk.next,h32]
    all_goals first | exact⟨rfl,rfl⟩ | exact⟨rfl,trivial⟩ | rfl | trivial | (rw[reV_eq]; rfl)
 ·simp only[zW,Nat.reduceShiftRight,Nat.reduceMod,Nat.reduceLT,Nat.reduceMul,Nat.reduceSub,Int.reduceToNat,Int.reduceNeg,Int.reduceLT,Int.reduceLE,Int.reduceEq,Nat.reduceEqDiff,Nat.reduceAdd,Nat.reduceLeDiff,reduceIte,reduceCtorEq,Nat.reduceBEq,i64,mkV,mkO,w1,Mk.next,hmins,hmaxs,h8]
  obtain⟨g1,g2⟩:=tree_good d ((m.next 12).2.next 2).2 (b + 3) (by omega) (((hm.next 12).next 2).mono (by omega))
  refine call_one (ht ((m.next 12).2.next 2).2 (b + 3) (by omega) (((hm.next 12).next 2).mono (by omega)) (by omega)) rfl rfl rfl rfl rfl (renV_reV _ _) ?_
  have hrm:repMode (m.next 12).2=((pick m.l (m.pos + 1) 2),((m.next 12).2.next 2).2):=by simp [repMode,Mk.has,h8,Mk.next]
  have hrep:m.rep (Mk.tree d)=(.mk 4 [] [(repKid (Mk.tree d) ((m.next 12).2.next 2).2).1] ((repMins[(pick m.l m.pos 12).toNat]?).getD 0) ((repMaxs[(pick m.l m.pos 12).toNat]?).getD 0) (pick m.l (m.pos + 1) 2) 0 false,(repKid (Mk.tree d) ((m.next 12).2.next 2).2).2):=by simp only[Mk.rep,hrm]; rfl
  have hrk:repKid (Mk.tree d) ((m.next 12).2.next 2).2=if bitV .and .i64 (Mk.tree d ((m.next 12).2.next 2).2).2.uses 32=0∧(Mk.tree d ((m.next 12).2.next 2).2).1.nul=true then (Mk.tree d ((m.next 12).2.next 2).2).2.set else Mk.tree d ((m.next 12).2.next 2).2:=rfl
  rw[hrep,hrk]
  generalize Mk.tree d ((m.next 12).2.next 2).2=R at *
  by_cases h32:bitV .and .i64 R.2.uses 32=0
  ·simp only[zW,Nat.reduceShiftRight,Nat.reduceMod,Nat.reduceLT,Nat.reduceMul,Nat.reduceSub,Int.reduceToNat,Int.reduceNeg,Int.reduceLT,Int.reduceLE,Int.reduceEq,Nat.reduceEqDiff,Nat.reduceAdd,Nat.reduceLeDiff,reduceIte,reduceCtorEq,Nat.reduceBEq,i64,mkV,mkO,w1,Mk.next,h32]
   refine call_pure (refNullable_ok R.1 (by omega)) (by simp [refsV,refsV.go,reV_eq,i64,bV,reEl]) (by simp [refsV,refsV.go,reV_eq,i64,bV,reEl]) ?_
   cases hn:R.1.nul with
   | true =>
    simp only[zW,Nat.reduceShiftRight,Nat.reduceMod,Nat.reduceLT,Nat.reduceMul,Nat.reduceSub,Int.reduceToNat,Int.reduceNeg,Int.reduceLT,Int.reduceLE,Int.reduceEq,Nat.reduceEqDiff,Nat.reduceAdd,Nat.reduceLeDiff,reduceIte,reduceCtorEq,Nat.reduceBEq,i64,bV,mkV,mkO,w1,Mk.next,h32,hn]
    refine call_one (set_ok R.2 g1.l ⟨g1.p0,by have:=g1.p1; omega⟩) rfl rfl rfl rfl rfl (renV_reV _ _) ?_
    simp only[zW,Nat.reduceShiftRight,Nat.reduceMod,Nat.reduceLT,Nat.reduceMul,Nat.reduceSub,Int.reduceToNat,Int.reduceNeg,Int.reduceLT,Int.reduceLE,Int.reduceEq,Nat.reduceEqDiff,Nat.reduceAdd,Nat.reduceLeDiff,reduceIte,reduceCtorEq,Nat.reduceBEq,i64,bV,mkV,mkO,w1,Mk.next,h32,hn]
    all_goals first | exact⟨rfl,rfl⟩ | exact⟨rfl,trivial⟩ | rfl | trivial | (rw[reV_eq]; rfl)
   | false =>
    simp only[zW,Nat.reduceShiftRight,Nat.reduceMod,Nat.reduceLT,Nat.reduceMul,Nat.reduceSub,Int.reduceToNat,Int.reduceNeg,Int.reduceLT,Int.reduceLE,Int.reduceEq,Nat.reduceEqDiff,Nat.reduceAdd,Nat.reduceLeDiff,reduceIte,reduceCtorEq,Nat.reduceBEq,i64,bV,mkV,mkO,w1,Mk.next,h32,hn]
    all_goals first | exact⟨rfl,rfl⟩ | exact⟨rfl,trivial⟩ | rfl | trivial | (rw[reV_eq]; rfl)
  ·simp only[zW,Nat.reduceShiftRight,Nat.reduceMod,Nat.reduceLT,Nat.reduceMul,Nat.reduceSub,Int.reduceToNat,Int.reduceNeg,Int.reduceLT,Int.reduceLE,Int.reduceEq,Nat.reduceEqDiff,Nat.reduceAdd,Nat.reduceLeDiff,reduceIte,reduceCtorEq,Nat.reduceBEq,i64,mkV,mkO,w1,Mk.next,h32]
   all_goals first | exact⟨rfl,rfl⟩ | exact⟨rfl,trivial⟩ | rfl | trivial | (rw[reV_eq]; rfl)
end Go.Proofs.Ytpppfpaalcbggaa
