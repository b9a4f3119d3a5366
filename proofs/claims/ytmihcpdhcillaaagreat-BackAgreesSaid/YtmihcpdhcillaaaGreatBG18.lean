/- A part of the proof (F26 F42). -/
import Derived.Test.YtmihcpdhcillaaaGreatBG7
import Derived.Test.YtmihcpdhcillaaaGreatBG5
import Derived.Test.YtmihcpdhcillaaaGreatBG17
set_option linter.unusedSimpArgs false
set_option linter.unusedVariables false
set_option maxRecDepth 100000
set_option maxHeartbeats 80000000
set_option linter.unusedSimpArgs false
set_option linter.unusedVariables false
namespace Go.Proofs.YtmihcpdhcillaaaGreat
open Go.VL Go.Proofs.Tryz
theorem gK {re:Re}{ak top:Int}:b7 re ak top=true ↔
  (0≤re.op∧re.op≤11∧(cR re.op).1≤re.kids.length∧((cR re.op).2<0∨(re.kids.length:Int)≤(cR re.op).2)) ∧
  (if re.op=1 then gL re.set top=true else re.set.length=0) ∧
  (if re.op=4 then (0≤re.mn∧re.mn≤32∧-1≤re.mx∧re.mx≠0∧re.mx≤32∧(0<re.mx→re.mn≤re.mx)∧0≤re.mode∧re.mode≤2) else (re.mn=0∧re.mx=0∧re.mode=0)) ∧
  (if re.op=5∨re.op=6∨re.op=10 then (1≤re.n∧re.n≤ak) else if re.op=11 then (0≤re.n∧re.n≤5) else re.n=0) ∧
  (re.neg=true→re.op=7∨re.op=8):=by
 unfold b7
 simp only[W7,decide_eq_true_eq]
 refine and_congr Iff.rfl (and_congr ?_ (and_congr ?_ (and_congr ?_ ?_)))
 ·split <;> simp
 ·split <;> simp only[decide_eq_true_eq]
 ·split
  ·simp only[decide_eq_true_eq]
  ·split <;> simp only[decide_eq_true_eq]
 ·cases re.neg <;> simp
theorem Db {re:Re}{ak D1 top:Int} (h:ak≤D1) (hn:b7 re ak top=true):b7 re D1 top=true:=by
 rw[gK]at *
 obtain⟨a,b,c,d,e⟩:=hn
 refine⟨a,b,c,?_,e⟩
 split
 ·rename_i hh;rw[if_pos hh]at d;omega
 ·rename_i hh;rw[if_neg hh]at d;exact d
theorem xu {re:Re}{ak D1 top:Int} (h:ak≤D1) (hn:re.whole ak top=true):re.whole D1 top=true :=
 CQ (fun r hr=>Db h hr) re hn
theorem lM {op mn mx mode n ak top:Int}{set:List (Int×Int)}{kids:List Re}{neg:Bool} (h:b7 (.mk op set kids mn mx mode n neg) ak top=true) (hk:∀k∈kids,k.whole ak top=true):(Re.mk op set kids mn mx mode n neg).whole ak top=true :=
 (Re.ck _).2 ⟨h,hk⟩
theorem Re.th {op mn mx mode n:Int}{set:List (Int×Int)}{kids:List Re}{neg:Bool}{b:Int} (hb:0≤b) (hk:∀k∈kids,k.depth≤b):(Re.mk op set kids mn mx mode n neg).depth≤b+1:=by
 rw[Re.py]
 have:=kK (b:=b) (kids.map Re.depth) 0 hb (fun x hx=>by obtain⟨k,sr,rfl⟩:=List.mem_map.1 hx;exact hk k sr)
 show rN (kids.map Re.depth)+1≤_
 unfold rN
 omega
structure PA (d:Nat) (m:Mk) (x:Re×Mk):Prop where
 ak:m.ak≤x.2.ak
 ok:x.1.whole x.2.ak 255=true
 dep:x.1.depth≤d+1
 size:(x.1.size:Int)≤m.left-x.2.left
 low:m.left≤3→m.left-1≤x.2.left
 high:4≤m.left→2-4*(d:Int)≤x.2.left
structure TT (d:Nat) (t:Mk→Re×Mk) (c z:Int):Prop where
 cn:Good t c z
 c0:0≤c
 z1:1≤z
 tok:∀m b,0≤b→Mk.In m b→PA d m (t m)
theorem PA.one {d:Nat}{m:Mk}{x:Re×Mk} (h:PA d m x) {B:Int} (h1:B≤2-4*(d:Int)) (h2:B≤m.left):B-1≤x.2.left:=by
 have:=h.low;have:=h.high
 omega
structure UZ (d f:Nat) (m:Mk) (x:List Re×Mk):Prop where
 ak:m.ak≤x.2.ak
 ok:∀k∈x.1,k.whole x.2.ak 255=true
 dep:∀k∈x.1,k.depth≤d+1
 size:(Re.dL x.1:Int)≤m.left-x.2.left
 RD:∀B:Int,B≤2-4*(d:Int)→B≤m.left→B-f≤x.2.left
theorem vj {d:Nat}{t:Mk→Re×Mk}{c z:Int} (ht:TT d t c z):∀(f:Nat) (i:Int) (m:Mk) (b:Int),0≤b→m.In b→UZ d f m (bL t f i m)
 |0,i,m,b,hb,h=>⟨WW _,by simp [bL],by simp [bL],by simp [bL,Re.dL],fun B _ h2=>by simpa [bL]using h2⟩
 |f+1,i,m,b,hb,h=>by
  simp only[bL]
  split
  ·have h1:=h.next 2
   have h2:=ht.tok _ (b+1) (by omega) h1
   obtain⟨h3,_⟩:=ht.cn _ (b+1) (by omega) h1
   have h4:=vj ht f (i+1) _ (b+1+c) (by have:=ht.c0;omega) h3
   refine⟨Int.le_trans h2.ak h4.ak,?_,?_,?_,?_⟩
   ·intro k hk
    rcases List.mem_cons.1 hk with rfl|hk
    ·exact xu h4.ak h2.ok
    ·exact h4.ok k hk
   ·intro k hk
    rcases List.mem_cons.1 hk with rfl|hk
    ·exact h2.dep
    ·exact h4.dep k hk
   ·have a:=h2.size
    have a':=h4.size
    simp only[Re.dL,XY]
    have e:(m.next 2).2.left=m.left:=rfl
    omega
   ·intro B Lr T3
    have:=h4.RD (B-1) (by omega) (h2.one Lr T3)
    simp only[XY]
    omega
  ·exact⟨WW _,by simp,by simp,by simp [Re.dL,Mk.next],fun B _ h2=>by simp only[Mk.next];omega⟩
theorem Ba {t:Mk→Re×Mk} (m:Mk):2≤(bL t 4 0 m).1.length:=by
 have hp:=cB m.l m.pos 2 (by omega)
 rw[bL,if_pos (by simp only[Mk.next];omega)]
 simp only[W3]
 generalize (t (m.next 2).2).2=m'
 have LI:=cB m'.l m'.pos 2 (by omega)
 rw[bL,if_pos (by simp only[Mk.next];omega)]
 simp
structure Ow (d:Nat) (m:Mk) (x:Re×Mk):Prop where
 ak:m.ak≤x.2.ak
 ok:x.1.whole x.2.ak 255=true
 dep:x.1.depth≤d+2
 size:(x.1.size:Int)≤1+(m.left-x.2.left)
 RD:∀B:Int,B≤2-4*(d:Int)→B≤m.left→B-4≤x.2.left
theorem qG (m:Mk) (ak:Int):m.set.1.whole ak 255=true:=by
 have hs:∀i:Nat,gL ((nJ[i]?).getD []) 255=true:=by
  intro i
  by_cases hi:i<8
  ·have:∀i,i<8→gL ((nJ[i]?).getD []) 255=true:=by decide
   exact this i hi
  ·rw[XQ (by simp [nJ];omega)];rfl
 refine lM (gK.2 ?_) (fun k hk=>by cases hk)
 refine⟨⟨by simp [Re.op],by simp [Re.op],by simp [Re.op,cR],by simp [Re.op,cR,Re.kids]⟩,?_,?_,?_,?_⟩
 ·show (if (1:Int)=1 then gL ((nJ[(pick m.l m.pos 15 / 2).toNat]?).getD []) 255=true else _)
  rw[if_pos rfl];exact hs _
 ·rw[if_neg (by simp [Re.op])];exact⟨rfl,rfl,rfl⟩
 ·rw[if_neg (by simp [Re.op]),if_neg (by simp [Re.op])];rfl
 ·intro h;simp [Re.neg]at h
theorem wx (m:Mk):m.set.1.depth=1:=rfl
theorem tn (m:Mk):m.set.1.size=1:=rfl
theorem LQ (d:Nat) (m:Mk):Ow d m m.set :=
 ⟨WW _,qG m _,by rw[wx];omega,by rw[tn];simp [Mk.set,Mk.next],fun B _ h=>by simp only[Mk.set,Mk.next];omega⟩
theorem wG {d:Nat}{m m':Mk}{x:Re×Mk}{op mn mx mode n:Int}{neg:Bool} (h:PA d m' x) (hc:m.ak≤m'.ak) (hl:m'.left=m.left)
  (hn:b7 (.mk op [] [x.1] mn mx mode n neg) x.2.ak 255=true):Ow d m (.mk op [] [x.1] mn mx mode n neg,x.2):=by
 refine⟨Int.le_trans hc h.ak,lM hn (fun k hk=>by rw[List.mem_singleton.1 hk];exact h.ok),?_,?_,?_⟩
 ·exact Re.th (b:=d+1) (by omega) (fun k hk=>by rw[List.mem_singleton.1 hk];exact h.dep)
 ·show ((Re.mk op [] [x.1] mn mx mode n neg).size:Int)≤1+(m.left-x.2.left)
  rw[pk];have:=h.size;omega
 ·intro B h1 h2
  have:=h.one h1 (by omega)
  show B-4≤x.2.left
  omega
theorem C3 {d:Nat}{m m':Mk}{op mn mx mode n:Int}{neg:Bool} (hc:m.ak=m'.ak) (hl:m'.left=m.left)
  (hn:b7 (.mk op [] [] mn mx mode n neg) m'.ak 255=true):Ow d m (.mk op [] [] mn mx mode n neg,m'):=by
 refine⟨by rw[hc];exact WW _,lM hn (fun k hk=>by cases hk),?_,?_,?_⟩
 ·have:=Re.th (op:=op) (set:=[]) (mn:=mn) (mx:=mx) (mode:=mode) (n:=n) (neg:=neg) (b:=0) (kids:=[]) (by omega) (fun k hk=>by cases hk)
  show (Re.mk op [] [] mn mx mode n neg).depth≤_
  omega
 ·show ((Re.mk op [] [] mn mx mode n neg).size:Int)≤1+(m.left-m'.left);rw[hl];simp [Re.size,Re.dL]
 ·intro B h1 h2;show B-4≤m'.left;omega
theorem ft {op n ak:Int}{kids:List Re}{neg:Bool} (h0:0≤op∧op≤11) (h1:op≠1) (h4:op≠4) (hk:(cR op).1≤kids.length∧((cR op).2<0∨(kids.length:Int)≤(cR op).2))
  (hn:if op=5∨op=6∨op=10 then (1≤n∧n≤ak) else if op=11 then (0≤n∧n≤5) else n=0) (cu:neg=true→op=7∨op=8):b7 (.mk op [] kids 0 0 0 n neg) ak 255=true:=by
 refine gK.2 ⟨⟨h0.1,h0.2,hk.1,hk.2⟩,?_,?_,hn,cu⟩
 ·rw[if_neg (by exact h1)];rfl
 ·rw[if_neg (by exact h4)];exact⟨rfl,rfl,rfl⟩
theorem E7 {d:Nat}{t:Mk→Re×Mk}{m:Mk} (h:PA d m (t m)):PA d m (ju t m):=by
 unfold ju
 simp only
 split
 ·have h1:=h.size
  have h2:=(t m).1.size_pos
  exact⟨h.ak,qG _ _,by rw[wx];omega,by rw[tn];show ((1:Nat):Int)≤m.left-(t m).2.left;omega,h.low,h.high⟩
 ·exact h
theorem BK (m:Mk):(gv m).2.ak=m.ak∧(gv m).2.left=m.left∧0≤(gv m).1∧(gv m).1≤2:=by
 have hp:=cB m.l m.pos 2 (by omega)
 unfold gv
 simp only
 split
 ·refine⟨rfl,rfl,?_,?_⟩ <;> (split <;> simp only[Mk.next] <;> omega)
 ·refine⟨rfl,rfl,?_,?_⟩ <;> simp only[Mk.next] <;> omega
theorem MM {d:Nat}{t:Mk→Re×Mk}{c z:Int} (ht:TT d t c z) {m:Mk}{b:Int} (hb:0≤b) (h:m.In b):Ow d m (m.rep t):=by
 have hk:=cB m.l m.pos 12 (by omega)
 have hi:=xt (h.next 12)
 obtain⟨r1,r2,r3,r4⟩:=BK (m.next 12).2
 have h2:=E7 (ht.tok _ (b+1+2) (by omega) hi)
 simp only[Mk.rep]
 refine wG h2 (by rw[r1];exact WW _) (by rw[r2];rfl) (gK.2 ⟨⟨by simp [Re.op],by simp [Re.op],by simp [Re.op,cR,Re.kids],by simp [Re.op,cR,Re.kids]⟩,?_,?_,?_,?_⟩)
 ·rw[if_neg (by simp [Re.op])];rfl
 ·rw[if_pos (by simp [Re.op])]
  have key:∀i:Nat,i<12→0≤(jY[i]?).getD 0∧(jY[i]?).getD 0≤32∧-1≤(iy[i]?).getD 0∧(iy[i]?).getD 0≠0∧(iy[i]?).getD 0≤32∧(0<(iy[i]?).getD 0→(jY[i]?).getD 0≤(iy[i]?).getD 0):=by decide
  obtain⟨k1,k2,k3,k4,k5,k6⟩:=key (pick m.l m.pos 12).toNat (by omega)
  exact⟨k1,k2,k3,k4,k5,k6,r3,r4⟩
 ·rw[if_neg (by simp [Re.op]),if_neg (by simp [Re.op])];rfl
 ·intro h;simp [Re.neg]at h
theorem Cq (m:Mk):(eF m).2.left=m.left:=by
 unfold eF
 simp only
 split
 ·rfl
 ·split
  ·split <;> rfl
  ·rfl
theorem vx {d:Nat}{t:Mk→Re×Mk}{c z:Int} (ht:TT d t c z) {m:Mk}{b:Int} (hb:0≤b) (h:m.In b):Ow d m (m.fx t):=by
 obtain⟨h1,h2,h3,h4⟩:=ur h
 have hl:=Cq m
 simp only[Mk.fx]
 have yQ:((eF m).2.iX (max (eF m).2.ak (eF m).1)).In (b+2):=⟨h1.l,h1.p0,h1.p1,h1.l0,h1.l1,by show 0≤max _ _;omega,by have:=h.c1;show max _ _≤4;omega⟩
 have hx:=ht.tok _ (b+2) (by omega) yQ
 have PG:(eF m).1≤(t ((eF m).2.iX (max (eF m).2.ak (eF m).1))).2.ak:=Int.le_trans (by show _≤max _ _;omega) hx.ak
 refine wG hx (by show m.ak≤max _ _;omega) hl (ft (by omega) (by omega) (by omega) (by simp [cR]) ?_ (by simp))
 rw[if_pos (.inl rfl)]
 exact⟨h3,PG⟩
theorem ym {d:Nat}{m:Mk}{op:Int}{x:List Re×Mk} (h:UZ d 4 m x) (ho:op=2∨op=3) (hl:2≤x.1.length):Ow d m (Re.node op x.1,x.2):=by
 refine⟨h.ak,lM (ft (by omega) (by omega) (by omega) ?_ ?_ (by simp)) h.ok,Re.th (b:=d+1) (by omega) h.dep,?_,?_⟩
 ·unfold cR;rw[if_pos ho];exact⟨by show (2:Int)≤_;omega,.inl (by show (-1:Int)<0;omega)⟩
 ·rw[if_neg (by omega),if_neg (by omega)]
 ·show ((Re.node op x.1).size:Int)≤_
  have:=h.size
  simp only[Re.node,Re.size,XY]
  show ((1:Nat):Int)+(Re.dL x.1:Int)≤1+(m.left-x.2.left)
  omega
 ·intro B h1 h2
  exact h.RD B h1 h2
theorem KH {d:Nat}{t:Mk→Re×Mk}{c z:Int} (ht:TT d t c z) (k:Int) {m:Mk}{b:Int} (hb:0≤b) (h:m.In b):Ow d m (Mk.node t k m):=by
 have hf:=vj ht 4 0 m b hb h
 have hl:=Ba (t:=t) m
 have IL:=ht.c0
 unfold Mk.node
 split
 ·exact ym hf (.inl rfl) hl
 split
 ·exact ym hf (.inr rfl) hl
 split
 ·exact MM ht hb h
 split
 ·exact vx ht hb h
 split
 ·exact vx ht hb h
 split
 ·have hp:=cB m.l m.pos 6 (by omega)
  refine C3 rfl rfl (ft (by omega) (by omega) (by omega) (by simp [cR]) ?_ (by simp))
  rw[if_neg (by omega),if_pos rfl]
  simp only[Mk.next];omega
 split
 ·have hp:=cB (m.next 3).2.l (m.next 3).2.pos 2 (by omega)
  have hx:=ht.tok _ (b+2) (by omega) (((h.next 3).next 2).mono (by omega))
  have MI:((m.next 3).2.next 2).1=0∨((m.next 3).2.next 2).1=1:=by simp only[Mk.next]at hp ⊢;omega
  refine wG hx (WW _) rfl (ft ?_ ?_ ?_ ?_ ?_ ?_)
  ·omega
  ·omega
  ·omega
  ·rcases MI with e|e <;> rw[e] <;> simp [cR]
  ·rcases MI with e|e <;> rw[e] <;> simp
  ·intro _;omega
 split
 ·exact wG (ht.tok m b hb h) (WW _) rfl (ft (by omega) (by omega) (by omega) (by simp [cR]) (by simp) (by simp))
 split
 ·rename_i xQ
  have sw:0<m.ak:=xQ.2.2
  have hp:=cB m.l m.pos m.ak (by omega)
  refine C3 rfl rfl (ft (by omega) (by omega) (by omega) (by simp [cR]) ?_ (by simp))
  rw[if_pos (.inr (.inl rfl))]
  simp only[Mk.next];omega
 split
 ·rename_i xQ
  have sw:0<m.ak:=xQ.2.2
  have hp:=cB m.l m.pos m.ak (by omega)
  have h1:=h.next m.ak
  have hy:=ht.tok _ (b+1) (by omega) h1
  obtain⟨h2,_⟩:=ht.cn _ (b+1) (by omega) h1
  have hz:=ht.tok _ (b+1+c) (by omega) h2
  have e1:(m.next m.ak).2.ak=m.ak:=rfl
  have e2:(m.next m.ak).2.left=m.left:=rfl
  simp only
  refine⟨Int.le_trans hy.ak hz.ak,lM (ft (by omega) (by omega) (by omega) (by simp [cR]) ?_ (by simp)) ?_,Re.th (b:=d+1) (by omega) ?_,?_,?_⟩
  ·rw[if_pos (.inr (.inr rfl))]
   have:=Int.le_trans hy.ak hz.ak
   simp only[Mk.next]at this hp ⊢
   omega
  ·intro x hx
   rcases List.mem_cons.1 hx with rfl|hx
   ·exact xu hz.ak hy.ok
   ·rw[List.mem_singleton.1 hx];exact hz.ok
  ·intro x hx
   rcases List.mem_cons.1 hx with rfl|hx
   ·exact hy.dep
   ·rw[List.mem_singleton.1 hx];exact hz.dep
  ·have a1:=hy.size
   have a2:=hz.size
   simp only[Re.size,Re.dL,XY]
   omega
  ·intro B Lr T3
   have b1:=hy.one Lr (by omega)
   have b2:=hz.one (B:=B-1) (by omega) b1
   show B-4≤(t (t (m.next m.ak).2).2).2.left
   omega
 ·exact LQ d m
theorem tx:∀d,TT d (Mk.tree d) (cD d) (zD d)
 |0=>by
  refine⟨gT 0,by have:=bP 0;omega,uq 0,fun m b hb h=>?_⟩
  simp only[Mk.tree]
  have el:(m.less.next 20).2.left=m.left-1:=rfl
  have ec:(m.less.next 20).2.ak=m.ak:=rfl
  split
  ·have hn:b7 (Re.node 0 []) (m.less.next 20).2.ak 255=true:=ft (by omega) (by omega) (by omega) (by simp [cR]) (by simp) (by simp)
   exact⟨by rw[ec];exact WW _,lM hn (fun k hk=>by cases hk),by show (1:Int)≤_;omega,by show ((1:Nat):Int)≤m.left-(m.less.next 20).2.left;omega,fun _=>by show _≤(m.less.next 20).2.left;omega,fun _=>by show _≤(m.less.next 20).2.left;omega⟩
  ·have e1:(m.less.next 20).2.set.2.left=m.left-1:=rfl
   exact⟨WW _,qG _ _,by rw[wx];omega,by rw[tn];omega,fun _=>by omega,fun _=>by omega⟩
 |d+1=>by
  refine⟨gT (d+1),by have:=bP (d+1);omega,uq (d+1),fun m b hb h=>?_⟩
  simp only[Mk.tree]
  have el:(m.less.next 20).2.left=m.left-1:=rfl
  have ec:(m.less.next 20).2.ak=m.ak:=rfl
  split
  ·split
   ·have hn:b7 (Re.node 0 []) (m.less.next 20).2.ak 255=true:=ft (by omega) (by omega) (by omega) (by simp [cR]) (by simp) (by simp)
    exact⟨by rw[ec];exact WW _,lM hn (fun k hk=>by cases hk),by show (1:Int)≤_;omega,by show ((1:Nat):Int)≤m.left-(m.less.next 20).2.left;omega,fun _=>by show _≤(m.less.next 20).2.left;omega,fun _=>by show _≤(m.less.next 20).2.left;omega⟩
   ·have e1:(m.less.next 20).2.set.2.left=m.left-1:=rfl
    exact⟨WW _,qG _ _,by rw[wx];omega,by rw[tn];omega,fun _=>by omega,fun _=>by omega⟩
  ·rename_i xQ
   have RZ:¬(m.less.next 20).2.left<3:=fun hh=>xQ (.inl hh)
   have hn:=KH (tx d) (m.less.next 20).1 (b:=b+1+1) (by omega) (h.left.next 20)
   refine⟨Int.le_trans (by rw[ec];exact WW _) hn.ak,hn.ok,?_,?_,fun hh=>by omega,fun _=>?_⟩
   ·have:=hn.dep;simp only[XY];omega
   ·have:=hn.size;omega
   ·have:=hn.RD (2-4*(d:Int)) (WW _) (by omega)
    simp only[XY];omega
theorem uX (l:List Int) (cL ah:Int) (hl:∀x∈l,jX x) (h0:0≤ah) (h1:ah≤100):df (mY l cL ah)=0∧(mY l cL ah).re.size≤256:=by
 have yQ:(⟨l,0,cL,ah,0⟩:Mk).In 0:=⟨hl,by simp,by simp,by simpa using h0,by show ah≤_;omega,by simp,by simp⟩
 have h:=(tx 5).tok ⟨l,0,cL,ah,0⟩ 0 (by omega) yQ
 obtain⟨g,_⟩:=(tx 5).cn ⟨l,0,cL,ah,0⟩ 0 (by omega) yQ
 have iB:=h.size
 have N0:=h.low
 have Rr:=h.high
 have Vz:=h.dep
 have np:=h.ok
 have hs:(mY l cL ah).re.size≤256:=by
  show (Mk.tree 5 ⟨l,0,cL,ah,0⟩).1.size≤256
  simp only at iB N0 Rr
  omega
 refine⟨?_,hs⟩
 unfold df
 rw[if_neg,if_neg]
 ·rintro (h'|h'|h')
  ·have:=g.c0;have Nz:(Mk.tree 5 ⟨l,0,cL,ah,0⟩).2.ak<0:=h';omega
  ·have:=g.c1;have Nz:9<(Mk.tree 5 ⟨l,0,cL,ah,0⟩).2.ak:=h';omega
  ·have Nz:(Mk.tree 5 ⟨l,0,cL,ah,0⟩).1.whole (Mk.tree 5 ⟨l,0,cL,ah,0⟩).2.ak 255=false:=h'
   rw[np]at Nz;cases Nz
 ·rintro (h'|h')
  ·omega
  ·have Nz:24<(Mk.tree 5 ⟨l,0,cL,ah,0⟩).1.depth:=h'
   omega
theorem Nx {top:Int}:∀(l:List (Int×Int)) (p:Int),oW top p l=true→∀s∈l,0≤s.1∧s.1≤top∧0≤s.2∧s.2≤top
 |[],p,h,s,hs=>by cases hs
 |x::l,p,h,s,hs=>by
  simp only[oW,W7,decide_eq_true_eq]at h
  rcases List.mem_cons.1 hs with rfl|hs
  ·omega
  ·exact Nx l x.2 h.2 s hs
theorem Co {re:Re}{ak top:Int}{c:Nat} (hc:64≤c) (ht:top≤1114111) (sw:ak≤1000000) (h:b7 re ak top=true) (hk:re.kids.length≤c):r9 c re=true:=by
 obtain⟨h1,h2,h3,h4,h5⟩:=gK.1 h
 have cC:re.set.length≤64∧∀s∈re.set,jX s.1∧jX s.2:=by
  split at h2
  ·simp only[gL,W7,decide_eq_true_eq]at h2
   refine⟨h2.1,fun s hs=>?_⟩
   have:=Nx _ _ h2.2 s hs
   unfold jX;omega
  ·have hn:re.set=[]:=Xb h2
   rw[hn];exact⟨by simp,fun s hs=>by cases hs⟩
 refine yg.2 ⟨⟨by omega,hk,?_,?_,?_,?_,?_⟩,cC.2⟩
 ·unfold jX;omega
 ·unfold jX;split at h3 <;> omega
 ·unfold jX;split at h3 <;> omega
 ·unfold jX;split at h3 <;> omega
 ·unfold jX;split at h4
  ·omega
  ·split at h4 <;> omega
theorem Ak (l:List Int) (cL ah:Int) (hl:∀x∈l,jX x) (h0:0≤ah) (h1:ah≤100):(mY l cL ah).small 256:=by
 have yQ:(⟨l,0,cL,ah,0⟩:Mk).In 0:=⟨hl,by simp,by simp,by simpa using h0,by show ah≤_;omega,by simp,by simp⟩
 have h:=(tx 5).tok ⟨l,0,cL,ah,0⟩ 0 (by omega) yQ
 obtain⟨g,_⟩:=(tx 5).cn ⟨l,0,cL,ah,0⟩ 0 (by omega) yQ
 obtain⟨_,hs⟩:=uX l cL ah hl h0 h1
 have IL:=g.c0
 have Eb:=g.c1
 refine⟨?_,hs,by show jX (Mk.tree 5 ⟨l,0,cL,ah,0⟩).2.ak;unfold jX;omega⟩
 have np:(mY l cL ah).re.whole (Mk.tree 5 ⟨l,0,cL,ah,0⟩).2.ak 255=true:=h.ok
 revert np hs
 generalize (mY l cL ah).re=re
 intro hs np
 refine Re.ind (Q:=fun re=>re.size≤256→re.whole (Mk.tree 5 ⟨l,0,cL,ah,0⟩).2.ak 255=true→re.every (r9 256)=true) (fun re ih hs np=>?_) re hs np
 obtain⟨a1,a2⟩:=(Re.ck re).1 np
 have:=Re.pN re.kids
 have:=Re.size_eq re
 exact(Re.ck re).2 ⟨Co (by omega) (by omega) (by omega) a1 (by omega),fun k hk=>ih k hk (by have:=Re.gG hk;omega) (a2 k hk)⟩
end Go.Proofs.YtmihcpdhcillaaaGreat
