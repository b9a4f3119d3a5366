/- A part of the proof (F26 F42). -/
import Derived.Test.YtllagoeijcjpiaaBD4
import Derived.Test.YtllagoeijcjpiaaBD14
import Derived.Test.YtllagoeijcjpiaaBD16
set_option linter.unusedSimpArgs false
set_option linter.unusedVariables false
set_option maxRecDepth 100000
set_option maxHeartbeats 80000000
set_option linter.unusedSimpArgs false
set_option linter.unusedVariables false
namespace Go.Proofs.Ytllagoeijcjpiaa
open Go.VL Go.Proofs.Try
theorem ta (n m:Int) (hm:1≤m) (hn:iV n):0≤lQ n m∧lQ n m<m:=by
 unfold iV at hn
 unfold lQ
 split
 ·exact⟨Int.tmod_nonneg _ (by omega),Int.tmod_lt_of_pos _ (by omega)⟩
 ·exact⟨Int.tmod_nonneg _ (by omega),Int.tmod_lt_of_pos _ (by omega)⟩
theorem iU {re:Re}{ai top:Int}:cg re ai top=true ↔
  (0≤re.op∧re.op≤11∧(da re.op).1≤re.kids.length∧((da re.op).2<0∨(re.kids.length:Int)≤(da re.op).2)) ∧
  (if re.op=1 then gV re.set top=true else re.set.length=0) ∧
  (if re.op=4 then (0≤re.mn∧re.mn≤32∧-1≤re.mx∧re.mx≠0∧re.mx≤32∧(0<re.mx→re.mn≤re.mx)∧0≤re.mode∧re.mode≤2) else (re.mn=0∧re.mx=0∧re.mode=0)) ∧
  (if re.op=5∨re.op=6∨re.op=10 then (1≤re.n∧re.n≤ai) else if re.op=11 then (0≤re.n∧re.n≤5) else re.n=0) ∧
  (re.neg=true→re.op=7∨re.op=8):=by
 unfold cg
 simp only[VE,decide_eq_true_eq]
 refine and_congr Iff.rfl (and_congr ?_ (and_congr ?_ (and_congr ?_ ?_)))
 ·split <;> simp
 ·split <;> simp only[decide_eq_true_eq]
 ·split
  ·simp only[decide_eq_true_eq]
  ·split <;> simp only[decide_eq_true_eq]
 ·cases re.neg <;> simp
theorem Cs {re:Re}{ai BL top:Int} (h:ai≤BL) (hn:cg re ai top=true):cg re BL top=true:=by
 rw[iU]at *
 obtain⟨a,b,c,d,e⟩:=hn
 refine⟨a,b,c,?_,e⟩
 split
 ·rename_i hh;rw[if_pos hh]at d;omega
 ·rename_i hh;rw[if_neg hh]at d;exact d
theorem wL {re:Re}{ai BL top:Int} (h:ai≤BL) (hn:re.whole ai top=true):re.whole BL top=true :=
 Bs (fun r hr=>Cs h hr) re hn
theorem lI {op mn mx mode n ai top:Int}{set:List (Int×Int)}{kids:List Re}{neg:Bool} (h:cg (.mk op set kids mn mx mode n neg) ai top=true) (hk:∀k∈kids,k.whole ai top=true):(Re.mk op set kids mn mx mode n neg).whole ai top=true :=
 (Re.cS _).2 ⟨h,hk⟩
theorem Re.s8 {op mn mx mode n:Int}{set:List (Int×Int)}{kids:List Re}{neg:Bool}{b:Int} (hb:0≤b) (hk:∀k∈kids,k.depth≤b):(Re.mk op set kids mn mx mode n neg).depth≤b+1:=by
 rw[Re.pq]
 have:=ln (b:=b) (kids.map Re.depth) 0 hb (fun x hx=>by obtain⟨k,rb,rfl⟩:=List.mem_map.1 hx;exact hk k rb)
 show sb (kids.map Re.depth)+1≤_
 unfold sb
 omega
structure ON (d:Nat) (m:Mk) (x:Re×Mk):Prop where
 ai:m.ai≤x.2.ai
 ok:x.1.whole x.2.ai 255=true
 dep:x.1.depth≤d+1
 size:(x.1.size:Int)≤m.left-x.2.left
 low:m.left≤3→m.left-1≤x.2.left
 high:4≤m.left→2-4*(d:Int)≤x.2.left
structure TT (d:Nat) (t:Mk→Re×Mk) (c z:Int):Prop where
 cX:Good t c z
 c0:0≤c
 z1:1≤z
 tok:∀m b,0≤b→Mk.In m b→ON d m (t m)
theorem ON.one {d:Nat}{m:Mk}{x:Re×Mk} (h:ON d m x) {B:Int} (h1:B≤2-4*(d:Int)) (h2:B≤m.left):B-1≤x.2.left:=by
 have:=h.low;have:=h.high
 omega
structure Tt (d f:Nat) (m:Mk) (x:List Re×Mk):Prop where
 ai:m.ai≤x.2.ai
 ok:∀k∈x.1,k.whole x.2.ai 255=true
 dep:∀k∈x.1,k.depth≤d+1
 size:(Re.dQ x.1:Int)≤m.left-x.2.left
 Q5:∀B:Int,B≤2-4*(d:Int)→B≤m.left→B-f≤x.2.left
theorem vi {d:Nat}{t:Mk→Re×Mk}{c z:Int} (ht:TT d t c z):∀(f:Nat) (i:Int) (m:Mk) (b:Int),0≤b→m.In b→Tt d f m (bF t f i m)
 |0,i,m,b,hb,h=>⟨Vr _,by simp [bF],by simp [bF],by simp [bF,Re.dQ],fun B _ h2=>by simpa [bF]using h2⟩
 |f+1,i,m,b,hb,h=>by
  simp only[bF]
  split
  ·have h1:=h.next 2
   have h2:=ht.tok _ (b+1) (by omega) h1
   obtain⟨h3,_⟩:=ht.cX _ (b+1) (by omega) h1
   have h4:=vi ht f (i+1) _ (b+1+c) (by have:=ht.c0;omega) h3
   refine⟨Int.le_trans h2.ai h4.ai,?_,?_,?_,?_⟩
   ·intro k hk
    rcases List.mem_cons.1 hk with rfl|hk
    ·exact wL h4.ai h2.ok
    ·exact h4.ok k hk
   ·intro k hk
    rcases List.mem_cons.1 hk with rfl|hk
    ·exact h2.dep
    ·exact h4.dep k hk
   ·have a:=h2.size
    have a':=h4.size
    simp only[Re.dQ,Wt]
    have e:(m.next 2).2.left=m.left:=rfl
    omega
   ·intro B MC Tc
    have:=h4.Q5 (B-1) (by omega) (h2.one MC Tc)
    simp only[Wt]
    omega
  ·exact⟨Vr _,by simp,by simp,by simp [Re.dQ,Mk.next],fun B _ h2=>by simp only[Mk.next];omega⟩
theorem Ak {t:Mk→Re×Mk} (m:Mk):2≤(bF t 4 0 m).1.length:=by
 have hp:=cK m.l m.pos 2 (by omega)
 rw[bF,if_pos (by simp only[Mk.next];omega)]
 simp only[VC]
 generalize (t (m.next 2).2).2=m'
 have Iu:=cK m'.l m'.pos 2 (by omega)
 rw[bF,if_pos (by simp only[Mk.next];omega)]
 simp
structure Ol (d:Nat) (m:Mk) (x:Re×Mk):Prop where
 ai:m.ai≤x.2.ai
 ok:x.1.whole x.2.ai 255=true
 dep:x.1.depth≤d+2
 size:(x.1.size:Int)≤1+(m.left-x.2.left)
 Q5:∀B:Int,B≤2-4*(d:Int)→B≤m.left→B-4≤x.2.left
theorem qK (m:Mk) (ai:Int):m.set.1.whole ai 255=true:=by
 have hs:∀i:Nat,gV ((nm[i]?).getD []) 255=true:=by
  intro i
  by_cases hi:i<8
  ·have:∀i,i<8→gV ((nm[i]?).getD []) 255=true:=by decide
   exact this i hi
  ·rw[Wb (by simp [nm];omega)];rfl
 refine lI (iU.2 ?_) (fun k hk=>by cases hk)
 refine⟨⟨by simp [Re.op],by simp [Re.op],by simp [Re.op,da],by simp [Re.op,da,Re.kids]⟩,?_,?_,?_,?_⟩
 ·show (if (1:Int)=1 then gV ((nm[(pick m.l m.pos 15 / 2).toNat]?).getD []) 255=true else _)
  rw[if_pos rfl];exact hs _
 ·rw[if_neg (by simp [Re.op])];exact⟨rfl,rfl,rfl⟩
 ·rw[if_neg (by simp [Re.op]),if_neg (by simp [Re.op])];rfl
 ·intro h;simp [Re.neg]at h
theorem wv (m:Mk):m.set.1.depth=1:=rfl
theorem tD (m:Mk):m.set.1.size=1:=rfl
theorem Mc (d:Nat) (m:Mk):Ol d m m.set :=
 ⟨Vr _,qK m _,by rw[wv];omega,by rw[tD];simp [Mk.set,Mk.next],fun B _ h=>by simp only[Mk.set,Mk.next];omega⟩
theorem vV {d:Nat}{m m':Mk}{x:Re×Mk}{op mn mx mode n:Int}{neg:Bool} (h:ON d m' x) (hc:m.ai≤m'.ai) (hl:m'.left=m.left)
  (hn:cg (.mk op [] [x.1] mn mx mode n neg) x.2.ai 255=true):Ol d m (.mk op [] [x.1] mn mx mode n neg,x.2):=by
 refine⟨Int.le_trans hc h.ai,lI hn (fun k hk=>by rw[List.mem_singleton.1 hk];exact h.ok),?_,?_,?_⟩
 ·exact Re.s8 (b:=d+1) (by omega) (fun k hk=>by rw[List.mem_singleton.1 hk];exact h.dep)
 ·show ((Re.mk op [] [x.1] mn mx mode n neg).size:Int)≤1+(m.left-x.2.left)
  rw[pt];have:=h.size;omega
 ·intro B h1 h2
  have:=h.one h1 (by omega)
  show B-4≤x.2.left
  omega
theorem B9 {d:Nat}{m m':Mk}{op mn mx mode n:Int}{neg:Bool} (hc:m.ai=m'.ai) (hl:m'.left=m.left)
  (hn:cg (.mk op [] [] mn mx mode n neg) m'.ai 255=true):Ol d m (.mk op [] [] mn mx mode n neg,m'):=by
 refine⟨by rw[hc];exact Vr _,lI hn (fun k hk=>by cases hk),?_,?_,?_⟩
 ·have:=Re.s8 (op:=op) (set:=[]) (mn:=mn) (mx:=mx) (mode:=mode) (n:=n) (neg:=neg) (b:=0) (kids:=[]) (by omega) (fun k hk=>by cases hk)
  show (Re.mk op [] [] mn mx mode n neg).depth≤_
  omega
 ·show ((Re.mk op [] [] mn mx mode n neg).size:Int)≤1+(m.left-m'.left);rw[hl];simp [Re.size,Re.dQ]
 ·intro B h1 h2;show B-4≤m'.left;omega
theorem fE {op n ai:Int}{kids:List Re}{neg:Bool} (h0:0≤op∧op≤11) (h1:op≠1) (h4:op≠4) (hk:(da op).1≤kids.length∧((da op).2<0∨(kids.length:Int)≤(da op).2))
  (hn:if op=5∨op=6∨op=10 then (1≤n∧n≤ai) else if op=11 then (0≤n∧n≤5) else n=0) (ca:neg=true→op=7∨op=8):cg (.mk op [] kids 0 0 0 n neg) ai 255=true:=by
 refine iU.2 ⟨⟨h0.1,h0.2,hk.1,hk.2⟩,?_,?_,hn,ca⟩
 ·rw[if_neg (by exact h1)];rfl
 ·rw[if_neg (by exact h4)];exact⟨rfl,rfl,rfl⟩
theorem Ey {d:Nat}{t:Mk→Re×Mk}{m:Mk} (h:ON d m (t m)):ON d m (jI t m):=by
 unfold jI
 simp only
 split
 ·have h1:=h.size
  have h2:=(t m).1.size_pos
  exact⟨h.ai,qK _ _,by rw[wv];omega,by rw[tD];show ((1:Nat):Int)≤m.left-(t m).2.left;omega,h.low,h.high⟩
 ·exact h
theorem A3 (m:Mk):(gL m).2.ai=m.ai∧(gL m).2.left=m.left∧0≤(gL m).1∧(gL m).1≤2:=by
 have hp:=cK m.l m.pos 2 (by omega)
 unfold gL
 simp only
 split
 ·refine⟨rfl,rfl,?_,?_⟩ <;> (split <;> simp only[Mk.next] <;> omega)
 ·refine⟨rfl,rfl,?_,?_⟩ <;> simp only[Mk.next] <;> omega
theorem Lp {d:Nat}{t:Mk→Re×Mk}{c z:Int} (ht:TT d t c z) {m:Mk}{b:Int} (hb:0≤b) (h:m.In b):Ol d m (m.rep t):=by
 have hk:=cK m.l m.pos 12 (by omega)
 have hi:=yd (h.next 12)
 obtain⟨r1,r2,r3,r4⟩:=A3 (m.next 12).2
 have h2:=Ey (ht.tok _ (b+1+2) (by omega) hi)
 simp only[Mk.rep]
 refine vV h2 (by rw[r1];exact Vr _) (by rw[r2];rfl) (iU.2 ⟨⟨by simp [Re.op],by simp [Re.op],by simp [Re.op,da,Re.kids],by simp [Re.op,da,Re.kids]⟩,?_,?_,?_,?_⟩)
 ·rw[if_neg (by simp [Re.op])];rfl
 ·rw[if_pos (by simp [Re.op])]
  have key:∀i:Nat,i<12→0≤(kg[i]?).getD 0∧(kg[i]?).getD 0≤32∧-1≤(iL[i]?).getD 0∧(iL[i]?).getD 0≠0∧(iL[i]?).getD 0≤32∧(0<(iL[i]?).getD 0→(kg[i]?).getD 0≤(iL[i]?).getD 0):=by decide
  obtain⟨k1,k2,k3,k4,k5,k6⟩:=key (pick m.l m.pos 12).toNat (by omega)
  exact⟨k1,k2,k3,k4,k5,k6,r3,r4⟩
 ·rw[if_neg (by simp [Re.op]),if_neg (by simp [Re.op])];rfl
 ·intro h;simp [Re.neg]at h
theorem BZ (m:Mk):(eI m).2.left=m.left:=by
 unfold eI
 simp only
 split
 ·rfl
 ·split
  ·split <;> rfl
  ·rfl
theorem u6 {d:Nat}{t:Mk→Re×Mk}{c z:Int} (ht:TT d t c z) {m:Mk}{b:Int} (hb:0≤b) (h:m.In b):Ol d m (m.gN t):=by
 obtain⟨h1,h2,h3,h4⟩:=uM h
 have hl:=BZ m
 simp only[Mk.gN]
 have yh:((eI m).2.jr (max (eI m).2.ai (eI m).1)).In (b+2):=⟨h1.l,h1.p0,h1.p1,h1.l0,h1.l1,by show 0≤max _ _;omega,by have:=h.c1;show max _ _≤4;omega⟩
 have hx:=ht.tok _ (b+2) (by omega) yh
 have K8:(eI m).1≤(t ((eI m).2.jr (max (eI m).2.ai (eI m).1))).2.ai:=Int.le_trans (by show _≤max _ _;omega) hx.ai
 refine vV hx (by show m.ai≤max _ _;omega) hl (fE (by omega) (by omega) (by omega) (by simp [da]) ?_ (by simp))
 rw[if_pos (.inl rfl)]
 exact⟨h3,K8⟩
theorem xL {d:Nat}{m:Mk}{op:Int}{x:List Re×Mk} (h:Tt d 4 m x) (ho:op=2∨op=3) (hl:2≤x.1.length):Ol d m (Re.node op x.1,x.2):=by
 refine⟨h.ai,lI (fE (by omega) (by omega) (by omega) ?_ ?_ (by simp)) h.ok,Re.s8 (b:=d+1) (by omega) h.dep,?_,?_⟩
 ·unfold da;rw[if_pos ho];exact⟨by show (2:Int)≤_;omega,.inl (by show (-1:Int)<0;omega)⟩
 ·rw[if_neg (by omega),if_neg (by omega)]
 ·show ((Re.node op x.1).size:Int)≤_
  have:=h.size
  simp only[Re.node,Re.size,Wt]
  show ((1:Nat):Int)+(Re.dQ x.1:Int)≤1+(m.left-x.2.left)
  omega
 ·intro B h1 h2
  exact h.Q5 B h1 h2
theorem I2 {d:Nat}{t:Mk→Re×Mk}{c z:Int} (ht:TT d t c z) (k:Int) {m:Mk}{b:Int} (hb:0≤b) (h:m.In b):Ol d m (Mk.node t k m):=by
 have hf:=vi ht 4 0 m b hb h
 have hl:=Ak (t:=t) m
 have M0:=ht.c0
 unfold Mk.node
 split
 ·exact xL hf (.inl rfl) hl
 split
 ·exact xL hf (.inr rfl) hl
 split
 ·exact Lp ht hb h
 split
 ·exact u6 ht hb h
 split
 ·exact u6 ht hb h
 split
 ·have hp:=cK m.l m.pos 6 (by omega)
  refine B9 rfl rfl (fE (by omega) (by omega) (by omega) (by simp [da]) ?_ (by simp))
  rw[if_neg (by omega),if_pos rfl]
  simp only[Mk.next];omega
 split
 ·have hp:=cK (m.next 3).2.l (m.next 3).2.pos 2 (by omega)
  have hx:=ht.tok _ (b+2) (by omega) (((h.next 3).next 2).mono (by omega))
  have EX:((m.next 3).2.next 2).1=0∨((m.next 3).2.next 2).1=1:=by simp only[Mk.next]at hp ⊢;omega
  refine vV hx (Vr _) rfl (fE ?_ ?_ ?_ ?_ ?_ ?_)
  ·omega
  ·omega
  ·omega
  ·rcases EX with e|e <;> rw[e] <;> simp [da]
  ·rcases EX with e|e <;> rw[e] <;> simp
  ·intro _;omega
 split
 ·exact vV (ht.tok m b hb h) (Vr _) rfl (fE (by omega) (by omega) (by omega) (by simp [da]) (by simp) (by simp))
 split
 ·rename_i wN
  have sa:0<m.ai:=wN.2.2
  have hp:=cK m.l m.pos m.ai (by omega)
  refine B9 rfl rfl (fE (by omega) (by omega) (by omega) (by simp [da]) ?_ (by simp))
  rw[if_pos (.inr (.inl rfl))]
  simp only[Mk.next];omega
 split
 ·rename_i wN
  have sa:0<m.ai:=wN.2.2
  have hp:=cK m.l m.pos m.ai (by omega)
  have h1:=h.next m.ai
  have hy:=ht.tok _ (b+1) (by omega) h1
  obtain⟨h2,_⟩:=ht.cX _ (b+1) (by omega) h1
  have hz:=ht.tok _ (b+1+c) (by omega) h2
  have e1:(m.next m.ai).2.ai=m.ai:=rfl
  have e2:(m.next m.ai).2.left=m.left:=rfl
  simp only
  refine⟨Int.le_trans hy.ai hz.ai,lI (fE (by omega) (by omega) (by omega) (by simp [da]) ?_ (by simp)) ?_,Re.s8 (b:=d+1) (by omega) ?_,?_,?_⟩
  ·rw[if_pos (.inr (.inr rfl))]
   have:=Int.le_trans hy.ai hz.ai
   simp only[Mk.next]at this hp ⊢
   omega
  ·intro x hx
   rcases List.mem_cons.1 hx with rfl|hx
   ·exact wL hz.ai hy.ok
   ·rw[List.mem_singleton.1 hx];exact hz.ok
  ·intro x hx
   rcases List.mem_cons.1 hx with rfl|hx
   ·exact hy.dep
   ·rw[List.mem_singleton.1 hx];exact hz.dep
  ·have a1:=hy.size
   have a2:=hz.size
   simp only[Re.size,Re.dQ,Wt]
   omega
  ·intro B MC Tc
   have b1:=hy.one MC (by omega)
   have b2:=hz.one (B:=B-1) (by omega) b1
   show B-4≤(t (t (m.next m.ai).2).2).2.left
   omega
 ·exact Mc d m
theorem sZ:∀d,TT d (Mk.tree d) (cD d) (zD d)
 |0=>by
  refine⟨iq 0,by have:=bT 0;omega,tW 0,fun m b hb h=>?_⟩
  simp only[Mk.tree]
  have el:(m.less.next 20).2.left=m.left-1:=rfl
  have ec:(m.less.next 20).2.ai=m.ai:=rfl
  split
  ·have hn:cg (Re.node 0 []) (m.less.next 20).2.ai 255=true:=fE (by omega) (by omega) (by omega) (by simp [da]) (by simp) (by simp)
   exact⟨by rw[ec];exact Vr _,lI hn (fun k hk=>by cases hk),by show (1:Int)≤_;omega,by show ((1:Nat):Int)≤m.left-(m.less.next 20).2.left;omega,fun _=>by show _≤(m.less.next 20).2.left;omega,fun _=>by show _≤(m.less.next 20).2.left;omega⟩
  ·have e1:(m.less.next 20).2.set.2.left=m.left-1:=rfl
   exact⟨Vr _,qK _ _,by rw[wv];omega,by rw[tD];omega,fun _=>by omega,fun _=>by omega⟩
 |d+1=>by
  refine⟨iq (d+1),by have:=bT (d+1);omega,tW (d+1),fun m b hb h=>?_⟩
  simp only[Mk.tree]
  have el:(m.less.next 20).2.left=m.left-1:=rfl
  have ec:(m.less.next 20).2.ai=m.ai:=rfl
  split
  ·split
   ·have hn:cg (Re.node 0 []) (m.less.next 20).2.ai 255=true:=fE (by omega) (by omega) (by omega) (by simp [da]) (by simp) (by simp)
    exact⟨by rw[ec];exact Vr _,lI hn (fun k hk=>by cases hk),by show (1:Int)≤_;omega,by show ((1:Nat):Int)≤m.left-(m.less.next 20).2.left;omega,fun _=>by show _≤(m.less.next 20).2.left;omega,fun _=>by show _≤(m.less.next 20).2.left;omega⟩
   ·have e1:(m.less.next 20).2.set.2.left=m.left-1:=rfl
    exact⟨Vr _,qK _ _,by rw[wv];omega,by rw[tD];omega,fun _=>by omega,fun _=>by omega⟩
  ·rename_i wN
   have Vl:¬(m.less.next 20).2.left<3:=fun hh=>wN (.inl hh)
   have hn:=I2 (sZ d) (m.less.next 20).1 (b:=b+1+1) (by omega) (h.left.next 20)
   refine⟨Int.le_trans (by rw[ec];exact Vr _) hn.ai,hn.ok,?_,?_,fun hh=>by omega,fun _=>?_⟩
   ·have:=hn.dep;simp only[Wt];omega
   ·have:=hn.size;omega
   ·have:=hn.Q5 (2-4*(d:Int)) (Vr _) (by omega)
    simp only[Wt];omega
theorem uT (l:List Int) (cU ah:Int) (hl:∀x∈l,iV x) (h0:0≤ah) (h1:ah≤100):dV (mM l cU ah)=0∧(mM l cU ah).re.size≤256:=by
 have yh:(⟨l,0,cU,ah,0⟩:Mk).In 0:=⟨hl,by simp,by simp,by simpa using h0,by show ah≤_;omega,by simp,by simp⟩
 have h:=(sZ 5).tok ⟨l,0,cU,ah,0⟩ 0 (by omega) yh
 obtain⟨g,_⟩:=(sZ 5).cX ⟨l,0,cU,ah,0⟩ 0 (by omega) yh
 have gH:=h.size
 have Ox:=h.low
 have Qf:=h.high
 have Ux:=h.dep
 have m8:=h.ok
 have hs:(mM l cU ah).re.size≤256:=by
  show (Mk.tree 5 ⟨l,0,cU,ah,0⟩).1.size≤256
  simp only at gH Ox Qf
  omega
 refine⟨?_,hs⟩
 unfold dV
 rw[if_neg,if_neg]
 ·rintro (h'|h'|h')
  ·have:=g.c0;have MZ:(Mk.tree 5 ⟨l,0,cU,ah,0⟩).2.ai<0:=h';omega
  ·have:=g.c1;have MZ:9<(Mk.tree 5 ⟨l,0,cU,ah,0⟩).2.ai:=h';omega
  ·have MZ:(Mk.tree 5 ⟨l,0,cU,ah,0⟩).1.whole (Mk.tree 5 ⟨l,0,cU,ah,0⟩).2.ai 255=false:=h'
   rw[m8]at MZ;cases MZ
 ·rintro (h'|h')
  ·omega
  ·have MZ:24<(Mk.tree 5 ⟨l,0,cU,ah,0⟩).1.depth:=h'
   omega
theorem MR {top:Int}:∀(l:List (Int×Int)) (p:Int),oL top p l=true→∀s∈l,0≤s.1∧s.1≤top∧0≤s.2∧s.2≤top
 |[],p,h,s,hs=>by cases hs
 |x::l,p,h,s,hs=>by
  simp only[oL,VE,decide_eq_true_eq]at h
  rcases List.mem_cons.1 hs with rfl|hs
  ·omega
  ·exact MR l x.2 h.2 s hs
theorem DX {re:Re}{ai top:Int}{c:Nat} (hc:64≤c) (ht:top≤1114111) (sa:ai≤1000000) (h:cg re ai top=true) (hk:re.kids.length≤c):rV c re=true:=by
 obtain⟨h1,h2,h3,h4,h5⟩:=iU.1 h
 have cC:re.set.length≤64∧∀s∈re.set,iV s.1∧iV s.2:=by
  split at h2
  ·simp only[gV,VE,decide_eq_true_eq]at h2
   refine⟨h2.1,fun s hs=>?_⟩
   have:=MR _ _ h2.2 s hs
   unfold iV;omega
  ·have hn:re.set=[]:=VD h2
   rw[hn];exact⟨by simp,fun s hs=>by cases hs⟩
 refine x8.2 ⟨⟨by omega,hk,?_,?_,?_,?_,?_⟩,cC.2⟩
 ·unfold iV;omega
 ·unfold iV;split at h3 <;> omega
 ·unfold iV;split at h3 <;> omega
 ·unfold iV;split at h3 <;> omega
 ·unfold iV;split at h4
  ·omega
  ·split at h4 <;> omega
theorem zQ (l:List Int) (cU ah:Int) (hl:∀x∈l,iV x) (h0:0≤ah) (h1:ah≤100):(mM l cU ah).small 256:=by
 have yh:(⟨l,0,cU,ah,0⟩:Mk).In 0:=⟨hl,by simp,by simp,by simpa using h0,by show ah≤_;omega,by simp,by simp⟩
 have h:=(sZ 5).tok ⟨l,0,cU,ah,0⟩ 0 (by omega) yh
 obtain⟨g,_⟩:=(sZ 5).cX ⟨l,0,cU,ah,0⟩ 0 (by omega) yh
 obtain⟨_,hs⟩:=uT l cU ah hl h0 h1
 have M0:=g.c0
 have D8:=g.c1
 refine⟨?_,hs,by show iV (Mk.tree 5 ⟨l,0,cU,ah,0⟩).2.ai;unfold iV;omega⟩
 have m8:(mM l cU ah).re.whole (Mk.tree 5 ⟨l,0,cU,ah,0⟩).2.ai 255=true:=h.ok
 revert m8 hs
 generalize (mM l cU ah).re=re
 intro hs m8
 refine Re.ind (Q:=fun re=>re.size≤256→re.whole (Mk.tree 5 ⟨l,0,cU,ah,0⟩).2.ai 255=true→re.every (rV 256)=true) (fun re ih hs m8=>?_) re hs m8
 obtain⟨a1,a2⟩:=(Re.cS re).1 m8
 have:=Re.rE re.kids
 have:=Re.size_eq re
 exact(Re.cS re).2 ⟨DX (by omega) (by omega) (by omega) a1 (by omega),fun k hk=>ih k hk (by have:=Re.iC hk;omega) (a2 k hk)⟩
end Go.Proofs.Ytllagoeijcjpiaa
