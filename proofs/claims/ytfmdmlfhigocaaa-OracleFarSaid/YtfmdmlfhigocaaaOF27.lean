/- A part of the proof (F39 F42 G18). -/
import Derived.Test.YtfmdmlfhigocaaaOF21
import Derived.Test.YtfmdmlfhigocaaaOF22
import Derived.Test.YtfmdmlfhigocaaaOF25
import Derived.Test.YtfmdmlfhigocaaaOF26
set_option linter.unusedSimpArgs false
set_option linter.unusedVariables false
set_option maxRecDepth 100000
set_option maxHeartbeats 80000000
set_option linter.unusedSimpArgs false
set_option linter.unusedVariables false
namespace Go.Proofs.Ytfmdmlfhigocaaa
open Go.VL Go.Proofs.Try
instance (n:Int):Decidable (lA n):=by unfold lA;infer_instance
def sT (c:Nat) (r:Re):Bool:=decide (r.set.length<=c/\r.kids.length<=c/\lA r.op/\lA r.mn/\lA r.mx/\lA r.mode/\lA r.n)&&r.set.all fun s=>decide (lA s.1/\lA s.2)
structure jl.small (p:jl) (c:Nat):Prop where
 ev:p.re.every (sT c)=true
 sz:p.re.size<=c
 ai:lA p.ai
theorem zg {c:Nat}{r:Re}:sT c r=true ↔ (r.set.length<=c/\r.kids.length<=c/\lA r.op/\lA r.mn/\lA r.mx/\lA r.mode/\lA r.n)/\∀s∈r.set,lA s.1/\lA s.2:=by
 unfold sT
 rw[Bool.and_eq_true,decide_eq_true_eq,List.all_eq_true]
 exact and_congr Iff.rfl ⟨fun h s hs=>of_decide_eq_true (h s hs),fun h s hs=>decide_eq_true (h s hs)⟩
theorem px {p q:Re->Bool} (h:∀re,p re=true->q re=true) (re:Re) (hp:re.every p=true):re.every q=true:=by
 revert hp
 refine Re.ind (Q:=fun re=>re.every p=true->re.every q=true) (fun re ih hp=>?_) re
 obtain⟨h1,h2⟩:=(Re.aS re).1 hp
 exact(Re.aS re).2 ⟨h re h1,fun k hk=>ih k hk (h2 k hk)⟩
theorem zl {c:Nat} (hc:c<=1000000000) (re:Re) (h:re.every (sT c)=true):re.dG=true:=by
 revert h
 refine Re.ind (Q:=fun re=>re.every (sT c)=true->re.dG=true) (fun re ih h=>?_) re
 obtain⟨h1,h2⟩:=(Re.aS re).1 h
 obtain⟨⟨a1,a2,_⟩,_⟩:=zg.1 h1
 exact(Re.Dt re).2 ⟨by omega,by omega,fun k hk=>ih k hk (h2 k hk)⟩
theorem gL {re:Re}{ai top:Int}:bG re ai top=true ↔
  (0<=re.op/\re.op<=11/\(cj re.op).1<=re.kids.length/\((cj re.op).2<0\/(re.kids.length:Int)<=(cj re.op).2)) /\
  (if re.op=1 then fW re.set top=true else re.set.length=0) /\
  (if re.op=4 then (0<=re.mn/\re.mn<=32/\-1<=re.mx/\re.mx≠0/\re.mx<=32/\(0<re.mx->re.mn<=re.mx)/\0<=re.mode/\re.mode<=2) else (re.mn=0/\re.mx=0/\re.mode=0)) /\
  (if re.op=5\/re.op=6\/re.op=10 then (1<=re.n/\re.n<=ai) else if re.op=11 then (0<=re.n/\re.n<=5) else re.n=0) /\
  (re.neg=true->re.op=7\/re.op=8):=by
 unfold bG
 simp only[Bool.and_eq_true,decide_eq_true_eq]
 refine and_congr Iff.rfl (and_congr ?_ (and_congr ?_ (and_congr ?_ ?_)))
 ·split <;> simp
 ·split <;> simp only[decide_eq_true_eq]
 ·split
  ·simp only[decide_eq_true_eq]
  ·split <;> simp only[decide_eq_true_eq]
 ·cases re.neg <;> simp
theorem DZ {re:Re}{ai Df top:Int} (h:ai<=Df) (hn:bG re ai top=true):bG re Df top=true:=by
 rw[gL]at *
 obtain⟨a,b,c,d,e⟩:=hn
 refine⟨a,b,c,?_,e⟩
 split
 ·rename_i hh;rw[if_pos hh]at d;omega
 ·rename_i hh;rw[if_neg hh]at d;exact d
theorem xX {re:Re}{ai Df top:Int} (h:ai<=Df) (hn:re.whole ai top=true):re.whole Df top=true :=
 px (fun r hr=>DZ h hr) re hn
theorem lX {op mn mx mode n ai top:Int}{set:List (Int×Int)}{kids:List Re}{neg:Bool} (h:bG (.mk op set kids mn mx mode n neg) ai top=true) (hk:∀k∈kids,k.whole ai top=true):(Re.mk op set kids mn mx mode n neg).whole ai top=true :=
 (Re.aS _).2 ⟨h,hk⟩
theorem Re.ur {op mn mx mode n:Int}{set:List (Int×Int)}{kids:List Re}{neg:Bool}{b:Int} (hb:0<=b) (hk:∀k∈kids,k.depth<=b):(Re.mk op set kids mn mx mode n neg).depth<=b+1:=by
 rw[Re.pK]
 have:=lB (b:=b) (kids.map Re.depth) 0 hb (fun x hx=>by obtain⟨k,tk,rfl⟩:=List.mem_map.1 hx;exact hk k tk)
 show tg (kids.map Re.depth)+1<=_
 unfold tg
 omega
structure QK (d:Nat) (m:Mk) (x:Re×Mk):Prop where
 ai:m.ai<=x.2.ai
 ok:x.1.whole x.2.ai 255=true
 dep:x.1.depth<=d+1
 size:(x.1.size:Int)<=m.left-x.2.left
 low:m.left<=3->m.left-1<=x.2.left
 high:4<=m.left->2-4*(d:Int)<=x.2.left
structure TT (d:Nat) (t:Mk->Re×Mk) (c z:Int):Prop where
 oz:Good t c z
 c0:0<=c
 z1:1<=z
 tok:∀m b,0<=b->Mk.In m b->QK d m (t m)
theorem QK.one {d:Nat}{m:Mk}{x:Re×Mk} (h:QK d m x) {B:Int} (h1:B<=2-4*(d:Int)) (h2:B<=m.left):B-1<=x.2.left:=by
 have:=h.low;have:=h.high
 omega
structure WV (d f:Nat) (m:Mk) (x:List Re×Mk):Prop where
 ai:m.ai<=x.2.ai
 ok:∀k∈x.1,k.whole x.2.ai 255=true
 dep:∀k∈x.1,k.depth<=d+1
 size:(Re.cR x.1:Int)<=m.left-x.2.left
 Tt:∀B:Int,B<=2-4*(d:Int)->B<=m.left->B-f<=x.2.left
theorem wM {d:Nat}{t:Mk->Re×Mk}{c z:Int} (ht:TT d t c z):∀(f:Nat) (i:Int) (m:Mk) (b:Int),0<=b->m.In b->WV d f m (aD t f i m)
 |0,i,m,b,hb,h=>⟨Int.le_refl _,by simp [aD],by simp [aD],by simp [aD,Re.cR],fun B _ h2=>by simpa [aD]using h2⟩
 |f+1,i,m,b,hb,h=>by
  simp only[aD]
  split
  ·have h1:=h.next 2
   have h2:=ht.tok _ (b+1) (by omega) h1
   obtain⟨h3,_⟩:=ht.oz _ (b+1) (by omega) h1
   have h4:=wM ht f (i+1) _ (b+1+c) (by have:=ht.c0;omega) h3
   refine⟨Int.le_trans h2.ai h4.ai,?_,?_,?_,?_⟩
   ·intro k hk
    rcases List.mem_cons.1 hk with rfl|hk
    ·exact xX h4.ai h2.ok
    ·exact h4.ok k hk
   ·intro k hk
    rcases List.mem_cons.1 hk with rfl|hk
    ·exact h2.dep
    ·exact h4.dep k hk
   ·have a:=h2.size
    have a':=h4.size
    simp only[Re.cR,Int.natCast_add]
    have e:(m.next 2).2.left=m.left:=rfl
    omega
   ·intro B Ol Wy
    have:=h4.Tt (B-1) (by omega) (h2.one Ol Wy)
    simp only[Int.natCast_add]
    omega
  ·exact⟨Int.le_refl _,by simp,by simp,by simp [Re.cR,Mk.next],fun B _ h2=>by simp only[Mk.next];omega⟩
theorem Bn {t:Mk->Re×Mk} (m:Mk):2<=(aD t 4 0 m).1.length:=by
 have hp:=bO m.l m.pos 2 (by omega)
 rw[aD,if_pos (by simp only[Mk.next];omega)]
 simp only[List.length_cons]
 generalize (t (m.next 2).2).2=m'
 have Vy:=bO m'.l m'.pos 2 (by omega)
 rw[aD,if_pos (by simp only[Mk.next];omega)]
 simp
structure Qm (d:Nat) (m:Mk) (x:Re×Mk):Prop where
 ai:m.ai<=x.2.ai
 ok:x.1.whole x.2.ai 255=true
 dep:x.1.depth<=d+2
 size:(x.1.size:Int)<=1+(m.left-x.2.left)
 Tt:∀B:Int,B<=2-4*(d:Int)->B<=m.left->B-4<=x.2.left
theorem rr (m:Mk) (ai:Int):m.set.1.whole ai 255=true:=by
 have hs:∀i:Nat,fW ((nE[i]?).getD []) 255=true:=by
  intro i
  by_cases hi:i<8
  ·have:∀i,i<8->fW ((nE[i]?).getD []) 255=true:=by decide
   exact this i hi
  ·rw[List.getElem?_eq_none (by simp [nE];omega)];rfl
 refine lX (gL.2 ?_) (fun k hk=>by cases hk)
 refine⟨⟨by simp [Re.op],by simp [Re.op],by simp [Re.op,cj],by simp [Re.op,cj,Re.kids]⟩,?_,?_,?_,?_⟩
 ·show (if (1:Int)=1 then fW ((nE[(pick m.l m.pos 15 / 2).toNat]?).getD []) 255=true else _)
  rw[if_pos rfl];exact hs _
 ·rw[if_neg (by simp [Re.op])];exact⟨rfl,rfl,rfl⟩
 ·rw[if_neg (by simp [Re.op]),if_neg (by simp [Re.op])];rfl
 ·intro h;simp [Re.neg]at h
theorem xK (m:Mk):m.set.1.depth=1:=rfl
theorem uU (m:Mk):m.set.1.size=1:=rfl
theorem NL (d:Nat) (m:Mk):Qm d m m.set :=
 ⟨Int.le_refl _,rr m _,by rw[xK];omega,by rw[uU];simp [Mk.set,Mk.next],fun B _ h=>by simp only[Mk.set,Mk.next];omega⟩
theorem xB {d:Nat}{m m':Mk}{x:Re×Mk}{op mn mx mode n:Int}{neg:Bool} (h:QK d m' x) (hc:m.ai<=m'.ai) (hl:m'.left=m.left)
  (hn:bG (.mk op [] [x.1] mn mx mode n neg) x.2.ai 255=true):Qm d m (.mk op [] [x.1] mn mx mode n neg,x.2):=by
 refine⟨Int.le_trans hc h.ai,lX hn (fun k hk=>by rw[List.mem_singleton.1 hk];exact h.ok),?_,?_,?_⟩
 ·exact Re.ur (b:=d+1) (by omega) (fun k hk=>by rw[List.mem_singleton.1 hk];exact h.dep)
 ·show ((Re.mk op [] [x.1] mn mx mode n neg).size:Int)<=1+(m.left-x.2.left)
  rw[pO];have:=h.size;omega
 ·intro B h1 h2
  have:=h.one h1 (by omega)
  show B-4<=x.2.left
  omega
theorem DE {d:Nat}{m m':Mk}{op mn mx mode n:Int}{neg:Bool} (hc:m.ai=m'.ai) (hl:m'.left=m.left)
  (hn:bG (.mk op [] [] mn mx mode n neg) m'.ai 255=true):Qm d m (.mk op [] [] mn mx mode n neg,m'):=by
 refine⟨by rw[hc];exact Int.le_refl _,lX hn (fun k hk=>by cases hk),?_,?_,?_⟩
 ·have:=Re.ur (op:=op) (set:=[]) (mn:=mn) (mx:=mx) (mode:=mode) (n:=n) (neg:=neg) (b:=0) (kids:=[]) (by omega) (fun k hk=>by cases hk)
  show (Re.mk op [] [] mn mx mode n neg).depth<=_
  omega
 ·show ((Re.mk op [] [] mn mx mode n neg).size:Int)<=1+(m.left-m'.left);rw[hl];simp [Re.size,Re.cR]
 ·intro B h1 h2;show B-4<=m'.left;omega
theorem e9 {op n ai:Int}{kids:List Re}{neg:Bool} (h0:0<=op/\op<=11) (h1:op≠1) (h4:op≠4) (hk:(cj op).1<=kids.length/\((cj op).2<0\/(kids.length:Int)<=(cj op).2))
  (hn:if op=5\/op=6\/op=10 then (1<=n/\n<=ai) else if op=11 then (0<=n/\n<=5) else n=0) (dJ:neg=true->op=7\/op=8):bG (.mk op [] kids 0 0 0 n neg) ai 255=true:=by
 refine gL.2 ⟨⟨h0.1,h0.2,hk.1,hk.2⟩,?_,?_,hn,dJ⟩
 ·rw[if_neg (by exact h1)];rfl
 ·rw[if_neg (by exact h4)];exact⟨rfl,rfl,rfl⟩
theorem Gg {d:Nat}{t:Mk->Re×Mk}{m:Mk} (h:QK d m (t m)):QK d m (fD t m):=by
 unfold fD
 simp only
 split
 ·have h1:=h.size
  have h2:=(t m).1.size_pos
  exact⟨h.ai,rr _ _,by rw[xK];omega,by rw[uU];show ((1:Nat):Int)<=m.left-(t m).2.left;omega,h.low,h.high⟩
 ·exact h
theorem Ch (m:Mk):(cU m).2.ai=m.ai/\(cU m).2.left=m.left/\0<=(cU m).1/\(cU m).1<=2:=by
 have hp:=bO m.l m.pos 2 (by omega)
 unfold cU
 simp only
 split
 ·refine⟨rfl,rfl,?_,?_⟩ <;> (split <;> simp only[Mk.next] <;> omega)
 ·refine⟨rfl,rfl,?_,?_⟩ <;> simp only[Mk.next] <;> omega
theorem MX {d:Nat}{t:Mk->Re×Mk}{c z:Int} (ht:TT d t c z) {m:Mk}{b:Int} (hb:0<=b) (h:m.In b):Qm d m (m.rep t):=by
 have hk:=bO m.l m.pos 12 (by omega)
 have hi:=zo (h.next 12)
 obtain⟨r1,r2,r3,r4⟩:=Ch (m.next 12).2
 have h2:=Gg (ht.tok _ (b+1+2) (by omega) hi)
 simp only[Mk.rep]
 refine xB h2 (by rw[r1];exact Int.le_refl _) (by rw[r2];rfl) (gL.2 ⟨⟨by simp [Re.op],by simp [Re.op],by simp [Re.op,cj,Re.kids],by simp [Re.op,cj,Re.kids]⟩,?_,?_,?_,?_⟩)
 ·rw[if_neg (by simp [Re.op])];rfl
 ·rw[if_pos (by simp [Re.op])]
  have key:∀i:Nat,i<12->0<=(ia[i]?).getD 0/\(ia[i]?).getD 0<=32/\-1<=(fq[i]?).getD 0/\(fq[i]?).getD 0≠0/\(fq[i]?).getD 0<=32/\(0<(fq[i]?).getD 0->(ia[i]?).getD 0<=(fq[i]?).getD 0):=by decide
  obtain⟨k1,k2,k3,k4,k5,k6⟩:=key (pick m.l m.pos 12).toNat (by omega)
  exact⟨k1,k2,k3,k4,k5,k6,r3,r4⟩
 ·rw[if_neg (by simp [Re.op]),if_neg (by simp [Re.op])];rfl
 ·intro h;simp [Re.neg]at h
theorem Dz (m:Mk):(cJ m).2.left=m.left:=by
 unfold cJ
 simp only
 split
 ·rfl
 ·split
  ·split <;> rfl
  ·rfl
theorem wz {d:Nat}{t:Mk->Re×Mk}{c z:Int} (ht:TT d t c z) {m:Mk}{b:Int} (hb:0<=b) (h:m.In b):Qm d m (m.fp t):=by
 obtain⟨h1,h2,h3,h4⟩:=vW h
 have hl:=Dz m
 simp only[Mk.fp]
 have xD:((cJ m).2.iy (max (cJ m).2.ai (cJ m).1)).In (b+2):=⟨h1.l,h1.p0,h1.p1,h1.l0,h1.l1,by show 0<=max _ _;omega,by have:=h.c1;show max _ _<=4;omega⟩
 have hx:=ht.tok _ (b+2) (by omega) xD
 have Gj:(cJ m).1<=(t ((cJ m).2.iy (max (cJ m).2.ai (cJ m).1))).2.ai:=Int.le_trans (by show _<=max _ _;omega) hx.ai
 refine xB hx (by show m.ai<=max _ _;omega) hl (e9 (by omega) (by omega) (by omega) (by simp [cj]) ?_ (by simp))
 rw[if_pos (.inl rfl)]
 exact⟨h3,Gj⟩
theorem yT {d:Nat}{m:Mk}{op:Int}{x:List Re×Mk} (h:WV d 4 m x) (ho:op=2\/op=3) (hl:2<=x.1.length):Qm d m (Re.node op x.1,x.2):=by
 refine⟨h.ai,lX (e9 (by omega) (by omega) (by omega) ?_ ?_ (by simp)) h.ok,Re.ur (b:=d+1) (by omega) h.dep,?_,?_⟩
 ·unfold cj;rw[if_pos ho];exact⟨by show (2:Int)<=_;omega,.inl (by show (-1:Int)<0;omega)⟩
 ·rw[if_neg (by omega),if_neg (by omega)]
 ·show ((Re.node op x.1).size:Int)<=_
  have:=h.size
  simp only[Re.node,Re.size,Int.natCast_add]
  show ((1:Nat):Int)+(Re.cR x.1:Int)<=1+(m.left-x.2.left)
  omega
 ·intro B h1 h2
  exact h.Tt B h1 h2
theorem Kx {d:Nat}{t:Mk->Re×Mk}{c z:Int} (ht:TT d t c z) (k:Int) {m:Mk}{b:Int} (hb:0<=b) (h:m.In b):Qm d m (Mk.node t k m):=by
 have hf:=wM ht 4 0 m b hb h
 have hl:=Bn (t:=t) m
 have ME:=ht.c0
 unfold Mk.node
 split
 ·exact yT hf (.inl rfl) hl
 split
 ·exact yT hf (.inr rfl) hl
 split
 ·exact MX ht hb h
 split
 ·exact wz ht hb h
 split
 ·exact wz ht hb h
 split
 ·have hp:=bO m.l m.pos 6 (by omega)
  refine DE rfl rfl (e9 (by omega) (by omega) (by omega) (by simp [cj]) ?_ (by simp))
  rw[if_neg (by omega),if_pos rfl]
  simp only[Mk.next];omega
 split
 ·have hp:=bO (m.next 3).2.l (m.next 3).2.pos 2 (by omega)
  have hx:=ht.tok _ (b+2) (by omega) (((h.next 3).next 2).mono (by omega))
  have BX:((m.next 3).2.next 2).1=0\/((m.next 3).2.next 2).1=1:=by simp only[Mk.next]at hp ⊢;omega
  refine xB hx (Int.le_refl _) rfl (e9 ?_ ?_ ?_ ?_ ?_ ?_)
  ·omega
  ·omega
  ·omega
  ·rcases BX with e|e <;> rw[e] <;> simp [cj]
  ·rcases BX with e|e <;> rw[e] <;> simp
  ·intro _;omega
 split
 ·exact xB (ht.tok m b hb h) (Int.le_refl _) rfl (e9 (by omega) (by omega) (by omega) (by simp [cj]) (by simp) (by simp))
 split
 ·rename_i xZ
  have tq:0<m.ai:=xZ.2.2
  have hp:=bO m.l m.pos m.ai (by omega)
  refine DE rfl rfl (e9 (by omega) (by omega) (by omega) (by simp [cj]) ?_ (by simp))
  rw[if_pos (.inr (.inl rfl))]
  simp only[Mk.next];omega
 split
 ·rename_i xZ
  have tq:0<m.ai:=xZ.2.2
  have hp:=bO m.l m.pos m.ai (by omega)
  have h1:=h.next m.ai
  have hy:=ht.tok _ (b+1) (by omega) h1
  obtain⟨h2,_⟩:=ht.oz _ (b+1) (by omega) h1
  have hz:=ht.tok _ (b+1+c) (by omega) h2
  have e1:(m.next m.ai).2.ai=m.ai:=rfl
  have e2:(m.next m.ai).2.left=m.left:=rfl
  simp only
  refine⟨Int.le_trans hy.ai hz.ai,lX (e9 (by omega) (by omega) (by omega) (by simp [cj]) ?_ (by simp)) ?_,Re.ur (b:=d+1) (by omega) ?_,?_,?_⟩
  ·rw[if_pos (.inr (.inr rfl))]
   have:=Int.le_trans hy.ai hz.ai
   simp only[Mk.next]at this hp ⊢
   omega
  ·intro x hx
   rcases List.mem_cons.1 hx with rfl|hx
   ·exact xX hz.ai hy.ok
   ·rw[List.mem_singleton.1 hx];exact hz.ok
  ·intro x hx
   rcases List.mem_cons.1 hx with rfl|hx
   ·exact hy.dep
   ·rw[List.mem_singleton.1 hx];exact hz.dep
  ·have a1:=hy.size
   have a2:=hz.size
   simp only[Re.size,Re.cR,Int.natCast_add]
   omega
  ·intro B Ol Wy
   have b1:=hy.one Ol (by omega)
   have b2:=hz.one (B:=B-1) (by omega) b1
   show B-4<=(t (t (m.next m.ai).2).2).2.left
   omega
 ·exact NL d m
theorem ue:∀d,TT d (Mk.tree d) (cD d) (zD d)
 |0=>by
  refine⟨hZ 0,by have:=bw 0;omega,vz 0,fun m b hb h=>?_⟩
  simp only[Mk.tree]
  have el:(m.less.next 20).2.left=m.left-1:=rfl
  have ec:(m.less.next 20).2.ai=m.ai:=rfl
  split
  ·have hn:bG (Re.node 0 []) (m.less.next 20).2.ai 255=true:=e9 (by omega) (by omega) (by omega) (by simp [cj]) (by simp) (by simp)
   exact⟨by rw[ec];exact Int.le_refl _,lX hn (fun k hk=>by cases hk),by show (1:Int)<=_;omega,by show ((1:Nat):Int)<=m.left-(m.less.next 20).2.left;omega,fun _=>by show _<=(m.less.next 20).2.left;omega,fun _=>by show _<=(m.less.next 20).2.left;omega⟩
  ·have e1:(m.less.next 20).2.set.2.left=m.left-1:=rfl
   exact⟨Int.le_refl _,rr _ _,by rw[xK];omega,by rw[uU];omega,fun _=>by omega,fun _=>by omega⟩
 |d+1=>by
  refine⟨hZ (d+1),by have:=bw (d+1);omega,vz (d+1),fun m b hb h=>?_⟩
  simp only[Mk.tree]
  have el:(m.less.next 20).2.left=m.left-1:=rfl
  have ec:(m.less.next 20).2.ai=m.ai:=rfl
  split
  ·split
   ·have hn:bG (Re.node 0 []) (m.less.next 20).2.ai 255=true:=e9 (by omega) (by omega) (by omega) (by simp [cj]) (by simp) (by simp)
    exact⟨by rw[ec];exact Int.le_refl _,lX hn (fun k hk=>by cases hk),by show (1:Int)<=_;omega,by show ((1:Nat):Int)<=m.left-(m.less.next 20).2.left;omega,fun _=>by show _<=(m.less.next 20).2.left;omega,fun _=>by show _<=(m.less.next 20).2.left;omega⟩
   ·have e1:(m.less.next 20).2.set.2.left=m.left-1:=rfl
    exact⟨Int.le_refl _,rr _ _,by rw[xK];omega,by rw[uU];omega,fun _=>by omega,fun _=>by omega⟩
  ·rename_i xZ
   have NI:¬(m.less.next 20).2.left<3:=fun hh=>xZ (.inl hh)
   have hn:=Kx (ue d) (m.less.next 20).1 (b:=b+1+1) (by omega) (h.left.next 20)
   refine⟨Int.le_trans (by rw[ec];exact Int.le_refl _) hn.ai,hn.ok,?_,?_,fun hh=>by omega,fun _=>?_⟩
   ·have:=hn.dep;simp only[Int.natCast_add];omega
   ·have:=hn.size;omega
   ·have:=hn.Tt (2-4*(d:Int)) (Int.le_refl _) (by omega)
    simp only[Int.natCast_add];omega
theorem wg (l:List Int) (bu most:Int) (hl:∀x∈l,lA x) (h0:0<=most) (h1:most<=100):dQ (jf l bu most)=0/\(jf l bu most).re.size<=256:=by
 have xD:(⟨l,0,bu,most,0⟩:Mk).In 0:=⟨hl,by simp,by simp,by simpa using h0,by show most<=_;omega,by simp,by simp⟩
 have h:=(ue 5).tok ⟨l,0,bu,most,0⟩ 0 (by omega) xD
 obtain⟨g,_⟩:=(ue 5).oz ⟨l,0,bu,most,0⟩ 0 (by omega) xD
 have fo:=h.size
 have QB:=h.low
 have So:=h.high
 have Yv:=h.dep
 have gZ:=h.ok
 have hs:(jf l bu most).re.size<=256:=by
  show (Mk.tree 5 ⟨l,0,bu,most,0⟩).1.size<=256
  simp only at fo QB So
  omega
 refine⟨?_,hs⟩
 unfold dQ
 rw[if_neg,if_neg]
 ·rintro (h'|h'|h')
  ·have:=g.c0;have OM:(Mk.tree 5 ⟨l,0,bu,most,0⟩).2.ai<0:=h';omega
  ·have:=g.c1;have OM:9<(Mk.tree 5 ⟨l,0,bu,most,0⟩).2.ai:=h';omega
  ·have OM:(Mk.tree 5 ⟨l,0,bu,most,0⟩).1.whole (Mk.tree 5 ⟨l,0,bu,most,0⟩).2.ai 255=false:=h'
   rw[gZ]at OM;cases OM
 ·rintro (h'|h')
  ·omega
  ·have OM:24<(Mk.tree 5 ⟨l,0,bu,most,0⟩).1.depth:=h'
   omega
theorem OJ {top:Int}:∀(l:List (Int×Int)) (p:Int),od top p l=true->∀s∈l,0<=s.1/\s.1<=top/\0<=s.2/\s.2<=top
 |[],p,h,s,hs=>by cases hs
 |x::l,p,h,s,hs=>by
  simp only[od,Bool.and_eq_true,decide_eq_true_eq]at h
  rcases List.mem_cons.1 hs with rfl|hs
  ·omega
  ·exact OJ l x.2 h.2 s hs
theorem Ft {re:Re}{ai top:Int}{c:Nat} (hc:64<=c) (ht:top<=1114111) (tq:ai<=1000000) (h:bG re ai top=true) (hk:re.kids.length<=c):sT c re=true:=by
 obtain⟨h1,h2,h3,h4,h5⟩:=gL.1 h
 have eO:re.set.length<=64/\∀s∈re.set,lA s.1/\lA s.2:=by
  split at h2
  ·simp only[fW,Bool.and_eq_true,decide_eq_true_eq]at h2
   refine⟨h2.1,fun s hs=>?_⟩
   have:=OJ _ _ h2.2 s hs
   unfold lA;omega
  ·have hn:re.set=[]:=List.eq_nil_of_length_eq_zero h2
   rw[hn];exact⟨by simp,fun s hs=>by cases hs⟩
 refine zg.2 ⟨⟨by omega,hk,?_,?_,?_,?_,?_⟩,eO.2⟩
 ·unfold lA;omega
 ·unfold lA;split at h3 <;> omega
 ·unfold lA;split at h3 <;> omega
 ·unfold lA;split at h3 <;> omega
 ·unfold lA;split at h4
  ·omega
  ·split at h4 <;> omega
theorem A1 (l:List Int) (bu most:Int) (hl:∀x∈l,lA x) (h0:0<=most) (h1:most<=100):(jf l bu most).small 256:=by
 have xD:(⟨l,0,bu,most,0⟩:Mk).In 0:=⟨hl,by simp,by simp,by simpa using h0,by show most<=_;omega,by simp,by simp⟩
 have h:=(ue 5).tok ⟨l,0,bu,most,0⟩ 0 (by omega) xD
 obtain⟨g,_⟩:=(ue 5).oz ⟨l,0,bu,most,0⟩ 0 (by omega) xD
 obtain⟨_,hs⟩:=wg l bu most hl h0 h1
 have ME:=g.c0
 have zu:=g.c1
 refine⟨?_,hs,by show lA (Mk.tree 5 ⟨l,0,bu,most,0⟩).2.ai;unfold lA;omega⟩
 have gZ:(jf l bu most).re.whole (Mk.tree 5 ⟨l,0,bu,most,0⟩).2.ai 255=true:=h.ok
 revert gZ hs
 generalize (jf l bu most).re=re
 intro hs gZ
 refine Re.ind (Q:=fun re=>re.size<=256->re.whole (Mk.tree 5 ⟨l,0,bu,most,0⟩).2.ai 255=true->re.every (sT 256)=true) (fun re ih hs gZ=>?_) re hs gZ
 obtain⟨a1,a2⟩:=(Re.aS re).1 gZ
 have:=Re.sw re.kids
 have:=Re.size_eq re
 exact(Re.aS re).2 ⟨Ft (by omega) (by omega) (by omega) a1 (by omega),fun k hk=>ih k hk (by have:=Re.iv hk;omega) (a2 k hk)⟩
def eH (aU:Bool) (x:Int):Bool:=decide (0<=x)&&decide (x<=fB aU)
def gU (p:jl) (t:List Int) (fuel:Int):Int :=
 if dQ p≠0 then dQ p else if 65536<t.length then 4 else if t.all (eH p.aU)=false then 1 else if fuel<0\/1099511627776<fuel then 1 else 0
theorem sk {α:Type}{P:α->Bool}{l:List α}{i:Nat}{x:α} (hx:l[i]?=some x) (h:(l.take i).all P=true) (hp:P x=true):(l.take (i+1)).all P=true:=by
 rw[List.take_add_one,hx,List.all_append,h]
 simp [hp]
theorem all_false {α:Type}{P:α->Bool}{l:List α}{i:Nat}{x:α} (hx:l[i]?=some x) (hp:P x=false):l.all P=false:=by
 rw[Bool.eq_false_iff]
 intro h
 rw[List.all_eq_true]at h
 rw[h x (List.mem_of_getElem? hx)]at hp
 cases hp
theorem vS (p:jl) (t:List Int) (fuel:Int) (hf:p.re.dG=true) (hs:p.re.size<=1000000000) (ht:t.length<=1000000000) :
  ba prog 49 [bL p,.d (ao t),i64 fuel] (i64 (gU p t fuel)):=by
 have h1:=CU p hf hs
 unfold gU
 cases p with
 |mk re ai aU =>
 simp only[bL,Re.ae re,List.map_cons,List.map_nil,List.cons_append,List.nil_append,i64,iD,bD,bV]at h1
 simp only at *
 generalize hv:dQ ⟨re,ai,aU⟩=v at *
 refine an func49 rfl ntmps49 results49 rfl 0 975 (by simp) (by simp) ?_
 simp only[zX,simprocAttr,i64,bL,Re.ae re,bV,iD,bD]
 refine al h1 (by simp [ah,ah.go,aj,i64,bV,bm]) (by simp [ah,ah.go,aj,i64,bV,bm]) ?_
 simp only[zX,simprocAttr,i64,bL,bV,iD,bD]
 by_cases c0:v=0
 case neg =>
  rw[if_pos c0]
  simp only[zX,simprocAttr,i64,bL,bV,iD,bD,c0]
 subst c0
 rw[if_neg (by omega)]
 by_cases c1:65536<t.length
 ·rw[if_pos c1]
  have TB:(65536:Int)<t.length:=by omega
  simp only[zX,simprocAttr,i64,bL,bV,iD,bD,gt_iff_lt,TB]
 rw[if_neg c1]
 have TB:¬(65536:Int)<t.length:=by omega
 cases aU
 ·simp only[zX,simprocAttr,i64,bL,bV,iD,bD,gt_iff_lt,TB]
  refine ay (fun n e s=>∃i:Nat,n=t.length-i/\i<=t.length/\e 1=.d (ao t)/\e 2=i64 fuel/\e 8=i64 (fB false)/\e 9=i64 i/\(t.take i).all (eH false)=true)
   ⟨_,_,_,bI.refl,0,rfl,by omega,rfl,rfl,rfl,rfl,by simp⟩ ?_
  rintro n e s ⟨i,rfl,hi,h1,h2,h8,h9,bM⟩
  rcases Nat.lt_or_ge i t.length with az|ib
  ·obtain⟨x,hx⟩:∃x,t[i]?=some x:=⟨_,List.getElem?_eq_getElem az⟩
   have aK:(i:Int)<t.length:=by omega
   simp only[zX,simprocAttr,i64,h1,h2,h8,h9,aK,ao,hx,iD]
   by_cases d1:x<0
   ·simp only[zX,simprocAttr,d1]
    rw[if_pos (all_false hx (by rw[eH,decide_eq_false (by omega)];rfl))]
   ·by_cases d2:fB false<x
    ·simp only[zX,simprocAttr,d1,d2,gt_iff_lt,i64,h1,h2,h8,h9,aK,az,ao,hx,iD]
     rw[if_pos (all_false hx (by rw[eH,decide_eq_false (by omega:¬x<=fB false),Bool.and_false]))]
    ·simp only[zX,simprocAttr,d1,d2,gt_iff_lt,i64,h1,h2,h8,h9,aK,az,ao,hx,iD]
     refine⟨t.length-(i+1),_,_,by omega,bI.refl,i+1,rfl,az,?_,?_,?_,?_,?_⟩ <;> (try simp only[zU,Nat.reduceBEq,Nat.reduceShiftRight,Nat.reduceMod,Nat.reduceEqDiff,reduceIte])
     ·exact h1
     ·exact h2
     ·exact h8
     ·rw[br _ (by omega)];rfl
     ·exact sk hx bM (by rw[eH,decide_eq_true (by omega),decide_eq_true (by omega)];rfl)
  ·have eQ:i=t.length:=by omega
   subst eQ
   have aK:¬(t.length:Int)<t.length:=by omega
   rw[List.take_length]at bM
   rw[bM,if_neg (by decide)]
   simp only[zX,simprocAttr,i64,h1,h2,h9,aK,ao]
   by_cases d1:fuel<0
   ·simp only[zX,simprocAttr,d1]
   ·by_cases d2:1099511627776<fuel
    ·simp only[zX,simprocAttr,d1,d2,gt_iff_lt,i64,h1,h2]
    ·simp only[zX,simprocAttr,d1,d2,gt_iff_lt,i64,h1,h2]
 ·simp only[zX,simprocAttr,i64,bL,bV,iD,bD,gt_iff_lt,TB]
  refine ay (fun n e s=>∃i:Nat,n=t.length-i/\i<=t.length/\e 1=.d (ao t)/\e 2=i64 fuel/\e 8=i64 (fB true)/\e 9=i64 i/\(t.take i).all (eH true)=true)
   ⟨_,_,_,bI.refl,0,rfl,by omega,rfl,rfl,rfl,rfl,by simp⟩ ?_
  rintro n e s ⟨i,rfl,hi,h1,h2,h8,h9,bM⟩
  rcases Nat.lt_or_ge i t.length with az|ib
  ·obtain⟨x,hx⟩:∃x,t[i]?=some x:=⟨_,List.getElem?_eq_getElem az⟩
   have aK:(i:Int)<t.length:=by omega
   simp only[zX,simprocAttr,i64,h1,h2,h8,h9,aK,ao,hx,iD]
   by_cases d1:x<0
   ·simp only[zX,simprocAttr,d1]
    rw[if_pos (all_false hx (by rw[eH,decide_eq_false (by omega)];rfl))]
   ·by_cases d2:fB true<x
    ·simp only[zX,simprocAttr,d1,d2,gt_iff_lt,i64,h1,h2,h8,h9,aK,az,ao,hx,iD]
     rw[if_pos (all_false hx (by rw[eH,decide_eq_false (by omega:¬x<=fB true),Bool.and_false]))]
    ·simp only[zX,simprocAttr,d1,d2,gt_iff_lt,i64,h1,h2,h8,h9,aK,az,ao,hx,iD]
     refine⟨t.length-(i+1),_,_,by omega,bI.refl,i+1,rfl,az,?_,?_,?_,?_,?_⟩ <;> (try simp only[zU,Nat.reduceBEq,Nat.reduceShiftRight,Nat.reduceMod,Nat.reduceEqDiff,reduceIte])
     ·exact h1
     ·exact h2
     ·exact h8
     ·rw[br _ (by omega)];rfl
     ·exact sk hx bM (by rw[eH,decide_eq_true (by omega),decide_eq_true (by omega)];rfl)
  ·have eQ:i=t.length:=by omega
   subst eQ
   have aK:¬(t.length:Int)<t.length:=by omega
   rw[List.take_length]at bM
   rw[bM,if_neg (by decide)]
   simp only[zX,simprocAttr,i64,h1,h2,h9,aK,ao]
   by_cases d1:fuel<0
   ·simp only[zX,simprocAttr,d1]
   ·by_cases d2:1099511627776<fuel
    ·simp only[zX,simprocAttr,d1,d2,gt_iff_lt,i64,h1,h2]
    ·simp only[zX,simprocAttr,d1,d2,gt_iff_lt,i64,h1,h2]
end Go.Proofs.Ytfmdmlfhigocaaa
