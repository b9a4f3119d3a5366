/- A part of the proof (F26 F42 F40). -/
import Derived.Test.YtphfjhaffbfpfaaPM5
import Derived.Test.YtphfjhaffbfpfaaPM6
set_option linter.all false
set_option maxRecDepth 100000
set_option maxHeartbeats 80000000
namespace Go.Proofs.Ytphfjhaffbfpfaa
open Go.VL Go.Proofs.Try
variable{op:Int}{mn:Int}{mx:Int}{set:List (Int×Int)}{mode:Int}{neg:Bool}{kids:List Re}{n:Int}{re:Re}{top:Int}{ah:Int}{BM:Int}{b:Int}{m:Mk}{x:Re×Mk}{d:Nat}{z:Int}{c:Int}
theorem mM {p:Re->Bool} (h:p (.mk op set kids mn mx mode n neg)=true) (hk:∀k∈kids,k.every p=true):(Re.mk op set kids mn mx mode n neg).every p=true :=
 (Re.aQ _).2 ⟨h,hk⟩
theorem uW {t:Mk->Re×Mk} (ht:∀m,(t m).1.every Uq=true):∀(f:Nat) (i:Int) (m:Mk),(∀k∈(aT t f i m).1,k.every Uq=true)/\(aT t f i m).1.length<=f
 |0,i,m=>by simp [aT]
 |f+1,i,m=>by
  simp only[aT];split
  ·obtain⟨h1,h2⟩:=uW ht f (i+1) (t (m.next 2).2).2;refine⟨λk hk=>?_,by simp;omega⟩;rcases List.mem_cons.1 hk with rfl|hk
   ·exact ht _
   ·exact h1 k hk
  ·simp
theorem Fi {t:Mk->Re×Mk} (m:Mk):(aT t 4 0 m).1≠[]:=by have hp:=ct m.l m.pos 2 (by omega);rw[aT,ap (by simp only[Mk.next];omega)];simp
theorem Rl (h0:0<=op) (h1:op<=11) (h:op≠4/\op≠3/\op≠10/\op≠5/\op≠9):(Re.mk op [] [] mn mx mode n neg).every Uq=true:=by
 refine mM (adu ⟨by simp [Re.set],by simp [Re.kids],h0,h1,λh'=>absurd h' h.1,λh'=>?_⟩) (λy hy=>by cases hy);obtain⟨_,a,b,c,d⟩:=h;simp only[Re.op]at h';rcases h' with h'|h'|h'|h'
 ·exact absurd h' a
 ·exact absurd h' b
 ·exact absurd h' c
 ·exact absurd h' d
theorem eT:b9 re ah top=true ↔
  (0<=re.op/\re.op<=11/\(cR re.op).1<=re.kids.length/\((cR re.op).2<0\/(re.kids.length:Int)<=(cR re.op).2)) /\
  (if re.op=1 then gK re.set top=true else re.set.length=0) /\
  (if re.op=4 then (0<=re.mn/\re.mn<=32/\-1<=re.mx/\re.mx≠0/\re.mx<=32/\(0<re.mx->re.mn<=re.mx)/\0<=re.mode/\re.mode<=2) else (re.mn=0/\re.mx=0/\re.mode=0)) /\
  (if re.op=5\/re.op=6\/re.op=10 then (1<=re.n/\re.n<=ah) else if re.op=11 then (0<=re.n/\re.n<=5) else re.n=0) /\
  (re.neg=true->re.op=7\/re.op=8):=by
 unfold b9;simp only[adD,adC];refine and_congr Iff.rfl (and_congr ?_ (and_congr ?_ (and_congr ?_ ?_)))
 ·split <;> simp
 ·split <;> simp only[adC]
 ·split
  ·simp only[adC]
  ·split <;> simp only[adC]
 ·cases re.neg <;> simp
theorem Hz (h:ah<=BM) (hn:b9 re ah top=true):b9 re BM top=true:=by
 rw[eT]at *;obtain⟨a,b,c,d,e⟩:=hn;refine⟨a,b,c,?_,e⟩;split
 ·rename_i hh;rw[ap hh]at d;omega
 ·rename_i hh;rw[am hh]at d;exact d
theorem AE (h:ah<=BM) (hn:re.whole ah top=true):re.whole BM top=true :=
 nA (λr hr=>Hz h hr) re hn
theorem mO (h:b9 (.mk op set kids mn mx mode n neg) ah top=true) (hk:∀k∈kids,k.whole ah top=true):(Re.mk op set kids mn mx mode n neg).whole ah top=true :=
 (Re.aQ _).2 ⟨h,hk⟩
theorem Re.vh (hb:0<=b) (hk:∀k∈kids,k.depth<=b):(Re.mk op set kids mn mx mode n neg).depth<=b+1:=by rw[Re.oN];have:=mm (b:=b) (kids.map Re.depth) 0 hb (λx hx=>by obtain⟨k,uB,rfl⟩:=List.mem_map.1 hx;exact hk k uB);show s6 (kids.map Re.depth)+1<=_;unfold s6;omega
structure U4 (d:Nat) (m:Mk) (x:Re×Mk):Prop where
 ah:m.ah<=x.2.ah
 ok:x.1.whole x.2.ah 255=true
 dep:x.1.depth<=d+1
 size:(x.1.size:Int)<=m.left-x.2.left
 low:m.left<=3->m.left-1<=x.2.left
 high:4<=m.left->2-4*(d:Int)<=x.2.left
structure TT (d:Nat) (t:Mk->Re×Mk) (c z:Int):Prop where
 bW:Good t c z
 c0:0<=c
 z1:1<=z
 tok:∀m b,0<=b->Mk.In m b->U4 d m (t m)
theorem U4.one {d:Nat} (h:U4 d m x) {B:Int} (h1:B<=2-4*(d:Int)) (h2:B<=m.left):B-1<=x.2.left:=by have:=h.low;have:=h.high;omega
structure FOK (d f:Nat) (m:Mk) (x:List Re×Mk):Prop where
 ah:m.ah<=x.2.ah
 ok:∀k∈x.1,k.whole x.2.ah 255=true
 dep:∀k∈x.1,k.depth<=d+1
 size:(Re.dT x.1:Int)<=m.left-x.2.left
 Xn:∀B:Int,B<=2-4*(d:Int)->B<=m.left->B-f<=x.2.left
theorem xm {d:Nat}{t:Mk->Re×Mk}{c z:Int} (ht:TT d t c z):∀(f:Nat) (i:Int) (m:Mk) (b:Int),0<=b->m.In b->FOK d f m (aT t f i m)
 |0,i,m,b,hb,h=>⟨ady _,by simp [aT],by simp [aT],by simp [aT,Re.dT],λB _ h2=>by simpa [aT]using h2⟩
 |f+1,i,m,b,hb,h=>by
  simp only[aT];split
  ·have h1:=h.next 2;have h2:=ht.tok _ (b+1) (by omega) h1;obtain⟨h3,_⟩:=ht.bW _ (b+1) (by omega) h1;have h4:=xm ht f (i+1) _ (b+1+c) (by have:=ht.c0;omega) h3;refine⟨Int.le_trans h2.ah h4.ah,?_,?_,?_,?_⟩
   ·intro k hk;rcases List.mem_cons.1 hk with rfl|hk
    ·exact AE h4.ah h2.ok
    ·exact h4.ok k hk
   ·intro k hk;rcases List.mem_cons.1 hk with rfl|hk
    ·exact h2.dep
    ·exact h4.dep k hk
   ·have a:=h2.size;have a':=h4.size;simp only[Re.dT,aef];have e:(m.next 2).2.left=m.left:=rfl;omega
   ·intro B Sy hB2;have:=h4.Xn (B-1) (by omega) (h2.one Sy hB2);simp only[aef];omega
  ·exact⟨ady _,by simp,by simp,by simp [Re.dT,Mk.next],λB _ h2=>by simp only[Mk.next];omega⟩
theorem DL {t:Mk->Re×Mk} (m:Mk):2<=(aT t 4 0 m).1.length:=by have hp:=ct m.l m.pos 2 (by omega);rw[aT,ap (by simp only[Mk.next];omega)];simp only[adA];generalize (t (m.next 2).2).2=m';have Rd:=ct m'.l m'.pos 2 (by omega);rw[aT,ap (by simp only[Mk.next];omega)];simp
structure Uf (d:Nat) (m:Mk) (x:Re×Mk):Prop where
 ah:m.ah<=x.2.ah
 ok:x.1.whole x.2.ah 255=true
 dep:x.1.depth<=d+2
 size:(x.1.size:Int)<=1+(m.left-x.2.left)
 Xn:∀B:Int,B<=2-4*(d:Int)->B<=m.left->B-4<=x.2.left
theorem r6 (m:Mk) (ah:Int):m.set.1.whole ah 255=true:=by
 have hs:∀i:Nat,gK ((oW[i]?).getD []) 255=true:=by
  intro i;by_cases hi:i<8
  ·have:∀i,i<8->gK ((oW[i]?).getD []) 255=true:=by decide
   exact this i hi
  ·rw[List.getElem?_eq_none (by simp [oW];omega)];rfl
 refine mO (eT.2 ?_) (λk hk=>by cases hk);refine⟨⟨by simp [Re.op],by simp [Re.op],by simp [Re.op,cR],by simp [Re.op,cR,Re.kids]⟩,?_,?_,?_,?_⟩
 ·show (if (1:Int)=1 then gK ((oW[(pick m.l m.pos 15 / 2).toNat]?).getD []) 255=true else _);rw[ap rfl];exact hs _
 ·rw[am (by simp [Re.op])];exact⟨rfl,rfl,rfl⟩
 ·rw[am (by simp [Re.op]),am (by simp [Re.op])];rfl
 ·intro h;simp [Re.neg]at h
theorem yP (m:Mk):m.set.1.depth=1:=rfl
theorem uM (m:Mk):m.set.1.size=1:=rfl
theorem Rh (d:Nat) (m:Mk):Uf d m m.set :=
 ⟨ady _,r6 m _,by rw[yP];omega,by rw[uM];simp [Mk.set,Mk.next],λB _ h=>by simp only[Mk.set,Mk.next];omega⟩
theorem yu{m':Mk} (h:U4 d m' x) (hc:m.ah<=m'.ah) (hl:m'.left=m.left)
  (hn:b9 (.mk op [] [x.1] mn mx mode n neg) x.2.ah 255=true):Uf d m (.mk op [] [x.1] mn mx mode n neg,x.2):=by
 refine⟨Int.le_trans hc h.ah,mO hn (λk hk=>by rw[List.mem_singleton.1 hk];exact h.ok),?_,?_,?_⟩
 ·exact Re.vh (b:=d+1) (by omega) (λk hk=>by rw[List.mem_singleton.1 hk];exact h.dep)
 ·show ((Re.mk op [] [x.1] mn mx mode n neg).size:Int)<=1+(m.left-x.2.left)
  rw[qR];have:=h.size;omega
 ·intro B h1 h2;have:=h.one h1 (by omega);show B-4<=x.2.left;omega
theorem GU{m':Mk} (hc:m.ah=m'.ah) (hl:m'.left=m.left)
  (hn:b9 (.mk op [] [] mn mx mode n neg) m'.ah 255=true):Uf d m (.mk op [] [] mn mx mode n neg,m'):=by
 refine⟨by rw[hc];exact ady _,mO hn (λk hk=>by cases hk),?_,?_,?_⟩
 ·have:=Re.vh (op:=op) (set:=[]) (mn:=mn) (mx:=mx) (mode:=mode) (n:=n) (neg:=neg) (b:=0) (kids:=[]) (by omega) (λk hk=>by cases hk);show (Re.mk op [] [] mn mx mode n neg).depth<=_;omega
 ·show ((Re.mk op [] [] mn mx mode n neg).size:Int)<=1+(m.left-m'.left);rw[hl];simp [Re.size,Re.dT]
 ·intro B h1 h2;show B-4<=m'.left;omega
theorem fQ (h0:0<=op/\op<=11) (h1:op≠1) (h4:op≠4) (hk:(cR op).1<=kids.length/\((cR op).2<0\/(kids.length:Int)<=(cR op).2))
  (hn:if op=5\/op=6\/op=10 then (1<=n/\n<=ah) else if op=11 then (0<=n/\n<=5) else n=0) (cS:neg=true->op=7\/op=8):b9 (.mk op [] kids 0 0 0 n neg) ah 255=true:=by
 refine eT.2 ⟨⟨h0.1,h0.2,hk.1,hk.2⟩,?_,?_,hn,cS⟩
 ·rw[am (by exact h1)];rfl
 ·rw[am (by exact h4)];exact⟨rfl,rfl,rfl⟩
theorem Jb{t:Mk->Re×Mk} (h:U4 d m (t m)):U4 d m (iv t m):=by
 unfold iv;simp only;split
 ·have h1:=h.size;have h2:=(t m).1.size_pos;exact⟨h.ah,r6 _ _,by rw[yP];omega,by rw[uM];show ((1:Nat):Int)<=m.left-(t m).2.left;omega,h.low,h.high⟩
 ·exact h
theorem Ds (m:Mk):(eE m).2.ah=m.ah/\(eE m).2.left=m.left/\0<=(eE m).1/\(eE m).1<=2:=by
 have hp:=ct m.l m.pos 2 (by omega);unfold eE;simp only;split
 ·refine⟨rfl,rfl,?_,?_⟩ <;> (split <;> simp only[Mk.next] <;> omega)
 ·refine⟨rfl,rfl,?_,?_⟩ <;> simp only[Mk.next] <;> omega
theorem Rv{t:Mk->Re×Mk} (ht:TT d t c z) (hb:0<=b) (h:m.In b):Uf d m (m.rep t):=by
 have hk:=ct m.l m.pos 12 (by omega);have hi:=AK (h.next 12);obtain⟨r1,r2,r3,r4⟩:=Ds (m.next 12).2;have h2:=Jb (ht.tok _ (b+1+2) (by omega) hi);simp only[Mk.rep];refine yu h2 (by rw[r1];exact ady _) (by rw[r2];rfl) (eT.2 ⟨⟨by simp [Re.op],by simp [Re.op],by simp [Re.op,cR,Re.kids],by simp [Re.op,cR,Re.kids]⟩,?_,?_,?_,?_⟩)
 ·rw[am (by simp [Re.op])];rfl
 ·rw[ap (by simp [Re.op])];have key:∀i:Nat,i<12->0<=(iG[i]?).getD 0/\(iG[i]?).getD 0<=32/\-1<=(gi[i]?).getD 0/\(gi[i]?).getD 0≠0/\(gi[i]?).getD 0<=32/\(0<(gi[i]?).getD 0->(iG[i]?).getD 0<=(gi[i]?).getD 0):=by decide
  obtain⟨k1,k2,k3,k4,k5,k6⟩:=key (pick m.l m.pos 12).toNat (by omega);exact⟨k1,k2,k3,k4,k5,k6,r3,r4⟩
 ·rw[am (by simp [Re.op]),am (by simp [Re.op])];rfl
 ·intro h;simp [Re.neg]at h
theorem F7 (m:Mk):(ej m).2.left=m.left:=by
 unfold ej;simp only;split
 ·rfl
 ·split
  ·split <;> rfl
  ·rfl
theorem xO{t:Mk->Re×Mk} (ht:TT d t c z) (hb:0<=b) (h:m.In b):Uf d m (m.gL t):=by
 obtain⟨h1,h2,h3,h4⟩:=wE h;have hl:=F7 m;simp only[Mk.gL];have tD:((ej m).2.jP (max (ej m).2.ah (ej m).1)).In (b+2):=⟨h1.l,h1.p0,h1.p1,h1.l0,h1.l1,by show 0<=max _ _;omega,by have:=h.c1;show max _ _<=4;omega⟩
 have hx:=ht.tok _ (b+2) (by omega) tD;have vZ:(ej m).1<=(t ((ej m).2.jP (max (ej m).2.ah (ej m).1))).2.ah:=Int.le_trans (by show _<=max _ _;omega) hx.ah;refine yu hx (by show m.ah<=max _ _;omega) hl (fQ (by omega) (by omega) (by omega) (by simp [cR]) ?_ (by simp));rw[ap (.inl rfl)];exact⟨h3,vZ⟩
theorem y9{x:List Re×Mk} (h:FOK d 4 m x) (ho:op=2\/op=3) (hl:2<=x.1.length):Uf d m (Re.node op x.1,x.2):=by
 refine⟨h.ah,mO (fQ (by omega) (by omega) (by omega) ?_ ?_ (by simp)) h.ok,Re.vh (b:=d+1) (by omega) h.dep,?_,?_⟩
 ·unfold cR;rw[ap ho];exact⟨by show (2:Int)<=_;omega,.inl (by show (-1:Int)<0;omega)⟩
 ·rw[am (by omega),am (by omega)]
 ·show ((Re.node op x.1).size:Int)<=_;have:=h.size;simp only[Re.node,Re.size,aef];show ((1:Nat):Int)+(Re.dT x.1:Int)<=1+(m.left-x.2.left)
  omega
 ·intro B h1 h2;exact h.Xn B h1 h2
theorem OX{t:Mk->Re×Mk} (ht:TT d t c z) (k:Int) (hb:0<=b) (h:m.In b):Uf d m (Mk.node t k m):=by
 have hf:=xm ht 4 0 m b hb h;have hl:=DL (t:=t) m;have KG:=ht.c0;unfold Mk.node;split
 ·exact y9 hf (.inl rfl) hl
 split
 ·exact y9 hf (.inr rfl) hl
 split
 ·exact Rv ht hb h
 split
 ·exact xO ht hb h
 split
 ·exact xO ht hb h
 split
 ·have hp:=ct m.l m.pos 6 (by omega);refine GU rfl rfl (fQ (by omega) (by omega) (by omega) (by simp [cR]) ?_ (by simp));rw[am (by omega),ap rfl];simp only[Mk.next];omega
 split
 ·have hp:=ct (m.next 3).2.l (m.next 3).2.pos 2 (by omega);have hx:=ht.tok _ (b+2) (by omega) (((h.next 3).next 2).mono (by omega));have P9:((m.next 3).2.next 2).1=0\/((m.next 3).2.next 2).1=1:=by simp only[Mk.next]at hp ⊢;omega
  refine yu hx (ady _) rfl (fQ ?_ ?_ ?_ ?_ ?_ ?_)
  ·omega
  ·omega
  ·omega
  ·rcases P9 with e|e <;> rw[e] <;> simp [cR]
  ·rcases P9 with e|e <;> rw[e] <;> simp
  ·intro _;omega
 split
 ·exact yu (ht.tok m b hb h) (ady _) rfl (fQ (by omega) (by omega) (by omega) (by simp [cR]) (by simp) (by simp))
 split
 ·rename_i zK;have uA:0<m.ah:=zK.2.2;have hp:=ct m.l m.pos m.ah (by omega);refine GU rfl rfl (fQ (by omega) (by omega) (by omega) (by simp [cR]) ?_ (by simp));rw[ap (.inr (.inl rfl))];simp only[Mk.next];omega
 split
 ·rename_i zK;have uA:0<m.ah:=zK.2.2;have hp:=ct m.l m.pos m.ah (by omega);have h1:=h.next m.ah;have hy:=ht.tok _ (b+1) (by omega) h1;obtain⟨h2,_⟩:=ht.bW _ (b+1) (by omega) h1;have hz:=ht.tok _ (b+1+c) (by omega) h2;have e1:(m.next m.ah).2.ah=m.ah:=rfl;have e2:(m.next m.ah).2.left=m.left:=rfl;simp only;refine⟨Int.le_trans hy.ah hz.ah,mO (fQ (by omega) (by omega) (by omega) (by simp [cR]) ?_ (by simp)) ?_,Re.vh (b:=d+1) (by omega) ?_,?_,?_⟩
  ·rw[ap (.inr (.inr rfl))];have:=Int.le_trans hy.ah hz.ah;simp only[Mk.next]at this hp ⊢;omega
  ·intro x hx;rcases List.mem_cons.1 hx with rfl|hx
   ·exact AE hz.ah hy.ok
   ·rw[List.mem_singleton.1 hx];exact hz.ok
  ·intro x hx;rcases List.mem_cons.1 hx with rfl|hx
   ·exact hy.dep
   ·rw[List.mem_singleton.1 hx];exact hz.dep
  ·have a1:=hy.size;have a2:=hz.size;simp only[Re.size,Re.dT,aef];omega
  ·intro B Sy hB2;have b1:=hy.one Sy (by omega);have b2:=hz.one (B:=B-1) (by omega) b1;show B-4<=(t (t (m.next m.ah).2).2).2.left;omega
 ·exact Rh d m
theorem vq:∀d,TT d (Mk.tree d) (cD d) (zD d)
 |0=>by
  refine⟨iJ 0,by have:=bX 0;omega,wm 0,λm b hb h=>?_⟩;simp only[Mk.tree];have el:(m.less.next 20).2.left=m.left-1:=rfl;have ec:(m.less.next 20).2.ah=m.ah:=rfl;split
  ·have hn:b9 (Re.node 0 []) (m.less.next 20).2.ah 255=true:=fQ (by omega) (by omega) (by omega) (by simp [cR]) (by simp) (by simp);exact⟨by rw[ec];exact ady _,mO hn (λk hk=>by cases hk),by show (1:Int)<=_;omega,by show ((1:Nat):Int)<=m.left-(m.less.next 20).2.left;omega,λ_=>by show _<=(m.less.next 20).2.left;omega,λ_=>by show _<=(m.less.next 20).2.left;omega⟩
  ·have e1:(m.less.next 20).2.set.2.left=m.left-1:=rfl;exact⟨ady _,r6 _ _,by rw[yP];omega,by rw[uM];omega,λ_=>by omega,λ_=>by omega⟩
 |d+1=>by
  refine⟨iJ (d+1),by have:=bX (d+1);omega,wm (d+1),λm b hb h=>?_⟩;simp only[Mk.tree];have el:(m.less.next 20).2.left=m.left-1:=rfl;have ec:(m.less.next 20).2.ah=m.ah:=rfl;split
  ·split
   ·have hn:b9 (Re.node 0 []) (m.less.next 20).2.ah 255=true:=fQ (by omega) (by omega) (by omega) (by simp [cR]) (by simp) (by simp);exact⟨by rw[ec];exact ady _,mO hn (λk hk=>by cases hk),by show (1:Int)<=_;omega,by show ((1:Nat):Int)<=m.left-(m.less.next 20).2.left;omega,λ_=>by show _<=(m.less.next 20).2.left;omega,λ_=>by show _<=(m.less.next 20).2.left;omega⟩
   ·have e1:(m.less.next 20).2.set.2.left=m.left-1:=rfl;exact⟨ady _,r6 _ _,by rw[yP];omega,by rw[uM];omega,λ_=>by omega,λ_=>by omega⟩
  ·rename_i zK;have Zp:¬(m.less.next 20).2.left<3:=λhh=>zK (.inl hh);have hn:=OX (vq d) (m.less.next 20).1 (b:=b+1+1) (by omega) (h.left.next 20);refine⟨Int.le_trans (by rw[ec];exact ady _) hn.ah,hn.ok,?_,?_,λhh=>by omega,λ_=>?_⟩
   ·have:=hn.dep;simp only[aef];omega
   ·have:=hn.size;omega
   ·have:=hn.Xn (2-4*(d:Int)) (ady _) (by omega);simp only[aef];omega
theorem w9 (l:List Int) (cu ai:Int) (hl:∀x∈l,kg x) (h0:0<=ai) (h1:ai<=100):dR (kA l cu ai)=0/\(kA l cu ai).re.size<=256:=by
 have tD:(⟨l,0,cu,ai,0⟩:Mk).In 0:=⟨hl,by simp,by simp,by simpa using h0,by show ai<=_;omega,by simp,by simp⟩
 have h:=(vq 5).tok ⟨l,0,cu,ai,0⟩ 0 (by omega) tD;obtain⟨g,_⟩:=(vq 5).bW ⟨l,0,cu,ai,0⟩ 0 (by omega) tD;have gf:=h.size;have UI:=h.low;have Wx:=h.high;have abW:=h.dep;have jB:=h.ok;have hs:(kA l cu ai).re.size<=256:=by show (Mk.tree 5 ⟨l,0,cu,ai,0⟩).1.size<=256;simp only at gf UI Wx;omega
 refine⟨?_,hs⟩;unfold dR;rw[am,am]
 ·rintro (h'|h'|h')
  ·have:=g.c0;have QP:(Mk.tree 5 ⟨l,0,cu,ai,0⟩).2.ah<0:=h';omega
  ·have:=g.c1;have QP:9<(Mk.tree 5 ⟨l,0,cu,ai,0⟩).2.ah:=h';omega
  ·have QP:(Mk.tree 5 ⟨l,0,cu,ai,0⟩).1.whole (Mk.tree 5 ⟨l,0,cu,ai,0⟩).2.ah 255=false:=h';rw[jB]at QP;cases QP
 ·rintro (h'|h')
  ·omega
  ·have QP:24<(Mk.tree 5 ⟨l,0,cu,ai,0⟩).1.depth:=h';omega
theorem SM {top:Int}:∀(l:List (Int×Int)) (p:Int),iV top p l=true->∀s∈l,0<=s.1/\s.1<=top/\0<=s.2/\s.2<=top
 |[],p,h,s,hs=>by cases hs
 |x::l,p,h,s,hs=>by
  simp only[iV,adD,adC]at h;rcases List.mem_cons.1 hs with rfl|hs
  ·omega
  ·exact SM l x.2 h.2 s hs
theorem EC{c:Nat} (hc:64<=c) (ht:top<=1114111) (uA:ah<=1000000) (h:b9 re ah top=true) (hk:re.kids.length<=c):tX c re=true:=by
 obtain⟨h1,h2,h3,h4,h5⟩:=eT.1 h;have cC:re.set.length<=64/\∀s∈re.set,kg s.1/\kg s.2:=by
  split at h2
  ·simp only[gK,adD,adC]at h2;refine⟨h2.1,λs hs=>?_⟩;have:=SM _ _ h2.2 s hs;unfold kg;omega
  ·have hn:re.set=[]:=adJ h2;rw[hn];exact⟨by simp,λs hs=>by cases hs⟩
 refine AI.2 ⟨⟨by omega,hk,?_,?_,?_,?_,?_⟩,cC.2⟩
 ·unfold kg;omega
 ·unfold kg;split at h3 <;> omega
 ·unfold kg;split at h3 <;> omega
 ·unfold kg;split at h3 <;> omega
 ·unfold kg;split at h4
  ·omega
  ·split at h4 <;> omega
theorem CA (l:List Int) (cu ai:Int) (hl:∀x∈l,kg x) (h0:0<=ai) (h1:ai<=100):(kA l cu ai).small 256:=by
 have tD:(⟨l,0,cu,ai,0⟩:Mk).In 0:=⟨hl,by simp,by simp,by simpa using h0,by show ai<=_;omega,by simp,by simp⟩
 have h:=(vq 5).tok ⟨l,0,cu,ai,0⟩ 0 (by omega) tD;obtain⟨g,_⟩:=(vq 5).bW ⟨l,0,cu,ai,0⟩ 0 (by omega) tD;obtain⟨_,hs⟩:=w9 l cu ai hl h0 h1;have KG:=g.c0;have x0:=g.c1;refine⟨?_,hs,by show kg (Mk.tree 5 ⟨l,0,cu,ai,0⟩).2.ah;unfold kg;omega⟩;have jB:(kA l cu ai).re.whole (Mk.tree 5 ⟨l,0,cu,ai,0⟩).2.ah 255=true:=h.ok;revert jB hs;generalize (kA l cu ai).re=re;intro hs jB;refine Re.ind (Q:=λre=>re.size<=256->re.whole (Mk.tree 5 ⟨l,0,cu,ai,0⟩).2.ah 255=true->re.every (tX 256)=true) (λre ih hs jB=>?_) re hs jB;obtain⟨a1,a2⟩:=(Re.aQ re).1 jB;have:=Re.ot re.kids;have:=Re.size_eq re;exact(Re.aQ re).2 ⟨EC (by omega) (by omega) (by omega) a1 (by omega),λk hk=>ih k hk (by have:=Re.dr hk;omega) (a2 k hk)⟩
end Go.Proofs.Ytphfjhaffbfpfaa
