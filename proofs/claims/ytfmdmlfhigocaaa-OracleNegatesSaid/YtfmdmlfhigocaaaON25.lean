/- A part of the proof (F25 F26 F37 F38 F39 F42 G18). -/
import Derived.Test.YtfmdmlfhigocaaaON13
import Derived.Test.YtfmdmlfhigocaaaON16
import Derived.Test.YtfmdmlfhigocaaaON20
import Derived.Test.YtfmdmlfhigocaaaON21
import Derived.Test.YtfmdmlfhigocaaaON24
set_option linter.unusedSimpArgs false
set_option linter.unusedVariables false
open Nat renaming reduceShiftRight → cQ, reduceMod → dx, reduceEqDiff → eI, reduceBEq → gj
set_option maxRecDepth 100000
set_option maxHeartbeats 80000000
namespace Go.Proofs.Ytfmdmlfhigocaaa
open Go.VL Go.Proofs.Try
variable{c:Nat}{ak:Int}{re:Re}{top:Int}{Hr:Int}{op:Int}{n:Int}{set:List (Int×Int)}{mn:Int}{kids:List Re}{neg:Bool}{mode:Int}{mx:Int}{b:Int}{x:Re×Mk}{m:Mk}{t:Mk->Re×Mk}{d:Nat}{z:Int}
structure LR (vl:Bool) (p:Int×Int):Prop where
 a0:0<=p.1
 a1:p.1<=1000000
 b0:-1<=p.2
 b1:p.2<=1000000
 ab:p.2=-1\/p.1<=p.2
 nl:vl=true ↔ p.1=0
theorem Gd (n m:Int) (hm:1<=m) (hn:jC n):0<=pM n m/\pM n m<m:=by
 unfold jC at hn;unfold pM;split
 ·exact⟨Int.tmod_nonneg _ (by omega),Int.tmod_lt_of_pos _ (by omega)⟩
 ·exact⟨Int.tmod_nonneg _ (by omega),Int.tmod_lt_of_pos _ (by omega)⟩
def sm (p:List Int):List D:=[al p]
def pK:Re:=.mk 0 [] [] 0 0 0 0 false
def Re.atR:Re->List Int->Re×Int
 |re,[]=>(re,0)
 |re,i::p=>if i<0\/re.kids.length<=i then (pK,7) else match re.kids[i.toNat]? with
  |some k=>k.atR p
  |none=>(pK,7)
def Re.iI:Re->List Re->Re
 |.mk op set _ mn mx mode n neg,l=>.mk op set l mn mx mode n neg
def Re.dO:Re->List Int->Re->Re×Int
 |_,[],x=>(x,0)
 |re,i::p,x=>if i<0\/re.kids.length<=i then (pK,7) else match re.kids[i.toNat]? with
  |some k=>if (k.dO p x).2≠0 then (pK,(k.dO p x).2) else (re.iI (re.kids.take i.toNat++(k.dO p x).1::re.kids.drop (i.toNat+1)),0)
  |none=>(pK,7)
theorem H5:fv pK=.ag [.d (iD 0),.d (.sl []),.d (.sl []),.d (iD 0),.d (iD 0),.d (iD 0),.d (iD 0),.d (bD false)]:=by rw[ai];rfl
instance (n:Int):Decidable (jC n):=by unfold jC;infer_instance
def l5 (c:Nat) (r:Re):Bool:=decide (r.set.length<=c/\r.kids.length<=c/\jC r.op/\jC r.mn/\jC r.mx/\jC r.mode/\jC r.n)&&r.set.all λs=>decide (jC s.1/\jC s.2)
structure ic.small (p:ic) (c:Nat):Prop where
 ev:p.re.every (l5 c)=true
 sz:p.re.size<=c
 ak:jC p.ak
theorem CN{r:Re}:l5 c r=true ↔ (r.set.length<=c/\r.kids.length<=c/\jC r.op/\jC r.mn/\jC r.mx/\jC r.mode/\jC r.n)/\∀s∈r.set,jC s.1/\jC s.2:=by unfold l5;rw[agb,decide_eq_true_eq,af8];exact and_congr Iff.rfl ⟨λh s hs=>of_decide_eq_true (h s hs),λh s hs=>bi (h s hs)⟩
theorem iR {p q:Re->Bool} (h:∀re,p re=true->q re=true) (re:Re) (hp:re.every p=true):re.every q=true:=by revert hp;refine Re.ind (Q:=λre=>re.every p=true->re.every q=true) (λre ih hp=>?_) re;obtain⟨h1,h2⟩:=(Re.aB re).1 hp;exact(Re.aB re).2 ⟨h re h1,λk hk=>ih k hk (h2 k hk)⟩
theorem CS (hc:c<=1000000000) (re:Re) (h:re.every (l5 c)=true):re.bC=true:=by revert h;refine Re.ind (Q:=λre=>re.every (l5 c)=true->re.bC=true) (λre ih h=>?_) re;obtain⟨h1,h2⟩:=(Re.aB re).1 h;obtain⟨⟨a1,a2,_⟩,_⟩:=CN.1 h1;exact(Re.mC re).2 ⟨by omega,by omega,λk hk=>ih k hk (h2 k hk)⟩
theorem fz:bK re ak top=true ↔
  (0<=re.op/\re.op<=11/\(cr re.op).1<=re.kids.length/\((cr re.op).2<0\/(re.kids.length:Int)<=(cr re.op).2)) /\
  (if re.op=1 then gZ re.set top=true else re.set.length=0) /\
  (if re.op=4 then (0<=re.mn/\re.mn<=32/\-1<=re.mx/\re.mx≠0/\re.mx<=32/\(0<re.mx->re.mn<=re.mx)/\0<=re.mode/\re.mode<=2) else (re.mn=0/\re.mx=0/\re.mode=0)) /\
  (if re.op=5\/re.op=6\/re.op=10 then (1<=re.n/\re.n<=ak) else if re.op=11 then (0<=re.n/\re.n<=5) else re.n=0) /\
  (re.neg=true->re.op=7\/re.op=8):=by
 unfold bK;simp only[agb,decide_eq_true_eq];refine and_congr Iff.rfl (and_congr ?_ (and_congr ?_ (and_congr ?_ ?_)))
 ·split <;> simp
 ·split <;> simp only[decide_eq_true_eq]
 ·split
  ·simp only[decide_eq_true_eq]
  ·split <;> simp only[decide_eq_true_eq]
 ·cases re.neg <;> simp
theorem Ik (h:ak<=Hr) (hn:bK re ak top=true):bK re Hr top=true:=by
 rw[fz]at *;obtain⟨a,b,c,d,e⟩:=hn;refine⟨a,b,c,?_,e⟩;split
 ·rename_i hh;rw[be hh]at d;omega
 ·rename_i hh;rw[ap hh]at d;exact d
theorem Ba (h:ak<=Hr) (hn:re.whole ak top=true):re.whole Hr top=true :=
 iR (λr hr=>Ik h hr) re hn
theorem nU (h:bK (.mk op set kids mn mx mode n neg) ak top=true) (hk:∀k∈kids,k.whole ak top=true):(Re.mk op set kids mn mx mode n neg).whole ak top=true :=
 (Re.aB _).2 ⟨h,hk⟩
theorem Re.xJ (hb:0<=b) (hk:∀k∈kids,k.depth<=b):(Re.mk op set kids mn mx mode n neg).depth<=b+1:=by rw[Re.gF];have:=nu (b:=b) (kids.map Re.depth) 0 hb (λx hx=>by obtain⟨k,wB,rfl⟩:=List.mem_map.1 hx;exact hk k wB);show oC (kids.map Re.depth)+1<=_;unfold oC;omega
structure Wd (d:Nat) (m:Mk) (x:Re×Mk):Prop where
 ak:m.ak<=x.2.ak
 ok:x.1.whole x.2.ak 255=true
 dep:x.1.depth<=d+1
 size:(x.1.size:Int)<=m.left-x.2.left
 low:m.left<=3->m.left-1<=x.2.left
 high:4<=m.left->2-4*(d:Int)<=x.2.left
structure TT (d:Nat) (t:Mk->Re×Mk) (c z:Int):Prop where
 qi:Good t c z
 c0:0<=c
 z1:1<=z
 tok:∀m b,0<=b->Mk.In m b->Wd d m (t m)
theorem Wd.one {d:Nat} (h:Wd d m x) {B:Int} (h1:B<=2-4*(d:Int)) (h2:B<=m.left):B-1<=x.2.left:=by have:=h.low;have:=h.high;omega
structure FOK (d f:Nat) (m:Mk) (x:List Re×Mk):Prop where
 ak:m.ak<=x.2.ak
 ok:∀k∈x.1,k.whole x.2.ak 255=true
 dep:∀k∈x.1,k.depth<=d+1
 size:(Re.bZ x.1:Int)<=m.left-x.2.left
 Y0:∀B:Int,B<=2-4*(d:Int)->B<=m.left->B-f<=x.2.left
theorem zN {d:Nat}{t:Mk->Re×Mk}{c z:Int} (ht:TT d t c z):∀(f:Nat) (i:Int) (m:Mk) (b:Int),0<=b->m.In b->FOK d f m (bt t f i m)
 |0,i,m,b,hb,h=>⟨agn _,by simp [bt],by simp [bt],by simp [bt,Re.bZ],λB _ h2=>by simpa [bt]using h2⟩
 |f+1,i,m,b,hb,h=>by
  simp only[bt];split
  ·have h1:=h.next 2;have h2:=ht.tok _ (b+1) (by omega) h1;obtain⟨h3,_⟩:=ht.qi _ (b+1) (by omega) h1;have h4:=zN ht f (i+1) _ (b+1+c) (by have:=ht.c0;omega) h3;refine⟨aho h2.ak h4.ak,?_,?_,?_,?_⟩
   ·intro k hk;rcases List.mem_cons.1 hk with rfl|hk
    ·exact Ba h4.ak h2.ok
    ·exact h4.ok k hk
   ·intro k hk;rcases List.mem_cons.1 hk with rfl|hk
    ·exact h2.dep
    ·exact h4.dep k hk
   ·have a:=h2.size;have a':=h4.size;simp only[Re.bZ,ag2];have e:(m.next 2).2.left=m.left:=rfl;omega
   ·intro B TQ hB2;have:=h4.Y0 (B-1) (by omega) (h2.one TQ hB2);simp only[ag2];omega
  ·exact⟨agn _,by simp,by simp,by simp [Re.bZ,Mk.next],λB _ h2=>by simp only[Mk.next];omega⟩
theorem Fo (m:Mk):2<=(bt t 4 0 m).1.length:=by have hp:=cb m.l m.pos 2 (by omega);rw[bt,be (by simp only[Mk.next];omega)];simp only[afZ];generalize (t (m.next 2).2).2=m';have hp':=cb m'.l m'.pos 2 (by omega);rw[bt,be (by simp only[Mk.next];omega)];simp
structure VP (d:Nat) (m:Mk) (x:Re×Mk):Prop where
 ak:m.ak<=x.2.ak
 ok:x.1.whole x.2.ak 255=true
 dep:x.1.depth<=d+2
 size:(x.1.size:Int)<=1+(m.left-x.2.left)
 Y0:∀B:Int,B<=2-4*(d:Int)->B<=m.left->B-4<=x.2.left
theorem uw (m:Mk) (ak:Int):m.set.1.whole ak 255=true:=by
 have hs:∀i:Nat,gZ ((qb[i]?).getD []) 255=true:=by
  intro i;by_cases hi:i<8
  ·have:∀i,i<8->gZ ((qb[i]?).getD []) 255=true:=by decide
   exact this i hi
  ·rw[agG (by simp [qb];omega)];rfl
 refine nU (fz.2 ?_) (λk hk=>by cases hk);refine⟨⟨by simp [Re.op],by simp [Re.op],by simp [Re.op,cr],by simp [Re.op,cr,Re.kids]⟩,?_,?_,?_,?_⟩
 ·show (if (1:Int)=1 then gZ ((qb[(pick m.l m.pos 15 / 2).toNat]?).getD []) 255=true else _);rw[be rfl];exact hs _
 ·rw[ap (by simp [Re.op])];exact⟨rfl,rfl,rfl⟩
 ·rw[ap (by simp [Re.op]),ap (by simp [Re.op])];rfl
 ·intro h;simp [Re.neg]at h
theorem AT (m:Mk):m.set.1.depth=1:=rfl
theorem yg (m:Mk):m.set.1.size=1:=rfl
theorem Tc (d:Nat) (m:Mk):VP d m m.set :=
 ⟨agn _,uw m _,by rw[AT];omega,by rw[yg];simp [Mk.set,Mk.next],λB _ h=>by simp only[Mk.set,Mk.next];omega⟩
theorem AH{m':Mk} (h:Wd d m' x) (hc:m.ak<=m'.ak) (hl:m'.left=m.left)
  (hn:bK (.mk op [] [x.1] mn mx mode n neg) x.2.ak 255=true):VP d m (.mk op [] [x.1] mn mx mode n neg,x.2):=by
 refine⟨aho hc h.ak,nU hn (λk hk=>by rw[List.mem_singleton.1 hk];exact h.ok),?_,?_,?_⟩
 ·exact Re.xJ (b:=d+1) (by omega) (λk hk=>by rw[List.mem_singleton.1 hk];exact h.dep)
 ·show ((Re.mk op [] [x.1] mn mx mode n neg).size:Int)<=1+(m.left-x.2.left)
  rw[sy];have:=h.size;omega
 ·intro B h1 h2;have:=h.one h1 (by omega);show B-4<=x.2.left;omega
theorem HP{m':Mk} (hc:m.ak=m'.ak) (hl:m'.left=m.left)
  (hn:bK (.mk op [] [] mn mx mode n neg) m'.ak 255=true):VP d m (.mk op [] [] mn mx mode n neg,m'):=by
 refine⟨by rw[hc];exact agn _,nU hn (λk hk=>by cases hk),?_,?_,?_⟩
 ·have:=Re.xJ (op:=op) (set:=[]) (mn:=mn) (mx:=mx) (mode:=mode) (n:=n) (neg:=neg) (b:=0) (kids:=[]) (by omega) (λk hk=>by cases hk);show (Re.mk op [] [] mn mx mode n neg).depth<=_;omega
 ·show ((Re.mk op [] [] mn mx mode n neg).size:Int)<=1+(m.left-m'.left);rw[hl];simp [Re.size,Re.bZ]
 ·intro B h1 h2;show B-4<=m'.left;omega
theorem gm (h0:0<=op/\op<=11) (h1:op≠1) (h4:op≠4) (hk:(cr op).1<=kids.length/\((cr op).2<0\/(kids.length:Int)<=(cr op).2))
  (hn:if op=5\/op=6\/op=10 then (1<=n/\n<=ak) else if op=11 then (0<=n/\n<=5) else n=0) (dA:neg=true->op=7\/op=8):bK (.mk op [] kids 0 0 0 n neg) ak 255=true:=by
 refine fz.2 ⟨⟨h0.1,h0.2,hk.1,hk.2⟩,?_,?_,hn,dA⟩
 ·rw[ap (by exact h1)];rfl
 ·rw[ap (by exact h4)];exact⟨rfl,rfl,rfl⟩
theorem KB (h:Wd d m (t m)):Wd d m (lC t m):=by
 unfold lC;simp only;split
 ·have h1:=h.size;have h2:=(t m).1.size_pos;exact⟨h.ak,uw _ _,by rw[AT];omega,by rw[yg];show ((1:Nat):Int)<=m.left-(t m).2.left;omega,h.low,h.high⟩
 ·exact h
theorem Gl (m:Mk):(iH m).2.ak=m.ak/\(iH m).2.left=m.left/\0<=(iH m).1/\(iH m).1<=2:=by
 have hp:=cb m.l m.pos 2 (by omega);unfold iH;simp only;split
 ·refine⟨rfl,rfl,?_,?_⟩ <;> (split <;> simp only[Mk.next] <;> omega)
 ·refine⟨rfl,rfl,?_,?_⟩ <;> simp only[Mk.next] <;> omega
theorem Sa{c:Int} (ht:TT d t c z) (hb:0<=b) (h:m.In b):VP d m (m.rep t):=by
 have hk:=cb m.l m.pos 12 (by omega);have hi:=CU (h.next 12);obtain⟨r1,r2,r3,r4⟩:=Gl (m.next 12).2;have h2:=KB (ht.tok _ (b+1+2) (by omega) hi);simp only[Mk.rep];refine AH h2 (by rw[r1];exact agn _) (by rw[r2];rfl) (fz.2 ⟨⟨by simp [Re.op],by simp [Re.op],by simp [Re.op,cr,Re.kids],by simp [Re.op,cr,Re.kids]⟩,?_,?_,?_,?_⟩)
 ·rw[ap (by simp [Re.op])];rfl
 ·rw[be (by simp [Re.op])];have key:∀i:Nat,i<12->0<=(mo[i]?).getD 0/\(mo[i]?).getD 0<=32/\-1<=(jZ[i]?).getD 0/\(jZ[i]?).getD 0≠0/\(jZ[i]?).getD 0<=32/\(0<(jZ[i]?).getD 0->(mo[i]?).getD 0<=(jZ[i]?).getD 0):=by decide
  obtain⟨k1,k2,k3,k4,k5,k6⟩:=key (pick m.l m.pos 12).toNat (by omega);exact⟨k1,k2,k3,k4,k5,k6,r3,r4⟩
 ·rw[ap (by simp [Re.op]),ap (by simp [Re.op])];rfl
 ·intro h;simp [Re.neg]at h
theorem HI (m:Mk):(eG m).2.left=m.left:=by
 unfold eG;simp only;split
 ·rfl
 ·split
  ·split <;> rfl
  ·rfl
theorem zy{c:Int} (ht:TT d t c z) (hb:0<=b) (h:m.In b):VP d m (m.iJ t):=by
 obtain⟨h1,h2,h3,h4⟩:=zc h;have hl:=HI m;simp only[Mk.iJ];have zH:((eG m).2.kX (max (eG m).2.ak (eG m).1)).In (b+2):=⟨h1.l,h1.p0,h1.p1,h1.l0,h1.l1,by show 0<=max _ _;omega,by have:=h.c1;show max _ _<=4;omega⟩
 have hx:=ht.tok _ (b+2) (by omega) zH;have zF:(eG m).1<=(t ((eG m).2.kX (max (eG m).2.ak (eG m).1))).2.ak:=aho (by show _<=max _ _;omega) hx.ak;refine AH hx (by show m.ak<=max _ _;omega) hl (gm (by omega) (by omega) (by omega) (by simp [cr]) ?_ (by simp));rw[be (.inl rfl)];exact⟨h3,zF⟩
theorem Cp{x:List Re×Mk} (h:FOK d 4 m x) (ho:op=2\/op=3) (hl:2<=x.1.length):VP d m (Re.node op x.1,x.2):=by
 refine⟨h.ak,nU (gm (by omega) (by omega) (by omega) ?_ ?_ (by simp)) h.ok,Re.xJ (b:=d+1) (by omega) h.dep,?_,?_⟩
 ·unfold cr;rw[be ho];exact⟨by show (2:Int)<=_;omega,.inl (by show (-1:Int)<0;omega)⟩
 ·rw[ap (by omega),ap (by omega)]
 ·show ((Re.node op x.1).size:Int)<=_;have:=h.size;simp only[Re.node,Re.size,ag2];show ((1:Nat):Int)+(Re.bZ x.1:Int)<=1+(m.left-x.2.left)
  omega
 ·intro B h1 h2;exact h.Y0 B h1 h2
theorem Ps{c:Int} (ht:TT d t c z) (k:Int) (hb:0<=b) (h:m.In b):VP d m (Mk.node t k m):=by
 have hf:=zN ht 4 0 m b hb h;have hl:=Fo (t:=t) m;have Ja:=ht.c0;unfold Mk.node;split
 ·exact Cp hf (.inl rfl) hl
 split
 ·exact Cp hf (.inr rfl) hl
 split
 ·exact Sa ht hb h
 split
 ·exact zy ht hb h
 split
 ·exact zy ht hb h
 split
 ·have hp:=cb m.l m.pos 6 (by omega);refine HP rfl rfl (gm (by omega) (by omega) (by omega) (by simp [cr]) ?_ (by simp));rw[ap (by omega),be rfl];simp only[Mk.next];omega
 split
 ·have hp:=cb (m.next 3).2.l (m.next 3).2.pos 2 (by omega);have hx:=ht.tok _ (b+2) (by omega) (((h.next 3).next 2).mono (by omega));have As:((m.next 3).2.next 2).1=0\/((m.next 3).2.next 2).1=1:=by simp only[Mk.next]at hp ⊢;omega
  refine AH hx (agn _) rfl (gm ?_ ?_ ?_ ?_ ?_ ?_)
  ·omega
  ·omega
  ·omega
  ·rcases As with e|e <;> rw[e] <;> simp [cr]
  ·rcases As with e|e <;> rw[e] <;> simp
  ·intro _;omega
 split
 ·exact AH (ht.tok m b hb h) (agn _) rfl (gm (by omega) (by omega) (by omega) (by simp [cr]) (by simp) (by simp))
 split
 ·rename_i Bc;have wH:0<m.ak:=Bc.2.2;have hp:=cb m.l m.pos m.ak (by omega);refine HP rfl rfl (gm (by omega) (by omega) (by omega) (by simp [cr]) ?_ (by simp));rw[be (.inr (.inl rfl))];simp only[Mk.next];omega
 split
 ·rename_i Bc;have wH:0<m.ak:=Bc.2.2;have hp:=cb m.l m.pos m.ak (by omega);have h1:=h.next m.ak;have hy:=ht.tok _ (b+1) (by omega) h1;obtain⟨h2,_⟩:=ht.qi _ (b+1) (by omega) h1;have hz:=ht.tok _ (b+1+c) (by omega) h2;have e1:(m.next m.ak).2.ak=m.ak:=rfl;have e2:(m.next m.ak).2.left=m.left:=rfl;simp only;refine⟨aho hy.ak hz.ak,nU (gm (by omega) (by omega) (by omega) (by simp [cr]) ?_ (by simp)) ?_,Re.xJ (b:=d+1) (by omega) ?_,?_,?_⟩
  ·rw[be (.inr (.inr rfl))];have:=aho hy.ak hz.ak;simp only[Mk.next]at this hp ⊢;omega
  ·intro x hx;rcases List.mem_cons.1 hx with rfl|hx
   ·exact Ba hz.ak hy.ok
   ·rw[List.mem_singleton.1 hx];exact hz.ok
  ·intro x hx;rcases List.mem_cons.1 hx with rfl|hx
   ·exact hy.dep
   ·rw[List.mem_singleton.1 hx];exact hz.dep
  ·have a1:=hy.size;have a2:=hz.size;simp only[Re.size,Re.bZ,ag2];omega
  ·intro B TQ hB2;have b1:=hy.one TQ (by omega);have b2:=hz.one (B:=B-1) (by omega) b1;show B-4<=(t (t (m.next m.ak).2).2).2.left;omega
 ·exact Tc d m
theorem tY:∀d,TT d (Mk.tree d) (cD d) (zD d)
 |0=>by
  refine⟨jw 0,by have:=bN 0;omega,yR 0,λm b hb h=>?_⟩;simp only[Mk.tree];have el:(m.less.next 20).2.left=m.left-1:=rfl;have ec:(m.less.next 20).2.ak=m.ak:=rfl;split
  ·have hn:bK (Re.node 0 []) (m.less.next 20).2.ak 255=true:=gm (by omega) (by omega) (by omega) (by simp [cr]) (by simp) (by simp);exact⟨by rw[ec];exact agn _,nU hn (λk hk=>by cases hk),by show (1:Int)<=_;omega,by show ((1:Nat):Int)<=m.left-(m.less.next 20).2.left;omega,λ_=>by show _<=(m.less.next 20).2.left;omega,λ_=>by show _<=(m.less.next 20).2.left;omega⟩
  ·have e1:(m.less.next 20).2.set.2.left=m.left-1:=rfl;exact⟨agn _,uw _ _,by rw[AT];omega,by rw[yg];omega,λ_=>by omega,λ_=>by omega⟩
 |d+1=>by
  refine⟨jw (d+1),by have:=bN (d+1);omega,yR (d+1),λm b hb h=>?_⟩;simp only[Mk.tree];have el:(m.less.next 20).2.left=m.left-1:=rfl;have ec:(m.less.next 20).2.ak=m.ak:=rfl;split
  ·split
   ·have hn:bK (Re.node 0 []) (m.less.next 20).2.ak 255=true:=gm (by omega) (by omega) (by omega) (by simp [cr]) (by simp) (by simp);exact⟨by rw[ec];exact agn _,nU hn (λk hk=>by cases hk),by show (1:Int)<=_;omega,by show ((1:Nat):Int)<=m.left-(m.less.next 20).2.left;omega,λ_=>by show _<=(m.less.next 20).2.left;omega,λ_=>by show _<=(m.less.next 20).2.left;omega⟩
   ·have e1:(m.less.next 20).2.set.2.left=m.left-1:=rfl;exact⟨agn _,uw _ _,by rw[AT];omega,by rw[yg];omega,λ_=>by omega,λ_=>by omega⟩
  ·rename_i Bc;have S8:¬(m.less.next 20).2.left<3:=λhh=>Bc (.inl hh);have hn:=Ps (tY d) (m.less.next 20).1 (b:=b+1+1) (by omega) (h.left.next 20);refine⟨aho (by rw[ec];exact agn _) hn.ak,hn.ok,?_,?_,λhh=>by omega,λ_=>?_⟩
   ·have:=hn.dep;simp only[ag2];omega
   ·have:=hn.size;omega
   ·have:=hn.Y0 (2-4*(d:Int)) (agn _) (by omega);simp only[ag2];omega
theorem zi (l:List Int) (cu most:Int) (hl:∀x∈l,jC x) (h0:0<=most) (h1:most<=100):cC (lN l cu most)=0/\(lN l cu most).re.size<=256:=by
 have zH:(⟨l,0,cu,most,0⟩:Mk).In 0:=⟨hl,by simp,by simp,by simpa using h0,by show most<=_;omega,by simp,by simp⟩
 have h:=(tY 5).tok ⟨l,0,cu,most,0⟩ 0 (by omega) zH;obtain⟨g,_⟩:=(tY 5).qi ⟨l,0,cu,most,0⟩ 0 (by omega) zH;have fF:=h.size;have V2:=h.low;have XV:=h.high;have XP:=h.dep;have fO:=h.ok;have hs:(lN l cu most).re.size<=256:=by show (Mk.tree 5 ⟨l,0,cu,most,0⟩).1.size<=256;simp only at fF V2 XV;omega
 refine⟨?_,hs⟩;unfold cC;rw[ap,ap]
 ·rintro (h'|h'|h')
  ·have:=g.c0;have Ui:(Mk.tree 5 ⟨l,0,cu,most,0⟩).2.ak<0:=h';omega
  ·have:=g.c1;have Ui:9<(Mk.tree 5 ⟨l,0,cu,most,0⟩).2.ak:=h';omega
  ·have Ui:(Mk.tree 5 ⟨l,0,cu,most,0⟩).1.whole (Mk.tree 5 ⟨l,0,cu,most,0⟩).2.ak 255=false:=h';rw[fO]at Ui;cases Ui
 ·rintro (h'|h')
  ·omega
  ·have Ui:24<(Mk.tree 5 ⟨l,0,cu,most,0⟩).1.depth:=h';omega
theorem Ud {top:Int}:∀(l:List (Int×Int)) (p:Int),qG top p l=true->∀s∈l,0<=s.1/\s.1<=top/\0<=s.2/\s.2<=top
 |[],p,h,s,hs=>by cases hs
 |x::l,p,h,s,hs=>by
  simp only[qG,agb,decide_eq_true_eq]at h;rcases List.mem_cons.1 hs with rfl|hs
  ·omega
  ·exact Ud l x.2 h.2 s hs
theorem JS (hc:64<=c) (ht:top<=1114111) (wH:ak<=1000000) (h:bK re ak top=true) (hk:re.kids.length<=c):l5 c re=true:=by
 obtain⟨h1,h2,h3,h4,h5⟩:=fz.1 h;have fx:re.set.length<=64/\∀s∈re.set,jC s.1/\jC s.2:=by
  split at h2
  ·simp only[gZ,agb,decide_eq_true_eq]at h2;refine⟨h2.1,λs hs=>?_⟩;have:=Ud _ _ h2.2 s hs;unfold jC;omega
  ·have hn:re.set=[]:=ago h2;rw[hn];exact⟨by simp,λs hs=>by cases hs⟩
 refine CN.2 ⟨⟨by omega,hk,?_,?_,?_,?_,?_⟩,fx.2⟩
 ·unfold jC;omega
 ·unfold jC;split at h3 <;> omega
 ·unfold jC;split at h3 <;> omega
 ·unfold jC;split at h3 <;> omega
 ·unfold jC;split at h4
  ·omega
  ·split at h4 <;> omega
theorem ER (l:List Int) (cu most:Int) (hl:∀x∈l,jC x) (h0:0<=most) (h1:most<=100):(lN l cu most).small 256:=by
 have zH:(⟨l,0,cu,most,0⟩:Mk).In 0:=⟨hl,by simp,by simp,by simpa using h0,by show most<=_;omega,by simp,by simp⟩
 have h:=(tY 5).tok ⟨l,0,cu,most,0⟩ 0 (by omega) zH;obtain⟨g,_⟩:=(tY 5).qi ⟨l,0,cu,most,0⟩ 0 (by omega) zH;obtain⟨_,hs⟩:=zi l cu most hl h0 h1;have Ja:=g.c0;have Ap:=g.c1;refine⟨?_,hs,by show jC (Mk.tree 5 ⟨l,0,cu,most,0⟩).2.ak;unfold jC;omega⟩;have fO:(lN l cu most).re.whole (Mk.tree 5 ⟨l,0,cu,most,0⟩).2.ak 255=true:=h.ok;revert fO hs;generalize (lN l cu most).re=re;intro hs fO;refine Re.ind (Q:=λre=>re.size<=256->re.whole (Mk.tree 5 ⟨l,0,cu,most,0⟩).2.ak 255=true->re.every (l5 256)=true) (λre ih hs fO=>?_) re hs fO;obtain⟨a1,a2⟩:=(Re.aB re).1 fO;have:=Re.lO re.kids;have:=Re.size_eq re;exact(Re.aB re).2 ⟨JS (by omega) (by omega) (by omega) a1 (by omega),λk hk=>ih k hk (by have:=Re.bL hk;omega) (a2 k hk)⟩
def fT (aN:Bool) (x:Int):Bool:=decide (0<=x)&&decide (x<=gz aN)
def jl (p:ic) (t:List Int) (fuel:Int):Int :=
 if cC p≠0 then cC p else if 65536<t.length then 4 else if t.all (fT p.aN)=false then 1 else if fuel<0\/1099511627776<fuel then 1 else 0
theorem vv {α:Type}{P:α->Bool}{l:List α}{i:Nat}{x:α} (hx:l[i]?=some x) (h:(l.take i).all P=true) (hp:P x=true):(l.take (i+1)).all P=true:=by rw[List.take_add_one,hx,ahf,h];simp [hp]
theorem all_false {α:Type}{P:α->Bool}{l:List α}{i:Nat}{x:α} (hx:l[i]?=some x) (hp:P x=false):l.all P=false:=by rw[agP];intro h;rw[af8]at h;rw[h x (afW hx)]at hp;cases hp
theorem y8 (p:ic) (t:List Int) (fuel:Int) (hf:p.re.bC=true) (hs:p.re.size<=1000000000) (ht:t.length<=1000000000) :
  aO prog 49 [aZ p,.d (al t),i64 fuel] (i64 (jl p t fuel)):=by
 have h1:=oH p hf hs;unfold jl;cases p with
 |mk re ak aN =>
 simp only[aZ,Re.ae re,afR,afU,afQ,afS,i64,iD,bD,bV]at h1;simp only at *;generalize hv:cC ⟨re,ak,aN⟩=v at *;refine an func49 rfl ntmps49 results49 rfl 0 975 (by simp) (by simp) ?_;simp only[zX,simprocAttr,i64,aZ,Re.ae re,bV,iD,bD];refine aj h1 (by simp [ah,ah.go,ai,i64,bV,aM]) (by simp [ah,ah.go,ai,i64,bV,aM]) ?_;simp only[zX,simprocAttr,i64,aZ,bV,iD,bD];by_cases c0:v=0
 case neg =>
  rw[be c0];simp only[zX,simprocAttr,i64,aZ,bV,iD,bD,c0]
 subst c0;rw[ap (by omega)];by_cases c1:65536<t.length
 ·rw[be c1];have XX:(65536:Int)<t.length:=by omega
  simp only[zX,simprocAttr,i64,aZ,bV,iD,bD,gt_iff_lt,XX]
 rw[ap c1];have XX:¬(65536:Int)<t.length:=by omega
 cases aN
 ·simp only[zX,simprocAttr,i64,aZ,bV,iD,bD,gt_iff_lt,XX];refine au (λn e s=>∃i:Nat,n=t.length-i/\i<=t.length/\e 1=.d (al t)/\e 2=i64 fuel/\e 8=i64 (gz false)/\e 9=i64 i/\(t.take i).all (fT false)=true)
   ⟨_,_,_,br.refl,0,rfl,by omega,rfl,rfl,rfl,rfl,by simp⟩ ?_
  rintro n e s ⟨i,rfl,hi,h1,h2,h8,h9,bA⟩;rcases agi i t.length with az|fI
  ·obtain⟨x,hx⟩:∃x,t[i]?=some x:=⟨_,afP az⟩
   have aC:(i:Int)<t.length:=by omega
   simp only[zX,simprocAttr,i64,h1,h2,h8,h9,aC,al,hx,iD];by_cases d1:x<0
   ·simp only[zX,simprocAttr,d1];rw[be (all_false hx (by rw[fT,b6 (by omega)];rfl))]
   ·by_cases d2:gz false<x
    ·simp only[zX,simprocAttr,d1,d2,gt_iff_lt,i64,h1,h2,h8,h9,aC,az,al,hx,iD];rw[be (all_false hx (by rw[fT,b6 (by omega:¬x<=gz false),Bool.and_false]))]
    ·simp only[zX,simprocAttr,d1,d2,gt_iff_lt,i64,h1,h2,h8,h9,aC,az,al,hx,iD];refine⟨t.length-(i+1),_,_,by omega,br.refl,i+1,rfl,az,?_,?_,?_,?_,?_⟩ <;> (try simp only[zU,gj,cQ,dx,eI,reduceIte])
     ·exact h1
     ·exact h2
     ·exact h8
     ·rw[bd _ (by omega)];rfl
     ·exact vv hx bA (by rw[fT,bi (by omega),bi (by omega)];rfl)
  ·have cV:i=t.length:=by omega
   subst cV;have aC:¬(t.length:Int)<t.length:=by omega
   rw[agj]at bA;rw[bA,ap (by decide)];simp only[zX,simprocAttr,i64,h1,h2,h9,aC,al];by_cases d1:fuel<0
   ·simp only[zX,simprocAttr,d1]
   ·by_cases d2:1099511627776<fuel
    ·simp only[zX,simprocAttr,d1,d2,gt_iff_lt,i64,h1,h2]
    ·simp only[zX,simprocAttr,d1,d2,gt_iff_lt,i64,h1,h2]
 ·simp only[zX,simprocAttr,i64,aZ,bV,iD,bD,gt_iff_lt,XX];refine au (λn e s=>∃i:Nat,n=t.length-i/\i<=t.length/\e 1=.d (al t)/\e 2=i64 fuel/\e 8=i64 (gz true)/\e 9=i64 i/\(t.take i).all (fT true)=true)
   ⟨_,_,_,br.refl,0,rfl,by omega,rfl,rfl,rfl,rfl,by simp⟩ ?_
  rintro n e s ⟨i,rfl,hi,h1,h2,h8,h9,bA⟩;rcases agi i t.length with az|fI
  ·obtain⟨x,hx⟩:∃x,t[i]?=some x:=⟨_,afP az⟩
   have aC:(i:Int)<t.length:=by omega
   simp only[zX,simprocAttr,i64,h1,h2,h8,h9,aC,al,hx,iD];by_cases d1:x<0
   ·simp only[zX,simprocAttr,d1];rw[be (all_false hx (by rw[fT,b6 (by omega)];rfl))]
   ·by_cases d2:gz true<x
    ·simp only[zX,simprocAttr,d1,d2,gt_iff_lt,i64,h1,h2,h8,h9,aC,az,al,hx,iD];rw[be (all_false hx (by rw[fT,b6 (by omega:¬x<=gz true),Bool.and_false]))]
    ·simp only[zX,simprocAttr,d1,d2,gt_iff_lt,i64,h1,h2,h8,h9,aC,az,al,hx,iD];refine⟨t.length-(i+1),_,_,by omega,br.refl,i+1,rfl,az,?_,?_,?_,?_,?_⟩ <;> (try simp only[zU,gj,cQ,dx,eI,reduceIte])
     ·exact h1
     ·exact h2
     ·exact h8
     ·rw[bd _ (by omega)];rfl
     ·exact vv hx bA (by rw[fT,bi (by omega),bi (by omega)];rfl)
  ·have cV:i=t.length:=by omega
   subst cV;have aC:¬(t.length:Int)<t.length:=by omega
   rw[agj]at bA;rw[bA,ap (by decide)];simp only[zX,simprocAttr,i64,h1,h2,h9,aC,al];by_cases d1:fuel<0
   ·simp only[zX,simprocAttr,d1]
   ·by_cases d2:1099511627776<fuel
    ·simp only[zX,simprocAttr,d1,d2,gt_iff_lt,i64,h1,h2]
    ·simp only[zX,simprocAttr,d1,d2,gt_iff_lt,i64,h1,h2]
end Go.Proofs.Ytfmdmlfhigocaaa
