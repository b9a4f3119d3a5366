/- A part of the proof (F25 F26 F37 F38 F39 F42 G18). -/
import Derived.Test.YtjjfioalgbecmaaGreatOQ23
set_option linter.unusedSimpArgs false
set_option linter.unusedVariables false
open Nat renaming reduceShiftRight → jN, reduceMod → oN, reduceEqDiff → oV, reduceBEq → pZ
set_option maxRecDepth 100000
set_option maxHeartbeats 80000000
namespace Go.Proofs.YtjjfioalgbecmaaGreat
open Go.VL Go.Proofs.Tryz
variable{b:Int}{k:Int×Int}{na:Bool}{a:Int×Int}{nk:Bool}{n:Int}{op:Int}{mn:Int}{neg:Bool}{mode:Int}{mx:Int}
structure LR (sK:Bool) (p:Int×Int):Prop where
 a0:0<=p.1
 a1:p.1<=1000000
 b0:-1<=p.2
 b1:p.2<=1000000
 ab:p.2=-1\/p.1<=p.2
 nl:sK=true ↔ p.1=0
theorem I2 {a:Int} (h1:-1<=a/\a<=1000000) (h2:-1<=b/\b<=1000000):xC a b=if a<0\/b<0 then -1 else min (a+b) 1000000:=by unfold xC;rw[bG _ ae]
theorem Sf (ha:LR na a) (hk:LR nk k):LR (na&&nk) (xC a.1 k.1,xC a.2 k.2):=by
 obtain⟨a0,a1,b0,b1,ab,nl⟩:=ha;obtain⟨c0,c1,d0,d1,cd,nl'⟩:=hk;have e1:xC a.1 k.1=min (a.1+k.1) 1000000:=by rw[I2 ⟨ae,a1⟩ ⟨ae,c1⟩,bd]
 have e2:=I2 ⟨b0,b1⟩ ⟨d0,d1⟩;refine⟨?_,?_,?_,?_,?_,?_⟩ <;> simp only[e1,e2]
 ·omega
 ·omega
 ·split <;> omega
 ·split <;> omega
 ·split <;> omega
 ·rw[aj5,nl,nl'];omega
theorem F4:∀(l:List (Bool×(Int×Int))) (na:Bool) (a:Int×Int),LR na a->(∀x∈l,LR x.1 x.2) ->
  LR (na&&(l.map (·.1)).all id) ((l.map (·.2)).foldl (λa k=>(xC a.1 k.1,xC a.2 k.2)) a)
 |[],na,a,h,_=>by simpa using h
 |x::l,na,a,h,hl=>by have:=F4 l (na&&x.1) _ (Sf h (hl x ak)) (λy hy=>hl y (by simp [hy]));simpa [Bool.and_assoc]using this
theorem RJ (ha:LR na a) (hk:LR nk k):LR (na||nk) (J1 a k):=by
 obtain⟨a0,a1,b0,b1,ab,nl⟩:=ha;obtain⟨c0,c1,d0,d1,cd,nl'⟩:=hk;refine⟨?_,?_,?_,?_,?_,?_⟩ <;> simp only[J1,CL]
 ·omega
 ·omega
 ·split <;> omega
 ·split <;> omega
 ·split <;> omega
 ·rw[Bool.or_eq_true,nl,nl'];omega
theorem G8:∀(l:List (Bool×(Int×Int))) (na:Bool) (a:Int×Int),LR na a->(∀x∈l,LR x.1 x.2) ->
  LR (na||(l.map (·.1)).any id) ((l.map (·.2)).foldl J1 a)
 |[],na,a,h,_=>by simpa using h
 |x::l,na,a,h,hl=>by have:=G8 l (na||x.1) _ (RJ h (hl x ak)) (λy hy=>hl y (by simp [hy]));simpa [Bool.or_assoc]using this
theorem QK {n:Bool} (h:LR n k):J1 k k=k:=by
 obtain⟨a0,a1,b0,b1,ab,nl⟩:=h;refine Prod.ext ?_ ?_ <;> simp only[J1,CL]
 ·omega
 ·split <;> omega
theorem W2 (h0:0<=b) (h1:b<=1000000) (n0:0<=n) (n1:n<=1000000):kB b n=min (b*n) 1000000:=by
 have hle:b*n<=1000000*1000000:=Int.mul_le_mul h1 n1 n0 ae;have gx:0<=b*n:=ak4 h0 n0;unfold kB;split
 ·rename_i h;rcases h with h|h <;> subst h <;> simp <;> omega
 ·rw[bd,bG _ ae]
theorem Yf (n0:0<n):kB (-1) n=-1:=by unfold kB;rw[bd,sP]
theorem Yd (h:¬b=0):kB b (-1)=-1:=by unfold kB;rw[bd,sP]
theorem LC (n:Int):kB 0 n=0:=by simp [kB]
def Yc (re:Re):Bool:=decide (re.set.length<=10/\re.kids.length<=4/\0<=re.op/\re.op<=11/\(re.op=4->re.kids.length=1/\0<=re.mn/\re.mn<=2/\(re.mx=-1\/(1<=re.mx/\re.mx<=3/\re.mn<=re.mx))) /\
 (re.op=3\/re.op=10\/re.op=5\/re.op=9->re.kids≠[]))
theorem oo {p:Re->Bool}{set:List (Int×Int)}{kids:List Re} (h:p (.mk op set kids mn mx mode n neg)=true) (hk:∀k∈kids,k.every p=true):(Re.mk op set kids mn mx mode n neg).every p=true :=
 (Re.aD _).2 ⟨h,hk⟩
theorem yp {t:Mk->Re×Mk} (ht:∀m,(t m).1.every Yc=true):∀(f:Nat) (i:Int) (m:Mk),(∀k∈(aL t f i m).1,k.every Yc=true)/\(aL t f i m).1.length<=f
 |0,i,m=>by simp [aL]
 |f+1,i,m=>by
  simp only[aL];split
  ·obtain⟨h1,h2⟩:=yp ht f (i+1) (t (m.next 2).2).2;refine⟨λk hk=>?_,cC⟩;rcases List.mem_cons.1 hk with rfl|hk
   ·exact ht _
   ·exact h1 k hk
  ·simp
theorem Lf {t:Mk->Re×Mk} (m:Mk):(aL t 4 0 m).1≠[]:=by have hp:=cb m.l m.pos 2 ae;rw[aL,be (by simp only[Mk.next];omega)];simp
theorem VG (h0:0<=op) (h1:op<=11) (h:op≠4/\op≠3/\op≠10/\op≠5/\op≠9):(Re.mk op [] [] mn mx mode n neg).every Yc=true:=by
 refine oo (bi ⟨by simp [Re.set],by simp [Re.kids],h0,h1,λh'=>absurd h' h.1,λh'=>?_⟩) (λy hy=>by cases hy);obtain⟨_,a,b,c,d⟩:=h;simp only[Re.op]at h';rcases h' with h'|h'|h'|h'
 ·exact absurd h' a
 ·exact absurd h' b
 ·exact absurd h' c
 ·exact absurd h' d
theorem H6 (n m:Int) (hm:1<=m) (hn:l9 n):0<=m8 n m/\m8 n m<m:=by
 unfold l9 at hn;unfold m8;split
 ·exact⟨Int.tmod_nonneg _ ae,Int.tmod_lt_of_pos _ ae⟩
 ·exact⟨Int.tmod_nonneg _ ae,Int.tmod_lt_of_pos _ ae⟩
end Go.Proofs.YtjjfioalgbecmaaGreat
namespace Go.Proofs.YtjjfioalgbecmaaGreat
open Go.VL Go.Proofs.Tryz
variable{c:Nat}{ai:Int}{re:Re}{top:Int}{FY:Int}{op:Int}{n:Int}{set:List (Int×Int)}{mn:Int}{kids:List Re}{neg:Bool}{mode:Int}{mx:Int}{b:Int}{x:Re×Mk}{m:Mk}{t:Mk->Re×Mk}{d:Nat}{z:Int}
instance (n:Int):Decidable (l9 n):=by unfold l9;infer_instance
def w9 (c:Nat) (r:Re):Bool:=decide (r.set.length<=c/\r.kids.length<=c/\l9 r.op/\l9 r.mn/\l9 r.mx/\l9 r.mode/\l9 r.n)&&r.set.all λs=>decide (l9 s.1/\l9 s.2)
structure iM.small (p:iM) (c:Nat):Prop where
 ev:p.re.every (w9 c)=true
 sz:p.re.size<=c
 ai:l9 p.ai
theorem DP{r:Re}:w9 c r=true ↔ (r.set.length<=c/\r.kids.length<=c/\l9 r.op/\l9 r.mn/\l9 r.mx/\l9 r.mode/\l9 r.n)/\∀s∈r.set,l9 s.1/\l9 s.2:=by unfold w9;rw[aj5,decide_eq_true_eq,aj3];exact and_congr Iff.rfl ⟨λh s hs=>of_decide_eq_true (h s hs),λh s hs=>bi (h s hs)⟩
theorem iq {p q:Re->Bool} (h:∀re,p re=true->q re=true) (re:Re) (hp:re.every p=true):re.every q=true:=by revert hp;refine Re.ind (Q:=λre=>re.every p=true->re.every q=true) (λre ih hp=>?_) re;obtain⟨h1,h2⟩:=(Re.aD re).1 hp;exact(Re.aD re).2 ⟨h re h1,λk hk=>ih k hk (h2 k hk)⟩
theorem DX (hc:c<=1000000000) (re:Re) (h:re.every (w9 c)=true):re.dx=true:=by revert h;refine Re.ind (Q:=λre=>re.every (w9 c)=true->re.dx=true) (λre ih h=>?_) re;obtain⟨h1,h2⟩:=(Re.aD re).1 h;obtain⟨⟨a1,a2,_⟩,_⟩:=DP.1 h1;exact(Re.nY re).2 ⟨ae,ae,λk hk=>ih k hk (h2 k hk)⟩
theorem eG:bU re ai top=true ↔
  (0<=re.op/\re.op<=11/\(cr re.op).1<=re.kids.length/\((cr re.op).2<0\/(re.kids.length:Int)<=(cr re.op).2)) /\
  (if re.op=1 then gT re.set top=true else re.set.length=0) /\
  (if re.op=4 then (0<=re.mn/\re.mn<=32/\-1<=re.mx/\re.mx≠0/\re.mx<=32/\(0<re.mx->re.mn<=re.mx)/\0<=re.mode/\re.mode<=2) else (re.mn=0/\re.mx=0/\re.mode=0)) /\
  (if re.op=5\/re.op=6\/re.op=10 then (1<=re.n/\re.n<=ai) else if re.op=11 then (0<=re.n/\re.n<=5) else re.n=0) /\
  (re.neg=true->re.op=7\/re.op=8):=by
 unfold bU;simp only[aj5,decide_eq_true_eq];refine and_congr Iff.rfl (and_congr ?_ (and_congr ?_ (and_congr ?_ ?_)))
 ·split <;> simp
 ·split <;> simp only[decide_eq_true_eq]
 ·split
  ·simp only[decide_eq_true_eq]
  ·split <;> simp only[decide_eq_true_eq]
 ·cases re.neg <;> simp
theorem Kg (h:ai<=FY) (hn:bU re ai top=true):bU re FY top=true:=by
 rw[eG]at *;obtain⟨a,b,c,d,e⟩:=hn;refine⟨a,b,c,?_,e⟩;split
 ·rename_i hh;rw[be hh]at d;omega
 ·rename_i hh;rw[ap hh]at d;exact d
theorem Cg (h:ai<=FY) (hn:re.whole ai top=true):re.whole FY top=true :=
 iq (λr hr=>Kg h hr) re hn
theorem n9 (h:bU (.mk op set kids mn mx mode n neg) ai top=true) (hk:∀k∈kids,k.whole ai top=true):(Re.mk op set kids mn mx mode n neg).whole ai top=true :=
 (Re.aD _).2 ⟨h,hk⟩
theorem Re.yk (hb:0<=b) (hk:∀k∈kids,k.depth<=b):(Re.mk op set kids mn mx mode n neg).depth<=b+1:=by rw[Re.tc];have:=nG (b:=b) (kids.map Re.depth) 0 hb (λx hx=>by obtain⟨k,sT,rfl⟩:=List.mem_map.1 hx;exact hk k sT);show xn (kids.map Re.depth)+1<=_;unfold xn;omega
structure ZB (d:Nat) (m:Mk) (x:Re×Mk):Prop where
 ai:m.ai<=x.2.ai
 ok:x.1.whole x.2.ai 255=true
 dep:x.1.depth<=d+1
 size:(x.1.size:Int)<=m.left-x.2.left
 low:m.left<=3->m.left-1<=x.2.left
 high:4<=m.left->2-4*(d:Int)<=x.2.left
structure TT (d:Nat) (t:Mk->Re×Mk) (c z:Int):Prop where
 eF:Good t c z
 c0:0<=c
 z1:1<=z
 tok:∀m b,0<=b->Mk.In m b->ZB d m (t m)
theorem ZB.one {d:Nat} (h:ZB d m x) {B:Int} (h1:B<=2-4*(d:Int)) (h2:B<=m.left):B-1<=x.2.left:=by have:=h.low;have:=h.high;omega
structure FOK (d f:Nat) (m:Mk) (x:List Re×Mk):Prop where
 ai:m.ai<=x.2.ai
 ok:∀k∈x.1,k.whole x.2.ai 255=true
 dep:∀k∈x.1,k.depth<=d+1
 size:(Re.dw x.1:Int)<=m.left-x.2.left
 bnd:∀B:Int,B<=2-4*(d:Int)->B<=m.left->B-f<=x.2.left
theorem AR {d:Nat}{t:Mk->Re×Mk}{c z:Int} (ht:TT d t c z):∀(f:Nat) (i:Int) (m:Mk) (b:Int),0<=b->m.In b->FOK d f m (aL t f i m)
 |0,i,m,b,hb,h=>⟨akc _,by simp [aL],by simp [aL],by simp [aL,Re.dw],λB _ h2=>by simpa [aL]using h2⟩
 |f+1,i,m,b,hb,h=>by
  simp only[aL];split
  ·have h1:=h.next 2;have h2:=ht.tok _ (b+1) ae h1;obtain⟨h3,_⟩:=ht.eF _ (b+1) ae h1;have h4:=AR ht f (i+1) _ (b+1+c) (by have:=ht.c0;omega) h3;refine⟨ald h2.ai h4.ai,?_,?_,?_,?_⟩
   ·intro k hk;rcases List.mem_cons.1 hk with rfl|hk
    ·exact Cg h4.ai h2.ok
    ·exact h4.ok k hk
   ·intro k hk;rcases List.mem_cons.1 hk with rfl|hk
    ·exact h2.dep
    ·exact h4.dep k hk
   ·have a:=h2.size;have a':=h4.size;simp only[Re.dw,akC];have e:(m.next 2).2.left=m.left:=rfl;omega
   ·intro B Xj hB2;have:=h4.bnd (B-1) ae (h2.one Xj hB2);simp only[akC];omega
  ·exact⟨akc _,ak,ak,by simp [Re.dw,Mk.next],λB _ h2=>by simp only[Mk.next];omega⟩
theorem Hr (m:Mk):2<=(aL t 4 0 m).1.length:=by have hp:=cb m.l m.pos 2 ae;rw[aL,be (by simp only[Mk.next];omega)];simp only[ajW];generalize (t (m.next 2).2).2=m';have hp':=cb m'.l m'.pos 2 ae;rw[aL,be (by simp only[Mk.next];omega)];simp
structure Zd (d:Nat) (m:Mk) (x:Re×Mk):Prop where
 ai:m.ai<=x.2.ai
 ok:x.1.whole x.2.ai 255=true
 dep:x.1.depth<=d+2
 size:(x.1.size:Int)<=1+(m.left-x.2.left)
 bnd:∀B:Int,B<=2-4*(d:Int)->B<=m.left->B-4<=x.2.left
theorem vi (m:Mk) (ai:Int):m.set.1.whole ai 255=true:=by
 have hs:∀i:Nat,gT ((qs[i]?).getD []) 255=true:=by
  intro i;by_cases hi:i<8
  ·have:∀i,i<8->gT ((qs[i]?).getD []) 255=true:=by decide
   exact this i hi
  ·rw[List.getElem?_eq_none (by simp [qs];omega)];rfl
 refine n9 (eG.2 ?_) (λk hk=>by cases hk);refine⟨⟨by simp [Re.op],by simp [Re.op],by simp [Re.op,cr],by simp [Re.op,cr,Re.kids]⟩,?_,?_,?_,?_⟩
 ·show (if (1:Int)=1 then gT ((qs[(pick m.l m.pos 15 / 2).toNat]?).getD []) 255=true else _);rw[be rfl];exact hs _
 ·rw[ap (by simp [Re.op])];exact⟨rfl,rfl,rfl⟩
 ·rw[ap (by simp [Re.op]),ap (by simp [Re.op])];rfl
 ·intro h;simp [Re.neg]at h
theorem BV (m:Mk):m.set.1.depth=1:=rfl
theorem yM (m:Mk):m.set.1.size=1:=rfl
theorem Wv (d:Nat) (m:Mk):Zd d m m.set :=
 ⟨akc _,vi m _,by rw[BV];omega,by rw[yM];simp [Mk.set,Mk.next],λB _ h=>by simp only[Mk.set,Mk.next];omega⟩
theorem BI{m':Mk} (h:ZB d m' x) (hc:m.ai<=m'.ai) (hl:m'.left=m.left)
  (hn:bU (.mk op [] [x.1] mn mx mode n neg) x.2.ai 255=true):Zd d m (.mk op [] [x.1] mn mx mode n neg,x.2):=by
 refine⟨ald hc h.ai,n9 hn (λk hk=>by rw[List.mem_singleton.1 hk];exact h.ok),?_,?_,?_⟩
 ·exact Re.yk (b:=d+1) ae (λk hk=>by rw[List.mem_singleton.1 hk];exact h.dep)
 ·show ((Re.mk op [] [x.1] mn mx mode n neg).size:Int)<=1+(m.left-x.2.left)
  rw[tg];have:=h.size;omega
 ·intro B h1 h2;have:=h.one h1 ae;show B-4<=x.2.left;omega
theorem JM{m':Mk} (hc:m.ai=m'.ai) (hl:m'.left=m.left)
  (hn:bU (.mk op [] [] mn mx mode n neg) m'.ai 255=true):Zd d m (.mk op [] [] mn mx mode n neg,m'):=by
 refine⟨by rw[hc];exact akc _,n9 hn (λk hk=>by cases hk),?_,?_,?_⟩
 ·have:=Re.yk (op:=op) (set:=[]) (mn:=mn) (mx:=mx) (mode:=mode) (n:=n) (neg:=neg) (b:=0) (kids:=[]) ae (λk hk=>by cases hk);show (Re.mk op [] [] mn mx mode n neg).depth<=_;omega
 ·show ((Re.mk op [] [] mn mx mode n neg).size:Int)<=1+(m.left-m'.left);rw[hl];simp [Re.size,Re.dw]
 ·intro B h1 h2;show B-4<=m'.left;omega
theorem gm (h0:0<=op/\op<=11) (h1:op≠1) (h4:op≠4) (hk:(cr op).1<=kids.length/\((cr op).2<0\/(kids.length:Int)<=(cr op).2))
  (hn:if op=5\/op=6\/op=10 then (1<=n/\n<=ai) else if op=11 then (0<=n/\n<=5) else n=0) (eM:neg=true->op=7\/op=8):bU (.mk op [] kids 0 0 0 n neg) ai 255=true:=by
 refine eG.2 ⟨⟨h0.1,h0.2,hk.1,hk.2⟩,?_,?_,hn,eM⟩
 ·rw[ap (by exact h1)];rfl
 ·rw[ap (by exact h4)];exact⟨rfl,rfl,rfl⟩
theorem MC (h:ZB d m (t m)):ZB d m (jx t m):=by
 unfold jx;simp only;split
 ·have h1:=h.size;have h2:=(t m).1.size_pos;exact⟨h.ai,vi _ _,by rw[BV];omega,by rw[yM];show ((1:Nat):Int)<=m.left-(t m).2.left;omega,h.low,h.high⟩
 ·exact h
theorem Ij (m:Mk):(eK m).2.ai=m.ai/\(eK m).2.left=m.left/\0<=(eK m).1/\(eK m).1<=2:=by
 have hp:=cb m.l m.pos 2 ae;unfold eK;simp only;split
 ·refine⟨rfl,rfl,?_,?_⟩ <;> (split <;> simp only[Mk.next] <;> omega)
 ·refine⟨rfl,rfl,?_,?_⟩ <;> simp only[Mk.next] <;> omega
theorem Vj{c:Int} (ht:TT d t c z) (hb:0<=b) (h:m.In b):Zd d m (m.rep t):=by
 have hk:=cb m.l m.pos 12 ae;have hi:=DY (h.next 12);obtain⟨r1,r2,r3,r4⟩:=Ij (m.next 12).2;have h2:=MC (ht.tok _ (b+1+2) ae hi);simp only[Mk.rep];refine BI h2 (by rw[r1];exact akc _) (by rw[r2];rfl) (eG.2 ⟨⟨by simp [Re.op],by simp [Re.op],by simp [Re.op,cr,Re.kids],by simp [Re.op,cr,Re.kids]⟩,?_,?_,?_,?_⟩)
 ·rw[ap (by simp [Re.op])];rfl
 ·rw[be (by simp [Re.op])];have key:∀i:Nat,i<12->0<=(jM[i]?).getD 0/\(jM[i]?).getD 0<=32/\-1<=(gR[i]?).getD 0/\(gR[i]?).getD 0≠0/\(gR[i]?).getD 0<=32/\(0<(gR[i]?).getD 0->(jM[i]?).getD 0<=(gR[i]?).getD 0):=aU;obtain⟨k1,k2,k3,k4,k5,k6⟩:=key (pick m.l m.pos 12).toNat ae;exact⟨k1,k2,k3,k4,k5,k6,r3,r4⟩
 ·rw[ap (by simp [Re.op]),ap (by simp [Re.op])];rfl
 ·intro h;simp [Re.neg]at h
theorem JE (m:Mk):(eh m).2.left=m.left:=by
 unfold eh;simp only;split
 ·rfl
 ·split
  ·split <;> rfl
  ·rfl
theorem Ay{c:Int} (ht:TT d t c z) (hb:0<=b) (h:m.In b):Zd d m (m.iI t):=by
 obtain⟨h1,h2,h3,h4⟩:=Ad h;have hl:=JE m;simp only[Mk.iI];have wF:((eh m).2.lz (max (eh m).2.ai (eh m).1)).In (b+2):=⟨h1.l,h1.p0,h1.p1,h1.l0,h1.l1,by show 0<=max _ _;omega,by have:=h.c1;show max _ _<=4;omega⟩
 have hx:=ht.tok _ (b+2) ae wF;have qf:(eh m).1<=(t ((eh m).2.lz (max (eh m).2.ai (eh m).1))).2.ai:=ald (by show _<=max _ _;omega) hx.ai;refine BI hx (by show m.ai<=max _ _;omega) hl (gm ae ae ae (by simp [cr]) ?_ ak);rw[be (.inl rfl)];exact⟨h3,qf⟩
theorem Dw{x:List Re×Mk} (h:FOK d 4 m x) (ho:op=2\/op=3) (hl:2<=x.1.length):Zd d m (Re.node op x.1,x.2):=by
 refine⟨h.ai,n9 (gm ae ae ae ?_ ?_ ak) h.ok,Re.yk (b:=d+1) ae h.dep,?_,?_⟩
 ·unfold cr;rw[be ho];exact⟨by show (2:Int)<=_;omega,.inl (by show (-1:Int)<0;omega)⟩
 ·rw[bd,bd]
 ·show ((Re.node op x.1).size:Int)<=_;have:=h.size;simp only[Re.node,Re.size,akC];show ((1:Nat):Int)+(Re.dw x.1:Int)<=1+(m.left-x.2.left)
  omega
 ·intro B h1 h2;exact h.bnd B h1 h2
theorem Sj{c:Int} (ht:TT d t c z) (k:Int) (hb:0<=b) (h:m.In b):Zd d m (Mk.node t k m):=by
 have hf:=AR ht 4 0 m b hb h;have hl:=Hr (t:=t) m;have OX:=ht.c0;unfold Mk.node;split
 ·exact Dw hf (.inl rfl) hl
 split
 ·exact Dw hf (.inr rfl) hl
 split
 ·exact Vj ht hb h
 split
 ·exact Ay ht hb h
 split
 ·exact Ay ht hb h
 split
 ·have hp:=cb m.l m.pos 6 ae;refine JM rfl rfl (gm ae ae ae (by simp [cr]) ?_ ak);rw[bd,be rfl];simp only[Mk.next];omega
 split
 ·have hp:=cb (m.next 3).2.l (m.next 3).2.pos 2 ae;have hx:=ht.tok _ (b+2) ae (((h.next 3).next 2).mono ae);have Fh:((m.next 3).2.next 2).1=0\/((m.next 3).2.next 2).1=1:=by simp only[Mk.next]at hp ⊢;omega
  refine BI hx (akc _) rfl (gm ?_ ?_ ?_ ?_ ?_ ?_)
  ·omega
  ·omega
  ·omega
  ·rcases Fh with e|e <;> rw[e] <;> simp [cr]
  ·rcases Fh with e|e <;> rw[e] <;> simp
  ·intro _;omega
 split
 ·exact BI (ht.tok m b hb h) (akc _) rfl (gm ae ae ae (by simp [cr]) ak ak)
 split
 ·rename_i Ci;have yT:0<m.ai:=Ci.2.2;have hp:=cb m.l m.pos m.ai ae;refine JM rfl rfl (gm ae ae ae (by simp [cr]) ?_ ak);rw[be (.inr (.inl rfl))];simp only[Mk.next];omega
 split
 ·rename_i Ci;have yT:0<m.ai:=Ci.2.2;have hp:=cb m.l m.pos m.ai ae;have h1:=h.next m.ai;have hy:=ht.tok _ (b+1) ae h1;obtain⟨h2,_⟩:=ht.eF _ (b+1) ae h1;have hz:=ht.tok _ (b+1+c) ae h2;have e1:(m.next m.ai).2.ai=m.ai:=rfl;have e2:(m.next m.ai).2.left=m.left:=rfl;simp only;refine⟨ald hy.ai hz.ai,n9 (gm ae ae ae (by simp [cr]) ?_ ak) ?_,Re.yk (b:=d+1) ae ?_,?_,?_⟩
  ·rw[be (.inr (.inr rfl))];have:=ald hy.ai hz.ai;simp only[Mk.next]at this hp ⊢;omega
  ·intro x hx;rcases List.mem_cons.1 hx with rfl|hx
   ·exact Cg hz.ai hy.ok
   ·rw[List.mem_singleton.1 hx];exact hz.ok
  ·intro x hx;rcases List.mem_cons.1 hx with rfl|hx
   ·exact hy.dep
   ·rw[List.mem_singleton.1 hx];exact hz.dep
  ·have a1:=hy.size;have a2:=hz.size;simp only[Re.size,Re.dw,akC];omega
  ·intro B Xj hB2;have b1:=hy.one Xj ae;have b2:=hz.one (B:=B-1) ae b1;show B-4<=(t (t (m.next m.ai).2).2).2.left;omega
 ·exact Wv d m
theorem yd:∀d,TT d (Mk.tree d) (cD d) (zD d)
 |0=>by
  refine⟨jL 0,by have:=kP 0;omega,zw 0,λm b hb h=>?_⟩;simp only[Mk.tree];have el:(m.less.next 20).2.left=m.left-1:=rfl;have ec:(m.less.next 20).2.ai=m.ai:=rfl;split
  ·have hn:bU (Re.node 0 []) (m.less.next 20).2.ai 255=true:=gm ae ae ae (by simp [cr]) ak ak;exact⟨by rw[ec];exact akc _,n9 hn (λk hk=>by cases hk),by show (1:Int)<=_;omega,by show ((1:Nat):Int)<=m.left-(m.less.next 20).2.left;omega,λ_=>by show _<=(m.less.next 20).2.left;omega,λ_=>by show _<=(m.less.next 20).2.left;omega⟩
  ·have e1:(m.less.next 20).2.set.2.left=m.left-1:=rfl;exact⟨akc _,vi _ _,by rw[BV];omega,by rw[yM];omega,λ_=>ae,λ_=>ae⟩
 |d+1=>by
  refine⟨jL (d+1),by have:=kP (d+1);omega,zw (d+1),λm b hb h=>?_⟩;simp only[Mk.tree];have el:(m.less.next 20).2.left=m.left-1:=rfl;have ec:(m.less.next 20).2.ai=m.ai:=rfl;split
  ·split
   ·have hn:bU (Re.node 0 []) (m.less.next 20).2.ai 255=true:=gm ae ae ae (by simp [cr]) ak ak;exact⟨by rw[ec];exact akc _,n9 hn (λk hk=>by cases hk),by show (1:Int)<=_;omega,by show ((1:Nat):Int)<=m.left-(m.less.next 20).2.left;omega,λ_=>by show _<=(m.less.next 20).2.left;omega,λ_=>by show _<=(m.less.next 20).2.left;omega⟩
   ·have e1:(m.less.next 20).2.set.2.left=m.left-1:=rfl;exact⟨akc _,vi _ _,by rw[BV];omega,by rw[yM];omega,λ_=>ae,λ_=>ae⟩
  ·rename_i Ci;have Ro:¬(m.less.next 20).2.left<3:=λhh=>Ci (.inl hh);have hn:=Sj (yd d) (m.less.next 20).1 (b:=b+1+1) ae (h.left.next 20);refine⟨ald (by rw[ec];exact akc _) hn.ai,hn.ok,?_,?_,λhh=>ae,λ_=>?_⟩
   ·have:=hn.dep;simp only[akC];omega
   ·have:=hn.size;omega
   ·have:=hn.bnd (2-4*(d:Int)) (akc _) ae;simp only[akC];omega
theorem Al (l:List Int) (cL most:Int) (hl:∀x∈l,l9 x) (h0:0<=most) (h1:most<=100):cS (ma l cL most)=0/\(ma l cL most).re.size<=256:=by
 have wF:(⟨l,0,cL,most,0⟩:Mk).In 0:=⟨hl,ak,ak,by simpa using h0,by show most<=_;omega,ak,ak⟩
 have h:=(yd 5).tok ⟨l,0,cL,most,0⟩ 0 ae wF;obtain⟨g,_⟩:=(yd 5).eF ⟨l,0,cL,most,0⟩ 0 ae wF;have eZ:=h.size;have Zo:=h.low;have abx:=h.high;have ain:=h.dep;have gL:=h.ok;have hs:(ma l cL most).re.size<=256:=by show (Mk.tree 5 ⟨l,0,cL,most,0⟩).1.size<=256;simp only at eZ Zo abx;omega
 refine⟨?_,hs⟩;unfold cS;rw[ap,ap]
 ·rintro (h'|h'|h')
  ·have:=g.c0;have Wo:(Mk.tree 5 ⟨l,0,cL,most,0⟩).2.ai<0:=h';omega
  ·have:=g.c1;have Wo:9<(Mk.tree 5 ⟨l,0,cL,most,0⟩).2.ai:=h';omega
  ·have Wo:(Mk.tree 5 ⟨l,0,cL,most,0⟩).1.whole (Mk.tree 5 ⟨l,0,cL,most,0⟩).2.ai 255=false:=h';rw[gL]at Wo;cases Wo
 ·rintro (h'|h')
  ·omega
  ·have Wo:24<(Mk.tree 5 ⟨l,0,cL,most,0⟩).1.depth:=h';omega
theorem XE {top:Int}:∀(l:List (Int×Int)) (p:Int),jS top p l=true->∀s∈l,0<=s.1/\s.1<=top/\0<=s.2/\s.2<=top
 |[],p,h,s,hs=>by cases hs
 |x::l,p,h,s,hs=>by
  simp only[jS,aj5,decide_eq_true_eq]at h;rcases List.mem_cons.1 hs with rfl|hs
  ·omega
  ·exact XE l x.2 h.2 s hs
theorem LZ (hc:64<=c) (ht:top<=1114111) (yT:ai<=1000000) (h:bU re ai top=true) (hk:re.kids.length<=c):w9 c re=true:=by
 obtain⟨h1,h2,h3,h4,h5⟩:=eG.1 h;have eO:re.set.length<=64/\∀s∈re.set,l9 s.1/\l9 s.2:=by
  split at h2
  ·simp only[gT,aj5,decide_eq_true_eq]at h2;refine⟨h2.1,λs hs=>?_⟩;have:=XE _ _ h2.2 s hs;unfold l9;omega
  ·have hn:re.set=[]:=akj h2;rw[hn];exact⟨ak,λs hs=>by cases hs⟩
 refine DP.2 ⟨⟨ae,hk,?_,?_,?_,?_,?_⟩,eO.2⟩
 ·unfold l9;omega
 ·unfold l9;split at h3 <;> omega
 ·unfold l9;split at h3 <;> omega
 ·unfold l9;split at h3 <;> omega
 ·unfold l9;split at h4
  ·omega
  ·split at h4 <;> omega
theorem GV (l:List Int) (cL most:Int) (hl:∀x∈l,l9 x) (h0:0<=most) (h1:most<=100):(ma l cL most).small 256:=by
 have wF:(⟨l,0,cL,most,0⟩:Mk).In 0:=⟨hl,ak,ak,by simpa using h0,by show most<=_;omega,ak,ak⟩
 have h:=(yd 5).tok ⟨l,0,cL,most,0⟩ 0 ae wF;obtain⟨g,_⟩:=(yd 5).eF ⟨l,0,cL,most,0⟩ 0 ae wF;obtain⟨_,hs⟩:=Al l cL most hl h0 h1;have OX:=g.c0;have wJ:=g.c1;refine⟨?_,hs,by show l9 (Mk.tree 5 ⟨l,0,cL,most,0⟩).2.ai;unfold l9;omega⟩;have gL:(ma l cL most).re.whole (Mk.tree 5 ⟨l,0,cL,most,0⟩).2.ai 255=true:=h.ok;revert gL hs;generalize (ma l cL most).re=re;intro hs gL;refine Re.ind (Q:=λre=>re.size<=256->re.whole (Mk.tree 5 ⟨l,0,cL,most,0⟩).2.ai 255=true->re.every (w9 256)=true) (λre ih hs gL=>?_) re hs gL;obtain⟨a1,a2⟩:=(Re.aD re).1 gL;have:=Re.pR re.kids;have:=Re.size_eq re;exact(Re.aD re).2 ⟨LZ ae ae ae a1 ae,λk hk=>ih k hk (by have:=Re.de hk;omega) (a2 k hk)⟩
def gK (aB:Bool) (x:Int):Bool:=decide (0<=x)&&decide (x<=gH aB)
def ib (p:iM) (t:List Int) (fuel:Int):Int :=
 if cS p≠0 then cS p else if 65536<t.length then 4 else if t.all (gK p.aB)=false then 1 else if fuel<0\/1099511627776<fuel then 1 else 0
theorem v8 {α:Type}{P:α->Bool}{l:List α}{i:Nat}{x:α} (hx:l[i]?=some x) (h:(l.take i).all P=true) (hp:P x=true):(l.take (i+1)).all P=true:=by rw[List.take_add_one,hx,akZ,h];simp [hp]
theorem all_false {α:Type}{P:α->Bool}{l:List α}{i:Nat}{x:α} (hx:l[i]?=some x) (hp:P x=false):l.all P=false:=by rw[akE];intro h;rw[aj3]at h;rw[h x (List.mem_of_getElem? hx)]at hp;cases hp
theorem z6 (p:iM) (t:List Int) (fuel:Int) (hf:p.re.dx=true) (hs:p.re.size<=1000000000) (ht:t.length<=1000000000) :
  aM prog 89 [bI p,.d (ao t),i64 fuel] (i64 (ib p t fuel)):=by
 have h1:=I9 p hf hs;unfold ib;cases p with
 |mk re ai aB =>
 simp only[bI,Re.ah re,ajR,ajV,ajN,ajO,i64,iD,bD,bV]at h1;simp only at *;generalize hv:cS ⟨re,ai,aB⟩=v at *;refine bo func89 ntmps89 results89 0 975 ?_;simp only[zI,simprocAttr,bI,Re.ah re,bV,iD,bD];refine dY h1 ?_;simp only[zI,simprocAttr,bI,bV,iD,bD];by_cases c0:v=0
 case neg =>
  rw[be c0];simp only[zI,simprocAttr,bI,bV,iD,bD,c0]
 subst c0;rw[bd];by_cases c1:65536<t.length
 ·rw[be c1];have K6:(65536:Int)<t.length:=ae;simp only[zI,simprocAttr,bI,bV,iD,bD,gt_iff_lt,K6]
 rw[ap c1];have K6:¬(65536:Int)<t.length:=ae;cases aB
 ·simp only[zI,simprocAttr,bI,bV,iD,bD,gt_iff_lt,K6];refine aw (λn e s=>∃i:Nat,n=t.length-i/\i<=t.length/\e 1=.d (ao t)/\e 2=i64 fuel/\e 8=i64 (gH false)/\e 9=i64 i/\(t.take i).all (gK false)=true)
   ⟨_,_,_,bA.refl,0,rfl,ae,rfl,rfl,rfl,rfl,ak⟩ ?_
  rintro n e s ⟨i,rfl,hi,h1,h2,h8,h9,bX⟩;rcases akd i t.length with az|gx
  ·obtain⟨x,hx⟩:∃x,t[i]?=some x:=cc az;have aA:(i:Int)<t.length:=ae;simp only[zI,simprocAttr,h1,h2,h8,h9,aA,ao,hx,iD];by_cases d1:x<0
   ·simp only[zX,simprocAttr,d1];rw[be (all_false hx (by rw[gK,ce ae];rfl))]
   ·by_cases d2:gH false<x
    ·simp only[zX,simprocAttr,d1,d2,gt_iff_lt,i64,h1,h2,h8,h9,aA,az,ao,hx,iD];rw[be (all_false hx (by rw[gK,ce (by omega:¬x<=gH false),Bool.and_false]))]
    ·simp only[zX,simprocAttr,d1,d2,gt_iff_lt,i64,h1,h2,h8,h9,aA,az,ao,hx,iD];refine⟨t.length-(i+1),_,_,ae,bA.refl,i+1,rfl,az,?_,?_,?_,?_,?_⟩ <;> (try simp only[zU,pZ,jN,oN,oV,reduceIte])
     ·exact h1
     ·exact h2
     ·exact h8
     ·rw[bG _ ae];rfl
     ·exact v8 hx bX (by rw[gK,bi ae,bi ae];rfl)
  ·have dX:i=t.length:=by omega
   subst dX;have aA:¬(t.length:Int)<t.length:=ae;rw[akg]at bX;rw[bX,ap aU];simp only[zI,simprocAttr,h1,h2,h9,aA,ao];by_cases d1:fuel<0
   ·simp only[zX,simprocAttr,d1]
   ·by_cases d2:1099511627776<fuel
    ·simp only[zX,simprocAttr,d1,d2,gt_iff_lt,i64,h1,h2]
    ·simp only[zX,simprocAttr,d1,d2,gt_iff_lt,i64,h1,h2]
 ·simp only[zI,simprocAttr,bI,bV,iD,bD,gt_iff_lt,K6];refine aw (λn e s=>∃i:Nat,n=t.length-i/\i<=t.length/\e 1=.d (ao t)/\e 2=i64 fuel/\e 8=i64 (gH true)/\e 9=i64 i/\(t.take i).all (gK true)=true)
   ⟨_,_,_,bA.refl,0,rfl,ae,rfl,rfl,rfl,rfl,ak⟩ ?_
  rintro n e s ⟨i,rfl,hi,h1,h2,h8,h9,bX⟩;rcases akd i t.length with az|gx
  ·obtain⟨x,hx⟩:∃x,t[i]?=some x:=cc az;have aA:(i:Int)<t.length:=ae;simp only[zI,simprocAttr,h1,h2,h8,h9,aA,ao,hx,iD];by_cases d1:x<0
   ·simp only[zX,simprocAttr,d1];rw[be (all_false hx (by rw[gK,ce ae];rfl))]
   ·by_cases d2:gH true<x
    ·simp only[zX,simprocAttr,d1,d2,gt_iff_lt,i64,h1,h2,h8,h9,aA,az,ao,hx,iD];rw[be (all_false hx (by rw[gK,ce (by omega:¬x<=gH true),Bool.and_false]))]
    ·simp only[zX,simprocAttr,d1,d2,gt_iff_lt,i64,h1,h2,h8,h9,aA,az,ao,hx,iD];refine⟨t.length-(i+1),_,_,ae,bA.refl,i+1,rfl,az,?_,?_,?_,?_,?_⟩ <;> (try simp only[zU,pZ,jN,oN,oV,reduceIte])
     ·exact h1
     ·exact h2
     ·exact h8
     ·rw[bG _ ae];rfl
     ·exact v8 hx bX (by rw[gK,bi ae,bi ae];rfl)
  ·have dX:i=t.length:=by omega
   subst dX;have aA:¬(t.length:Int)<t.length:=ae;rw[akg]at bX;rw[bX,ap aU];simp only[zI,simprocAttr,h1,h2,h9,aA,ao];by_cases d1:fuel<0
   ·simp only[zX,simprocAttr,d1]
   ·by_cases d2:1099511627776<fuel
    ·simp only[zX,simprocAttr,d1,d2,gt_iff_lt,i64,h1,h2]
    ·simp only[zX,simprocAttr,d1,d2,gt_iff_lt,i64,h1,h2]
end Go.Proofs.YtjjfioalgbecmaaGreat
