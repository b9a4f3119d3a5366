/- A part of the proof (K7 K8 K9 K10 G54 G55 E1). -/
import Derived.Test.YtjjfioalgbecmaaGreatOQ43
set_option linter.unusedSimpArgs false
set_option linter.unusedVariables false
set_option maxRecDepth 100000
set_option maxHeartbeats 80000000
namespace Go.Proofs.YtjjfioalgbecmaaGreat
open Go.VL Go.Proofs.Tryz
variable{re:Re}{ai:Int}{top:Int}{u:Int}{S:Int}{t:Mk->Re×Mk}
def iS (re:Re):Prop:=re.op=0\/re.op=1\/re.op=11
theorem Yh (hs:re.every ll=true) (h:re.fh<=8500) (ho:¬iS re):Re.cF re.kids<=8500:=by
 obtain⟨dM,jA⟩:=(Re.aD re).1 hs;obtain⟨hc,wH,IL,h0⟩:=gY.1 dM;obtain⟨hb,Oc⟩:=ga.1 hc;obtain⟨q1,q2,q3,q4,q5,q6,q7,q8,q9,jc⟩:=fU.1 hb;have hz:=(jl (l:=re.kids) (λk hk=>fw k (jh (jA k hk)))).1;have hu:=z8 (re:=re) ae;unfold iS at ho;generalize Re.cF re.kids=z at *;rw[bd]at hu;by_cases o3:re.op=3
 ·rw[be o3]at hu;have:=q2 o3;omega
 rw[ap o3]at hu;by_cases o5:re.op=5
 ·rw[be o5]at hu;omega
 rw[ap o5]at hu;by_cases o4:re.op=4
 ·rw[be o4]at hu;by_cases om:re.mx=-1
  ·rw[be om]at hu;have:1*z<=(re.mn+1)*z:=akp ae ae;omega
  ·rw[ap om]at hu;have hm:=(Oc o4).resolve_left om;have:1*z<=re.mx*z:=akp ae ae;omega
 ·rw[ap o4]at hu;omega
theorem J3 (hs:re.every ll=true) (h:re.fh<=8500) (ho:¬iS re):∀k∈re.kids,k.fh<=8500:=λk hk =>
 ald (wQ (λx hx=>(fw x (jh (((Re.aD re).1 hs).2 x hx))).1) hk) (Yh hs h ho)
theorem Jv (hc:ai<=9) (hn:bU re ai top=true) (hk:re.kids.length<=1000):zK re=true:=by
 obtain⟨⟨a1,a2,a3,a4⟩,b,c,d,e⟩:=eG.1 hn;have eO:re.set.length<=64:=by
  split at b
  ·unfold gT at b;rw[aj5]at b;exact of_decide_eq_true b.1
  ·omega
 have Yu:0<=re.n/\re.n<=9:=by
  split at d
  ·omega
  ·split at d <;> omega
 have fJ:(re.op=4\/re.op=5->1<=re.kids.length)/\(re.op=3->2<=re.kids.length):=by
  unfold cr at a3;refine⟨λh=>?_,λh=>?_⟩
  ·rw[bd,sP]at a3;simp only at a3;omega
  ·rw[sP]at a3;simp only at a3;omega
 have hm:0<=re.mn/\re.mn<=32/\-1<=re.mx/\re.mx<=32/\(re.mx=-1\/re.mx=0\/re.mn<=re.mx)/\(re.op=4->re.mx=-1\/1<=re.mx/\re.mn<=re.mx):=by
  split at c
  ·omega
  ·omega
 exact ga.2 ⟨fU.2 ⟨fJ.1,fJ.2,hk,ae,hm.1,hm.2.1,hm.2.2.1,hm.2.2.2.1,hm.2.2.2.2.1,by unfold l9;omega,ae,ae⟩,hm.2.2.2.2.2⟩
theorem HH (hc:ai<=9) (re:Re) (hw:re.whole ai top=true) (hz:re.size<=1000):re.every zK=true:=by revert hw hz;refine Re.ind (Q:=λre=>re.whole ai top=true->re.size<=1000->re.every zK=true) (λre ih hw hz=>?_) re;obtain⟨h1,h2⟩:=(Re.aD re).1 hw;have hl:=Re.pR re.kids;have hs:=Re.size_eq re;exact(Re.aD re).2 ⟨Jv hc h1 ae,λk hk=>ih k hk (h2 k hk) (by have:=Re.de hk;omega)⟩
theorem Iv (hc:ai<=9) (re:Re) (hw:re.whole ai top=true) (hz:re.size<=1000):∀a,re.comp a=true->re.every ll=true:=by
 revert hw hz;refine Re.ind (Q:=λre=>re.whole ai top=true->re.size<=1000->∀a,re.comp a=true->re.every ll=true) (λre ih hw hz a ha=>?_) re;obtain⟨h1,h2⟩:=(Re.aD re).1 hw;have hl:=Re.pR re.kids;have hs:=Re.size_eq re;have hsh:=Jv hc h1 ae;obtain⟨⟨a1,a2,a3,a4⟩,_⟩:=eG.1 h1;rw[Re.nz]at ha;split at ha
 ·cases ha
 ·split at ha
  ·cases ha
  ·split at ha
   ·cases ha
   ·rename_i c1 c2 c3;rw[aj3]at ha;refine(Re.aD re).2 ⟨gY.2 ⟨hsh,ae,λh=>?_,λh=>?_⟩,λk hk=>ih k hk (h2 k hk) (by have:=Re.de hk;omega) _ (ha k hk)⟩
    ·unfold cr at a3 a4;rw[bd,sP]at a3 a4;simp only at a3 a4;omega
    ·unfold cr at a4;rw[bd,bd,bd]at a4;simp only at a4;exact akj ae
def Kf:bM:=⟨0,0,0,0,[]⟩
def fH (p:iM):dk:=⟨p.re.code 0++[Kf],p.ai,p.aB⟩
def ZT (c:Bool) (re:Re):Bool:=decide ((re.op=0\/re.op=1\/re.op=2\/re.op=3\/re.op=4\/re.op=5\/re.op=11)/\(re.op=4->re.mode≠2/\Re.mZ re.kids=false)/\(re.op=5->c=true))
theorem SH (re:Re):re.every (ZT false)=true->∀a,re.comp a=true:=by
 refine Re.ind (Q:=λre=>re.every (ZT false)=true->∀a,re.comp a=true) (λre ih h a=>?_) re;obtain⟨h1,h2⟩:=(Re.aD re).1 h;obtain⟨q1,q2,q3⟩:=of_decide_eq_true h1;have q5:re.op≠5:=λh=>by have:=q3 h;cases this
 rw[Re.nz,ap (by rintro ⟨o,hm⟩;obtain⟨x,y⟩:=q2 o;rcases hm with hm|hm;exact x hm;rw[y]at hm;cases hm),ap (λh=>q5 h.1),bd,ap q5,aj3];exact λk hk=>ih k hk (h2 k hk) a
structure Ym (u:Int):Prop where
 refs:kg .and .i64 u 1<=0
 conds:kg .and .i64 u 2<=0
 looks:kg .and .i64 u 4<=0
 atoms:kg .and .i64 u 8<=0
 loops:kg .and .i64 u 32=0
def Np (u:Int):Bool:=decide (0<kg .and .i64 u 64)
def TP (u S:Int) (x:Re×Mk):Prop:=x.2.cL=u/\0<=x.1.fh/\x.1.fh<=S/\x.1.every (ZT (Np u))=true
theorem Iz (hS:1<=S) (m:Mk) (h:m.cL=u):TP u S m.set:=by
 refine⟨h,?_,?_,?_⟩
 ·show 0<=kD 1 0 0 _ _;unfold kD;omega
 ·show kD 1 0 0 _ _<=S;unfold kD;omega
 ·exact oo (bi ⟨.inr (.inl rfl),λh=>absurd (show (1:Int)=4 from h) aU,λh=>absurd (show (1:Int)=5 from h) aU⟩) (λk hk=>by cases hk)
theorem N3 (hS:1<=S) (m:Mk) (h:m.cL=u):TP u S (Re.node 0 [],m):=by
 refine⟨h,?_,?_,?_⟩
 ·show 0<=kD 0 0 0 _ _;simp [kD,Re.cF];decide
 ·show kD 0 0 0 _ _<=S;simp [kD,Re.cF];omega
 ·exact oo (bi ⟨.inl rfl,λh=>absurd h aU,λh=>absurd h aU⟩) (λk hk=>by cases hk)
theorem Oh {t:Mk->Re×Mk}{u S:Int} (ht:∀m,m.cL=u->TP u S (t m)):∀(f:Nat) (i:Int) (m:Mk),m.cL=u->(aL t f i m).2.cL=u/\0<=Re.cF (aL t f i m).1/\Re.cF (aL t f i m).1<=f*S/\(∀k∈(aL t f i m).1,k.every (ZT (Np u))=true)
 |0,i,m,h=>⟨h,by simp [aL,Re.cF],by simp [aL,Re.cF],λk hk=>by simp [aL]at hk⟩
 |f+1,i,m,h=>by
  simp only[aL];have h1:=ht (m.next 2).2 h;obtain⟨a1,a2,a3,a4⟩:=Oh ht f (i+1) (t (m.next 2).2).2 h1.1;have hS:0<=S:=ald h1.2.1 h1.2.2.1;split
  ·refine⟨a1,?_,?_,λk hk=>?_⟩
   ·simp only[Re.cF];have:=h1.2.1;omega
   ·simp only[Re.cF];have:=h1.2.2.1;push_cast;rw[Int.add_mul];omega
   ·rcases List.mem_cons.1 hk with rfl|hk
    ·exact h1.2.2.2
    ·exact a4 k hk
  ·refine⟨h,by simp [Re.cF],?_,λk hk=>by cases hk⟩;have:0<=((f+1:Nat):Int)*S:=ak4 ae hS;simpa [Re.cF]using this
theorem T1 {t:Mk->Re×Mk}{op mn mx mode n:Int}{neg:Bool}{x:Re×Mk} (h:TP u S x) (ho:op=4\/op=5) (h0:0<=mn) (h4:op=4->mode≠2/\x.1.sK=false/\0<=mn/\mn<=2/\(mx=-1\/(1<=mx/\mx<=3/\mn<=mx))) (h5:op=5->Np u=true) :
  TP u (4*S+6) (.mk op [] [x.1] mn mx mode n neg,x.2):=by
 obtain⟨a1,a2,a3,a4⟩:=h;have e:(Re.mk op [] [x.1] mn mx mode n neg).fh=kD op mn mx 1 (x.1.fh+0):=rfl;rw[Int.add_zero]at e;refine⟨a1,?_,?_,?_⟩
 ·show 0<=(Re.mk op [] [x.1] mn mx mode n neg).fh;rw[e];exact AA ae a2 h0 (λo=>by have:=h4 o;omega)
 ·show (Re.mk op [] [x.1] mn mx mode n neg).fh<=_;rw[e];unfold kD;generalize x.1.fh=z at *;rcases ho with rfl|rfl
  ·obtain⟨b1,b2,b3,b4,b5⟩:=h4 rfl;have h1:(mn+1)*z<=3*z:=akp ae a2;have h2:mx=-1\/mx*z<=3*z:=by
    rcases b5 with b5|b5
    ·exact .inl b5
    ·exact .inr (akp ae a2)
   split <;> omega
  ·omega
 ·refine oo (bi ⟨?_,λo=>?_,λo=>h5 o⟩) (λk hk=>by rw[List.mem_singleton.1 hk];exact a4)
  ·show op=0\/op=1\/op=2\/op=3\/op=4\/op=5\/op=11;omega
  ·exact⟨(h4 o).1,(h4 o).2.1⟩
theorem Ls {m:Mk} (h:kg .and .i64 m.cL 8<=0):(eK m).1≠2/\(eK m).2.cL=m.cL:=by have h8:m.has 8=false:=ce ae;unfold eK;have hx:(m.next 2).2.has 8=m.has 8:=rfl;simp only[h8,ajY,if_false];have:=cb m.l m.pos 2 ae;exact⟨by simp only[Mk.next];omega,rfl⟩
theorem XS (hu:Ym u) (hS:1<=S) (ht:∀m,m.cL=u->TP u S (t m)) (m:Mk) (h:m.cL=u):TP u (4*S+6) (m.rep t):=by
 have hk:=cb m.l m.pos 12 ae;have key:∀i:Nat,i<12->0<=(jM[i]?).getD 0/\(jM[i]?).getD 0<=2/\((gR[i]?).getD 0=-1\/(1<=(gR[i]?).getD 0/\(gR[i]?).getD 0<=3/\(jM[i]?).getD 0<=(gR[i]?).getD 0)):=aU;have key:=key (pick m.l m.pos 12).toNat ae;have hm:=Ls (m:=(m.next 12).2) (by show kg .and .i64 m.cL 8<=0;rw[h];exact hu.atoms);have vA:TP u S (jx t (eK (m.next 12).2).2)/\(jx t (eK (m.next 12).2).2).1.sK=false:=by
  have h1:=ht (eK (m.next 12).2).2 (hm.2.trans h);unfold jx;simp only;rw[h1.1,hu.loops];by_cases hn:(t (eK (m.next 12).2).2).1.sK=true
  ·rw[be ⟨rfl,hn⟩];exact⟨Iz hS _ h1.1,rfl⟩
  ·rw[ap (λh=>hn h.2)];exact⟨h1,by simpa using hn⟩
 exact T1 (t:=t) vA.1 (.inl rfl) key.1 (λ_=>⟨hm.1,vA.2,key.1,key.2.1,key.2.2⟩) (λo=>absurd o aU)
theorem VM (hu:Ym u) (hS:1<=S) (ht:∀m,m.cL=u->TP u S (t m)) (k:Int) (m:Mk) (h:m.cL=u):TP u (4*S+6) (Mk.node t k m):=by
 obtain⟨k1,k2,k3,k4⟩:=Oh ht 4 0 m h;have k5:=(yp (t:=λm=>(Re.node 0 [],m)) (λm=>VG ae ae aU) 4 0 m).2;have ahe:((aL t 4 0 m).1.length:Int)<=4:=by
  have:∀(f:Nat) (i:Int) (m:Mk),(aL t f i m).1.length<=f:=by
   intro f;induction f with
   |zero=>intro i m;simp [aL]
   |succ f ih =>
    intro i m;simp only[aL];split
    ·simp;exact ih _ _
    ·simp
  have:=this 4 0 m;omega
 have aiD:1<=((aL t 4 0 m).1.length:Int):=by have:=Lf (t:=t) m;have:=List.length_pos_iff.2 this;omega
 have kids:∀op:Int,(op=2\/op=3)->TP u (4*S+6) (Re.node op (aL t 4 0 m).1,(aL t 4 0 m).2):=λop ho=>by
  have e:(Re.node op (aL t 4 0 m).1).fh=kD op 0 0 (aL t 4 0 m).1.length (Re.cF (aL t 4 0 m).1):=rfl;refine⟨k1,?_,?_,?_⟩
  ·show 0<=(Re.node op (aL t 4 0 m).1).fh;rw[e];unfold kD;omega
  ·show (Re.node op (aL t 4 0 m).1).fh<=_;rw[e];unfold kD;have:((4:Nat):Int)*S=4*S:=rfl;omega
  ·refine oo (bi ⟨?_,λo=>?_,λo=>?_⟩) k4
   ·show op=0\/op=1\/op=2\/op=3\/op=4\/op=5\/op=11;omega
   ·have o:op=4:=o;omega
   ·have o:op=5:=o;omega
 have big:∀x,TP u S x->TP u (4*S+6) x:=λx hx=>⟨hx.1,hx.2.1,by have:=hx.2.2.1;omega,hx.2.2.2⟩
 have has:∀b,m.has b=true->¬kg .and .i64 u b<=0:=λb hb=>by have:=of_decide_eq_true hb;rw[h]at this;omega
 have cap:m.has 64=true->TP u (4*S+6) (m.iI t):=λhc=>by
  have hcb:Np u=true:=by have:=of_decide_eq_true hc;rw[h]at this;exact bi this
  have hcu:(eh m).2.cL=u:=by
   unfold eh;simp only;split
   ·exact h
   ·split
    ·split <;> exact h
    ·exact h
  exact T1 (t:=t) (ht _ hcu) (.inr rfl) (akc _) (λo=>absurd o aU) (λ_=>hcb)
 unfold Mk.node;split
 ·exact kids 2 (.inl rfl)
 split
 ·exact kids 3 (.inr rfl)
 split
 ·exact XS hu hS ht m h
 split
 ·rename_i hc;exact cap hc.2
 split
 ·rename_i hc;exact cap hc.2
 split
 ·refine⟨h,?_,?_,?_⟩
  ·show 0<=kD 11 0 0 _ _;unfold kD;omega
  ·show kD 11 0 0 _ _<=_;unfold kD;omega
  ·exact oo (bi ⟨by simp [Re.op],λh=>absurd (show (11:Int)=4 from h) aU,λh=>absurd (show (11:Int)=5 from h) aU⟩) (λk hk=>by cases hk)
 split
 ·rename_i hc;exact absurd hu.looks (has 4 hc.2)
 split
 ·rename_i hc;exact absurd hu.atoms (has 8 hc.2)
 split
 ·rename_i hc;exact absurd hu.refs (has 1 hc.2.1)
 split
 ·rename_i hc;exact absurd hu.conds (has 2 hc.2.1)
 ·exact big _ (Iz hS m h)
def sD:Nat->Int
 |0=>1
 |d+1=>4*sD d+6
theorem Ak:∀d,1<=sD d
 |0=>by simp [sD]
 |d+1=>by have:=Ak d;simp only[sD];omega
theorem Oi {u:Int} (hu:Ym u):∀(d:Nat) (m:Mk),m.cL=u->TP u (sD d) (Mk.tree d m)
 |0,m,h=>by
  simp only[Mk.tree];split
  ·exact N3 (Ak 0) _ h
  ·exact Iz (Ak 0) _ h
 |d+1,m,h=>by
  simp only[Mk.tree];split
  ·split
   ·exact N3 (Ak _) _ h
   ·exact Iz (Ak _) _ h
  ·exact VM hu (Ak d) (λm=>Oi hu d m) _ _ h
theorem X7 (l:List Int) (u most:Int) (hu:Ym u):0<=(ma l u most).re.fh/\(ma l u most).re.fh<=4000/\(ma l u most).re.every (ZT (Np u))=true:=by obtain⟨_,h1,h2,h3⟩:=Oi hu 5 ⟨l,0,u,most,0⟩ rfl;exact⟨h1,ald h2 aU,h3⟩
def FA (F F':Int) (st st':bO) (b:Bool) (o:Option (Bool×bO)):Prop :=
 st.steps<=st'.steps/\(st'.empty=true->b=true/\F<st'.steps)/\(st.steps<=F'->(st'.steps<=F'->o=some (b,st'))/\(F'<st'.steps->∃s2,o=some (true,s2)/\s2.empty=true))
inductive ETask where
 |run (g:Goal) (i:Int) (c:aH)
 |rep (re:Re) (k:Int) (nx:Goal) (i:Int) (c:aH)
 |node (re:Re) (nx:Goal) (i:Int) (c:aH)
 |body (re:Re) (nx:Goal) (i:Int) (c:aH)
 |alt (l:List Re) (nx:Goal) (i:Int) (c:aH)
 |behind (re kid:Re) (nx:Goal) (i:Int) (c:aH) (j:Nat)
def bO.sub (st:bO):bO:=⟨st.steps,false,[],[]⟩
def bO.Nr (st x:bO):bO:={ st with steps:=x.steps,empty:=x.empty }
def O0 (i:Int):Goal:=.mk 4 (.mk 0 [] [] 0 0 0 0 false) 0 i .nil
inductive e8 (t:List Int) (F:Int):Int->ETask->bO->Bool->bO->Prop where
 |found {most:Int}{i:Int}{c:aH}{st:bO} (h0:0<=i) (h1:i<=t.length) (hl:st.ai.length=st.ends.length) (oT:st.ends.length<2000000000000):e8 t F most (.run .nil i c) st (decide (0<=most)&&decide (most<=(st.ends.length:Int)+1)) { st with ends:=st.ends++[i],ai:=st.ai++[c] }
 |tree {most kind k f i:Int}{re:Re}{nx:Goal}{c:aH}{st st':bO}{b:Bool} (vd:kind≠1) (FX:kind≠2) (HX:kind≠3) (hk4:kind≠4) (h0:0<=i) (h1:i<=t.length) (h:e8 t F most (.node re nx i c) st b st'):e8 t F most (.run (.mk kind re k f nx) i c) st b st'
 |agO {most k f i:Int}{re:Re}{nx:Goal}{c:aH}{st st':bO}{b:Bool} (h0:0<=i) (h1:i<=t.length) (h:e8 t F most (.rep re k nx i c) st b st'):e8 t F most (.run (.mk 1 re k f nx) i c) st b st'
 |stay {most k f i:Int}{re:Re}{nx:Goal}{c:aH}{st:bO} (h0:0<=i) (h1:i<=t.length) (hk:re.mn<=k) (hi:i=f):e8 t F most (.run (.mk 2 re k f nx) i c) st false st
 |iter {most k f i:Int}{re:Re}{nx:Goal}{c:aH}{st st':bO}{b:Bool} (h0:0<=i) (h1:i<=t.length) (hk:¬(re.mn<=k/\i=f)) (m7:0<=k) (vd:k<=10000000000000) (h:e8 t F most (.run (.mk 1 re (k+1) 0 nx) i c) st b st'):e8 t F most (.run (.mk 2 re k f nx) i c) st b st'
 |save {most k f i:Int}{re:Re}{nx:Goal}{c:aH}{st st':bO}{b:Bool} (h0:0<=i) (h1:i<=t.length) (h:e8 t F most (.run nx i (qy c re.n f i)) st b st'):e8 t F most (.run (.mk 3 re k f nx) i c) st b st'
 |here {most k f i:Int}{re:Re}{nx:Goal}{c:aH}{st st':bO}{b:Bool} (h0:0<=i) (h1:i<=t.length) (hi:i=f) (h:e8 t F most (.run nx i c) st b st'):e8 t F most (.run (.mk 4 re k f nx) i c) st b st'
 |gone {most k f i:Int}{re:Re}{nx:Goal}{c:aH}{st:bO} (h0:0<=i) (h1:i<=t.length) (hi:i≠f):e8 t F most (.run (.mk 4 re k f nx) i c) st false st
 |aco {most k i:Int}{re:Re}{nx:Goal}{c:aH}{st x:bO}{b:Bool} (hm:re.mode=2) (h:e8 t F 1 (.run (.mk 1 (re.fo 0) 0 0 .nil) i c) st.sub b x) (hx:x.empty=true):e8 t F most (.rep re k nx i c) st true (st.Nr x)
 |aeD {most k i:Int}{re:Re}{nx:Goal}{c:aH}{st x:bO}{b:Bool} (hm:re.mode=2) (h:e8 t F 1 (.run (.mk 1 (re.fo 0) 0 0 .nil) i c) st.sub b x) (hx:x.empty=false) (he:x.ends=[]):e8 t F most (.rep re k nx i c) st false (st.Nr x)
 |ac9 {most k i e:Int}{re:Re}{nx:Goal}{c d:aH}{le:List Int}{ld:List aH}{st x st':bO}{b b':Bool} (hm:re.mode=2) (h:e8 t F 1 (.run (.mk 1 (re.fo 0) 0 0 .nil) i c) st.sub b x) (hx:x.empty=false) (he:x.ends=e::le) (hd:x.ai=d::ld) (h2:e8 t F most (.run nx e d) (st.Nr x) b' st'):e8 t F most (.rep re k nx i c) st b' st'
 |aep {most k i:Int}{re:Re}{nx:Goal}{c:aH}{st:bO} (hm:re.mode≠2) (hs:0<=st.steps) (he:(st.step F).empty=true):e8 t F most (.rep re k nx i c) st true (st.step F)
 |aeo {most k i:Int}{re kid:Re}{l:List Re}{nx:Goal}{c:aH}{st st':bO}{b:Bool} (hm:re.mode≠2) (hs:0<=st.steps) (he:(st.step F).empty=false) (fJ:re.kids=kid::l) (hk:k<re.mn) (h:e8 t F most (.run (.mk 0 kid 0 0 (.mk 2 re k i nx)) i c) (st.step F) b st'):e8 t F most (.rep re k nx i c) st b st'
 |adi {most k i:Int}{re kid:Re}{l:List Re}{nx:Goal}{c:aH}{st st':bO}{b:Bool} (hm:re.mode≠2) (hs:0<=st.steps) (he:(st.step F).empty=false) (fJ:re.kids=kid::l) (hk:¬k<re.mn) (hx:¬(re.mx=-1\/k<re.mx)) (h:e8 t F most (.run nx i c) (st.step F) b st'):e8 t F most (.rep re k nx i c) st b st'
 |agZ {most k i:Int}{re kid:Re}{l:List Re}{nx:Goal}{c:aH}{st st':bO} (hm:re.mode=1) (hs:0<=st.steps) (he:(st.step F).empty=false) (fJ:re.kids=kid::l) (hk:¬k<re.mn) (hx:re.mx=-1\/k<re.mx) (h:e8 t F most (.run nx i c) (st.step F) true st'):e8 t F most (.rep re k nx i c) st true st'
 |afW {most k i:Int}{re kid:Re}{l:List Re}{nx:Goal}{c:aH}{st s2 st':bO}{b:Bool} (hm:re.mode=1) (hs:0<=st.steps) (he:(st.step F).empty=false) (fJ:re.kids=kid::l) (hk:¬k<re.mn) (hx:re.mx=-1\/k<re.mx) (h:e8 t F most (.run nx i c) (st.step F) false s2)
   (h2:e8 t F most (.run (.mk 0 kid 0 0 (.mk 2 re k i nx)) i c) s2 b st'):e8 t F most (.rep re k nx i c) st b st'
 |afL {most k i:Int}{re kid:Re}{l:List Re}{nx:Goal}{c:aH}{st st':bO} (hm:re.mode≠2) (I5:re.mode≠1) (hs:0<=st.steps) (he:(st.step F).empty=false) (fJ:re.kids=kid::l) (hk:¬k<re.mn) (hx:re.mx=-1\/k<re.mx) (h:e8 t F most (.run (.mk 0 kid 0 0 (.mk 2 re k i nx)) i c) (st.step F) true st'):e8 t F most (.rep re k nx i c) st true st'
 |agI {most k i:Int}{re kid:Re}{l:List Re}{nx:Goal}{c:aH}{st s2 st':bO}{b:Bool} (hm:re.mode≠2) (I5:re.mode≠1) (hs:0<=st.steps) (he:(st.step F).empty=false) (fJ:re.kids=kid::l) (hk:¬k<re.mn) (hx:re.mx=-1\/k<re.mx) (h:e8 t F most (.run (.mk 0 kid 0 0 (.mk 2 re k i nx)) i c) (st.step F) false s2)
   (h2:e8 t F most (.run nx i c) s2 b st'):e8 t F most (.rep re k nx i c) st b st'
 |acQ {most i:Int}{re:Re}{nx:Goal}{c:aH}{st st':bO}{b:Bool} (ho:re.op=4) (h0:0<=i) (h1:i<=t.length) (h:e8 t F most (.rep re 0 nx i c) st b st'):e8 t F most (.node re nx i c) st b st'
 |ac3 {most i:Int}{re:Re}{nx:Goal}{c:aH}{st:bO} (ho:re.op≠4) (hs:0<=st.steps) (he:(st.step F).empty=true):e8 t F most (.node re nx i c) st true (st.step F)
 |node {most i:Int}{re:Re}{nx:Goal}{c:aH}{st st':bO}{b:Bool} (ho:re.op≠4) (hs:0<=st.steps) (he:(st.step F).empty=false) (h:e8 t F most (.body re nx i c) (st.step F) b st'):e8 t F most (.node re nx i c) st b st'
 |empty {most i:Int}{re:Re}{nx:Goal}{c:aH}{st st':bO}{b:Bool} (ho:re.op ∉ ([1,2,3,5,6,7,8,9,10,11]:List Int)) (h:e8 t F most (.run nx i c) st b st'):e8 t F most (.body re nx i c) st b st'
 |ad1 {most i:Int}{re:Re}{nx:Goal}{c:aH}{st st':bO}{b:Bool} (ho:re.op=1) (hi:i<t.length) (hs:ED re.set (mG t i)=true) (h:e8 t F most (.run nx (i+1) c) st b st'):e8 t F most (.body re nx i c) st b st'
 |afN {most i:Int}{re:Re}{nx:Goal}{c:aH}{st:bO} (ho:re.op=1) (hn:¬(i<t.length/\ED re.set (mG t i)=true)):e8 t F most (.body re nx i c) st false st
 |cat {most i:Int}{re:Re}{nx:Goal}{c:aH}{st st':bO}{b:Bool} (ho:re.op=2) (h:e8 t F most (.run (rB re.kids nx) i c) st b st'):e8 t F most (.body re nx i c) st b st'
 |alt {most i:Int}{re:Re}{nx:Goal}{c:aH}{st st':bO}{b:Bool} (ho:re.op=3) (h:e8 t F most (.alt re.kids nx i c) st b st'):e8 t F most (.body re nx i c) st b st'
 |aeI {most i:Int}{nx:Goal}{c:aH}{st:bO}:e8 t F most (.alt [] nx i c) st false st
 |ag7 {most i:Int}{kid:Re}{l:List Re}{nx:Goal}{c:aH}{st st':bO} (h:e8 t F most (.run (.mk 0 kid 0 0 nx) i c) st true st'):e8 t F most (.alt (kid::l) nx i c) st true st'
 |J1 {most i:Int}{kid:Re}{l:List Re}{nx:Goal}{c:aH}{st s2 st':bO}{b:Bool} (h:e8 t F most (.run (.mk 0 kid 0 0 nx) i c) st false s2) (h2:e8 t F most (.alt l nx i c) s2 b st'):e8 t F most (.alt (kid::l) nx i c) st b st'
 |cap {most i:Int}{re kid:Re}{l:List Re}{nx:Goal}{c:aH}{st st':bO}{b:Bool} (ho:re.op=5) (fJ:re.kids=kid::l) (h:e8 t F most (.run (.mk 0 kid 0 0 (.mk 3 re 0 i nx)) i c) st b st'):e8 t F most (.body re nx i c) st b st'
 |ac4 {most i:Int}{re:Re}{nx:Goal}{c:aH}{st:bO} (ho:re.op=6) (hx:(cK c re.n).1<0):e8 t F most (.body re nx i c) st false st
 |acz {most i:Int}{re:Re}{nx:Goal}{c:aH}{st:bO} (ho:re.op=6) (hx:¬(cK c re.n).1<0) (dV:¬(cK c re.n).2<(cK c re.n).1) (h2:(cK c re.n).2<=t.length) (hl:t.length<i+(cK c re.n).2-(cK c re.n).1):e8 t F most (.body re nx i c) st false st
 |ad5 {most i:Int}{re:Re}{nx:Goal}{c:aH}{st st':bO}{b:Bool} (ho:re.op=6) (hx:¬(cK c re.n).1<0) (dV:¬(cK c re.n).2<(cK c re.n).1) (h2:(cK c re.n).2<=t.length) (hl:¬t.length<i+(cK c re.n).2-(cK c re.n).1) (hs:sk t (cK c re.n).1 i ((cK c re.n).2-(cK c re.n).1).toNat=true)
   (h:e8 t F most (.run nx (i+(cK c re.n).2-(cK c re.n).1) c) st b st'):e8 t F most (.body re nx i c) st b st'
 |agW {most i:Int}{re:Re}{nx:Goal}{c:aH}{st:bO} (ho:re.op=6) (hx:¬(cK c re.n).1<0) (dV:¬(cK c re.n).2<(cK c re.n).1) (h2:(cK c re.n).2<=t.length) (hl:¬t.length<i+(cK c re.n).2-(cK c re.n).1) (hs:sk t (cK c re.n).1 i ((cK c re.n).2-(cK c re.n).1).toNat=false):e8 t F most (.body re nx i c) st false st
 |aao {most i:Int}{re kid:Re}{l:List Re}{nx:Goal}{c:aH}{st x:bO}{b:Bool} (ho:re.op=7) (fJ:re.kids=kid::l) (h:e8 t F 1 (.run (.mk 0 kid 0 0 .nil) i c) st.sub b x) (hx:x.empty=true):e8 t F most (.body re nx i c) st true (st.Nr x)
 |acm {most i:Int}{re kid:Re}{l:List Re}{nx:Goal}{c:aH}{st x:bO}{b:Bool} (ho:re.op=7) (fJ:re.kids=kid::l) (h:e8 t F 1 (.run (.mk 0 kid 0 0 .nil) i c) st.sub b x) (hx:x.empty=false) (he:x.ends=[]) (hn:re.neg=false):e8 t F most (.body re nx i c) st false (st.Nr x)
 |Yj {most i:Int}{re kid:Re}{l:List Re}{nx:Goal}{c:aH}{st x st':bO}{b b':Bool} (ho:re.op=7) (fJ:re.kids=kid::l) (h:e8 t F 1 (.run (.mk 0 kid 0 0 .nil) i c) st.sub b x) (hx:x.empty=false) (he:x.ends=[]) (hn:re.neg=true) (h2:e8 t F most (.run nx i c) (st.Nr x) b' st'):e8 t F most (.body re nx i c) st b' st'
 |aa1 {most i e:Int}{re kid:Re}{l:List Re}{nx:Goal}{c d:aH}{le:List Int}{ld:List aH}{st x st':bO}{b b':Bool} (ho:re.op=7) (fJ:re.kids=kid::l) (h:e8 t F 1 (.run (.mk 0 kid 0 0 .nil) i c) st.sub b x) (hx:x.empty=false) (he:x.ends=e::le) (hd:x.ai=d::ld) (hn:re.neg=false) (h2:e8 t F most (.run nx i d) (st.Nr x) b' st'):e8 t F most (.body re nx i c) st b' st'
 |W0 {most i e:Int}{re kid:Re}{l:List Re}{nx:Goal}{c d:aH}{le:List Int}{ld:List aH}{st x:bO}{b:Bool} (ho:re.op=7) (fJ:re.kids=kid::l) (h:e8 t F 1 (.run (.mk 0 kid 0 0 .nil) i c) st.sub b x) (hx:x.empty=false) (he:x.ends=e::le) (hd:x.ai=d::ld) (hn:re.neg=true):e8 t F most (.body re nx i c) st false (st.Nr x)
 |behind {most i:Int}{re kid:Re}{l:List Re}{nx:Goal}{c:aH}{st st':bO}{b:Bool} (ho:re.op=8) (fJ:re.kids=kid::l) (he:st.empty=false) (h:e8 t F most (.behind re kid nx i c (i.toNat+1)) st b st'):e8 t F most (.body re nx i c) st b st'
 |ah0 {most i:Int}{re kid:Re}{nx:Goal}{c:aH}{st:bO} (hn:re.neg=false):e8 t F most (.behind re kid nx i c 0) st false st
 |acu {most i:Int}{re kid:Re}{nx:Goal}{c:aH}{st st':bO}{b:Bool} (hn:re.neg=true) (h:e8 t F most (.run nx i c) st b st'):e8 t F most (.behind re kid nx i c 0) st b st'
 |aga {most i:Int}{j:Nat}{re kid:Re}{nx:Goal}{c:aH}{st x:bO}{b:Bool} (h:e8 t F 1 (.run (.mk 0 kid 0 0 (O0 i)) j c) st.sub b x) (hx:x.empty=true):e8 t F most (.behind re kid nx i c (j+1)) st true (st.Nr x)
 |agl {most i e:Int}{j:Nat}{re kid:Re}{nx:Goal}{c d:aH}{le:List Int}{ld:List aH}{st x st':bO}{b b':Bool} (h:e8 t F 1 (.run (.mk 0 kid 0 0 (O0 i)) j c) st.sub b x) (hx:x.empty=false) (he:x.ends=e::le) (hd:x.ai=d::ld) (hn:re.neg=false) (h2:e8 t F most (.run nx i d) (st.Nr x) b' st'):e8 t F most (.behind re kid nx i c (j+1)) st b' st'
 |aaF {most i e:Int}{j:Nat}{re kid:Re}{nx:Goal}{c d:aH}{le:List Int}{ld:List aH}{st x:bO}{b:Bool} (h:e8 t F 1 (.run (.mk 0 kid 0 0 (O0 i)) j c) st.sub b x) (hx:x.empty=false) (he:x.ends=e::le) (hd:x.ai=d::ld) (hn:re.neg=true):e8 t F most (.behind re kid nx i c (j+1)) st false (st.Nr x)
 |afb {most i:Int}{j:Nat}{re kid:Re}{nx:Goal}{c:aH}{st x st':bO}{b b':Bool} (h:e8 t F 1 (.run (.mk 0 kid 0 0 (O0 i)) j c) st.sub b x) (hx:x.empty=false) (he:x.ends=[]) (h2:e8 t F most (.behind re kid nx i c j) (st.Nr x) b' st'):e8 t F most (.behind re kid nx i c (j+1)) st b' st'
 |acj {most i:Int}{re kid:Re}{l:List Re}{nx:Goal}{c:aH}{st x:bO}{b:Bool} (ho:re.op=9) (fJ:re.kids=kid::l) (h:e8 t F 1 (.run (.mk 0 kid 0 0 .nil) i c) st.sub b x) (hx:x.empty=true):e8 t F most (.body re nx i c) st true (st.Nr x)
 |ae8 {most i:Int}{re kid:Re}{l:List Re}{nx:Goal}{c:aH}{st x:bO}{b:Bool} (ho:re.op=9) (fJ:re.kids=kid::l) (h:e8 t F 1 (.run (.mk 0 kid 0 0 .nil) i c) st.sub b x) (hx:x.empty=false) (he:x.ends=[]):e8 t F most (.body re nx i c) st false (st.Nr x)
 |acV {most i e:Int}{re kid:Re}{l:List Re}{nx:Goal}{c d:aH}{le:List Int}{ld:List aH}{st x st':bO}{b b':Bool} (ho:re.op=9) (fJ:re.kids=kid::l) (h:e8 t F 1 (.run (.mk 0 kid 0 0 .nil) i c) st.sub b x) (hx:x.empty=false) (he:x.ends=e::le) (hd:x.ai=d::ld) (h2:e8 t F most (.run nx e d) (st.Nr x) b' st'):e8 t F most (.body re nx i c) st b' st'
 |cond {most i:Int}{re yes no:Re}{l:List Re}{nx:Goal}{c:aH}{st st':bO}{b:Bool} (ho:re.op=10) (fJ:re.kids=yes::no::l) (h:e8 t F most (.run (.mk 0 (if 0<=(cK c re.n).1 then yes else no) 0 0 nx) i c) st b st'):e8 t F most (.body re nx i c) st b st'
 |ZQ {most i:Int}{re:Re}{nx:Goal}{c:aH}{st st':bO}{b:Bool} (ho:re.op=11) (hh:bL re.n t i=true) (h:e8 t F most (.run nx i c) st b st'):e8 t F most (.body re nx i c) st b st'
 |abj {most i:Int}{re:Re}{nx:Goal}{c:aH}{st:bO} (ho:re.op=11) (hh:bL re.n t i=false):e8 t F most (.body re nx i c) st false st
def Task.e:Task->ETask
 |.run g i c=>.run g i c
 |.rep (.mk _ re k _ nx) i c=>.rep re k nx i c
 |.rep .nil i c=>.alt [] .nil i c
 |.node (.mk _ re _ _ nx) i c=>.node re nx i c
 |.node .nil i c=>.alt [] .nil i c
end Go.Proofs.YtjjfioalgbecmaaGreat
