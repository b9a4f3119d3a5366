/- A part of the proof (K10 K11). -/
import Derived.Test.YtphfjhaffbfpfaaPM13
import Derived.Test.YtphfjhaffbfpfaaPM34
import Derived.Test.YtphfjhaffbfpfaaPM30
set_option linter.all false
set_option maxRecDepth 100000
set_option maxHeartbeats 80000000
namespace Go.Proofs.Ytphfjhaffbfpfaa
open Go.VL Go.Proofs.Try
variable{u:Int}{S:Int}
def Vc (c:Bool) (re:Re):Bool:=decide ((re.op=0\/re.op=1\/re.op=2\/re.op=3\/re.op=4\/re.op=5\/re.op=11)/\(re.op=4->re.mode≠2/\Re.lC re.kids=false)/\(re.op=5->c=true))
theorem Ni (re:Re):re.every (Vc false)=true->∀a,re.comp a=true:=by
 refine Re.ind (Q:=λre=>re.every (Vc false)=true->∀a,re.comp a=true) (λre ih h a=>?_) re;obtain⟨h1,h2⟩:=(Re.aQ re).1 h;obtain⟨q1,q2,q3⟩:=of_decide_eq_true h1;have q5:re.op≠5:=λh=>by have:=q3 h;cases this
 rw[Re.js,am (by rintro ⟨o,hm⟩;obtain⟨x,y⟩:=q2 o;rcases hm with hm|hm;exact x hm;rw[y]at hm;cases hm),am (λh=>q5 h.1),am (by omega),am q5,adE];exact λk hk=>ih k hk (h2 k hk) a
structure SZ (u:Int):Prop where
 refs:fk .and .i64 u 1<=0
 conds:fk .and .i64 u 2<=0
 looks:fk .and .i64 u 4<=0
 atoms:fk .and .i64 u 8<=0
 loops:fk .and .i64 u 32=0
def IX (u:Int):Bool:=decide (0<fk .and .i64 u 64)
def TP (u S:Int) (x:Re×Mk):Prop:=x.2.cu=u/\0<=x.1.fw/\x.1.fw<=S/\x.1.every (Vc (IX u))=true
theorem D5 (hS:1<=S) (m:Mk) (h:m.cu=u):TP u S m.set:=by
 refine⟨h,?_,?_,?_⟩
 ·show 0<=jv 1 0 0 _ _;unfold jv;omega
 ·show jv 1 0 0 _ _<=S;unfold jv;omega
 ·exact mM (adu ⟨.inr (.inl rfl),λh=>absurd (show (1:Int)=4 from h) (by decide),λh=>absurd (show (1:Int)=5 from h) (by decide)⟩) (λk hk=>by cases hk)
theorem Ke (hS:1<=S) (m:Mk) (h:m.cu=u):TP u S (Re.node 0 [],m):=by
 refine⟨h,?_,?_,?_⟩
 ·show 0<=jv 0 0 0 _ _;simp [jv,Re.cA];decide
 ·show jv 0 0 0 _ _<=S;simp [jv,Re.cA];omega
 ·exact mM (adu ⟨.inl rfl,λh=>absurd h (by decide),λh=>absurd h (by decide)⟩) (λk hk=>by cases hk)
theorem Kj {t:Mk->Re×Mk}{u S:Int} (ht:∀m,m.cu=u->TP u S (t m)):∀(f:Nat) (i:Int) (m:Mk),m.cu=u->(aT t f i m).2.cu=u/\0<=Re.cA (aT t f i m).1/\Re.cA (aT t f i m).1<=f*S/\(∀k∈(aT t f i m).1,k.every (Vc (IX u))=true)
 |0,i,m,h=>⟨h,by simp [aT,Re.cA],by simp [aT,Re.cA],λk hk=>by simp [aT]at hk⟩
 |f+1,i,m,h=>by
  simp only[aT];have h1:=ht (m.next 2).2 h;obtain⟨a1,a2,a3,a4⟩:=Kj ht f (i+1) (t (m.next 2).2).2 h1.1;have hS:0<=S:=Int.le_trans h1.2.1 h1.2.2.1;split
  ·refine⟨a1,?_,?_,λk hk=>?_⟩
   ·simp only[Re.cA];have:=h1.2.1;omega
   ·simp only[Re.cA];have:=h1.2.2.1;push_cast;rw[Int.add_mul];omega
   ·rcases List.mem_cons.1 hk with rfl|hk
    ·exact h1.2.2.2
    ·exact a4 k hk
  ·refine⟨h,by simp [Re.cA],?_,λk hk=>by cases hk⟩;have:0<=((f+1:Nat):Int)*S:=Int.mul_nonneg (by omega) hS;simpa [Re.cA]using this
theorem OE {t:Mk->Re×Mk}{op mn mx mode n:Int}{neg:Bool}{x:Re×Mk} (h:TP u S x) (ho:op=4\/op=5) (h0:0<=mn) (h4:op=4->mode≠2/\x.1.pg=false/\0<=mn/\mn<=2/\(mx=-1\/(1<=mx/\mx<=3/\mn<=mx))) (h5:op=5->IX u=true) :
  TP u (4*S+6) (.mk op [] [x.1] mn mx mode n neg,x.2):=by
 obtain⟨a1,a2,a3,a4⟩:=h;have e:(Re.mk op [] [x.1] mn mx mode n neg).fw=jv op mn mx 1 (x.1.fw+0):=rfl;rw[Int.add_zero]at e;refine⟨a1,?_,?_,?_⟩
 ·show 0<=(Re.mk op [] [x.1] mn mx mode n neg).fw;rw[e];exact xQ (by omega) a2 h0 (λo=>by have:=h4 o;omega)
 ·show (Re.mk op [] [x.1] mn mx mode n neg).fw<=_;rw[e];unfold jv;generalize x.1.fw=z at *;rcases ho with rfl|rfl
  ·obtain⟨b1,b2,b3,b4,b5⟩:=h4 rfl;have h1:(mn+1)*z<=3*z:=aec (by omega) a2;have h2:mx=-1\/mx*z<=3*z:=by
    rcases b5 with b5|b5
    ·exact .inl b5
    ·exact .inr (aec (by omega) a2)
   split <;> omega
  ·omega
 ·refine mM (adu ⟨?_,λo=>?_,λo=>h5 o⟩) (λk hk=>by rw[List.mem_singleton.1 hk];exact a4)
  ·show op=0\/op=1\/op=2\/op=3\/op=4\/op=5\/op=11;omega
  ·exact⟨(h4 o).1,(h4 o).2.1⟩
theorem HG {m:Mk} (h:fk .and .i64 m.cu 8<=0):(eE m).1≠2/\(eE m).2.cu=m.cu:=by have h8:m.has 8=false:=adl (by omega);unfold eE;have hx:(m.next 2).2.has 8=m.has 8:=rfl;simp only[h8,adq,if_false];have:=ct m.l m.pos 2 (by omega);exact⟨by simp only[Mk.next];omega,rfl⟩
theorem UP {t:Mk->Re×Mk} (hu:SZ u) (hS:1<=S) (ht:∀m,m.cu=u->TP u S (t m)) (m:Mk) (h:m.cu=u):TP u (4*S+6) (m.rep t):=by
 have hk:=ct m.l m.pos 12 (by omega);have key:∀i:Nat,i<12->0<=(iG[i]?).getD 0/\(iG[i]?).getD 0<=2/\((gi[i]?).getD 0=-1\/(1<=(gi[i]?).getD 0/\(gi[i]?).getD 0<=3/\(iG[i]?).getD 0<=(gi[i]?).getD 0)):=by decide
 have key:=key (pick m.l m.pos 12).toNat (by omega);have hm:=HG (m:=(m.next 12).2) (by show fk .and .i64 m.cu 8<=0;rw[h];exact hu.atoms);have kS:TP u S (iv t (eE (m.next 12).2).2)/\(iv t (eE (m.next 12).2).2).1.pg=false:=by
  have h1:=ht (eE (m.next 12).2).2 (hm.2.trans h);unfold iv;simp only;rw[h1.1,hu.loops];by_cases hn:(t (eE (m.next 12).2).2).1.pg=true
  ·rw[ap ⟨rfl,hn⟩];exact⟨D5 hS _ h1.1,rfl⟩
  ·rw[am (λh=>hn h.2)];exact⟨h1,by simpa using hn⟩
 exact OE (t:=t) kS.1 (.inl rfl) key.1 (λ_=>⟨hm.1,kS.2,key.1,key.2.1,key.2.2⟩) (λo=>absurd o (by decide))
theorem RC {t:Mk->Re×Mk} (hu:SZ u) (hS:1<=S) (ht:∀m,m.cu=u->TP u S (t m)) (k:Int) (m:Mk) (h:m.cu=u):TP u (4*S+6) (Mk.node t k m):=by
 obtain⟨k1,k2,k3,k4⟩:=Kj ht 4 0 m h;have k5:=(uW (t:=λm=>(Re.node 0 [],m)) (λm=>Rl (by omega) (by omega) (by decide)) 4 0 m).2;have aaX:((aT t 4 0 m).1.length:Int)<=4:=by
  have:∀(f:Nat) (i:Int) (m:Mk),(aT t f i m).1.length<=f:=by
   intro f;induction f with
   |zero=>intro i m;simp [aT]
   |succ f ih =>
    intro i m;simp only[aT];split
    ·simp;exact ih _ _
    ·simp
  have:=this 4 0 m;omega
 have aaS:1<=((aT t 4 0 m).1.length:Int):=by have:=Fi (t:=t) m;have:=List.length_pos_iff.2 this;omega
 have kids:∀op:Int,(op=2\/op=3)->TP u (4*S+6) (Re.node op (aT t 4 0 m).1,(aT t 4 0 m).2):=λop ho=>by
  have e:(Re.node op (aT t 4 0 m).1).fw=jv op 0 0 (aT t 4 0 m).1.length (Re.cA (aT t 4 0 m).1):=rfl;refine⟨k1,?_,?_,?_⟩
  ·show 0<=(Re.node op (aT t 4 0 m).1).fw;rw[e];unfold jv;omega
  ·show (Re.node op (aT t 4 0 m).1).fw<=_;rw[e];unfold jv;have:((4:Nat):Int)*S=4*S:=rfl;omega
  ·refine mM (adu ⟨?_,λo=>?_,λo=>?_⟩) k4
   ·show op=0\/op=1\/op=2\/op=3\/op=4\/op=5\/op=11;omega
   ·have o:op=4:=o;omega
   ·have o:op=5:=o;omega
 have big:∀x,TP u S x->TP u (4*S+6) x:=λx hx=>⟨hx.1,hx.2.1,by have:=hx.2.2.1;omega,hx.2.2.2⟩
 have has:∀b,m.has b=true->¬fk .and .i64 u b<=0:=λb hb=>by have:=of_decide_eq_true hb;rw[h]at this;omega
 have cap:m.has 64=true->TP u (4*S+6) (m.gL t):=λhc=>by
  have hcb:IX u=true:=by have:=of_decide_eq_true hc;rw[h]at this;exact adu this
  have hcu:(ej m).2.cu=u:=by
   unfold ej;simp only;split
   ·exact h
   ·split
    ·split <;> exact h
    ·exact h
  exact OE (t:=t) (ht _ hcu) (.inr rfl) (ady _) (λo=>absurd o (by decide)) (λ_=>hcb)
 unfold Mk.node;split
 ·exact kids 2 (.inl rfl)
 split
 ·exact kids 3 (.inr rfl)
 split
 ·exact UP hu hS ht m h
 split
 ·rename_i hc;exact cap hc.2
 split
 ·rename_i hc;exact cap hc.2
 split
 ·refine⟨h,?_,?_,?_⟩
  ·show 0<=jv 11 0 0 _ _;unfold jv;omega
  ·show jv 11 0 0 _ _<=_;unfold jv;omega
  ·exact mM (adu ⟨by simp [Re.op],λh=>absurd (show (11:Int)=4 from h) (by decide),λh=>absurd (show (11:Int)=5 from h) (by decide)⟩) (λk hk=>by cases hk)
 split
 ·rename_i hc;exact absurd hu.looks (has 4 hc.2)
 split
 ·rename_i hc;exact absurd hu.atoms (has 8 hc.2)
 split
 ·rename_i hc;exact absurd hu.refs (has 1 hc.2.1)
 split
 ·rename_i hc;exact absurd hu.conds (has 2 hc.2.1)
 ·exact big _ (D5 hS m h)
def sD:Nat->Int
 |0=>1
 |d+1=>4*sD d+6
theorem wS:∀d,1<=sD d
 |0=>by simp [sD]
 |d+1=>by have:=wS d;simp only[sD];omega
theorem JC {u:Int} (hu:SZ u):∀(d:Nat) (m:Mk),m.cu=u->TP u (sD d) (Mk.tree d m)
 |0,m,h=>by
  simp only[Mk.tree];split
  ·exact Ke (wS 0) _ h
  ·exact D5 (wS 0) _ h
 |d+1,m,h=>by
  simp only[Mk.tree];split
  ·split
   ·exact Ke (wS _) _ h
   ·exact D5 (wS _) _ h
  ·exact RC hu (wS d) (λm=>JC hu d m) _ _ h
theorem TU (l:List Int) (u ai:Int) (hu:SZ u):0<=(kA l u ai).re.fw/\(kA l u ai).re.fw<=4000/\(kA l u ai).re.every (Vc (IX u))=true:=by obtain⟨_,h1,h2,h3⟩:=JC hu 5 ⟨l,0,u,ai,0⟩ rfl;exact⟨h1,Int.le_trans h2 (by decide),h3⟩
structure zT (p:iF) (t:List Int):Prop where
 bW:∀i:Int,0<=i->i<=t.length->fv p t i (-1) 3000=0
 valid:dR p=0
 eN:p.re.eN=true
 abo:0<=p.re.fw
 fw:p.re.fw<=4000
 len:t.length<=12
 aK:p.aK=false
theorem J1 (p:iF) (t:List Int) (F:Int):∀n,(dX p t F n).1=p\/(dX p t F n).1=⟨.mk 0 [] [] 0 0 0 0 false,p.ah,false⟩
 |0=>.inr rfl
 |n+1=>by
  rw[dX];split
  ·exact .inl rfl
  ·exact J1 p t F n
theorem QD (l m:List Int) (hl:∀x∈l,kg x) (hm:∀x∈m,kg x) (u:Int) (hu:SZ u):∃(p:iF) (t:List Int),ba prog 11 [.d (av l),.d (av m),i64 u,i64 24,i64 3000] (.tu [dF p,.d (av t)]) /\
  zT p t/\p.re.every (Vc (IX u))=true:=by
 obtain⟨hv,gf⟩:=w9 l u 24 hl (by omega) (by omega);have OA:=CA l u 24 hl (by omega) (by omega);have EE:(kA l u 24).re.eN=true:=Ao (by omega) _ OA.ev;have Up:(lZ m 12).length<=12:=by simp [lZ];omega
 obtain⟨g1,g2,g3⟩:=BK (p:=kA l u 24) (t:=lZ m 12) (F:=3000) hv EE (by omega) (by omega) ((lZ m 12).length+1) (adB _);obtain⟨s0,s1,s2⟩:=TU l u 24 hu;obtain⟨v1,v2,v3,v4,v5⟩:=eL hv;have PM:=J1 (kA l u 24) (lZ m 12) 3000 ((lZ m 12).length+1);refine⟨_,_,QL l m hl hm u 24 3000 (by omega) (by omega),?_,?_⟩
 ·rcases PM with h|h
  ·exact⟨g1,by rw[h];exact hv,g2,by rw[h];exact s0,by rw[h];exact s1,by omega,by rw[h];rfl⟩
  ·refine⟨g1,?_,g2,?_,?_,by omega,by rw[h]⟩
   ·rw[h];exact xx _ v3 v4
   ·rw[h];show 0<=jv 0 0 0 _ _;simp [jv,Re.cA];decide
   ·rw[h];show jv 0 0 0 _ _<=4000;simp [jv,Re.cA];decide
 ·rcases PM with h|h
  ·rw[h];exact s2
  ·rw[h];exact mM (adu ⟨.inl rfl,λh=>absurd (show (0:Int)=4 from h) (by decide),λh=>absurd (show (0:Int)=5 from h) (by decide)⟩) (λk hk=>by cases hk)
theorem On (l m:List Int) (hl:∀x∈l,kg x) (hm:∀x∈m,kg x) (b:Bool):∃(p:iF) (t:List Int),ba prog 4 [.d (av l),.d (av m),bV b] (.tu [dF p,.d (av t)])/\zT p t/\p.re.comp []=true:=by
 have fits:=λu hu=>QD l m hl hm u hu
 -- JL two calls of Fits
 have two:∀u u':Int,SZ u->SZ u'->IX u'=false->IntKind.i64.wrap (u-64)=u'->(b=false->u=64)->(b=true->fk .or .i64 64 16=u)->∃(p:iF) (t:List Int),ba prog 4 [.d (av l),.d (av m),bV b] (.tu [dF p,.d (av t)])/\zT p t/\p.re.comp []=true:=by
  intro u u' hu Q2 UJ hw UO rm;obtain⟨p,t,h1,h2,h3⟩:=fits u hu;obtain⟨p',t',UX,W5,Y1⟩:=fits u' Q2;obtain⟨v1,v2,v3,v4,v5⟩:=eL h2.valid;have hC:=DU v4 p.re v5 (by omega);have gz:=Rz p.re [] (NL hC) (by omega) (by simp;omega);cases vZ:p.re.comp []with
  |true =>
   refine⟨p,t,?_,h2,vZ⟩;rw[vZ]at gz;clear UX h3 Y1;cases p with
   |mk re ah aK =>
   simp only[dF,Re.ae re,adG,adP,adr,adt,aq re,i64,iD,bD,bV]at h1 gz ⊢;cases b with
   |false =>
    have:=UO rfl;subst this;refine ar func4 rfl ntmps4 results4 rfl 0 1991 (by simp) (by simp) ?_;simp only[zX,Nat.reduceShiftRight,Nat.reduceMod,Nat.reduceLT,Nat.reduceMul,Nat.reduceSub,Int.reduceToNat,Int.reduceNeg,Int.reduceLT,Int.reduceLE,Int.reduceEq,Nat.reduceEqDiff,Nat.reduceAdd,Nat.reduceLeDiff,reduceIte,reduceCtorEq,Nat.reduceBEq,i64,bV,adq];refine az h1 rfl rfl ?_;simp only[zX,Nat.reduceShiftRight,Nat.reduceMod,Nat.reduceLT,Nat.reduceMul,Nat.reduceSub,Int.reduceToNat,Int.reduceNeg,Int.reduceLT,Int.reduceLE,Int.reduceEq,Nat.reduceEqDiff,Nat.reduceAdd,Nat.reduceLeDiff,reduceIte,reduceCtorEq,Nat.reduceBEq,i64,bV,iD,bD];refine aY [] (by rfl) (az gz rfl rfl ?_);simp only[zX,Nat.reduceShiftRight,Nat.reduceMod,Nat.reduceLT,Nat.reduceMul,Nat.reduceSub,Int.reduceToNat,Int.reduceNeg,Int.reduceLT,Int.reduceLE,Int.reduceEq,Nat.reduceEqDiff,Nat.reduceAdd,Nat.reduceLeDiff,reduceIte,reduceCtorEq,Nat.reduceBEq,bg,i64,bV,iD,bD,ads,adq];all_goals first|exact⟨rfl,rfl⟩|exact⟨rfl,trivial⟩|rfl|trivial|(rw[aq];rfl)
   |true =>
    have Ze:=rm rfl;refine ar func4 rfl ntmps4 results4 rfl 0 1991 (by simp) (by simp) ?_;simp only[zX,Nat.reduceShiftRight,Nat.reduceMod,Nat.reduceLT,Nat.reduceMul,Nat.reduceSub,Int.reduceToNat,Int.reduceNeg,Int.reduceLT,Int.reduceLE,Int.reduceEq,Nat.reduceEqDiff,Nat.reduceAdd,Nat.reduceLeDiff,reduceIte,reduceCtorEq,Nat.reduceBEq,i64,bV,Ze];refine az h1 rfl rfl ?_;simp only[zX,Nat.reduceShiftRight,Nat.reduceMod,Nat.reduceLT,Nat.reduceMul,Nat.reduceSub,Int.reduceToNat,Int.reduceNeg,Int.reduceLT,Int.reduceLE,Int.reduceEq,Nat.reduceEqDiff,Nat.reduceAdd,Nat.reduceLeDiff,reduceIte,reduceCtorEq,Nat.reduceBEq,i64,bV,iD,bD];refine aY [] (by rfl) (az gz rfl rfl ?_);simp only[zX,Nat.reduceShiftRight,Nat.reduceMod,Nat.reduceLT,Nat.reduceMul,Nat.reduceSub,Int.reduceToNat,Int.reduceNeg,Int.reduceLT,Int.reduceLE,Int.reduceEq,Nat.reduceEqDiff,Nat.reduceAdd,Nat.reduceLeDiff,reduceIte,reduceCtorEq,Nat.reduceBEq,bg,i64,bV,iD,bD,ads,adq];all_goals first|exact⟨rfl,rfl⟩|exact⟨rfl,trivial⟩|rfl|trivial|(rw[aq];rfl)
  |false =>
   refine⟨p',t',?_,W5,Ni _ (by rw[<- UJ];exact Y1) []⟩;rw[vZ]at gz;clear h3 Y1;cases p with
   |mk re ah aK =>
   cases p' with
   |mk zv BM XQ =>
   simp only[dF,Re.ae re,Re.ae zv,adG,adP,adr,adt,aq re,i64,iD,bD,bV]at h1 UX gz ⊢;cases b with
   |false =>
    have:=UO rfl;subst this;refine ar func4 rfl ntmps4 results4 rfl 0 1991 (by simp) (by simp) ?_;simp only[zX,Nat.reduceShiftRight,Nat.reduceMod,Nat.reduceLT,Nat.reduceMul,Nat.reduceSub,Int.reduceToNat,Int.reduceNeg,Int.reduceLT,Int.reduceLE,Int.reduceEq,Nat.reduceEqDiff,Nat.reduceAdd,Nat.reduceLeDiff,reduceIte,reduceCtorEq,Nat.reduceBEq,i64,bV,adq];refine az h1 rfl rfl ?_;simp only[zX,Nat.reduceShiftRight,Nat.reduceMod,Nat.reduceLT,Nat.reduceMul,Nat.reduceSub,Int.reduceToNat,Int.reduceNeg,Int.reduceLT,Int.reduceLE,Int.reduceEq,Nat.reduceEqDiff,Nat.reduceAdd,Nat.reduceLeDiff,reduceIte,reduceCtorEq,Nat.reduceBEq,i64,bV,iD,bD];refine aY [] (by rfl) (az gz rfl rfl ?_);simp only[zX,Nat.reduceShiftRight,Nat.reduceMod,Nat.reduceLT,Nat.reduceMul,Nat.reduceSub,Int.reduceToNat,Int.reduceNeg,Int.reduceLT,Int.reduceLE,Int.reduceEq,Nat.reduceEqDiff,Nat.reduceAdd,Nat.reduceLeDiff,reduceIte,reduceCtorEq,Nat.reduceBEq,bg,i64,bV,iD,bD,adz,hw];refine az UX rfl rfl ?_;simp only[zX,Nat.reduceShiftRight,Nat.reduceMod,Nat.reduceLT,Nat.reduceMul,Nat.reduceSub,Int.reduceToNat,Int.reduceNeg,Int.reduceLT,Int.reduceLE,Int.reduceEq,Nat.reduceEqDiff,Nat.reduceAdd,Nat.reduceLeDiff,reduceIte,reduceCtorEq,Nat.reduceBEq,i64,bV,iD,bD];all_goals first|exact⟨rfl,rfl⟩|exact⟨rfl,trivial⟩|rfl|trivial|(rw[aq];rfl)
   |true =>
    have Ze:=rm rfl;refine ar func4 rfl ntmps4 results4 rfl 0 1991 (by simp) (by simp) ?_;simp only[zX,Nat.reduceShiftRight,Nat.reduceMod,Nat.reduceLT,Nat.reduceMul,Nat.reduceSub,Int.reduceToNat,Int.reduceNeg,Int.reduceLT,Int.reduceLE,Int.reduceEq,Nat.reduceEqDiff,Nat.reduceAdd,Nat.reduceLeDiff,reduceIte,reduceCtorEq,Nat.reduceBEq,i64,bV,Ze];refine az h1 rfl rfl ?_;simp only[zX,Nat.reduceShiftRight,Nat.reduceMod,Nat.reduceLT,Nat.reduceMul,Nat.reduceSub,Int.reduceToNat,Int.reduceNeg,Int.reduceLT,Int.reduceLE,Int.reduceEq,Nat.reduceEqDiff,Nat.reduceAdd,Nat.reduceLeDiff,reduceIte,reduceCtorEq,Nat.reduceBEq,i64,bV,iD,bD];refine aY [] (by rfl) (az gz rfl rfl ?_);simp only[zX,Nat.reduceShiftRight,Nat.reduceMod,Nat.reduceLT,Nat.reduceMul,Nat.reduceSub,Int.reduceToNat,Int.reduceNeg,Int.reduceLT,Int.reduceLE,Int.reduceEq,Nat.reduceEqDiff,Nat.reduceAdd,Nat.reduceLeDiff,reduceIte,reduceCtorEq,Nat.reduceBEq,bg,i64,bV,iD,bD,adz,hw];refine az UX rfl rfl ?_;simp only[zX,Nat.reduceShiftRight,Nat.reduceMod,Nat.reduceLT,Nat.reduceMul,Nat.reduceSub,Int.reduceToNat,Int.reduceNeg,Int.reduceLT,Int.reduceLE,Int.reduceEq,Nat.reduceEqDiff,Nat.reduceAdd,Nat.reduceLeDiff,reduceIte,reduceCtorEq,Nat.reduceBEq,i64,bV,iD,bD];all_goals first|exact⟨rfl,rfl⟩|exact⟨rfl,trivial⟩|rfl|trivial|(rw[aq];rfl)
 cases b with
 |false=>exact two 64 0 ⟨by decide,by decide,by decide,by decide,by decide⟩ ⟨by decide,by decide,by decide,by decide,by decide⟩ (by decide) (by decide) (λ_=>rfl) (λh=>by cases h)
 |true=>exact two 80 16 ⟨by decide,by decide,by decide,by decide,by decide⟩ ⟨by decide,by decide,by decide,by decide,by decide⟩ (by decide) (by decide) (λh=>by cases h) (λ_=>by decide)
end Go.Proofs.Ytphfjhaffbfpfaa
