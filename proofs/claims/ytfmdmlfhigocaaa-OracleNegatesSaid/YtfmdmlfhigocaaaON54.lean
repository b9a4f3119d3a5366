/- A part of the proof (O54 O55). -/
import Derived.Test.YtfmdmlfhigocaaaON52
import Derived.Test.YtfmdmlfhigocaaaON53
import Derived.Test.YtfmdmlfhigocaaaON49
import Derived.Test.YtfmdmlfhigocaaaON50
set_option linter.unusedSimpArgs false
set_option linter.unusedVariables false
open Nat renaming reduceShiftRight → cQ, reduceMod → dx, reduceLT → dB, reduceMul → dC, reduceSub → dD, reduceEqDiff → eI, reduceAdd → eJ, reduceLeDiff → fX, reduceBEq → gj
open Int renaming reduceToNat → gl, reduceNeg → ja, reduceLT → jg, reduceLE → jk, reduceEq → mA
set_option maxRecDepth 100000
set_option maxHeartbeats 80000000
namespace Go.Proofs.Ytfmdmlfhigocaaa
open Go.VL
variable{re:Re}{t:List Int}
def AO:J9:=⟨[],0,false⟩
theorem H7 (p:ic) (hv:cC p=0):∃(g:J9) (e:Int),aO Try.prog 39 [aZ p] (.tu [Lu g,i64 e]):=by
 obtain⟨v1,v2,v3,v4,v5⟩:=db hv;have hC:=LM v4 p.re v5 (by omega);have hf:p.re.bC=true:=by
  have:∀re:Re,re.every sO=true->re.bC=true:=λre=>Re.ind (Q:=λre=>re.every sO=true->re.bC=true) (λre ih h=>by
   obtain⟨h1,h2⟩:=(Re.aB re).1 h;obtain⟨q1,q2,q3,q4,_⟩:=eW.1 (fZ.1 h1).1;exact(Re.mC re).2 ⟨by omega,by omega,λk hk=>ih k hk (h2 k hk)⟩) re
  exact this p.re hC
 have h1:=oH p hf (by omega);have h2:=MA p.re [] (Hj hC) (by omega) (by simp;omega);have h3:=Lm p.re hC;have wL:=iu p.re hC;have w1:IntKind.i64.wrap (p.re.jL+1)=p.re.jL+1:=bd _ (by omega);cases zF:p.re.comp []with
 |true =>
  by_cases hz:p.re.jL<=8191
  ·exact⟨_,_,JH p hv zF hz⟩
  ·refine⟨AO,4,?_⟩;have c1:8192<p.re.jL+1:=by omega
   rw[hv]at h1;rw[zF]at h2;unfold Lu;clear zF;cases p with
   |mk re ak aN =>
   simp only at *;simp only[aZ,Re.ae re,afR,afU,afQ,afS,ai re,i64,iD,bD,bV]at h1 h2 h3;refine an Try.func39 rfl Try.ntmps39 Try.results39 rfl 0 31 (by simp) (by simp) ?_;simp only[zX,cQ,dx,dB,dC,dD,gl,ja,jg,jk,mA,eI,eJ,fX,reduceIte,reduceCtorEq,gj,i64,aZ,Re.ae,bV,iD,bD];refine aj h1 rfl rfl ?_;simp only[zX,cQ,dx,dB,dC,dD,gl,ja,jg,jk,mA,eI,eJ,fX,reduceIte,reduceCtorEq,gj,i64,aZ,Re.ae,bV,iD,bD,ne_eq,not_true_eq_false];refine bc [] (by rfl) (aj h2 rfl rfl ?_);simp only[zX,cQ,dx,dB,dC,dD,gl,ja,jg,jk,mA,eI,eJ,fX,reduceIte,reduceCtorEq,gj,bE,i64,aZ,Re.ae,bV,iD,bD,aga,age];refine aj h3 rfl rfl ?_;simp only[zX,cQ,dx,dB,dC,dD,gl,ja,jg,jk,mA,eI,eJ,fX,reduceIte,reduceCtorEq,gj,i64,aZ,Re.ae,bV,iD,bD,w1,c1,gt_iff_lt];all_goals (simp [J9.cells,AO,iD,bD])
 |false =>
  refine⟨AO,10,?_⟩;rw[hv]at h1;rw[zF]at h2;unfold Lu;clear zF;cases p with
  |mk re ak aN =>
  simp only at *;simp only[aZ,Re.ae re,afR,afU,afQ,afS,ai re,i64,iD,bD,bV]at h1 h2 h3;refine an Try.func39 rfl Try.ntmps39 Try.results39 rfl 0 31 (by simp) (by simp) ?_;simp only[zX,cQ,dx,dB,dC,dD,gl,ja,jg,jk,mA,eI,eJ,fX,reduceIte,reduceCtorEq,gj,i64,aZ,Re.ae,bV,iD,bD];refine aj h1 rfl rfl ?_;simp only[zX,cQ,dx,dB,dC,dD,gl,ja,jg,jk,mA,eI,eJ,fX,reduceIte,reduceCtorEq,gj,i64,aZ,Re.ae,bV,iD,bD,ne_eq,not_true_eq_false];refine bc [] (by rfl) (aj h2 rfl rfl ?_);simp only[zX,cQ,dx,dB,dC,dD,gl,ja,jg,jk,mA,eI,eJ,fX,reduceIte,reduceCtorEq,gj,bE,i64,aZ,Re.ae,bV,iD,bD,af4];all_goals (simp [J9.cells,AO,iD,bD])
structure Mb (p:ic) (t:List Int):Prop where
 valid:cC p=0
 bC:p.re.bC=true
 depth:p.re.depth<=7
 aN:p.aN=false
 len:t.length<=12
 sym:t.all (fT false)=true
 nn:p.re.every (λr=>decide (jC r.n))=true
 ak:jC p.ak
 small:p.re.every (l5 256)=true
structure vx (p:ic) (t:List Int):Prop where
 valid:cC p=0
 bC:p.re.bC=true
 depth:p.re.depth<=6
 aN:p.aN=false
 len:t.length<=12
 sym:t.all (fT false)=true
 ak:jC p.ak
 small:p.re.every (l5 256)=true
 qi:∀i:Int,0<=i->i<=t.length->uP p t i (-1) 3000=0
theorem DU (l m:List Int) (hl:∀x∈l,jC x) (hm:∀x∈m,jC x) (u:Int):∃(p:ic) (t:List Int),aO Try.prog 16 [.d (al l),.d (al m),i64 u,i64 24,i64 3000] (.tu [aZ p,.d (al t)])/\vx p t:=by
 obtain⟨hv,fF⟩:=zi l u 24 hl (by omega) (by omega);have Wr:=ER l u 24 hl (by omega) (by omega);have Py:(lN l u 24).re.bC=true:=CS (by omega) _ Wr.ev;have PU:(jz m 12).length<=12:=by simp [jz];omega
 obtain⟨g1,g2,g3⟩:=DX (p:=lN l u 24) (t:=jz m 12) (F:=3000) hv Py (by omega) (by omega) ((jz m 12).length+1) (af3 _);have hdp:=M1 l u 24 hl (by omega) (by omega);obtain⟨v1,v2,v3,v4,v5⟩:=db hv;have wE:=Mc (lN l u 24) (jz m 12) 3000 ((jz m 12).length+1);have Ru:=IM (lN l u 24) (jz m 12) 3000 ((jz m 12).length+1);have Xn:(cZ (lN l u 24) (jz m 12) 3000 ((jz m 12).length+1)).2.all (fT false)=true:=by rw[af8];exact λx hx=>OX m 12 x (Ru x hx)
 refine⟨_,_,Tq l m hl hm u 24 3000 (by omega) (by omega),?_⟩;rcases wE with h|h
 ·exact⟨by rw[h];exact hv,g2,by rw[h];exact hdp,by rw[h];rfl,by omega,Xn,by rw[h];exact Wr.ak,by rw[h];exact Wr.ev,g1⟩
 ·refine⟨?_,g2,?_,by rw[h],by omega,Xn,?_,?_,g1⟩
  ·rw[h];exact zM _ v3 v4
  ·rw[h,Re.gF];show oC []+1<=6;simp [oC]
  ·rw[h];exact Wr.ak
  ·rw[h];exact(Re.aB _).2 ⟨(by decide:l5 256 (.mk 0 [] [] 0 0 0 0 false)=true),λk hk=>by cases hk⟩
def iL (re:Re) (a b:Int):Re:=.mk 2 [] [re,.mk (7+a) [] [.mk 1 [(97,98)] [] 0 0 0 0 false] 0 0 0 0 (decide (b=0))] 0 0 0 0 false
theorem Ju (l:List Int) (i:Int):0<=pick l i 2/\pick l i 2<=1:=by have:=cb l i 2 (by omega);omega
theorem uI (re:Re) (a b:Int):(iL re a b).cells=[iD 2,.sl [],.sl [re.cells,[iD (7+a),.sl [],.sl [[iD 1,.sl [[iD 97,iD 98]],.sl [],iD 0,iD 0,iD 0,iD 0,bD false]],iD 0,iD 0,iD 0,iD 0,bD (decide (b=0))]],iD 0,iD 0,iD 0,iD 0,bD false]:=by rw[Re.ae];simp only[iL,Re.op,Re.set,Re.kids,Re.mn,Re.mx,Re.mode,Re.n,Re.neg,afR,afU];rw[Re.ae (.mk (7+a) _ _ _ _ _ _ _)];simp only[Re.op,Re.set,Re.kids,Re.mn,Re.mx,Re.mode,Re.n,Re.neg,afR,afU];rw[Re.ae (.mk 1 _ _ _ _ _ _ _)];simp only[Re.op,Re.set,Re.kids,Re.mn,Re.mx,Re.mode,Re.n,Re.neg,afR,afU,aV]
theorem Ij (h:re.bC=true) (a b:Int):(iL re a b).bC=true:=by
 refine(Re.mC _).2 ⟨by simp [iL,Re.set],by simp [iL,Re.kids],λk hk=>?_⟩;simp only[iL,Re.kids,agV,ag8,or_false]at hk;rcases hk with rfl|rfl
 ·exact h
 ·refine(Re.mC _).2 ⟨by simp [Re.set],by simp [Re.kids],λk hk=>?_⟩;simp only[Re.kids,agV,ag8,or_false]at hk;rw[hk];refine(Re.mC _).2 ⟨by simp [Re.set],by simp [Re.kids],λk hk=>?_⟩;simp [Re.kids]at hk
theorem yv{p:Re->Bool} (h:re.every p=true) (a b:Int) (h1:p (iL re a b)=true) (h2:p (.mk (7+a) [] [.mk 1 [(97,98)] [] 0 0 0 0 false] 0 0 0 0 (decide (b=0)))=true) (h3:p (.mk 1 [(97,98)] [] 0 0 0 0 false)=true):(iL re a b).every p=true:=by
 refine(Re.aB _).2 ⟨h1,λk hk=>?_⟩;simp only[iL,Re.kids,agV,ag8,or_false]at hk;rcases hk with rfl|rfl
 ·exact h
 ·refine(Re.aB _).2 ⟨h2,λk hk=>?_⟩;simp only[Re.kids,agV,ag8,or_false]at hk;rw[hk];exact(Re.aB _).2 ⟨h3,λk hk=>by simp [Re.kids]at hk⟩
theorem Ql (re:Re) (a b:Int):(iL re a b).size=re.size+3:=by rw[Re.size_eq];simp only[iL,Re.kids,Re.bZ];rw[Re.size_eq (.mk (7+a) _ _ _ _ _ _ _)];simp only[Re.kids,Re.bZ];rw[Re.size_eq (.mk 1 _ _ _ _ _ _ _)];simp only[Re.kids,Re.bZ];omega
theorem NO (h:re.depth<=6) (a b:Int):(iL re a b).depth<=7:=by
 have hd:(Re.mk (7+a) [] [.mk 1 [(97,98)] [] 0 0 0 0 false] 0 0 0 0 (decide (b=0))).depth=2:=by rw[Re.gF];show oC [(Re.mk 1 [(97,98)] [] 0 0 0 0 false).depth]+1=2;rw[Re.gF];rfl
 rw[Re.gF];show oC [re.depth,(Re.mk (7+a) [] [.mk 1 [(97,98)] [] 0 0 0 0 false] 0 0 0 0 (decide (b=0))).depth]+1<=7;rw[hd];simp only[oC,List.foldl_cons,List.foldl_nil];omega
theorem vx.nn {p:ic} (h:vx p t):p.re.every (λr=>decide (jC r.n))=true :=
 iR (λr h=>by
  unfold l5 at h;rw[agb,decide_eq_true_eq]at h;exact bi h.1.2.2.2.2.2.2) p.re h.small
theorem vx.r {p:ic}{t:List Int} (h:vx p t):Mb p t:=⟨h.valid,h.bC,by have:=h.depth;omega,h.aN,h.len,h.sym,h.nn,h.ak,h.small⟩
theorem vx.size {p:ic} (h:vx p t):p.re.size<=256:=(db h.valid).1
theorem vx.add{ak:Int}{aN:Bool} (h:vx ⟨re,ak,aN⟩ t) {a b:Int} (h0:0<=a) (h1:a<=1) (ha:nR ⟨iL re a b,ak,aN⟩=0):Mb ⟨iL re a b,ak,aN⟩ t:=by
 have hv:cC ⟨iL re a b,ak,aN⟩=0:=by
  unfold nR at ha;split at ha
  ·rename_i h;exact absurd ha h
  ·rename_i h;exact Decidable.not_not.1 h
 refine⟨hv,Ij h.bC a b,NO h.depth a b,h.aN,h.len,h.sym,yv h.nn a b ?_ ?_ ?_,h.ak,yv h.small a b ?_ ?_ ?_⟩
 ·exact bi (show jC 0 by decide)
 ·exact bi (show jC 0 by decide)
 ·exact bi (show jC 0 by decide)
 ·simp [l5,iL,Re.set,Re.kids,Re.op,Re.mn,Re.mx,Re.mode,Re.n,jC]
 ·simp [l5,Re.set,Re.kids,Re.op,Re.mn,Re.mx,Re.mode,Re.n,jC];omega
 ·decide
theorem NA (l m:List Int) (hl:∀x∈l,jC x) (hm:∀x∈m,jC x):∃(p:ic) (t:List Int),aO Try.prog 20 [.d (al l),.d (al m)] (.tu [aZ p,.d (al t)])/\Mb p t:=by
 obtain⟨p0,t0,f0,s0⟩:=DU l m hl hm 84;obtain⟨p,t,f1,s1⟩:=DU l m hl hm 20;have XA:=Ei p0 s0.bC (by have:=s0.size;omega) s0.nn;have key:∀(p:ic) (t:List Int),vx p t->∃(g:J9) (e a b:Int) (q:ic),q=(if e=0/\9<l.length then (if nR ⟨iL p.re a b,p.ak,p.aN⟩=0 then ⟨iL p.re a b,p.ak,p.aN⟩ else p) else p)/\a=pick l 1 2/\b=pick l 2 3/\Mb q t/\aO Try.prog 39 [aZ p] (.tu [Lu g,i64 e]) /\
   aO Try.prog 38 [aZ ⟨iL p.re a b,p.ak,p.aN⟩] (i64 (nR ⟨iL p.re a b,p.ak,p.aN⟩)):=by
  intro p t s;obtain⟨g,e,hc⟩:=H7 p s.valid;have As:=Ju l 1;refine⟨g,e,_,_,_,rfl,rfl,rfl,?_,hc,?_⟩
  ·by_cases h1:e=0/\9<l.length
   ·rw[be h1];by_cases h2:nR ⟨iL p.re (pick l 1 2) (pick l 2 3),p.ak,p.aN⟩=0
    ·rw[be h2];exact s.add As.1 As.2 h2
    ·rw[ap h2];exact s.r
   ·rw[ap h1];exact s.r
  ·refine Ei _ (Ij s.bC _ _) (by have:=s.size;show (iL p.re _ _).size<=_;rw[Ql];omega) (yv s.nn _ _ ?_ ?_ ?_)
   ·exact bi (show jC 0 by decide)
   ·exact bi (show jC 0 by decide)
   ·exact bi (show jC 0 by decide)
 have k1:=AM l hl 1 2 (by omega);have k2:=AM l hl 2 3 (by omega);have As:=Ju l 1;have w1:IntKind.i64.wrap (7+pick l 1 2)=7+pick l 1 2:=bd _ (by omega);by_cases MH:nR p0=0
 ·clear f1 s1;obtain⟨g,e,a,b,q,hq,ea,eb,hs,hc,iE⟩:=key p0 t0 s0;refine⟨q,t0,?_,hs⟩;rw[<- ea]at k1 w1;rw[<- eb]at k2;clear key ea eb As hs s0 hl hm;rw[MH]at XA;cases p0 with
  |mk re ak aN =>
  simp only at hq iE;generalize nR ⟨iL re a b,ak,aN⟩=ac at *;simp only[aZ,uI,Re.ae re,afR,afU,afQ,afS,i64,iD,bD,bV,al,MI]at f0 XA hc iE k1 k2;refine an Try.func20 rfl Try.ntmps20 Try.results20 rfl 0 1779 (by simp) (by simp) ?_;simp only[zX,cQ,dx,dB,dC,dD,gl,ja,jg,jk,mA,eI,eJ,fX,reduceIte,reduceCtorEq,gj,i64,bV,iD,bD,al];refine aj f0 rfl rfl ?_;simp only[zX,cQ,dx,dB,dC,dD,gl,ja,jg,jk,mA,eI,eJ,fX,reduceIte,reduceCtorEq,gj,i64,bV,iD,bD,al];refine aj XA rfl rfl ?_;simp only[zX,cQ,dx,dB,dC,dD,gl,ja,jg,jk,mA,eI,eJ,fX,reduceIte,reduceCtorEq,gj,i64,bV,iD,bD,al,ne_eq,not_true_eq_false];refine aj hc rfl rfl ?_;by_cases he:e=0
  ·subst he;by_cases h9:9<l.length
   ·have Hm:(9:Int)<(l.length:Int):=by omega
    rw[be ⟨rfl,h9⟩]at hq;simp only[zX,cQ,dx,dB,dC,dD,gl,ja,jg,jk,mA,eI,eJ,fX,reduceIte,reduceCtorEq,gj,i64,bV,iD,bD,al,afN,Hm,gt_iff_lt];refine ar mix [15] [] (by rfl) ?_;simp only[zX,cQ,dx,dB,dC,dD,gl,ja,jg,jk,mA,eI,eJ,fX,reduceIte,reduceCtorEq,gj,i64,bV,iD,bD,al,afN,Hm];refine bp k1 rfl rfl ?_;simp only[zX,cQ,dx,dB,dC,dD,gl,ja,jg,jk,mA,eI,eJ,fX,reduceIte,reduceCtorEq,gj,i64,bV,iD,bD,al,afN,Hm,w1];refine bp k2 rfl rfl ?_;simp only[zX,cQ,dx,dB,dC,dD,gl,ja,jg,jk,mA,eI,eJ,fX,reduceIte,reduceCtorEq,gj,i64,bV,iD,bD,al,afN,Hm];refine fp _ rfl (aj iE rfl rfl ?_);by_cases h0:ac=0
    ·subst h0;rw[be rfl]at hq;subst hq;simp only[zX,cQ,dx,dB,dC,dD,gl,ja,jg,jk,mA,eI,eJ,fX,reduceIte,reduceCtorEq,gj,i64,bV,iD,bD,al,afN,Hm,ne_eq,not_true_eq_false];simp [aZ,uI,Re.ae re,iD,bD,i64,bV]
    ·rw[ap h0]at hq;subst hq;simp only[zX,cQ,dx,dB,dC,dD,gl,ja,jg,jk,mA,eI,eJ,fX,reduceIte,reduceCtorEq,gj,i64,bV,iD,bD,al,afN,Hm,ne_eq,h0,not_false_eq_true];simp [aZ,Re.ae re,iD,bD,i64,bV]
   ·have Hm:¬(9:Int)<(l.length:Int):=by omega
    rw[ap (λh=>h9 h.2)]at hq;subst hq;simp only[zX,cQ,dx,dB,dC,dD,gl,ja,jg,jk,mA,eI,eJ,fX,reduceIte,reduceCtorEq,gj,i64,bV,iD,bD,al,afN,Hm,gt_iff_lt];simp [aZ,Re.ae re,iD,bD,i64,bV]
  ·rw[ap (λh=>he h.1)]at hq;subst hq;simp only[zX,cQ,dx,dB,dC,dD,gl,ja,jg,jk,mA,eI,eJ,fX,reduceIte,reduceCtorEq,gj,i64,bV,iD,bD,al,he];simp [aZ,Re.ae re,iD,bD,i64,bV]
 ·obtain⟨g,e,a,b,q,hq,ea,eb,hs,hc,iE⟩:=key p t s1;refine⟨q,t,?_,hs⟩;rw[<- ea]at k1 w1;rw[<- eb]at k2;clear key ea eb As hs s0 s1 hl hm;cases p0 with
  |mk re0 TA V9 =>
  cases p with
  |mk re ak aN =>
  simp only at hq iE;generalize nR ⟨iL re a b,ak,aN⟩=ac at *;generalize nR ⟨re0,TA,V9⟩=ac0 at *;simp only[aZ,uI,Re.ae re,Re.ae re0,afR,afU,afQ,afS,i64,iD,bD,bV,al,MI]at f0 f1 XA hc iE k1 k2;refine an Try.func20 rfl Try.ntmps20 Try.results20 rfl 0 1779 (by simp) (by simp) ?_;simp only[zX,cQ,dx,dB,dC,dD,gl,ja,jg,jk,mA,eI,eJ,fX,reduceIte,reduceCtorEq,gj,i64,bV,iD,bD,al];refine aj f0 rfl rfl ?_;simp only[zX,cQ,dx,dB,dC,dD,gl,ja,jg,jk,mA,eI,eJ,fX,reduceIte,reduceCtorEq,gj,i64,bV,iD,bD,al];refine aj XA rfl rfl ?_;simp only[zX,cQ,dx,dB,dC,dD,gl,ja,jg,jk,mA,eI,eJ,fX,reduceIte,reduceCtorEq,gj,i64,bV,iD,bD,al,ne_eq,MH,not_false_eq_true];refine aj f1 rfl rfl ?_;simp only[zX,cQ,dx,dB,dC,dD,gl,ja,jg,jk,mA,eI,eJ,fX,reduceIte,reduceCtorEq,gj,i64,bV,iD,bD,al];refine aj hc rfl rfl ?_;by_cases he:e=0
  ·subst he;by_cases h9:9<l.length
   ·have Hm:(9:Int)<(l.length:Int):=by omega
    rw[be ⟨rfl,h9⟩]at hq;simp only[zX,cQ,dx,dB,dC,dD,gl,ja,jg,jk,mA,eI,eJ,fX,reduceIte,reduceCtorEq,gj,i64,bV,iD,bD,al,afN,Hm,gt_iff_lt];refine ar mix [15] [] (by rfl) ?_;simp only[zX,cQ,dx,dB,dC,dD,gl,ja,jg,jk,mA,eI,eJ,fX,reduceIte,reduceCtorEq,gj,i64,bV,iD,bD,al,afN,Hm];refine bp k1 rfl rfl ?_;simp only[zX,cQ,dx,dB,dC,dD,gl,ja,jg,jk,mA,eI,eJ,fX,reduceIte,reduceCtorEq,gj,i64,bV,iD,bD,al,afN,Hm,w1];refine bp k2 rfl rfl ?_;simp only[zX,cQ,dx,dB,dC,dD,gl,ja,jg,jk,mA,eI,eJ,fX,reduceIte,reduceCtorEq,gj,i64,bV,iD,bD,al,afN,Hm];refine fp _ rfl (aj iE rfl rfl ?_);by_cases h0:ac=0
    ·subst h0;rw[be rfl]at hq;subst hq;simp only[zX,cQ,dx,dB,dC,dD,gl,ja,jg,jk,mA,eI,eJ,fX,reduceIte,reduceCtorEq,gj,i64,bV,iD,bD,al,afN,Hm,ne_eq,not_true_eq_false];simp [aZ,uI,Re.ae re,iD,bD,i64,bV]
    ·rw[ap h0]at hq;subst hq;simp only[zX,cQ,dx,dB,dC,dD,gl,ja,jg,jk,mA,eI,eJ,fX,reduceIte,reduceCtorEq,gj,i64,bV,iD,bD,al,afN,Hm,ne_eq,h0,not_false_eq_true];simp [aZ,Re.ae re,iD,bD,i64,bV]
   ·have Hm:¬(9:Int)<(l.length:Int):=by omega
    rw[ap (λh=>h9 h.2)]at hq;subst hq;simp only[zX,cQ,dx,dB,dC,dD,gl,ja,jg,jk,mA,eI,eJ,fX,reduceIte,reduceCtorEq,gj,i64,bV,iD,bD,al,afN,Hm,gt_iff_lt];simp [aZ,Re.ae re,iD,bD,i64,bV]
  ·rw[ap (λh=>he h.1)]at hq;subst hq;simp only[zX,cQ,dx,dB,dC,dD,gl,ja,jg,jk,mA,eI,eJ,fX,reduceIte,reduceCtorEq,gj,i64,bV,iD,bD,al,he];simp [aZ,Re.ae re,iD,bD,i64,bV]
end Go.Proofs.Ytfmdmlfhigocaaa
