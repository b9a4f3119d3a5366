/- A part of the proof (O56 O57 Vu Vx). -/
import Derived.ProofKit
import Derived.OpenShut
import Derived.Test.YtfmdmlfhigocaaaON12
import Derived.Test.YtfmdmlfhigocaaaON46
import Derived.Test.YtfmdmlfhigocaaaON51
import Derived.Test.YtfmdmlfhigocaaaON47
import Derived.Test.YtfmdmlfhigocaaaON49
import Derived.Test.YtfmdmlfhigocaaaON50
import Derived.Test.YtfmdmlfhigocaaaON54
set_option linter.unusedSimpArgs false
set_option linter.unusedVariables false
open Nat renaming reduceShiftRight → cQ, reduceMod → dx, reduceLT → dB, reduceMul → dC, reduceSub → dD, reduceEqDiff → eI, reduceAdd → eJ, reduceLeDiff → fX, reduceBEq → gj
open Int renaming reduceToNat → gl, reduceNeg → ja, reduceLT → jg, reduceLE → jk, reduceEq → mA
set_option maxRecDepth 100000
set_option maxHeartbeats 80000000
namespace Go.Proofs.Ytfmdmlfhigocaaa
open Go.VL
section
variable {t:List Int}{Bs IQ:List (List Bool)}{C:List ay}
theorem NU (h:∀p n,(eV C n).pass t Bs p=(eV C n).pass t IQ p):iV t Bs C=iV t IQ C:=by unfold iV;apply agC;intro p _;rw[vn (m:=t.length-p+1) (λi _ n=>h _ n) _ (af3 _)]
theorem F6 {p:Nat} (h:∀n,(eV C n).pass t Bs p=(eV C n).pass t IQ p):∀(k n:Nat) (st:Aq),jJ t Bs C p k n st=jJ t IQ C p k n st
 |0,_,_=>rfl
 |k+1,n,st=>by have ih:=F6 h k;rw[jJ,jJ];simp only[h,ih]
theorem A8 {p:Nat} (h:∀n,(eV C n).pass t Bs p=(eV C n).pass t IQ p):∀(l:List Nat) (st:Aq),hU t Bs C p l st=hU t IQ C p l st
 |[],_=>rfl
 |n::l,st=>by have ih:=A8 h l;unfold hU at ih ⊢;rw[List.foldl_cons,List.foldl_cons,F6 h,ih]
theorem Fj (h:∀p n,(eV C n).pass t Bs p=(eV C n).pass t IQ p):∀p,cR t Bs C p=cR t IQ C p
 |0=>rfl
 |p+1=>by rw[cR,cR,Fj h p,A8 (h p),F6 (h p)]
theorem Sx (h:∀p n,(eV C n).pass t Bs p=(eV C n).pass t IQ p):wW t Bs C=wW t IQ C:=by unfold wW;rw[Fj h]
end
variable{m:Nat}{p:ic}{t:List Int}
def XZ (i:ay):Prop:=i.op=1\/i.op=5\/i.node=none
theorem Ni {x:Re} (hs:x.every mv=true) {k:Nat} (hR:∀j,k<=j->j<k+x.looks->j≠m) (t:List Int) (Bs:List (List Bool)) (l:List Bool) (p n:Nat):(eV (x.emit k []++[cq]) n).pass t Bs p=(eV (x.emit k []++[cq]) n).pass t (Bs.set m l) p:=by
 have h1:=Mj (λj=>j≠m) x hs k hR [] ⟨by simp,by simp⟩;have hP:tK XZ (λ_=>true):=⟨λi x y h=>h,λx y=>.inr (.inr rfl),λx=>.inr (.inr rfl),λre k _ o=>.inl rfl,λre k _ o=>.inr (.inl rfl),λre _ _=>⟨.inr (.inr rfl),.inr (.inr rfl)⟩⟩
 have h2:kL XZ (x.emit k []):=Fm hP x (iR (λ_ _=>rfl) x hs) k [] (λi hi=>by simp at hi);by_cases hn:n<(x.emit k []).length
 ·have hm:eV (x.emit k []++[cq]) n∈x.emit k []:=by unfold eV;rw[af9,af2 hn,afP hn];exact List.getElem_mem hn
  generalize eV (x.emit k []++[cq]) n=i at *;obtain⟨_,q1,q5⟩:=h1.1 i hm;unfold ay.pass;rcases h2 i hm with o|o|o
  ·obtain⟨re,k',e1,e2,_⟩:=q1 o;rw[e1];simp only[e2,if_true]
  ·obtain⟨re,k',e1,e2,e3,e4⟩:=q5 o;rw[e1];simp only[e2,if_false];by_cases rO:re.op=11
   ·rw[be rO,be rO]
   ·have e:(Bs.set m l).getD k' []=Bs.getD k' []:=by rw[af9,af9,agp (Ne.symm (e4 rO))]
    rw[ap rO,ap rO,e]
  ·rw[o]
 ·have mT:(eV (x.emit k []++[cq]) n).node=none:=by
   unfold eV;rw[af9,af6 (by omega)];cases n-(x.emit k []).length with
   |zero=>rfl
   |succ j=>rfl
  unfold ay.pass;rw[mT]
theorem xa {r:Re}{i:Nat}{x:Re} (hk:r.kids=[x]) (hs:x.every mv=true) (hR:∀j,i+1<=j->j<i+1+x.looks->j≠m) (t:List Int) (Bs:List (List Bool)) (l:List Bool):dK t (Bs.set m l) r i=dK t Bs r i:=by
 have he:Re.dn r.kids (i+1) []=x.emit (i+1) []:=by rw[hk,Re.dn,Re.dn]
 have hp:=λp n=>Ni hs hR t Bs l p n;unfold dK;simp only[he];rw[NU hp,Sx hp]
theorem DI (t:List Int) (Bs:List (List Bool)) (r:Re) (i:Nat):dK t Bs r.flip i=(dK t Bs r i).map not:=by unfold dK;simp only[uM,AR,BX,agy];apply agC;intro b _;simp only[Function.comp_apply];cases b <;> cases r.neg <;> rfl
def oZ (m:Nat) (Bs:List (List Bool)):List (List Bool):=Bs.set m ((Bs.getD m []).map not)
theorem Ek {t:List Int}{L L':List (Re×Nat)}{m k:Nat}{r:Re} (h:M4 L L' m k r) (hL:∀i,i<L.length->∃r,A4 L 0 i r):∀c,c<=L.length->aU t L' c=oZ m (aU t L c)
 |0,_=>by
  have hg:(List.replicate L.length ([]:List Bool)).getD m []=[]:=by
   rw[af9];cases hq:(List.replicate L.length ([]:List Bool))[m]? with
   |none=>rfl
   |some y=>have:=afW hq;rw[List.mem_replicate]at this;rw[this.2];rfl
  rw[aU,aU,oZ,h.len,hg];apply agT;intro j;by_cases hj:m=j
  ·subst hj;by_cases hl:m<L.length
   ·rw[agc (by simpa using hl),List.getElem?_replicate,be hl];rfl
   ·rw[agG (by simp;omega),agG (by simp;omega)]
  ·rw[agp hj]
 |c+1,hc=>by
  have ih:=Ek (t:=t) h hL c (by omega);obtain⟨i,hi⟩:∃i,i=L.length-1-c:=⟨_,rfl⟩
  have Wt:i<L.length:=by omega
  obtain⟨x,⟨q,hx,_⟩,ho,DL,⟨y,hy,_⟩,hfit⟩:=hL i Wt;have hys:y.every mv=true:=((Re.aB x).1 DL).2 y (by rw[hy];simp);have C7:x.looks=1+y.looks:=by rw[Re.eA,be ho,hy];simp [Re.aD]
  have Ms:=dk t L c;have hm:m<L.length:=(List.getElem?_eq_some_iff.1 h.one).1;rw[aU,aU,h.len,<- hi,hx,ih];by_cases OD:i=m
  ·subst OD;have hxr:x=r/\q=k:=by have:=h.one;rw[hx]at this;simpa using this
   obtain⟨rfl,rfl⟩:=hxr;rw[h.two];simp only;have e1:dK t (oZ i (aU t L c)) x.flip i=(dK t (aU t L c) x i).map not:=by rw[DI];unfold oZ;rw[xa hy hys (λj h1 h2=>by omega)]
   rw[e1];unfold oZ;rw[List.set_set,List.set_set,af9,agc (by omega)];rfl
  ·rw[h.oth i OD,hx];simp only;have e1:dK t (oZ m (aU t L c)) x i=dK t (aU t L c) x i:=by
    unfold oZ;refine xa hy hys (λj h1 h2=>?_) t _ _;by_cases az:i<m
    ·have:=h.out i x q az hx;omega
    ·omega
   rw[e1];unfold oZ;rw[af9,af9,agp OD];exact List.set_comm _ _ (Ne.symm OD)
theorem Hi:∀(p:List Int) (re:Re),qm re p->(re.atR p).1.kids≠[]->qm re (p++[0])
 |[],re,_,h=>by rw[kd]at h;refine cd.2 ⟨agn _,?_⟩;obtain⟨k,l,hk⟩:=List.exists_cons_of_ne_nil h;exact⟨k,by rw[hk];rfl,AZ k⟩
 |i::p,re,ho,h=>by obtain⟨h0,k,hk,fO⟩:=cd.1 ho;rw[jd h0 hk]at h;exact cd.2 ⟨h0,k,hk,Hi p k fO h⟩
theorem Jw (h:dg p t=0):∀i,i<(p.re.bw 0).length->∃r,A4 (p.re.bw 0) 0 i r:=by obtain⟨a,_,_⟩:=sh h;obtain⟨b1,_,b3⟩:=yH a;obtain⟨v1,v2,v3,v4,v5⟩:=db b1;have DL:=nF v4 p.re v5 v1;unfold mS at b3;rw[agb]at b3;intro i hi;rw[Re.nG]at hi;exact LG p.re DL b3.2 0 i hi
theorem KL (h:dg p t=0):(pS p t).length=p.re.looks/\∀l∈pS p t,l.length=t.length+1:=by have e:pS p t=aU t (p.re.bw 0) (p.re.bw 0).length:=be h;rw[e];refine⟨by rw[dk,Re.nG],λl hl=>?_⟩;obtain⟨j,hj,rfl⟩:=List.mem_iff_getElem.1 hl;rw[dk]at hj;obtain⟨l,h1,h2⟩:=iW t (p.re.bw 0) (p.re.bw 0).length j hj (by omega);rw[afP (by rw[dk];exact hj)]at h1;rw[Option.some.inj h1];exact h2
structure aaR (p:ic) (t:List Int) (num:Nat) (path:List Int):Prop where
 ok:qm p.re path
 short:path.length<=5
 bC:(p.re.dO path (p.re.atR path).1.flip).1.bC=true
 acc:dg ⟨(p.re.dO path (p.re.atR path).1.flip).1,p.ak,p.aN⟩ t=0
 lt:num<p.re.looks
 bits:pS ⟨(p.re.dO path (p.re.atR path).1.flip).1,p.ak,p.aN⟩ t=oZ num (pS p t)
theorem SH (h:dg p t=0) (hf:p.re.bC=true) (hd:p.re.depth<=7) {q:Nat×List Int} (hq:q∈p.re.wg 0 []):aaR p t q.1 q.2:=by
 obtain⟨path,h1,⟨o1,o2,o3,o4,o5⟩⟩:=VC p.re 0 [] q hq;rw[afS]at h1;obtain⟨num,mL⟩:=q;have h1:mL=path:=h1;subst h1;have o5:M4 (p.re.bw 0) ((p.re.dO mL (p.re.atR mL).1.flip).1.bw 0) (num-0) num (p.re.atR mL).1:=o5;rw[Nat.sub_zero]at o5;have hlen:=(List.getElem?_eq_some_iff.1 o5.one).1;have az:num<p.re.looks:=by rw[Re.nG]at hlen;exact hlen
 obtain⟨r,⟨q2,hr,_⟩,ho,_,⟨x,hx,_⟩,_⟩:=Jw h num hlen;have wE:r=(p.re.atR mL).1:=by have:=o5.one;rw[hr]at this;simpa using (Prod.mk.inj (Option.some.inj this)).1
 have hko:qm p.re (mL++[0]):=Hi _ _ o1 (by rw[<- wE,hx];simp);have hsh:=CE _ _ hko;have iE:dg ⟨(p.re.dO mL (p.re.atR mL).1.flip).1,p.ak,p.aN⟩ t=0:=by have e:vO ⟨(p.re.dO mL (p.re.atR mL).1.flip).1,p.ak,p.aN⟩=vO p:=Ks o4 rfl rfl;unfold dg at h ⊢;rw[e];exact h
 rw[af7,agv]at hsh;refine⟨o1,(by omega:mL.length<=5),JO (EH _ (Gn _ _ hf o1)) _ _ hf o1,iE,az,?_⟩;have e1:pS p t=aU t (p.re.bw 0) (p.re.bw 0).length:=be h;have e2:pS ⟨(p.re.dO mL (p.re.atR mL).1.flip).1,p.ak,p.aN⟩ t=aU t ((p.re.dO mL (p.re.atR mL).1.flip).1.bw 0) ((p.re.dO mL (p.re.atR mL).1.flip).1.bw 0).length:=be iE;rw[e1,e2,o5.len];exact Ek o5 (Jw h) _ (af3 _)
theorem Qu {i:Nat}{A:List (List Bool)}{la:List Bool} (h:A[i]?=some la):(oZ m A)[i]?=some (if i=m then la.map not else la):=by
 have hi:=(List.getElem?_eq_some_iff.1 h).1;unfold oZ;by_cases OD:i=m
 ·subst OD;rw[be rfl,agc hi,af9,h];rfl
 ·rw[ap OD,agp (Ne.symm OD)];exact h
theorem Pa (m:Nat) (A:List (List Bool)):(oZ m A).length=A.length:=by simp [oZ]
theorem Hh (re:Re):re.flip.set=re.set:=by cases re;rfl
theorem LZ (re:Re):re.flip.mn=re.mn:=by cases re;rfl
theorem Mw (re:Re):re.flip.mx=re.mx:=by cases re;rfl
theorem D4 (re:Re):re.flip.mode=re.mode:=by cases re;rfl
theorem Qb (re:Re):re.flip.n=re.n:=by cases re;rfl
theorem Lc (re:Re):re.flip.cells=[iD re.op,.sl (re.set.map aV),.sl (re.kids.map Re.cells),iD re.mn,iD re.mx,iD re.mode,iD re.n,bD (!re.neg)]:=by rw[Re.ae,AR,Hh,uM,LZ,Mw,D4,Qb,BX]
theorem xc (l:List Int) (hl:∀x∈l,jC x) (m:List Int) (hm:∀x∈m,jC x) (x:Int) (hx:jC x) :
  aO Try.prog 5 [.d (al l),.d (al m),i64 x] (bV true):=by
 obtain⟨p,t,xi,hS⟩:=NA l m hl hm;have MH:=sL p hS.bC;have Fw:=M7;have fF:=(db hS.valid).1;have XK:=QU p.re (by omega) 0 [] (by omega) (by simp;omega);have Fv:=Bn p.re 0 [];have hlo:=l6 p.re;have hlen:=hS.len;have LF:vO p=0->dg p t=0:=λh=>by unfold dg;have Xn:=hS.sym;rw[<- hS.aN]at Xn;rw[ap (by omega),ap (by omega),ap (by rw[Xn];simp)]
 have dA:=λh q hq=>SH (p:=p) (t:=t) (LF h) hS.bC hS.depth (q:=q) hq;have Y3:=λh=>KL (p:=p) (t:=t) (LF h);have LD:=x8 p t hS.bC (by omega);have sK:=λh (q:Nat×List Int) hq=>x8 ⟨(p.re.dO q.2 (p.re.atR q.2).1.flip).1,p.ak,p.aN⟩ t (dA h q hq).bC (by omega);have GO:=λh (q:Nat×List Int) hq=>XI q.2 p.re hS.bC (by have:=(dA h q hq).short;omega);have Hk:=λh (q:Nat×List Int) hq=>Nr p.re (p.re.atR q.2).1.flip q.2 (dA h q hq).short hS.bC (EH _ (Gn _ _ hS.bC (dA h q hq).ok)) (dA h q hq).ok;generalize hO:p.re.wg 0 []=O at *;cases p with
 |mk re ak aN =>
 simp only at *;have X1:=LF;generalize hA:pS ⟨re,ak,aN⟩ t=A at *;simp only[aZ,SB,Re.ae re,afR,afU,afQ,afS,ai re,i64,iD,bD,bV,al]at xi MH XK Fw;by_cases Jl:vO ⟨re,ak,aN⟩=0
 ·rw[Jl]at MH;by_cases hO0:O.length=0
  ·have hO':O=[]:=List.length_eq_zero_iff.1 hO0;subst hO';simp only[afU]at XK;refine an Try.func5 rfl Try.ntmps5 Try.results5 rfl 0 8388551 (by simp) (by simp) ?_;simp only[zX,cQ,dx,dB,dC,dD,gl,ja,jg,jk,mA,eI,eJ,fX,reduceIte,reduceCtorEq,gj,i64,bV,iD,bD,al];refine aj xi rfl rfl ?_;simp only[zX,cQ,dx,dB,dC,dD,gl,ja,jg,jk,mA,eI,eJ,fX,reduceIte,reduceCtorEq,gj,i64,bV,iD,bD,al];refine aj MH rfl rfl ?_;simp only[zX,cQ,dx,dB,dC,dD,gl,ja,jg,jk,mA,eI,eJ,fX,reduceIte,reduceCtorEq,gj,i64,bV,iD,bD,al,ne_eq,not_true_eq_false];refine fp _ rfl (aj XK rfl rfl ?_);simp only[zX,cQ,dx,dB,dC,dD,gl,ja,jg,jk,mA,eI,eJ,fX,reduceIte,reduceCtorEq,gj,i64,bV,iD,bD,al,af0,agk];refine aj Fw rfl rfl ?_;simp only[zX,cQ,dx,dB,dC,dD,gl,ja,jg,jk,mA,eI,eJ,fX,reduceIte,reduceCtorEq,gj,i64,bV,iD,bD,al]
  ·have Yu:=EF x O.length (by omega) hx;obtain⟨Up,Ee⟩:=Gd x O.length (by omega) hx;obtain⟨kk,di⟩:∃kk:Nat,pM x O.length=kk:=⟨(pM x O.length).toNat,by omega⟩
   rw[di]at Yu Ee;obtain⟨q,hq⟩:∃q,O[kk]?=some q:=⟨_,afP (by omega)⟩
   have YW:=afW hq;obtain⟨n1,n2,n3,n4,n5,n6⟩:=dA Jl q YW;have sK:=sK Jl q YW;have GO:=GO Jl q YW;have Hk:=Hk Jl q YW;have Y3:=Y3 Jl;have hE:=GI _ _ n1;have AB:=nk (re.atR q.2).1.flip _ _ n1;rw[n6,n4]at sK;simp only[hA]at sK;rw[X1 Jl]at LD;rw[hE]at GO;unfold m7 at Hk;rw[AB]at Hk;clear dA X1 n1 n2 n3 n4 n6 hE AB LF;generalize (re.atR q.2).1=r at *;generalize (re.dO q.2 r.flip).1=rq at *;have h00:¬(O.length:Int)=0:=by omega
   have hqi:(kk:Int)<(O.length:Int):=by omega
   have Vl:(0:Int)<=(kk:Int):=by omega
   obtain⟨num,path⟩:=q;simp only at Hk GO sK n5;simp only[aZ,Re.ae re,Re.ae r,Re.ae rq,Lc r,afR,afU,afQ,afS,ai,AR,Hh,uM,LZ,Mw,D4,Qb,BX,i64,iD,bD,bV,al]at LD sK GO Hk Yu;clear hO hA;refine an Try.func5 rfl Try.ntmps5 Try.results5 rfl 0 8388551 (by simp) (by simp) ?_;simp only[zX,cQ,dx,dB,dC,dD,gl,ja,jg,jk,mA,eI,eJ,fX,reduceIte,reduceCtorEq,gj,i64,bV,iD,bD,al];refine aj xi rfl rfl ?_;simp only[zX,cQ,dx,dB,dC,dD,gl,ja,jg,jk,mA,eI,eJ,fX,reduceIte,reduceCtorEq,gj,i64,bV,iD,bD,al];refine aj MH rfl rfl ?_;simp only[zX,cQ,dx,dB,dC,dD,gl,ja,jg,jk,mA,eI,eJ,fX,reduceIte,reduceCtorEq,gj,i64,bV,iD,bD,al,ne_eq,not_true_eq_false];refine fp _ rfl (aj XK rfl rfl ?_);simp only[zX,cQ,dx,dB,dC,dD,gl,ja,jg,jk,mA,eI,eJ,fX,reduceIte,reduceCtorEq,gj,i64,bV,iD,bD,al,afN,h00];refine aj Yu rfl rfl ?_;simp only[zX,cQ,dx,dB,dC,dD,gl,ja,jg,jk,mA,eI,eJ,fX,reduceIte,reduceCtorEq,gj,i64,bV,iD,bD,al,afN];refine aS bO.bf ?_;refine ar mix [] [(10,[1],[1]),(11,[1],[1])] (by rfl) ?_;simp only[zX,cQ,dx,dB,dC,dD,gl,ja,jg,jk,mA,eI,eJ,fX,reduceIte,reduceCtorEq,gj,i64,bV,iD,bD,al,sm,afN,hole,hq,hqi,Vl,afT,afO,afV];refine bp GO rfl rfl ?_;simp only[zX,cQ,dx,dB,dC,dD,gl,ja,jg,jk,mA,eI,eJ,fX,reduceIte,reduceCtorEq,gj,i64,bV,iD,bD,al,sm,afN,hole];refine aS bO.bf ?_;refine ar mix [] [(11,[3],[3]),(12,[3],[3])] (by rfl) ?_;simp only[zX,cQ,dx,dB,dC,dD,gl,ja,jg,jk,mA,eI,eJ,fX,reduceIte,reduceCtorEq,gj,i64,bV,iD,bD,al,sm,afN,hole,hq,hqi,Vl,afT,afO,afV];refine bp Hk rfl rfl ?_;simp only[zX,cQ,dx,dB,dC,dD,gl,ja,jg,jk,mA,eI,eJ,fX,reduceIte,reduceCtorEq,gj,i64,bV,iD,bD,al,sm,afN,hole];refine aj LD rfl rfl ?_;simp only[zX,cQ,dx,dB,dC,dD,gl,ja,jg,jk,mA,eI,eJ,fX,reduceIte,reduceCtorEq,gj,i64,bV,iD,bD,al,sm,afN,hole];refine aj sK rfl rfl ?_;simp only[zX,cQ,dx,dB,dC,dD,gl,ja,jg,jk,mA,eI,eJ,fX,reduceIte,reduceCtorEq,gj,i64,bV,iD,bD,al,sm,lJ,afN,hole,ne_eq,not_true_eq_false];have hAl:A.length<=256:=by have:=Y3.1;omega
   have hBl:=Pa num A;have ep:=λi la h=>Qu (m:=num) (A:=A) (i:=i) (la:=la) h;have qt:=Y3.2;generalize oZ num A=B at *;have u1:((A.length:Int)=(B.length:Int))=True:=eq_true (by omega);simp only[zX,cQ,dx,dB,dC,dD,gl,ja,jg,jk,mA,eI,eJ,fX,reduceIte,reduceCtorEq,gj,u1,decide_true];refine au (λn e s=>∃i:Nat,n=A.length-i/\i<=A.length/\e 8=.d (al t)/\e 9=.d (.sl (O.map λq=>[iD (q.1:Int)]))/\e 11=i64 kk/\e 17=lJ A/\e 19=lJ B/\e 21=i64 i/\s=[])
    ⟨_,_,_,br.cut (s':=[]) 0 (af3 0) rfl rfl [8,9,11,17,19,21] (by simp [bz,aH,ah]),0,rfl,by omega,rfl,rfl,rfl,rfl,rfl,rfl,rfl⟩ ?_
   clear LD sK GO Hk Yu MH XK xi;rintro n e s ⟨i,rfl,hi,q8,q9,kM,OB,OG,SM,rfl⟩;simp only[al,lJ,bD]at q8 OB OG;rcases agi i A.length with az|fI
   ·obtain⟨la,Wv⟩:∃la,A[i]?=some la:=⟨_,afP az⟩
    have aas:=qt la (afW Wv);have GN:=ep i la Wv;have aeF:(if i=num then la.map not else la).length=t.length+1:=by split <;> simp [aas]
    have Ca:∀(j:Nat) (y:Bool),la[j]?=some y->(if i=num then la.map not else la)[j]?=some (if i=num then !y else y):=by
     intro j y hy;split
     ·rw[afO,hy];rfl
     ·exact hy
    generalize (if i=num then la.map not else la)=lb at *;have m0:(0:Int)<=(i:Int):=by omega
    have m1:(i:Int)<(A.length:Int):=by omega
    have m2:(i:Int)<(B.length:Int):=by omega
    have wt:IntKind.i64.wrap ((t.length:Int)+1)=(t.length:Int)+1:=bd _ (by omega);have v1:((la.length:Int)=(t.length:Int)+1)=True:=eq_true (by omega);have v2:((lb.length:Int)=(t.length:Int)+1)=True:=eq_true (by omega);have wc:IntKind.i64.wrap ((i:Int)+1)=((i+1:Nat):Int):=by rw[bd _ (by omega)];rfl
    simp only[zX,cQ,dx,dB,dC,dD,gl,ja,jg,jk,mA,eI,eJ,fX,reduceIte,reduceCtorEq,gj,i64,bV,iD,bD,q8,q9,kM,OB,OG,SM,m0,m1,m2,Wv,GN,afN,afO,afV,afT,wt,v1,v2,decide_true,ne_eq,not_true_eq_false];refine au (λn e s=>∃j:Nat,n=t.length+1-j/\j<=t.length+1/\e 8=.d (al t)/\e 9=.d (.sl (O.map λq=>[iD (q.1:Int)]))/\e 11=i64 kk/\e 17=lJ A/\e 19=lJ B/\e 21=i64 i/\e 22=i64 j/\s=[]) ?_ ?_
    ·refine⟨_,_,_,br.refl,0,rfl,by omega,?_,?_,?_,?_,?_,?_,?_,rfl⟩ <;> (try simp only[zU,gj,cQ,dx,eI,reduceIte])
     all_goals first|exact q8|exact q9|exact kM|exact OB|exact OG|exact SM|rfl
    clear q8 q9 kM OB OG SM;rintro n e s ⟨j,rfl,hj,q8,q9,kM,OB,OG,SM,Z2,rfl⟩;simp only[al,lJ,bD,i64]at q8 OB OG kM;rcases agi j (t.length+1) with PD|hjg
    ·obtain⟨y,hy⟩:∃y,la[j]?=some y:=⟨_,afP (by omega)⟩
     have hz:=Ca j y hy;have n0:(0:Int)<=(j:Int):=by omega
     have n1:(j:Int)<(la.length:Int):=by omega
     have n2:(j:Int)<(lb.length:Int):=by omega
     have wj:IntKind.i64.wrap ((j:Int)+1)=((j+1:Nat):Int):=by rw[bd _ (by omega)];rfl
     have Zm:((y == if i=num then !y else y) == !decide ((i:Int)=(num:Int)))=true:=by
      by_cases OD:i=num
      ·rw[be OD,bi (by omega)];cases y <;> rfl
      ·rw[ap OD,b6 (by omega)];cases y <;> rfl
     generalize (if i=num then !y else y)=z at *;simp only[zX,cQ,dx,dB,dC,dD,gl,ja,jg,jk,mA,eI,eJ,fX,reduceIte,reduceCtorEq,gj,i64,bV,iD,bD,q8,q9,kM,OB,OG,SM,Z2,m0,m1,m2,Wv,GN,n0,n1,n2,afN,afO,afV,afT];refine ar mix [] [] (by rfl) ?_;simp only[zX,cQ,dx,dB,dC,dD,gl,ja,jg,jk,mA,eI,eJ,fX,reduceIte,reduceCtorEq,gj,i64,bV,iD,bD,q8,q9,kM,OB,OG,SM,Z2,m0,m1,m2,Wv,GN,n0,n1,n2,hy,hz,hq,hqi,Vl,afN,afO,afV,afT,ne_eq,Zm,wj];refine⟨t.length+1-(j+1),_,_,by omega,br.refl,j+1,rfl,by omega,?_,?_,?_,?_,?_,?_,?_,rfl⟩ <;> (try simp only[zU,gj,cQ,dx,eI,reduceIte])
     ·exact q8
     ·exact q9
     ·exact kM
     ·exact OB
     ·exact OG
     ·exact SM
    ·have KR:j=t.length+1:=by omega
     subst KR;have n1:¬((t.length+1:Nat):Int)<(la.length:Int):=by omega
     simp only[zX,cQ,dx,dB,dC,dD,gl,ja,jg,jk,mA,eI,eJ,fX,reduceIte,reduceCtorEq,gj,i64,bV,iD,bD,q8,q9,kM,OB,OG,SM,Z2,m0,m1,m2,Wv,GN,n1,afN,afO,afV,afT,wc];refine⟨A.length-(i+1),_,_,by omega,br.refl,i+1,rfl,by omega,?_,?_,?_,?_,?_,?_,rfl⟩ <;> (try simp only[zU,gj,cQ,dx,eI,reduceIte])
     ·exact q8
     ·exact q9
     ·exact kM
     ·exact OB
     ·exact OG
   ·have cV:i=A.length:=by omega
    subst cV;have m1:¬(A.length:Int)<(A.length:Int):=by omega
    simp only[zX,cQ,dx,dB,dC,dD,gl,ja,jg,jk,mA,eI,eJ,fX,reduceIte,reduceCtorEq,gj,i64,bV,iD,bD,q8,q9,kM,OB,OG,SM,m1,afN];refine aj Fw rfl rfl ?_;simp only[zX,cQ,dx,dB,dC,dD,gl,ja,jg,jk,mA,eI,eJ,fX,reduceIte,reduceCtorEq,gj,i64,bV,iD,bD]
 ·refine an Try.func5 rfl Try.ntmps5 Try.results5 rfl 0 8388551 (by simp) (by simp) ?_;simp only[zX,cQ,dx,dB,dC,dD,gl,ja,jg,jk,mA,eI,eJ,fX,reduceIte,reduceCtorEq,gj,i64,bV,iD,bD,al];refine aj xi rfl rfl ?_;simp only[zX,cQ,dx,dB,dC,dD,gl,ja,jg,jk,mA,eI,eJ,fX,reduceIte,reduceCtorEq,gj,i64,bV,iD,bD,al];refine aj MH rfl rfl ?_;simp only[zX,cQ,dx,dB,dC,dD,gl,ja,jg,jk,mA,eI,eJ,fX,reduceIte,reduceCtorEq,gj,i64,bV,iD,bD,al,ne_eq,Jl,not_false_eq_true];refine aj Fw rfl rfl ?_;simp only[zX,cQ,dx,dB,dC,dD,gl,ja,jg,jk,mA,eI,eJ,fX,reduceIte,reduceCtorEq,gj,i64,bV,iD,bD,al]
end Go.Proofs.Ytfmdmlfhigocaaa
namespace Go.VL
open Go.ChangeShapes Go.WideShapes Go.ChangeAt Go.RowKit
variable{W:World}
def T2:Gh:=⟨λ_=>none,λ_=>False⟩
theorem X3 (b:Nat):¬Own T2 [] b:=by
 rintro (h|⟨id,o,base,h1,_⟩)
 ·exact h
 ·simp at h1
theorem aaz (w:World):Inv T2 [] w :=
 ⟨λid o h=>by simp at h,λid kN o o' b base bI h=>by simp at h,λb h=>h.elim,λid o b base h=>by simp at h⟩
theorem run_pure {P:Program}{f:FuncId}{args:List V}{r:Bool}{vals:Array Value} (h:aO P f args (.d (.sc (.bool r)))) (hv:vals.size=args.length) (hrep:∀(i:Nat) (x:V),args[i]?=some x->aA T2 [] W x (vals.getD i undef)) :
  Calls P f vals W λe w'=>e=.returned (.bool r)/\Below W.heap.size W w':=by
 refine(h.2 T2 W vals (aaz W) hv hrep).mono λe w' ⟨u,v,σ',s',h1,h2,h3,h4,h5,h6⟩=>?_;subst h5;cases h4 with|d h4=>?_
 cases h4 with|sc _ _=>?_
 exact⟨h1,h2.os,h2.tape,h2.output,h2.size,λb hb=>h2.aY b hb (X3 b)⟩
theorem RV (k:IntKind) (n:Int):aA T2 [] W (.d (.sc (.int k n))) (.int k n):=.d (.sc _ rfl)
theorem Qq{a:Addr}{len cap:Nat}{zs:List Int}{k:IntKind} (hl:len<=cap) (hz:zs.length=cap) (qh:∀i,i<zs.length->W.cell? (a.add i)=some (.int k (zs.getD i 0))) :
  aA T2 [] W (.d (.sl ((zs.take len).map λx=>[D.sc (.int k x)]))) (.slice (some a) len cap):=by
 have hlen:((zs.take len).map λx=>[D.sc (Value.int k x)]).length=len:=by simp;omega
 have XJ:=cJ.sl (O:=Own T2 []) (w:=W) ((zs.take len).map λx=>[D.sc (.int k x)]) a cap 1 (λi _=>.int k (zs.getD i 0)) (by rw[hlen];exact hl)
  (λcB=>by
   have:0<len:=by
    rcases Nat.eq_zero_or_pos len with h|h
    ·subst h;simp at cB
    ·exact h
   have:=World.cell?_spot (qh 0 (by omega));simpa [Addr.add]using this)
  (λe he=>by obtain⟨x,_,rfl⟩:=List.mem_map.1 he;rfl)
  (λi j x hx=>by
   simp only[afO]at hx;cases hi:(zs.take len)[i]? with
   |none=>simp [hi]at hx
   |some y =>
    simp only[hi,afV,agE]at hx;have hj:j=0:=by cases j with|zero=>rfl|succ j=>simp at hx
    subst hj;have Wt:i<len/\i<zs.length:=by have:=(List.getElem?_eq_some_iff.1 hi).1;simp at this;omega
    refine⟨?_,X3 _⟩;have oz:=World.cell?_spot (qh 0 (by omega));have hc:=qh i Wt.2;obtain⟨b,off,sp⟩:=a;have Z7:sp=none:=by simpa [Addr.add]using oz
    subst Z7;rw[add_plain]at hc;simpa using hc)
  (λi j x hx=>by
   simp only[afO]at hx;cases hi:(zs.take len)[i]? with
   |none=>simp [hi]at hx
   |some y =>
    simp only[hi,afV,agE]at hx;have hj:j=0:=by cases j with|zero=>rfl|succ j=>simp at hx
    subst hj;simp only[agm,afY]at hx;subst hx;have Wt:i<len/\i<zs.length:=by have:=(List.getElem?_eq_some_iff.1 hi).1;simp at this;omega
    have hy:zs.getD i 0=y:=by rw[agt,be Wt.1]at hi;simp [List.getD,hi]
    rw[hy];exact .sc _ rfl)
 rw[hlen]at XJ;exact .d XJ
open Go.ChangeShapes Go.WideShapes Go.ChangeAt Go.RowKit
theorem JR {H:Type}{enc:TypeId×Value->H}{P:Program}{W:World}{t e:TypeId}{k:IntKind}{a0:Option Addr}{len cap:Nat}{d:DataW H}{ps:List MemPlace} (ht:P.underlying t=some (.slice e)) (he:P.underlying e=some (.int k)) (hc:P.cellsOf e=1)
  (h:DataW.Trod enc P W 0 (λ_=>true) true t (.slice a0 len cap) d ps) :
  ∃l:List Int,(∀x∈l,(Lit.int k x).wf=true)/\aA T2 [] W (.d (.sl (l.map λx=>[D.sc (.int k x)]))) (.slice a0 len cap):=by
 obtain⟨ack,hf⟩:=h;rcases open_ints ht he hc hf with ⟨mZ,hx⟩|⟨a,ac8,nW,zs,mZ,_,hl,hm,hz,hx,qh,hwz⟩
 ·simp [Value.cells]at mZ;obtain⟨rfl,rfl,rfl⟩:=mZ;exact⟨[],λx hx=>by (cases hx),.d .nil⟩
 ·simp [Value.cells]at mZ;obtain⟨rfl,rfl,rfl⟩:=mZ;simp only[if_true]at hz;exact⟨zs.take len,λx hx=>hwz x (agJ hx),Qq hl hz qh⟩
section
variable {H:Type}{enc:TypeId×Value->H}{P:Program}{w:World}{base:Nat}{spare:Nat->Bool}{held:Bool}
end
end Go.VL
