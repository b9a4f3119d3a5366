/- A part of the proof (O17 O18 O19 O27). -/
import Derived.Test.YtfmdmlfhigocaaaON14
import Derived.Test.YtfmdmlfhigocaaaON31
import Derived.Test.YtfmdmlfhigocaaaON32
import Derived.Test.YtfmdmlfhigocaaaON33
import Derived.Test.YtfmdmlfhigocaaaON34
import Derived.Test.YtfmdmlfhigocaaaON39
set_option linter.unusedSimpArgs false
set_option linter.unusedVariables false
open Nat renaming reduceShiftRight → cQ, reduceMod → dx, reduceLT → dB, reduceMul → dC, reduceSub → dD, reduceEqDiff → eI, reduceAdd → eJ, reduceLeDiff → fX, reduceBEq → gj
open Int renaming reduceToNat → gl, reduceNeg → ja, reduceLT → jg, reduceLE → jk, reduceEq → mA
set_option maxRecDepth 100000
set_option maxHeartbeats 80000000
namespace Go.Proofs.Ytfmdmlfhigocaaa
open Go.VL
section
variable (t:List Int) (root parts:D) (bg nb:Nat) (Bs:List (List Bool)) (b a:Nat)
omit t root parts bg nb Bs b a in
def pt:V:=.cl (.func 55) [] [.rf 2 0 0 0]
omit t root parts bg nb Bs in
def wh:V:=.cl (.func 56) [] [.rf 3 0 0 0,mB b a,.rf 4 0 0 0,.rf 2 0 0 0]
theorem Pq (C:List ay) (g:Nat) (J:List Nat):lF [0,1,2,3,4,5,6] (wO t root parts bg nb Bs b a C++[bo g J])=wO t root parts bg nb Bs b a C++[bo g J]:=by simp only[wO,afQ,afS,lF,afR,afU,agW,agX,ji,pZ,lD _ (rfl:List.idxOf? 0 [0,1,2,3,4,5,6]=some 0)];rfl
omit t root parts bg nb Bs b a in
theorem LS {f:List ay->List ay}{z:Nat} (h:∀C,(f C).length=C.length+z):∀n C,∀x∈(ki f n C).2,x<(ki f n C).1.length
 |0,_,_,hx=>by simp [ki]at hx
 |n+1,C,x,hx=>by
  have ih:=LS h n C;simp only[ki,List.mem_append,List.mem_singleton]at hx;simp only[ki,h,af7,agv];rcases hx with hx|rfl
  ·have:=ih x hx;omega
  ·omega
def Ty (re x:Re):Prop:=∀(k:Nat) (C:List ay),C.length+re.gD<=1000000000000 ->
 aq Try.prog 62 [.d (re.bj k),pt,wh b a] (wO t root parts bg nb Bs b a C) λv s=>∃g,v=.so 6 g 0 (mW (x.emit k) re.mn re.mx C).2.length/\s=wO t root parts bg nb Bs b a (mW (x.emit k) re.mn re.mx C).1++[bo g (mW (x.emit k) re.mn re.mx C).2]
theorem Lp (re x:Re) (o:re.op=4) (hE:LB re=true) (hk:re.kids=[x]) (hK:xS t root parts bg nb Bs b a x):Ty t root parts bg nb Bs b a re x:=by
 intro k C hC;obtain⟨_,_,_,m0,m1,x0,x1,_,_⟩:=qV.1 hE;have fO:=λC=>wU t root parts bg nb Bs b a C;have hf:∀C,(x.emit k C).length=C.length+x.gD:=λC=>Re.gi x k C;have hz:re.gD=if re.mx=-1 then re.mn.toNat*x.gD+x.gD+2 else re.mn.toNat*x.gD+(re.mx-re.mn).toNat*(x.gD+1):=by rw[Re.kr,uW,ap (by omega),ap (by omega),ap (by omega),ap (by omega),be o,hk];simp [Re.c7]
 have JA:re.mn.toNat*x.gD<=re.gD:=by
  rw[hz];split
  ·omega
  ·exact Nat.le_add_right _ _
 have Gb:Re.dH re.kids k=[[x.bj k]]:=by rw[hk];rfl
 have cB:re.bj k=.el [iD 4,.sl (re.set.map aV),.sl (re.kids.map Re.cells),iD re.mn,iD re.mx,iD re.mode,iD re.n,bD re.neg,.sl [[x.bj k]],iD k]:=by rw[Re.dV,ap (by omega),ag0,Gb,o]
 have hq:([[x.bj k]]:List (List D))[0]?=some [x.bj k]:=rfl;rw[cB];unfold pt wh;generalize hR:mW (x.emit k) re.mn re.mx C=R;refine pJ Try.func62 rfl Try.ntmps62 Try.results62 rfl 6 6917529027641094343 (af3 6) (by first|decide|(simp;done)) ?_;simp only[zX,cQ,dx,dB,dC,dD,gl,ja,jg,jk,mA,eI,eJ,fX,reduceIte,reduceCtorEq,gj,i64,bV,iD,bD];refine au (λn e s=>∃i:Nat,n=re.mn.toNat-i/\i<=re.mn.toNat/\e 0=.d (.el [iD 4,.sl (re.set.map aV),.sl (re.kids.map Re.cells),iD re.mn,iD re.mx,iD re.mode,iD re.n,bD re.neg,.sl [[x.bj k]],iD k])/\e 1=pt/\e 2=wh b a/\e 12=i64 re.mn/\e 13=i64 i/\s=wS t root parts bg nb Bs b a (iS (x.emit k) i C))
  ⟨_,_,_,br.refl,0,rfl,by omega,rfl,rfl,rfl,rfl,rfl,rfl⟩ ?_
 rintro n e s ⟨i,rfl,hi,h0,h1,h2,jn,fk,rfl⟩;have Wt:(iS (x.emit k) i C).length=C.length+i*x.gD:=uG hf i C;have OD:i*x.gD<=re.mn.toNat*x.gD:=agw _ hi;rw[show wS t root parts bg nb Bs b a (iS (x.emit k) i C)=wO t root parts bg nb Bs b a (iS (x.emit k) i C) from rfl];by_cases az:(i:Int)<re.mn
 ·have DZ:iS (x.emit k) (i+1) C=x.emit k (iS (x.emit k) i C):=rfl;have aae:(i+1)*x.gD<=re.mn.toNat*x.gD:=agw _ (by omega);rw[Nat.succ_mul]at aae;have hw:=λK hk=>qy hK k (C:=iS (x.emit k) i C) (by omega) (tl:=[]) (K:=K) hk;rw[<- DZ]at hw;simp only[List.append_nil]at hw;generalize iS (x.emit k) i C=C1 at *;generalize hC2:iS (x.emit k) (i+1) C=C2 at *;unfold dj at hw;generalize x.bj k=xd at *;simp only[zX,cQ,dx,dB,dC,dD,gl,ja,jg,jk,mA,eI,eJ,fX,reduceIte,reduceCtorEq,gj,i64,bV,iD,bD,wO,h0,h1,h2,jn,fk,az,wh,afZ,af0,afX,hq];refine⟨by decide,?_⟩;refine hw _ ?_;simp only[zX,cQ,dx,dB,dC,dD,gl,ja,jg,jk,mA,eI,eJ,fX,reduceIte,reduceCtorEq,gj,i64,bV,iD,bD,h0,h1,h2,jn,fk];refine⟨re.mn.toNat-(i+1),_,_,by omega,br.refl,i+1,by omega,by omega,?_,?_,?_,?_,?_,by rw[hC2];rfl⟩ <;> (try simp only[zU,gj,cQ,dx,eI,reduceIte])
  ·exact h0
  ·exact h1
  ·exact h2
  ·exact jn
  ·rw[bd _ (by omega)];rfl
 ·have cV:i=re.mn.toNat:=by omega
  subst cV;have Wn:R=if re.mx=-1 then (x.emit k (iS (x.emit k) re.mn.toNat C++[eT 0 0])++[lZ (iS (x.emit k) re.mn.toNat C).length],[(iS (x.emit k) re.mn.toNat C).length]) else ki (x.emit k) (re.mx-re.mn).toNat (iS (x.emit k) re.mn.toNat C):=hR.symm
  generalize iS (x.emit k) re.mn.toNat C=C1 at *;by_cases hm:re.mx=-1
  ·rw[be hm]at Wn hz;have y3:=λK hk=>kf (t:=t) (root:=root) (parts:=parts) (bg:=bg) (nb:=nb) (Bs:=Bs) (b:=b) (a:=a) (C:=C1) (by omega) 2 0 0 0 (tl:=[]) (K:=K) hk;have hw:=λK hk=>qy hK k (C:=C1++[eT 0 0]) (by rw[af7,agv];omega) (tl:=[bo 0 [C1.length]]) (K:=K) hk;have CZ:(x.emit k (C1++[eT 0 0])).length<=1000000000000:=by rw[hf,af7,agv];omega
   have As:=λK hk=>kf (t:=t) (root:=root) (parts:=parts) (bg:=bg) (nb:=nb) (Bs:=Bs) (b:=b) (a:=a) (C:=x.emit k (C1++[eT 0 0])) CZ 3 C1.length 0 0 (tl:=[bo 0 [C1.length]]) (K:=K) hk;rw[show (⟨2,0,0,0,none⟩:ay)=eT 0 0 from rfl]at y3;rw[show (⟨3,C1.length,0,0,none⟩:ay)=lZ C1.length from rfl]at As;subst Wn;generalize x.emit k (C1++[eT 0 0])++[lZ C1.length]=C4 at *;generalize x.emit k (C1++[eT 0 0])=C3 at *;generalize C1++[eT 0 0]=C2 at *;unfold dj at hw;simp only[List.append_nil]at y3;generalize x.bj k=xd at *;have u5:decide (re.mx=-1)=true:=bi hm;have hT:∀(J:List Nat),List.map (λ(x:Nat)=>[V.d (D.sc (Value.int IntKind.i64 (x:Int)))]) J=(bo 0 J).aw:=λJ=>rfl;simp only[zX,cQ,dx,dB,dC,dD,gl,ja,jg,jk,mA,eI,eJ,fX,reduceIte,reduceCtorEq,gj,i64,bV,iD,bD,h0,h1,h2,jn,fk,az,u5,pt,wh];refine y3 _ ?_;simp only[zX,cQ,dx,dB,dC,dD,gl,ja,jg,jk,mA,eI,eJ,fX,reduceIte,reduceCtorEq,gj,i64,bV,iD,bD,h0,h1,h2,jn,fk,u5,pt,wh,wO,afQ,afS,afZ,af0,afX,hq];first|refine⟨λe he=>by rw[List.mem_singleton.1 he];rfl,by decide,by decide,?_⟩|refine⟨λe he=>by rw[List.mem_singleton.1 he];rfl,by decide,?_⟩|refine⟨λe he=>by rw[List.mem_singleton.1 he];rfl,?_⟩
   refine hw _ ?_;simp only[zX,cQ,dx,dB,dC,dD,gl,ja,jg,jk,mA,eI,eJ,fX,reduceIte,reduceCtorEq,gj,i64,bV,iD,bD,h0,h1,h2,jn,fk,u5,pt,wh,wO,bo,afQ,afS,afZ,af0,afX,afR,afU];refine⟨by decide,?_⟩;refine As _ ?_;simp only[zX,cQ,dx,dB,dC,dD,gl,ja,jg,jk,mA,eI,eJ,fX,reduceIte,reduceCtorEq,gj,i64,bV,iD,bD,h0,h1,h2,jn,fk,sg,xR];refine⟨[0,1,2,3,4,5,6],rfl,0,?_⟩;rw[Pq];exact⟨rfl,rfl⟩
  ·rw[ap hm]at Wn hz;have u5:decide (re.mx=-1)=false:=b6 hm;have wx:IntKind.i64.wrap (re.mx-re.mn)=re.mx-re.mn:=bd _ (by omega);simp only[zX,cQ,dx,dB,dC,dD,gl,ja,jg,jk,mA,eI,eJ,fX,reduceIte,reduceCtorEq,gj,i64,bV,iD,bD,h0,h1,h2,jn,fk,az,u5,pt,wh];refine ar mix [] [] (by rfl) ?_;simp only[zX,cQ,dx,dB,dC,dD,gl,ja,jg,jk,mA,eI,eJ,fX,reduceIte,reduceCtorEq,gj,i64,bV,iD,bD,h0,h1,h2,jn,fk,wx];generalize hM:(re.mx-re.mn).toNat=m at *;refine au (λn e s=>∃(i g:Nat),n=m-i/\i<=m/\e 0=.d (.el [iD 4,.sl (re.set.map aV),.sl (re.kids.map Re.cells),iD re.mn,iD re.mx,iD re.mode,iD re.n,bD re.neg,.sl [[x.bj k]],iD k])/\e 1=pt/\e 2=wh b a/\e 7=.so 6 g 0 i/\e 61=i64 (re.mx-re.mn)/\e 62=i64 i/\s=wO t root parts bg nb Bs b a (ki (x.emit k) i C1).1++[bo g (ki (x.emit k) i C1).2])
    ⟨_,_,_,.DD (eE 7 1 rfl),0,0,rfl,by omega,?_,?_,?_,rfl,rfl,rfl,rfl⟩ ?_
   ·(try simp only[zU,gj,cQ,dx,eI,reduceIte]);exact h0
   ·(try simp only[zU,gj,cQ,dx,eI,reduceIte]);exact h1
   ·(try simp only[zU,gj,cQ,dx,eI,reduceIte]);exact h2
   clear h0 h1 h2 jn fk;rintro n e s ⟨i,g,rfl,hi,h0,h1,h2,h7,uS,vo,rfl⟩;obtain⟨ol1,ol2⟩:=xh hf i C1;have adp:i*(x.gD+1)<=m*(x.gD+1):=agw _ hi;rcases agi i m with aaW|aeK
   ·have aC:(i:Int)<re.mx-re.mn:=by omega
    have abk:(i+1)*(x.gD+1)<=m*(x.gD+1):=agw _ (by omega);rw[Nat.succ_mul]at abk;have DZ:ki (x.emit k) (i+1) C1=(x.emit k ((ki (x.emit k) i C1).1++[eT 0 0]),(ki (x.emit k) i C1).2++[(ki (x.emit k) i C1).1.length]):=rfl;generalize hO2:ki (x.emit k) (i+1) C1=O2 at *;generalize ki (x.emit k) i C1=O1 at *;obtain⟨D1,J⟩:=O1;simp only at ol1 ol2 DZ ⊢;have y3:=λK hk=>kf (t:=t) (root:=root) (parts:=parts) (bg:=bg) (nb:=nb) (Bs:=Bs) (b:=b) (a:=a) (C:=D1) (by omega) 2 0 0 0 (tl:=[bo g J]) (K:=K) hk;have hw:=λK hk=>qy hK k (C:=D1++[eT 0 0]) (by rw[af7,agv];omega) (tl:=[bo (g+1) (J++[D1.length])]) (K:=K) hk;rw[show (⟨2,0,0,0,none⟩:ay)=eT 0 0 from rfl]at y3;generalize x.emit k (D1++[eT 0 0])=D3 at *;generalize D1++[eT 0 0]=D2 at *;unfold dj at hw;have hT:List.take i (J.map λ(x:Nat)=>[V.d (D.sc (Value.int IntKind.i64 (x:Int)))])++[[V.d (D.sc (Value.int IntKind.i64 (D1.length:Int)))]]=(J++[D1.length]).map λ(x:Nat)=>[V.d (D.sc (Value.int IntKind.i64 (x:Int)))]:=by rw[af1 (by rw[afN];omega)];simp
    simp only[zX,cQ,dx,dB,dC,dD,gl,ja,jg,jk,mA,eI,eJ,fX,reduceIte,reduceCtorEq,gj,i64,bV,iD,bD,h0,h1,h2,h7,uS,vo,aC,pt,wh];refine y3 _ ?_;simp only[zX,cQ,dx,dB,dC,dD,gl,ja,jg,jk,mA,eI,eJ,fX,reduceIte,reduceCtorEq,gj,i64,bV,iD,bD,h0,h1,h2,h7,uS,vo,pt,wh,wO,bo,afQ,afS,afZ,af0,afX,afN,hT];refine⟨λe he=>by rw[List.mem_singleton.1 he];rfl,⟨by omega,by omega⟩,by decide,?_⟩;refine hw _ ?_;simp only[zX,cQ,dx,dB,dC,dD,gl,ja,jg,jk,mA,eI,eJ,fX,reduceIte,reduceCtorEq,gj,i64,bV,iD,bD,h0,h1,h2,h7,uS,vo];refine⟨m-(i+1),_,_,by omega,br.refl,i+1,g+1,rfl,aaW,?_,?_,?_,?_,?_,?_,by rw[hO2,DZ];rfl⟩ <;> (try simp only[zU,gj,cQ,dx,eI,reduceIte])
    ·exact h0
    ·exact h1
    ·exact h2
    ·exact uS
    ·rw[bd _ (by omega)];rfl
   ·have cV:i=m:=by omega
    subst cV;have ZH:¬(i:Int)<re.mx-re.mn:=by omega
    simp only[zX,cQ,dx,dB,dC,dD,gl,ja,jg,jk,mA,eI,eJ,fX,reduceIte,reduceCtorEq,gj,i64,bV,iD,bD,h0,h1,h2,h7,uS,vo,ZH,sg,xR];refine⟨[0,1,2,3,4,5,6],rfl,g,?_⟩;rw[Pq,Wn,ol2];exact⟨rfl,rfl⟩
end
section
variable (t:List Int) (root parts:D) (bg nb:Nat) (Bs:List (List Bool)) (b a:Nat)
variable {t root parts bg nb Bs b a}
theorem PV {re x:Re} (h:Ty t root parts bg nb Bs b a re x) (k:Nat) {C:List ay} (hC:C.length+re.gD<=1000000000000) {K:V->List VL.Obj->Prop}
  (hk:∀g,K (.so 7 g 0 (mW (x.emit k) re.mn re.mx C).2.length) (wO t root parts bg nb Bs b a (mW (x.emit k) re.mn re.mx C).1++[nN re k,bo g (mW (x.emit k) re.mn re.mx C).2])) :
  aq Try.prog 62 [.d (re.bj k),pt,wh b a] (wO t root parts bg nb Bs b a C++[nN re k]) K:=by
 have aaV:=Km t root parts bg nb Bs b a C;refine jc (h k C hC) [0,1,2,3,4,5] rfl (by decide) (λj o ho=>?_) ?_ ?_ (wU t root parts bg nb Bs b a C) ?_
 ·have h1:((wO t root parts bg nb Bs b a C).map (aT [0,1,2,3,4,5]))[j]?=some (aT [0,1,2,3,4,5] o):=by rw[afO,ho];rfl
  rw[aaV]at h1;have hj:j<6:=(List.getElem?_eq_some_iff.1 h1).1;have e1:[0,1,2,3,4,5].getD j 0=j:=by
   match j,hj with
   |0,_=>rfl
   |1,_=>rfl
   |2,_=>rfl
   |3,_=>rfl
   |4,_=>rfl
   |5,_=>rfl
  rw[e1,af2 (by exact hj)];exact h1
 ·simp [pt,wh,aL,aL.go,mB]
 ·simp [pt,wh,ah,ah.go,mB,wO]
 rintro v s' ⟨g,rfl,rfl⟩ _;have hk:=hk g;generalize mW (x.emit k) re.mn re.mx C=R at *;have e1:uZ [0,1,2,3,4,5] (wO t root parts bg nb Bs b a C++[nN re k]) (wO t root parts bg nb Bs b a C) (wO t root parts bg nb Bs b a R.1++[bo g R.2])=[0,1,2,3,4,5,7]:=rfl;rw[e1];have e2:(wO t root parts bg nb Bs b a R.1).map (aT [0,1,2,3,4,5,7])=wO t root parts bg nb Bs b a R.1:=by simp only[wO,afR,afU,jY,fh];simp [aT,dp,oh,mB,aL,aL.go]
 have e3:List.take (wO t root parts bg nb Bs b a C).length (wO t root parts bg nb Bs b a R.1++[bo g R.2])=wO t root parts bg nb Bs b a R.1:=rfl;have e4:List.drop (wO t root parts bg nb Bs b a C).length (wO t root parts bg nb Bs b a R.1++[bo g R.2])=[bo g R.2]:=rfl;rw[e3,e4,e2,afR,afU,nJ];have e5:aL [0,1,2,3,4,5,7] (.so 6 g 0 R.2.length)=.so 7 g 0 R.2.length:=rfl;rw[e5];exact hk
variable (t root parts bg nb Bs b a)
theorem Rt (re x:Re) (o:re.op=4) (hE:LB re=true) (hk:re.kids=[x]) (hK:xS t root parts bg nb Bs b a x):xS t root parts bg nb Bs b a re:=by
 intro k C hC;have fO:=λC=>wU t root parts bg nb Bs b a C;have hrep:=Lp t root parts bg nb Bs b a re x o hE hk hK;have hc:re.emit k C=(mW (x.emit k) re.mn re.mx C).2.foldl (pY re.mode) (mW (x.emit k) re.mn re.mx C).1:=by rw[Re.ln,ap (by omega),ap (by omega),ap (by omega),ap (by omega),ap (by omega),be o,hk];rfl
 have WH:(mW (x.emit k) re.mn re.mx C).1.length<=1000000000000:=by have h1:=Re.gi re k C;rw[hc,tQ]at h1;omega
 have X0:∀c∈(mW (x.emit k) re.mn re.mx C).2,c<(mW (x.emit k) re.mn re.mx C).1.length:=by
  intro c UB;have hf:∀C,(x.emit k C).length=C.length+x.gD:=λC=>Re.gi x k C;unfold mW at UB ⊢;simp only at UB ⊢;split at UB
  ·rename_i hm;rw[be hm];rw[List.mem_singleton]at UB;simp only[af7,hf,agv];omega
  ·rename_i hm;rw[ap hm];exact LS hf _ _ c UB
 have Wy:(mW (x.emit k) re.mn re.mx C).2.length<=3000000:=by
  obtain⟨_,_,_,m0,m1,x0,x1,_,_⟩:=qV.1 hE;have hf:∀C,(x.emit k C).length=C.length+x.gD:=λC=>Re.gi x k C;unfold mW;simp only;split
  ·simp
  ·rw[(xh hf _ _).2];omega
 rw[hc];have wL:=λK hk=>PV hrep k hC (K:=K) hk;unfold dj;have Gb:Re.dH re.kids k=[[x.bj k]]:=by rw[hk];rfl
 have cB:re.bj k=.el [iD 4,.sl (re.set.map aV),.sl (re.kids.map Re.cells),iD re.mn,iD re.mx,iD re.mode,iD re.n,bD re.neg,.sl [[x.bj k]],iD k]:=by rw[Re.dV,ap (by omega),ag0,Gb,o]
 have nr:nN re k=⟨0,true,1,[[.d (re.bj k)]]⟩:=rfl;generalize mW (x.emit k) re.mn re.mx C=R at *;obtain⟨C1,J⟩:=R;simp only at WH X0 wL Wy ⊢;unfold pt wh at wL;rw[nr]at wL;rw[cB]at wL nr ⊢;simp only[iD,bD]at wL;refine an Try.func56 rfl Try.ntmps56 Try.results56 rfl 6 1278813932664544596687975450732993771492559903679 (af3 6) (by first|decide|(simp [dj];done)) ?_;simp only[zX,cQ,dx,dB,dC,dD,gl,ja,jg,jk,mA,eI,eJ,fX,reduceIte,reduceCtorEq,gj,i64,bV,iD,bD,wO,afQ,afS];refine wL _ (λg=>?_);simp only[zX,cQ,dx,dB,dC,dD,gl,ja,jg,jk,mA,eI,eJ,fX,reduceIte,reduceCtorEq,gj,i64,bV,iD,bD,wO,afQ,afS];refine au (λn e s=>∃j:Nat,n=J.length-j/\j<=J.length/\e 4=.rf 2 0 0 0/\e 5=.rf 6 0 0 0/\e 157=.so 7 g 0 J.length/\e 158=i64 J.length/\e 159=i64 j/\s=B6 t root parts bg nb Bs b a ((J.take j).foldl (pY re.mode) C1) re k g J)
  ⟨_,_,_,br.refl,0,rfl,by omega,rfl,rfl,rfl,rfl,rfl,by rw[B6,nr];rfl⟩ ?_
 rintro n e s ⟨j,rfl,hj,h4,h5,IB,IY,M3,rfl⟩;have XC:((J.take j).foldl (pY re.mode) C1).length=C1.length:=tQ _ _ _;rcases agi j J.length with az|fI
 ·obtain⟨c,hx⟩:∃c,J[j]?=some c:=⟨_,afP az⟩
  have hxb:=X0 c (afW hx);have aC:(j:Int)<(J.length:Int):=by omega
  have RG:(0:Int)<=(j:Int):=by omega
  have AJ:(J.take (j+1)).foldl (pY re.mode) C1=pY re.mode ((J.take j).foldl (pY re.mode) C1) c:=by rw[aR hx,List.foldl_append];rfl
  rw[show B6 t root parts bg nb Bs b a ((J.take j).foldl (pY re.mode) C1) re k g J=wO t root parts bg nb Bs b a ((J.take j).foldl (pY re.mode) C1)++[nN re k,bo g J] from rfl,nr];generalize (J.take j).foldl (pY re.mode) C1=Dc at *;have g1:(cG Dc.length b a Dc).g=Dc.length:=rfl;have g2:(cG Dc.length b a Dc).sz=5:=rfl;have g3:(cG Dc.length b a Dc).aw=Dc.map (ay.cells b a):=rfl;have g4:(cG Dc.length b a Dc).live=true:=rfl;obtain⟨y,hy⟩:∃y,Dc[c]?=some y:=⟨_,afP (by omega)⟩
  have c2:c<Dc.length:=by omega
  have c1:(c:Int)<(Dc.length:Int):=by omega
  have c0:(0:Int)<=(c:Int):=by omega
  have w1:IntKind.i64.wrap ((c:Int)+1)=(c:Int)+1:=bd _ (by omega);have VZ:eV Dc c=y:=by unfold eV;rw[af9,hy];rfl
  have e1:∀v,((Dc.map (ay.cells b a)).set c v)[c]?=some v:=λv=>agc (by simpa using c2);have e2:∀u (p q:Int),((Dc.map (ay.cells b a)).set c u).set c [V.d (D.sc (Value.int IntKind.i64 y.op)),V.d (D.sc (Value.int IntKind.i64 p)),V.d (D.sc (Value.int IntKind.i64 q)),V.d (D.sc (Value.int IntKind.i64 y.n)),bY b a y.node]=(yn Dc c p q).map (ay.cells b a):=by intro u p q;rw[List.set_set,yn,ahg,VZ];rfl
  have e4:∀(p q:Int),(yn Dc c p q)[c]?=some ⟨y.op,p,q,y.n,y.node⟩:=by intro p q;rw[yn,VZ];exact agc c2
  have e5:∀(p q p' q':Int) u,(((yn Dc c p q).map (ay.cells b a)).set c u).set c [V.d (D.sc (Value.int IntKind.i64 y.op)),V.d (D.sc (Value.int IntKind.i64 p')),V.d (D.sc (Value.int IntKind.i64 q')),V.d (D.sc (Value.int IntKind.i64 y.n)),bY b a y.node]=(yn Dc c p' q').map (ay.cells b a):=by intro p q p' q' u;rw[List.set_set,yn,yn,ahg,ahg,List.set_set,VZ];rfl
  have e6:∀(p q:Int) v,(((yn Dc c p q).map (ay.cells b a)).set c v)[c]?=some v:=λp q v=>agc (by simpa [nm]using c2);have e7:∀(p q:Int),(yn Dc c p q).length=Dc.length:=λp q=>nm _ _ _ _;by_cases YY:re.mode=1
  ·have RX:decide (re.mode=1)=true:=bi YY;simp only[zX,cQ,dx,dB,dC,dD,gl,ja,jg,jk,mA,eI,eJ,fX,reduceIte,reduceCtorEq,gj,i64,bV,iD,bD,wO,bo,oh,h4,h5,IB,IY,M3,aC,RG,az,hx,afT,afX,afN,afO,afV,afQ,afS];refine ar mix [] [(8,[5],[]),(9,[5],[]),(10,[5],[5]),(11,[5],[]),(12,[5],[]),(13,[5],[5])] (by rfl) ?_;simp only[zX,cQ,dx,dB,dC,dD,gl,ja,jg,jk,mA,eI,eJ,fX,reduceIte,reduceCtorEq,gj,i64,bV,iD,bD,h4,h5,IB,IY,M3,bU,aP,c0,c1,c2,g1,g2,g3,g4,hy,w1,afT,afX,afN,afO,afV,ay.cells,e1,e2,ags,agD,agZ,agH,afQ,afS,afZ,af0,RX];refine ar mix [] [(6,[5],[]),(7,[5],[]),(8,[5],[]),(11,[5],[]),(12,[5],[]),(13,[5],[]),(14,[5],[]),(15,[5],[]),(16,[5],[5]),(17,[5],[]),(18,[5],[]),(19,[5],[5])] (by rfl) ?_;simp only[zX,cQ,dx,dB,dC,dD,gl,ja,jg,jk,mA,eI,eJ,fX,reduceIte,reduceCtorEq,gj,i64,bV,iD,bD,h4,h5,IB,IY,M3,bU,aP,c0,c1,c2,g1,g2,g3,g4,hy,w1,afT,afX,afN,afO,afV,ay.cells,e1,e2,e4,e5,e6,e7,ags,agD,agZ,agH,afQ,afS,afZ,af0,RX];refine⟨J.length-(j+1),_,_,by omega,br.refl,j+1,rfl,az,?_,?_,?_,?_,?_,?_⟩ <;> (try simp only[zU,gj,cQ,dx,eI,reduceIte])
   ·exact h4
   ·exact h5
   ·exact IB
   ·exact IY
   ·rw[bd _ (by omega)];rfl
   ·rw[AJ,pY,be YY];simp only[B6,nr,wO,bo,oh,cG,e7,XC,iD,bD,afQ,afS,i64]
  ·have RX:decide (re.mode=1)=false:=b6 YY;simp only[zX,cQ,dx,dB,dC,dD,gl,ja,jg,jk,mA,eI,eJ,fX,reduceIte,reduceCtorEq,gj,i64,bV,iD,bD,wO,bo,oh,h4,h5,IB,IY,M3,aC,RG,az,hx,afT,afX,afN,afO,afV,afQ,afS];refine ar mix [] [(8,[5],[]),(9,[5],[]),(10,[5],[5]),(11,[5],[]),(12,[5],[]),(13,[5],[5])] (by rfl) ?_;simp only[zX,cQ,dx,dB,dC,dD,gl,ja,jg,jk,mA,eI,eJ,fX,reduceIte,reduceCtorEq,gj,i64,bV,iD,bD,h4,h5,IB,IY,M3,bU,aP,c0,c1,c2,g1,g2,g3,g4,hy,w1,afT,afX,afN,afO,afV,ay.cells,e1,e2,e4,e5,e6,e7,ags,agD,agZ,agH,afQ,afS,afZ,af0,RX];refine⟨J.length-(j+1),_,_,by omega,br.refl,j+1,rfl,az,?_,?_,?_,?_,?_,?_⟩ <;> (try simp only[zU,gj,cQ,dx,eI,reduceIte])
   ·exact h4
   ·exact h5
   ·exact IB
   ·exact IY
   ·rw[bd _ (by omega)];rfl
   ·rw[AJ,pY,ap YY];simp only[B6,nr,wO,bo,oh,cG,e7,XC,iD,bD,afQ,afS,i64]
 ·have KR:j=J.length:=by omega
  subst KR;rw[agj];simp only[zX,cQ,dx,dB,dC,dD,gl,ja,jg,jk,mA,eI,eJ,fX,reduceIte,reduceCtorEq,gj,i64,bV,iD,bD,h4,h5,IB,IY,M3,agO,B6,tk,fO];rfl
end
section
variable (t:List Int) (root parts:D) (bg nb:Nat) (Bs:List (List Bool)) (b a:Nat)
theorem Rh (re:Re):re.every LB=true->xS t root parts bg nb Bs b a re:=by
 refine Re.ind (Q:=λre=>re.every LB=true->xS t root parts bg nb Bs b a re) (λre ih hs=>?_) re;obtain⟨ez,iO⟩:=(Re.aB re).1 hs;have hK:∀x∈re.kids,xS t root parts bg nb Bs b a x:=λx hx=>ih x hx (iO x hx);obtain⟨q1,q2,_⟩:=qV.1 ez;by_cases o2:re.op=2
 ·exact PG t root parts bg nb Bs b a re o2 ez hK
 by_cases o3:re.op=3
 ·have cB:re.kids≠[]:=by have:=q2 o3;intro h;rw[h]at this;simp at this
  exact Pj t root parts bg nb Bs b a re re.kids.dropLast (re.kids.getLast cB) o3 ez (List.dropLast_concat_getLast cB).symm hK
 by_cases o4:re.op=4
 ·obtain⟨x,hx⟩:∃x,re.kids=[x]:=List.length_eq_one_iff.1 (q1 (.inl o4));exact Rt t root parts bg nb Bs b a re x o4 ez hx (hK x (by rw[hx];simp))
 by_cases o5:re.op=5
 ·obtain⟨x,hx⟩:∃x,re.kids=[x]:=List.length_eq_one_iff.1 (q1 (.inr o5));exact Ph t root parts bg nb Bs b a re x o5 ez hx (hK x (by rw[hx];simp))
 exact Nd t root parts bg nb Bs b a re ⟨o2,o3,o4,o5⟩
def cO (C:List ay):List VL.Obj:=[dp t root parts bg nb,fr bg Bs,⟨0,false,1,[[.pp 0 0 0 0 b a]]⟩,oh 6 C.length,
 ⟨0,true,1,[[.cl (.func 55) [] [.rf 3 0 0 0]]]⟩,
 ⟨0,true,1,[[.cl (.func 56) [] [.rf 4 0 0 0,mB b a,.rf 5 0 0 0,.rf 3 0 0 0]]]⟩,cG C.length b a C]
variable {t root parts bg nb Bs b a}
theorem L0 {f:FuncId}{args T3:List V}{r:V}{C C':List ay} (h:aq Try.prog f args (wO t root parts bg nb Bs b a C) λv s=>v=r/\s=wO t root parts bg nb Bs b a C') (ha:T3=args.map (aL [0,1,3,4,5,6])) (DC:ah.go 6 args=true) (hr:aL [0,1,3,4,5,6] r=r) {K:V->List VL.Obj->Prop}
  (hk:K r (cO t root parts bg nb Bs b a C')):aq Try.prog f T3 (cO t root parts bg nb Bs b a C) K:=by
 have hm:∀C,(wO t root parts bg nb Bs b a C).map (aT [0,1,3,4,5,6])=[dp t root parts bg nb,fr bg Bs,oh 6 C.length,
   ⟨0,true,1,[[.cl (.func 55) [] [.rf 3 0 0 0]]]⟩,
   ⟨0,true,1,[[.cl (.func 56) [] [.rf 4 0 0 0,mB b a,.rf 5 0 0 0,.rf 3 0 0 0]]]⟩,cG C.length b a C]:=by
  intro C;simp only[wO,afR,afU,jY,fh];simp [aT,dp,oh,mB,aL,aL.go]
 refine cH [0,1,3,4,5,6] h (by decide) rfl ?_ ha DC (wU t root parts bg nb Bs b a C) (r':=r) hr ?_
 ·have h2:(wO t root parts bg nb Bs b a C).map (λo=>some (aT [0,1,3,4,5,6] o))=((wO t root parts bg nb Bs b a C).map (aT [0,1,3,4,5,6])).map some:=by rw[agy];rfl
  rw[h2,hm];rfl
 ·rw[hm];exact hk
variable (t root parts bg nb Bs b a)
def cq:ay:=⟨0,0,0,0,none⟩
theorem P8 (re:Re) (hs:re.every LB=true) (hz:re.gD<=1000000) (k:Nat) :
  aq Try.prog 28 [.pp 0 0 0 0 b a,.d (re.bj k)] [dp t root parts bg nb,fr bg Bs] λv s=>v=.so 2 (re.emit k []++[cq]).length 0 (re.emit k []++[cq]).length/\s=[dp t root parts bg nb,fr bg Bs,cG (re.emit k []++[cq]).length b a (re.emit k []++[cq])]:=by
 have hw:=Rh t root parts bg nb Bs b a re hs k [] (by simp;omega);have hl:(re.emit k []).length<=1000000:=by rw[Re.gi];simp;omega
 have hp:aq Try.prog 55 [rH b a cq,.rf 2 0 0 0] (wO t root parts bg nb Bs b a (re.emit k [])) λv s=>v=i64 (re.emit k []).length/\s=wO t root parts bg nb Bs b a (re.emit k []++[cq]):=by have:=zh (t:=t) (root:=root) (parts:=parts) (bg:=bg) (nb:=nb) (Bs:=Bs) (b:=b) (a:=a) (C:=re.emit k []) (by omega) cq (tl:=[]) (K:=λv s=>v=i64 (re.emit k []).length/\s=wO t root parts bg nb Bs b a (re.emit k []++[cq])) ⟨rfl,by simp⟩;simpa using this
 generalize re.emit k []++[cq]=C2 at *;generalize re.emit k []=C1 at *;unfold dj at hw;generalize re.bj k=xd at *;refine pJ Try.func28 rfl Try.ntmps28 Try.results28 rfl 2 131071 (by simp) (by simp) ?_;simp only[zX,cQ,dx,dB,dC,dD,gl,ja,jg,jk,mA,eI,eJ,fX,reduceIte,reduceCtorEq,gj,i64,bV,iD,bD];refine Md (o:=⟨0,true,1,[[.pp 0 0 0 0 b a]]⟩) (v:=.pp 0 0 0 0 b a) 2 rfl rfl rfl ?_;have h1:K5 2 0 (.pp 0 0 0 0 b a) [dp t root parts bg nb,fr bg Bs,(⟨0,true,1,[[.pp 0 0 0 0 b a]]⟩:VL.Obj),⟨0,true,1,[[.fu []]]⟩,⟨0,true,1,[[.cl (.func 55) [] [.rf 3 0 0 0]]]⟩,⟨0,true,1,[[.cl (.func 56) [] [.rf 4 0 0 0,.rf 2 0 0 0,.rf 5 0 0 0,.rf 3 0 0 0]]]⟩] =
   [dp t root parts bg nb,fr bg Bs,⟨0,false,1,[[.pp 0 0 0 0 b a]]⟩,⟨0,true,1,[[.fu []]]⟩,⟨0,true,1,[[.cl (.func 55) [] [.rf 3 0 0 0]]]⟩,⟨0,true,1,[[.cl (.func 56) [] [.rf 4 0 0 0,mB b a,.rf 5 0 0 0,.rf 3 0 0 0]]]⟩]:=by
  simp only[K5,bM,agF,agm,agf,agd,afR,afU,MB];rfl
 have h2:List.map (nO 2 0 (.pp 0 0 0 0 b a)) [V.d xd,V.rf 4 0 0 0,V.rf 2 0 0 0,V.rf 5 0 0 0,V.rf 3 0 0 0]=[V.d xd,V.rf 4 0 0 0,mB b a,V.rf 5 0 0 0,V.rf 3 0 0 0]:=rfl;rw[show (⟨0,true,1,[[.pp 0 0 0 0 b a]]⟩:VL.Obj).g=0 from rfl,show [V.pp 0 0 0 0 b a].length=1 from rfl,h1,h2];refine g9 (pre:=[]) (post:=[]) 3 5 rfl rfl rfl ?_;refine L0 (C:=[]) (C':=C1) hw (by rfl) (by rfl) rfl ?_;simp only[zX,cQ,dx,dB,dC,dD,gl,ja,jg,jk,mA,eI,eJ,fX,reduceIte,reduceCtorEq,gj,i64,bV,iD,bD,cO];refine L0 (C:=C1) (C':=C2) hp (by rfl) (by rfl) rfl ?_;simp only[zX,cQ,dx,dB,dC,dD,gl,ja,jg,jk,mA,eI,eJ,fX,reduceIte,reduceCtorEq,gj,i64,bV,iD,bD,cO,oh,sg,xR];refine⟨[0,1,6],rfl,?_⟩;simp only[lF,afR,afU,agW,agX,ji,lD _ (rfl:List.idxOf? 0 [0,1,6]=some 0)];exact⟨rfl,rfl⟩
end
theorem yu (t:List Int) (Bs:List (List Bool)) (re:Re) (hs:re.every mv=true) (k:Nat) (hz:re.gD<=99999) (hB:∀j,k<=j->j<k+re.looks->∃l,Bs[j]?=some l/\l.length=t.length+1):m8 t Bs (re.emit k []++[cq]):=by
 have XH:=Mj (λj=>∃l,Bs[j]?=some l/\l.length=t.length+1) re hs k hB [] ⟨by simp,by simp⟩;have hl:=Re.gi re k [];rw[af0,afX]at hl;have hCL:(re.emit k []++[cq]).length=(re.emit k []).length+1:=by simp
 have get:∀n,n<(re.emit k []++[cq]).length->(n+1<(re.emit k []++[cq]).length/\eV (re.emit k []++[cq]) n∈re.emit k [])\/eV (re.emit k []++[cq]) n=cq:=by
  intro n hn;unfold eV;rw[af9];by_cases h:n<(re.emit k []).length
  ·refine .inl ⟨by omega,?_⟩;rw[af2 h,afP h];exact List.getElem_mem h
  ·refine .inr ?_;rw[af6 (by omega),show n-(re.emit k []).length=0 by omega];rfl
 generalize re.emit k []=C at *;refine⟨by omega,λn hn=>?_,λn hn ho=>?_,λn hn ho=>?_,λn hn ho=>?_,λn hn ho=>?_,λn hn ho=>?_⟩
 ·rcases get n hn with ⟨_,h⟩|h
  ·exact(XH.1 _ h).1
  ·rw[h];simp [cq]
 ·rcases get n hn with ⟨_,h⟩|h
  ·exact(XH.1 _ h).2.1 ho
  ·rw[h]at ho;simp [cq]at ho
 ·rcases get n hn with ⟨_,h⟩|h
  ·exact(XH.1 _ h).2.2 ho
  ·rw[h]at ho;simp [cq]at ho
 ·rcases get n hn with ⟨_,h⟩|h
  ·have:=XH.2 _ h;unfold GZ at this;omega
  ·rw[h]at ho;simp [cq]at ho
 ·rcases get n hn with ⟨_,h⟩|h
  ·have:=XH.2 _ h;unfold GZ at this;omega
  ·rw[h]at ho;simp [cq]at ho
 ·rcases get n hn with ⟨h,_⟩|h
  ·exact h
  ·rw[h]at ho;simp [cq]at ho
mutual
def Re.bw:Re->Nat->List (Re×Nat)
 |.mk op set kids mn mx mode n neg,k =>
  if op=7\/op=8 then (Re.mk op set kids mn mx mode n neg,k)::Re.cT kids (k+1) else Re.cT kids k
def Re.cT:List Re->Nat->List (Re×Nat)
 |[],_=>[]
 |x::l,k=>x.bw k++Re.cT l (k+x.looks)
end
mutual
theorem Re.Fy:∀(re:Re) (k:Nat),re.lk k=(re.bw k).map λp=>p.1.bj p.2
 |.mk op set kids mn mx mode n neg,k=>by have h:=Re.pT kids;rw[Re.lk,Re.bw];split <;> simp [h]
theorem Re.pT:∀(l:List Re) (k:Nat),Re.eC l k=(Re.cT l k).map λp=>p.1.bj p.2
 |[],_=>rfl
 |x::l,k=>by rw[Re.eC,Re.cT,Re.Fy x,Re.pT l,aha]
end
theorem Re.nG (re:Re) (k:Nat):(re.bw k).length=re.looks:=by rw[<- Re.zn re k,Re.Fy,afN]
theorem Re.pW (re:Re) (k:Nat):re.bw k=if re.op=7\/re.op=8 then (re,k)::Re.cT re.kids (k+1) else Re.cT re.kids k:=by
 cases re;rw[Re.bw];rfl
structure A4 (L:List (Re×Nat)) (k i:Nat) (r:Re):Prop where
 num:∃p,L[i]?=some (r,p)/\p=k+i
 op:r.op=7\/r.op=8
 osh:r.every mv=true
 short:∃x,r.kids=[x]/\1+dm x<=8192
 fit:i+r.looks<=L.length
theorem LG (re:Re):re.every mv=true->re.every Dp=true->∀k i,i<re.looks->∃r,A4 (re.bw k) k i r:=by
 refine Re.ind (Q:=λre=>re.every mv=true->re.every Dp=true->∀k i,i<re.looks->∃r,A4 (re.bw k) k i r) (λre ih hs hh k i hi=>?_) re;obtain⟨ez,iO⟩:=(Re.aB re).1 hs;obtain⟨RB,hh2⟩:=(Re.aB re).1 hh;have hL:∀(l:List Re) (k i:Nat),(∀x∈l,x∈re.kids)->i<Re.aD l->∃r,A4 (Re.cT l k) k i r:=by
  intro l;induction l with
  |nil=>intro k i _ h;simp [Re.aD]at h
  |cons x l yM =>
   intro k i hm h;rw[Re.aD]at h;have UQ:=Re.nG x k;have GM:∀k,(Re.cT l k).length=Re.aD l:=λk=>by rw[<- Re.ke l k,Re.pT,afN]
   rw[Re.cT];by_cases Vf:i<x.looks
   ·obtain⟨r,⟨p,a1,a2⟩,a3,a4,a5,a6⟩:=ih x (hm x (by simp)) (iO x (hm x (by simp))) (hh2 x (hm x (by simp))) k i Vf;refine⟨r,⟨p,?_,a2⟩,a3,a4,a5,?_⟩
    ·rw[af2 (by omega)];exact a1
    ·rw[af7];omega
   ·obtain⟨r,⟨p,a1,a2⟩,a3,a4,a5,a6⟩:=yM (k+x.looks) (i-x.looks) (λy hy=>hm y (by simp [hy])) (by omega);refine⟨r,⟨p,?_,by omega⟩,a3,a4,a5,?_⟩
    ·rw[af6 (by omega),UQ];exact a1
    ·rw[af7];omega
 rw[Re.pW];rw[Re.eA]at hi;by_cases ho:re.op=7\/re.op=8
 ·rw[be ho]at hi ⊢;have GM:(Re.cT re.kids (k+1)).length=Re.aD re.kids:=by rw[<- Re.ke re.kids (k+1),Re.pT,afN]
  obtain⟨q1,_⟩:=jS.1 ez;obtain⟨x,hx⟩:∃x,re.kids=[x]:=List.length_eq_one_iff.1 (q1 (by omega));cases i with
  |zero =>
   refine⟨re,⟨k,rfl,rfl⟩,ho,hs,⟨x,hx,?_⟩,?_⟩
   ·unfold Dp at RB;have hl:re.lr=true:=bi ho;rw[hl,hx]at RB;simpa using RB
   ·rw[Re.eA,be ho,afZ,GM];omega
  |succ i =>
   obtain⟨r,⟨p,a1,a2⟩,a3,a4,a5,a6⟩:=hL re.kids (k+1) i (λ_ h=>h) (by omega);exact⟨r,⟨p,by rw[agF];exact a1,by omega⟩,a3,a4,a5,by rw[afZ];omega⟩
 ·rw[ap ho,afX]at hi;rw[ap ho];exact hL re.kids k i (λ_ h=>h) hi
def dK (t:List Int) (Bs:List (List Bool)) (r:Re) (i:Nat):List Bool :=
 let C:=Re.dn r.kids (i+1) []++[cq]
 (if r.op=7 then iV t Bs C else wW t Bs C).map λb=>b != r.neg
def aU (t:List Int) (L:List (Re×Nat)):Nat->List (List Bool)
 |0=>List.replicate L.length []
 |c+1=>match L[L.length-1-c]? with
  |some p=>(aU t L c).set (L.length-1-c) (dK t (aU t L c) p.1 (L.length-1-c))
  |none=>aU t L c
theorem dk (t:List Int) (L:List (Re×Nat)):∀c,(aU t L c).length=L.length
 |0=>by simp [aU]
 |c+1=>by
  rw[aU];split
  ·rw[agl,dk t L c]
  ·exact dk t L c
theorem wq (t:List Int) (Bs:List (List Bool)) (C:List ay):(iV t Bs C).length=t.length+1:=by simp [iV]
theorem Ck (t:List Int) (Bs:List (List Bool)) (C:List ay):(wW t Bs C).length=t.length+1:=(vW t Bs C (t.length+1)).2.1
theorem qS (t:List Int) (Bs:List (List Bool)) (r:Re) (i:Nat):(dK t Bs r i).length=t.length+1:=by
 unfold dK;simp only[afN];split
 ·exact wq _ _ _
 ·exact Ck _ _ _
theorem iW (t:List Int) (L:List (Re×Nat)):∀c j,j<L.length->L.length<=j+c->∃l,(aU t L c)[j]?=some l/\l.length=t.length+1
 |0,j,h1,h2=>by omega
 |c+1,j,h1,h2=>by
  rw[aU];have hp:L.length-1-c<L.length:=by omega
  rw[afP hp];simp only;by_cases hj:j=L.length-1-c
  ·subst hj;exact⟨_,agc (by rw[dk];exact hp),qS _ _ _ _⟩
  ·obtain⟨l,h3,h4⟩:=iW t L c j h1 (by omega);exact⟨l,by rw[agp (Ne.symm hj)];exact h3,h4⟩
end Go.Proofs.Ytfmdmlfhigocaaa
