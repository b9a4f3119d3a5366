/- A part of the proof (O17 O18 O19 O27). -/
import Derived.Test.YtjjfioalgbecmaaGreatOQ33
import Derived.Test.YtjjfioalgbecmaaGreatOQ37
set_option linter.unusedSimpArgs false
set_option linter.unusedVariables false
open Nat renaming reduceShiftRight → jN, reduceMod → oN, reduceEqDiff → oV, reduceBEq → pZ
open Int renaming reduceNatCast' → D7
set_option maxRecDepth 100000
set_option maxHeartbeats 80000000
namespace Go.Proofs.YtjjfioalgbecmaaGreat
open Go.VL
section
variable (t:List Int) (root parts:D) (bg nb:Nat) (Bs:List (List Bool)) (b a:Nat)
omit t root parts bg nb Bs b a in
def pJ:V:=.cl (.func 63) [] [.rf 2 0 0 0]
omit t root parts bg nb Bs in
def xh:V:=.cl (.func 64) [] [.rf 3 0 0 0,mB b a,.rf 4 0 0 0,.rf 2 0 0 0]
theorem Si (C:List aq) (g:Nat) (J:List Nat):kx [0,1,2,3,4,5,6] (wO t root parts bg nb Bs b a C++[bp g J])=wO t root parts bg nb Bs b a C++[bp g J]:=by simp only[wO,ajN,ajO,kx,ajR,ajV,akM,akN,ju,qo,lU _ (rfl:List.idxOf? 0 [0,1,2,3,4,5,6]=some 0)];rfl
omit t root parts bg nb Bs b a in
theorem Oa {f:List aq->List aq}{z:Nat} (h:∀C,(f C).length=C.length+z):∀n C,∀x∈(fD f n C).2,x<(fD f n C).1.length
 |0,_,_,hx=>by simp [fD]at hx
 |n+1,C,x,hx=>by
  have ih:=Oa h n C;simp only[fD,akm,aj1]at hx;simp only[fD,h,ajQ,aki];rcases hx with hx|rfl
  ·have:=ih x hx;omega
  ·omega
def WW (re x:Re):Prop:=∀(k:Nat) (C:List aq),C.length+re.eC<=1000000000000 ->
 ar Tryz.prog 70 [.d (re.bk k),pJ,xh b a] (wO t root parts bg nb Bs b a C) λv s=>∃g,v=.so 6 g 0 (lY (x.emit k) re.mn re.mx C).2.length/\s=wO t root parts bg nb Bs b a (lY (x.emit k) re.mn re.mx C).1++[bp g (lY (x.emit k) re.mn re.mx C).2]
theorem NA (re x:Re) (o:re.op=4) (hE:NR re=true) (hk:re.kids=[x]) (hK:yq t root parts bg nb Bs b a x):WW t root parts bg nb Bs b a re x:=by
 intro k C hC;obtain⟨_,_,_,m0,m1,x0,x1,_,_⟩:=rN.1 hE;have gL:=λC=>xI t root parts bg nb Bs b a C;have hf:∀C,(x.emit k C).length=C.length+x.eC:=λC=>Re.ez x k C;have hz:re.eC=if re.mx=-1 then re.mn.toNat*x.eC+x.eC+2 else re.mn.toNat*x.eC+(re.mx-re.mn).toNat*(x.eC+1):=by rw[Re.ox,xU,bd,bd,bd,bd,be o,hk];simp [Re.cf]
 have Um:re.mn.toNat*x.eC<=re.eC:=by
  rw[hz];split
  ·omega
  ·exact Nat.le_add_right _ _
 have AV:Re.dP re.kids k=[[x.bk k]]:=by rw[hk];rfl
 have eU:re.bk k=.el [iD 4,.sl (re.set.map aT),.sl (re.kids.map Re.cells),iD re.mn,iD re.mx,iD re.mode,iD re.n,bD re.neg,.sl [[x.bk k]],iD k]:=by rw[Re.ek,bd,ak0,AV,o]
 have hq:([[x.bk k]]:List (List D))[0]?=some [x.bk k]:=rfl;rw[eU];unfold pJ xh;generalize hR:lY (x.emit k) re.mn re.mx C=R;refine zE Tryz.func70 rfl Tryz.ntmps70 Tryz.results70 rfl 6 6917529027641094343 (ajZ 6) (by first|decide|(simp;done)) ?_;simp only[zQ,simprocAttr,-D7];refine aw (λn e s=>∃i:Nat,n=re.mn.toNat-i/\i<=re.mn.toNat/\e 0=.d (.el [iD 4,.sl (re.set.map aT),.sl (re.kids.map Re.cells),iD re.mn,iD re.mx,iD re.mode,iD re.n,bD re.neg,.sl [[x.bk k]],iD k])/\e 1=pJ/\e 2=xh b a/\e 12=i64 re.mn/\e 13=i64 i/\s=wS t root parts bg nb Bs b a (ir (x.emit k) i C))
  ⟨_,_,_,bA.refl,0,rfl,ae,rfl,rfl,rfl,rfl,rfl,rfl⟩ ?_
 rintro n e s ⟨i,rfl,hi,h0,h1,h2,dV,gr,rfl⟩;have hil:(ir (x.emit k) i C).length=C.length+i*x.eC:=vt hf i C;have him:i*x.eC<=re.mn.toNat*x.eC:=akk _ hi;rw[show wS t root parts bg nb Bs b a (ir (x.emit k) i C)=wO t root parts bg nb Bs b a (ir (x.emit k) i C) from rfl];by_cases az:(i:Int)<re.mn
 ·have Mq:ir (x.emit k) (i+1) C=x.emit k (ir (x.emit k) i C):=rfl;have ad6:(i+1)*x.eC<=re.mn.toNat*x.eC:=akk _ ae;rw[Nat.succ_mul]at ad6;have hw:=λK hk=>qT hK k (C:=ir (x.emit k) i C) ae (tl:=[]) (K:=K) hk;rw[<- Mq]at hw;simp only[akh]at hw;generalize ir (x.emit k) i C=C1 at *;generalize WB:ir (x.emit k) (i+1) C=C2 at *;unfold dy at hw;generalize x.bk k=xd at *;simp only[zQ,simprocAttr,-D7,wO,h0,h1,h2,dV,gr,az,xh,ajW,ajX,ajT,hq];refine⟨aU,?_⟩;refine hw _ ?_;simp only[zQ,simprocAttr,-D7,h0,h1,h2,dV,gr];refine⟨re.mn.toNat-(i+1),_,_,ae,bA.refl,i+1,ae,ae,?_,?_,?_,?_,?_,by rw[WB];rfl⟩ <;> (try simp only[zU,pZ,jN,oN,oV,reduceIte])
  ·exact h0
  ·exact h1
  ·exact h2
  ·exact dV
  ·rw[bG _ ae];rfl
 ·have dX:i=re.mn.toNat:=by omega
  subst dX;have ZR:R=if re.mx=-1 then (x.emit k (ir (x.emit k) re.mn.toNat C++[cR 0 0])++[iT (ir (x.emit k) re.mn.toNat C).length],[(ir (x.emit k) re.mn.toNat C).length]) else fD (x.emit k) (re.mx-re.mn).toNat (ir (x.emit k) re.mn.toNat C):=hR.symm
  generalize ir (x.emit k) re.mn.toNat C=C1 at *;by_cases hm:re.mx=-1
  ·rw[be hm]at ZR hz;have oM:=λK hk=>ku (t:=t) (root:=root) (parts:=parts) (bg:=bg) (nb:=nb) (Bs:=Bs) (b:=b) (a:=a) (C:=C1) ae 2 0 0 0 (tl:=[]) (K:=K) hk;have hw:=λK hk=>qT hK k (C:=C1++[cR 0 0]) (by rw[ajQ,aki];omega) (tl:=[bp 0 [C1.length]]) (K:=K) hk;have BL:(x.emit k (C1++[cR 0 0])).length<=1000000000000:=by rw[hf,ajQ,aki];omega
   have Fh:=λK hk=>ku (t:=t) (root:=root) (parts:=parts) (bg:=bg) (nb:=nb) (Bs:=Bs) (b:=b) (a:=a) (C:=x.emit k (C1++[cR 0 0])) BL 3 C1.length 0 0 (tl:=[bp 0 [C1.length]]) (K:=K) hk;rw[show (⟨2,0,0,0,none⟩:aq)=cR 0 0 from rfl]at oM;rw[show (⟨3,C1.length,0,0,none⟩:aq)=iT C1.length from rfl]at Fh;subst ZR;generalize x.emit k (C1++[cR 0 0])++[iT C1.length]=C4 at *;generalize x.emit k (C1++[cR 0 0])=C3 at *;generalize C1++[cR 0 0]=C2 at *;unfold dy at hw;simp only[akh]at oM;generalize x.bk k=xd at *;have vT:decide (re.mx=-1)=true:=bi hm;have hT:∀(J:List Nat),List.map (λ(x:Nat)=>[V.d (D.sc (Value.int IntKind.i64 (x:Int)))]) J=(bp 0 J).au:=λJ=>rfl;simp only[zQ,simprocAttr,-D7,h0,h1,h2,dV,gr,az,vT,pJ,xh];refine oM _ ?_;simp only[zQ,simprocAttr,-D7,h0,h1,h2,dV,gr,vT,pJ,xh,wO,ajN,ajO,ajW,ajX,ajT,hq];first|refine⟨λe he=>by rw[List.mem_singleton.1 he];rfl,aU,aU,?_⟩|refine⟨λe he=>by rw[List.mem_singleton.1 he];rfl,aU,?_⟩|refine⟨λe he=>by rw[List.mem_singleton.1 he];rfl,?_⟩
   refine hw _ ?_;simp only[zQ,simprocAttr,-D7,h0,h1,h2,dV,gr,vT,pJ,xh,wO,bp,ajN,ajO,ajW,ajX,ajT,ajR,ajV];refine⟨aU,?_⟩;refine Fh _ ?_;simp only[zQ,simprocAttr,-D7,h0,h1,h2,dV,gr,Cl,v7];refine⟨[0,1,2,3,4,5,6],rfl,0,?_⟩;rw[Si];exact⟨rfl,rfl⟩
  ·rw[ap hm]at ZR hz;have vT:decide (re.mx=-1)=false:=ce hm;have wx:IntKind.i64.wrap (re.mx-re.mn)=re.mx-re.mn:=bG _ ae;simp only[zQ,simprocAttr,-D7,h0,h1,h2,dV,gr,az,vT,pJ,xh];refine cu mix [] [] ?_;simp only[zQ,simprocAttr,-D7,h0,h1,h2,dV,gr,wx];generalize hM:(re.mx-re.mn).toNat=m at *;refine aw (λn e s=>∃(i g:Nat),n=m-i/\i<=m/\e 0=.d (.el [iD 4,.sl (re.set.map aT),.sl (re.kids.map Re.cells),iD re.mn,iD re.mx,iD re.mode,iD re.n,bD re.neg,.sl [[x.bk k]],iD k])/\e 1=pJ/\e 2=xh b a/\e 7=.so 6 g 0 i/\e 61=i64 (re.mx-re.mn)/\e 62=i64 i/\s=wO t root parts bg nb Bs b a (fD (x.emit k) i C1).1++[bp g (fD (x.emit k) i C1).2])
    ⟨_,_,_,.K4 (fW 7 1 rfl),0,0,rfl,ae,?_,?_,?_,rfl,rfl,rfl,rfl⟩ ?_
   ·(try simp only[zU,pZ,jN,oN,oV,reduceIte]);exact h0
   ·(try simp only[zU,pZ,jN,oN,oV,reduceIte]);exact h1
   ·(try simp only[zU,pZ,jN,oN,oV,reduceIte]);exact h2
   clear h0 h1 h2 dV gr;rintro n e s ⟨i,g,rfl,hi,h0,h1,h2,h7,vB,vW,rfl⟩;obtain⟨ol1,ol2⟩:=xT hf i C1;have ahA:i*(x.eC+1)<=m*(x.eC+1):=akk _ hi;rcases akd i m with ae0|aiL
   ·have aA:(i:Int)<re.mx-re.mn:=by omega
    have afl:(i+1)*(x.eC+1)<=m*(x.eC+1):=akk _ ae;rw[Nat.succ_mul]at afl;have Mq:fD (x.emit k) (i+1) C1=(x.emit k ((fD (x.emit k) i C1).1++[cR 0 0]),(fD (x.emit k) i C1).2++[(fD (x.emit k) i C1).1.length]):=rfl;generalize hO2:fD (x.emit k) (i+1) C1=O2 at *;generalize fD (x.emit k) i C1=O1 at *;obtain⟨D1,J⟩:=O1;simp only at ol1 ol2 Mq ⊢;have oM:=λK hk=>ku (t:=t) (root:=root) (parts:=parts) (bg:=bg) (nb:=nb) (Bs:=Bs) (b:=b) (a:=a) (C:=D1) ae 2 0 0 0 (tl:=[bp g J]) (K:=K) hk;have hw:=λK hk=>qT hK k (C:=D1++[cR 0 0]) (by rw[ajQ,aki];omega) (tl:=[bp (g+1) (J++[D1.length])]) (K:=K) hk;rw[show (⟨2,0,0,0,none⟩:aq)=cR 0 0 from rfl]at oM;generalize x.emit k (D1++[cR 0 0])=D3 at *;generalize D1++[cR 0 0]=D2 at *;unfold dy at hw;have hT:List.take i (J.map λ(x:Nat)=>[V.d (D.sc (Value.int IntKind.i64 (x:Int)))])++[[V.d (D.sc (Value.int IntKind.i64 (D1.length:Int)))]]=(J++[D1.length]).map λ(x:Nat)=>[V.d (D.sc (Value.int IntKind.i64 (x:Int)))]:=by rw[akb (by rw[ajM];omega)];simp
    simp only[zQ,simprocAttr,-D7,h0,h1,h2,h7,vB,vW,aA,pJ,xh];refine oM _ ?_;simp only[zQ,simprocAttr,-D7,h0,h1,h2,h7,vB,vW,pJ,xh,wO,bp,ajN,ajO,ajW,ajX,ajT,ajM,hT];refine⟨λe he=>by rw[List.mem_singleton.1 he];rfl,⟨ae,ae⟩,aU,?_⟩;refine hw _ ?_;simp only[zQ,simprocAttr,-D7,h0,h1,h2,h7,vB,vW];refine⟨m-(i+1),_,_,ae,bA.refl,i+1,g+1,rfl,ae0,?_,?_,?_,?_,?_,?_,by rw[hO2,Mq];rfl⟩ <;> (try simp only[zU,pZ,jN,oN,oV,reduceIte])
    ·exact h0
    ·exact h1
    ·exact h2
    ·exact vB
    ·rw[bG _ ae];rfl
   ·have dX:i=m:=by omega
    subst dX;have adx:¬(i:Int)<re.mx-re.mn:=ae;simp only[zQ,simprocAttr,-D7,h0,h1,h2,h7,vB,vW,adx,Cl,v7];refine⟨[0,1,2,3,4,5,6],rfl,g,?_⟩;rw[Si,ZR,ol2];exact⟨rfl,rfl⟩
end
section
variable (t:List Int) (root parts:D) (bg nb:Nat) (Bs:List (List Bool)) (b a:Nat)
variable {t root parts bg nb Bs b a}
theorem SO {re x:Re} (h:WW t root parts bg nb Bs b a re x) (k:Nat) {C:List aq} (hC:C.length+re.eC<=1000000000000) {K:V->List VL.Obj->Prop}
  (hk:∀g,K (.so 7 g 0 (lY (x.emit k) re.mn re.mx C).2.length) (wO t root parts bg nb Bs b a (lY (x.emit k) re.mn re.mx C).1++[nX re k,bp g (lY (x.emit k) re.mn re.mx C).2])) :
  ar Tryz.prog 70 [.d (re.bk k),pJ,xh b a] (wO t root parts bg nb Bs b a C++[nX re k]) K:=by
 have Wx:=Ml t root parts bg nb Bs b a C;refine g9 (h k C hC) [0,1,2,3,4,5] rfl aU (λj o ho=>?_) ?_ ?_ (xI t root parts bg nb Bs b a C) ?_
 ·have h1:((wO t root parts bg nb Bs b a C).map (aN [0,1,2,3,4,5]))[j]?=some (aN [0,1,2,3,4,5] o):=by rw[List.getElem?_map,ho];rfl
  rw[Wx]at h1;have hj:j<6:=(List.getElem?_eq_some_iff.1 h1).1;have e1:[0,1,2,3,4,5].getD j 0=j:=by
   match j,hj with
   |0,_=>rfl
   |1,_=>rfl
   |2,_=>rfl
   |3,_=>rfl
   |4,_=>rfl
   |5,_=>rfl
  rw[e1,List.getElem?_append_left (by exact hj)];exact h1
 ·simp [pJ,xh,aE,aE.go,mB]
 ·simp [pJ,xh,aj,aj.go,mB,wO]
 rintro v s' ⟨g,rfl,rfl⟩ _;have hk:=hk g;generalize lY (x.emit k) re.mn re.mx C=R at *;have e1:pY [0,1,2,3,4,5] (wO t root parts bg nb Bs b a C++[nX re k]) (wO t root parts bg nb Bs b a C) (wO t root parts bg nb Bs b a R.1++[bp g R.2])=[0,1,2,3,4,5,7]:=rfl;rw[e1];have e2:(wO t root parts bg nb Bs b a R.1).map (aN [0,1,2,3,4,5,7])=wO t root parts bg nb Bs b a R.1:=by simp only[wO,ajR,ajV,ko,fr];simp [aN,dz,oy,mB,aE,aE.go]
 have e3:List.take (wO t root parts bg nb Bs b a C).length (wO t root parts bg nb Bs b a R.1++[bp g R.2])=wO t root parts bg nb Bs b a R.1:=rfl;have e4:List.drop (wO t root parts bg nb Bs b a C).length (wO t root parts bg nb Bs b a R.1++[bp g R.2])=[bp g R.2]:=rfl;rw[e3,e4,e2,ajR,ajV,nS];have e5:aE [0,1,2,3,4,5,7] (.so 6 g 0 R.2.length)=.so 7 g 0 R.2.length:=rfl;rw[e5];exact hk
variable (t root parts bg nb Bs b a)
theorem Uu (re x:Re) (o:re.op=4) (hE:NR re=true) (hk:re.kids=[x]) (hK:yq t root parts bg nb Bs b a x):yq t root parts bg nb Bs b a re:=by
 intro k C hC;have gL:=λC=>xI t root parts bg nb Bs b a C;have hrep:=NA t root parts bg nb Bs b a re x o hE hk hK;have hc:re.emit k C=(lY (x.emit k) re.mn re.mx C).2.foldl (nn re.mode) (lY (x.emit k) re.mn re.mx C).1:=by rw[Re.iK,bd,bd,bd,bd,bd,be o,hk];rfl
 have Z2:(lY (x.emit k) re.mn re.mx C).1.length<=1000000000000:=by have h1:=Re.ez re k C;rw[hc,uQ]at h1;omega
 have abB:∀c∈(lY (x.emit k) re.mn re.mx C).2,c<(lY (x.emit k) re.mn re.mx C).1.length:=by
  intro c X3;have hf:∀C,(x.emit k C).length=C.length+x.eC:=λC=>Re.ez x k C;unfold lY at X3 ⊢;simp only at X3 ⊢;split at X3
  ·rename_i hm;rw[be hm];rw[aj1]at X3;simp only[ajQ,hf,aki];omega
  ·rename_i hm;rw[ap hm];exact Oa hf _ _ c X3
 have NF:(lY (x.emit k) re.mn re.mx C).2.length<=3000000:=by
  obtain⟨_,_,_,m0,m1,x0,x1,_,_⟩:=rN.1 hE;have hf:∀C,(x.emit k C).length=C.length+x.eC:=λC=>Re.ez x k C;unfold lY;simp only;split
  ·simp
  ·rw[(xT hf _ _).2];omega
 rw[hc];have WY:=λK hk=>SO hrep k hC (K:=K) hk;unfold dy;have AV:Re.dP re.kids k=[[x.bk k]]:=by rw[hk];rfl
 have eU:re.bk k=.el [iD 4,.sl (re.set.map aT),.sl (re.kids.map Re.cells),iD re.mn,iD re.mx,iD re.mode,iD re.n,bD re.neg,.sl [[x.bk k]],iD k]:=by rw[Re.ek,bd,ak0,AV,o]
 have nD:nX re k=⟨0,true,1,[[.d (re.bk k)]]⟩:=rfl;generalize lY (x.emit k) re.mn re.mx C=R at *;obtain⟨C1,J⟩:=R;simp only at Z2 abB WY NF ⊢;unfold pJ xh at WY;rw[nD]at WY;rw[eU]at WY nD ⊢;simp only[iD,bD]at WY;refine lr Tryz.func64 rfl Tryz.ntmps64 Tryz.results64 rfl 6 1278813932664544596687975450732993771492559903679 (ajZ 6) (by first|decide|(simp [dy];done)) ?_;simp only[zQ,simprocAttr,wO,ajN,ajO];refine WY _ (λg=>?_);simp only[zQ,simprocAttr,wO,ajN,ajO];refine aw (λn e s=>∃j:Nat,n=J.length-j/\j<=J.length/\e 4=.rf 2 0 0 0/\e 5=.rf 6 0 0 0/\e 157=.so 7 g 0 J.length/\e 158=i64 J.length/\e 159=i64 j/\s=C9 t root parts bg nb Bs b a ((J.take j).foldl (nn re.mode) C1) re k g J)
  ⟨_,_,_,bA.refl,0,rfl,ae,rfl,rfl,rfl,rfl,rfl,by rw[C9,nD];rfl⟩ ?_
 rintro n e s ⟨j,rfl,hj,h4,h5,KA,K0,PD,rfl⟩;have S9:((J.take j).foldl (nn re.mode) C1).length=C1.length:=uQ _ _ _;rcases akd j J.length with az|gx
 ·obtain⟨c,hx⟩:∃c,J[j]?=some c:=cc az;have Ys:=abB c (List.mem_of_getElem? hx);have aA:(j:Int)<(J.length:Int):=ae;have L8:(0:Int)<=(j:Int):=ae;have BK:(J.take (j+1)).foldl (nn re.mode) C1=nn re.mode ((J.take j).foldl (nn re.mode) C1) c:=by rw[bm hx,ak7];rfl
  rw[show C9 t root parts bg nb Bs b a ((J.take j).foldl (nn re.mode) C1) re k g J=wO t root parts bg nb Bs b a ((J.take j).foldl (nn re.mode) C1)++[nX re k,bp g J] from rfl,nD];generalize (J.take j).foldl (nn re.mode) C1=Dc at *;have g1:(cN Dc.length b a Dc).g=Dc.length:=rfl;have g2:(cN Dc.length b a Dc).sz=5:=rfl;have g3:(cN Dc.length b a Dc).au=Dc.map (aq.cells b a):=rfl;have g4:(cN Dc.length b a Dc).live=true:=rfl;obtain⟨y,hy⟩:∃y,Dc[c]?=some y:=cc;have c2:c<Dc.length:=ae;have c1:(c:Int)<(Dc.length:Int):=ae;have c0:(0:Int)<=(c:Int):=ae;have w1:IntKind.i64.wrap ((c:Int)+1)=(c:Int)+1:=bG _ ae;have Zl:e9 Dc c=y:=by unfold e9;rw[List.getD_eq_getElem?_getD,hy];rfl
  have e1:∀v,((Dc.map (aq.cells b a)).set c v)[c]?=some v:=λv=>List.getElem?_set_self (by simpa using c2);have e2:∀u (p q:Int),((Dc.map (aq.cells b a)).set c u).set c [V.d (D.sc (Value.int IntKind.i64 y.op)),V.d (D.sc (Value.int IntKind.i64 p)),V.d (D.sc (Value.int IntKind.i64 q)),V.d (D.sc (Value.int IntKind.i64 y.n)),cj b a y.node]=(wV Dc c p q).map (aq.cells b a):=by intro u p q;rw[List.set_set,wV,akT,Zl];rfl
  have e4:∀(p q:Int),(wV Dc c p q)[c]?=some ⟨y.op,p,q,y.n,y.node⟩:=by intro p q;rw[wV,Zl];exact List.getElem?_set_self c2
  have e5:∀(p q p' q':Int) u,(((wV Dc c p q).map (aq.cells b a)).set c u).set c [V.d (D.sc (Value.int IntKind.i64 y.op)),V.d (D.sc (Value.int IntKind.i64 p')),V.d (D.sc (Value.int IntKind.i64 q')),V.d (D.sc (Value.int IntKind.i64 y.n)),cj b a y.node]=(wV Dc c p' q').map (aq.cells b a):=by intro p q p' q' u;rw[List.set_set,wV,wV,akT,akT,List.set_set,Zl];rfl
  have e6:∀(p q:Int) v,(((wV Dc c p q).map (aq.cells b a)).set c v)[c]?=some v:=λp q v=>List.getElem?_set_self (by simpa [nv]using c2);have e7:∀(p q:Int),(wV Dc c p q).length=Dc.length:=λp q=>nv _ _ _ _;by_cases hmd:re.mode=1
  ·have Va:decide (re.mode=1)=true:=bi hmd;simp only[zQ,simprocAttr,wO,bp,oy,h4,h5,KA,K0,PD,aA,L8,az,hx,ajP,ajT,ajM,List.getElem?_map,ajS,ajN,ajO];refine cu mix [] [(8,[5],[]),(9,[5],[]),(10,[5],[5]),(11,[5],[]),(12,[5],[]),(13,[5],[5])] ?_;simp only[zQ,simprocAttr,h4,h5,KA,K0,PD,b6,aO,c0,c1,c2,g1,g2,g3,g4,hy,w1,ajP,ajT,ajM,List.getElem?_map,ajS,aq.cells,e1,e2,akO,akW,List.drop_succ_cons,akJ,ajN,ajO,ajW,ajX,Va];refine cu mix [] [(6,[5],[]),(7,[5],[]),(8,[5],[]),(11,[5],[]),(12,[5],[]),(13,[5],[]),(14,[5],[]),(15,[5],[]),(16,[5],[5]),(17,[5],[]),(18,[5],[]),(19,[5],[5])] ?_;simp only[zQ,simprocAttr,h4,h5,KA,K0,PD,b6,aO,c0,c1,c2,g1,g2,g3,g4,hy,w1,ajP,ajT,ajM,List.getElem?_map,ajS,aq.cells,e1,e2,e4,e5,e6,e7,akO,akW,List.drop_succ_cons,akJ,ajN,ajO,ajW,ajX,Va];refine⟨J.length-(j+1),_,_,ae,bA.refl,j+1,rfl,az,?_,?_,?_,?_,?_,?_⟩ <;> (try simp only[zU,pZ,jN,oN,oV,reduceIte])
   ·exact h4
   ·exact h5
   ·exact KA
   ·exact K0
   ·rw[bG _ ae];rfl
   ·rw[BK,nn,be hmd];simp only[C9,nD,wO,bp,oy,cN,e7,S9,iD,bD,ajN,ajO,i64]
  ·have Va:decide (re.mode=1)=false:=ce hmd;simp only[zQ,simprocAttr,wO,bp,oy,h4,h5,KA,K0,PD,aA,L8,az,hx,ajP,ajT,ajM,List.getElem?_map,ajS,ajN,ajO];refine cu mix [] [(8,[5],[]),(9,[5],[]),(10,[5],[5]),(11,[5],[]),(12,[5],[]),(13,[5],[5])] ?_;simp only[zQ,simprocAttr,h4,h5,KA,K0,PD,b6,aO,c0,c1,c2,g1,g2,g3,g4,hy,w1,ajP,ajT,ajM,List.getElem?_map,ajS,aq.cells,e1,e2,e4,e5,e6,e7,akO,akW,List.drop_succ_cons,akJ,ajN,ajO,ajW,ajX,Va];refine⟨J.length-(j+1),_,_,ae,bA.refl,j+1,rfl,az,?_,?_,?_,?_,?_,?_⟩ <;> (try simp only[zU,pZ,jN,oN,oV,reduceIte])
   ·exact h4
   ·exact h5
   ·exact KA
   ·exact K0
   ·rw[bG _ ae];rfl
   ·rw[BK,nn,ap hmd];simp only[C9,nD,wO,bp,oy,cN,e7,S9,iD,bD,ajN,ajO,i64]
 ·have Ks:j=J.length:=by omega
  subst Ks;rw[akg];simp only[zQ,simprocAttr,h4,h5,KA,K0,PD,aku,C9,tX,gL];rfl
end
section
variable (t:List Int) (root parts:D) (bg nb:Nat) (Bs:List (List Bool)) (b a:Nat)
theorem Ui (re:Re):re.every NR=true->yq t root parts bg nb Bs b a re:=by
 refine Re.ind (Q:=λre=>re.every NR=true->yq t root parts bg nb Bs b a re) (λre ih hs=>?_) re;obtain⟨dM,jA⟩:=(Re.aD re).1 hs;have hK:∀x∈re.kids,yq t root parts bg nb Bs b a x:=λx hx=>ih x hx (jA x hx);obtain⟨q1,q2,_⟩:=rN.1 dM;by_cases o2:re.op=2
 ·exact SA t root parts bg nb Bs b a re o2 dM hK
 by_cases o3:re.op=3
 ·have eU:re.kids≠[]:=by have:=q2 o3;intro h;rw[h]at this;simp at this
  exact R7 t root parts bg nb Bs b a re re.kids.dropLast (re.kids.getLast eU) o3 dM (List.dropLast_concat_getLast eU).symm hK
 by_cases o4:re.op=4
 ·obtain⟨x,hx⟩:∃x,re.kids=[x]:=List.length_eq_one_iff.1 (q1 (.inl o4));exact Uu t root parts bg nb Bs b a re x o4 dM hx (hK x (by rw[hx];simp))
 by_cases o5:re.op=5
 ·obtain⟨x,hx⟩:∃x,re.kids=[x]:=List.length_eq_one_iff.1 (q1 (.inr o5));exact R6 t root parts bg nb Bs b a re x o5 dM hx (hK x (by rw[hx];simp))
 exact PM t root parts bg nb Bs b a re ⟨o2,o3,o4,o5⟩
def cO (C:List aq):List VL.Obj:=[dz t root parts bg nb,fx bg Bs,⟨0,false,1,[[.pp 0 0 0 0 b a]]⟩,oy 6 C.length,
 ⟨0,true,1,[[.cl (.func 63) [] [.rf 3 0 0 0]]]⟩,
 ⟨0,true,1,[[.cl (.func 64) [] [.rf 4 0 0 0,mB b a,.rf 5 0 0 0,.rf 3 0 0 0]]]⟩,cN C.length b a C]
variable {t root parts bg nb Bs b a}
theorem Oj {f:FuncId}{args Xy:List V}{r:V}{C C':List aq} (h:ar Tryz.prog f args (wO t root parts bg nb Bs b a C) λv s=>v=r/\s=wO t root parts bg nb Bs b a C') (ha:Xy=args.map (aE [0,1,3,4,5,6])) (wY:aj.go 6 args=true) (hr:aE [0,1,3,4,5,6] r=r) {K:V->List VL.Obj->Prop}
  (hk:K r (cO t root parts bg nb Bs b a C')):ar Tryz.prog f Xy (cO t root parts bg nb Bs b a C) K:=by
 have hm:∀C,(wO t root parts bg nb Bs b a C).map (aN [0,1,3,4,5,6])=[dz t root parts bg nb,fx bg Bs,oy 6 C.length,
   ⟨0,true,1,[[.cl (.func 63) [] [.rf 3 0 0 0]]]⟩,
   ⟨0,true,1,[[.cl (.func 64) [] [.rf 4 0 0 0,mB b a,.rf 5 0 0 0,.rf 3 0 0 0]]]⟩,cN C.length b a C]:=by
  intro C;simp only[wO,ajR,ajV,ko,fr];simp [aN,dz,oy,mB,aE,aE.go]
 refine cV [0,1,3,4,5,6] h aU rfl ?_ ha wY (xI t root parts bg nb Bs b a C) (r':=r) hr ?_
 ·have h2:(wO t root parts bg nb Bs b a C).map (λo=>some (aN [0,1,3,4,5,6] o))=((wO t root parts bg nb Bs b a C).map (aN [0,1,3,4,5,6])).map some:=by rw[akq];rfl
  rw[h2,hm];rfl
 ·rw[hm];exact hk
variable (t root parts bg nb Bs b a)
def bw:aq:=⟨0,0,0,0,none⟩
theorem SZ (re:Re) (hs:re.every NR=true) (hz:re.eC<=1000000) (k:Nat) :
  ar Tryz.prog 30 [.pp 0 0 0 0 b a,.d (re.bk k)] [dz t root parts bg nb,fx bg Bs] λv s=>v=.so 2 (re.emit k []++[bw]).length 0 (re.emit k []++[bw]).length/\s=[dz t root parts bg nb,fx bg Bs,cN (re.emit k []++[bw]).length b a (re.emit k []++[bw])]:=by
 have hw:=Ui t root parts bg nb Bs b a re hs k [] cC;have hl:(re.emit k []).length<=1000000:=by rw[Re.ez];simp;omega
 have hp:ar Tryz.prog 63 [ss b a bw,.rf 2 0 0 0] (wO t root parts bg nb Bs b a (re.emit k [])) λv s=>v=i64 (re.emit k []).length/\s=wO t root parts bg nb Bs b a (re.emit k []++[bw]):=by have:=Aj (t:=t) (root:=root) (parts:=parts) (bg:=bg) (nb:=nb) (Bs:=Bs) (b:=b) (a:=a) (C:=re.emit k []) ae bw (tl:=[]) (K:=λv s=>v=i64 (re.emit k []).length/\s=wO t root parts bg nb Bs b a (re.emit k []++[bw])) ⟨rfl,ak⟩;simpa using this
 generalize re.emit k []++[bw]=C2 at *;generalize re.emit k []=C1 at *;unfold dy at hw;generalize re.bk k=xd at *;refine zE Tryz.func30 rfl Tryz.ntmps30 Tryz.results30 rfl 2 131071 ak ak ?_;simp only[zQ,simprocAttr];refine OD (o:=⟨0,true,1,[[.pp 0 0 0 0 b a]]⟩) (v:=.pp 0 0 0 0 b a) 2 rfl rfl rfl ?_;have h1:Ng 2 0 (.pp 0 0 0 0 b a) [dz t root parts bg nb,fx bg Bs,(⟨0,true,1,[[.pp 0 0 0 0 b a]]⟩:VL.Obj),⟨0,true,1,[[.fu []]]⟩,⟨0,true,1,[[.cl (.func 63) [] [.rf 3 0 0 0]]]⟩,⟨0,true,1,[[.cl (.func 64) [] [.rf 4 0 0 0,.rf 2 0 0 0,.rf 5 0 0 0,.rf 3 0 0 0]]]⟩] =
   [dz t root parts bg nb,fx bg Bs,⟨0,false,1,[[.pp 0 0 0 0 b a]]⟩,⟨0,true,1,[[.fu []]]⟩,⟨0,true,1,[[.cl (.func 63) [] [.rf 3 0 0 0]]]⟩,⟨0,true,1,[[.cl (.func 64) [] [.rf 4 0 0 0,mB b a,.rf 5 0 0 0,.rf 3 0 0 0]]]⟩]:=by
  simp only[Ng,ck,List.getElem?_cons_succ,List.getElem?_cons_zero,akf,aj9,ajR,ajV,O8];rfl
 have h2:List.map (nZ 2 0 (.pp 0 0 0 0 b a)) [V.d xd,V.rf 4 0 0 0,V.rf 2 0 0 0,V.rf 5 0 0 0,V.rf 3 0 0 0]=[V.d xd,V.rf 4 0 0 0,mB b a,V.rf 5 0 0 0,V.rf 3 0 0 0]:=rfl;rw[show (⟨0,true,1,[[.pp 0 0 0 0 b a]]⟩:VL.Obj).g=0 from rfl,show [V.pp 0 0 0 0 b a].length=1 from rfl,h1,h2];refine fX (pre:=[]) (post:=[]) 3 5 rfl rfl rfl ?_;refine Oj (C:=[]) (C':=C1) hw cB cB rfl ?_;simp only[zQ,simprocAttr,cO];refine Oj (C:=C1) (C':=C2) hp cB cB rfl ?_;simp only[zQ,simprocAttr,cO,oy,Cl,v7];refine⟨[0,1,6],rfl,?_⟩;simp only[kx,ajR,ajV,akM,akN,ju,lU _ (rfl:List.idxOf? 0 [0,1,6]=some 0)];exact⟨rfl,rfl⟩
end
theorem yX (t:List Int) (Bs:List (List Bool)) (re:Re) (hs:re.every oO=true) (k:Nat) (hz:re.eC<=99999) (hB:∀j,k<=j->j<k+re.looks->∃l,Bs[j]?=some l/\l.length=t.length+1):nj t Bs (re.emit k []++[bw]):=by
 have hCP:=Wc (λj=>∃l,Bs[j]?=some l/\l.length=t.length+1) re hs k hB [] ⟨ak,ak⟩;have hl:=Re.ez re k [];rw[ajX,ajT]at hl;have hCL:(re.emit k []++[bw]).length=(re.emit k []).length+1:=ak;have get:∀n,n<(re.emit k []++[bw]).length->(n+1<(re.emit k []++[bw]).length/\e9 (re.emit k []++[bw]) n∈re.emit k [])\/e9 (re.emit k []++[bw]) n=bw:=by
  intro n hn;unfold e9;rw[List.getD_eq_getElem?_getD];by_cases h:n<(re.emit k []).length
  ·refine .inl ⟨ae,?_⟩;rw[List.getElem?_append_left h,List.getElem?_eq_getElem h];exact List.getElem_mem h
  ·refine .inr ?_;rw[List.getElem?_append_right ae,show n-(re.emit k []).length=0 by omega];rfl
 generalize re.emit k []=C at *;refine⟨ae,λn hn=>?_,λn hn ho=>?_,λn hn ho=>?_,λn hn ho=>?_,λn hn ho=>?_,λn hn ho=>?_⟩
 ·rcases get n hn with ⟨_,h⟩|h
  ·exact(hCP.1 _ h).1
  ·rw[h];simp [bw]
 ·rcases get n hn with ⟨_,h⟩|h
  ·exact(hCP.1 _ h).2.1 ho
  ·rw[h]at ho;simp [bw]at ho
 ·rcases get n hn with ⟨_,h⟩|h
  ·exact(hCP.1 _ h).2.2 ho
  ·rw[h]at ho;simp [bw]at ho
 ·rcases get n hn with ⟨_,h⟩|h
  ·have:=hCP.2 _ h;unfold IW at this;omega
  ·rw[h]at ho;simp [bw]at ho
 ·rcases get n hn with ⟨_,h⟩|h
  ·have:=hCP.2 _ h;unfold IW at this;omega
  ·rw[h]at ho;simp [bw]at ho
 ·rcases get n hn with ⟨h,_⟩|h
  ·exact h
  ·rw[h]at ho;simp [bw]at ho
mutual
def Re.bz:Re->Nat->List (Re×Nat)
 |.mk op set kids mn mx mode n neg,k =>
  if op=7\/op=8 then (Re.mk op set kids mn mx mode n neg,k)::Re.oJ kids (k+1) else Re.oJ kids k
def Re.oJ:List Re->Nat->List (Re×Nat)
 |[],_=>[]
 |x::l,k=>x.bz k++Re.oJ l (k+x.looks)
end
mutual
theorem Re.Hv:∀(re:Re) (k:Nat),re.lE k=(re.bz k).map λp=>p.1.bk p.2
 |.mk op set kids mn mx mode n neg,k=>by have h:=Re.xw kids;rw[Re.lE,Re.bz];split <;> simp [h]
theorem Re.xw:∀(l:List Re) (k:Nat),Re.eQ l k=(Re.oJ l k).map λp=>p.1.bk p.2
 |[],_=>rfl
 |x::l,k=>by rw[Re.eQ,Re.oJ,Re.Hv x,Re.xw l,akF]
end
theorem Re.uT (re:Re) (k:Nat):(re.bz k).length=re.looks:=by rw[<- Re.Aq re k,Re.Hv,ajM]
theorem Re.xH (re:Re) (k:Nat):re.bz k=if re.op=7\/re.op=8 then (re,k)::Re.oJ re.kids (k+1) else Re.oJ re.kids k:=by
 cases re;rw[Re.bz];rfl
structure Me (L:List (Re×Nat)) (k i:Nat) (r:Re):Prop where
 num:∃p,L[i]?=some (r,p)/\p=k+i
 op:r.op=7\/r.op=8
 osh:r.every oO=true
 short:∃x,r.kids=[x]/\1+iR x<=8192
 fit:i+r.looks<=L.length
theorem Vh (re:Re):re.every oO=true->re.every Bn=true->∀k i,i<re.looks->∃r,Me (re.bz k) k i r:=by
 refine Re.ind (Q:=λre=>re.every oO=true->re.every Bn=true->∀k i,i<re.looks->∃r,Me (re.bz k) k i r) (λre ih hs hh k i hi=>?_) re;obtain⟨dM,jA⟩:=(Re.aD re).1 hs;obtain⟨UD,hh2⟩:=(Re.aD re).1 hh;have hL:∀(l:List Re) (k i:Nat),(∀x∈l,x∈re.kids)->i<Re.ba l->∃r,Me (Re.oJ l k) k i r:=by
  intro l;induction l with
  |nil=>intro k i _ h;simp [Re.ba]at h
  |cons x l CG =>
   intro k i hm h;rw[Re.ba]at h;have UK:=Re.uT x k;have Ec:∀k,(Re.oJ l k).length=Re.ba l:=λk=>by rw[<- Re.nT l k,Re.xw,ajM]
   rw[Re.oJ];by_cases V5:i<x.looks
   ·obtain⟨r,⟨p,a1,a2⟩,a3,a4,a5,a6⟩:=ih x (hm x ak) (jA x (hm x ak)) (hh2 x (hm x ak)) k i V5;refine⟨r,⟨p,?_,a2⟩,a3,a4,a5,?_⟩
    ·rw[List.getElem?_append_left ae];exact a1
    ·rw[ajQ];omega
   ·obtain⟨r,⟨p,a1,a2⟩,a3,a4,a5,a6⟩:=CG (k+x.looks) (i-x.looks) (λy hy=>hm y (by simp [hy])) ae;refine⟨r,⟨p,?_,ae⟩,a3,a4,a5,?_⟩
    ·rw[List.getElem?_append_right ae,UK];exact a1
    ·rw[ajQ];omega
 rw[Re.xH];rw[Re.jZ]at hi;by_cases ho:re.op=7\/re.op=8
 ·rw[be ho]at hi ⊢;have Ec:(Re.oJ re.kids (k+1)).length=Re.ba re.kids:=by rw[<- Re.nT re.kids (k+1),Re.xw,ajM]
  obtain⟨q1,_⟩:=lN.1 dM;obtain⟨x,hx⟩:∃x,re.kids=[x]:=List.length_eq_one_iff.1 (q1 ae);cases i with
  |zero =>
   refine⟨re,⟨k,rfl,rfl⟩,ho,hs,⟨x,hx,?_⟩,?_⟩
   ·unfold Bn at UD;have hl:re.oA=true:=bi ho;rw[hl,hx]at UD;simpa using UD
   ·rw[Re.jZ,be ho,ajW,Ec];omega
  |succ i =>
   obtain⟨r,⟨p,a1,a2⟩,a3,a4,a5,a6⟩:=hL re.kids (k+1) i (λ_ h=>h) ae;exact⟨r,⟨p,by rw[List.getElem?_cons_succ];exact a1,ae⟩,a3,a4,a5,by rw[ajW];omega⟩
 ·rw[ap ho,ajT]at hi;rw[ap ho];exact hL re.kids k i (λ_ h=>h) hi
def eS (t:List Int) (Bs:List (List Bool)) (r:Re) (i:Nat):List Bool :=
 let C:=Re.dj r.kids (i+1) []++[bw]
 (if r.op=7 then iE t Bs C else zd t Bs C).map λb=>b != r.neg
def aY (t:List Int) (L:List (Re×Nat)):Nat->List (List Bool)
 |0=>List.replicate L.length []
 |c+1=>match L[L.length-1-c]? with
  |some p=>(aY t L c).set (L.length-1-c) (eS t (aY t L c) p.1 (L.length-1-c))
  |none=>aY t L c
theorem fV (t:List Int) (L:List (Re×Nat)):∀c,(aY t L c).length=L.length
 |0=>by simp [aY]
 |c+1=>by
  rw[aY];split
  ·rw[aj8,fV t L c]
  ·exact fV t L c
theorem xk (t:List Int) (Bs:List (List Bool)) (C:List aq):(iE t Bs C).length=t.length+1:=by simp [iE]
theorem Dr (t:List Int) (Bs:List (List Bool)) (C:List aq):(zd t Bs C).length=t.length+1:=(w8 t Bs C (t.length+1)).2.1
theorem rI (t:List Int) (Bs:List (List Bool)) (r:Re) (i:Nat):(eS t Bs r i).length=t.length+1:=by
 unfold eS;simp only[ajM];split
 ·exact xk _ _ _
 ·exact Dr _ _ _
theorem lj (t:List Int) (L:List (Re×Nat)):∀c j,j<L.length->L.length<=j+c->∃l,(aY t L c)[j]?=some l/\l.length=t.length+1
 |0,j,h1,h2=>ae
 |c+1,j,h1,h2=>by
  rw[aY];have hp:L.length-1-c<L.length:=ae;rw[List.getElem?_eq_getElem hp];simp only;by_cases hj:j=L.length-1-c
  ·subst hj;exact⟨_,List.getElem?_set_self (by rw[fV];exact hp),rI _ _ _ _⟩
  ·obtain⟨l,h3,h4⟩:=lj t L c j h1 ae;exact⟨l,by rw[List.getElem?_set_ne (Ne.symm hj)];exact h3,h4⟩
end Go.Proofs.YtjjfioalgbecmaaGreat
