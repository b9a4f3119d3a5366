/- A part of the proof. -/
import Derived.Test.YtjjfioalgbecmaaGreatOA21
set_option linter.unusedSimpArgs false
set_option linter.unusedVariables false
open Nat renaming reduceShiftRight → qa, reduceMod → qe, reduceEqDiff → Fp, reduceBEq → Ft
open Int renaming reduceNatCast' → FF
set_option maxRecDepth 100000
set_option maxHeartbeats 80000000
namespace Go.Proofs.YtjjfioalgbecmaaGreat
open Go.VL
section
variable (t:List Int) (root parts:D) (bg nb:Nat) (Bs:List (List Bool)) (b a:Nat)
omit t root parts bg nb Bs b a in
def qM:V:=.cl (.func 63) [] [.rf 2 0 0 0]
omit t root parts bg nb Bs in
def yA:V:=.cl (.func 64) [] [.rf 3 0 0 0,mB b a,.rf 4 0 0 0,.rf 2 0 0 0]
theorem Th (C:List aw) (g:Nat) (J:List Nat):mH [0,1,2,3,4,5,6] (wO t root parts bg nb Bs b a C++[bG g J])=wO t root parts bg nb Bs b a C++[bG g J]:=by simp only[wO,ak5,ak6,mH,ak8,ak9,ama,alY,jQ,rB,mD _ (rfl:List.idxOf? 0 [0,1,2,3,4,5,6]=some 0)];rfl
omit t root parts bg nb Bs b a in
theorem Pd {f:List aw->List aw}{z:Nat} (h:∀C,(f C).length=C.length+z):∀n C,∀x∈(gx f n C).2,x<(gx f n C).1.length
 |0,_,_,hx=>by simp [gx]at hx
 |n+1,C,x,hx=>by
  have ih:=Pd h n C;simp only[gx,alN,alm]at hx;simp only[gx,h,ald,alC];rcases hx with hx|rfl
  ·have:=ih x hx;omega
  ·omega
def XZ (re x:Re):Prop:=∀(k:Nat) (C:List aw),C.length+re.dp<=1000000000000 ->
 av Tryz.prog 70 [.d (re.bA k),qM,yA b a] (wO t root parts bg nb Bs b a C) λv s=>∃g,v=.so 6 g 0 (mI (x.emit k) re.mn re.mx C).2.length/\s=wO t root parts bg nb Bs b a (mI (x.emit k) re.mn re.mx C).1++[bG g (mI (x.emit k) re.mn re.mx C).2]
theorem OE (re x:Re) (o:re.op=4) (hE:OR re=true) (hk:re.kids=[x]) (hK:zP t root parts bg nb Bs b a x):XZ t root parts bg nb Bs b a re x:=by
 intro k C hC;obtain⟨_,_,_,m0,m1,x0,x1,_,_⟩:=ta.1 hE;have jw:=λC=>y4 t root parts bg nb Bs b a C;have hf:∀C,(x.emit k C).length=C.length+x.dp:=λC=>Re.eR x k C;have hz:re.dp=if re.mx=-1 then re.mn.toNat*x.dp+x.dp+2 else re.mn.toNat*x.dp+(re.mx-re.mn).toNat*(x.dp+1):=by rw[Re.ga,nW,bm,bm,bm,bm,be o,hk];simp [Re.cC]
 have MK:re.mn.toNat*x.dp<=re.dp:=by
  rw[hz];split
  ·omega
  ·exact Nat.le_add_right _ _
 have LN:Re.ew re.kids k=[[x.bA k]]:=by rw[hk];rfl
 have eX:re.bA k=.el [iD 4,.sl (re.set.map aU),.sl (re.kids.map Re.cells),iD re.mn,iD re.mx,iD re.mode,iD re.n,bD re.neg,.sl [[x.bA k]],iD k]:=by rw[Re.eL,bm,al8,LN,o]
 have hq:([[x.bA k]]:List (List D))[0]?=some [x.bA k]:=rfl;rw[eX];unfold qM yA;generalize hR:mI (x.emit k) re.mn re.mx C=R;refine pE Tryz.func70 rfl Tryz.ntmps70 Tryz.results70 rfl 6 6917529027641094343 (ale 6) (by first|decide|(simp;done)) ?_;simp only[zQ,simprocAttr,-FF];refine ay (λn e s=>∃i:Nat,n=re.mn.toNat-i/\i<=re.mn.toNat/\e 0=.d (.el [iD 4,.sl (re.set.map aU),.sl (re.kids.map Re.cells),iD re.mn,iD re.mx,iD re.mode,iD re.n,bD re.neg,.sl [[x.bA k]],iD k])/\e 1=qM/\e 2=yA b a/\e 12=i64 re.mn/\e 13=i64 i/\s=wS t root parts bg nb Bs b a (iO (x.emit k) i C))
  ⟨_,_,_,bO.refl,0,rfl,ae,rfl,rfl,rfl,rfl,rfl,rfl⟩ ?_
 rintro n e s ⟨i,rfl,hi,h0,h1,h2,jk,mE,rfl⟩;have hil:(iO (x.emit k) i C).length=C.length+i*x.dp:=wL hf i C;have him:i*x.dp<=re.mn.toNat*x.dp:=alF _ hi;rw[show wS t root parts bg nb Bs b a (iO (x.emit k) i C)=wO t root parts bg nb Bs b a (iO (x.emit k) i C) from rfl];by_cases aE:(i:Int)<re.mn
 ·have G5:iO (x.emit k) (i+1) C=x.emit k (iO (x.emit k) i C):=rfl;have afH:(i+1)*x.dp<=re.mn.toNat*x.dp:=alF _ ae;rw[Nat.succ_mul]at afH;have hw:=λK hk=>sj hK k (C:=iO (x.emit k) i C) ae (tl:=[]) (K:=K) hk;rw[<- G5]at hw;simp only[amv]at hw;generalize iO (x.emit k) i C=C1 at *;generalize hC2:iO (x.emit k) (i+1) C=C2 at *;unfold dR at hw;generalize x.bA k=xd at *;simp only[zQ,simprocAttr,-FF,wO,h0,h1,h2,jk,mE,aE,yA,alg,alf,alc,hq];refine⟨aF,?_⟩;refine hw _ ?_;simp only[zQ,simprocAttr,-FF,h0,h1,h2,jk,mE];refine⟨re.mn.toNat-(i+1),_,_,ae,bO.refl,i+1,ae,ae,?_,?_,?_,?_,?_,by rw[hC2];rfl⟩ <;> (try simp only[zU,Ft,qa,qe,Fp,reduceIte])
  ·exact h0
  ·exact h1
  ·exact h2
  ·exact jk
  ·rw[bK _ ae];rfl
 ·have eg:i=re.mn.toNat:=by omega
  subst eg;have hRe:R=if re.mx=-1 then (x.emit k (iO (x.emit k) re.mn.toNat C++[dh 0 0])++[jZ (iO (x.emit k) re.mn.toNat C).length],[(iO (x.emit k) re.mn.toNat C).length]) else gx (x.emit k) (re.mx-re.mn).toNat (iO (x.emit k) re.mn.toNat C):=hR.symm
  generalize iO (x.emit k) re.mn.toNat C=C1 at *;by_cases hm:re.mx=-1
  ·rw[be hm]at hRe hz;have zK:=λK hk=>kQ (t:=t) (root:=root) (parts:=parts) (bg:=bg) (nb:=nb) (Bs:=Bs) (b:=b) (a:=a) (C:=C1) ae 2 0 0 0 (tl:=[]) (K:=K) hk;have hw:=λK hk=>sj hK k (C:=C1++[dh 0 0]) (by rw[ald,alC];omega) (tl:=[bG 0 [C1.length]]) (K:=K) hk;have BT:(x.emit k (C1++[dh 0 0])).length<=1000000000000:=by rw[hf,ald,alC];omega
   have B0:=λK hk=>kQ (t:=t) (root:=root) (parts:=parts) (bg:=bg) (nb:=nb) (Bs:=Bs) (b:=b) (a:=a) (C:=x.emit k (C1++[dh 0 0])) BT 3 C1.length 0 0 (tl:=[bG 0 [C1.length]]) (K:=K) hk;rw[show (⟨2,0,0,0,none⟩:aw)=dh 0 0 from rfl]at zK;rw[show (⟨3,C1.length,0,0,none⟩:aw)=jZ C1.length from rfl]at B0;subst hRe;generalize x.emit k (C1++[dh 0 0])++[jZ C1.length]=C4 at *;generalize x.emit k (C1++[dh 0 0])=C3 at *;generalize C1++[dh 0 0]=C2 at *;unfold dR at hw;simp only[amv]at zK;generalize x.bA k=xd at *;have lE:decide (re.mx=-1)=true:=bi hm;have hT:∀(J:List Nat),List.map (λ(x:Nat)=>[V.d (D.sc (Value.int IntKind.i64 (x:Int)))]) J=(bG 0 J).aA:=λJ=>rfl;simp only[zQ,simprocAttr,-FF,h0,h1,h2,jk,mE,aE,lE,qM,yA];refine zK _ ?_;simp only[zQ,simprocAttr,-FF,h0,h1,h2,jk,mE,lE,qM,yA,wO,ak5,ak6,alg,alf,alc,hq];first|refine⟨λe he=>by rw[List.mem_singleton.1 he];rfl,aF,aF,?_⟩|refine⟨λe he=>by rw[List.mem_singleton.1 he];rfl,aF,?_⟩|refine⟨λe he=>by rw[List.mem_singleton.1 he];rfl,?_⟩
   refine hw _ ?_;simp only[zQ,simprocAttr,-FF,h0,h1,h2,jk,mE,lE,qM,yA,wO,bG,ak5,ak6,alg,alf,alc,ak8,ak9];refine⟨aF,?_⟩;refine B0 _ ?_;simp only[zQ,simprocAttr,-FF,h0,h1,h2,jk,mE,tV,xF];refine⟨[0,1,2,3,4,5,6],rfl,0,?_⟩;rw[Th];exact⟨rfl,rfl⟩
  ·rw[ap hm]at hRe hz;have lE:decide (re.mx=-1)=false:=ce hm;have wx:IntKind.i64.wrap (re.mx-re.mn)=re.mx-re.mn:=bK _ ae;simp only[zQ,simprocAttr,-FF,h0,h1,h2,jk,mE,aE,lE,qM,yA];refine cP mix [] [] ?_;simp only[zQ,simprocAttr,-FF,h0,h1,h2,jk,mE,wx];generalize hM:(re.mx-re.mn).toNat=m at *;refine ay (λn e s=>∃(i g:Nat),n=m-i/\i<=m/\e 0=.d (.el [iD 4,.sl (re.set.map aU),.sl (re.kids.map Re.cells),iD re.mn,iD re.mx,iD re.mode,iD re.n,bD re.neg,.sl [[x.bA k]],iD k])/\e 1=qM/\e 2=yA b a/\e 7=.so 6 g 0 i/\e 61=i64 (re.mx-re.mn)/\e 62=i64 i/\s=wO t root parts bg nb Bs b a (gx (x.emit k) i C1).1++[bG g (gx (x.emit k) i C1).2])
    ⟨_,_,_,.On (gQ 7 1 rfl),0,0,rfl,ae,?_,?_,?_,rfl,rfl,rfl,rfl⟩ ?_
   ·(try simp only[zU,Ft,qa,qe,Fp,reduceIte]);exact h0
   ·(try simp only[zU,Ft,qa,qe,Fp,reduceIte]);exact h1
   ·(try simp only[zU,Ft,qa,qe,Fp,reduceIte]);exact h2
   clear h0 h1 h2 jk mE;rintro n e s ⟨i,g,rfl,hi,h0,h1,h2,h7,rl,r8,rfl⟩;obtain⟨ol1,ol2⟩:=zc hf i C1;have aiL:i*(x.dp+1)<=m*(x.dp+1):=alF _ hi;rcases alw i m with agp|aj6
   ·have aH:(i:Int)<re.mx-re.mn:=by omega
    have agP:(i+1)*(x.dp+1)<=m*(x.dp+1):=alF _ ae;rw[Nat.succ_mul]at agP;have G5:gx (x.emit k) (i+1) C1=(x.emit k ((gx (x.emit k) i C1).1++[dh 0 0]),(gx (x.emit k) i C1).2++[(gx (x.emit k) i C1).1.length]):=rfl;generalize hO2:gx (x.emit k) (i+1) C1=O2 at *;generalize gx (x.emit k) i C1=O1 at *;obtain⟨D1,J⟩:=O1;simp only at ol1 ol2 G5 ⊢;have zK:=λK hk=>kQ (t:=t) (root:=root) (parts:=parts) (bg:=bg) (nb:=nb) (Bs:=Bs) (b:=b) (a:=a) (C:=D1) ae 2 0 0 0 (tl:=[bG g J]) (K:=K) hk;have hw:=λK hk=>sj hK k (C:=D1++[dh 0 0]) (by rw[ald,alC];omega) (tl:=[bG (g+1) (J++[D1.length])]) (K:=K) hk;rw[show (⟨2,0,0,0,none⟩:aw)=dh 0 0 from rfl]at zK;generalize x.emit k (D1++[dh 0 0])=D3 at *;generalize D1++[dh 0 0]=D2 at *;unfold dR at hw;have hT:List.take i (J.map λ(x:Nat)=>[V.d (D.sc (Value.int IntKind.i64 (x:Int)))])++[[V.d (D.sc (Value.int IntKind.i64 (D1.length:Int)))]]=(J++[D1.length]).map λ(x:Nat)=>[V.d (D.sc (Value.int IntKind.i64 (x:Int)))]:=by rw[aln (by rw[ak4];omega)];simp
    simp only[zQ,simprocAttr,-FF,h0,h1,h2,h7,rl,r8,aH,qM,yA];refine zK _ ?_;simp only[zQ,simprocAttr,-FF,h0,h1,h2,h7,rl,r8,qM,yA,wO,bG,ak5,ak6,alg,alf,alc,ak4,hT];refine⟨λe he=>by rw[List.mem_singleton.1 he];rfl,⟨ae,ae⟩,aF,?_⟩;refine hw _ ?_;simp only[zQ,simprocAttr,-FF,h0,h1,h2,h7,rl,r8];refine⟨m-(i+1),_,_,ae,bO.refl,i+1,g+1,rfl,agp,?_,?_,?_,?_,?_,?_,by rw[hO2,G5];rfl⟩ <;> (try simp only[zU,Ft,qa,qe,Fp,reduceIte])
    ·exact h0
    ·exact h1
    ·exact h2
    ·exact rl
    ·rw[bK _ ae];rfl
   ·have eg:i=m:=by omega
    subst eg;have ae7:¬(i:Int)<re.mx-re.mn:=ae;simp only[zQ,simprocAttr,-FF,h0,h1,h2,h7,rl,r8,ae7,tV,xF];refine⟨[0,1,2,3,4,5,6],rfl,g,?_⟩;rw[Th,hRe,ol2];exact⟨rfl,rfl⟩
end
section
variable (t:List Int) (root parts:D) (bg nb:Nat) (Bs:List (List Bool)) (b a:Nat)
variable {t root parts bg nb Bs b a}
theorem TV {re x:Re} (h:XZ t root parts bg nb Bs b a re x) (k:Nat) {C:List aw} (hC:C.length+re.dp<=1000000000000) {K:V->List VL.Obj->Prop}
  (hk:∀g,K (.so 7 g 0 (mI (x.emit k) re.mn re.mx C).2.length) (wO t root parts bg nb Bs b a (mI (x.emit k) re.mn re.mx C).1++[pg re k,bG g (mI (x.emit k) re.mn re.mx C).2])) :
  av Tryz.prog 70 [.d (re.bA k),qM,yA b a] (wO t root parts bg nb Bs b a C++[pg re k]) K:=by
 have Oz:=Np t root parts bg nb Bs b a C;refine iG (h k C hC) [0,1,2,3,4,5] rfl aF (λj o ho=>?_) ?_ ?_ (y4 t root parts bg nb Bs b a C) ?_
 ·have h1:((wO t root parts bg nb Bs b a C).map (ba [0,1,2,3,4,5]))[j]?=some (ba [0,1,2,3,4,5] o):=by rw[List.getElem?_map,ho];rfl
  rw[Oz]at h1;have hj:j<6:=(List.getElem?_eq_some_iff.1 h1).1;have e1:[0,1,2,3,4,5].getD j 0=j:=by
   match j,hj with
   |0,_=>rfl
   |1,_=>rfl
   |2,_=>rfl
   |3,_=>rfl
   |4,_=>rfl
   |5,_=>rfl
  rw[e1,List.getElem?_append_left (by exact hj)];exact h1
 ·simp [qM,yA,aI,aI.go,mB]
 ·simp [qM,yA,ak,ak.go,mB,wO]
 rintro v s' ⟨g,rfl,rfl⟩ _;have hk:=hk g;generalize mI (x.emit k) re.mn re.mx C=R at *;have e1:uO [0,1,2,3,4,5] (wO t root parts bg nb Bs b a C++[pg re k]) (wO t root parts bg nb Bs b a C) (wO t root parts bg nb Bs b a R.1++[bG g R.2])=[0,1,2,3,4,5,7]:=rfl;rw[e1];have e2:(wO t root parts bg nb Bs b a R.1).map (ba [0,1,2,3,4,5,7])=wO t root parts bg nb Bs b a R.1:=by simp only[wO,ak8,ak9,kL,fQ];simp [ba,dV,pR,mB,aI,aI.go]
 have e3:List.take (wO t root parts bg nb Bs b a C).length (wO t root parts bg nb Bs b a R.1++[bG g R.2])=wO t root parts bg nb Bs b a R.1:=rfl;have e4:List.drop (wO t root parts bg nb Bs b a C).length (wO t root parts bg nb Bs b a R.1++[bG g R.2])=[bG g R.2]:=rfl;rw[e3,e4,e2,ak8,ak9,oY];have e5:aI [0,1,2,3,4,5,7] (.so 6 g 0 R.2.length)=.so 7 g 0 R.2.length:=rfl;rw[e5];exact hk
variable (t root parts bg nb Bs b a)
theorem VF (re x:Re) (o:re.op=4) (hE:OR re=true) (hk:re.kids=[x]) (hK:zP t root parts bg nb Bs b a x):zP t root parts bg nb Bs b a re:=by
 intro k C hC;have jw:=λC=>y4 t root parts bg nb Bs b a C;have hrep:=OE t root parts bg nb Bs b a re x o hE hk hK;have hc:re.emit k C=(mI (x.emit k) re.mn re.mx C).2.foldl (oB re.mode) (mI (x.emit k) re.mn re.mx C).1:=by rw[Re.kN,bm,bm,bm,bm,bm,be o,hk];rfl
 have hRl:(mI (x.emit k) re.mn re.mx C).1.length<=1000000000000:=by have h1:=Re.eR re k C;rw[hc,vS]at h1;omega
 have adk:∀c∈(mI (x.emit k) re.mn re.mx C).2,c<(mI (x.emit k) re.mn re.mx C).1.length:=by
  intro c Zo;have hf:∀C,(x.emit k C).length=C.length+x.dp:=λC=>Re.eR x k C;unfold mI at Zo ⊢;simp only at Zo ⊢;split at Zo
  ·rename_i hm;rw[be hm];rw[alm]at Zo;simp only[ald,hf,alC];omega
  ·rename_i hm;rw[ap hm];exact Pd hf _ _ c Zo
 have hJl:(mI (x.emit k) re.mn re.mx C).2.length<=3000000:=by
  obtain⟨_,_,_,m0,m1,x0,x1,_,_⟩:=ta.1 hE;have hf:∀C,(x.emit k C).length=C.length+x.dp:=λC=>Re.eR x k C;unfold mI;simp only;split
  ·simp
  ·rw[(zc hf _ _).2];omega
 rw[hc];have X1:=λK hk=>TV hrep k hC (K:=K) hk;unfold dR;have LN:Re.ew re.kids k=[[x.bA k]]:=by rw[hk];rfl
 have eX:re.bA k=.el [iD 4,.sl (re.set.map aU),.sl (re.kids.map Re.cells),iD re.mn,iD re.mx,iD re.mode,iD re.n,bD re.neg,.sl [[x.bA k]],iD k]:=by rw[Re.eL,bm,al8,LN,o]
 have oK:pg re k=⟨0,true,1,[[.d (re.bA k)]]⟩:=rfl;generalize mI (x.emit k) re.mn re.mx C=R at *;obtain⟨C1,J⟩:=R;simp only at hRl adk X1 hJl ⊢;unfold qM yA at X1;rw[oK]at X1;rw[eX]at X1 oK ⊢;simp only[iD,bD]at X1;refine xr Tryz.func64 rfl Tryz.ntmps64 Tryz.results64 rfl 6 1278813932664544596687975450732993771492559903679 (ale 6) (by first|decide|(simp [dR];done)) ?_;simp only[zQ,simprocAttr,wO,ak5,ak6];refine X1 _ (λg=>?_);simp only[zQ,simprocAttr,wO,ak5,ak6];refine ay (λn e s=>∃j:Nat,n=J.length-j/\j<=J.length/\e 4=.rf 2 0 0 0/\e 5=.rf 6 0 0 0/\e 157=.so 7 g 0 J.length/\e 158=i64 J.length/\e 159=i64 j/\s=Es t root parts bg nb Bs b a ((J.take j).foldl (oB re.mode) C1) re k g J)
  ⟨_,_,_,bO.refl,0,rfl,ae,rfl,rfl,rfl,rfl,rfl,by rw[Es,oK];rfl⟩ ?_
 rintro n e s ⟨j,rfl,hj,h4,h5,LA,L5,QL,rfl⟩;have hDl:((J.take j).foldl (oB re.mode) C1).length=C1.length:=vS _ _ _;rcases alw j J.length with aE|gE
 ·obtain⟨c,hx⟩:∃c,J[j]?=some c:=cb aE;have hxb:=adk c (List.mem_of_getElem? hx);have aH:(j:Int)<(J.length:Int):=ae;have VT:(0:Int)<=(j:Int):=ae;have Eb:(J.take (j+1)).foldl (oB re.mode) C1=oB re.mode ((J.take j).foldl (oB re.mode) C1) c:=by rw[bn hx,List.foldl_append];rfl
  rw[show Es t root parts bg nb Bs b a ((J.take j).foldl (oB re.mode) C1) re k g J=wO t root parts bg nb Bs b a ((J.take j).foldl (oB re.mode) C1)++[pg re k,bG g J] from rfl,oK];generalize (J.take j).foldl (oB re.mode) C1=Dc at *;have g1:(db Dc.length b a Dc).g=Dc.length:=rfl;have g2:(db Dc.length b a Dc).sz=5:=rfl;have g3:(db Dc.length b a Dc).aA=Dc.map (aw.cells b a):=rfl;have g4:(db Dc.length b a Dc).live=true:=rfl;obtain⟨y,hy⟩:∃y,Dc[c]?=some y:=cb;have c2:c<Dc.length:=ae;have c1:(c:Int)<(Dc.length:Int):=ae;have c0:(0:Int)<=(c:Int):=ae;have w1:IntKind.i64.wrap ((c:Int)+1)=(c:Int)+1:=bK _ ae;have hoa:bH Dc c=y:=by unfold bH;rw[List.getD_eq_getElem?_getD,hy];rfl
  have e1:∀v,((Dc.map (aw.cells b a)).set c v)[c]?=some v:=λv=>List.getElem?_set_self (by simpa using c2);have e2:∀u (p q:Int),((Dc.map (aw.cells b a)).set c u).set c [V.d (D.sc (Value.int IntKind.i64 y.op)),V.d (D.sc (Value.int IntKind.i64 p)),V.d (D.sc (Value.int IntKind.i64 q)),V.d (D.sc (Value.int IntKind.i64 y.n)),cB b a y.node]=(yi Dc c p q).map (aw.cells b a):=by intro u p q;rw[List.set_set,yi,ams,hoa];rfl
  have e4:∀(p q:Int),(yi Dc c p q)[c]?=some ⟨y.op,p,q,y.n,y.node⟩:=by intro p q;rw[yi,hoa];exact List.getElem?_set_self c2
  have e5:∀(p q p' q':Int) u,(((yi Dc c p q).map (aw.cells b a)).set c u).set c [V.d (D.sc (Value.int IntKind.i64 y.op)),V.d (D.sc (Value.int IntKind.i64 p')),V.d (D.sc (Value.int IntKind.i64 q')),V.d (D.sc (Value.int IntKind.i64 y.n)),cB b a y.node]=(yi Dc c p' q').map (aw.cells b a):=by intro p q p' q' u;rw[List.set_set,yi,yi,ams,ams,List.set_set,hoa];rfl
  have e6:∀(p q:Int) v,(((yi Dc c p q).map (aw.cells b a)).set c v)[c]?=some v:=λp q v=>List.getElem?_set_self (by simpa [oH]using c2);have e7:∀(p q:Int),(yi Dc c p q).length=Dc.length:=λp q=>oH _ _ _ _;by_cases hmd:re.mode=1
  ·have Wa:decide (re.mode=1)=true:=bi hmd;simp only[zQ,simprocAttr,wO,bG,pR,h4,h5,LA,L5,QL,aH,VT,aE,hx,ak7,alc,ak4,List.getElem?_map,ala,ak5,ak6];refine cP mix [] [(8,[5],[]),(9,[5],[]),(10,[5],[5]),(11,[5],[]),(12,[5],[]),(13,[5],[5])] ?_;simp only[zQ,simprocAttr,h4,h5,LA,L5,QL,cA,aV,c0,c1,c2,g1,g2,g3,g4,hy,w1,ak7,alc,ak4,List.getElem?_map,ala,aw.cells,e1,e2,al9,amj,List.drop_succ_cons,alV,ak5,ak6,alg,alf,Wa];refine cP mix [] [(6,[5],[]),(7,[5],[]),(8,[5],[]),(11,[5],[]),(12,[5],[]),(13,[5],[]),(14,[5],[]),(15,[5],[]),(16,[5],[5]),(17,[5],[]),(18,[5],[]),(19,[5],[5])] ?_;simp only[zQ,simprocAttr,h4,h5,LA,L5,QL,cA,aV,c0,c1,c2,g1,g2,g3,g4,hy,w1,ak7,alc,ak4,List.getElem?_map,ala,aw.cells,e1,e2,e4,e5,e6,e7,al9,amj,List.drop_succ_cons,alV,ak5,ak6,alg,alf,Wa];refine⟨J.length-(j+1),_,_,ae,bO.refl,j+1,rfl,aE,?_,?_,?_,?_,?_,?_⟩ <;> (try simp only[zU,Ft,qa,qe,Fp,reduceIte])
   ·exact h4
   ·exact h5
   ·exact LA
   ·exact L5
   ·rw[bK _ ae];rfl
   ·rw[Eb,oB,be hmd];simp only[Es,oK,wO,bG,pR,db,e7,hDl,iD,bD,ak5,ak6,i64]
  ·have Wa:decide (re.mode=1)=false:=ce hmd;simp only[zQ,simprocAttr,wO,bG,pR,h4,h5,LA,L5,QL,aH,VT,aE,hx,ak7,alc,ak4,List.getElem?_map,ala,ak5,ak6];refine cP mix [] [(8,[5],[]),(9,[5],[]),(10,[5],[5]),(11,[5],[]),(12,[5],[]),(13,[5],[5])] ?_;simp only[zQ,simprocAttr,h4,h5,LA,L5,QL,cA,aV,c0,c1,c2,g1,g2,g3,g4,hy,w1,ak7,alc,ak4,List.getElem?_map,ala,aw.cells,e1,e2,e4,e5,e6,e7,al9,amj,List.drop_succ_cons,alV,ak5,ak6,alg,alf,Wa];refine⟨J.length-(j+1),_,_,ae,bO.refl,j+1,rfl,aE,?_,?_,?_,?_,?_,?_⟩ <;> (try simp only[zU,Ft,qa,qe,Fp,reduceIte])
   ·exact h4
   ·exact h5
   ·exact LA
   ·exact L5
   ·rw[bK _ ae];rfl
   ·rw[Eb,oB,ap hmd];simp only[Es,oK,wO,bG,pR,db,e7,hDl,iD,bD,ak5,ak6,i64]
 ·have Rj:j=J.length:=by omega
  subst Rj;rw[alr];simp only[zQ,simprocAttr,h4,h5,LA,L5,QL,alZ,Es,vp,jw];rfl
end
section
variable (t:List Int) (root parts:D) (bg nb:Nat) (Bs:List (List Bool)) (b a:Nat)
theorem Vn (re:Re):re.every OR=true->zP t root parts bg nb Bs b a re:=by
 refine Re.ind (Q:=λre=>re.every OR=true->zP t root parts bg nb Bs b a re) (λre ih hs=>?_) re;obtain⟨dL,jG⟩:=(Re.az re).1 hs;have hK:∀x∈re.kids,zP t root parts bg nb Bs b a x:=λx hx=>ih x hx (jG x hx);obtain⟨q1,q2,_⟩:=ta.1 dL;by_cases o2:re.op=2
 ·exact TE t root parts bg nb Bs b a re o2 dL hK
 by_cases o3:re.op=3
 ·have eX:re.kids≠[]:=by have:=q2 o3;intro h;rw[h]at this;simp at this
  exact Ta t root parts bg nb Bs b a re re.kids.dropLast (re.kids.getLast eX) o3 dL (List.dropLast_concat_getLast eX).symm hK
 by_cases o4:re.op=4
 ·obtain⟨x,hx⟩:∃x,re.kids=[x]:=List.length_eq_one_iff.1 (q1 (.inl o4));exact VF t root parts bg nb Bs b a re x o4 dL hx (hK x (by rw[hx];simp))
 by_cases o5:re.op=5
 ·obtain⟨x,hx⟩:∃x,re.kids=[x]:=List.length_eq_one_iff.1 (q1 (.inr o5));exact S9 t root parts bg nb Bs b a re x o5 dL hx (hK x (by rw[hx];simp))
 exact QW t root parts bg nb Bs b a re ⟨o2,o3,o4,o5⟩
def cO (C:List aw):List VL.Obj:=[dV t root parts bg nb,fW bg Bs,⟨0,false,1,[[.pp 0 0 0 0 b a]]⟩,pR 6 C.length,
 ⟨0,true,1,[[.cl (.func 63) [] [.rf 3 0 0 0]]]⟩,
 ⟨0,true,1,[[.cl (.func 64) [] [.rf 4 0 0 0,mB b a,.rf 5 0 0 0,.rf 3 0 0 0]]]⟩,db C.length b a C]
variable {t root parts bg nb Bs b a}
theorem Pp {f:FuncId}{args Yz:List V}{r:V}{C C':List aw} (h:av Tryz.prog f args (wO t root parts bg nb Bs b a C) λv s=>v=r/\s=wO t root parts bg nb Bs b a C') (ha:Yz=args.map (aI [0,1,3,4,5,6])) (xj:ak.go 6 args=true) (hr:aI [0,1,3,4,5,6] r=r) {K:V->List VL.Obj->Prop}
  (hk:K r (cO t root parts bg nb Bs b a C')):av Tryz.prog f Yz (cO t root parts bg nb Bs b a C) K:=by
 have hm:∀C,(wO t root parts bg nb Bs b a C).map (ba [0,1,3,4,5,6])=[dV t root parts bg nb,fW bg Bs,pR 6 C.length,
   ⟨0,true,1,[[.cl (.func 63) [] [.rf 3 0 0 0]]]⟩,
   ⟨0,true,1,[[.cl (.func 64) [] [.rf 4 0 0 0,mB b a,.rf 5 0 0 0,.rf 3 0 0 0]]]⟩,db C.length b a C]:=by
  intro C;simp only[wO,ak8,ak9,kL,fQ];simp [ba,dV,pR,mB,aI,aI.go]
 refine dD [0,1,3,4,5,6] h aF rfl ?_ ha xj (y4 t root parts bg nb Bs b a C) (r':=r) hr ?_
 ·have h2:(wO t root parts bg nb Bs b a C).map (λo=>some (ba [0,1,3,4,5,6] o))=((wO t root parts bg nb Bs b a C).map (ba [0,1,3,4,5,6])).map some:=by rw[alH];rfl
  rw[h2,hm];rfl
 ·rw[hm];exact hk
variable (t root parts bg nb Bs b a)
def cq:aw:=⟨0,0,0,0,none⟩
theorem T7 (re:Re) (hs:re.every OR=true) (hz:re.dp<=1000000) (k:Nat) :
  av Tryz.prog 30 [.pp 0 0 0 0 b a,.d (re.bA k)] [dV t root parts bg nb,fW bg Bs] λv s=>v=.so 2 (re.emit k []++[cq]).length 0 (re.emit k []++[cq]).length/\s=[dV t root parts bg nb,fW bg Bs,db (re.emit k []++[cq]).length b a (re.emit k []++[cq])]:=by
 have hw:=Vn t root parts bg nb Bs b a re hs k [] cV;have hl:(re.emit k []).length<=1000000:=by rw[Re.eR];simp;omega
 have hp:av Tryz.prog 63 [tS b a cq,.rf 2 0 0 0] (wO t root parts bg nb Bs b a (re.emit k [])) λv s=>v=i64 (re.emit k []).length/\s=wO t root parts bg nb Bs b a (re.emit k []++[cq]):=by have:=Bo (t:=t) (root:=root) (parts:=parts) (bg:=bg) (nb:=nb) (Bs:=Bs) (b:=b) (a:=a) (C:=re.emit k []) ae cq (tl:=[]) (K:=λv s=>v=i64 (re.emit k []).length/\s=wO t root parts bg nb Bs b a (re.emit k []++[cq])) ⟨rfl,aq⟩;simpa using this
 generalize re.emit k []++[cq]=C2 at *;generalize re.emit k []=C1 at *;unfold dR at hw;generalize re.bA k=xd at *;refine pE Tryz.func30 rfl Tryz.ntmps30 Tryz.results30 rfl 2 131071 aq aq ?_;simp only[zQ,simprocAttr];refine PI (o:=⟨0,true,1,[[.pp 0 0 0 0 b a]]⟩) (v:=.pp 0 0 0 0 b a) 2 rfl rfl rfl ?_;have h1:Ok 2 0 (.pp 0 0 0 0 b a) [dV t root parts bg nb,fW bg Bs,(⟨0,true,1,[[.pp 0 0 0 0 b a]]⟩:VL.Obj),⟨0,true,1,[[.fu []]]⟩,⟨0,true,1,[[.cl (.func 63) [] [.rf 3 0 0 0]]]⟩,⟨0,true,1,[[.cl (.func 64) [] [.rf 4 0 0 0,.rf 2 0 0 0,.rf 5 0 0 0,.rf 3 0 0 0]]]⟩] =
   [dV t root parts bg nb,fW bg Bs,⟨0,false,1,[[.pp 0 0 0 0 b a]]⟩,⟨0,true,1,[[.fu []]]⟩,⟨0,true,1,[[.cl (.func 63) [] [.rf 3 0 0 0]]]⟩,⟨0,true,1,[[.cl (.func 64) [] [.rf 4 0 0 0,mB b a,.rf 5 0 0 0,.rf 3 0 0 0]]]⟩]:=by
  simp only[Ok,bU,List.getElem?_cons_succ,List.getElem?_cons_zero,alD,alA,ak8,ak9,P7];rfl
 have h2:List.map (pk 2 0 (.pp 0 0 0 0 b a)) [V.d xd,V.rf 4 0 0 0,V.rf 2 0 0 0,V.rf 5 0 0 0,V.rf 3 0 0 0]=[V.d xd,V.rf 4 0 0 0,mB b a,V.rf 5 0 0 0,V.rf 3 0 0 0]:=rfl;rw[show (⟨0,true,1,[[.pp 0 0 0 0 b a]]⟩:VL.Obj).g=0 from rfl,show [V.pp 0 0 0 0 b a].length=1 from rfl,h1,h2];refine iX (pre:=[]) (post:=[]) 3 5 rfl rfl rfl ?_;refine Pp (C:=[]) (C':=C1) hw eh eh rfl ?_;simp only[zQ,simprocAttr,cO];refine Pp (C:=C1) (C':=C2) hp eh eh rfl ?_;simp only[zQ,simprocAttr,cO,pR,tV,xF];refine⟨[0,1,6],rfl,?_⟩;simp only[mH,ak8,ak9,ama,alY,jQ,mD _ (rfl:List.idxOf? 0 [0,1,6]=some 0)];exact⟨rfl,rfl⟩
end
theorem vx (t:List Int) (Bs:List (List Bool)) (re:Re) (hs:re.every mF=true) (k:Nat) (hz:re.dp<=99999) (hB:∀j,k<=j->j<k+re.looks->∃l,Bs[j]?=some l/\l.length=t.length+1):fz t Bs (re.emit k []++[cq]):=by
 have hCP:=PM (λj=>∃l,Bs[j]?=some l/\l.length=t.length+1) re hs k hB [] ⟨aq,aq⟩;have hl:=Re.eR re k [];rw[alf,alc]at hl;have hCL:(re.emit k []++[cq]).length=(re.emit k []).length+1:=aq;have get:∀n,n<(re.emit k []++[cq]).length->(n+1<(re.emit k []++[cq]).length/\bH (re.emit k []++[cq]) n∈re.emit k [])\/bH (re.emit k []++[cq]) n=cq:=by
  intro n hn;unfold bH;rw[List.getD_eq_getElem?_getD];by_cases h:n<(re.emit k []).length
  ·refine .inl ⟨ae,?_⟩;rw[List.getElem?_append_left h,List.getElem?_eq_getElem h];exact List.getElem_mem h
  ·refine .inr ?_;rw[List.getElem?_append_right ae,show n-(re.emit k []).length=0 by omega];rfl
 generalize re.emit k []=C at *;refine⟨ae,λn hn=>?_,λn hn ho=>?_,λn hn ho=>?_,λn hn ho=>?_,λn hn ho=>?_,λn hn ho=>?_⟩
 ·rcases get n hn with ⟨_,h⟩|h
  ·exact(hCP.1 _ h).1
  ·rw[h];simp [cq]
 ·rcases get n hn with ⟨_,h⟩|h
  ·exact(hCP.1 _ h).2.1 ho
  ·rw[h]at ho;simp [cq]at ho
 ·rcases get n hn with ⟨_,h⟩|h
  ·exact(hCP.1 _ h).2.2 ho
  ·rw[h]at ho;simp [cq]at ho
 ·exact Zcu
 ·exact Zcu
 ·rcases get n hn with ⟨h,_⟩|h
  ·exact h
  ·rw[h]at ho;simp [cq]at ho
mutual
def Re.cc:Re->Nat->List (Re×Nat)
 |.mk op set kids mn mx mode n neg,k =>
  if op=7\/op=8 then (Re.mk op set kids mn mx mode n neg,k)::Re.kv kids (k+1) else Re.kv kids k
def Re.kv:List Re->Nat->List (Re×Nat)
 |[],_=>[]
 |x::l,k=>x.cc k++Re.kv l (k+x.looks)
end
mutual
theorem Re.IG:∀(re:Re) (k:Nat),re.mg k=(re.cc k).map λp=>p.1.bA p.2
 |.mk op set kids mn mx mode n neg,k=>by have h:=Re.yQ kids;rw[Re.mg,Re.cc];split <;> simp [h]
theorem Re.yQ:∀(l:List Re) (k:Nat),Re.fl l k=(Re.kv l k).map λp=>p.1.bA p.2
 |[],_=>rfl
 |x::l,k=>by rw[Re.fl,Re.kv,Re.IG x,Re.yQ l,amp]
end
theorem Re.vV (re:Re) (k:Nat):(re.cc k).length=re.looks:=by rw[<- Re.BA re k,Re.IG,ak4]
theorem Re.DD (re:Re) (k:Nat):re.cc k=if re.op=7\/re.op=8 then (re,k)::Re.kv re.kids (k+1) else Re.kv re.kids k:=by
 cases re;rw[Re.cc];rfl
structure Iy (L:List (Re×Nat)) (k i:Nat) (r:Re):Prop where
 num:∃p,L[i]?=some (r,p)/\p=k+i
 op:r.op=7\/r.op=8
 osh:r.every mF=true
 short:∃x,r.kids=[x]/\1+ed x<=8192
 fit:i+r.looks<=L.length
theorem OW (re:Re):re.every mF=true->re.every JP=true->∀k i,i<re.looks->∃r,Iy (re.cc k) k i r:=by
 refine Re.ind (Q:=λre=>re.every mF=true->re.every JP=true->∀k i,i<re.looks->∃r,Iy (re.cc k) k i r) (λre ih hs hh k i hi=>?_) re;obtain⟨dL,jG⟩:=(Re.az re).1 hs;obtain⟨VN,hh2⟩:=(Re.az re).1 hh;have hL:∀(l:List Re) (k i:Nat),(∀x∈l,x∈re.kids)->i<Re.bd l->∃r,Iy (Re.kv l k) k i r:=by
  intro l;induction l with
  |nil=>intro k i _ h;simp [Re.bd]at h
  |cons x l Gb =>
   intro k i hm h;rw[Re.bd]at h;have Hh:=Re.vV x k;have JN:∀k,(Re.kv l k).length=Re.bd l:=λk=>by rw[<- Re.oZ l k,Re.yQ,ak4]
   rw[Re.kv];by_cases Z7:i<x.looks
   ·obtain⟨r,⟨p,a1,a2⟩,a3,a4,a5,a6⟩:=ih x (hm x aq) (jG x (hm x aq)) (hh2 x (hm x aq)) k i Z7;refine⟨r,⟨p,?_,a2⟩,a3,a4,a5,?_⟩
    ·rw[List.getElem?_append_left ae];exact a1
    ·rw[ald];omega
   ·obtain⟨r,⟨p,a1,a2⟩,a3,a4,a5,a6⟩:=Gb (k+x.looks) (i-x.looks) (λy hy=>hm y (by simp [hy])) ae;refine⟨r,⟨p,?_,ae⟩,a3,a4,a5,?_⟩
    ·rw[List.getElem?_append_right ae,Hh];exact a1
    ·rw[ald];omega
 rw[Re.DD];rw[Re.jc]at hi;by_cases ho:re.op=7\/re.op=8
 ·rw[be ho]at hi ⊢;have JN:(Re.kv re.kids (k+1)).length=Re.bd re.kids:=by rw[<- Re.oZ re.kids (k+1),Re.yQ,ak4]
  obtain⟨q1,_⟩:=je.1 dL;obtain⟨x,hx⟩:∃x,re.kids=[x]:=List.length_eq_one_iff.1 (q1 ae);cases i with
  |zero =>
   refine⟨re,⟨k,rfl,rfl⟩,ho,hs,⟨x,hx,?_⟩,?_⟩
   ·unfold JP at VN;have hl:re.kX=true:=bi ho;rw[hl,hx]at VN;simpa using VN
   ·rw[Re.jc,be ho,alg,JN];omega
  |succ i =>
   obtain⟨r,⟨p,a1,a2⟩,a3,a4,a5,a6⟩:=hL re.kids (k+1) i (λ_ h=>h) ae;exact⟨r,⟨p,by rw[List.getElem?_cons_succ];exact a1,ae⟩,a3,a4,a5,by rw[alg];omega⟩
 ·rw[ap ho,alc]at hi;rw[ap ho];exact hL re.kids k i (λ_ h=>h) hi
def eV (t:List Int) (Bs:List (List Bool)) (r:Re) (i:Nat):List Bool :=
 let C:=Re.dn r.kids (i+1) []++[cq]
 (if r.op=7 then iv t Bs C else rC t Bs C).map λb=>b != r.neg
def bh (t:List Int) (L:List (Re×Nat)):Nat->List (List Bool)
 |0=>List.replicate L.length []
 |c+1=>match L[L.length-1-c]? with
  |some p=>(bh t L c).set (L.length-1-c) (eV t (bh t L c) p.1 (L.length-1-c))
  |none=>bh t L c
theorem fM (t:List Int) (L:List (Re×Nat)):∀c,(bh t L c).length=L.length
 |0=>by simp [bh]
 |c+1=>by
  rw[bh];split
  ·rw[alu,fM t L c]
  ·exact fM t L c
theorem yD (t:List Int) (Bs:List (List Bool)) (C:List aw):(iv t Bs C).length=t.length+1:=by simp [iv]
theorem EI (t:List Int) (Bs:List (List Bool)) (C:List aw):(rC t Bs C).length=t.length+1:=(yu t Bs C (t.length+1)).2.1
theorem sW (t:List Int) (Bs:List (List Bool)) (r:Re) (i:Nat):(eV t Bs r i).length=t.length+1:=by
 unfold eV;simp only[ak4];split
 ·exact yD _ _ _
 ·exact EI _ _ _
theorem jL (t:List Int) (L:List (Re×Nat)):∀c j,j<L.length->L.length<=j+c->∃l,(bh t L c)[j]?=some l/\l.length=t.length+1
 |0,j,h1,h2=>ae
 |c+1,j,h1,h2=>by
  rw[bh];have hp:L.length-1-c<L.length:=ae;rw[List.getElem?_eq_getElem hp];simp only;by_cases hj:j=L.length-1-c
  ·subst hj;exact⟨_,List.getElem?_set_self (by rw[fM];exact hp),sW _ _ _ _⟩
  ·obtain⟨l,h3,h4⟩:=jL t L c j h1 ae;exact⟨l,by rw[List.getElem?_set_ne (Ne.symm hj)];exact h3,h4⟩
def mo (mode:Int) (a b:Nat):aw:=if mode=1 then dh b a else dh a b
def wU (c:Nat->List aw):Nat->Nat->List aw
 |0,_=>[]
 |n+1,f=>wU c n f++c (f+(wU c n f).length)
def rp (c:Nat->List aw) (mode:Int) (fin:Nat):Nat->Nat->List aw
 |0,_=>[]
 |n+1,f=>rp c mode fin n f++mo mode (f+(rp c mode fin n f).length+1) fin::c (f+(rp c mode fin n f).length+1)
def BD (c:Nat->List aw) (mn mx mode:Int) (z f:Nat):List aw :=
 let p:=wU c mn.toNat f;let b:=f+p.length
 p++if mx=-1 then mo mode (b+1) (b+z+2)::(c (b+1)++[jZ b]) else rp c mode (b+(mx-mn).toNat*(z+1)) (mx-mn).toNat b
mutual
def Re.xW:Re->Nat->Nat->List aw
 |.mk op set kids mn mx mode n neg,k,f =>
  if op=1 then [s9 (.mk op set kids mn mx mode n neg) k]
  else if op=11\/op=7\/op=8 then [lG (.mk op set kids mn mx mode n neg) k]
  else if op=2 then Re.ue kids k f
  else if op=3 then Re.Ct kids k f (f+(Re.cC kids+2*(kids.length-1)))
  else if op=5 then jo (2*n-2)::(Re.ue kids k (f+1)++[jo (2*n-1)])
  else if op=4 then BD (λf=>Re.ue kids k f) mn mx mode (Re.cC kids) f
  else []
def Re.ue:List Re->Nat->Nat->List aw
 |[],_,_=>[]
 |x::l,k,f=>x.xW k f++Re.ue l (k+x.looks) (f+x.dp)
def Re.Ct:List Re->Nat->Nat->Nat->List aw
 |[],_,_,_=>[]
 |x::l,k,f,E=>match l with
  |[]=>x.xW k f
  |_::_=>dh ((f:Int)+1) ((f:Int)+x.dp+2)::(x.xW k (f+1)++jZ E::Re.Ct l (k+x.looks) (f+x.dp+2) E)
end
variable{A:List aw}{B:List aw}{c:Nat}
theorem Re.lN (re:Re) (k f:Nat):re.xW k f=if re.op=1 then [s9 re k]
  else if re.op=11\/re.op=7\/re.op=8 then [lG re k]
  else if re.op=2 then Re.ue re.kids k f
  else if re.op=3 then Re.Ct re.kids k f (f+(Re.cC re.kids+2*(re.kids.length-1)))
  else if re.op=5 then jo (2*re.n-2)::(Re.ue re.kids k (f+1)++[jo (2*re.n-1)])
  else if re.op=4 then BD (λf=>Re.ue re.kids k f) re.mn re.mx re.mode (Re.cC re.kids) f
  else []:=by
 cases re;rw[Re.xW];rfl
theorem JI{i:aw}{c:Nat} (h:c=A.length) (x y:Int):yi (A++i::B) c x y=A++⟨i.op,x,y,i.n,i.node⟩::B:=by
 subst h;have e:bH (A++i::B) A.length=i:=by unfold bH;rw[List.getD_eq_getElem?_getD,List.getElem?_append_right (ale _),ame];rfl
 unfold yi;rw[e,al0 _ _ (ale _),ame];rfl
theorem abS{i:aw} (h:c=A.length) (E:Int):xO E (A++i::B) c=A++⟨i.op,E,i.y,i.n,i.node⟩::B:=by
 have e:bH (A++i::B) c=i:=by subst h;unfold bH;rw[List.getD_eq_getElem?_getD,List.getElem?_append_right (ale _),ame];rfl
 unfold xO;rw[JI h,e]
theorem UW (h:c<A.length):bH (A++B) c=bH A c:=by unfold bH;rw[List.getD_eq_getElem?_getD,List.getD_eq_getElem?_getD,List.getElem?_append_left h]
theorem Xv (h:c<A.length) (E:Int):xO E (A++B) c=xO E A c++B:=by unfold xO yi;rw[UW h,List.set_append_left _ _ h]
theorem Eo (E:Int):∀(J:List Nat) (A B:List aw),(∀c∈J,c<A.length)->J.foldl (xO E) (A++B)=J.foldl (xO E) A++B
 |[],_,_,_=>rfl
 |c::J,A,B,h=>by rw[aml,aml,Xv (h c aq),Eo E J _ _ λd hd=>by rw[Jr];exact h d (by simp [hd])]
theorem u6 {c:Nat->List aw}{z:Nat} (h:∀f,(c f).length=z) (f:Nat):∀n,(wU c n f).length=n*z
 |0=>by simp [wU]
 |n+1=>by rw[wU,ald,u6 h f n,h,Nat.succ_mul]
theorem A4 {c:Nat->List aw}{z:Nat} (h:∀f,(c f).length=z) (mode:Int) (fin f:Nat):∀n,(rp c mode fin n f).length=n*(z+1)
 |0=>by simp [rp]
 |n+1=>by rw[rp,ald,A4 h mode fin f n,alg,h,Nat.succ_mul]
theorem GY {F:List aw->List aw}{c:Nat->List aw} (h:∀C,F C=C++c C.length):∀n C,iO F n C=C++wU c n C.length
 |0,C=>by simp [iO,wU]
 |n+1,C=>by rw[iO,h,GY h n C,wU,ald,alx]
theorem Pv {mode:Int}{E:Nat} (h:c=A.length) (hE:(A++dh 0 0::B).length=E):oB mode (A++dh 0 0::B) c=A++mo mode (c+1) E::B:=by
 unfold oB;rw[hE];unfold mo;by_cases hm:mode=1
 ·rw[be hm,be hm,JI h];rfl
 ·rw[ap hm,ap hm,JI h];rfl
theorem wF {F:List aw->List aw}{c:Nat->List aw}{z:Nat} (h:∀C,F C=C++c C.length) (hz:∀f,(c f).length=z) (mode:Int) (E:Nat) :
  ∀n C B,((gx F n C).1++B).length=E->(gx F n C).2.foldl (oB mode) ((gx F n C).1++B)=C++rp c mode E n C.length++B/\(gx F n C).1.length=C.length+n*(z+1)
 |0,C,B,hE=>by simp [gx,rp]
 |n+1,C,B,hE=>by
  have hl:=(wF h hz mode ((gx F n C).1++[]).length n C [] rfl).2;have e1:(gx F (n+1) C).1=(gx F n C).1++([dh 0 0]++c ((gx F n C).1.length+1)):=by rw[gx];simp only;rw[h,ald,alC,alx]
  have e2:(gx F (n+1) C).2=(gx F n C).2++[(gx F n C).1.length]:=rfl;rw[e1]at hE ⊢;rw[e2,List.foldl_append,alx,(wF h hz mode E n C _ (by rw[<- hE];simp)).1];have r9:(C++rp c mode E n C.length).length=(gx F n C).1.length:=by rw[ald,A4 hz,hl]
  refine⟨?_,?_⟩
  ·rw[aml,List.foldl_nil,alx,List.singleton_append,ak5,<- alx C,Pv (E:=E) r9.symm]
   ·rw[rp,<- r9,ald];simp only[alx,ak5,alL]
   ·simp only[ald,alg,alf]at r9 hE ⊢;omega
  ·rw[ald,ald,hl,hz,alC,Nat.succ_mul];omega
theorem V6 {F:List aw->List aw}{c:Nat->List aw}{z:Nat} (h:∀C,F C=C++c C.length) (hz:∀f,(c f).length=z) (mn mx mode:Int) (C:List aw) :
  (mI F mn mx C).2.foldl (oB mode) (mI F mn mx C).1=C++BD c mn mx mode z C.length:=by
 have hp:=u6 hz C.length mn.toNat;unfold mI BD;simp only;rw[GY h];by_cases hx:mx=-1
 ·rw[be hx,be hx];simp only[aml,List.foldl_nil];rw[h,ald,alC,alx,alx,List.singleton_append,alx,<- alx C,Pv (E:=C.length+(wU c mn.toNat C.length).length+z+2) rfl]
  ·rw[ald];simp only[alx,ak5,alL]
  ·simp only[ald,alg,alf,hz];omega
 ·rw[ap hx,ap hx];have hl:=(wF h hz mode ((gx F (mx-mn).toNat (C++wU c mn.toNat C.length)).1++[]).length (mx-mn).toNat (C++wU c mn.toNat C.length) [] rfl).2;have h2:=(wF h hz mode (C.length+(wU c mn.toNat C.length).length+(mx-mn).toNat*(z+1)) (mx-mn).toNat (C++wU c mn.toNat C.length) [] (by rw[amv,hl,ald])).1;rw[amv,amv]at h2;rw[h2,ald,alx]
theorem Re.Kw {l:List Re} (h:∀x∈l,∀k f,(x.xW k f).length=x.dp):∀k f,(Re.ue l k f).length=Re.cC l:=by
 induction l with
 |nil=>intro _ _;rfl
 |cons x l ih =>
  intro k f;rw[Re.ue,Re.cC,ald,h x aq,ih (λy hy=>h y (by simp [hy]))]
theorem Eu (re:Re):∀k C,re.emit k C=C++re.xW k C.length:=by
 refine Re.ind (Q:=λre=>∀k C,re.emit k C=C++re.xW k C.length) (λre ih k C=>?_) re;have hlen:∀x∈re.kids,∀k f,(x.xW k f).length=x.dp:=by intro x hx k f;have h1:=congrArg List.length (ih x hx k (List.replicate f (dh 0 0)));rw[Re.eR,ald,alQ]at h1;omega
 have hL:∀(l:List Re) (k:Nat) (C:List aw),(∀x∈l,x∈re.kids)->Re.dn l k C=C++Re.ue l k C.length:=by
  intro l;induction l with
  |nil=>intro k C _;simp [Re.dn,Re.ue]
  |cons x l Gb =>
   intro k C hm;rw[Re.dn,ih x (hm x aq),Gb _ _ λy hy=>hm y (by simp [hy]),Re.ue,ald,hlen x (hm x aq),alx]
 rw[Re.kN,Re.lN];by_cases o1:re.op=1
 ·rw[be o1,be o1]
 rw[ap o1,ap o1];by_cases o7:re.op=11\/re.op=7\/re.op=8
 ·rw[be o7,be o7]
 rw[ap o7,ap o7];by_cases o2:re.op=2
 ·rw[be o2,be o2];exact hL _ _ _ λ_ h=>h
 rw[ap o2,ap o2];by_cases o3:re.op=3
 ·rw[be o3,be o3];have hA:∀(l:List Re) (k:Nat) (C:List aw) (J:List Nat) (E:Nat),(∀x∈l,x∈re.kids)->l≠[]->(∀c∈J,c<C.length)->E=C.length+(Re.cC l+2*(l.length-1))->Re.mr l k C J=J.foldl (xO E) C++Re.Ct l k C.length E:=by
   intro l;induction l with
   |nil=>intro k C J E _ h;exact absurd rfl h
   |cons x l Gb =>
    intro k C J E hm _ hJ hE;have hx:=hlen x (hm x aq);cases l with
    |nil =>
     have Dt:(x.emit k C).length=E:=by rw[Re.eR,hE];simp [Re.cC]
     rw[Re.mr,Re.Ct,Dt,ih x (hm x aq),Eo _ _ _ _ hJ]
    |cons y l =>
     rw[Re.mr,Re.Ct];have e1:x.emit k (C++[dh 0 0])=C++(dh 0 0::x.xW k (C.length+1)):=by rw[ih x (hm x aq),alx,ald];rfl
     have e2:(x.emit k (C++[dh 0 0])).length=C.length+x.dp+1:=by rw[Re.eR,ald,alC];omega
     rw[e2,e1,alx,ak5,JI rfl];have kG:(C++(⟨(dh 0 0).op,((C.length:Int)+1),(((C.length+x.dp+1:Nat):Int)+1),(dh 0 0).n,(dh 0 0).node⟩::(x.xW k (C.length+1)++[jZ 0]))).length=C.length+x.dp+2:=by simp only[ald,alg,alf,hx];omega
     rw[Gb _ _ _ E (λz hz=>hm z (by simp only[alT]at hz ⊢;exact .inr hz)) aq ?_ ?_]
     ·rw[kG,List.foldl_append,aml,List.foldl_nil,Eo _ _ _ _ hJ];have e3:J.foldl (xO (E:Int)) C++(⟨(dh 0 0).op,((C.length:Int)+1),(((C.length+x.dp+1:Nat):Int)+1),(dh 0 0).n,(dh 0 0).node⟩::(x.xW k (C.length+1)++[jZ 0]))=(J.foldl (xO (E:Int)) C++(dh ((C.length:Int)+1) ((C.length:Int)+x.dp+2)::x.xW k (C.length+1)))++jZ 0::[]:=by
       have ey:(((C.length+x.dp+1:Nat):Int)+1)=(C.length:Int)+x.dp+2:=by push_cast;omega
       rw[alx,ak5,ey];rfl
      rw[e3,abS (by simp only[ald,alg,CQ,hx];omega)];all_goals simp only[alx,ak5,ak6]
      all_goals rfl
     ·intro c hc;rw[kG];rcases List.mem_append.1 hc with hc|hc
      ·have:=hJ c hc;omega
      ·rw[List.mem_singleton.1 hc];omega
     ·have e4:Re.cC (x::y::l)=x.dp+Re.cC (y::l):=by rw[Re.cC]
      rw[kG,hE,e4];simp only[alg];omega
  cases hk:re.kids with
  |nil=>simp [Re.mr,Re.Ct]
  |cons x l =>
   rw[<- hk];exact hA re.kids k C [] _ (λ_ h=>h) (by rw[hk];simp) (λc hc=>by simp at hc) rfl
 rw[ap o3,ap o3];by_cases o5:re.op=5
 ·rw[be o5,be o5,hL _ _ _ λ_ h=>h,ald,alC];simp only[alx,ak5,ak6,List.singleton_append]
 rw[ap o5,ap o5];by_cases o4:re.op=4
 ·rw[be o4,be o4];exact V6 (λC=>hL _ _ _ λ_ h=>h) (λf=>Re.Kw hlen k f) _ _ _ _
 rw[ap o4,ap o4,amv]
theorem Re.ml (re:Re) (k f:Nat):(re.xW k f).length=re.dp:=by have h1:=congrArg List.length (Eu re k (List.replicate f (dh 0 0)));rw[Re.eR,ald,alQ]at h1;omega
inductive dt (t:List Int) (Bs:List (List Bool)) (C:List aw) (fin:Nat->Bool):Nat->Nat->List Int->Nat->Option (Nat×List Int)->Prop
 |done {pc a:Nat}{aR:List Int} (h:(bH C pc).op=0) (hf:fin a=true):dt t Bs C fin pc a aR 1 (some (a,aR))
 |uE {pc a:Nat}{aR:List Int} (h:(bH C pc).op=0) (hf:fin a=false):dt t Bs C fin pc a aR 1 none
 |Uc {pc a:Nat}{aR:List Int} (h:(bH C pc).op=1) (hc:(bH C pc).pass t Bs a=false):dt t Bs C fin pc a aR 1 none
 |rd {pc a:Nat}{aR:List Int}{n:Nat}{r:Option (Nat×List Int)} (h:(bH C pc).op=1) (hc:(bH C pc).pass t Bs a=true) (w:dt t Bs C fin (pc+1) (a+1) aR n r):dt t Bs C fin pc a aR (n+1) r
 |NH {pc a:Nat}{aR:List Int}{n:Nat}{r:Nat×List Int} (h:(bH C pc).op=2) (w:dt t Bs C fin (bH C pc).x.toNat a aR n (some r)):dt t Bs C fin pc a aR (n+1) (some r)
 |S0 {pc a:Nat}{aR:List Int}{n m:Nat}{r:Option (Nat×List Int)} (h:(bH C pc).op=2) (w:dt t Bs C fin (bH C pc).x.toNat a aR n none) (w2:dt t Bs C fin (bH C pc).y.toNat a aR m r):dt t Bs C fin pc a aR (n+m+1) r
 |jmp {pc a:Nat}{aR:List Int}{n:Nat}{r:Option (Nat×List Int)} (h:(bH C pc).op=3) (w:dt t Bs C fin (bH C pc).x.toNat a aR n r):dt t Bs C fin pc a aR (n+1) r
 |yM {pc a:Nat}{aR:List Int}{n:Nat}{r:Option (Nat×List Int)} (h:(bH C pc).op=4) (w:dt t Bs C fin (pc+1) a (aR.set (bH C pc).n.toNat a) n r):dt t Bs C fin pc a aR (n+1) r
 |ask {pc a:Nat}{aR:List Int}{n:Nat}{r:Option (Nat×List Int)} (h:(bH C pc).op=5) (hc:(bH C pc).pass t Bs a=true) (w:dt t Bs C fin (pc+1) a aR n r):dt t Bs C fin pc a aR (n+1) r
 |vu {pc a:Nat}{aR:List Int} (h:(bH C pc).op=5) (hc:(bH C pc).pass t Bs a=false):dt t Bs C fin pc a aR 1 none
section
variable {t:List Int}{Bs:List (List Bool)}{C:List aw}{fin:Nat->Bool}{pc a:Nat}
variable{aR:List Int}{r:Option (Nat×List Int)}{m:Nat}
theorem dt.LL (w:dt t Bs C fin pc a aR m r) (h:(bH C pc).op=0):m=1/\r=if fin a=true then some (a,aR) else none:=by
 cases w with
 |done h' hf=>exact⟨rfl,by rw[be hf]⟩
 |uE h' hf=>exact⟨rfl,by rw[ap (by rw[hf];simp)]⟩
 |Uc h'|rd h'|NH h'|S0 h'|jmp h'|yM h'|ask h'|vu h'=>omega
theorem dt.inv1 (w:dt t Bs C fin pc a aR m r) (h:(bH C pc).op=1):((bH C pc).pass t Bs a=false/\r=none/\m=1)\/((bH C pc).pass t Bs a=true/\∃n,m=n+1/\dt t Bs C fin (pc+1) (a+1) aR n r):=by
 cases w with
 |Uc h' hc=>exact .inl ⟨hc,rfl,rfl⟩
 |rd h' hc w=>exact .inr ⟨hc,_,rfl,w⟩
 |done h'|uE h'|NH h'|S0 h'|jmp h'|yM h'|ask h'|vu h'=>omega
theorem dt.inv2 (w:dt t Bs C fin pc a aR m r) (h:(bH C pc).op=2):(∃n v,m=n+1/\r=some v/\dt t Bs C fin (bH C pc).x.toNat a aR n (some v))\/(∃n n2,m=n+n2+1/\dt t Bs C fin (bH C pc).x.toNat a aR n none/\dt t Bs C fin (bH C pc).y.toNat a aR n2 r):=by
 cases w with
 |NH h' w=>exact .inl ⟨_,_,rfl,rfl,w⟩
 |S0 h' w w2=>exact .inr ⟨_,_,rfl,w,w2⟩
 |done h'|uE h'|Uc h'|rd h'|jmp h'|yM h'|ask h'|vu h'=>omega
theorem dt.W8 (w:dt t Bs C fin pc a aR m r) (h:(bH C pc).op=3):∃n,m=n+1/\dt t Bs C fin (bH C pc).x.toNat a aR n r:=by
 cases w with
 |jmp h' w=>exact⟨_,rfl,w⟩
 |done h'|uE h'|Uc h'|rd h'|NH h'|S0 h'|yM h'|ask h'|vu h'=>omega
theorem dt.V7 (w:dt t Bs C fin pc a aR m r) (h:(bH C pc).op=4):∃n,m=n+1/\dt t Bs C fin (pc+1) a (aR.set (bH C pc).n.toNat a) n r:=by
 cases w with
 |yM h' w=>exact⟨_,rfl,w⟩
 |done h'|uE h'|Uc h'|rd h'|NH h'|S0 h'|jmp h'|ask h'|vu h'=>omega
theorem dt.Q7 (w:dt t Bs C fin pc a aR m r) (h:(bH C pc).op=5):((bH C pc).pass t Bs a=false/\r=none/\m=1)\/((bH C pc).pass t Bs a=true/\∃n,m=n+1/\dt t Bs C fin (pc+1) a aR n r):=by
 cases w with
 |vu h' hc=>exact .inl ⟨hc,rfl,rfl⟩
 |ask h' hc w=>exact .inr ⟨hc,_,rfl,w⟩
 |done h'|uE h'|Uc h'|rd h'|NH h'|S0 h'|jmp h'|yM h'=>omega
theorem dt.det{n:Nat} (w:dt t Bs C fin pc a aR n r):∀{jh:List Int}{n':Nat}{r':Option (Nat×List Int)},dt t Bs C fin pc a jh n' r'->n=n'/\r.isSome=r'.isSome/\(aR=jh->r=r'):=by
 induction w with
 |done h hf =>
  intro jh n' r' w';obtain⟨rfl,rfl⟩:=w'.LL h;rw[be hf];exact⟨rfl,rfl,λe=>by rw[e]⟩
 |uE h hf =>
  intro jh n' r' w';obtain⟨rfl,rfl⟩:=w'.LL h;rw[ap (by rw[hf];simp)];exact⟨rfl,rfl,λe=>rfl⟩
 |Uc h hc =>
  intro jh n' r' w';rcases w'.inv1 h with ⟨_,rfl,rfl⟩|⟨h2,_⟩
  ·exact⟨rfl,rfl,λ_=>rfl⟩
  ·rw[hc]at h2;cases h2
 |rd h hc w ih =>
  intro jh n' r' w';rcases w'.inv1 h with ⟨h2,_⟩|⟨_,m,rfl,w2⟩
  ·rw[hc]at h2;cases h2
  ·exact Zch
 |NH h w ih =>
  intro jh n' r' w';rcases w'.inv2 h with ⟨m,v,rfl,rfl,w2⟩|⟨m,m2,rfl,w2,w3⟩
  ·exact Zch
  ·obtain⟨e1,e2,e3⟩:=ih w2;cases e2
 |S0 h w w2 ih mN =>
  intro jh n' r' w';rcases w'.inv2 h with ⟨m,v,rfl,rfl,w2⟩|⟨m,m2,rfl,w2,w3⟩
  ·obtain⟨e1,e2,e3⟩:=ih w2;cases e2
  ·obtain⟨e1,e2,e3⟩:=ih w2;obtain⟨f1,f2,f3⟩:=mN w3;exact⟨ae,f2,f3⟩
 |jmp h w ih =>
  intro jh n' r' w';obtain⟨m,rfl,w2⟩:=w'.W8 h;exact Zch
 |yM h w ih =>
  intro jh n' r' w';obtain⟨m,rfl,w2⟩:=w'.V7 h;obtain⟨e1,e2,e3⟩:=ih w2;exact⟨ae,e2,λe=>e3 (by rw[e])⟩
 |ask h hc w ih =>
  intro jh n' r' w';rcases w'.Q7 h with ⟨h2,_⟩|⟨_,m,rfl,w2⟩
  ·rw[hc]at h2;cases h2
  ·exact Zch
 |vu h hc =>
  intro jh n' r' w';rcases w'.Q7 h with ⟨_,rfl,rfl⟩|⟨h2,_⟩
  ·exact⟨rfl,rfl,λ_=>rfl⟩
  ·rw[hc]at h2;cases h2
end
def oC:Nat->Bool:=λ_=>true
section
variable {t:List Int}{Bs:List (List Bool)}{C:List aw}
variable{b:Bool}{d:Bool}{l:List Bool}
def xZ (t:List Int) (Bs:List (List Bool)) (C:List aw) (p:Nat) (S:Nat->Prop) (st:Jc):Prop:=∀q,q<C.length->st.kn.getD q true=true->¬S q->∀aR m r,dt t Bs C oC q p aR m r->st.nw.getD q false=r.isSome
def aaS (t:List Int) (Bs:List (List Bool)) (C:List aw) (p:Nat) (Lt:List Bool):Prop:=∀q,q<C.length->∀aR m r,dt t Bs C oC q p aR m r->Lt.getD q false=r.isSome
theorem nH{n:Nat} (h:n<l.length):(l.set n b).getD n d=b:=by rw[List.getD_eq_getElem?_getD,List.getElem?_set_self h];rfl
theorem lR{n q:Nat} (h:n≠q):(l.set n b).getD q d=l.getD q d:=by rw[List.getD_eq_getElem?_getD,List.getD_eq_getElem?_getD,List.getElem?_set_ne h]
theorem L7 (hg:fz t Bs C) {p:Nat}{Lt:List Bool} (Nb:p<t.length->aaS t Bs C (p+1) Lt):∀(k n:Nat) (S:Nat->Prop) (st:Jc),n<C.length->st.kn.length=C.length->st.nw.length=C.length->JS st.kn<k ->
  xZ t Bs C p S st->(∀q,S q->∀aR m r,dt t Bs C oC q p aR m r->∃jh n' r',dt t Bs C oC n p jh n' r'/\n'<m) ->
  (∀aR m r,dt t Bs C oC n p aR m r->(bF t Bs C p Lt k n st).1=r.isSome)/\xZ t Bs C p S (bF t Bs C p Lt k n st).2/\(bF t Bs C p Lt k n st).2.kn.getD n true=true/\∀q,st.kn.getD q true=true->(bF t Bs C p Lt k n st).2.kn.getD q true=true
 |0,_,_,_,_,_,_,hu,_,_=>ae
 |k+1,n,S,st,hn,hk,hw,hu,hK,hS=>by
  rw[bF];have ig:st.kn.getD n true=st.kn.getD n false:=by rw[List.getD_eq_getElem?_getD,List.getD_eq_getElem?_getD,List.getElem?_eq_getElem ae];rfl
  by_cases hc:st.kn.getD n true=true
  ·rw[be hc];refine⟨λaR m r w=>?_,hK,hc,λq h=>h⟩;by_cases hs:S n
   ·obtain⟨_,n',_,w',aE⟩:=hS n hs _ _ _ w;have:=(w.det w').1;omega
   ·exact hK n hn hc hs _ _ _ w
  rw[ap hc];have h0:st.kn[n]?=some false:=by have hl:n<st.kn.length:=ae;rw[List.getD_eq_getElem?_getD,List.getElem?_eq_getElem hl]at hc;rw[List.getElem?_eq_getElem hl];simp at hc ⊢;exact hc
  have Ze:=IS h0;generalize bL:(⟨st.kn.set n true,st.nw⟩:Jc)=dI;have k1:dI.kn.length=C.length:=by rw[<- bL];simpa using hk
  have k2:dI.nw.length=C.length:=by rw[<- bL];exact hw
  have k3:JS dI.kn<k:=by rw[<- bL];show JS (st.kn.set n true)<k;omega
  have k4:xZ t Bs C p (λq=>S q\/q=n) dI:=by intro q hq hkq hs aR m r w;rw[<- bL]at hkq ⊢;have eX:n≠q:=λe=>hs (.inr e.symm);refine hK q hq ?_ (λh=>hs (.inl h)) aR m r w;rw[<- lR (b:=true) eX];exact hkq
  have k5:∀q,st.kn.getD q true=true->dI.kn.getD q true=true:=by
   intro q hq;rw[<- bL];by_cases e:n=q
   ·subst e;exact nH ae
   ·show (st.kn.set n true).getD q true=true;rw[lR e];exact hq
  have k6:dI.kn.getD n true=true:=by rw[<- bL];exact nH ae
  have step:∀(n2:Nat) (Gs:Jc),n2<C.length->Gs.kn.length=C.length->Gs.nw.length=C.length->JS Gs.kn<k->xZ t Bs C p (λq=>S q\/q=n) Gs ->
    (∀aR m r,dt t Bs C oC n p aR m r->∃jh m' r',dt t Bs C oC n2 p jh m' r'/\m'<m)->_:=λn2 Gs h1 h2 h3 h4 h5 h6=>L7 hg Nb k n2 (λq=>S q\/q=n) Gs h1 h2 h3 h4 h5 (λq hq aR m r w=>by
     rcases hq with hq|rfl
     ·obtain⟨jh,n',r',w',aE⟩:=hS q hq aR m r w;obtain⟨a1,a2,a3,a4,a5⟩:=h6 _ _ _ w';exact⟨a1,a2,a3,a4,ae⟩
     ·exact h6 _ _ _ w)
  have close:∀R:Bool×Jc,(∀aR m r,dt t Bs C oC n p aR m r->R.1=r.isSome)->R.2.nw.length=C.length->xZ t Bs C p (λq=>S q\/q=n) R.2->(∀q,dI.kn.getD q true=true->R.2.kn.getD q true=true) ->
    (∀aR m r,dt t Bs C oC n p aR m r->R.1=r.isSome)/\xZ t Bs C p S ⟨R.2.kn,R.2.nw.set n R.1⟩/\R.2.kn.getD n true=true/\∀q,st.kn.getD q true=true->R.2.kn.getD q true=true:=by
   intro R h1 h2 h3 h4;refine⟨h1,λq hq hkq hs aR m r w=>?_,h4 n k6,λq hq=>h4 q (k5 q hq)⟩;by_cases e:n=q
   ·subst e;show (R.2.nw.set n R.1).getD n false=r.isSome;rw[nH ae];exact h1 _ _ _ w
   ·show (R.2.nw.set n R.1).getD q false=r.isSome;rw[lR e];exact h3 q hq hkq (λh=>h.elim hs (λh=>e h.symm)) aR m r w
  have Aq:=hg.ops n hn;simp only;by_cases o0:(bH C n).op=0
  ·rw[be o0];refine close (true,dI) (λaR m r w=>?_) k2 k4 λq h=>h;obtain⟨_,rfl⟩:=w.LL o0;rfl
  rw[ap o0];by_cases o1:(bH C n).op=1
  ·rw[be o1];refine close (_,dI) (λaR m r w=>?_) k2 k4 λq h=>h;rcases w.inv1 o1 with ⟨h1,rfl,_⟩|⟨h1,m',_,w'⟩
   ·show ((bH C n).pass t Bs p&&_)=_;rw[h1];rfl
   ·show ((bH C n).pass t Bs p&&_)=_;rw[h1,al6];obtain⟨re,k',e1,e2,_⟩:=hg.set n hn o1;have hp:p<t.length:=by unfold aw.pass at h1;rw[e1]at h1;simp only[e2,if_true,alo,decide_eq_true_eq]at h1;omega
    exact Nb hp (n+1) (hg.next n hn (.inl o1)) _ _ _ w'
  rw[ap o1];by_cases o2:(bH C n).op=2
  ·rw[be o2];obtain⟨x0,x1,y0,y1⟩:=hg.split n hn o2;have hx:=step (bH C n).x.toNat dI ae k1 k2 k3 k4 (λaR m r w=>by
    rcases w.inv2 o2 with ⟨m',v,rfl,_,w'⟩|⟨m',m2,rfl,w',_⟩
    ·exact⟨_,_,_,w',ae⟩
    ·exact⟨_,_,_,w',ae⟩)
   have Hh:=ir t Bs C p Lt k (bH C n).x.toNat dI;generalize bF t Bs C p Lt k (bH C n).x.toNat dI=r1 at *;obtain⟨a1,a2,a3,a4⟩:=hx;by_cases hr:r1.1=true
   ·rw[be hr];refine close r1 (λaR m r w=>?_) (Hh.2.1.trans k2) a2 a4;rcases w.inv2 o2 with ⟨m',v,rfl,rfl,w'⟩|⟨m',m2,rfl,w',_⟩
    ·exact a1 _ _ _ w'
    ·have:=a1 _ _ _ w';rw[hr]at this;cases this
   ·rw[ap hr];have hy:=step (bH C n).y.toNat r1.2 ae (Hh.1.trans k1) (Hh.2.1.trans k2) ae a2 (λaR m r w=>by
     rcases w.inv2 o2 with ⟨m',v,rfl,_,w'⟩|⟨m',m2,rfl,_,w'⟩
     ·exact absurd (a1 _ _ _ w') hr
     ·exact⟨_,_,_,w',ae⟩)
    have hyl:=ir t Bs C p Lt k (bH C n).y.toNat r1.2;generalize bF t Bs C p Lt k (bH C n).y.toNat r1.2=r2 at *;obtain⟨b1,b2,b3,b4⟩:=hy;refine close r2 (λaR m r w=>?_) (hyl.2.1.trans (Hh.2.1.trans k2)) b2 λq h=>b4 q (a4 q h);rcases w.inv2 o2 with ⟨m',v,rfl,rfl,w'⟩|⟨m',m2,rfl,_,w'⟩
    ·exact absurd (a1 _ _ _ w') hr
    ·exact b1 _ _ _ w'
  rw[ap o2];by_cases o3:(bH C n).op=3
  ·rw[be o3];obtain⟨x0,x1⟩:=hg.jump n hn o3;have hx:=step (bH C n).x.toNat dI ae k1 k2 k3 k4 (λaR m r w=>by
    obtain⟨m',rfl,w'⟩:=w.W8 o3;exact⟨_,_,_,w',ae⟩)
   have Hh:=ir t Bs C p Lt k (bH C n).x.toNat dI;generalize bF t Bs C p Lt k (bH C n).x.toNat dI=r1 at *;obtain⟨a1,a2,a3,a4⟩:=hx;refine close r1 (λaR m r w=>?_) (Hh.2.1.trans k2) a2 a4;obtain⟨m',rfl,w'⟩:=w.W8 o3;exact a1 _ _ _ w'
  rw[ap o3];by_cases o4:(bH C n).op=4
  ·rw[be o4];have x1:=hg.next n hn (.inr (.inl o4));have hx:=step (n+1) dI ae k1 k2 k3 k4 (λaR m r w=>by
    obtain⟨m',rfl,w'⟩:=w.V7 o4;exact⟨_,_,_,w',ae⟩)
   have Hh:=ir t Bs C p Lt k (n+1) dI;generalize bF t Bs C p Lt k (n+1) dI=r1 at *;obtain⟨a1,a2,a3,a4⟩:=hx;refine close r1 (λaR m r w=>?_) (Hh.2.1.trans k2) a2 a4;obtain⟨m',rfl,w'⟩:=w.V7 o4;exact a1 _ _ _ w'
  rw[ap o4];have o5:(bH C n).op=5:=ae;rw[be o5];by_cases tb:(bH C n).pass t Bs p=true
  ·rw[be tb];have x1:=hg.next n hn (.inr (.inr o5));have hx:=step (n+1) dI ae k1 k2 k3 k4 (λaR m r w=>by
    rcases w.Q7 o5 with ⟨h1,_⟩|⟨_,m',rfl,w'⟩
    ·rw[tb]at h1;cases h1
    ·exact⟨_,_,_,w',ae⟩)
   have Hh:=ir t Bs C p Lt k (n+1) dI;generalize bF t Bs C p Lt k (n+1) dI=r1 at *;obtain⟨a1,a2,a3,a4⟩:=hx;refine close r1 (λaR m r w=>?_) (Hh.2.1.trans k2) a2 a4;rcases w.Q7 o5 with ⟨h1,_⟩|⟨_,m',rfl,w'⟩
   ·rw[tb]at h1;cases h1
   ·exact a1 _ _ _ w'
  ·rw[ap tb];refine close (false,dI) (λaR m r w=>?_) k2 k4 λq h=>h;rcases w.Q7 o5 with ⟨_,rfl,_⟩|⟨h1,_⟩
   ·rfl
   ·exact absurd h1 tb
theorem aai (l:List Bool):JS l<=l.length:=List.count_le_length
theorem sa (hg:fz t Bs C) {p:Nat}{Lt:List Bool} (Nb:p<t.length->aaS t Bs C (p+1) Lt):∀n,n<=C.length->xZ t Bs C p (λ_=>False) (dg t Bs C p Lt n)/\∀q,q<n->(dg t Bs C p Lt n).kn.getD q true=true
 |0,_=>by
  refine⟨λq hq hk=>?_,λq hq=>ae⟩;have:(dg t Bs C p Lt 0).kn=List.replicate C.length false:=by simp [dg]
  rw[this,List.getD_eq_getElem?_getD,List.getElem?_replicate,be hq]at hk;cases hk
 |n+1,hn=>by
  obtain⟨h1,h2⟩:=sa hg Nb n ae;have hl:=oA t Bs C p Lt n;rw[kD];have hu:=aai (dg t Bs C p Lt n).kn;obtain⟨_,a2,a3,a4⟩:=L7 hg Nb (C.length+1) n (λ_=>False) _ ae hl.1 hl.2 ae h1 (λq hq=>hq.elim);refine⟨a2,λq hq=>?_⟩;by_cases e:q=n
  ·subst e;exact a3
  ·exact a4 q (h2 q ae)
theorem Ac (hg:fz t Bs C):∀i,i<=t.length->aaS t Bs C (t.length-i) (fj t Bs C (i+1))
 |0,_=>by obtain⟨h1,h2⟩:=sa hg (p:=t.length-0) (Lt:=fj t Bs C 0) (λh=>ae) C.length (ale _);exact λq hq aR m r w=>h1 q hq (h2 q hq) (λh=>h) aR m r w
 |i+1,hi=>by have ih:=Ac hg i ae;have e:t.length-(i+1)+1=t.length-i:=ae;obtain⟨h1,h2⟩:=sa hg (p:=t.length-(i+1)) (Lt:=fj t Bs C (i+1)) (λ_=>by rw[e];exact ih) C.length (ale _);exact λq hq aR m r w=>h1 q hq (h2 q hq) (λh=>h) aR m r w
theorem wQ (hg:fz t Bs C) (h0:0<C.length) {p:Nat} (hp:p<=t.length) {aR:List Int}{m:Nat}{r:Option (Nat×List Int)} (w:dt t Bs C oC 0 p aR m r):(iv t Bs C)[p]?=some r.isSome:=by have h:=Ac hg (t.length-p) ae;rw[show t.length-(t.length-p)=p by omega]at h;unfold iv;rw[List.getElem?_map,List.getElem?_range ae];simp only[ala];rw[h 0 h0 _ _ _ w]
end
end Go.Proofs.YtjjfioalgbecmaaGreat
