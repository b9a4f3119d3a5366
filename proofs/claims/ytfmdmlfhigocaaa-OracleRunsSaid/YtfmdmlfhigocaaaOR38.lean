/- A part of the proof (O17 O18 O19 O27). -/
import Derived.Test.YtfmdmlfhigocaaaOR14
import Derived.Test.YtfmdmlfhigocaaaOR30
import Derived.Test.YtfmdmlfhigocaaaOR31
import Derived.Test.YtfmdmlfhigocaaaOR32
import Derived.Test.YtfmdmlfhigocaaaOR33
import Derived.Test.YtfmdmlfhigocaaaOR37
set_option linter.unusedSimpArgs false
set_option linter.unusedVariables false
open Nat renaming reduceShiftRight → cy, reduceMod → cJ, reduceEqDiff → dV, reduceBEq → gV
open Int renaming reduceNatCast' → kd
set_option maxRecDepth 100000
set_option maxHeartbeats 80000000
namespace Go.Proofs.Ytfmdmlfhigocaaa
open Go.VL
section
variable (t:List Int) (root parts:D) (bg nb:Nat) (Bs:List (List Bool)) (b a:Nat)
omit t root parts bg nb Bs b a in
def qH:V:=.cl (.func 55) [] [.rf 2 0 0 0]
omit t root parts bg nb Bs in
def yp:V:=.cl (.func 56) [] [.rf 3 0 0 0,mB b a,.rf 4 0 0 0,.rf 2 0 0 0]
theorem SB (C:List au) (g:Nat) (J:List Nat):mF [0,1,2,3,4,5,6] (wO t root parts bg nb Bs b a C++[bw g J])=wO t root parts bg nb Bs b a C++[bw g J]:=by simp only[wO,aiX,ai0,mF,aiZ,ai2,aj2,ajW,ka,ry,mC _ (rfl:List.idxOf? 0 [0,1,2,3,4,5,6]=some 0)];rfl
omit t root parts bg nb Bs b a in
theorem OW {f:List au->List au}{z:Nat} (h:∀C,(f C).length=C.length+z):∀n C,∀x∈(gv f n C).2,x<(gv f n C).1.length
 |0,_,_,hx=>by simp [gv]at hx
 |n+1,C,x,hx=>by
  have ih:=OW h n C;simp only[gv,List.mem_append,List.mem_singleton]at hx;simp only[gv,h,ai6,ajz];rcases hx with hx|rfl
  ·have:=ih x hx;omega
  ·omega
def Wv (re x:Re):Prop:=∀(k:Nat) (C:List au),C.length+re.dc<=1000000000000 ->
 az Try.prog 62 [.d (re.bq k),qH,yp b a] (wO t root parts bg nb Bs b a C) λv s=>∃g,v=.so 6 g 0 (mG (x.emit k) re.mn re.mx C).2.length/\s=wO t root parts bg nb Bs b a (mG (x.emit k) re.mn re.mx C).1++[bw g (mG (x.emit k) re.mn re.mx C).2]
theorem Oo (re x:Re) (o:re.op=4) (hE:OH re=true) (hk:re.kids=[x]) (hK:zH t root parts bg nb Bs b a x):Wv t root parts bg nb Bs b a re x:=by
 intro k C hC;obtain⟨_,_,_,m0,m1,x0,x1,_,_⟩:=sM.1 hE;have jA:=λC=>yQ t root parts bg nb Bs b a C;have hf:∀C,(x.emit k C).length=C.length+x.dc:=λC=>Re.eO x k C;have hz:re.dc=if re.mx=-1 then re.mn.toNat*x.dc+x.dc+2 else re.mn.toNat*x.dc+(re.mx-re.mn).toNat*(x.dc+1):=by rw[Re.gj,nK,bd,bd,bd,bd,be o,hk];simp [Re.cu]
 have Mm:re.mn.toNat*x.dc<=re.dc:=by
  rw[hz];split
  ·omega
  ·exact Nat.le_add_right _ _
 have Ln:Re.ej re.kids k=[[x.bq k]]:=by rw[hk];rfl
 have dP:re.bq k=.el [iD 4,.sl (re.set.map aU),.sl (re.kids.map Re.cells),iD re.mn,iD re.mx,iD re.mode,iD re.n,bD re.neg,.sl [[x.bq k]],iD k]:=by rw[Re.eK,bd,aj5,Ln,o]
 have hq:([[x.bq k]]:List (List D))[0]?=some [x.bq k]:=rfl;rw[dP];unfold qH yp;generalize hR:mG (x.emit k) re.mn re.mx C=R;refine qV Try.func62 rfl Try.ntmps62 Try.results62 rfl 6 6917529027641094343 (ajc 6) (by first|decide|(simp;done)) ?_;simp only[zQ,simprocAttr,-kd];refine ay (λn e s=>∃i:Nat,n=re.mn.toNat-i/\i<=re.mn.toNat/\e 0=.d (.el [iD 4,.sl (re.set.map aU),.sl (re.kids.map Re.cells),iD re.mn,iD re.mx,iD re.mode,iD re.n,bD re.neg,.sl [[x.bq k]],iD k])/\e 1=qH/\e 2=yp b a/\e 12=i64 re.mn/\e 13=i64 i/\s=wS t root parts bg nb Bs b a (iR (x.emit k) i C))
  ⟨_,_,_,bJ.refl,0,rfl,ae,rfl,rfl,rfl,rfl,rfl,rfl⟩ ?_
 rintro n e s ⟨i,rfl,hi,h0,h1,h2,kz,yq,rfl⟩;have hil:(iR (x.emit k) i C).length=C.length+i*x.dc:=wJ hf i C;have him:i*x.dc<=re.mn.toNat*x.dc:=ajD _ hi;rw[show wS t root parts bg nb Bs b a (iR (x.emit k) i C)=wO t root parts bg nb Bs b a (iR (x.emit k) i C) from rfl];by_cases aB:(i:Int)<re.mn
 ·have GB:iR (x.emit k) (i+1) C=x.emit k (iR (x.emit k) i C):=rfl;have adu:(i+1)*x.dc<=re.mn.toNat*x.dc:=ajD _ ae;rw[Nat.succ_mul]at adu;have hw:=λK hk=>rY hK k (C:=iR (x.emit k) i C) ae (tl:=[]) (K:=K) hk;rw[<- GB]at hw;simp only[List.append_nil]at hw;generalize iR (x.emit k) i C=C1 at *;generalize hC2:iR (x.emit k) (i+1) C=C2 at *;unfold dJ at hw;generalize x.bq k=xd at *;simp only[zQ,simprocAttr,-kd,wO,h0,h1,h2,kz,yq,aB,yp,ai8,ai9,ai7,hq];refine⟨aJ,?_⟩;refine hw _ ?_;simp only[zQ,simprocAttr,-kd,h0,h1,h2,kz,yq];refine⟨re.mn.toNat-(i+1),_,_,ae,bJ.refl,i+1,ae,ae,?_,?_,?_,?_,?_,by rw[hC2];rfl⟩ <;> (try simp only[zU,gV,cy,cJ,dV,reduceIte])
  ·exact h0
  ·exact h1
  ·exact h2
  ·exact kz
  ·rw[bF _ ae];rfl
 ·have dY:i=re.mn.toNat:=by omega
  subst dY;have Zx:R=if re.mx=-1 then (x.emit k (iR (x.emit k) re.mn.toNat C++[cX 0 0])++[ku (iR (x.emit k) re.mn.toNat C).length],[(iR (x.emit k) re.mn.toNat C).length]) else gv (x.emit k) (re.mx-re.mn).toNat (iR (x.emit k) re.mn.toNat C):=hR.symm
  generalize iR (x.emit k) re.mn.toNat C=C1 at *;by_cases hm:re.mx=-1
  ·rw[be hm]at Zx hz;have Ap:=λK hk=>lk (t:=t) (root:=root) (parts:=parts) (bg:=bg) (nb:=nb) (Bs:=Bs) (b:=b) (a:=a) (C:=C1) ae 2 0 0 0 (tl:=[]) (K:=K) hk;have hw:=λK hk=>rY hK k (C:=C1++[cX 0 0]) (by rw[ai6,ajz];omega) (tl:=[bw 0 [C1.length]]) (K:=K) hk;have y9:(x.emit k (C1++[cX 0 0])).length<=1000000000000:=by rw[hf,ai6,ajz];omega
   have CV:=λK hk=>lk (t:=t) (root:=root) (parts:=parts) (bg:=bg) (nb:=nb) (Bs:=Bs) (b:=b) (a:=a) (C:=x.emit k (C1++[cX 0 0])) y9 3 C1.length 0 0 (tl:=[bw 0 [C1.length]]) (K:=K) hk;rw[show (⟨2,0,0,0,none⟩:au)=cX 0 0 from rfl]at Ap;rw[show (⟨3,C1.length,0,0,none⟩:au)=ku C1.length from rfl]at CV;subst Zx;generalize x.emit k (C1++[cX 0 0])++[ku C1.length]=C4 at *;generalize x.emit k (C1++[cX 0 0])=C3 at *;generalize C1++[cX 0 0]=C2 at *;unfold dJ at hw;simp only[List.append_nil]at Ap;generalize x.bq k=xd at *;have mD:decide (re.mx=-1)=true:=bi hm;have hT:∀(J:List Nat),List.map (λ(x:Nat)=>[V.d (D.sc (Value.int IntKind.i64 (x:Int)))]) J=(bw 0 J).aw:=λJ=>rfl;simp only[zQ,simprocAttr,-kd,h0,h1,h2,kz,yq,aB,mD,qH,yp];refine Ap _ ?_;simp only[zQ,simprocAttr,-kd,h0,h1,h2,kz,yq,mD,qH,yp,wO,aiX,ai0,ai8,ai9,ai7,hq];first|refine⟨λe he=>by rw[List.mem_singleton.1 he];rfl,aJ,aJ,?_⟩|refine⟨λe he=>by rw[List.mem_singleton.1 he];rfl,aJ,?_⟩|refine⟨λe he=>by rw[List.mem_singleton.1 he];rfl,?_⟩
   refine hw _ ?_;simp only[zQ,simprocAttr,-kd,h0,h1,h2,kz,yq,mD,qH,yp,wO,bw,aiX,ai0,ai8,ai9,ai7,aiZ,ai2];refine⟨aJ,?_⟩;refine CV _ ?_;simp only[zQ,simprocAttr,-kd,h0,h1,h2,kz,yq,tY,zG];refine⟨[0,1,2,3,4,5,6],rfl,0,?_⟩;rw[SB];exact⟨rfl,rfl⟩
  ·rw[ap hm]at Zx hz;have mD:decide (re.mx=-1)=false:=ce hm;have wx:IntKind.i64.wrap (re.mx-re.mn)=re.mx-re.mn:=bF _ ae;simp only[zQ,simprocAttr,-kd,h0,h1,h2,kz,yq,aB,mD,qH,yp];refine aA mix [] [] aN ?_;simp only[zQ,simprocAttr,-kd,h0,h1,h2,kz,yq,wx];generalize hM:(re.mx-re.mn).toNat=m at *;refine ay (λn e s=>∃(i g:Nat),n=m-i/\i<=m/\e 0=.d (.el [iD 4,.sl (re.set.map aU),.sl (re.kids.map Re.cells),iD re.mn,iD re.mx,iD re.mode,iD re.n,bD re.neg,.sl [[x.bq k]],iD k])/\e 1=qH/\e 2=yp b a/\e 7=.so 6 g 0 i/\e 61=i64 (re.mx-re.mn)/\e 62=i64 i/\s=wO t root parts bg nb Bs b a (gv (x.emit k) i C1).1++[bw g (gv (x.emit k) i C1).2])
    ⟨_,_,_,.MX (fQ 7 1 rfl),0,0,rfl,ae,?_,?_,?_,rfl,rfl,rfl,rfl⟩ ?_
   ·(try simp only[zU,gV,cy,cJ,dV,reduceIte]);exact h0
   ·(try simp only[zU,gV,cy,cJ,dV,reduceIte]);exact h1
   ·(try simp only[zU,gV,cy,cJ,dV,reduceIte]);exact h2
   clear h0 h1 h2 kz yq;rintro n e s ⟨i,g,rfl,hi,h0,h1,h2,h7,wT,xx,rfl⟩;obtain⟨ol1,ol2⟩:=y5 hf i C1;have ago:i*(x.dc+1)<=m*(x.dc+1):=ajD _ hi;rcases ajr i m with ad8|ahE
   ·have aH:(i:Int)<re.mx-re.mn:=by omega
    have aes:(i+1)*(x.dc+1)<=m*(x.dc+1):=ajD _ ae;rw[Nat.succ_mul]at aes;have GB:gv (x.emit k) (i+1) C1=(x.emit k ((gv (x.emit k) i C1).1++[cX 0 0]),(gv (x.emit k) i C1).2++[(gv (x.emit k) i C1).1.length]):=rfl;generalize hO2:gv (x.emit k) (i+1) C1=O2 at *;generalize gv (x.emit k) i C1=O1 at *;obtain⟨D1,J⟩:=O1;simp only at ol1 ol2 GB ⊢;have Ap:=λK hk=>lk (t:=t) (root:=root) (parts:=parts) (bg:=bg) (nb:=nb) (Bs:=Bs) (b:=b) (a:=a) (C:=D1) ae 2 0 0 0 (tl:=[bw g J]) (K:=K) hk;have hw:=λK hk=>rY hK k (C:=D1++[cX 0 0]) (by rw[ai6,ajz];omega) (tl:=[bw (g+1) (J++[D1.length])]) (K:=K) hk;rw[show (⟨2,0,0,0,none⟩:au)=cX 0 0 from rfl]at Ap;generalize x.emit k (D1++[cX 0 0])=D3 at *;generalize D1++[cX 0 0]=D2 at *;unfold dJ at hw;have hT:List.take i (J.map λ(x:Nat)=>[V.d (D.sc (Value.int IntKind.i64 (x:Int)))])++[[V.d (D.sc (Value.int IntKind.i64 (D1.length:Int)))]]=(J++[D1.length]).map λ(x:Nat)=>[V.d (D.sc (Value.int IntKind.i64 (x:Int)))]:=by rw[ajb (by rw[aiW];omega)];simp
    simp only[zQ,simprocAttr,-kd,h0,h1,h2,h7,wT,xx,aH,qH,yp];refine Ap _ ?_;simp only[zQ,simprocAttr,-kd,h0,h1,h2,h7,wT,xx,qH,yp,wO,bw,aiX,ai0,ai8,ai9,ai7,aiW,hT];refine⟨λe he=>by rw[List.mem_singleton.1 he];rfl,⟨ae,ae⟩,aJ,?_⟩;refine hw _ ?_;simp only[zQ,simprocAttr,-kd,h0,h1,h2,h7,wT,xx];refine⟨m-(i+1),_,_,ae,bJ.refl,i+1,g+1,rfl,ad8,?_,?_,?_,?_,?_,?_,by rw[hO2,GB];rfl⟩ <;> (try simp only[zU,gV,cy,cJ,dV,reduceIte])
    ·exact h0
    ·exact h1
    ·exact h2
    ·exact wT
    ·rw[bF _ ae];rfl
   ·have dY:i=m:=by omega
    subst dY;have acU:¬(i:Int)<re.mx-re.mn:=ae;simp only[zQ,simprocAttr,-kd,h0,h1,h2,h7,wT,xx,acU,tY,zG];refine⟨[0,1,2,3,4,5,6],rfl,g,?_⟩;rw[SB,Zx,ol2];exact⟨rfl,rfl⟩
end
section
variable (t:List Int) (root parts:D) (bg nb:Nat) (Bs:List (List Bool)) (b a:Nat)
variable {t root parts bg nb Bs b a}
theorem S3 {re x:Re} (h:Wv t root parts bg nb Bs b a re x) (k:Nat) {C:List au} (hC:C.length+re.dc<=1000000000000) {K:V->List VL.Obj->Prop}
  (hk:∀g,K (.so 7 g 0 (mG (x.emit k) re.mn re.mx C).2.length) (wO t root parts bg nb Bs b a (mG (x.emit k) re.mn re.mx C).1++[pn re k,bw g (mG (x.emit k) re.mn re.mx C).2])) :
  az Try.prog 62 [.d (re.bq k),qH,yp b a] (wO t root parts bg nb Bs b a C++[pn re k]) K:=by
 have ad7:=M6 t root parts bg nb Bs b a C;refine jX (h k C hC) [0,1,2,3,4,5] rfl aJ (λj o ho=>?_) ?_ ?_ (yQ t root parts bg nb Bs b a C) ?_
 ·have h1:((wO t root parts bg nb Bs b a C).map (bf [0,1,2,3,4,5]))[j]?=some (bf [0,1,2,3,4,5] o):=by rw[aiY,ho];rfl
  rw[ad7]at h1;have hj:j<6:=(List.getElem?_eq_some_iff.1 h1).1;have e1:[0,1,2,3,4,5].getD j 0=j:=by
   match j,hj with
   |0,_=>rfl
   |1,_=>rfl
   |2,_=>rfl
   |3,_=>rfl
   |4,_=>rfl
   |5,_=>rfl
  rw[e1,ajj (by exact hj)];exact h1
 ·simp [qH,yp,aS,aS.go,mB]
 ·simp [qH,yp,ak,ak.go,mB,wO]
 rintro v s' ⟨g,rfl,rfl⟩ _;have hk:=hk g;generalize mG (x.emit k) re.mn re.mx C=R at *;have e1:xa [0,1,2,3,4,5] (wO t root parts bg nb Bs b a C++[pn re k]) (wO t root parts bg nb Bs b a C) (wO t root parts bg nb Bs b a R.1++[bw g R.2])=[0,1,2,3,4,5,7]:=rfl;rw[e1];have e2:(wO t root parts bg nb Bs b a R.1).map (bf [0,1,2,3,4,5,7])=wO t root parts bg nb Bs b a R.1:=by simp only[wO,aiZ,ai2,kY,fN];simp [bf,dK,pN,mB,aS,aS.go]
 have e3:List.take (wO t root parts bg nb Bs b a C).length (wO t root parts bg nb Bs b a R.1++[bw g R.2])=wO t root parts bg nb Bs b a R.1:=rfl;have e4:List.drop (wO t root parts bg nb Bs b a C).length (wO t root parts bg nb Bs b a R.1++[bw g R.2])=[bw g R.2]:=rfl;rw[e3,e4,e2,aiZ,ai2,pa];have e5:aS [0,1,2,3,4,5,7] (.so 6 g 0 R.2.length)=.so 7 g 0 R.2.length:=rfl;rw[e5];exact hk
variable (t root parts bg nb Bs b a)
theorem Us (re x:Re) (o:re.op=4) (hE:OH re=true) (hk:re.kids=[x]) (hK:zH t root parts bg nb Bs b a x):zH t root parts bg nb Bs b a re:=by
 intro k C hC;have jA:=λC=>yQ t root parts bg nb Bs b a C;have hrep:=Oo t root parts bg nb Bs b a re x o hE hk hK;have hc:re.emit k C=(mG (x.emit k) re.mn re.mx C).2.foldl (oC re.mode) (mG (x.emit k) re.mn re.mx C).1:=by rw[Re.lg,bd,bd,bd,bd,bd,be o,hk];rfl
 have ZR:(mG (x.emit k) re.mn re.mx C).1.length<=1000000000000:=by have h1:=Re.eO re k C;rw[hc,vN]at h1;omega
 have aba:∀c∈(mG (x.emit k) re.mn re.mx C).2,c<(mG (x.emit k) re.mn re.mx C).1.length:=by
  intro c XE;have hf:∀C,(x.emit k C).length=C.length+x.dc:=λC=>Re.eO x k C;unfold mG at XE ⊢;simp only at XE ⊢;split at XE
  ·rename_i hm;rw[be hm];rw[List.mem_singleton]at XE;simp only[ai6,hf,ajz];omega
  ·rename_i hm;rw[ap hm];exact OW hf _ _ c XE
 have ZH:(mG (x.emit k) re.mn re.mx C).2.length<=3000000:=by
  obtain⟨_,_,_,m0,m1,x0,x1,_,_⟩:=sM.1 hE;have hf:∀C,(x.emit k C).length=C.length+x.dc:=λC=>Re.eO x k C;unfold mG;simp only;split
  ·simp
  ·rw[(y5 hf _ _).2];omega
 rw[hc];have Wx:=λK hk=>S3 hrep k hC (K:=K) hk;unfold dJ;have Ln:Re.ej re.kids k=[[x.bq k]]:=by rw[hk];rfl
 have dP:re.bq k=.el [iD 4,.sl (re.set.map aU),.sl (re.kids.map Re.cells),iD re.mn,iD re.mx,iD re.mode,iD re.n,bD re.neg,.sl [[x.bq k]],iD k]:=by rw[Re.eK,bd,aj5,Ln,o]
 have oM:pn re k=⟨0,true,1,[[.d (re.bq k)]]⟩:=rfl;generalize mG (x.emit k) re.mn re.mx C=R at *;obtain⟨C1,J⟩:=R;simp only at ZR aba Wx ZH ⊢;unfold qH yp at Wx;rw[oM]at Wx;rw[dP]at Wx oM ⊢;simp only[iD,bD]at Wx;refine xp Try.func56 rfl Try.ntmps56 Try.results56 rfl 6 1278813932664544596687975450732993771492559903679 (ajc 6) (by first|decide|(simp [dJ];done)) ?_;simp only[zQ,simprocAttr,wO,aiX,ai0];refine Wx _ (λg=>?_);simp only[zQ,simprocAttr,wO,aiX,ai0];refine ay (λn e s=>∃j:Nat,n=J.length-j/\j<=J.length/\e 4=.rf 2 0 0 0/\e 5=.rf 6 0 0 0/\e 157=.so 7 g 0 J.length/\e 158=i64 J.length/\e 159=i64 j/\s=Ez t root parts bg nb Bs b a ((J.take j).foldl (oC re.mode) C1) re k g J)
  ⟨_,_,_,bJ.refl,0,rfl,ae,rfl,rfl,rfl,rfl,rfl,by rw[Ez,oM];rfl⟩ ?_
 rintro n e s ⟨j,rfl,hj,h4,h5,Lc,LB,Ql,rfl⟩;have hDl:((J.take j).foldl (oC re.mode) C1).length=C1.length:=vN _ _ _;rcases ajr j J.length with aB|iA
 ·obtain⟨c,hx⟩:∃c,J[j]?=some c:=bZ aB;have hxb:=aba c (ai4 hx);have aH:(j:Int)<(J.length:Int):=ae;have UE:(0:Int)<=(j:Int):=ae;have Ee:(J.take (j+1)).foldl (oC re.mode) C1=oC re.mode ((J.take j).foldl (oC re.mode) C1) c:=by rw[bj hx,List.foldl_append];rfl
  rw[show Ez t root parts bg nb Bs b a ((J.take j).foldl (oC re.mode) C1) re k g J=wO t root parts bg nb Bs b a ((J.take j).foldl (oC re.mode) C1)++[pn re k,bw g J] from rfl,oM];generalize (J.take j).foldl (oC re.mode) C1=Dc at *;have g1:(cP Dc.length b a Dc).g=Dc.length:=rfl;have g2:(cP Dc.length b a Dc).sz=5:=rfl;have g3:(cP Dc.length b a Dc).aw=Dc.map (au.cells b a):=rfl;have g4:(cP Dc.length b a Dc).live=true:=rfl;obtain⟨y,hy⟩:∃y,Dc[c]?=some y:=bZ;have c2:c<Dc.length:=ae;have c1:(c:Int)<(Dc.length:Int):=ae;have c0:(0:Int)<=(c:Int):=ae;have w1:IntKind.i64.wrap ((c:Int)+1)=(c:Int)+1:=bF _ ae;have Y6:bz Dc c=y:=by unfold bz;rw[aja,hy];rfl
  have e1:∀v,((Dc.map (au.cells b a)).set c v)[c]?=some v:=λv=>ajm (by simpa using c2);have e2:∀u (p q:Int),((Dc.map (au.cells b a)).set c u).set c [V.d (D.sc (Value.int IntKind.i64 y.op)),V.d (D.sc (Value.int IntKind.i64 p)),V.d (D.sc (Value.int IntKind.i64 q)),V.d (D.sc (Value.int IntKind.i64 y.n)),cq b a y.node]=(x9 Dc c p q).map (au.cells b a):=by intro u p q;rw[List.set_set,x9,akv,Y6];rfl
  have e4:∀(p q:Int),(x9 Dc c p q)[c]?=some ⟨y.op,p,q,y.n,y.node⟩:=by intro p q;rw[x9,Y6];exact ajm c2
  have e5:∀(p q p' q':Int) u,(((x9 Dc c p q).map (au.cells b a)).set c u).set c [V.d (D.sc (Value.int IntKind.i64 y.op)),V.d (D.sc (Value.int IntKind.i64 p')),V.d (D.sc (Value.int IntKind.i64 q')),V.d (D.sc (Value.int IntKind.i64 y.n)),cq b a y.node]=(x9 Dc c p' q').map (au.cells b a):=by intro p q p' q' u;rw[List.set_set,x9,x9,akv,akv,List.set_set,Y6];rfl
  have e6:∀(p q:Int) v,(((x9 Dc c p q).map (au.cells b a)).set c v)[c]?=some v:=λp q v=>ajm (by simpa [oI]using c2);have e7:∀(p q:Int),(x9 Dc c p q).length=Dc.length:=λp q=>oI _ _ _ _;by_cases hmd:re.mode=1
  ·have U1:decide (re.mode=1)=true:=bi hmd;simp only[zQ,simprocAttr,wO,bw,pN,h4,h5,Lc,LB,Ql,aH,UE,aB,hx,ai1,ai7,aiW,aiY,ai3,aiX,ai0];refine aA mix [] [(8,[5],[]),(9,[5],[]),(10,[5],[5]),(11,[5],[]),(12,[5],[]),(13,[5],[5])] aN ?_;simp only[zQ,simprocAttr,h4,h5,Lc,LB,Ql,cf,aQ,c0,c1,c2,g1,g2,g3,g4,hy,w1,ai1,ai7,aiW,aiY,ai3,au.cells,e1,e2,aj1,akc,List.drop_succ_cons,ajQ,aiX,ai0,ai8,ai9,U1];refine aA mix [] [(6,[5],[]),(7,[5],[]),(8,[5],[]),(11,[5],[]),(12,[5],[]),(13,[5],[]),(14,[5],[]),(15,[5],[]),(16,[5],[5]),(17,[5],[]),(18,[5],[]),(19,[5],[5])] aN ?_;simp only[zQ,simprocAttr,h4,h5,Lc,LB,Ql,cf,aQ,c0,c1,c2,g1,g2,g3,g4,hy,w1,ai1,ai7,aiW,aiY,ai3,au.cells,e1,e2,e4,e5,e6,e7,aj1,akc,List.drop_succ_cons,ajQ,aiX,ai0,ai8,ai9,U1];refine⟨J.length-(j+1),_,_,ae,bJ.refl,j+1,rfl,aB,?_,?_,?_,?_,?_,?_⟩ <;> (try simp only[zU,gV,cy,cJ,dV,reduceIte])
   ·exact h4
   ·exact h5
   ·exact Lc
   ·exact LB
   ·rw[bF _ ae];rfl
   ·rw[Ee,oC,be hmd];simp only[Ez,oM,wO,bw,pN,cP,e7,hDl,iD,bD,aiX,ai0,i64]
  ·have U1:decide (re.mode=1)=false:=ce hmd;simp only[zQ,simprocAttr,wO,bw,pN,h4,h5,Lc,LB,Ql,aH,UE,aB,hx,ai1,ai7,aiW,aiY,ai3,aiX,ai0];refine aA mix [] [(8,[5],[]),(9,[5],[]),(10,[5],[5]),(11,[5],[]),(12,[5],[]),(13,[5],[5])] aN ?_;simp only[zQ,simprocAttr,h4,h5,Lc,LB,Ql,cf,aQ,c0,c1,c2,g1,g2,g3,g4,hy,w1,ai1,ai7,aiW,aiY,ai3,au.cells,e1,e2,e4,e5,e6,e7,aj1,akc,List.drop_succ_cons,ajQ,aiX,ai0,ai8,ai9,U1];refine⟨J.length-(j+1),_,_,ae,bJ.refl,j+1,rfl,aB,?_,?_,?_,?_,?_,?_⟩ <;> (try simp only[zU,gV,cy,cJ,dV,reduceIte])
   ·exact h4
   ·exact h5
   ·exact Lc
   ·exact LB
   ·rw[bF _ ae];rfl
   ·rw[Ee,oC,ap hmd];simp only[Ez,oM,wO,bw,pN,cP,e7,hDl,iD,bD,aiX,ai0,i64]
 ·have NI:j=J.length:=by omega
  subst NI;rw[ajt];simp only[zQ,simprocAttr,h4,h5,Lc,LB,Ql,ajZ,Ez,vl,jA];rfl
end
section
variable (t:List Int) (root parts:D) (bg nb:Nat) (Bs:List (List Bool)) (b a:Nat)
theorem Uc (re:Re):re.every OH=true->zH t root parts bg nb Bs b a re:=by
 refine Re.ind (Q:=λre=>re.every OH=true->zH t root parts bg nb Bs b a re) (λre ih hs=>?_) re;obtain⟨ef,fU⟩:=(Re.av re).1 hs;have hK:∀x∈re.kids,zH t root parts bg nb Bs b a x:=λx hx=>ih x hx (fU x hx);obtain⟨q1,q2,_⟩:=sM.1 ef;by_cases o2:re.op=2
 ·exact SP t root parts bg nb Bs b a re o2 ef hK
 by_cases o3:re.op=3
 ·have dP:re.kids≠[]:=by have:=q2 o3;intro h;rw[h]at this;simp at this
  exact St t root parts bg nb Bs b a re re.kids.dropLast (re.kids.getLast dP) o3 ef (List.dropLast_concat_getLast dP).symm hK
 by_cases o4:re.op=4
 ·obtain⟨x,hx⟩:∃x,re.kids=[x]:=List.length_eq_one_iff.1 (q1 (.inl o4));exact Us t root parts bg nb Bs b a re x o4 ef hx (hK x (by rw[hx];simp))
 by_cases o5:re.op=5
 ·obtain⟨x,hx⟩:∃x,re.kids=[x]:=List.length_eq_one_iff.1 (q1 (.inr o5));exact Ss t root parts bg nb Bs b a re x o5 ef hx (hK x (by rw[hx];simp))
 exact Qw t root parts bg nb Bs b a re ⟨o2,o3,o4,o5⟩
def cO (C:List au):List VL.Obj:=[dK t root parts bg nb,fX bg Bs,⟨0,false,1,[[.pp 0 0 0 0 b a]]⟩,pN 6 C.length,
 ⟨0,true,1,[[.cl (.func 55) [] [.rf 3 0 0 0]]]⟩,
 ⟨0,true,1,[[.cl (.func 56) [] [.rf 4 0 0 0,mB b a,.rf 5 0 0 0,.rf 3 0 0 0]]]⟩,cP C.length b a C]
variable {t root parts bg nb Bs b a}
theorem O4 {f:FuncId}{args W5:List V}{r:V}{C C':List au} (h:az Try.prog f args (wO t root parts bg nb Bs b a C) λv s=>v=r/\s=wO t root parts bg nb Bs b a C') (ha:W5=args.map (aS [0,1,3,4,5,6])) (F6:ak.go 6 args=true) (hr:aS [0,1,3,4,5,6] r=r) {K:V->List VL.Obj->Prop}
  (hk:K r (cO t root parts bg nb Bs b a C')):az Try.prog f W5 (cO t root parts bg nb Bs b a C) K:=by
 have hm:∀C,(wO t root parts bg nb Bs b a C).map (bf [0,1,3,4,5,6])=[dK t root parts bg nb,fX bg Bs,pN 6 C.length,
   ⟨0,true,1,[[.cl (.func 55) [] [.rf 3 0 0 0]]]⟩,
   ⟨0,true,1,[[.cl (.func 56) [] [.rf 4 0 0 0,mB b a,.rf 5 0 0 0,.rf 3 0 0 0]]]⟩,cP C.length b a C]:=by
  intro C;simp only[wO,aiZ,ai2,kY,fN];simp [bf,dK,pN,mB,aS,aS.go]
 refine ew [0,1,3,4,5,6] h aJ rfl ?_ ha F6 (yQ t root parts bg nb Bs b a C) (r':=r) hr ?_
 ·have h2:(wO t root parts bg nb Bs b a C).map (λo=>some (bf [0,1,3,4,5,6] o))=((wO t root parts bg nb Bs b a C).map (bf [0,1,3,4,5,6])).map some:=by rw[ajL];rfl
  rw[h2,hm];rfl
 ·rw[hm];exact hk
variable (t root parts bg nb Bs b a)
def bW:au:=⟨0,0,0,0,none⟩
theorem Tf (re:Re) (hs:re.every OH=true) (hz:re.dc<=1000000) (k:Nat) :
  az Try.prog 28 [.pp 0 0 0 0 b a,.d (re.bq k)] [dK t root parts bg nb,fX bg Bs] λv s=>v=.so 2 (re.emit k []++[bW]).length 0 (re.emit k []++[bW]).length/\s=[dK t root parts bg nb,fX bg Bs,cP (re.emit k []++[bW]).length b a (re.emit k []++[bW])]:=by
 have hw:=Uc t root parts bg nb Bs b a re hs k [] cG;have hl:(re.emit k []).length<=1000000:=by rw[Re.eO];simp;omega
 have hp:az Try.prog 55 [tB b a bW,.rf 2 0 0 0] (wO t root parts bg nb Bs b a (re.emit k [])) λv s=>v=i64 (re.emit k []).length/\s=wO t root parts bg nb Bs b a (re.emit k []++[bW]):=by have:=Bi (t:=t) (root:=root) (parts:=parts) (bg:=bg) (nb:=nb) (Bs:=Bs) (b:=b) (a:=a) (C:=re.emit k []) ae bW (tl:=[]) (K:=λv s=>v=i64 (re.emit k []).length/\s=wO t root parts bg nb Bs b a (re.emit k []++[bW])) ⟨rfl,aj⟩;simpa using this
 generalize re.emit k []++[bW]=C2 at *;generalize re.emit k []=C1 at *;unfold dJ at hw;generalize re.bq k=xd at *;refine qV Try.func28 rfl Try.ntmps28 Try.results28 rfl 2 131071 aj aj ?_;simp only[zQ,simprocAttr];refine Pk (o:=⟨0,true,1,[[.pp 0 0 0 0 b a]]⟩) (v:=.pp 0 0 0 0 b a) 2 rfl rfl rfl ?_;have h1:N4 2 0 (.pp 0 0 0 0 b a) [dK t root parts bg nb,fX bg Bs,(⟨0,true,1,[[.pp 0 0 0 0 b a]]⟩:VL.Obj),⟨0,true,1,[[.fu []]]⟩,⟨0,true,1,[[.cl (.func 55) [] [.rf 3 0 0 0]]]⟩,⟨0,true,1,[[.cl (.func 56) [] [.rf 4 0 0 0,.rf 2 0 0 0,.rf 5 0 0 0,.rf 3 0 0 0]]]⟩] =
   [dK t root parts bg nb,fX bg Bs,⟨0,false,1,[[.pp 0 0 0 0 b a]]⟩,⟨0,true,1,[[.fu []]]⟩,⟨0,true,1,[[.cl (.func 55) [] [.rf 3 0 0 0]]]⟩,⟨0,true,1,[[.cl (.func 56) [] [.rf 4 0 0 0,mB b a,.rf 5 0 0 0,.rf 3 0 0 0]]]⟩]:=by
  simp only[N4,bP,ajJ,ajv,ajw,aju,aiZ,ai2,PK];rfl
 have h2:List.map (pt 2 0 (.pp 0 0 0 0 b a)) [V.d xd,V.rf 4 0 0 0,V.rf 2 0 0 0,V.rf 5 0 0 0,V.rf 3 0 0 0]=[V.d xd,V.rf 4 0 0 0,mB b a,V.rf 5 0 0 0,V.rf 3 0 0 0]:=rfl;rw[show (⟨0,true,1,[[.pp 0 0 0 0 b a]]⟩:VL.Obj).g=0 from rfl,show [V.pp 0 0 0 0 b a].length=1 from rfl,h1,h2];refine jb (pre:=[]) (post:=[]) 3 5 rfl rfl rfl ?_;refine O4 (C:=[]) (C':=C1) hw aN aN rfl ?_;simp only[zQ,simprocAttr,cO];refine O4 (C:=C1) (C':=C2) hp aN aN rfl ?_;simp only[zQ,simprocAttr,cO,pN,tY,zG];refine⟨[0,1,6],rfl,?_⟩;simp only[mF,aiZ,ai2,aj2,ajW,ka,mC _ (rfl:List.idxOf? 0 [0,1,6]=some 0)];exact⟨rfl,rfl⟩
end
theorem vt (t:List Int) (Bs:List (List Bool)) (re:Re) (hs:re.every l5=true) (k:Nat) (hz:re.dc<=99999) (hB:∀j,k<=j->j<k+re.looks->∃l,Bs[j]?=some l/\l.length=t.length+1):fw t Bs (re.emit k []++[bW]):=by
 have hCP:=Pp (λj=>∃l,Bs[j]?=some l/\l.length=t.length+1) re hs k hB [] ⟨aj,aj⟩;have hl:=Re.eO re k [];rw[ai9,ai7]at hl;have hCL:(re.emit k []++[bW]).length=(re.emit k []).length+1:=aj;have get:∀n,n<(re.emit k []++[bW]).length->(n+1<(re.emit k []++[bW]).length/\bz (re.emit k []++[bW]) n∈re.emit k [])\/bz (re.emit k []++[bW]) n=bW:=by
  intro n hn;unfold bz;rw[aja];by_cases h:n<(re.emit k []).length
  ·refine .inl ⟨ae,?_⟩;rw[ajj h,ajg h];exact List.getElem_mem h
  ·refine .inr ?_;rw[ajh ae,show n-(re.emit k []).length=0 by omega];rfl
 generalize re.emit k []=C at *;refine⟨ae,λn hn=>?_,λn hn ho=>?_,λn hn ho=>?_,λn hn ho=>?_,λn hn ho=>?_,λn hn ho=>?_⟩
 ·rcases get n hn with ⟨_,h⟩|h
  ·exact(hCP.1 _ h).1
  ·rw[h];simp [bW]
 ·rcases get n hn with ⟨_,h⟩|h
  ·exact(hCP.1 _ h).2.1 ho
  ·rw[h]at ho;simp [bW]at ho
 ·rcases get n hn with ⟨_,h⟩|h
  ·exact(hCP.1 _ h).2.2 ho
  ·rw[h]at ho;simp [bW]at ho
 ·rcases get n hn with ⟨_,h⟩|h
  ·have:=hCP.2 _ h;unfold JA at this;omega
  ·rw[h]at ho;simp [bW]at ho
 ·rcases get n hn with ⟨_,h⟩|h
  ·have:=hCP.2 _ h;unfold JA at this;omega
  ·rw[h]at ho;simp [bW]at ho
 ·rcases get n hn with ⟨h,_⟩|h
  ·exact h
  ·rw[h]at ho;simp [bW]at ho
mutual
def Re.bH:Re->Nat->List (Re×Nat)
 |.mk op set kids mn mx mode n neg,k =>
  if op=7\/op=8 then (Re.mk op set kids mn mx mode n neg,k)::Re.kJ kids (k+1) else Re.kJ kids k
def Re.kJ:List Re->Nat->List (Re×Nat)
 |[],_=>[]
 |x::l,k=>x.bH k++Re.kJ l (k+x.looks)
end
mutual
theorem Re.H5:∀(re:Re) (k:Nat),re.mj k=(re.bH k).map λp=>p.1.bq p.2
 |.mk op set kids mn mx mode n neg,k=>by have h:=Re.yF kids;rw[Re.mj,Re.bH];split <;> simp [h]
theorem Re.yF:∀(l:List Re) (k:Nat),Re.fg l k=(Re.kJ l k).map λp=>p.1.bq p.2
 |[],_=>rfl
 |x::l,k=>by rw[Re.fg,Re.kJ,Re.H5 x,Re.yF l,akf]
end
theorem Re.vR (re:Re) (k:Nat):(re.bH k).length=re.looks:=by rw[<- Re.Br re k,Re.H5,aiW]
theorem Re.DH (re:Re) (k:Nat):re.bH k=if re.op=7\/re.op=8 then (re,k)::Re.kJ re.kids (k+1) else Re.kJ re.kids k:=by
 cases re;rw[Re.bH];rfl
structure HY (L:List (Re×Nat)) (k i:Nat) (r:Re):Prop where
 num:∃p,L[i]?=some (r,p)/\p=k+i
 op:r.op=7\/r.op=8
 osh:r.every l5=true
 short:∃x,r.kids=[x]/\1+dv x<=8192
 fit:i+r.looks<=L.length
theorem OJ (re:Re):re.every l5=true->re.every Fs=true->∀k i,i<re.looks->∃r,HY (re.bH k) k i r:=by
 refine Re.ind (Q:=λre=>re.every l5=true->re.every Fs=true->∀k i,i<re.looks->∃r,HY (re.bH k) k i r) (λre ih hs hh k i hi=>?_) re;obtain⟨ef,fU⟩:=(Re.av re).1 hs;obtain⟨UA,hh2⟩:=(Re.av re).1 hh;have hL:∀(l:List Re) (k i:Nat),(∀x∈l,x∈re.kids)->i<Re.aV l->∃r,HY (Re.kJ l k) k i r:=by
  intro l;induction l with
  |nil=>intro k i _ h;simp [Re.aV]at h
  |cons x l D0 =>
   intro k i hm h;rw[Re.aV]at h;have GO:=Re.vR x k;have Ip:∀k,(Re.kJ l k).length=Re.aV l:=λk=>by rw[<- Re.pg l k,Re.yF,aiW]
   rw[Re.kJ];by_cases Yl:i<x.looks
   ·obtain⟨r,⟨p,a1,a2⟩,a3,a4,a5,a6⟩:=ih x (hm x aj) (fU x (hm x aj)) (hh2 x (hm x aj)) k i Yl;refine⟨r,⟨p,?_,a2⟩,a3,a4,a5,?_⟩
    ·rw[ajj ae];exact a1
    ·rw[ai6];omega
   ·obtain⟨r,⟨p,a1,a2⟩,a3,a4,a5,a6⟩:=D0 (k+x.looks) (i-x.looks) (λy hy=>hm y (by simp [hy])) ae;refine⟨r,⟨p,?_,ae⟩,a3,a4,a5,?_⟩
    ·rw[ajh ae,GO];exact a1
    ·rw[ai6];omega
 rw[Re.DH];rw[Re.jg]at hi;by_cases ho:re.op=7\/re.op=8
 ·rw[be ho]at hi ⊢;have Ip:(Re.kJ re.kids (k+1)).length=Re.aV re.kids:=by rw[<- Re.pg re.kids (k+1),Re.yF,aiW]
  obtain⟨q1,_⟩:=iO.1 ef;obtain⟨x,hx⟩:∃x,re.kids=[x]:=List.length_eq_one_iff.1 (q1 ae);cases i with
  |zero =>
   refine⟨re,⟨k,rfl,rfl⟩,ho,hs,⟨x,hx,?_⟩,?_⟩
   ·unfold Fs at UA;have hl:re.iv=true:=bi ho;rw[hl,hx]at UA;simpa using UA
   ·rw[Re.jg,be ho,ai8,Ip];omega
  |succ i =>
   obtain⟨r,⟨p,a1,a2⟩,a3,a4,a5,a6⟩:=hL re.kids (k+1) i (λ_ h=>h) ae;exact⟨r,⟨p,by rw[ajJ];exact a1,ae⟩,a3,a4,a5,by rw[ai8];omega⟩
 ·rw[ap ho,ai7]at hi;rw[ap ho];exact hL re.kids k i (λ_ h=>h) hi
def eS (t:List Int) (Bs:List (List Bool)) (r:Re) (i:Nat):List Bool :=
 let C:=Re.db r.kids (i+1) []++[bW]
 (if r.op=7 then iF t Bs C else rz t Bs C).map λb=>b != r.neg
def aT (t:List Int) (L:List (Re×Nat)):Nat->List (List Bool)
 |0=>List.replicate L.length []
 |c+1=>match L[L.length-1-c]? with
  |some p=>(aT t L c).set (L.length-1-c) (eS t (aT t L c) p.1 (L.length-1-c))
  |none=>aT t L c
theorem fK (t:List Int) (L:List (Re×Nat)):∀c,(aT t L c).length=L.length
 |0=>by simp [aT]
 |c+1=>by
  rw[aT];split
  ·rw[ajp,fK t L c]
  ·exact fK t L c
theorem yv (t:List Int) (Bs:List (List Bool)) (C:List au):(iF t Bs C).length=t.length+1:=by simp [iF]
theorem EP (t:List Int) (Bs:List (List Bool)) (C:List au):(rz t Bs C).length=t.length+1:=(yi t Bs C (t.length+1)).2.1
theorem sI (t:List Int) (Bs:List (List Bool)) (r:Re) (i:Nat):(eS t Bs r i).length=t.length+1:=by
 unfold eS;simp only[aiW];split
 ·exact yv _ _ _
 ·exact EP _ _ _
theorem jR (t:List Int) (L:List (Re×Nat)):∀c j,j<L.length->L.length<=j+c->∃l,(aT t L c)[j]?=some l/\l.length=t.length+1
 |0,j,h1,h2=>ae
 |c+1,j,h1,h2=>by
  rw[aT];have hp:L.length-1-c<L.length:=ae;rw[ajg hp];simp only;by_cases hj:j=L.length-1-c
  ·subst hj;exact⟨_,ajm (by rw[fK];exact hp),sI _ _ _ _⟩
  ·obtain⟨l,h3,h4⟩:=jR t L c j h1 ae;exact⟨l,by rw[ajy (Ne.symm hj)];exact h3,h4⟩
end Go.Proofs.Ytfmdmlfhigocaaa
