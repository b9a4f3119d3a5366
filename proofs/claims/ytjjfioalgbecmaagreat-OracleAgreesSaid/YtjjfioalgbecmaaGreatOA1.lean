/- A part of the proof. -/
import Derived.WalkKit
import Derived.WalkSpells
import Derived.ChangeKeysEq
import Derived.Deep.AppendSrc
set_option linter.unusedSimpArgs false
set_option linter.unusedVariables false
set_option maxRecDepth 100000
set_option maxHeartbeats 80000000
namespace Go.VL
theorem Zaa{p:Prop}(h:p:=by
 refine pE Tryz.func29 rfl Tryz.ntmps29 Tryz.results29 rfl 0 62307562302417931542365956185554679 aq aq ?_;simp only[zI,simprocAttr,-FF,bk,Re.ah,bV,iD,bD,ar];refine dk h1 ?_;simp only[zI,simprocAttr,-FF,bk,Re.ah,bV,iD,bD,ne_eq,not_true_eq_false,ak4,En,gt_iff_lt,wK];refine ay (λn e s=>∃i:Nat,n=t.length-i/\i<=t.length/\e 1=.d (ar t)/\e 2=.rf 0 0 0 0/\e 7=i64 (e8 aM)/\e 25=.d (ar t)/\e 26=i64 t.length/\e 27=i64 i/\(t.take i).all (eM aM)=true/\s=[⟨0,true,10,[re.cells.map .d++[i64 aj,bV aM]]⟩])
  ⟨_,_,_,bO.refl,0,rfl,ae,rfl,rfl,by subst wK;rfl,rfl,by first|rfl|(rw[ak4];rfl),rfl,aq,by subst wK;simp [Re.ah re,iD,bD,bV,i64]⟩ ?_
 rintro n e s ⟨i,rfl,hi,q1,q2,q7,QV,CC,FZ,bR,rfl⟩;have qU:e 25=.d (.sl (t.map λx=>[iD x])):=QV;rcases alw i t.length with aE|gE
 ·obtain⟨x,hx⟩:∃x,t[i]?=some x:=cb aE;have aH:(i:Int)<(t.length:Int):=ae;have hi0:(0:Int)<=(i:Int):=ae;have hT:=bn hx;by_cases c1:x<0
  ·have oc:t.all (eM aM)=false:=all_false hx (by simp [eM];omega);simp only[zI,simprocAttr,-FF,iD,bD,bV,Re.ah re,ak8,ak9,q1,q2,q7,qU,CC,FZ,aH,hi0,aE,hx,ak4,List.getElem?_map,ala,ak7,c1];first|(rw[jw]at oc;cases oc;done)|(all_goals rfl)
  ·by_cases c2:e8 aM<x
   ·have oc:t.all (eM aM)=false:=all_false hx (by simp [eM];omega);simp only[zI,simprocAttr,-FF,iD,bD,bV,Re.ah re,ak8,ak9,q1,q2,q7,qU,CC,FZ,aH,hi0,aE,hx,ak4,List.getElem?_map,ala,ak7,c1,c2,gt_iff_lt];first|(rw[jw]at oc;cases oc;done)|(all_goals rfl)
   ·simp only[zI,simprocAttr,-FF,iD,bD,bV,Re.ah re,ak8,ak9,q1,q2,q7,qU,CC,FZ,aH,hi0,aE,hx,ak4,List.getElem?_map,ala,ak7,c1,c2,gt_iff_lt];refine⟨t.length-(i+1),_,_,ae,bO.refl,i+1,rfl,aE,?_,?_,?_,?_,?_,?_,?_,by simp [Re.ah re,iD,bD,bV,i64]⟩ <;> (try simp only[zU,Ft,qa,qe,Fp,reduceIte])
    ·exact q1
    ·exact q2
    ·exact q7
    ·exact QV
    ·exact CC
    ·rw[bK _ ae];rfl
    ·rw[hT,amm,bR];simp [eM];omega
 ·have eg:i=t.length:=by omega
  subst eg;simp only[zI,simprocAttr,-FF,iD,bD,bV,Re.ah re,ak8,ak9,q1,q2,q7,qU,CC,FZ,alZ,ar];refine iX (pre:=[.d (.sl (t.map λx=>[D.sc (Value.int IntKind.i64 x)])),.d (.sc (.pointer none))]) (post:=[.fu []]) 1 1 rfl rfl rfl ?_;refine Mn (pre:=[.d (.sl (t.map λx=>[D.sc (Value.int IntKind.i64 x)])),.d (.sc (.pointer none)),.so 2 0 0 0]) (post:=[]) 1 rfl rfl rfl ?_;rw[au]at xh;simp only[iD,bD]at xh;refine dD [1,2] xh aF rfl ?_ ?_ ?_ ?_ (r':=.d fK) rfl ?_
  ·have e0:ba [1,2] (gM t (.sc (.pointer none)) 0 0)=⟨0,true,4,[[.d (ar t),.d (.sc (.pointer none)),.so 2 0 0 0,.d (.sl [])]]⟩:=by simp [ba,gM,aI,aI.go]
   simp only[ak8,ak9,alf,e0,kH];rfl
  ·simp [aI,aI.go]
  ·simp [ak,ak.go]
  ·have e3:aY 2 (gM t (.sc (.pointer none)) 0 0)=true:=by simp [gM,aY,ak]
   simp only[alR,alW,alg,alf,alc,Fq,e3,nG,amh]
  have e0:∀G n,ba [1,2] (gM t (.sc (.pointer none)) G n)=⟨0,true,4,[[.d (ar t),.d (.sc (.pointer none)),.so 2 G 0 n,.d (.sl [])]]⟩:=λG n=>by simp [ba,gM,aI,aI.go]
  simp only[ak8,ak9,e0,kH,aT,alD,alA,ak5,ak6];have hLb:L.length<=256:=ae;have wn1:IntKind.i64.wrap ((L.length:Int)-1)=(L.length:Int)-1:=bK _ ae;simp only[zI,simprocAttr,-FF,iD,bD,bV,q1,q2,q7,qU,CC,FZ,wn1];refine⟨⟨ae,ae,ae⟩,?_⟩;refine ay (λn e s=>∃c:Nat,n=L.length-c/\c<=L.length/\e 10=.rf 0 0 0 0/\e 11=i64 ((L.length:Int)-1-c)/\s=[dV t fK (eG L) 0 L.length,fW 0 (bh t L c)])
   ⟨_,_,_,(bO.Ls [2] 4 ae [10,11]).trans (bO.FL [1,3] [10,11] eh),0,rfl,ae,eh,by simp only[alv,Int.sub_zero];rfl,?_⟩ ?_
  ·exact Lc t fK L _
  clear q1 q2 q7 qU QV CC FZ xh e0;rintro n e s ⟨c,rfl,hc,jd,nN,rfl⟩;by_cases aE:c<L.length
  ·obtain⟨ix,Z7⟩:∃ix:Nat,ix=L.length-1-c:=⟨_,rfl⟩
   have hii:(L.length:Int)-1-c=(ix:Int):=ae;obtain⟨r,⟨p,r1,r2⟩,r3,r4,⟨x,r5,r6⟩,r7⟩:=J7 ix ae;obtain rfl:p=ix:=ae;rw[hii]at nN;have i0:(0:Int)<=(p:Int):=ae;have i1:(p:Int)<(L.length:Int):=ae;have i2:p<L.length:=ae;have hpd:(L.map λp=>[p.1.bA p.2])[p]?=some [r.bA p]:=by rw[List.getElem?_map,r1];rfl
   have RO:r.bA p=.el [iD r.op,.sl (r.set.map aU),.sl (r.kids.map Re.cells),iD r.mn,iD r.mx,iD r.mode,iD r.n,bD r.neg,.sl [[x.bA (p+1)]],iD p]:=by rw[Re.eL,be r3,r5];rfl
   have hq0:([[x.bA (p+1)]]:List (List D))[0]?=some [x.bA (p+1)]:=rfl;have UR:=((Re.az r).1 r4).2 x (by rw[r5];simp);have hoc:x.dp<=8191:=by unfold ed at r6;omega
   have Ml:=fM t L c;have ej:=jL t L c;have Hh:r.looks=1+x.looks:=by rw[Re.jc,be r3,r5];simp [Re.bd]
   have jy:=vx t (bh t L c) x UR (p+1) ae (λj h1 h2=>ej j ae ae);have Wv:bh t L (c+1)=(bh t L c).set p (eV t (bh t L c) r p):=by rw[bh,<- Z7,r1]
   have Ps:eV t (bh t L c) r p=(if r.op=7 then iv t (bh t L c) (x.emit (p+1) []++[cq]) else rC t (bh t L c) (x.emit (p+1) []++[cq])).map λb=>b != r.neg:=by unfold eV;rw[r5];rfl
   have eF:=λK hk=>AT (t:=t) (root:=fK) (parts:=eG L) (bg:=0) (nb:=L.length) (Bs:=bh t L c) (EW UR) ae (p+1) (K:=K) hk;have XK:0<(x.emit (p+1) []++[cq]).length:=aq;generalize Zp:bh t L (c+1)=Bs2 at *;generalize bh t L c=Bs at *;generalize x.emit (p+1) []++[cq]=C at *;have r9:p<Bs.length:=ae;obtain⟨lo,hlo⟩:∃lo,Bs[p]?=some lo:=cb r9;simp only[iD,bD]at RO;generalize x.bA (p+1)=xd at *;simp only[zI,simprocAttr,-FF,iD,bD,bV,dV,eG,jd,nN,i0,i1,i2,hpd,RO,hq0,ak4,ak7,alg,alf,alc,ge_iff_le];refine⟨aF,?_⟩;refine eF _ (λb a=>?_);have hah:=LJ t fK (eG L) 0 L.length Bs C.length b a C jy Ml.symm ae XK;have hbe:=Il t fK (eG L) 0 L.length Bs C.length b a C jy Ml.symm ae XK;simp only[zI,simprocAttr,-FF,iD,bD,bV,dV,eG,jd,nN,RO];have acn:∀v:V,[V.d (.sl (lo.map λb=>[bD b]))].length=1:=λ_=>rfl;have ZV:(fW 0 Bs).g=0:=rfl;have WI:(fW 0 Bs).sz=1:=rfl;have No:(fW 0 Bs).aA=Bs.map λl=>[V.d (.sl (l.map λb=>[bD b]))]:=rfl;have ZN:(fW 0 Bs).live=true:=rfl;have hi3:(p:Int)<(L.length:Int):=i1;refine DI (λe s=>e 10=.rf 0 0 0 0/\e 11=i64 p/\e 12=.d (r.bA p)/\s=[dV t fK (eG L) 0 L.length,⟨0,true,1,(Bs.map λl=>[V.d (.sl (l.map λb=>[bD b]))]).set p [.so 3 1 0 (t.length+1)]⟩,db C.length b a C,cF 1 (if r.op=7 then iv t Bs C else rC t Bs C)]) ?_ ?_ ?_
   ·intro ho B Q hB;simp only[zI,simprocAttr,-FF,iD,bD,bV,jd,nN];refine aW cr.bu ?_;refine cP mix [] [(7,[0,1,2,3],[3]),(8,[1],[]),(9,[1],[1])] ?_;simp only[zI,simprocAttr,-FF,iD,bD,bV,jd,nN,dV,ak5,ak6];refine tO hah ?_;simp only[zI,simprocAttr,-FF,iD,bD,bV,jd,nN,i0,i1,r9,ZV,WI,No,ZN,ak7,alc,List.getElem?_map,hlo,ala,ak4];refine hB _ _ ⟨?_,?_,?_,?_⟩ <;> (try simp only[zU,Ft,qa,qe,Fp,reduceIte])
    ·exact jd
    ·rw[nN]
    ·rw[RO]
    ·rw[be ho];rfl
   ·intro ho B Q hB;simp only[zI,simprocAttr,-FF,iD,bD,bV,jd,nN];refine aW cr.bu ?_;refine cP mix [] [(7,[0,1,2,3],[3]),(8,[1],[]),(9,[1],[1])] ?_;simp only[zI,simprocAttr,-FF,iD,bD,bV,jd,nN,dV,ak5,ak6];refine tO hbe ?_;simp only[zI,simprocAttr,-FF,iD,bD,bV,jd,nN,i0,i1,r9,ZV,WI,No,ZN,ak7,alc,List.getElem?_map,hlo,ala,ak4];refine hB _ _ ⟨?_,?_,?_,?_⟩ <;> (try simp only[zU,Ft,qa,qe,Fp,reduceIte])
    ·exact jd
    ·rw[nN]
    ·rw[RO]
    ·rw[ap ho];rfl
   clear jd nN hah hbe eF ZV WI No ZN;rintro e s ⟨jd,nN,Cp,rfl⟩;have JN:(if r.op=7 then iv t Bs C else rC t Bs C).length=t.length+1:=by
    split
    ·exact yD _ _ _
    ·exact EI _ _ _
   generalize (if r.op=7 then iv t Bs C else rC t Bs C)=lb at *;have Oo:∀v,((Bs.map λl=>[V.d (.sl (l.map λb=>[D.sc (Value.bool b)]))]).set p v)[p]?=some v:=λv=>List.getElem?_set_self (by simpa using r9);rw[RO]at Cp;simp only[zI,simprocAttr,-FF,iD,bD,bV,dV,jd,nN,Cp,i0,i1,ak7,alc,Oo];refine ay (λn e s=>∃m:Nat,n=t.length+1-m/\m<=t.length+1/\e 10=.rf 0 0 0 0/\e 11=i64 p/\e 12=.d (.el [D.sc (Value.int IntKind.i64 r.op),D.sl (List.map aU r.set),D.sl (List.map Re.cells r.kids),D.sc (Value.int IntKind.i64 r.mn),D.sc (Value.int IntKind.i64 r.mx),D.sc (Value.int IntKind.i64 r.mode),D.sc (Value.int IntKind.i64 r.n),D.sc (Value.bool r.neg),D.sl [[xd]],D.sc (Value.int IntKind.i64 p)])/\e 114=i64 ((t.length+1:Nat):Int)/\e 115=i64 m/\s=[dV t fK (eG L) 0 L.length,⟨0,true,1,(Bs.map λl=>[V.d (.sl (l.map λb=>[bD b]))]).set p [.so 3 1 0 (t.length+1)]⟩,db C.length b a C,cF 1 (iY r.neg m lb)])
    ⟨_,_,_,bO.refl,0,rfl,ae,by (try simp only[zU,Ft,qa,qe,Fp,reduceIte]);exact jd,by (try simp only[zU,Ft,qa,qe,Fp,reduceIte]);exact nN,by (try simp only[zU,Ft,qa,qe,Fp,reduceIte]);exact Cp,rfl,rfl,by rw[HQ];rfl⟩ ?_
   clear jd nN Cp;rintro n e s ⟨m,rfl,hm,jd,nN,Cp,Ja,I0,rfl⟩;rcases alw m (t.length+1) with Sv|gE
   ·obtain⟨y,hy⟩:∃y,lb[m]?=some y:=cb;have hfg:=Kz (neg:=r.neg) hy;have hfs:=HG (neg:=r.neg) hy;have hfl:=KL r.neg m lb;have m0:(0:Int)<=(m:Int):=ae;have m1:(m:Int)<((t.length+1:Nat):Int):=ae;have m2:m<(iY r.neg m lb).length:=ae;generalize Wq:iY r.neg (m+1) lb=F2 at *;generalize iY r.neg m lb=F1 at *;simp only[zI,simprocAttr,-FF,iD,bD,bV,dV,cF,jd,nN,Cp,Ja,I0,m1,Oo,ak7];refine cP mix [25] [] ?_;simp only[zI,simprocAttr,-FF,iD,bD,bV,cF,jd,nN,Cp,Ja,I0,i0,i1,m0,m1,m2,Oo,hfg,ak7,alc,List.getElem?_map,ala,ak4];refine⟨t.length+1-(m+1),_,_,ae,bO.refl,m+1,rfl,Sv,?_,?_,?_,?_,?_,by rw[Wq,<- hfs,ams];rfl⟩ <;> (try simp only[zU,Ft,qa,qe,Fp,reduceIte])
    ·exact jd
    ·exact nN
    ·exact Cp
    ·exact Ja
    ·rw[bK _ ae];rfl
   ·have UX:m=lb.length:=by omega
    subst UX;rw[L6,<- Ps,JN];have QC:=sW t Bs r p;rw[Ps]at QC;have wi:IntKind.i64.wrap ((p:Int)-1)=(L.length:Int)-1-((c+1:Nat):Int):=by rw[bK _ ae];omega
    rw[Ps];rw[Ps]at Wv;generalize (lb.map λb=>b != r.neg)=lf at *;rw[JN]at I0;have Zr:¬((t.length+1:Nat):Int)<((t.length+1:Nat):Int):=ae;simp only[zI,simprocAttr,-FF,iD,bD,bV,jd,nN,Cp,Ja,I0,Zr,wi];refine⟨L.length-(c+1),_,_,ae,bO.drop 2 ae [10,11],c+1,rfl,ae,?_,?_,?_⟩
    ·rw[tI eh]
     (try simp only[zU,Ft,qa,qe,Fp,reduceIte])
     rw[jd];rfl
    ·rw[tI eh]
     (try simp only[zU,Ft,qa,qe,Fp,reduceIte])
     rfl
    ·have:=Pm t fK (eG L) L.length p (t.length+1) Bs lf QC (db C.length b a C);rw[Zp,Wv];exact this
  ·have WO:c=L.length:=by omega
   subst WO;have IB:¬(0:Int)<=(L.length:Int)-1-(L.length:Int):=ae;simp only[zI,simprocAttr,-FF,iD,bD,bV,jd,nN,IB,ge_iff_le,tV,xF];refine⟨[0,1],rfl,?_⟩;simp only[mH,ak8,ak9,ama,alY,jQ];exact⟨rfl,rfl⟩):p:=h
theorem Zab{p:Prop}(h:p:=by
 refine ay (λn e s=>∃i:Nat,n=re.kids.length-i/\i<=re.kids.length/\e 2=bV Bx/\e 3=.rf 0 0 0 0/\e 4=.rf 1 0 0 0/\e 43=.d (.sl (re.kids.map Re.cells))/\e 44=i64 re.kids.length/\e 45=i64 i/\(∀x∈re.kids.take i,x.eC A2 Bx=true)/\s=[aL re,eO A2])
  ⟨_,_,_,bO.refl,0,rfl,ae,by first|rfl|(subst yc;rfl),rfl,rfl,rfl,rfl,rfl,aq,by first|(simp [aL,eO,iD,bD,Re.ah re,o,pI];done)|(subst xl;simp [aL,eO,bV,bD,iD,Re.ah re,o];done)|(rw[<- xl];simp [aL,eO,bV,bD,iD,Re.ah re,o];done)|(simp [aL,eO,bV,bD,iD,Re.ah re,o,xl];done)|(simp [aL,eO,bV,bD,iD,Re.ah re,xl];done)⟩ ?_
 rintro n e s ⟨i,rfl,hi,h2,h3,h4,uf,Bc,DB,bR,rfl⟩;rcases alw i re.kids.length with aE|gE
 ·obtain⟨k,hk⟩:∃k,re.kids[i]?=some k:=cb aE;have hm:=List.mem_of_getElem? hk;have aH:(i:Int)<(re.kids.length:Int):=ae;have hi0:(0:Int)<=(i:Int):=ae;have dw:=ih k hm (jG k hm) A2 Bx pI;have OC:List.take 10 (A2.map bV)=A2.map bV:=aln (by rw[ak4];omega);unfold kV at dw;simp only[bV,bD]at dw;simp only[zX,simprocAttr,aL,eO,Re.ah re,ak8,ak9,iD,bD,bV,h2,h3,h4,uf,Bc,DB,i64,aH,hi0,aE,hk,pI,OC,ak4,List.getElem?_map,ala,ak7];refine bB dw (by rw[au];simp [ak,ak.go,i64,zy]) rfl ?_;cases ej:k.eC A2 Bx with
  |false =>
   rw[x7 k hm ej];simp only[zX,simprocAttr,aL,eO,Re.ah re,ak8,ak9,iD,bD,bV,h2,h3,h4,uf,Bc,DB,i64,ali];all_goals rfl
  |true =>
   simp only[zX,simprocAttr,aL,eO,Re.ah re,ak8,ak9,iD,bD,bV,h2,h3,h4,uf,Bc,DB,i64,alh];refine⟨re.kids.length-(i+1),_,_,ae,bO.cut (s':=[aL re,eO A2]) 2 ae (by simp [aL,eO,pI,Re.ah re,iD,bD]) (by simp [aL,eO,bV,aY,Re.ah re,ak]) [2,3,4,43,44,45] (by simp [ca,aZ,ak,h2,h3,h4,uf,Bc,DB,i64,bV]),i+1,rfl,aE,?_,?_,?_,?_,?_,?_,?_,by simp [aL,eO,pI,Re.ah re,iD,bD]⟩ <;> (try simp only[zU,Ft,qa,qe,Fp,reduceIte])
   ·exact h2
   ·exact h3
   ·exact h4
   ·exact uf
   ·exact Bc
   ·rw[bK _ ae];rfl
   ·intro x hx;rcases cK hk hx with h|rfl
    ·exact bR x h
    ·exact ej
 ·have eg:i=re.kids.length:=by omega
  subst eg;rw[alr]at bR;rw[D8 bR];simp only[zX,simprocAttr,aL,eO,Re.ah re,ak8,ak9,iD,bD,bV,h2,h3,h4,uf,Bc,DB,i64,alZ];all_goals rfl):p:=h
theorem Zac{p:Prop}(h:p:=by
 refine DN Tryz.func60 rfl Tryz.ntmps60 Tryz.results60 rfl 2 240518168763 aq aq ?_;simp only[zQ,simprocAttr,au re,gM];refine cP mix [7] [] ?_;simp only[zQ,simprocAttr,Re.ah re,o,gM,fN,ak4,hT,Option.bind_none,alc];refine⟨λe he=>by rw[List.mem_singleton.1 he];rfl,⟨ae,ae⟩,?_⟩;refine ay (λn e s=>∃i:Nat,n=1-i/\i<=1/\e 0=.rf 0 0 0 0/\e 5=.rf 3 0 0 0/\e 35=.d (.sl (re.kids.map Re.cells))/\e 36=i64 1/\e 37=i64 i/\s=if i=0 then lS t root re (g+1) Pr.length Pr [] [] else lS t root re (g+1+lx) Pr.length Pr Q [[xd]])
  ⟨_,_,_,(bO.cut (s':=[gM t root (g+1) (Pr.length+1),mG (g+1) Pr [],aL re,⟨0,true,10,[re.cells.map .d++[.fu [],i64 Pr.length]]⟩]) 4 ae (by simp [gM,mG,aL,Re.ah re,iD,bD,i64,o,ar]) (by have h1:=nG 4 0 Pr;unfold aY fN at h1;simp only[alR,alW,aY,mG,amm,h1];simp [gM,aL,Re.ah re,ak,i64]) [0,5,35,36,37] (by simp [ca,aZ,ak,i64];rfl)).trans (.On (nY (pre:=re.cells.map .d) (post:=[i64 Pr.length]) 3 1 rfl rfl (by simp [Re.ah re]))),0,rfl,ae,by (try simp only[zU,Ft,qa,qe,Fp,reduceIte]);(try rfl),by (try simp only[zU,Ft,qa,qe,Fp,reduceIte]);(try rfl),by (try simp only[zU,Ft,qa,qe,Fp,reduceIte]);(try rfl),by (try simp only[zU,Ft,qa,qe,Fp,reduceIte]);(try rw[wY]);(try rfl),by (try simp only[zU,Ft,qa,qe,Fp,reduceIte]);(try rfl),by simp [lS,fw]⟩ ?_
 rintro n e s ⟨i,rfl,hi,h0,h5,Bh,H5,KQ,rfl⟩;rcases alw i 1 with aE|gE
 ·obtain rfl:i=0:=by omega
  rw[be rfl];have aH:((0:Nat):Int)<1:=aF;simp only[zQ,simprocAttr,lS,aL,Re.ah re,ak8,ak9,h0,h5,Bh,H5,KQ,aH,wY,abX,ak4,List.getElem?_map,ala,ak7,alv];have fB:∀ptr:D,({ mG (g+1) Pr []with aA:=(mG (g+1) Pr []).aA.set Pr.length [.d ptr] }:VL.Obj)=fN (g+1) (Pr++[ptr]):=λptr=>by simp [mG,fN,al0]
  refine Pz (ok:=fw re 0 Pr.length 0) (oa:=mG (g+1) Pr []) (g:=0) 5 3 1 Pr.length (by (try simp only[zU,Ft,qa,qe,Fp,reduceIte]);exact h5) rfl rfl rfl (by simp [mG]) rfl (λb a=>?_);rw[I4,fB];have xh:=xh (.sc (.pointer (some ⟨b,a,none⟩)));have TI:({ fN (g+1+lx) (Pr++[.sc (.pointer (some ⟨b,a,none⟩))]++Q) with aA:=(fN (g+1+lx) (Pr++[.sc (.pointer (some ⟨b,a,none⟩))]++Q)).aA.set Pr.length [.rf 3 0 0 0] }:VL.Obj)=mG (g+1+lx) Pr Q:=by simp [mG,fN,al0]
  have LI:(fN (g+1+lx) (Pr++[.sc (.pointer (some ⟨b,a,none⟩))]++Q)).aA[Pr.length]?=some [I4 b a]:=by simp [fN,I4]
  have e0:∀n G,ba [0,1] (gM t root G n)=gM t root G n:=λn G=>by simp [ba,gM,aI,aI.go]
  have e3:aY 2 (gM t root (g+1) (Pr.length+1))=true:=by simp [gM,aY,ak]
  simp only[alD,alA,al8];generalize Pr++[.sc (.pointer (some ⟨b,a,none⟩))]++Q=P2 at *;generalize Pr++[.sc (.pointer (some ⟨b,a,none⟩))]=P1 at *;refine cP mix [] [(2,[3],[]),(3,[3],[]),(4,[3],[]),(7,[0,1],[0,1]),(9,[4],[4]),(10,[3],[]),(11,[3],[]),(12,[3],[3])] ?_;simp only[zQ,simprocAttr,Re.ah re,ak8,ak9,h0,h5,Bh,H5,KQ,fw,ak5,ak6];refine Be [0,1] xh aF rfl ?_ ?_ ?_ ?_ (r':=.d xd) rfl ?_
  ·simp only[ak8,ak9,e0,kH];rfl
  ·rw[au];simp [aI,aI.go,i64,bV]
  ·rw[au];simp [ak,ak.go,i64,bV]
  ·simp only[alR,alW,alg,alf,alc,Fq,e3,nG,amh]
  simp only[ak8,ak9,e0,kH,aT,alA,alD];simp only[zQ,simprocAttr,h0,h5,Bh,H5,KQ,ak4,ak5,ak6];refine⟨rfl,λe he=>by rw[List.mem_singleton.1 he];rfl,?_⟩;refine⟨0,_,_,ae,(bO.On (cr.aci (ok:=fw re 1 Pr.length 1) (oa:=fN (g+1+lx) P2) (g:=0) (b:=b) (a0:=a) 5 3 1 Pr.length (by (try simp only[zU,Ft,qa,qe,Fp,reduceIte])) ?_ rfl rfl LI rfl)).trans (bO.cut (s':=lS t root re (g+1+lx) Pr.length Pr Q [[xd]]) 5 ae ?_ (Yg t root re (g+1+lx) Pr.length Pr Q [[xd]]) [0,5,35,36,37] (by simp [ca,aZ,ak,h0,h5,Bh,H5,KQ,i64])),1,rfl,ae,?_,?_,?_,?_,?_,by rw[bm];simp [lS,fw,aL,Re.ah re,iD,bD,i64]⟩ <;> (try simp only[zU,Ft,qa,qe,Fp,reduceIte])
  ·simp [fw,Re.ah re,iD,bD,i64]
  ·simp only[alD,alA,TI,al9,amj];simp [lS,fw,aL,Re.ah re,iD,bD,i64]
  ·exact h0
  ·exact Bh
  ·exact H5
  ·rfl
 ·obtain rfl:i=1:=by omega
  rw[bm];simp only[zQ,simprocAttr,h0,h5,Bh,H5,KQ,alZ,Int.natCast_one,HF];refine HO _ ?_;exact⟨by simp [Re.ah re,iD,bD,o],by simp [Re.ah re,iD,bD,o,gM,fN]⟩):p:=h
theorem Zad{p:Prop}(h:p:=by
 rintro n e s ⟨i,rfl,hi,h1,h2,h7,bR,rfl⟩;simp only[ar]at h1;rcases alw i re.kids.length with aE|gE
 ·obtain⟨k,hk⟩:∃k,re.kids[i]?=some k:=cb aE;have hm:=List.mem_of_getElem? hk;have M5:=hL k hm;simp only[ar]at M5;have aH:(i:Int)<re.kids.length:=ae;simp only[zI,simprocAttr,aL,Re.ah re,ak8,ak9,iD,bD,h1,h2,h7,aH,hk];refine bB M5 (by simp [ak,ak.go,au]) tY ?_;cases ej:k.comp aa with
  |true =>
   simp only[zI,simprocAttr,iD,bD,bV,h1,h2,h7,ej,alh];refine⟨re.kids.length-(i+1),_,_,ae,bO.refl,i+1,rfl,aE,?_,?_,?_,?_,rfl⟩ <;> (try simp only[zU,Ft,qa,qe,Fp,reduceIte])
   ·exact h1
   ·exact h2
   ·rw[bK _ ae];rfl
   ·intro x hx;rcases cK hk hx with h|rfl
    ·exact bR x h
    ·exact ej
  |false =>
   simp only[zI,simprocAttr,iD,bD,bV,h1,h2,h7,ej,ali];have:(re.kids.all λk=>k.comp aa)=false:=by rw[amz];exact⟨k,hm,by simp [ej]⟩
   rw[this]
 ·have eg:i=re.kids.length:=by omega
  subst eg;have aH:¬(re.kids.length:Int)<re.kids.length:=ae;rw[alr]at bR;have:(re.kids.all λk=>k.comp aa)=true:=by rw[als];exact bR
  rw[this];simp only[zI,simprocAttr,aL,Re.ah re,ak8,ak9,iD,bD,bV,h1,h2,h7,aH]):p:=h
theorem Zae{p:Prop}(h:p:=by
 clear TW hpn;rintro n e s ⟨i,g,rfl,hi,h1,h3,h4,rfl⟩;rcases alw i re.kids.length with aE|gE
 ·obtain⟨k,hk⟩:∃k,re.kids[i]?=some k:=cb aE;have hm:=List.mem_of_getElem? hk;have IF:=Re.bZ hm;have aH:(i:Int)<(re.kids.length:Int):=ae;have dw:=ih k hm ae;have Eb:pre++Re.cR (re.kids.take (i+1))=(pre++Re.cR (re.kids.take i))++k.kj:=by rw[bn hk,qC,alx]
  have Ni:(pre++Re.cR (re.kids.take i)).length+k.kj.length<=1000000:=by have h1:=uw re.kids (i+1);have h2:=congrArg List.length Eb;simp only[ald,x8]at h1 h2 ⊢;omega
  generalize hO:pre++Re.cR (re.kids.take i)=O at *;generalize k.kj=kl at *;simp only[zI,simprocAttr,aL,F9,Re.ah re,ak8,ak9,iD,bD,h1,h3,h4,aH,hk];refine bB dw (by simp [ak,ak.go,au]) tY ?_;simp only[zI,simprocAttr,aL,F9,Re.ah re,ak8,ak9,iD,bD,h1,h3,h4,ak4];refine⟨Od _,⟨aq,ae⟩,re.kids.length-(i+1),_,_,ae,bO.refl,i+1,g+1,rfl,ae,?_,?_,?_,?_⟩ <;> (try simp only[zU,Ft,qa,qe,Fp,reduceIte])
  ·exact h1
  ·rw[Eb];simp
  ·rw[bK _ ae];rfl
  ·rw[Eb,aln aq];simp [aL,F9,Re.ah re,iD,bD]
 ·have eg:i=re.kids.length:=by omega
  subst eg;have aH:¬(re.kids.length:Int)<re.kids.length:=ae;rw[alr]at h3 ⊢;simp only[zI,simprocAttr,aL,Re.ah re,ak8,ak9,iD,bD,h1,h3,h4,aH];rw[be ⟨rfl,by simp [F9]⟩,show (F9 g (pre++Re.cR re.kids)).aA=((pre++Re.cR re.kids).map Re.cells).map (λc=>c.map V.d) from rfl,fI 7 0 _ _ _ aq];rfl):p:=h
theorem Zaf{p:Prop}(h:p:=by
 refine⟨rfl,cV,λt=>?_⟩;rw[oV];by_cases ht:t<args.length
 ·have h1:=hv t args[t] (by simp [ht]);have:(vals++Array.replicate (fn.ntmps-vals.size) undef).getD t undef=vals.getD t undef:=by rw[Array.getD_eq_getD_getElem?,Array.getElem?_append_left ae,Array.getD_eq_getD_getElem?]
  rw[this];simpa [ht]using h1
 ·have:(vals++Array.replicate (fn.ntmps-vals.size) undef).getD t undef=undef:=by rw[Array.getD_eq_getD_getElem?,Array.getElem?_append_right ae,Array.getElem?_replicate];split <;> rfl
  rw[this];simp [ht];exact .un):p:=h
theorem Zag{p:Prop}(h:p:=by
 refine br Tryz.func29 Tryz.ntmps29 Tryz.results29 0 62307562302417931542365956185554679 ?_;simp only[zI,simprocAttr,bk,Re.ah,bV,iD,bD,ar];refine dk h1 ?_;simp only[zI,simprocAttr,bk,Re.ah,bV,iD,bD,ne_eq,not_true_eq_false,ak4,En,gt_iff_lt,wK];refine ay (λn e s=>∃i:Nat,n=t.length-i/\i<=t.length/\e 1=.d (ar t)/\e 2=.rf 0 0 0 0/\e 7=i64 (e8 aM)/\e 25=.d (ar t)/\e 26=i64 t.length/\e 27=i64 i/\(t.take i).all (eM aM)=true/\s=[⟨0,true,10,[re.cells.map .d++[i64 aj,bV aM]]⟩])
  ⟨_,_,_,bO.refl,0,rfl,ae,rfl,rfl,by subst wK;rfl,rfl,by first|rfl|(rw[ak4];rfl),rfl,aq,by subst wK;simp [Re.ah re,iD,bD,bV,i64]⟩ ?_
 rintro n e s ⟨i,rfl,hi,q1,q2,q7,QV,CC,FZ,bR,rfl⟩;have qU:e 25=.d (.sl (t.map λx=>[iD x])):=QV;rcases alw i t.length with aE|gE
 ·obtain⟨x,hx⟩:∃x,t[i]?=some x:=cb aE;have aH:(i:Int)<(t.length:Int):=ae;have hi0:(0:Int)<=(i:Int):=ae;have hT:=bn hx;by_cases c1:x<0
  ·have oc:t.all (eM aM)=false:=all_false hx (by simp [eM];omega);simp only[zI,simprocAttr,iD,bD,bV,Re.ah re,ak8,ak9,q1,q2,q7,qU,CC,FZ,aH,hi0,aE,hx,ak4,List.getElem?_map,ala,ak7,c1];first|(rw[jw]at oc;cases oc;done)|(all_goals rfl)
  ·by_cases c2:e8 aM<x
   ·have oc:t.all (eM aM)=false:=all_false hx (by simp [eM];omega);simp only[zI,simprocAttr,iD,bD,bV,Re.ah re,ak8,ak9,q1,q2,q7,qU,CC,FZ,aH,hi0,aE,hx,ak4,List.getElem?_map,ala,ak7,c1,c2,gt_iff_lt];first|(rw[jw]at oc;cases oc;done)|(all_goals rfl)
   ·simp only[zI,simprocAttr,iD,bD,bV,Re.ah re,ak8,ak9,q1,q2,q7,qU,CC,FZ,aH,hi0,aE,hx,ak4,List.getElem?_map,ala,ak7,c1,c2,gt_iff_lt];refine⟨t.length-(i+1),_,_,ae,bO.refl,i+1,rfl,aE,?_,?_,?_,?_,?_,?_,?_,by simp [Re.ah re,iD,bD,bV,i64]⟩ <;> (try simp only[zU,Ft,qa,qe,Fp,reduceIte])
    ·exact q1
    ·exact q2
    ·exact q7
    ·exact QV
    ·exact CC
    ·rw[bK _ ae];rfl
    ·rw[hT,amm,bR];simp [eM];omega
 ·have eg:i=t.length:=by omega
  subst eg;rw[alr,Pb]at bR;cases bR):p:=h
theorem Zah{p:Prop}(h:p:=by
 clear uj;rintro n e s ⟨i,rfl,hi,h2,h5,h6,bR,rfl⟩;simp only[ar]at h5;rcases alw i re.kids.length with aE|gE
 ·obtain⟨k,hk⟩:∃k,re.kids[i]?=some k:=cb aE;have hm:=List.mem_of_getElem? hk;have M5:=hL k hm;simp only[ar]at M5;have aH:(i:Int)<re.kids.length:=ae;simp only[zI,simprocAttr,aL,Re.ah re,ak8,ak9,iD,bD,h2,h5,h6,aH,hk];refine bB M5 (by simp [ak,ak.go,au]) tY ?_;cases ej:k.nest aa with
  |false =>
   simp only[zI,simprocAttr,iD,bD,bV,h2,h5,h6,ej,ali];refine⟨re.kids.length-(i+1),_,_,ae,bO.refl,i+1,rfl,aE,?_,?_,?_,?_,rfl⟩ <;> (try simp only[zU,Ft,qa,qe,Fp,reduceIte])
   ·exact h2
   ·exact h5
   ·rw[bK _ ae];rfl
   ·intro x hx;rcases cK hk hx with h|rfl
    ·exact bR x h
    ·exact ej
  |true =>
   simp only[zI,simprocAttr,iD,bD,bV,h2,h5,h6,ej,alh];have:(re.kids.any λk=>k.nest aa)=true:=by rw[List.any_eq_true];exact⟨k,hm,ej⟩
   rw[this];all_goals rfl
 ·have eg:i=re.kids.length:=by omega
  subst eg;have aH:¬(re.kids.length:Int)<re.kids.length:=ae;rw[alr]at bR;have:(re.kids.any λk=>k.nest aa)=false:=by rw[List.any_eq_false];intro x hx;rw[bR x hx];simp
  rw[this];simp only[zI,simprocAttr,aL,Re.ah re,ak8,ak9,iD,bD,bV,h2,h5,h6,aH];all_goals rfl):p:=h
theorem Zai{p:Prop}(h:p:=by
 obtain⟨rm,hlen,JR⟩:=Re.gK hf;rcases xh with p|p|p;all_goals
  refine br func45 ntmps45 results45 0 77371252473350734410155975 ?_;simp only[zI,simprocAttr,fY,Re.ah re,iD,bD,p]
  repeat' (first
 |(with_reducible refine And.intro tx ?_)
 |(with_reducible first|refine lq (λhc=>?_) (λhc=>?_)|refine eB (λhc=>?_) (λhc=>?_)|refine eA (λhc=>?_) (λhc=>?_)|refine dy (λhc=>?_) (λhc=>?_)|refine dx (λhc=>?_) (λhc=>?_)|refine iW (λhc=>?_) (λhc=>?_)|refine eu (λhc=>?_) (λhc=>?_))<;>simp only[zI,simprocAttr,iD,bD,p,hc])
 all_goals
  rcases amq re.neg with dQ|dQ;all_goals
   try (exfalso;rw[dQ]at hc;exact absurd hc aF;done)
   try simp only[dQ,alh,ali]
   first
    |(refine congrArg bV (Eq.symm (Bool.eq_false_iff.2 λh=>?_))
      simp only[bX,cE,p,dQ,FD,or_self,if_false,or_true,true_or,or_false,false_or,if_true,reduceIte,alo,decide_eq_true_eq,alh,ali,alE,alB,reduceCtorEq,alk,false_and,and_false,true_and,and_true]at h;try omega
      done)
    |(refine congrArg bV (Eq.symm ?_)
      simp only[bX,cE,p,dQ,FD,or_self,if_false,or_true,true_or,or_false,false_or,if_true,reduceIte,alo,decide_eq_true_eq,alh,ali,alE,alB,reduceCtorEq,alk,false_and,and_false,true_and,and_true];try omega
      done)):p:=h
theorem Zaj{p:Prop}(h:p:=by
 obtain⟨rm,hlen,JR⟩:=Re.gK hf;rcases xh with p|p;all_goals
  refine br func45 ntmps45 results45 0 77371252473350734410155975 ?_;simp only[zI,simprocAttr,fY,Re.ah re,iD,bD,p]
  repeat' (first
 |(with_reducible refine And.intro tx ?_)
 |(with_reducible first|refine lq (λhc=>?_) (λhc=>?_)|refine eB (λhc=>?_) (λhc=>?_)|refine eA (λhc=>?_) (λhc=>?_)|refine dy (λhc=>?_) (λhc=>?_)|refine dx (λhc=>?_) (λhc=>?_)|refine iW (λhc=>?_) (λhc=>?_)|refine eu (λhc=>?_) (λhc=>?_))<;>simp only[zI,simprocAttr,iD,bD,p,hc])
 all_goals
  rcases amq re.neg with dQ|dQ;all_goals
   try (exfalso;rw[dQ]at hc;exact absurd hc aF;done)
   try simp only[dQ,alh,ali]
   first
    |(refine congrArg bV (Eq.symm (Bool.eq_false_iff.2 λh=>?_))
      simp only[bX,cE,p,dQ,FD,or_self,if_false,or_true,true_or,or_false,false_or,if_true,reduceIte,alo,decide_eq_true_eq,alh,ali,alE,alB,reduceCtorEq,alk,false_and,and_false,true_and,and_true]at h;try omega
      done)
    |(refine congrArg bV (Eq.symm ?_)
      simp only[bX,cE,p,dQ,FD,or_self,if_false,or_true,true_or,or_false,false_or,if_true,reduceIte,alo,decide_eq_true_eq,alh,ali,alE,alB,reduceCtorEq,alk,false_and,and_false,true_and,and_true];try omega
      done)):p:=h
theorem Zak{p:Prop}(h:p:=by
 obtain⟨k,hk⟩:∃k,re.kids[i]?=some k:=cb aE;have hm:=List.mem_of_getElem? hk;have aH:(i:Int)<(re.kids.length:Int):=ae;have hi0:(0:Int)<=(i:Int):=ae;have G5:Re.cC (re.kids.take (i+1))=Re.cC (re.kids.take i)+k.dp:=by rw[bn hk,iP];simp [Re.cC]
 have dw:=ih k hm (jG k hm);unfold ed at dw;simp only[i64]at dw;have yH:min (min (Re.cC (re.kids.take i):Int) 8193+min (k.dp:Int) 8193) 8193=min (Re.cC (re.kids.take (i+1)):Int) 8193:=ae;have w1:IntKind.i64.wrap (min (Re.cC (re.kids.take i):Int) 8193+min (k.dp:Int) 8193)=min (Re.cC (re.kids.take i):Int) 8193+min (k.dp:Int) 8193:=bK _ ae;simp only[zX,simprocAttr,aL,Re.ah re,ak8,ak9,iD,bD,h1,h3,lh,lT,ku,i64,aH,hi0,aE,hk,ak4,List.getElem?_map,ala,ak7];refine dk dw ?_;simp only[zX,simprocAttr,aL,Re.ah re,ak8,ak9,iD,bD,h1,h3,lh,lT,ku,i64,w1,yH];refine⟨re.kids.length-(i+1),_,_,ae,bO.cut (s':=[aL re]) 1 ae (by simp [aL,Re.ah re,iD,bD]) (by simp [aL,aY,Re.ah re,ak]) [1,3,18,19,20] (by simp [ca,aZ,ak,h1,h3,lh,lT,ku,i64]),i+1,rfl,aE,?_,?_,?_,?_,?_,by simp [aL,Re.ah re,iD,bD]⟩ <;> (try simp only[zU,Ft,qa,qe,Fp,reduceIte])
 ·exact h1
 ·exact lh
 ·exact lT
 ·rw[bK _ ae];rfl):p:=h
theorem Zal{p:Prop}(h:p:=by
 refine⟨λk o ho=>?_,λk k' o o' b base bT h1 h2 h3 h4 h5=>?_,λb hb=>AU hI hb.1,λk o b base h1 h2 hb=>?_⟩
 ·have aE:=(List.getElem?_eq_some_iff.1 ho).1;rw[Jn k aE];rcases hI.content _ _ (hs k o ho) with g1|⟨b,base,arr,E,g1,g2,g3,g4,g5⟩
  ·exact .inl g1.down
  ·refine .inr ⟨b,base,arr,E,g1,g2,λe he=>?_,by simpa [ba]using g4,λi j x hx=>?_⟩
   ·have:=g3 (aI.go ρ e) (List.mem_map.2 ⟨e,he,rfl⟩);rw[jA]at this;simpa [ba]using this
   ·obtain⟨u,k1,k2,k3⟩:=g5 i j _ (H9 hx);refine⟨u,k1,k2,yZ A0 hs Jn k3 rfl ?_⟩;have hobj:=List.all_eq_true.1 rk o (List.mem_of_getElem? ho);cases Ex:o.aA[i]? with
    |none=>rw[Ex]at hx;cases hx
    |some e =>
     rw[Ex]at hx;exact List.all_eq_true.1 (List.all_eq_true.1 hobj e (List.mem_of_getElem? Ex)) x (List.mem_of_getElem? hx)
 ·have l1:=(List.getElem?_eq_some_iff.1 h1).1;have l2:=(List.getElem?_eq_some_iff.1 h2).1;rw[Jn k l1]at h4;rw[Jn k' l2]at h5;exact hρi k k' l1 l2 (hI.inj _ _ _ _ b base bT (hs k o h1) (hs k' o' h2) h3 h4 h5)
 ·have l1:=(List.getElem?_eq_some_iff.1 h1).1;rw[Jn k l1]at h2;exact hb.2 ⟨k,base,l1,h2⟩):p:=h
theorem Zam{p:Prop}(h:p:=by
 unfold cu dW;refine br func116 ntmps116 results116 3 26328072917139296674479506920917608079723773850137295405767982863 ?_;simp only[zI,simprocAttr,bV,Goal.bP,iD,bD,d4,d1,d2,d3,d5,d6,d7,d8,d9];refine an (bL _) (λv s' hv=>?_);obtain⟨rfl,rfl⟩:=hv;simp only[zQ,simprocAttr,he,ali,alh,d4,d1,d2,d3,d5,d6,d7,d8,d9];simp only[zI,simprocAttr,iD,bD,jX,mY,au aJ,Re.ah aJ];refine bC [4] (by simp [bI,bU,bq.go,bq,cJ]) (an (hf _) (λv s' hv=>?_));obtain⟨rfl,rfl⟩:=hv;simp only[zQ,simprocAttr,mc,e2];first|exact aX _ _|exact⟨aX _ _,rfl⟩):p:=h
theorem Zan{p:Prop}(h:p:=by
 rw[hr];have hlen:=ir t Bs C p Lt (j+1) (n+1) ⟨st.kn.set n true,st.nw⟩;generalize bF t Bs C p Lt (j+1) (n+1) ⟨st.kn.set n true,st.nw⟩=R at *;have uG:n<R.2.nw.length:=by rw[hlen.2.1];exact yG
 obtain⟨wr,hwr⟩:∃wr,R.2.nw[n]?=some wr:=cb uG;unfold dP lM at hc;unfold dP lM;refine br Tryz.func97 Tryz.ntmps97 Tryz.results97 11 134219647 ?_;simp only[zQ,simprocAttr,dP,lM,cA,aV,dK,cF,y8,db,jj,fS,ka,yG,hn,h1,h2,ak7,ak4,List.getElem?_map,rL,BQ,hi,ala,alc,aw.cells,o5,iL,rk,cB,mB,nB,if_true,if_false,hw,ie,ll,gY,kG,hB,alp,ak5,ak6,alu,kr];refine eD t root parts bg nb Bs tP rfl rfl rfl rfl rfl ?_;simp only[zQ,simprocAttr,dP,lM,cA,aV,dK,cF,y8,db,jj,fS,ka,yG,hn,h1,h2,ak7,ak4,List.getElem?_map,rL,BQ,hi,ala,alc,aw.cells,o5,iL,rk,cB,mB,nB,if_true,if_false,hw,ie,ll,gY,kG,hB,alp,ak5,ak6,alu,kr];refine hc _ ?_;simp only[zQ,simprocAttr,dP,lM,cA,aV,dK,cF,y8,db,jj,fS,ka,yG,hn,h1,h2,ak7,ak4,List.getElem?_map,rL,BQ,hi,ala,alc,aw.cells,o5,iL,rk,cB,mB,nB,if_true,if_false,hw,ie,ll,gY,kG,hB,alp,ak5,ak6,alu,kr,uG,hwr,hlen.2.1]):p:=h
theorem Zao{p:Prop}(h:p:=by
 by_cases xI:jf .and .i64 R.2.dH 32=0
 ·simp only[zJ,simprocAttr,lA,lB,w1,Mk.next,xI];refine dk (iF R.1 ae) ?_;cases hn:R.1.sQ with
  |true =>
   simp only[zJ,simprocAttr,bV,lA,lB,w1,Mk.next,xI,hn];refine rZ (yI R.2 g1.l ⟨g1.p0,by have:=g1.p1;omega⟩) ?_;simp only[zJ,simprocAttr,bV,lA,lB,w1,Mk.next,xI,hn];all_goals exact dX
  |false =>
   simp only[zJ,simprocAttr,bV,lA,lB,w1,Mk.next,xI,hn];all_goals exact dX
 ·simp only[zJ,simprocAttr,lA,lB,w1,Mk.next,xI];all_goals exact dX):p:=h
theorem Zap{p:Prop}(h:p:=by
 obtain⟨aJ,l,hk⟩:∃aJ l,re.kids=aJ::l:=by
  cases hh:re.kids with
  |nil=>rw[hh]at hx;cases hx
  |cons y l=>exact⟨y,l,rfl⟩
 rw[hk]at hx;have cQ:=λext=>fO (Ka ih g b a m1 r re tc p aJ l hk g5 ae hx) rfl rfl rfl ext;obtain⟨m2,y1,y2⟩:=x;rcases hR with ⟨rfl,rfl,e4⟩|⟨rfl,_,e4⟩
 all_goals
  unfold aP.bw aP.aQ at cQ;simp only[zM,cj,bt.d,bQ.d,Re.ah]at cQ;unfold aP.bw aP.aQ at bL;simp only[zM,cj]at bL;unfold aP.bw aP.aQ;refine br func102 ntmps102 results102 3 158456325028528677386111158247 ?_;simp only[zX,simprocAttr,-FF,zM,cj,bQ.d,Re.ah,e4];refine an (bL _) (λv s' hv=>?_);obtain⟨rfl,rfl⟩:=hv;simp only[zX,simprocAttr,-FF,zM,cj,alh,Re.ah,d1,d2,d3,d5,d6,d7,d8,d9,d10,d11,FD,decide_true,decide_false];refine an (cQ _) (λv s' hv=>?_);obtain⟨rfl,rfl⟩:=hv;simp only[zX,simprocAttr,-FF,zM,cj];first
   |(refine⟨aG m2 b a,?_⟩;simp only[zM,cj,sq,mP,bS,aU,bt.d,bQ.d,Re.ah];done)
   |exact⟨aG m2 b a,rfl⟩
   |exact aG m2 b a):p:=h
theorem Zaq{p:Prop}(h:p:=by
 have eg:i=t.length:=by omega
 subst eg;have aH:¬(t.length:Int)<t.length:=ae;rw[alr]at bR;rw[bR,ap aF];unfold aP.aQ;by_cases d1:fuel<0
 ·rw[be (.inl d1)];simp only[zX,simprocAttr,zM,cj,hr,h1,h2,h3,h9,ku,KX,zd,aH,ar,gt_iff_lt,d1];first|exact⟨hM,rfl⟩|exact hM
 ·by_cases d2:1099511627776<fuel
  ·rw[be (.inr d2)];simp only[zX,simprocAttr,zM,cj,hr,h1,h2,h3,h9,ku,KX,zd,aH,ar,gt_iff_lt,d1,d2];first|exact⟨hM,rfl⟩|exact hM
  ·rw[bm];by_cases d3:at_<0
   ·rw[be (.inl d3)];simp only[zX,simprocAttr,zM,cj,hr,h1,h2,h3,h9,ku,KX,zd,aH,ar,gt_iff_lt,d1,d2,d3];first|exact⟨hM,rfl⟩|exact hM
   ·by_cases d4:(t.length:Int)<at_
    ·rw[be (.inr d4)];simp only[zX,simprocAttr,zM,cj,hr,h1,h2,h3,h9,ku,KX,zd,aH,ar,gt_iff_lt,d1,d2,d3,d4];first|exact⟨hM,rfl⟩|exact hM
    ·rw[bm];simp only[zX,simprocAttr,zM,cj,hr,h1,h2,h3,h9,ku,KX,zd,aH,ar,gt_iff_lt,d1,d2,d3,d4];first|exact⟨hM,rfl⟩|exact hM):p:=h
theorem Zar{p:Prop}(h:p:=by
 refine dk hc ?_;by_cases he:e=0
 ·subst he;by_cases h9:9<l.length
  ·have Kl:(9:Int)<(l.length:Int):=by omega
   rw[be ⟨rfl,h9⟩]at hq;simp only[zQ,simprocAttr,ar,ak4,Kl,gt_iff_lt];refine cP mix [15] [] ?_;simp only[zQ,simprocAttr,ar,ak4,Kl];refine HD k1 ?_;simp only[zQ,simprocAttr,ar,ak4,Kl,w1];refine HD k2 ?_;simp only[zQ,simprocAttr,ar,ak4,Kl];refine iC _ rfl (dk kf ?_);by_cases h0:ac=0
   ·subst h0;rw[be rfl]at hq;subst hq;simp only[zQ,simprocAttr,ar,ak4,Kl,ne_eq,not_true_eq_false];simp [bk,wM,Re.ah re,iD,bD,i64,bV]
   ·rw[ap h0]at hq;subst hq;simp only[zQ,simprocAttr,ar,ak4,Kl,ne_eq,h0,not_false_eq_true];simp [bk,Re.ah re,iD,bD,i64,bV]
  ·have Kl:¬(9:Int)<(l.length:Int):=by omega
   rw[ap (λh=>h9 h.2)]at hq;subst hq;simp only[zQ,simprocAttr,ar,ak4,Kl,gt_iff_lt];simp [bk,Re.ah re,iD,bD,i64,bV]
 ·rw[ap (λh=>he h.1)]at hq;subst hq;simp only[zQ,simprocAttr,ar,he];simp [bk,Re.ah re,iD,bD,i64,bV]):p:=h
theorem Zas{p:Prop}(h:p:=by
 simp only[zI,simprocAttr,aL,Re.ah re,ak8,ak9,iD,bD,xD,h2,h5,kr,jk,aE,jg,xg,ej,w2,w3,Jo];refine⟨λe he=>by rw[List.mem_singleton.1 he];rfl,⟨aq,ae⟩,?_⟩;refine bB eF (by simp [ak,ak.go,au]) tY ?_;simp only[zI,simprocAttr,aL,Re.ah re,ak8,ak9,iD,bD,xD,h2,h5,kr,jk,aE,jg];refine⟨mw _,⟨aq,ae⟩,(re.mx-re.mn).toNat-(j+1),_,_,ae,bO.cut (s':=[aL re,jg (g+1+1) (out++zx re.mode (f+(out.length:Int)+1) (f+re.kx)::aJ)]) 2 ae ?_ (by simp [P9,PN]) [1,2,5,11,12] ?_,j+1,g+1+1,rfl,ae,?_,?_,?_,?_,?_,?_⟩ <;> (try simp only[zU,Ft,qa,qe,Fp,reduceIte])
 ·simp only[al9,amj];rw[po _ _ (ale _),aln aq];simp [zx,kz.cells,Jo,iD,jg,aL,Re.ah re,bD]
 ·simp [ca,aZ,ak,xD,h2,kr,i64]
 ·exact xD
 ·exact h2
 ·rw[Dz];simp;omega
 ·exact kr
 ·rw[bK _ ae];simp only[amf,Int.natCast_one,Int.add_assoc]
 ·rw[Dz];simp [jg,aL,Re.ah re,iD,bD]):p:=h
theorem Zat{p:Prop}(h:p:=by
 refine aW cr.bu ?_;refine cP mix [16] [(10,[3],[]),(11,[3],[]),(12,[3],[]),(13,[3],[]),(15,[7],[7]),(17,[6],[]),(18,[6],[6])] ?_;simp only[zX,simprocAttr,zM,hole,w1];refine cU (bC [7] (by simp [bI,bU,bq.go,bq,cJ,bt.bP,lu,bQ.d,Re.ah,iD,bD]) (dk (pj b a (.el aJ) (.mk 3 r (n+1) p.at_ p.todo)) ⟨rfl,rfl⟩)) ?_;cases b6 with
 |true =>
  rw[be (of_decide_eq_true h6)]at hx;cases hx;simp only[zX,simprocAttr,zM,bt.bP,lu,bQ.d,Re.ah,h6,bI,bU];refine an (hpm _) (λv s' hv=>?_);obtain⟨rfl,rfl⟩:=hv;simp only[zX,simprocAttr,zM];exact⟨aG m2 b a,rfl⟩
 |false =>
  rw[ap (of_decide_eq_false h6)]at hx;cases hx;simp only[zX,simprocAttr,zM,bt.bP,lu,bQ.d,Re.ah,h6,bI,bU];refine an (Lz _) (λv s' hv=>?_);obtain⟨rfl,rfl⟩:=hv;simp only[zX,simprocAttr,zM];refine⟨aG m3 b a,?_⟩;simp only[zM,cj,bt.bP,lu,bQ.d,Re.ah]):p:=h
theorem Zau{p:Prop}(h:p:=by
 have hc:=λext=>gz (ih g0 _ _ _ _ _ hr) ext;unfold fV fk cu dW at hc;simp only[Goal.bP,i64,iD,bD,bV,ak5,ak6]at hc;simp only[he]at hc;unfold cu dW;refine br func116 ntmps116 results116 3 26328072917139296674479506920917608079723773850137295405767982863 ?_;simp only[zI,simprocAttr,-FF,bV,Goal.bP,iD,bD,d4,d1,d2,d3,d5,d6,d7,d8,d9,d10];refine an (bL _) (λv s' hv=>?_);obtain⟨rfl,rfl⟩:=hv;simp only[zQ,simprocAttr,-FF,he,ali,alh,d4,d1,d2,d3,d5,d6,d7,d8,d9,d10];refine dk lQ ?_;simp only[zI,simprocAttr,-FF,iD,bD,jX,mY,sY,tc,au yes,Re.ah yes,au no,Re.ah no,q,ge_iff_le];refine⟨aF,?_⟩;refine aW cr.bu ?_;refine cP mix [10] [(7,[6],[6])] ?_;simp only[zQ,simprocAttr,-FF,hole];refine cU (bC [6] (by simp [bI,bU,bq.go,bq,cJ]) (hc _)) ?_;simp only[zQ,simprocAttr,-FF];first|exact aX _ _|exact⟨aX _ _,rfl⟩):p:=h
theorem Zav{p:Prop}(h:p:=by
 refine⟨st.rd.length-(m+1),_,_,ae,bO.cut (s':=BO t root parts bg nb Bs g b a C q i (X) st.gn st.rd (some (mL.mk p p' (JU c x0.aR)))) 14 ae rfl (AR t root parts bg nb Bs g b a C q i _ _ _ _) [3,6,7,10,14,15,16,17,18,19,20,61,62,63] (by simp [ca,aZ,ak,ak.go,h3,h6,h7,ek,gP,lJ,m9,rz,lh,lT,ku,rl,r8,FU,i64,bV]),m+1,rfl,aE,?_,?_,?_,?_,?_,?_,?_,?_,?_,?_,?_,?_,?_,?_,by rw[jT];rfl⟩ <;> (try simp only[zU,Ft,qa,qe,Fp,reduceIte])
 ·exact h3
 ·exact h6
 ·exact h7
 ·exact ek
 ·exact gP
 ·exact lJ
 ·exact m9
 ·exact rz
 ·exact lh
 ·exact lT
 ·exact ku
 ·exact rl
 ·exact r8
 ·rw[bK _ ae];rfl):p:=h
theorem Zaw{p:Prop}(h:p:=by
 simp only at hr;have hc:=λext=>gz (ih g0 _ _ _ _ _ hr) ext;unfold fV fk cu dW at hc;simp only[Goal.bP,i64,iD,bD,bV,ak5,ak6]at hc;simp only[e2]at hc;unfold cu dW;refine br func116 ntmps116 results116 3 26328072917139296674479506920917608079723773850137295405767982863 ?_;simp only[zI,simprocAttr,bV,Goal.bP,iD,bD,d4,d1,d2,d3,d5,d6,d7,d8];refine an (bL _) (λv s' hv=>?_);obtain⟨rfl,rfl⟩:=hv;simp only[zQ,simprocAttr,he,ali,alh,d4,d1,d2,d3,d5,d6,d7,d8]
 (refine an (hf _) (λv s' hv=>?_);obtain⟨rfl,rfl⟩:=hv)
 simp only[zQ,simprocAttr,ou,e2,hn]
 (refine an (hc _) (λv s' hv=>?_);obtain⟨rfl,rfl⟩:=hv)
 simp only[zQ,simprocAttr];first|exact aX _ _|exact⟨aX _ _,rfl⟩):p:=h
theorem Zax{p:Prop}(h:p:=by
 simp only at hr;have hc:=λext=>gz (ih g0 _ _ _ _ _ hr) ext;unfold fV fk cu dW at hc;simp only[Goal.bP,i64,iD,bD,bV,ak5,ak6]at hc;simp only[e2]at hc;unfold cu dW;refine br func116 ntmps116 results116 3 26328072917139296674479506920917608079723773850137295405767982863 ?_;simp only[zI,simprocAttr,bV,Goal.bP,iD,bD,d4,d1,d2,d3,d5,d6,d7];refine an (bL _) (λv s' hv=>?_);obtain⟨rfl,rfl⟩:=hv;simp only[zQ,simprocAttr,he,ali,alh,d4,d1,d2,d3,d5,d6,d7]
 (refine an (hf _) (λv s' hv=>?_);obtain⟨rfl,rfl⟩:=hv)
 simp only[zQ,simprocAttr,ou,e2,hn]
 (refine an (hc _) (λv s' hv=>?_);obtain⟨rfl,rfl⟩:=hv)
 simp only[zQ,simprocAttr];first|exact aX _ _|exact⟨aX _ _,rfl⟩):p:=h
theorem Zay{p:Prop}(h:p:=by
 have hr:bF t Bs C p Lt (k+1) n st=(false,⟨st.kn.set n true,st.nw.set n false⟩):=by rw[bF,ap (by rw[List.getD_eq_getElem?_getD,rL];simp),lD];simp only[o5,n8];rfl
 rw[hr];unfold dP lM;refine br Tryz.func97 Tryz.ntmps97 Tryz.results97 11 134219647 ?_;simp only[zQ,simprocAttr,dP,lM,cA,aV,dK,cF,y8,db,jj,fS,ka,yG,hn,h1,h2,ak7,ak4,List.getElem?_map,rL,BQ,hi,ala,alc,aw.cells,o5,iL,rk,cB,mB,nB,if_true,if_false,hw,ie,ll,gY,kG,hB,alp,ak5,ak6,alu,kr];refine eD t root parts bg nb Bs tP rfl rfl rfl rfl rfl ?_;simp only[zQ,simprocAttr,dP,lM,cA,aV,dK,cF,y8,db,jj,fS,ka,yG,hn,h1,h2,ak7,ak4,List.getElem?_map,rL,BQ,hi,ala,alc,aw.cells,o5,iL,rk,cB,mB,nB,if_true,if_false,hw,ie,ll,gY,kG,hB,alp,ak5,ak6,alu,kr]):p:=h
theorem Zaz{p:Prop}(h:p:=by
 cases hr with|rf o' jb hg hu hk=>?_
 rw[ho]at jb;cases jb;obtain⟨b,base,hs,hc,rfl⟩:=hk rfl;rcases hI.content k o ho with h0|⟨b',bT,arr,E,k1,k2,k3,k4,k5⟩
 ·exact(h0.CH hs hc).elim
 rw[hs]at k1;cases k1;obtain⟨u',g1,g2,g3⟩:=k5 0 0 v (by rw[iy];rfl);have rN:w.cell? ⟨b,base+0*o.sz+0,none⟩=some u':=by simp only[World.cell?,k2];simpa using g1
 refine .bx rfl rN ?_ g2 (g3.bj h1);rintro (hb|⟨id,o2,Cd,l1,l2,l3⟩)
 ·exact hI.apart k o b base ho hs hb
 ·obtain⟨o3,m1,_,_,_,m5⟩:=j0 l1;have:id=k:=hI.inj id k o3 o b Cd base m1 ho (m5 l2) l3 hs;subst this;unfold bU at l1;rw[ho]at l1;simp only at l1;rw[List.getElem?_set_self (List.getElem?_eq_some_iff.1 ho).1]at l1;cases l1;cases l2):p:=h
theorem ZaA{p:Prop}(h:p:=by
 refine⟨st.rd.length-(m+1),_,_,ae,bO.cut (s':=BO t root parts bg nb Bs g b a C q i (X) st.gn st.rd gI) 14 ae rfl (AR t root parts bg nb Bs g b a C q i _ _ _ _) [3,6,7,10,14,15,16,17,18,19,20,61,62,63] (by simp [ca,aZ,ak,ak.go,h3,h6,h7,ek,gP,lJ,m9,rz,lh,lT,ku,rl,r8,FU,i64,bV]),m+1,rfl,aE,?_,?_,?_,?_,?_,?_,?_,?_,?_,?_,?_,?_,?_,?_,by rw[jT];rfl⟩ <;> (try simp only[zU,Ft,qa,qe,Fp,reduceIte])
 ·exact h3
 ·exact h6
 ·exact h7
 ·exact ek
 ·exact gP
 ·exact lJ
 ·exact m9
 ·exact rz
 ·exact lh
 ·exact lT
 ·exact ku
 ·exact rl
 ·exact r8
 ·rw[bK _ ae];rfl):p:=h
theorem ZaB{p:Prop}(h:p:=by
 first|exact aX _ _|exact⟨aX _ _,rfl⟩):p:=h
theorem ZaC{p:Prop}(h:p:=by
 simp only[xc,alb,alG]at hr;obtain⟨rfl,rfl⟩:=hr;have d1:decide (re.mx=-1)=false:=ce (λh=>hM (.inl h));have m2:¬k<re.mx:=λh=>hM (.inr h);unfold cu dW;refine br func114 ntmps114 results114 3 32527 ?_;simp only[zI,simprocAttr,bV,Goal.bP,iD,bD,hm];refine an (bL _) (λv s' hv=>?_);obtain⟨rfl,rfl⟩:=hv;simp only[zQ,simprocAttr,he,ali,alh];refine cP mix [] [] ?_;simp only[zQ,simprocAttr,d1,m2];refine aW (cr.trans cr.bu cr.bu) ?_;refine cP mix [] [(15,[4],[4]),(17,[5],[5])] ?_;simp only[zQ,simprocAttr,hole,jX,mY,au aJ,Re.ah aJ];refine cP mix [] [] ?_;simp only[zQ,simprocAttr,c2,d3];refine an (h1 _) (λv s' hv=>?_);obtain⟨rfl,rfl⟩:=hv;simp only[zQ,simprocAttr];exact aX _ _):p:=h
theorem ZaD{p:Prop}(h:p:=by
 exfalso;obtain⟨k,aE,rfl⟩:=gZ id dA;obtain⟨p,g1,rfl⟩:=x5 k o aE h1;rw[Jf k aE]at h4;rw[vn lL yE]at h2;rw[Kr lL yE]at h5;have TN:=hI.lt h2 h5;have hO:Own σ s b:=by
  rcases hE.own b (.inr ⟨k,p,base,g1,h3,h4⟩) with h'|h'
  ·exact A0 b h'
  ·omega
 by_cases Cu:o'.live=true
 ·exact jR.apart k p b base g1 h4 (by rw[hE.base];exact⟨hO,ss lL o' b bT yE h2 h5 Cu⟩)
 ·rcases hO with hO|⟨id2,o2,Cd,q1,q2,q3⟩
  ·exact hI.apart lL o' b bT h2 h5 hO
  ·have:=hI.inj id2 lL o2 o' b Cd bT q1 h2 q2 q3 h5;subst this;rw[h2]at q1;cases q1;exact Cu q2):p:=h
theorem ZaE{p:Prop}(h:p:=by
 rcases hI.content _ o ho with h0|⟨b,base,arr,E,h1,h2,h3,h4,h5⟩
 ·cases ha with|so o' jb D4 Sn hk=>?_
  rw[ho]at jb;cases jb;rcases hk hg with ⟨jW,_⟩|⟨b,bs,cp,E,arr,dL,hh,_⟩
  ·rw[h0.JH jW]at oT;cases oT
  ·exact(h0.CH dL ⟨arr,E,hh⟩).elim
 ·rw[<- Lj];exact h3 e oT):p:=h
theorem ZaF{p:Prop}(h:p:=by
 refine .cl (by simpa using h1) (λi y hy=>?_) (by simpa using h3) (λi y hy=>?_)
 ·obtain⟨x,hx,rfl⟩:=g _ i y hy;exact As i x hx
 ·obtain⟨x,hx,rfl⟩:=g _ i y hy;exact mN i x hx):p:=h
theorem ZaG{p:Prop}(h:p:=by
 simp only[zI,simprocAttr,aL,Re.ah re,ak8,ak9,iD,bD,xD,h2,h5,h6,aE,jg,xg,ej,w1,w2,hm];refine bB eF (by simp [ak,ak.go,au]) tY ?_;simp only[zI,simprocAttr,aL,Re.ah re,ak8,ak9,iD,bD,xD,h2,h5,h6,aE,jg,w1,w2,w3,w4,hm,Jo];refine⟨λe he=>by rw[List.mem_singleton.1 he];rfl,⟨aq,ae⟩,mw _,⟨aq,ae⟩,λe he=>by rw[List.mem_singleton.1 he];rfl,⟨aq,ae⟩,?_⟩;simp only[zX,simprocAttr,tV];refine nZ (id:=1) eh ?_ ?_
 ·rw[po _ _ (ale _),aln aq,aln aq];simp [zx,LV,kz.cells,Jo,iD]
 ·simp;omega):p:=h
theorem ZaH{p:Prop}(h:p:=by
 obtain⟨rfl,rfl⟩:=hv;simp only[zQ,simprocAttr];exact aX _ _):p:=h
theorem ZaI{p:Prop}(h:p:=by
 rw[vn id dA]at ho;rw[Kr id dA];refine xm.bj (p:=σ id) ZU (λb base hb=>?_) (hI.content id o ho);have aE:=hI.lt ho hb;by_cases hO:Own σ s b
 ·by_cases Cu:o.live=true
  ·exact gk b aE hO (ss id o b base dA ho hb Cu)
  ·exfalso;rcases hO with hO|⟨lL,o',bT,g1,g2,g3⟩
   ·exact hI.apart id o b base ho hb hO
   ·have:=hI.inj lL id o' o b bT base g1 ho g2 g3 hb;subst this;rw[ho]at g1;cases g1;exact Cu g2
 ·exact hE.bp b aE λh'=>hO (A0 b h')):p:=h
theorem ZaJ{p:Prop}(h:p:=by
 split
 ·have hn:bX (Re.node 0 []) (m.less.next 20).2.aj 255=true:=gX ae ae ae (by simp [cE]) aq aq;exact⟨by rw[ec];exact alj _,pz hn (λk hk=>by cases hk),by show (1:Int)<=_;omega,by show ((1:Nat):Int)<=m.left-(m.less.next 20).2.left;omega,λ_=>by show _<=(m.less.next 20).2.left;omega,λ_=>by show _<=(m.less.next 20).2.left;omega⟩
 ·have e1:(m.less.next 20).2.set.2.left=m.left-1:=rfl;exact⟨alj _,wB _ _,by rw[Db];omega,by rw[Al];omega,λ_=>ae,λ_=>ae⟩):p:=h
theorem ZaK{p:Prop}(h:p:=by
 obtain⟨rfl,ha⟩:=ha;unfold iU at ha;cases ht:bW P t with
 |none=>rw[ht]at ha;exact ha.elim
 |some i =>
  rw[ht]at ha;simp only[hx,PH]at ha;obtain⟨h1,h2,ha⟩:=ha;split at ha
  ·exact ha.elim
  ·rename_i cs n9;split at ha
   ·exact ha.elim
   ·rename_i ns yS;obtain⟨h3,h4,ha⟩:=ha;refine⟨_,_,ha,λs' hlen jT=>jY ?_⟩;unfold mh du;simp only[iU,ht,hx,jT,PH,n9,yS];exact⟨h1,h2,h3,h4,trivial,trivial⟩):p:=h
theorem ZaL{p:Prop}(h:p:=by
 obtain⟨k,aE,rfl⟩:=gZ id dA;obtain⟨o',g1,rfl⟩:=x5 k o aE ho;rw[Jf k aE];rcases jR.content k o' g1 with c1|⟨b,base,arr,E,c1,c2,c3,c4,c5⟩
 ·exact .inl c1.up
 ·refine .inr ⟨b,base,arr,E,c1,c2,λe he=>?_,by simpa [ba]using c4,λi j y hy=>?_⟩
  ·obtain⟨e',oT,rfl⟩:=List.mem_map.1 he;rw[jA];simpa [ba]using c3 e' oT
  ·obtain⟨x,hx,rfl⟩:=Kf hy;obtain⟨u,k1,k2,k3⟩:=c5 i j x hx;exact⟨u,k1,k2,up k3⟩):p:=h
theorem ZaM{p:Prop}(h:p:=by
 by_cases aE:id<s.length
 ·rw[List.getElem?_set_self aE,List.getElem?_set_self ae]
 ·rw[List.getElem?_eq_none cV,List.getElem?_eq_none cV]):p:=h
theorem ZaN{p:Prop}(h:p:=by
 exact same (by simp only[execOp];exact r1 k1) k2 k3):p:=h
theorem ZaO{p:Prop}(h:p:=by
 simp only[zX,simprocAttr,i64]
 repeat' (first
 |(with_reducible refine And.intro tx ?_)
 |(with_reducible first|refine lq (λhc=>?_) (λhc=>?_)|refine eB (λhc=>?_) (λhc=>?_)|refine eA (λhc=>?_) (λhc=>?_)|refine dy (λhc=>?_) (λhc=>?_)|refine dx (λhc=>?_) (λhc=>?_)|refine iW (λhc=>?_) (λhc=>?_)|refine eu (λhc=>?_) (λhc=>?_))<;>simp only[zI,simprocAttr,ge_iff_le,hc])
 all_goals (simp only[tQ,bV];simp [*];try omega)):p:=h
theorem ZaP{p:Prop}(h:p:=by
 refine⟨rfl,rfl,rfl,ale _,λ_ _ _=>rfl,λ_ arr _ _ h=>⟨arr,h,rfl⟩,λ_ _ h=>h,?_,?_,rfl,λ_ _ _=>rfl⟩
 ·rintro b (hb|⟨id,o',base,h1,h2,h3⟩)
  ·exact .inl (.inl hb)
  ·obtain⟨o1,k1,k2,_⟩:=get id o' h1;exact .inl (.inr ⟨id,o1,base,k1,by rw[k2];exact h2,h3⟩)
 ·intro id o1 h1;obtain⟨o',k1,k2,k3,_⟩:=put id o1 h1;exact⟨o',k1,ae,λ_=>⟨k3,rfl⟩⟩):p:=h
theorem ZaQ{p:Prop}(h:p:=by
 simp only[zI,simprocAttr,au re,iD,bD,o,w1,w2,w3,w4];refine⟨λe he=>by rw[List.mem_singleton.1 he];rfl,λe he=>by (cases he),mw _,ae,λe he=>by rw[List.mem_singleton.1 he];rfl,⟨ae,ae⟩,mw _,⟨cV,ae⟩,?_⟩;simp only[zX,simprocAttr,tV];refine nZ (id:=2) eh ?_ ?_
 ·rw[<- hR];rw[aln (i:=1+fst.length) cV,aln cV];simp [zx,LV,kz.cells,iD]
 ·rw[<- hR];simp;omega):p:=h
theorem ZaR{p:Prop}(h:p:=by
 intro b hb;by_cases he:ur b
 ·obtain⟨k,base,aE,h3⟩:=he;refine .inr ⟨k,exts[k],base,by simp [aE],?_,by rw[Jn k aE];exact h3⟩;rcases hb with hb|⟨id,o,bT,g1,g2,g3⟩
  ·exact absurd hb (hI.apart _ _ b base (JE k aE) h3)
  ·have:=hI.inj id _ o _ b bT base g1 (JE k aE) g2 g3 h3;subst this;rw[JE k aE]at g1;cases g1;exact g2
 ·exact .inl ⟨hb,he⟩):p:=h
theorem ZaS{p:Prop}(h:p:=by
 have eg:i=t.length:=by omega
 subst eg;have aH:¬(t.length:Int)<t.length:=ae;rw[alr]at bR;rw[bR,ap aF];simp only[zI,simprocAttr,h1,h2,h9,aH,ar];by_cases d1:fuel<0
 ·simp only[zX,simprocAttr,d1]
 ·by_cases d2:1099511627776<fuel
  ·simp only[zX,simprocAttr,d1,d2,gt_iff_lt,i64,h1,h2]
  ·simp only[zX,simprocAttr,d1,d2,gt_iff_lt,i64,h1,h2]):p:=h
theorem ZaT{p:Prop}(h:p:=by
 first|exact⟨hM,rfl⟩|exact hM):p:=h
theorem ZaU{p:Prop}(h:p:=by
 simp only[zX,simprocAttr,d1,d2,gt_iff_lt,i64,h1,h2,h8,h9,aH,aE,ar,hx,iD];refine⟨t.length-(i+1),_,_,ae,bO.refl,i+1,rfl,aE,?_,?_,?_,?_,?_⟩ <;> (try simp only[zU,Ft,qa,qe,Fp,reduceIte])
 ·exact h1
 ·exact h2
 ·exact h8
 ·rw[bK _ ae];rfl
 ·exact nI hx bR (by rw[eM,bi ae,bi ae];rfl)):p:=h
theorem ZaV{p:Prop}(h:p:=by
 refine .ag (by simpa using h1) (λi y hy=>?_) (λi y hy=>?_)
 ·obtain⟨x,hx,rfl⟩:=g _ i y hy;exact h2 i x hx
 ·obtain⟨x,hx,rfl⟩:=g _ i y hy;exact ih i x hx):p:=h
theorem ZaW{p:Prop}(h:p:=by
 rintro (h|⟨lL,o',bT,k1,k2,k3⟩)
 ·exact hI.apart _ o b base ho g1 h
 ·rw[List.getElem?_take]at k1;split at k1
  ·rename_i aE;have:=hI.inj lL id o' o b bT base k1 ho k2 k3 g1;subst this;rcases Qu with h|h
   ·omega
   ·rw[ho]at k1;cases k1;rw[h]at k2;cases k2
  ·cases k1):p:=h
theorem ZaX{p:Prop}(h:p:=by
 rw[tU ae];refine br Tryz.func53 Tryz.ntmps53 Tryz.results53 0 447 ?_;simp only[zI,simprocAttr,-FF,au re,iD,bD,o]):p:=h
theorem ZaY{p:Prop}(h:p:=by
 subst k5 k6;obtain⟨m1,m2,m3⟩:=oS hI k2 k3 hs rfl (λi' j x' ky=>by
  rw[List.getElem?_map]at ky;cases hq:l[i']? with
  |none=>rw[hq]at ky;cases ky
  |some c =>
   rw[hq]at ky;simp only[ala,alO,List.getElem?_map]at ky;obtain⟨d,_,rfl⟩:=Option.map_eq_some_iff.1 ky;rfl)
 exact⟨u,_,_,_,k1,m1,m2,m3 _ _ _ k4,hk⟩):p:=h
theorem ZaZ{p:Prop}(h:p:=by
 cases hh:re.kids with
 |nil=>rw[hh]at hx;cases hx
 |cons y l=>exact⟨y,l,rfl⟩):p:=h
theorem Zba{p:Prop}(h:p:=by
 rintro b (h|⟨id,o,base,h1,h2,h3⟩)
 ·exact .inl h
 ·rw[List.getElem?_take]at h1;split at h1
  ·exact .inr ⟨id,o,base,h1,h2,h3⟩
  ·cases h1):p:=h
theorem Zbb{p:Prop}(h:p:=by
 split at h
 ·rename_i he;cases he
 ·rename_i k' n b acv he;simp only[List.cons.injEq,V.d.injEq,D.sc.injEq,and_true]at he;obtain⟨⟨rfl,rfl⟩,rfl⟩:=he;split at h
  ·rename_i hk;subst hk;obtain⟨l',h1,h2⟩:=Option.map_eq_some_iff.1 h;exact⟨n,b,l',rfl,rfl,h2.symm,h1⟩
  ·cases h
 ·cases h):p:=h
theorem Zbc{p:Prop}(h:p:=by
 simp only[zW,simprocAttr,bV,ej,h3,i64];refine⟨_,_,_,?_,bO.refl,i+1,rfl,aE,?_⟩
 ·omega
 simp only[ca,Fp,if_true,if_false];refine⟨h1,?_,λx hx=>?_,by simp [Re.ah re,iD,bD]⟩
 ·rw[bK _ ae];rfl
 ·rcases cK hk hx with h|rfl
  ·exact hn x h
  ·exact ej):p:=h
theorem Zbd{p:Prop}(h:p:=by
 subst hj;rw[List.getElem?_append_right (ale _),ame]at hx ⊢;simp only[List.getElem?_cons_zero,alb]at hx ⊢;subst hx;refine⟨_,rfl,λu hu=>?_⟩;cases hu with|fu hx=>?_
 exact .so ⟨0,true,sz,[]⟩ aq (ale _) ⟨_,_,rfl⟩ (λ_=>.inl ⟨cy _ _ _,⟨_,rfl⟩,rfl,rfl⟩)):p:=h
theorem Zbe{p:Prop}(h:p:=by
 have:∀re:Re,re.every uS=true->re.df=true:=λre=>Re.ind (Q:=λre=>re.every uS=true->re.df=true) (λre ih h=>by
  obtain⟨h1,h2⟩:=(Re.az re).1 h;obtain⟨q1,q2,q3,q4,_⟩:=fE.1 (gU.1 h1).1;exact(Re.ph re).2 ⟨ae,ae,λk hk=>ih k hk (h2 k hk)⟩) re
 exact this p.re hC):p:=h
theorem Zbf{p:Prop}(h:p:=by
 simp only[mK]at h;split at h
 ·rename_i g first aj cQ
  simp only[alb,alG]at h;obtain⟨rfl,rfl⟩:=h;simp only[du,iB,cQ]
 ·cases h):p:=h
theorem Zbg{p:Prop}(h:p:=by
 unfold xx Oper.wp;simp only[execOp,Sem.run_bind,k1,Result.andThen_ok,Sem.run_pure,Oper.upon_skip];exact⟨undef,.un,σ,s',rfl,k2,k3,.un,k4⟩):p:=h
theorem Zbh{p:Prop}(h:p:=by
 rw[hc];refine I5 func55 rfl ntmps55 results55 rfl 0 3063 aq aq ?_;simp only[zI,simprocAttr,au re,iD,bD,o,AE,Eg,ak,ak.go];all_goals exact dX):p:=h
theorem Zbi{p:Prop}(h:p:=by
 rw[show Mk.node (Mk.tree d) (pick m.l m.pos 20) (m.less.next 20).2=Mk.jB (Mk.tree d) (m.less.next 20).2 by simp [E,hq,hu]];simp only[zJ,simprocAttr,F,hq,hu];refine rZ (EO d hd ht (m.less.next 20).2 (b+2) ae hy ae) ?_;simp only[zJ,simprocAttr,F,hq,hu];all_goals exact dX):p:=h
theorem Zbj{p:Prop}(h:p:=by
 simp only[zX,simprocAttr,zY,px,pQ,h5,h6,h7,h9,AG,hb0,gY];refine dk heq ?_;simp only[zX,simprocAttr,zY,px,pQ,h5,h6,h7,h9,AG,hb0,gY,wi];refine uF _ _ _ ?_ ?_ ?_ ?_ <;> (try simp only[zU,Ft,qa,qe,Fp,reduceIte])
 all_goals first|exact h5|exact h6|exact h7|exact h9|rfl):p:=h
theorem Zbk{p:Prop}(h:p:=by
 rw[List.getElem?_set_ne (Ne.symm he)]at h1;rcases hI.content id o' h1 with c|⟨b,base,arr,E,c1,c2,c3,c4,c5⟩
 ·exact .inl c
 ·right;refine⟨b,base,arr,E,c1,c2,c3,c4,λi j x hx=>?_⟩;obtain⟨u,z1,z2,z3⟩:=c5 i j x hx;exact⟨u,z1,z2,z3.bj hE⟩):p:=h
theorem Zbl{p:Prop}(h:p:=by
 first
  |(refine⟨aG m b a,?_⟩;simp only[zM,cj,sq,bS,bt.d,bQ.d,Re.ah];done)
  |exact⟨aG m b a,rfl⟩
  |exact aG m b a):p:=h
theorem Zbm{p:Prop}(h:p:=by
 exfalso;obtain⟨k',aH,rfl⟩:=gZ lL yE;obtain⟨p',ZI,rfl⟩:=x5 k' o' aH h2;rw[Jf k' aH]at h5;rw[vn id dA]at h1;rw[Kr id dA]at h4;exact jR.apart k' p' b bT ZI h5 (by rw[hE.base];exact⟨.inr ⟨id,o,base,h1,h3,h4⟩,ss id o b base dA h1 h4 h3⟩)):p:=h
theorem Zbn{p:Prop}(h:p:=by
 refine⟨_,_,_,Vb 13 rfl,0,rfl,ae,?_,?_,?_,?_,?_,?_,?_,?_,?_,?_,?_,?_,?_,?_,?_⟩ <;> (try simp only[zU,Ft,qa,qe,Fp,reduceIte])
 all_goals first|exact h3|exact h6|exact h7|exact ek|exact gP|exact m9|exact rz|exact lh|exact lT|exact ku|rfl):p:=h
theorem Zbo{p:Prop}(h:p:=by
 rw[hr];unfold dE qc;refine br Tryz.func71 Tryz.ntmps71 Tryz.results71 9 25769810175 ?_;simp only[zQ,simprocAttr,dE,qc,cA,aV,dG,bG,GI,db,jj,fS,ka,hn,h1,ak7,ak4,List.getElem?_map,hx,hi,ala,alc,aw.cells,jO,ll,gY,kG,Mc,tW,alp,ak5,ak6,alu,uo,cQ]):p:=h
theorem Zbp{p:Prop}(h:p:=by
 exact⟨hM,by simp only[aP.done,hs,alh,ali,Bool.and_false,alp,Bool.false_and,al6]⟩):p:=h
theorem Zbq{p:Prop}(h:p:=by
 rw[hn]at tb;have hz:re.dp=1:=by rw[Re.ga,nW,rY]
 rw[hz]at hj;rw[Re.lN,bm,rY]at hS;have kK:=hS.cons.1;rw[Re.jr,bm,bm,bm,bm,bm]at hp;exact dv.ask (by rw[kK];rfl) (by rw[kK,tb];rfl) (mN hm hx hE hD hb _ _ _ _ hj hc hp hG)):p:=h
theorem Zbr{p:Prop}(h:p:=by
 simp only[ak,alo]at h;exact .cl h1 (λi x hx=>As i x hx (dO h.1 i x hx)) h3 (λi x hx=>mN i x hx (dO h.2 i x hx))):p:=h
theorem Zbs{p:Prop}(h:p:=by
 obtain⟨k,aE,rfl⟩:=gZ id dA;obtain⟨k',aH,rfl⟩:=gZ lL yE;obtain⟨p,g1,rfl⟩:=x5 k o aE h1;obtain⟨p',ZI,rfl⟩:=x5 k' o' aH h2;rw[Jf k aE]at h4;rw[Jf k' aH]at h5;rw[jR.inj k k' p p' b base bT g1 ZI h3 h4 h5]):p:=h
theorem Zbt{p:Prop}(h:p:=by
 cases ax with
 |none =>
  have:ns=[]:=E9 rfl;subst this;have hn:news=[]:=alz (by simpa using n1);subst hn;exact Src.ofNil w hu xR
 |some ad=>exact Src.ofSlice w hu ad ns.length xR news n1 (n3 ad rfl) n2):p:=h
theorem Zbu{p:Prop}(h:p:=by
 rw[List.getElem?_set_ne (Ne.symm hj)]):p:=h
theorem Zbv{p:Prop}(h:p:=by
 obtain⟨x,hx,rfl⟩:=g _ i y hy;exact ih i x hx):p:=h
theorem Zbw{p:Prop}(h:p:=by
 cases he:o.aA[i]? with
 |none=>rw[he]at hx;cases hx
 |some e =>
  rw[he]at hx;have:=(List.getElem?_eq_some_iff.1 hx).1;rw[h3 e (List.mem_of_getElem? he)]at this;exact this):p:=h
theorem Zbx{p:Prop}(h:p:=by
 rw[hs];refine br func121 ntmps121 results121 3 5 ?_;simp only[zI,simprocAttr,bV,w1,Re.ah,iD,bD];refine cP mix [] [] ?_;simp only[zI,simprocAttr,bV,w1,c,gE,Re.ah,iD,bD];subst hT;exact⟨aG m b a,rfl⟩):p:=h
theorem Zby{p:Prop}(h:p:=by
 rw[rY,alx,List.getElem?_append_right ae,hl,List.getElem?_append_left ae]):p:=h
theorem Zbz{p:Prop}(h:p:=by
 simp only[Mk.jB,hcn];first|exact⟨rfl,rfl⟩|exact⟨rfl,trivial⟩):p:=h
theorem ZbA{p:Prop}(h:p:=by
 split
 ·exact ih _ _ _ (ih _ _ _ h1)
 split
 ·exact ih _ _ _ h1
 split
 ·exact ih _ _ _ h1
 split
 ·split
  ·exact ih _ _ _ h1
  ·exact h1
 ·exact h1):p:=h
theorem ZbB{p:Prop}(h:p:=by
 intro id lL o1 o2 b base bT h1 h2 h3 h4 h5;obtain⟨p1,q1,q2,_⟩:=get id o1 h1;obtain⟨p2,r1,_⟩:=get lL o2 h2;exact hI.inj id lL p1 p2 b base bT q1 r1 (by rw[q2];exact h3) h4 h5):p:=h
theorem ZbC{p:Prop}(h:p:=by
 rcases rW hex with rfl|rfl
 ·exact fin
 ·exact fin):p:=h
theorem ZbD{p:Prop}(h:p:=by
 simp only[zJ,simprocAttr,F,hq,hu];all_goals exact dX):p:=h
theorem ZbE{p:Prop}(h:p:=by
 simp only[zI,simprocAttr,iD,ar,c1,c2,w1,gt_iff_lt,h0,g1,b1,b2,g2,n0,n1,a,b,c,d,f];all_goals (simp only[bY,a,b,c,d,f,hl,hr,uZ,qg,bV,FD,if_true,if_false,reduceIte,alE,alB];try rfl)):p:=h
theorem ZbF{p:Prop}(h:p:=by
 exact fx (by simp [execOp,resolve,invoke,builtin,k1]) k2 k3 k4 k5):p:=h
theorem ZbG{p:Prop}(h:p:=by
 rcases hI.content a1 oa ha with (⟨_,h0⟩|⟨_,es,_,_,_,h3⟩)|⟨_,_,_,_,_,_,h3,_⟩
 ·rw[h0]at h';cases h'
 ·exact absurd h3 (CU hc es)
 ·exact h3 el h'):p:=h
theorem ZbH{p:Prop}(h:p:=by
 refine⟨_,_,?_,.d (.sc _ rfl),h⟩;simp [eqGuard,binOp,Sem.run_bind,hr,Result.andThen_ok,h5]):p:=h
theorem ZbI{p:Prop}(h:p:=by
 rintro b (hb|⟨k,o,base,h1,h2,h3⟩)
 ·exact hb.1
 ·have aE:=(List.getElem?_eq_some_iff.1 h1).1;rw[Jn k aE]at h3;exact .inr ⟨ρ.getD k 0,ba ρ o,base,hs k o h1,h2,h3⟩):p:=h
theorem ZbJ{p:Prop}(h:p:=by
 simp only[zI,simprocAttr,iD,ar,c1,c2,w1,gt_iff_lt,h0,g1,b1,b2,n0,e1,a,b,c,d,f];all_goals (simp only[bY,a,b,c,d,f,hl,hr,uZ,qg,bV,FD,if_true,if_false,reduceIte,alE,alB];try rfl)):p:=h
theorem ZbK{p:Prop}(h:p:=by
 try simp only[zX,simprocAttr,-FF,zM,cj]
 first
  |(refine⟨aG m2 b a,?_⟩;simp only[zM,cj,sq,bS,bt.d,bQ.d,Re.ah];done)
  |exact⟨aG m2 b a,rfl⟩
  |exact aG m2 b a):p:=h
theorem ZbL{p:Prop}(h:p:=by
 rw[List.getElem?_set_self (List.getElem?_eq_some_iff.1 ho).1,ho]):p:=h
theorem ZbM{p:Prop}(h:p:=by
 refine br func45 ntmps45 results45 0 77371252473350734410155975 ?_;simp only[zI,simprocAttr,fY,Re.ah re,iD,bD,p0,p1,p2,p3,p4,p5,p6,p7,p8,p9,p10,p11,n1,n2];all_goals exact dX):p:=h
theorem ZbN{p:Prop}(h:p:=by
 simp only[zI,simprocAttr,iD,ar,c1,c2,w1,gt_iff_lt,h0,g2,n1,e0,a,b,c,d,f];all_goals (simp only[bY,a,b,c,d,f,hl,hr,uZ,qg,bV,FD,if_true,if_false,reduceIte,alE,alB];try rfl)):p:=h
theorem ZbO{p:Prop}(h:p:=by
 have h3:=ih hm oT hE hD (λe=>by cases e) _ _ _ _ .refl o1 o2 w1;obtain⟨f1,f2,f3⟩:=h3.fresh;rw[w2]at h3;exact dv.Qg i1 IB h3 (mN hm f1 f2 f3 hb _ _ _ _ hj hc hp hG)):p:=h
theorem ZbP{p:Prop}(h:p:=by
 simp only[zI,simprocAttr,iD,ar,c1,c2,w1,gt_iff_lt,h0,e0,e1,a,b,c,d,f];all_goals (simp only[bY,a,b,c,d,f,hl,hr,uZ,qg,bV,FD,if_true,if_false,reduceIte,alE,alB];try rfl)):p:=h
theorem ZbQ{p:Prop}(h:p:=by
 refine hR.mono ?_;rintro e W3 ⟨rfl,hJ3⟩
 gi_wp2
 go_roundw
 case rel=>exact⟨i+1,by push_cast;rfl,ae,hJ3⟩
 case measure=>simp;omega):p:=h
theorem ZbR{p:Prop}(h:p:=by
 obtain⟨k,aE,rfl⟩:=gZ id dA;obtain⟨p,g1,rfl⟩:=x5 k o aE h1;rw[Jf k aE]at h2;exact jR.apart k p b base g1 h2 (by rw[hE.base];exact⟨.inl hb,DF b hb⟩)):p:=h
theorem ZbS{p:Prop}(h:p:=by
 simp only;cases s[id]? with
 |none=>exact aN
 |some o =>
  simp only;cases o.aA[k]? with
  |none=>exact ck aN
  |some cs=>exact ck vC):p:=h
theorem ZbT{p:Prop}(h:p:=by
 rw[k4];cases ax with
 |none =>
  have:ns=[]:=E9 rfl;subst this;simp at VZ
 |some ad=>exact Src.ofSlice w hu ad ns.length xR news n1 (n3 ad rfl) n2):p:=h
theorem ZbU{p:Prop}(h:p:=by
 simp only[zI,simprocAttr,bk,Re.ah,bV,iD,bD];refine dk h1 ?_;simp only[zI,simprocAttr,bk,Re.ah,bV,iD,bD,ne_eq,hv,not_false_eq_true];all_goals rfl):p:=h
theorem ZbV{p:Prop}(h:p:=by
 split
 ·split
  ·split
   ·refine EU λ_=>cX ?_;split
    ·exact bf
    ·exact cX dj
   ·exact bf
  ·exact bf
 ·exact bf):p:=h
theorem ZbW{p:Prop}(h:p:=by
 unfold cB;simp only;split
 ·rfl
 ·split <;> rfl):p:=h
theorem ZbX{p:Prop}(h:p:=by
 have e:=eq_true c;refine br func68 ntmps68 results68 0 9007199254872519 ?_;simp only[zI,simprocAttr,iD,ar,u1,u2,gt_iff_lt,e];simp [bY,bV,c]):p:=h
theorem ZbY{p:Prop}(h:p:=by
 rcases jM Cf with h|h|h|h <;> omega):p:=h
theorem ZbZ{p:Prop}(h:p:=by
 intro x hx;rw[bn hk]at hx;rcases List.mem_append.1 hx with hx|hx
 ·exact bR x hx
 ·rw[List.mem_singleton.1 hx];exact ej):p:=h
theorem Zca{p:Prop}(h:p:=by
 refine⟨⟨_,rfl⟩,?_⟩
 (refine an hc (λv s' hv=>?_);obtain⟨rfl,rfl⟩:=hv)
 simp only[zI,simprocAttr,bV,iD];exact aX _ _):p:=h
theorem Zcb{p:Prop}(h:p:=by
 unfold ba;simp only[alH];congr 1;refine alK λp _=>?_;cases p <;> rfl):p:=h
theorem Zcc{p:Prop}(h:p:=by
 intro x hx;rcases cK hk hx with h|rfl
 ·exact bR x h
 ·exact⟨λky=>by first|omega|exact absurd ky LN,ej⟩):p:=h
theorem Zcd{p:Prop}(h:p:=by
 split
 ·exact bf
 ·refine cX (cX ?_);split
  ·exact bf
  ·split
   ·exact bf
   ·exact cX (cX dj)):p:=h
theorem Zce{p:Prop}(h:p:=by
 cases o with
 |none=>exact hr
 |some d=>exact h _ _ _ _ hr):p:=h
theorem Zcf{p:Prop}(h:p:=by
 split at hx
 ·cases hx
 ·cases hx;exact hs):p:=h
theorem Zcg{p:Prop}(h:p:=by
 exact⟨u,_,_,_,RC,m1,m2,m3 _ _ _ qu,rfl,rfl⟩):p:=h
theorem Zch{p:Prop}(h:p:=by
 obtain⟨e1,e2,e3⟩:=ih w2;exact⟨ae,e2,e3⟩):p:=h
theorem Zci{p:Prop}(h:p:=by
 refine⟨max n1 n2,b2,s3,?_,fin (by have:=q2.trans j2;simpa using this)⟩;rw[eP (amA n1 n2) q1];exact eP (amy n1 n2) j1):p:=h
theorem Zcj{p:Prop}(h:p:=by
 rw[vn id dA]at h1;rw[Kr id dA]at h3;left;rw[hE.base];exact⟨.inr ⟨id,o,base,h1,h2,h3⟩,ss id o b base dA h1 h3 h2⟩):p:=h
theorem Zck{p:Prop}(h:p:=by
 rw[vn id dA]at h1;rw[vn lL yE]at h2;rw[Kr id dA]at h4;rw[Kr lL yE]at h5;exact hI.inj id lL o o' b base bT h1 h2 h3 h4 h5):p:=h
theorem Zcl{p:Prop}(h:p:=by
 obtain⟨k,aE,rfl⟩:=gZ id dA;obtain⟨o',g1,rfl⟩:=x5 k o aE h1;rw[Jf k aE]at h3;exact .inr ⟨k,o',base,g1,h2,h3⟩):p:=h
theorem Zcm{p:Prop}(h:p:=by
 refine⟨n1,true,s2,?_,⟨k2,k3,k4,λ_=>rfl,[],[],by rw[k5];simp,by rw[k6];simp,rfl,cV,aq,aq⟩⟩;simp only[k1,be he]):p:=h
theorem Zcn{p:Prop}(h:p:=by
 refine br func68 ntmps68 results68 0 9007199254872519 ?_;simp only[zI,simprocAttr,iD,ar,u1,u2,gt_iff_lt];simp [bY,bV]):p:=h
theorem Zco{p:Prop}(h:p:=by
 simp only[zQ,simprocAttr,h3,h6,h7,ek,gP,lJ,m9,rz,lh,lT,ku,fiR,dG,Sz,t1,hz,alZ,gt_iff_lt,Y1,PJ,V3,a1,a2,a3,a4,alp];rfl):p:=h
theorem Zcp{p:Prop}(h:p:=by
 cases p with
 |so id g lo n=>simp only[gJ (h id (by simp [gG]))]
 |d x=>cases x <;> rfl
 |_=>rfl):p:=h
theorem Zcq{p:Prop}(h:p:=by
 exact bi (show jD 0 by decide)):p:=h
theorem Zcr{p:Prop}(h:p:=by
 rw[hT,hb,hm,jw];refine⟨λe he=>by rw[List.mem_singleton.1 he];rfl,⟨ae,ae⟩,rfl,by rw[amf];exact w1,rfl⟩):p:=h
theorem Zcs{p:Prop}(h:p:=by
 split
 ·split
  ·refine nL λ_=>ck ?_;split
   ·exact aN
   ·exact bz
  ·exact aN
 ·exact aN):p:=h
theorem Zct{p:Prop}(h:p:=by
 show (dI.ho.set p true)[p]?=_;rw[List.getElem?_set_self ae]):p:=h
theorem Zcu{p:Prop}(h:p:=by
 rcases get n hn with ⟨_,h⟩|h
 ·have:=hCP.2 _ h;unfold JZ at this;omega
 ·rw[h]at ho;simp [cq]at ho):p:=h
theorem Zcv{p:Prop}(h:p:=by
 rw[hn]at tb;rw[Re.lN,bm,rY]at hS;have kK:=hS.cons.1;exact dv.vu (by rw[kK];rfl) (by rw[kK,tb];rfl) hx hE hD):p:=h
theorem Zcw{p:Prop}(h:p:=by
 have:id≠hh:=by intro he;subst he;simp [oJ,hf]at dA
 exact List.getElem?_set_ne (Ne.symm this)):p:=h
theorem Zcx{p:Prop}(h:p:=by
 refine⟨λe he=>by rw[List.mem_singleton.1 he];rfl,⟨ale _,ae⟩,?_,?_⟩
 ·exact vk 9 0 _
 ·simp):p:=h
theorem Zcy{p:Prop}(h:p:=by
 split
 ·exact bz
 ·exact aN):p:=h
theorem Zcz{p:Prop}(h:p:=by
 constructor <;> simp only[eqGuard,binOp,Sem.run_bind,Sem.run_pure,h,Result.andThen_ok,alh,alk,if_false]):p:=h
theorem ZcA{p:Prop}(h:p:=by
 have:=H.ends;simp only[Task.iS,yp]at this ⊢;exact this):p:=h
theorem ZcB{p:Prop}(h:p:=by
 cases h;exact mv _ _ oo (dead _ rfl rfl)):p:=h
theorem ZcC{p:Prop}(h:p:=by
 cases hx with
 |sl _ a cap sz f h1 h2 h3 h4 h5=>exact⟨_,_,fT hu _ _ _ w xo yo,.d (.sc _ rfl),h⟩):p:=h
theorem ZcD{p:Prop}(h:p:=by
 exact fx (by simp only[execOp];exact r1 k1) k2 k3 k4 k5):p:=h
theorem ZcE{p:Prop}(h:p:=by
 exact⟨ih.1,λe=>⟨Ha _ e (ih.2 e).1,(ih.2 e).2⟩⟩):p:=h
theorem ZcF{p:Prop}(h:p:=by
 rw[alS,Nat.one_mul]at this;omega):p:=h
theorem ZcG{p:Prop}(h:p:=by
 simp [Builtin.append_,run_underlying hu,sizeOf,typeInfo,k1,Builtin.lenOf,vt,nf,k4,Addr.add_lit,bL]):p:=h
theorem ZcH{p:Prop}(h:p:=by
 subst gY;simp only[xc]at h;cases h;exact⟨rfl,rfl⟩):p:=h
theorem ZcI{p:Prop}(h:p:=by
 rw[bm,List.getElem?_append_right cV,List.getElem?_drop,Array.getElem?_toList];congr 1;simp;omega):p:=h
theorem ZcJ{p:Prop}(h:p:=by
 intro id o1 b base h1 h2;obtain⟨p1,q1,_⟩:=get id o1 h1;exact hI.apart id p1 b base q1 h2):p:=h
theorem ZcK{p:Prop}(h:p:=by
 have hb:=hU 6 0 Bs;simp only[alR,alW,VK 6 1 _ _ _ ae,oD,SC,alp];simp [aY,Nf,ak,i64,bV,hb]):p:=h
theorem ZcL{p:Prop}(h:p:=by
 rw[Bz (h:=id)]
 ·simp
 ·intro x hx;obtain⟨d,_,rfl⟩:=List.mem_map.1 hx;rfl):p:=h
theorem ZcM{p:Prop}(h:p:=by
 rw[List.getElem?_set_ne (Ne.symm he),List.getElem?_set_ne (Ne.symm he)];exact aaV.symm):p:=h
theorem ZcN{p:Prop}(h:p:=by
 rw[bm,alx,List.getElem?_append_left ae,List.getElem?_take,be g1,Array.getElem?_toList]):p:=h
theorem ZcO{p:Prop}(h:p:=by
 exact⟨0,false,s1,rfl,no⟩):p:=h
theorem ZcP{p:Prop}(h:p:=by
 have h3:=mN hm f1 f2 f3 hb _ _ _ _ .refl o1 o2 w1;rw[w2]at h3;exact dv.KS i1 lE hX h3):p:=h
theorem ZcQ{p:Prop}(h:p:=by
 rcases hE.own b (Ud b hb) with h'|h'
 ·exact .inl (A0 b h')
 ·exact .inr h'):p:=h
theorem ZcR{p:Prop}(h:p:=by
 refine dk VU ?_;simp only[zX,simprocAttr,zY,px]):p:=h
theorem ZcS{p:Prop}(h:p:=by
 have h3:=ih hm oT hE hD hb _ _ _ _ .refl o1 o2 w1;rw[w2]at h3;exact dv.Pt i1 IB h3):p:=h
theorem ZcT{p:Prop}(h:p:=by
 intro id o hh;rw[List.getElem?_take]at hh;split at hh
 ·exact hh
 ·cases hh):p:=h
theorem ZcU{p:Prop}(h:p:=by
 rw[be he]at hr ⊢;exact hr):p:=h
theorem ZcV{p:Prop}(h:p:=by
 have:arr[0]=arr.getD 0 undef:=by simp [Array.getD,gr]
 rw[this,hv0];rfl):p:=h
theorem ZcW{p:Prop}(h:p:=by
 have:arr[1]=arr.getD 1 undef:=by simp [Array.getD,gr]
 rw[this,hv1];rfl):p:=h
theorem ZcX{p:Prop}(h:p:=by
 split at h2
 ·simp only[iV,alo,decide_eq_true_eq]at h2;exact h2.1
 ·omega):p:=h
theorem ZcY{p:Prop}(h:p:=by
 obtain⟨u,h1,h2,h3⟩:=hc i j x hx;exact⟨u,by simpa using h1,h2,h3.bj hE⟩):p:=h
theorem ZcZ{p:Prop}(h:p:=by
 rw[bm,List.getElem?_append_right cV,List.getElem?_drop];congr 1;simp;omega):p:=h
theorem Zda{p:Prop}(h:p:=by
 simp only[execOp];refine r1 ?_;rw[<- List.map_toArray]at k1;simpa using k1):p:=h
theorem Zdb{p:Prop}(h:p:=by
 exact⟨ae,ae,λh=>ae,λh=>ae,ae,ae,ae⟩):p:=h
theorem Zdc{p:Prop}(h:p:=by
 subst hj;rw[List.getElem?_set_self (List.getElem?_eq_some_iff.1 h0).1,h0]):p:=h
theorem Zdd{p:Prop}(h:p:=by
 subst hj;rw[List.getElem?_set_self (List.getElem?_eq_some_iff.1 h1).1,h1]):p:=h
theorem Zde{p:Prop}(h:p:=by
 cases p with
 |mp id g=>simp only[gJ (h id (by simp [gG]))]
 |_=>rfl):p:=h
theorem Zdf{p:Prop}(h:p:=by
 simp only[zX,simprocAttr,d1];rw[be (all_false hx (by rw[eM,ce ae];rfl))]):p:=h
theorem Zdg{p:Prop}(h:p:=by
 exact⟨_,_,by simp [eqGuard,binOp,Op.shift,St,shV],.d (.sc _ rfl),h⟩):p:=h
theorem Zdh{p:Prop}(h:p:=by
 rw[vn id dA]at h1;rw[Kr id dA]at h2;exact hI.apart id o b base h1 h2 hb):p:=h
theorem Zdi{p:Prop}(h:p:=by
 cases ha with|fu ha=>?_
 simp only[Value.slice.injEq]at Fv;omega):p:=h
theorem Zdj{p:Prop}(h:p:=by
 simp only[zI,simprocAttr,Sm];have:¬l.length<=64:=ae;simp [iV,bV,this]):p:=h
theorem Zdk{p:Prop}(h:p:=by
 rw[kK];unfold aw.pass lG;simp only;rw[bm,be ho,nC (t:=t) a0];exact hh):p:=h
theorem Zdl{p:Prop}(h:p:=by
 exact .inr ⟨aF,λai=>by rw[be aF]⟩):p:=h
theorem Zdm{p:Prop}(h:p:=by
 exact⟨o,by rw[vn id dA];exact ho,ale _,λ_=>⟨rfl,Kr id dA⟩⟩):p:=h
theorem Zdn{p:Prop}(h:p:=by
 have Aq:=hg.ops n hn;rw[lD]at Aq;omega):p:=h
theorem Zdo{p:Prop}(h:p:=by
 have hm:=(Sp o4).resolve_left om;have:1*z<=re.mx*z:=alI ae ae;omega):p:=h
theorem Zdp{p:Prop}(h:p:=by
 cases hr;exact jI.Cr rfl tX (.refl m) (jI.no hM hS.empty hS.ai dL)):p:=h
theorem Zdq{p:Prop}(h:p:=by
 rcases amb hm with hm|rfl
 ·exact h m hm
 ·exact ale _):p:=h
theorem Zdr{p:Prop}(h:p:=by
 rw[bm,alx,List.getElem?_append_left ae,List.getElem?_take,be h1]):p:=h
theorem Zds{p:Prop}(h:p:=by
 simp only[zI,simprocAttr,iD,bD,bV,q6,q7,q8,aH,ak4];all_goals rfl):p:=h
theorem Zdt{p:Prop}(h:p:=by
 rintro b (h|⟨id,o,base,h1,_⟩)
 ·exact h
 ·simp at h1):p:=h
theorem Zdu{p:Prop}(h:p:=by
 exact same (by simp [execOp,resolve,invoke,builtin,k1]) k2 k3):p:=h
theorem Zdv{p:Prop}(h:p:=by
 obtain⟨h1,h2⟩:=zL hc ht m b hb h;exact⟨h1.mono ae,ae⟩):p:=h
theorem Zdw{p:Prop}(h:p:=by
 simp only[zI,simprocAttr,bk,Re.ah,bV,iD,bD,ali];all_goals rfl):p:=h
theorem Zdx{p:Prop}(h:p:=by
 exact vl (λr hr=>h _ _ _ _ hr) (λs r hr=>h _ _ _ _ hr) hr):p:=h
theorem Zdy{p:Prop}(h:p:=by
 exact⟨h1.set.mono ae,by simp only[Mk.set];rw[tt];omega⟩):p:=h
theorem Zdz{p:Prop}(h:p:=by
 obtain⟨d,hd,rfl⟩:=List.mem_map.1 he;simpa using h6 d hd):p:=h
theorem ZdA{p:Prop}(h:p:=by
 simp only[zI,simprocAttr,au re,iD,bD,bV,w1,c];all_goals rfl):p:=h
theorem ZdB{p:Prop}(h:p:=by
 push_cast
 rw[Int.add_mul];omega):p:=h
theorem ZdC{p:Prop}(h:p:=by
 simp only[zJ,simprocAttr,F,hq,hu,Bp,w3];all_goals exact dX):p:=h
theorem ZdD{p:Prop}(h:p:=by
 simp only[Task.iS,yp];exact alj _):p:=h
theorem ZdE{p:Prop}(h:p:=by
 simp only[eX,decide_false,amo];rw[decide_eq_decide];omega):p:=h
theorem ZdF{p:Prop}(h:p:=by
 simp only[zW,simprocAttr,bV,ej];simp [hr,hmn,hk,Re.qb,ej]):p:=h
theorem ZdG{p:Prop}(h:p:=by
 split <;> first|exact bz|exact aN):p:=h
theorem ZdH{p:Prop}(h:p:=by
 unfold wq;split
 ·exact bf
 ·exact cX (cX dj)):p:=h
theorem ZdI{p:Prop}(h:p:=by
 simp only[alb]at h';subst h';exact⟨o,ho,rfl,rfl,rfl⟩):p:=h
theorem ZdJ{p:Prop}(h:p:=by
 simp only[zJ,simprocAttr,F,h3,hlp,h0];all_goals exact dX):p:=h
theorem ZdK{p:Prop}(h:p:=by
 exact ih _ rg ⟨st.ad.set n (p+1),st.cl,st.rd,st.gn⟩):p:=h
theorem ZdL{p:Prop}(h:p:=by
 simp only[alb,alG]at hr;obtain⟨rfl,rfl⟩:=hr;unfold cu dW;refine br func116 ntmps116 results116 3 26328072917139296674479506920917608079723773850137295405767982863 ?_;simp only[zI,simprocAttr,bV,Goal.bP,iD,bD,d4,d1,d2,d3,d5,d6,d7,d8];refine an (bL _) (λv s' hv=>?_);obtain⟨rfl,rfl⟩:=hv;simp only[zQ,simprocAttr,he,ali,alh,d4,d1,d2,d3,d5,d6,d7,d8]
 (refine an (hf _) (λv s' hv=>?_);obtain⟨rfl,rfl⟩:=hv)
 simp only[zQ,simprocAttr,ou,e2,hn];exact ZaB):p:=h
theorem ZdM{p:Prop}(h:p:=by
 simp only[alb,alG]at hr;obtain⟨rfl,rfl⟩:=hr;unfold cu dW;refine br func116 ntmps116 results116 3 26328072917139296674479506920917608079723773850137295405767982863 ?_;simp only[zI,simprocAttr,bV,Goal.bP,iD,bD,d4,d1,d2,d3,d5,d6,d7];refine an (bL _) (λv s' hv=>?_);obtain⟨rfl,rfl⟩:=hv;simp only[zQ,simprocAttr,he,ali,alh,d4,d1,d2,d3,d5,d6,d7]
 (refine an (hf _) (λv s' hv=>?_);obtain⟨rfl,rfl⟩:=hv)
 simp only[zQ,simprocAttr,ou,e2,hn];exact ZaB):p:=h
theorem ZdN{p:Prop}(h:p:=by
 unfold cu dW;refine br func116 ntmps116 results116 3 26328072917139296674479506920917608079723773850137295405767982863 ?_;simp only[zI,simprocAttr,bV,Goal.bP,iD,bD,d4,d1,d2,d3,d5,d6,d7,d8];refine an (bL _) (λv s' hv=>?_);obtain⟨rfl,rfl⟩:=hv;simp only[zQ,simprocAttr,he,ali,alh,d4,d1,d2,d3,d5,d6,d7,d8]
 (refine an (hf _) (λv s' hv=>?_);obtain⟨rfl,rfl⟩:=hv)
 simp only[zQ,simprocAttr,ou,e2];exact ZaB):p:=h
theorem ZdO{p:Prop}(h:p:=by
 unfold cu dW;refine br func116 ntmps116 results116 3 26328072917139296674479506920917608079723773850137295405767982863 ?_;simp only[zI,simprocAttr,bV,Goal.bP,iD,bD,d4,d1,d2,d3,d5,d6,d7];refine an (bL _) (λv s' hv=>?_);obtain⟨rfl,rfl⟩:=hv;simp only[zQ,simprocAttr,he,ali,alh,d4,d1,d2,d3,d5,d6,d7]
 (refine an (hf _) (λv s' hv=>?_);obtain⟨rfl,rfl⟩:=hv)
 simp only[zQ,simprocAttr,ou,e2];exact ZaB):p:=h
theorem ZdP{p:Prop}(h:p:=by
 refine⟨λe he=>by rw[List.mem_singleton.1 he];rfl,?_⟩;refine And.intro (λe he=>absurd he amc) ?_;refine ay (λn e s=>∃i g:Nat,n=re.kids.length-i/\i<=re.kids.length/\e 1=.rf 0 0 0 0/\e 3=.so 1 g 0 (pre++Re.cR (re.kids.take i)).length/\e 4=i64 i/\s=[aL re,F9 g (pre++Re.cR (re.kids.take i))]) ⟨_,_,_,bO.refl,0,0,rfl,ae,rfl,by rw[hp];rfl,rfl,by rw[hp];simp [aL,F9,Re.cR,Re.ah re,iD,bD]⟩ ?_;exact Zae):p:=h
theorem ZdQ{p:Prop}(h:p:=by
 have Z8:mC (Mk.tree d) (((m.next 12).2.next 2).2.next 4).2=if jf .and .i64 (Mk.tree d (((m.next 12).2.next 2).2.next 4).2).2.dH 32=0/\(Mk.tree d (((m.next 12).2.next 2).2.next 4).2).1.sQ=true then (Mk.tree d (((m.next 12).2.next 2).2.next 4).2).2.set else Mk.tree d (((m.next 12).2.next 2).2.next 4).2:=rfl
 rw[hrep,Z8];generalize Mk.tree d (((m.next 12).2.next 2).2.next 4).2=R at *;exact Zao):p:=h
theorem ZdR{p:Prop}(h:p:=by
 refine aW (cr.trans cr.bu cr.bu) ?_;refine cP mix [] [(15,[4],[4]),(17,[5],[5])] ?_;simp only[zQ,simprocAttr,hole,jX,mY,au aJ,Re.ah aJ];refine cP mix [] [] ?_;simp only[zQ,simprocAttr,c2,d3];refine an (h1 _) (λv s' hv=>?_);obtain⟨rfl,rfl⟩:=hv;simp only[zQ,simprocAttr];refine bC [4,5] (by simp [bI,bU,bq.go,bq,cJ]) (an (hc _) (λv s' hv=>?_));exact ZaH):p:=h
theorem ZdS{p:Prop}(h:p:=by
 refine aW (cr.trans cr.bu cr.bu) ?_;refine cP mix [] [(15,[4],[4]),(17,[5],[5])] ?_;simp only[zQ,simprocAttr,hole,jX,mY,au aJ,Re.ah aJ];refine cP mix [] [] ?_;simp only[zQ,simprocAttr,c2,d3];refine bC [4,5] (by simp [bI,bU,bq.go,bq,cJ]) (an (h1 _) (λv s' hv=>?_));obtain⟨rfl,rfl⟩:=hv;simp only[zQ,simprocAttr];refine an (hc _) (λv s' hv=>?_);exact ZaH):p:=h
theorem ZdT{p:Prop}(h:p:=by
 refine aW (cr.trans cr.bu cr.bu) ?_;refine cP mix [] [(15,[4],[4]),(17,[5],[5])] ?_;simp only[zQ,simprocAttr,hole,jX,mY,au aJ,Re.ah aJ];refine cP mix [] [] ?_;simp only[zQ,simprocAttr,c2,c2];refine bC [4,5] (by simp [bI,bU,bq.go,bq,cJ]) (an (hc _) (λv s' hv=>?_));exact ZaH):p:=h
theorem ZdU{p:Prop}(h:p:=by
 refine aW (cr.trans cr.bu cr.bu) ?_;refine cP mix [] [(15,[4],[4]),(17,[5],[5])] ?_;simp only[zQ,simprocAttr,hole,jX,mY,au aJ,Re.ah aJ];refine cP mix [] [] ?_;simp only[zQ,simprocAttr,c2,d3];refine bC [4,5] (by simp [bI,bU,bq.go,bq,cJ]) (an (h1 _) (λv s' hv=>?_));exact ZaH):p:=h
theorem ZdV{p:Prop}(h:p:=by
 refine ay (λn e s=>∃i:Nat,n=re.kids.length-i/\i<=re.kids.length/\e 1=.d (ar aa)/\e 2=.rf 0 0 0 0/\e 7=i64 i/\(∀x∈re.kids.take i,x.comp aa=true)/\s=[aL re])
  ⟨_,_,_,bO.refl,0,rfl,ae,rfl,rfl,rfl,aq,by simp [aL,Re.ah re,iD,bD,o4]⟩ ?_
 exact Zad):p:=h
theorem ZdW{p:Prop}(h:p:=by
 refine aW (cr.trans cr.bu cr.bu) ?_;refine cP mix [] [(15,[4],[4]),(17,[5],[5])] ?_;simp only[zQ,simprocAttr,hole,jX,mY,au aJ,Re.ah aJ];refine cP mix [] [] ?_;simp only[zQ,simprocAttr,c2,d3];refine an (h1 _) (λv s' hv=>?_);exact ZaH):p:=h
theorem ZdX{p:Prop}(h:p:=by
 unfold aP.aQ;refine br func32 ntmps32 results32 3 7342863 ?_;simp only[zX,simprocAttr,zM,cj,hr,ar,U0,gt_iff_lt];exact ZaT):p:=h
theorem ZdY{p:Prop}(h:p:=by
 apply List.ext_getElem?;intro k;by_cases hk:k=id
 ·subst hk;exact ZbL
 ·rw[List.getElem?_set_ne (Ne.symm hk)]):p:=h
theorem ZdZ{p:Prop}(h:p:=by
 rw[be hf];unfold aP.aQ;simp only[zX,simprocAttr,zM,cj,hr,h1,h2,h3,h9,ku,KX,zd,aH,aE,ar,hx,gt_iff_lt,jT];exact ZaT):p:=h
theorem Zea{p:Prop}(h:p:=by
 refine .tu (by simpa using h1) (λi y hy=>?_);exact Zbv):p:=h
theorem Zeb{p:Prop}(h:p:=by
 refine br func33 ntmps33 results33 3 215 ?_;simp only[zX,simprocAttr,zM,cj,hs,alh];exact Zbp):p:=h
theorem Zec{p:Prop}(h:p:=by
 apply List.ext_getElem?;intro j;by_cases hj:j=k
 ·subst hj;exact ZbL
 ·exact Zbu):p:=h
theorem Zed{p:Prop}(h:p:=by
 simp only[zQ,simprocAttr];exact ZaB):p:=h
theorem Zee{p:Prop}(h:p:=by
 apply List.ext_getElem?;intro j;by_cases hj:j=0
 ·exact Zdc
 ·exact Zbu):p:=h
theorem Zef{p:Prop}(h:p:=by
 apply List.ext_getElem?;intro j;by_cases hj:j=1
 ·exact Zdd
 ·exact Zbu):p:=h
theorem Zeg{p:Prop}(h:p:=by
 obtain⟨s',w',k1,k2,k3,k4⟩:=Hu hI (hR.ev x) (hR.ev y) (hR.ev z) h;exact Zbg):p:=h
theorem Zeh{p:Prop}(h:p:=by
 by_cases he:id=hh
 ·subst he;exact ZaM
 ·exact ZcM):p:=h
theorem Zei{p:Prop}(h:p:=by
 cases x with
 |none=>rfl
 |some x =>
  obtain⟨re,k⟩:=x;exact ZbW):p:=h
theorem Zej{p:Prop}(h:p:=by
 split
 ·exact Zcy
 ·exact aN):p:=h
variable{p:Option (Nat×Nat)}{i:Nat}{u:Value}{w:World}{b:Nat}{a:Addr}{id:Nat}{g:Nat}{off:Nat}{base:Nat}{w':World}{P:Program}{t:TypeId}{c:Value}
theorem am {a b c d e f g h:Prop}(i:a)(j:b)(k:c)(l:d)(m:e)(n:f)(o:g)(p:h):a∧b∧c∧d∧e∧f∧g∧h:=⟨i,j,k,l,m,n,o,p⟩
theorem ap.{u}:type_of% @if_neg.{u}:=@if_neg.{u}
theorem be.{u}:type_of% @if_pos.{u}:=@if_pos.{u}
theorem bi:type_of% @decide_eq_true:=@decide_eq_true
theorem ce:type_of% @decide_eq_false:=@decide_eq_false
theorem ak4:type_of% @List.length_map.{0,0}:=@List.length_map.{0,0}
theorem ak5:type_of% @List.cons_append.{0}:=@List.cons_append.{0}
theorem ak6:type_of% @List.nil_append.{0}:=@List.nil_append.{0}
theorem ak7:type_of% @Int.toNat_natCast:=@Int.toNat_natCast
theorem ak8:type_of% @List.map_cons.{0,0}:=@List.map_cons.{0,0}
theorem ak9:type_of% @List.map_nil.{0,0}:=@List.map_nil.{0,0}
theorem ala:type_of% @Option.map_some.{0,0}:=@Option.map_some.{0,0}
theorem alb:type_of% @Option.some.injEq.{0}:=@Option.some.injEq.{0}
theorem alc:type_of% @Nat.zero_add:=@Nat.zero_add
theorem ald:type_of% @List.length_append.{0}:=@List.length_append.{0}
theorem ale:type_of% @Nat.le_refl:=@Nat.le_refl
theorem alf:type_of% @List.length_nil.{0}:=@List.length_nil.{0}
theorem alg:type_of% @List.length_cons.{0}:=@List.length_cons.{0}
theorem alh:type_of% @Bool.not_true:=@Bool.not_true
theorem ali:type_of% @Bool.not_false:=@Bool.not_false
theorem alj:type_of% @Int.le_refl:=@Int.le_refl
theorem alk:type_of% @Bool.false_eq_true:=@Bool.false_eq_true
theorem alm:type_of% @List.mem_singleton.{0}:=@List.mem_singleton.{0}
theorem aln:type_of% @List.take_of_length_le.{0}:=@List.take_of_length_le.{0}
theorem alo:type_of% @Bool.and_eq_true:=@Bool.and_eq_true
theorem alp:type_of% @Bool.and_true:=@Bool.and_true
theorem alq:type_of% @Option.map_eq_some_iff.{0,0}:=@Option.map_eq_some_iff.{0,0}
theorem alr:type_of% @List.take_length.{0}:=@List.take_length.{0}
theorem als:type_of% @List.all_eq_true.{0}:=@List.all_eq_true.{0}
theorem alu:type_of% @List.length_set.{0}:=@List.length_set.{0}
theorem alv:type_of% @Int.natCast_zero:=@Int.natCast_zero
theorem alw:type_of% @Nat.lt_or_ge:=@Nat.lt_or_ge
theorem alx:type_of% @List.append_assoc.{0}:=@List.append_assoc.{0}
theorem aly:type_of% @List.mem_map.{0,0}:=@List.mem_map.{0,0}
theorem alz:type_of% @List.eq_nil_of_length_eq_zero.{0}:=@List.eq_nil_of_length_eq_zero.{0}
theorem alA:type_of% @List.set_cons_zero.{0}:=@List.set_cons_zero.{0}
theorem alB:type_of% @Bool.false_or:=@Bool.false_or
theorem alC:type_of% @List.length_singleton.{0}:=@List.length_singleton.{0}
theorem alD:type_of% @List.set_cons_succ.{0}:=@List.set_cons_succ.{0}
theorem alE:type_of% @Bool.true_or:=@Bool.true_or
theorem alF:type_of% @Nat.mul_le_mul_right:=@Nat.mul_le_mul_right
theorem alG:type_of% @Prod.mk.injEq.{0,0}:=@Prod.mk.injEq.{0,0}
theorem alH:type_of% @List.map_map.{0,0,0}:=@List.map_map.{0,0,0}
theorem alI:type_of% @Int.mul_le_mul_of_nonneg_right:=@Int.mul_le_mul_of_nonneg_right
theorem alJ:type_of% @Bool.false_ne_true:=@Bool.false_ne_true
theorem alK:type_of% @List.map_congr_left.{0,0}:=@List.map_congr_left.{0,0}
theorem alL:type_of% @Nat.add_assoc:=@Nat.add_assoc
theorem alM:type_of% @List.length_take.{0}:=@List.length_take.{0}
theorem alN:type_of% @List.mem_append.{0}:=@List.mem_append.{0}
theorem alO:type_of% @Option.bind_some.{0,0}:=@Option.bind_some.{0,0}
theorem alP:type_of% @Bool.eq_false_iff:=@Bool.eq_false_iff
theorem alQ:type_of% @List.length_replicate.{0}:=@List.length_replicate.{0}
theorem alR:type_of% @List.all_cons.{0}:=@List.all_cons.{0}
theorem alS:type_of% @Nat.add_mul:=@Nat.add_mul
theorem alT:type_of% @List.mem_cons.{0}:=@List.mem_cons.{0}
theorem alU:type_of% @List.mem_of_mem_take.{0}:=@List.mem_of_mem_take.{0}
theorem alV:type_of% @List.drop_zero.{0}:=@List.drop_zero.{0}
theorem alW:type_of% @List.all_nil.{0}:=@List.all_nil.{0}
theorem alX:type_of% @List.length_eq_one_iff.{0}:=@List.length_eq_one_iff.{0}
theorem alY:type_of% @List.getD_cons_succ.{0}:=@List.getD_cons_succ.{0}
theorem alZ:type_of% @Int.lt_irrefl:=@Int.lt_irrefl
theorem al0:type_of% @List.set_append_right.{0}:=@List.set_append_right.{0}
theorem al4:type_of% @List.countP_le_length.{0}:=@List.countP_le_length.{0}
theorem al5:type_of% @Nat.lt_irrefl:=@Nat.lt_irrefl
theorem al6:type_of% @Bool.true_and:=@Bool.true_and
theorem al7:type_of% @Nat.le_trans:=@Nat.le_trans
theorem al8:type_of% @Nat.add_zero:=@Nat.add_zero
theorem al9:type_of% @List.take_succ_cons.{0}:=@List.take_succ_cons.{0}
theorem ama:type_of% @List.getD_cons_zero.{0}:=@List.getD_cons_zero.{0}
theorem amb:type_of% @List.mem_or_eq_of_mem_set.{0}:=@List.mem_or_eq_of_mem_set.{0}
theorem amc:type_of% @List.not_mem_nil.{0}:=@List.not_mem_nil.{0}
theorem amd:type_of% @Go.RowKit.Below.heap_alloc:=@Go.RowKit.Below.heap_alloc
theorem ame:type_of% @Nat.sub_self:=@Nat.sub_self
theorem amf:type_of% @Int.natCast_add:=@Int.natCast_add
theorem amg:type_of% @Int.eq_ofNat_of_zero_le:=@Int.eq_ofNat_of_zero_le
theorem amh:type_of% @Bool.and_self:=@Bool.and_self
theorem ami:type_of% @List.mapM_cons.{0,0,0}:=@List.mapM_cons.{0,0,0}
theorem amj:type_of% @List.take_zero.{0}:=@List.take_zero.{0}
theorem amk:type_of% @Option.getD_some.{0}:=@Option.getD_some.{0}
theorem aml:type_of% @List.foldl_cons.{0,0}:=@List.foldl_cons.{0,0}
theorem amm:type_of% @List.all_append.{0}:=@List.all_append.{0}
theorem amn:type_of% @Int.mul_nonneg:=@Int.mul_nonneg
theorem amo:type_of% @Bool.or_false:=@Bool.or_false
theorem amp:type_of% @List.map_append.{0,0}:=@List.map_append.{0,0}
theorem amq:type_of% @Bool.eq_false_or_eq_true:=@Bool.eq_false_or_eq_true
theorem amr:type_of% @Nat.lt_of_lt_of_le:=@Nat.lt_of_lt_of_le
theorem ams:type_of% @List.map_set.{0,0}:=@List.map_set.{0,0}
theorem amt:type_of% @Int.natCast_nonneg:=@Int.natCast_nonneg
theorem amu:type_of% @Array.length_toList.{0}:=@Array.length_toList.{0}
theorem amv:type_of% @List.append_nil.{0}:=@List.append_nil.{0}
theorem amw:type_of% @List.take_append_drop.{0}:=@List.take_append_drop.{0}
theorem amx:type_of% @Option.some.inj.{0}:=@Option.some.inj.{0}
theorem amy:type_of% @Nat.le_max_right:=@Nat.le_max_right
theorem amz:type_of% @List.all_eq_false.{0}:=@List.all_eq_false.{0}
theorem amA:type_of% @Nat.le_max_left:=@Nat.le_max_left
theorem ae{p:Prop}(h:p:=by omega):p:=h
theorem aq{p:Prop}(h:p:=by simp):p:=h
theorem tY{p:Prop}(h:p:=by simp [ak,ak.go,au,i64,bV,fY]):p:=h
theorem aF{p:Prop}(h:p:=by decide):p:=h
theorem eh{p:Prop}(h:p:=by rfl):p:=h
theorem cV{p:Prop}(h:p:=by simp;omega):p:=h
theorem tx{p:Prop}(h:p:=by first|omega|exact⟨by omega,by omega⟩|(simp;done)):p:=h
theorem oE{p:Prop}(h:p:=by simp only;omega):p:=h
theorem dX{p:Prop}(h:p:=by first|exact⟨rfl,rfl⟩|exact⟨rfl,trivial⟩|rfl|trivial|(rw[au];rfl)):p:=h
theorem bm.{u}{α:Sort u}{c:Prop}[Decidable c]{a b:α}(h:¬c:=by omega):ite c a b=b:=ap h
theorem rY.{u}{α:Sort u}{c:Prop}[Decidable c]{a b:α}(h:c:=by omega):ite c a b=a:=be h
theorem cb{α:Type}{l:List α}(h:i<l.length:=by omega):∃k,l[i]?=some k:=⟨_,List.getElem?_eq_getElem h⟩
inductive D where
 |sc (v:Value)
 |sl (aA:List (List D))
 |el (cs:List D)
 |cl (fn:Fn) (first aj:List D)
 |ub
inductive V where
 |d (x:D)
 |ag (cs:List V)
 |fu (aA:List (List D))
 |so (id g lo n:Nat)
 |rf (id g i off:Nat)
 |pp (id g i off b a:Nat)
 |mp (id g:Nat)
 |bx (v:V)
 |cap (lo hi:Nat) (v:V)
 |cl (fn:Fn) (first aj:List V)
 |tu (vs:List V)
 |un
 |any
variable{x:V}{cs:List V}{K:V->Prop}
structure Obj where
 g:Nat
 live:Bool
 sz:Nat
 aA:List (List V)
variable{o:Obj}{o':Obj}{s:List Obj}
structure Gh where
 map:Nat->Option (Nat×Nat)
 base:Nat->Prop
variable{σ:Gh}
instance:CoeFun Gh (λ_=>Nat->Option (Nat×Nat)):=⟨Gh.map⟩
def Own (σ:Gh) (s:List Obj) (b:Nat):Prop:=σ.base b\/∃id o base,s[id]?=some o/\o.live=true/\σ id=some (b,base)
inductive di (O:Nat->Prop) (w:World):D->Value->Prop
 |sc (v:Value):v.oneCell'=true->di O w (.sc v) v
 |nil:di O w (.sl []) (.slice none 0 0)
 |sl (aA:List (List D)) (a:Addr) (cap sz:Nat) (f:Nat->Nat->Value):aA.length<=cap->(aA≠[]->a.spot=none)->(∀e∈aA,e.length=sz) ->
   (∀i j x,(aA[i]?.bind (·[j]?))=some x->w.cell? ⟨a.block,a.off+i*sz+j,none⟩=some (f i j)/\¬O a.block) ->
   (∀i j x,(aA[i]?.bind (·[j]?))=some x->di O w x (f i j))->di O w (.sl aA) (.slice (some a) aA.length cap)
 |el (cs:List D) (a:Addr) (f:Nat->Value):a.spot=none ->
   (∀j x,cs[j]?=some x->w.cell? ⟨a.block,a.off+j,none⟩=some (f j)/\¬O a.block) ->
   (∀j x,cs[j]?=some x->di O w x (f j))->di O w (.el cs) (.pointer (some a))
 |cl {fn:Fn}{first aj:List D}{f' c':Array Value}:f'.size=first.length->(∀i x,first[i]?=some x->di O w x (f'.getD i undef)) ->
   c'.size=aj.length->(∀i x,aj[i]?=some x->di O w x (c'.getD i undef))->di O w (.cl fn first aj) (.func fn f' c')
 |ub (b:Bool):di O w .ub (.bool b)
def AK (σ:Gh) (w:World) (id:Nat) (o:Obj) (lo n:Nat) (u:Value):Prop :=
 (σ id=none/\(∃a,u=.slice a 0 0)/\lo=0/\n=0) \/
 ∃b base cap E arr,σ id=some (b,base)/\w.heap[b]?=some (.cells arr E (0,0))/\u=.slice (some ⟨b,base+lo*o.sz,none⟩) n cap/\n<=cap/\base+(lo+cap)*o.sz<=arr.size
def SlN (n:Nat) (u:Value):Prop:=∃a c,u=.slice a n c
theorem SlN.one {n:Nat} (h:SlN n u):u.oneCell'=true:=by obtain⟨_,_,rfl⟩:=h;rfl
def IA (w:World) (b:Nat):Prop:=∃arr E,w.heap[b]?=some (.cells arr E (0,0))
def Ss (w:World) (b:Nat):Prop:=∃es c,w.heap[b]?=some (.map es c)
def Va (lo hi:Nat) (u:Value):Prop:=∀a n c,u=.slice a n c->lo<=c/\c<=hi
inductive aD (σ:Gh) (s:List Obj) (w:World):V->Value->Prop
 |d {x:D}{u:Value}:di (Own σ s) w x u->aD σ s w (.d x) u
 |ag {cs:List V}{arr:Array Value}:arr.size=cs.length->(∀i x,cs[i]?=some x->(arr.getD i undef).oneCell'=true) ->
   (∀i x,cs[i]?=some x->aD σ s w x (arr.getD i undef))->aD σ s w (.ag cs) (.agg arr)
 |tu {cs:List V}{arr:Array Value}:arr.size=cs.length->(∀i x,cs[i]?=some x->aD σ s w x (arr.getD i undef))->aD σ s w (.tu cs) (.tuple arr)
 |fu {aA:List (List D)}{a:Option Addr}:di (Own σ s) w (.sl aA) (.slice a aA.length aA.length)->aD σ s w (.fu aA) (.slice a aA.length aA.length)
 |so {id g lo n:Nat}{u:Value} (o:Obj):s[id]?=some o->g<=o.g->SlN n u->(o.g=g->AK σ w id o lo n u)->aD σ s w (.so id g lo n) u
 |rf {id g i off:Nat}{u:Value} (o:Obj):s[id]?=some o->g<=o.g->u.oneCell'=true->(o.g=g->∃b base,σ id=some (b,base)/\IA w b/\u=.pointer (some ⟨b,base+i*o.sz+off,none⟩)) ->
   aD σ s w (.rf id g i off) u
 |pp {id g i off b a:Nat} (o:Obj):s[id]?=some o->g<=o.g->(o.g=g->∃base,σ id=some (b,base)/\IA w b/\a=base+i*o.sz+off)->aD σ s w (.pp id g i off b a) (.pointer (some ⟨b,a,none⟩))
 |mp {id g:Nat}{u:Value} (o:Obj):s[id]?=some o->g<=o.g->u.oneCell'=true->(o.g=g->∃b,σ id=some (b,0)/\Ss w b/\u=.map (some b))->aD σ s w (.mp id g) u
 |bx {v:V}{a:Addr}{u:Value}:a.spot=none->w.cell? ⟨a.block,a.off,none⟩=some u->¬Own σ s a.block->u.oneCell'=true->aD σ s w v u->aD σ s w (.bx v) (.pointer (some a))
 |cap {lo hi:Nat}{v:V}{u:Value}:Va lo hi u->aD σ s w v u->aD σ s w (.cap lo hi v) u
 |cl {fn:Fn}{first aj:List V}{f' c':Array Value}:f'.size=first.length->(∀i x,first[i]?=some x->aD σ s w x (f'.getD i undef)) ->
   c'.size=aj.length->(∀i x,aj[i]?=some x->aD σ s w x (c'.getD i undef))->aD σ s w (.cl fn first aj) (.func fn f' c')
 |un:aD σ s w .un undef
 |any {u:Value}:aD σ s w .any u
structure aK (σ:Gh) (s:List Obj) (w:World) (σ':Gh) (s':List Obj) (w':World):Prop where
 os:w'.os=w.os
 tape:w'.tape=w.tape
 output:w'.output=w.output
 size:w.heap.size<=w'.heap.size
 bp:∀b,b<w.heap.size->¬Own σ s b->w'.heap[b]?=w.heap[b]?
 shape:∀b arr E,Own σ s b->w.heap[b]?=some (.cells arr E (0,0))->∃cN,w'.heap[b]?=some (.cells cN E (0,0))/\cN.size=arr.size
 qY:∀b,Own σ s b->Ss w b->Ss w' b
 own:∀b,Own σ' s' b->Own σ s b\/w.heap.size<=b
 bw:∀id o,s[id]?=some o->∃o',s'[id]?=some o'/\o.g<=o'.g/\(o'.g=o.g->o'.sz=o.sz/\σ' id=σ id)
 base:σ'.base=σ.base
 gk:∀b,b<w.heap.size->σ.base b->w'.heap[b]?=w.heap[b]?
theorem aK.refl (σ:Gh) (s:List Obj) (w:World):aK σ s w σ s w :=
 ⟨rfl,rfl,rfl,ale _,λ_ _ _=>rfl,λ_ arr _ _ h=>⟨arr,h,rfl⟩,λ_ _ h=>h,λ_ h=>.inl h,λ_ o h=>⟨o,h,ale _,λ_=>⟨rfl,rfl⟩⟩,rfl,λ_ _ _=>rfl⟩
theorem eo{o:Go.Obj} (h:w.heap[b]?=some o):b<w.heap.size:=by
 rcases alw b w.heap.size with h'|h'
 ·exact h'
 ·simp [Array.getElem?_eq_none h']at h
theorem aK.trans {σ s w σ' s' w' σ'' Cx RL} (h:aK σ s w σ' s' w') (k:aK σ' s' w' σ'' Cx RL):aK σ s w σ'' Cx RL:=by
 refine⟨k.os.trans h.os,k.tape.trans h.tape,k.output.trans h.output,al7 h.size k.size,?_,?_,?_,?_,?_,k.base.trans h.base,
  λb hb ho=>(k.gk b (amr hb h.size) (by rw[h.base];exact ho)).trans (h.gk b hb ho)⟩
 ·intro b hb ho;rw[k.bp b (amr hb h.size) (λh'=>(h.own b h').elim ho (λYP=>ae)),h.bp b hb ho]
 ·intro b arr E ho hh;obtain⟨cN,h1,h2⟩:=h.shape b arr E ho hh;by_cases jb:Own σ' s' b
  ·obtain⟨acs,h3,h4⟩:=k.shape b cN E jb h1;exact⟨acs,h3,ae⟩
  ·exact⟨cN,by rw[k.bp b (eo h1) jb];exact h1,h2⟩
 ·intro b ho hh;obtain⟨es,c,h1⟩:=h.qY b ho hh;by_cases jb:Own σ' s' b
  ·exact k.qY b jb ⟨es,c,h1⟩
  ·exact⟨es,c,by rw[k.bp b (eo h1) jb];exact h1⟩
 ·intro b hb;rcases k.own b hb with h'|h'
  ·exact h.own b h'
  ·exact .inr (al7 h.size h')
 ·intro id o ho;obtain⟨o',h1,h2,h3⟩:=h.bw id o ho;obtain⟨o'',k1,k2,k3⟩:=k.bw id o' h1;refine⟨o'',k1,al7 h2 k2,λhe=>?_⟩;have e1:o'.g=o.g:=ae;have e2:o''.g=o'.g:=ae;exact⟨(k3 e2).1.trans (h3 e1).1,(k3 e2).2.trans (h3 e1).2⟩
theorem aK.cell {σ s w σ' s' w'} (h:aK σ s w σ' s' w') (hc:w.cell? a=some u) (ho:¬Own σ s a.block) :
  w'.cell? a=some u/\¬Own σ' s' a.block:=by
 have hb:=World.block_lt_of_cell? _ _ hc;refine⟨?_,λh'=>?_⟩
 ·rw[World.cell?_of_block (w:=w) (h.bp a.block hb ho)];exact hc
 ·rcases h.own _ h' with h'|h'
  ·exact ho h'
  ·omega
theorem di.bj {σ s w σ' s' w'} (h:aK σ s w σ' s' w') {x:D} (hr:di (Own σ s) w x u):di (Own σ' s') w' x u:=by
 induction hr with
 |sc v hv=>exact .sc v hv
 |nil=>exact .nil
 |sl aA a cap sz f h1 h2 h3 h4 _ ih=>exact .sl aA a cap sz f h1 h2 h3 (λi j x hx=>h.cell (a:=⟨a.block,_,none⟩) (h4 i j x hx).1 (h4 i j x hx).2) ih
 |el cs a f h1 h2 _ ih=>exact .el cs a f h1 (λj x hx=>h.cell (a:=⟨a.block,_,none⟩) (h2 j x hx).1 (h2 j x hx).2) ih
 |cl h1 _ h3 _ As mN=>exact .cl h1 As h3 mN
 |ub b=>exact .ub b
theorem di.own {O O':Nat->Prop}{x:D} (h:∀b,O' b->O b) (hr:di O w x u):di O' w x u:=by
 induction hr with
 |sc v hv=>exact .sc v hv
 |nil=>exact .nil
 |sl aA a cap sz f h1 h2 h3 h4 _ ih=>exact .sl aA a cap sz f h1 h2 h3 (λi j x hx=>⟨(h4 i j x hx).1,λh'=>(h4 i j x hx).2 (h _ h')⟩) ih
 |el cs a f h1 h2 _ ih=>exact .el cs a f h1 (λj x hx=>⟨(h2 j x hx).1,λh'=>(h2 j x hx).2 (h _ h')⟩) ih
 |cl h1 _ h3 _ As mN=>exact .cl h1 As h3 mN
 |ub b=>exact .ub b
theorem AK.bj {σ s w σ' s' w'} (h:aK σ s w σ' s' w'){lo n:Nat} (gr:o'.sz=o.sz) (hs:σ' id=σ id)
  (hk:AK σ w id o lo n u):AK σ' w' id o' lo n u:=by
 rcases hk with ⟨h1,h2,h3,h4⟩|⟨b,base,cap,E,arr,h1,h2,h3,h4,h5⟩
 ·exact .inl ⟨hs.trans h1,h2,h3,h4⟩
 ·by_cases hO:Own σ s b
  ·obtain⟨cN,k1,k2⟩:=h.shape b arr E hO h2;exact .inr ⟨b,base,cap,E,cN,hs.trans h1,k1,by rw[gr];exact h3,h4,by rw[gr,k2];exact h5⟩
  ·exact .inr ⟨b,base,cap,E,arr,hs.trans h1,by rw[h.bp b (eo h2) hO];exact h2,by rw[gr];exact h3,h4,by rw[gr];exact h5⟩
theorem IA.bj {σ s w σ' s' w'} (h:aK σ s w σ' s' w') (hc:IA w b):IA w' b:=by
 obtain⟨arr,E,hh⟩:=hc;by_cases hO:Own σ s b
 ·obtain⟨cN,k1,_⟩:=h.shape b arr E hO hh;exact⟨cN,E,k1⟩
 ·exact⟨arr,E,by rw[h.bp b (eo hh) hO];exact hh⟩
theorem Ss.bj {σ s w σ' s' w'} (h:aK σ s w σ' s' w') (hc:Ss w b):Ss w' b:=by
 by_cases hO:Own σ s b
 ·exact h.qY b hO hc
 ·obtain⟨es,c,hh⟩:=hc;exact⟨es,c,by rw[h.bp b (eo hh) hO];exact hh⟩
theorem IA.notM (h:IA w b) (k:Ss w b):False:=by obtain⟨arr,E,h⟩:=h;obtain⟨es,c,k⟩:=k;rw[h]at k;cases k
theorem aD.bj {σ s w σ' s' w'} (h:aK σ s w σ' s' w') (hr:aD σ s w x u):aD σ' s' w' x u:=by
 induction hr with
 |d hx=>exact .d (hx.bj h)
 |ag h1 h2 _ ih=>exact .ag h1 h2 ih
 |tu h1 _ ih=>exact .tu h1 ih
 |fu hx=>exact .fu (hx.bj h)
 |so o ho hg hu hk =>
  obtain⟨o',h1,h2,h3⟩:=h.bw _ o ho;exact .so o' h1 (al7 hg h2) hu λhe=>have e:o'.g=o.g:=by omega
   AK.bj h (h3 e).1 (h3 e).2 (hk ae)
 |rf o ho hg hu hk =>
  obtain⟨o',h1,h2,h3⟩:=h.bw _ o ho;refine .rf o' h1 (al7 hg h2) hu λhe=>?_;have e:o'.g=o.g:=ae;obtain⟨b,base,k1,kc,k2⟩:=hk ae;exact⟨b,base,(h3 e).2.trans k1,kc.bj h,by rw[(h3 e).1];exact k2⟩
 |pp o ho hg hk =>
  obtain⟨o',h1,h2,h3⟩:=h.bw _ o ho;refine .pp o' h1 (al7 hg h2) λhe=>?_;have e:o'.g=o.g:=ae;obtain⟨base,k1,kc,k2⟩:=hk ae;exact⟨base,(h3 e).2.trans k1,kc.bj h,by rw[(h3 e).1];exact k2⟩
 |mp o ho hg hu hk =>
  obtain⟨o',h1,h2,h3⟩:=h.bw _ o ho;refine .mp o' h1 (al7 hg h2) hu λhe=>?_;have e:o'.g=o.g:=ae;obtain⟨b,k1,kc,k2⟩:=hk ae;exact⟨b,(h3 e).2.trans k1,kc.bj h,k2⟩
 |cap h1 _ ih=>exact .cap h1 ih
 |bx h1 h2 h3 hu _ ih =>
  obtain⟨k1,k2⟩:=h.cell h2 h3;exact .bx h1 k1 k2 hu ih
 |cl h1 _ h3 _ As mN=>exact .cl h1 As h3 mN
 |un=>exact .un
 |any=>exact .any
theorem aD.YV {σ s w}{a:Nat} (h:aD σ s w (.pp id g i off b a) u):aD σ s w (.rf id g i off) u:=by
 cases h with
 |pp o ho hg hk=>exact .rf o ho hg rfl λhe=>let ⟨base,h1,h2,h3⟩:=hk he;⟨b,base,h1,h2,by rw[h3]⟩
theorem aD.DG {σ s w}{a:Nat} (h:aD σ s w (.pp id g i off b a) u):u=.pointer (some ⟨b,a,none⟩):=by
 cases h with
 |pp o ho hg hk=>rfl
theorem aD.acr {σ s w} (ho:s[id]?=some o) (hg:o.g=g) (h:aD σ s w (.rf id g i off) u):∃b a,aD σ s w (.pp id g i off b a) u:=by
 cases h with
 |rf o' jb D4 hu hk =>
  rw[ho]at jb;cases jb;obtain⟨b,base,h1,h2,rfl⟩:=hk hg;exact⟨b,_,.pp o ho D4 λ_=>⟨base,h1,h2,rfl⟩⟩
def fX (es:Array MapEntry):List (List V):=es.toList.map λe=>[V.d (.sc e.key),V.d (.sc e.val)]
def wW (w:World) (p:Option (Nat×Nat)) (o:Obj):Prop :=
 (p=none/\o.aA=[])\/∃b es c,p=some (b,0)/\w.heap[b]?=some (.map es c)/\o.aA=fX es
theorem wW.CH (h:wW w p o) (hp:p=some (b,base)) (hc:IA w b):False:=by
 rcases h with ⟨h,_⟩|⟨b',es,c,h,hh,_⟩
 ·rw[hp]at h;cases h
 ·rw[hp]at h;cases h;exact hc.notM ⟨es,c,hh⟩
theorem wW.congr (h:wW w p o') (he:o.aA=o'.aA):wW w p o:=by unfold wW at *;rw[he];exact h
theorem wW.JH (h:wW w p o) (hp:p=none):o.aA=[]:=by
 rcases h with ⟨_,h⟩|⟨b',es,c,h,_⟩
 ·exact h
 ·rw[hp]at h;cases h
structure Inv (σ:Gh) (s:List Obj) (w:World):Prop where
 content:∀id o,s[id]?=some o->wW w (σ id) o\/∃b base arr E,σ id=some (b,base)/\w.heap[b]?=some (.cells arr E (0,0)) /\
  (∀e∈o.aA,e.length=o.sz)/\base+o.aA.length*o.sz<=arr.size /\
  ∀i j x,(o.aA[i]?.bind (·[j]?))=some x->∃u,arr[base+i*o.sz+j]?=some u/\u.oneCell'=true/\aD σ s w x u
 inj:∀id lL o o' b base bT,s[id]?=some o->s[lL]?=some o'->o.live=true->σ id=some (b,base)->σ lL=some (b,bT)->id=lL
 low:∀b,σ.base b->b<w.heap.size
 apart:∀id o b base,s[id]?=some o->σ id=some (b,base)->¬σ.base b
def pM (σ:Gh) (id:Nat) (p:Option (Nat×Nat)):Gh:=⟨λk=>if k=id then p else σ k,σ.base⟩
theorem cy (σ:Gh) (id:Nat) (p:Option (Nat×Nat)):pM σ id p id=p:=by simp [pM]
theorem dF (σ:Gh) {k:Nat} (p:Option (Nat×Nat)) (h:k≠id):pM σ id p k=σ k:=by simp [pM,h]
def xm (σ:Gh) (s:List Obj) (w:World) (p:Option (Nat×Nat)) (o:Obj):Prop :=
 wW w p o\/∃b base arr E,p=some (b,base)/\w.heap[b]?=some (.cells arr E (0,0)) /\
  (∀e∈o.aA,e.length=o.sz)/\base+o.aA.length*o.sz<=arr.size /\
  ∀i j x,(o.aA[i]?.bind (·[j]?))=some x->∃u,arr[base+i*o.sz+j]?=some u/\u.oneCell'=true/\aD σ s w x u
theorem xm.bj {σ s w σ' s' w' p o} (h:aK σ s w σ' s' w') (hb:∀b base,p=some (b,base)->w'.heap[b]?=w.heap[b]?) (hh:xm σ s w p o):xm σ' s' w' p o:=by
 rcases hh with h1|⟨b,base,arr,E,h1,h2,h3,h4,h5⟩
 ·refine .inl ?_;rcases h1 with h1|⟨b,es,c,h1,h2,h3⟩
  ·exact .inl h1
  ·exact .inr ⟨b,es,c,h1,(hb b 0 h1).trans h2,h3⟩
 ·exact .inr ⟨b,base,arr,E,h1,(hb b base h1).trans h2,h3,h4,λi j x hx=>let ⟨u,k1,k2,k3⟩:=h5 i j x hx;⟨u,k1,k2,k3.bj h⟩⟩
theorem Inv.lt {σ s w} (hI:Inv σ s w) {id o b base} (ho:s[id]?=some o) (hs:σ id=some (b,base)):b<w.heap.size:=by
 rcases hI.content id o ho with (⟨h1,_⟩|⟨b',es,c,h1,h2,_⟩)|⟨b',bT,arr,E,h1,h2,_⟩
 ·rw[hs]at h1;cases h1
 ·rw[hs]at h1;cases h1;exact eo h2
 ·rw[hs]at h1;cases h1;exact eo h2
theorem oM (hI:Inv σ s w) (ho:s[id]?=some o) (hl:o.live=true)
  (QM:w'.os=w.os) (KF:w'.tape=w.tape) (AO:w'.output=w.output) (jS:w.heap.size<=w'.heap.size)
  (hkeep:∀b,b<w.heap.size->(∀base,σ id≠some (b,base))->w'.heap[b]?=w.heap[b]?)
  (hshape:∀b base arr E,σ id=some (b,base)->w.heap[b]?=some (.cells arr E (0,0))->∃cN,w'.heap[b]?=some (.cells cN E (0,0))/\cN.size=arr.size)
  (hshapeM:∀b base,σ id=some (b,base)->Ss w b->Ss w' b)
  (hg:o.g<=o'.g) (D4:o'.g=o.g->o'.sz=o.sz/\p=σ id)
  (hp:∀b base,p=some (b,base)->(∃Dv,σ id=some (b,Dv))\/w.heap.size<=b)
  (hc:aK σ s w (pM σ id p) (s.set id o') w'->xm (pM σ id p) (s.set id o') w' p o') :
  aK σ s w (pM σ id p) (s.set id o') w'/\Inv (pM σ id p) (s.set id o') w':=by
 have aE:id<s.length:=(List.getElem?_eq_some_iff.1 ho).1;have Ce:(s.set id o')[id]?=some o':=by simp [aE]
 have n6:∀k,k≠id->(s.set id o')[k]?=s[k]?:=λk hk=>by rw[List.getElem?_set_ne (Ne.symm hk)]
 have afJ:∀k ok b base,k≠id->s[k]?=some ok->σ k=some (b,base)->w'.heap[b]?=w.heap[b]?:=by intro k ok b base hk jw hs;exact hkeep b (hI.lt jw hs) λbT he=>hk (hI.inj id k o ok b bT base ho jw hl he hs).symm
 have hE:aK σ s w (pM σ id p) (s.set id o') w':=by
  refine⟨QM,KF,AO,jS,?_,?_,?_,?_,?_,rfl,λb hb hf=>hkeep b hb λbase he=>hI.apart id o b base ho he hf⟩
  ·intro b hb iL;exact hkeep b hb λbase he=>iL (.inr ⟨id,o,base,ho,hl,he⟩)
  ·intro b arr E hO hh;by_cases he:∃base,σ id=some (b,base)
   ·obtain⟨base,he⟩:=he;exact hshape b base arr E he hh
   ·exact⟨arr,by rw[hkeep b (eo hh) (λbase h'=>he ⟨base,h'⟩)];exact hh,rfl⟩
  ·intro b hO hm;by_cases he:∃base,σ id=some (b,base)
   ·obtain⟨base,he⟩:=he;exact hshapeM b base he hm
   ·obtain⟨es,c,hh⟩:=hm;exact⟨es,c,by rw[hkeep b (eo hh) (λbase h'=>he ⟨base,h'⟩)];exact hh⟩
  ·rintro b (hf|⟨k,ok,base,sY,DH,Ep⟩)
   ·exact .inl (.inl hf)
   by_cases hk:k=id
   ·subst hk;rw[cy]at Ep;rcases hp b base Ep with ⟨Dv,h'⟩|h'
    ·exact .inl (.inr ⟨k,o,Dv,ho,hl,h'⟩)
    ·exact .inr h'
   ·rw[dF _ _ hk]at Ep;rw[n6 k hk]at sY;exact .inl (.inr ⟨k,ok,base,sY,DH,Ep⟩)
  ·intro k ok jw;by_cases hk:k=id
   ·subst hk;rw[ho]at jw;cases jw;exact⟨o',Ce,hg,λhe=>⟨(D4 he).1,by rw[cy];exact(D4 he).2⟩⟩
   ·exact⟨ok,by rw[n6 k hk];exact jw,ale _,λ_=>⟨rfl,dF _ _ hk⟩⟩
 refine⟨hE,⟨?_,?_,λb hb=>amr (hI.low b hb) jS,?_⟩⟩
 rotate_left 2
 ·intro k ok b base h1 h3 hf;by_cases hk:k=id
  ·subst hk;rw[cy]at h3;rcases hp b base h3 with ⟨Dv,h'⟩|h'
   ·exact hI.apart k o b Dv ho h' hf
   ·have:=hI.low b hf;omega
  ·rw[dF _ _ hk]at h3;rw[n6 k hk]at h1;exact hI.apart k ok b base h1 h3 hf
 ·intro k ok jw;by_cases hk:k=id
  ·subst hk;rw[Ce]at jw;cases jw;rw[cy];exact hc hE
  ·rw[n6 k hk]at jw;rw[dF _ _ hk];exact xm.bj (p:=σ k) hE (λb base h=>afJ k ok b base hk jw h) (hI.content k ok jw)
 ·intro k k' ok ok' b base bT h1 h2 h3 h4 h5;by_cases hk:k=id <;> by_cases vD:k'=id
  ·rw[hk,vD]
  ·subst hk;rw[cy]at h4;rw[dF _ _ vD]at h5;rw[n6 k' vD]at h2;rcases hp b base h4 with ⟨Dv,h'⟩|h'
   ·exact hI.inj _ _ _ _ _ _ _ ho h2 hl h' h5
   ·have:=hI.lt h2 h5;omega
  ·subst vD;rw[cy]at h5;rw[dF _ _ hk]at h4;rw[n6 k hk]at h1;rcases hp b bT h5 with ⟨Dv,h'⟩|h'
   ·exact hI.inj _ _ _ _ _ _ _ h1 ho h3 h4 h'
   ·have:=hI.lt h1 h4;omega
  ·rw[dF _ _ hk]at h4;rw[dF _ _ vD]at h5;rw[n6 k hk]at h1;rw[n6 k' vD]at h2;exact hI.inj _ _ _ _ _ _ _ h1 h2 h3 h4 h5
theorem pP (hI:Inv σ s w)
  (QM:w'.os=w.os) (KF:w'.tape=w.tape) (AO:w'.output=w.output) (jS:w.heap.size<=w'.heap.size)
  (hkeep:∀b,b<w.heap.size->w'.heap[b]?=w.heap[b]?)
  (hp:∀b base,p=some (b,base)->w.heap.size<=b)
  (hc:aK σ s w (pM σ s.length p) (s++[o']) w'->xm (pM σ s.length p) (s++[o']) w' p o') :
  aK σ s w (pM σ s.length p) (s++[o']) w'/\Inv (pM σ s.length p) (s++[o']) w':=by
 have Ce:(s++[o'])[s.length]?=some o':=aq;have n6:∀k ok,k≠s.length->(s++[o'])[k]?=some ok->s[k]?=some ok:=by
  intro k ok hk h;rw[List.getElem?_append]at h;split at h
  ·exact h
  ·rename_i h';have:k-s.length≠0:=ae;cases hh:k-s.length with
   |zero=>omega
   |succ n=>rw[hh]at h;simp at h
 have aE:∀k ok,s[k]?=some ok->k≠s.length:=λk ok h=>by have:=(List.getElem?_eq_some_iff.1 h).1;omega
 have hE:aK σ s w (pM σ s.length p) (s++[o']) w':=by
  refine⟨QM,KF,AO,jS,λb hb _=>hkeep b hb,λb arr E _ hh=>⟨arr,by rw[hkeep b (eo hh)];exact hh,rfl⟩,λb _ hm=>let ⟨es,c,hh⟩:=hm;⟨es,c,by rw[hkeep b (eo hh)];exact hh⟩,?_,?_,rfl,λb hb _=>hkeep b hb⟩
  ·rintro b (hf|⟨k,ok,base,sY,DH,Ep⟩)
   ·exact .inl (.inl hf)
   by_cases hk:k=s.length
   ·subst hk;rw[cy]at Ep;exact .inr (hp b base Ep)
   ·rw[dF _ _ hk]at Ep;exact .inl (.inr ⟨k,ok,base,n6 k ok hk sY,DH,Ep⟩)
  ·intro k ok jw;exact⟨ok,by rw[List.getElem?_append_left (List.getElem?_eq_some_iff.1 jw).1];exact jw,ale _,λ_=>⟨rfl,dF _ _ (aE k ok jw)⟩⟩
 refine⟨hE,⟨?_,?_,λb hb=>amr (hI.low b hb) jS,?_⟩⟩
 rotate_left 2
 ·intro k ok b base h1 h3 hf;by_cases hk:k=s.length
  ·subst hk;rw[cy]at h3;have:=hp b base h3;have:=hI.low b hf;omega
  ·rw[dF _ _ hk]at h3;exact hI.apart k ok b base (n6 k ok hk h1) h3 hf
 ·intro k ok jw;by_cases hk:k=s.length
  ·subst hk;rw[Ce]at jw;cases jw;rw[cy];exact hc hE
  ·have h':=n6 k ok hk jw;rw[dF _ _ hk];exact xm.bj (p:=σ k) hE (λb base h=>hkeep b (hI.lt h' h)) (hI.content k ok h')
 ·intro k k' ok ok' b base bT h1 h2 h3 h4 h5;by_cases hk:k=s.length <;> by_cases vD:k'=s.length
  ·rw[hk,vD]
  ·subst hk;rw[cy]at h4;rw[dF _ _ vD]at h5;have:=hI.lt (n6 k' ok' vD h2) h5;have:=hp b base h4;omega
  ·subst vD;rw[cy]at h5;rw[dF _ _ hk]at h4;have:=hI.lt (n6 k ok hk h1) h4;have:=hp b bT h5;omega
  ·rw[dF _ _ hk]at h4;rw[dF _ _ vD]at h5;exact hI.inj _ _ _ _ _ _ _ (n6 k ok hk h1) (n6 k' ok' vD h2) h3 h4 h5
theorem zw (hI:Inv σ s w) (QM:w'.os=w.os) (KF:w'.tape=w.tape) (AO:w'.output=w.output) (jS:w.heap.size<=w'.heap.size)
  (hkeep:∀b,b<w.heap.size->w'.heap[b]?=w.heap[b]?):aK σ s w σ s w'/\Inv σ s w':=by
 have hE:aK σ s w σ s w':=⟨QM,KF,AO,jS,λb hb _=>hkeep b hb,λb arr E _ hh=>⟨arr,by rw[hkeep b (eo hh)];exact hh,rfl⟩,λb _ hm=>let ⟨es,c,hh⟩:=hm;⟨es,c,by rw[hkeep b (eo hh)];exact hh⟩,λb h=>.inl h,
  λid o ho=>⟨o,ho,ale _,λ_=>⟨rfl,rfl⟩⟩,rfl,λb hb _=>hkeep b hb⟩
 exact⟨hE,λk ok jw=>xm.bj (p:=σ k) hE (λb base h=>hkeep b (hI.lt jw h)) (hI.content k ok jw),hI.inj,λb hb=>amr (hI.low b hb) jS,hI.apart⟩
theorem pT (hI:Inv σ s w):aK σ s w σ s w.drew/\Inv σ s w.drew :=
 zw hI rfl rfl rfl (ale _) (λ_ _=>rfl)
theorem Hp (hI:Inv σ s w) (x:Go.Obj):aK σ s w σ s (w.alloc x)/\Inv σ s (w.alloc x) :=
 zw hI rfl rfl rfl aq (λb hb=>amd w x b hb)
structure S4 where
 sz:Nat
 agg:Bool
 EP:Nat
 zero:List Value
def bW (P:Program) (t:TypeId):Option S4 :=
 match P.info? t,P.underlying t with
 |some i,some d=>match i.zero with
  |some z=>if z.cells.size=i.size/\z.cells.toList.all Value.oneCell'=true then
    some ⟨i.size,(match d with|.struct _|.array _ _=>true|_=>false),i.bytes,z.cells.toList⟩ else none
  |none=>none
 |_,_=>none
theorem iI{i:S4} (h:bW P t=some i):∃ti d z,P.info? t=some ti/\P.underlying t=some d/\ti.zero=some z/\ti.size=i.sz/\ti.bytes=i.EP /\
  z.cells.toList=i.zero/\i.zero.length=i.sz/\(∀v∈i.zero,v.oneCell'=true)/\(∀w,(isAgg t).run P w=.ok i.agg w):=by
 unfold bW at h;cases h1:P.info? t with
 |none=>simp [h1]at h
 |some ti =>
  cases h2:P.underlying t with
  |none=>simp [h1,h2]at h
  |some d =>
   cases h3:ti.zero with
   |none=>simp [h1,h2,h3]at h
   |some z =>
    simp only[h1,h2,h3]at h;split at h
    ·rename_i hc;simp only[alb]at h;subst h;refine⟨ti,d,z,rfl,rfl,h3,rfl,rfl,rfl,by simpa using hc.1,λv hv=>List.all_eq_true.1 hc.2 v hv,λw=>?_⟩;cases d <;> simp [isAgg,run_underlying h2]
    ·cases h
def cv:Value->V
 |.slice none 0 0=>.fu []
 |.agg _=>.any
 |.tuple _=>.any
 |v=>.d (.sc v)
theorem Jh {σ s w} (v:Value):aD σ s w (cv v) v:=by
 unfold cv;split
 ·exact .fu .nil
 ·exact .any
 ·exact .any
 ·rename_i h1 h2 h3;refine .d (.sc v ?_);cases v <;> simp_all [Value.oneCell']
def Zg:Value->V
 |.agg cs=>if cs.toList.all Value.oneCell'=true then .ag (cs.toList.map cv) else .any
 |v=>cv v
theorem Xt {σ s w} (v:Value):aD σ s w (Zg v) v:=by
 unfold Zg;split
 ·rename_i cs;split
  ·rename_i h;rw[als]at h;refine .ag aq (λi x hx=>?_) (λi x hx=>?_)
   ·rw[List.getElem?_map]at hx;obtain⟨y,hy,rfl⟩:=Option.map_eq_some_iff.1 hx;have h2:cs[i]?=some y:=by rw[<- Array.getElem?_toList];exact hy
    rw[Array.getD_eq_getD_getElem?,h2];exact h y (List.mem_of_getElem? hy)
   ·rw[List.getElem?_map]at hx;obtain⟨y,hy,rfl⟩:=Option.map_eq_some_iff.1 hx;have h2:cs[i]?=some y:=by rw[<- Array.getElem?_toList];exact hy
    rw[Array.getD_eq_getD_getElem?,h2];exact Jh y
  ·exact .any
 ·exact Jh _
def ev (e:Nat->V):Operand->V
 |.tmp t=>e t
 |.const v=>Zg v
 |.global _=>.any
 |.func f=>.cl (.func f) [] []
def eI:V->Option (List V)
 |.ag cs=>some cs
 |.un|.any|.tu _|.cap ..=>none
 |v=>some [v]
theorem di.one {O w x u} (h:di O w x u):u.oneCell'=true:=by
 cases h <;> first|assumption|rfl
theorem nO (hr:aD σ s w x u) (hc:eI x=some cs) :
  u.cells.size=cs.length/\∀(i:Nat) (y:V),cs[i]?=some y->∃c,u.cells[i]?=some c/\c.oneCell'=true/\aD σ s w y c:=by
 have single:∀{y:V}{c:Value},c.oneCell'=true->aD σ s w y c->c.cells.size=[y].length/\∀(i:Nat) (z:V),[y][i]?=some z->∃b,c.cells[i]?=some b/\b.oneCell'=true/\aD σ s w z b:=by
  intro y c h1 h2;have nf:c.cells=#[c]:=by cases c <;> first|rfl|simp [Value.oneCell']at h1
  refine⟨by simp [nf],λi z hz=>?_⟩;cases i with
  |zero=>simp at hz;subst hz;exact⟨c,by simp [nf],h1,h2⟩
  |succ n=>simp at hz
 cases hr with
 |d h=>simp only[eI,alb]at hc;subst hc;exact single h.one (.d h)
 |ag h1 h2 h3 =>
  simp only[eI,alb]at hc;subst hc;refine⟨h1,λi y hy=>?_⟩;have hi:=(List.getElem?_eq_some_iff.1 hy).1;have e:∀{arr:Array Value},i<arr.size->arr[i]?=some (arr.getD i undef):=λh=>by simp [Array.getD,h]
  exact⟨_,e (by simp only[Value.cells];omega),h2 i y hy,h3 i y hy⟩
 |tu h1 h2=>simp [eI]at hc
 |fu h=>simp only[eI,alb]at hc;subst hc;exact single rfl (.fu h)
 |so o h1 h2 h3 h4=>simp only[eI,alb]at hc;subst hc;exact single h3.one (.so o h1 h2 h3 h4)
 |rf o h1 h2 h3 h4=>simp only[eI,alb]at hc;subst hc;exact single h3 (.rf o h1 h2 h3 h4)
 |pp o h1 h2 h3=>simp only[eI,alb]at hc;subst hc;exact single rfl (.pp o h1 h2 h3)
 |mp o h1 h2 h3 h4=>simp only[eI,alb]at hc;subst hc;exact single h3 (.mp o h1 h2 h3 h4)
 |bx h1 h2 h3 hu h4=>simp only[eI,alb]at hc;subst hc;exact single rfl (.bx h1 h2 h3 hu h4)
 |cap h1 h2=>simp [eI]at hc
 |cl h1 h2 h3 h4=>simp only[eI,alb]at hc;subst hc;exact single rfl (.cl h1 h2 h3 h4)
 |un=>simp [eI]at hc
 |any=>simp [eI]at hc
def qS (agg:Bool) (n:Nat) (cs:List V) (K:V->Prop):Prop :=
 match agg with
 |true=>n<=cs.length/\K (.ag (cs.take n))
 |false=>n=1/\match cs with|[]=>False|v::_=>K v
def mA (P:Program) (t:TypeId) (s:List Obj) (p:V) (K:V->Prop):Prop :=
 match bW P t with
 |none=>False
 |some i=>match p with
  |.d (.el cs)=>qS i.agg i.sz (cs.map .d) K
  |.bx v=>qS i.agg i.sz [v] K
  |.rf id g k off=>match s[id]? with
   |none=>False
   |some o=>o.g=g/\match o.aA[k]? with
    |none=>False
    |some cs=>qS i.agg i.sz (cs.drop off) K
  |.pp id g k off _ _=>match s[id]? with
   |none=>False
   |some o=>o.g=g/\match o.aA[k]? with
    |none=>False
    |some cs=>qS i.agg i.sz (cs.drop off) K
  |_=>False
theorem gW (h:a.spot=none) (n:Nat):a.add n=⟨a.block,a.off+n,none⟩:=by obtain⟨b,o,sp⟩:=a;simp only at h;subst h;unfold Addr.add;split <;> simp_all
theorem Cm{i:S4} (ht:bW P t=some i) (ha:a.spot=none) (f:Nat->Value) (n1:i.agg=false->i.sz=1)
  (hc:∀j,j<i.sz->w.cell? ⟨a.block,a.off+j,none⟩=some (f j)) :
  (loadVar t a).run P w=.ok (if i.agg then .agg ((List.range i.sz).map f).toArray else f 0) w:=by
 obtain⟨ti,d,z,h1,h2,h3,h4,h5,h6,h7,h8,h9⟩:=iI ht;have gr:(sizeOf t).run P w=.ok i.sz w:=by simp [sizeOf,typeInfo,h1,h4]
 cases AJ:i.agg with
 |true =>
  rw[AJ]at h9;have hl:=run_loadCells (P:=P) w a i.sz f (λj hj=>by rw[gW ha];exact hc j hj);simp [loadVar,h9,gr,hl]
 |false =>
  rw[AJ]at h9;have Mm:=hc 0 (by rw[n1 AJ];omega);have e:(⟨a.block,a.off+0,none⟩:Addr)=a:=by obtain⟨b,o,sp⟩:=a;simp_all
  rw[e]at Mm;simp [loadVar,h9,Mm]
theorem DM{i:S4} (ht:bW P t=some i) {σ s w} (ha:a.spot=none) (hk:qS i.agg i.sz cs K)
  (hc:∀j x,cs[j]?=some x->∃u,w.cell? ⟨a.block,a.off+j,none⟩=some u/\u.oneCell'=true/\aD σ s w x u) :
  ∃v c,(loadVar t a).run P w=.ok c w/\aD σ s w v c/\K v:=by
 have hf:∃f:Nat->Value,∀j x,cs[j]?=some x->w.cell? ⟨a.block,a.off+j,none⟩=some (f j)/\(f j).oneCell'=true/\aD σ s w x (f j):=by refine⟨λj=>(w.cell? ⟨a.block,a.off+j,none⟩).getD undef,λj x hx=>?_⟩;obtain⟨u,h1,h2,h3⟩:=hc j x hx;simp only[h1,amk];exact⟨trivial,h2,h3⟩
 obtain⟨f,hf⟩:=hf;unfold qS at hk;cases AJ:i.agg with
 |true =>
  rw[AJ]at hk;obtain⟨hn,hk⟩:=hk;have ig:∀j,j<i.sz->cs[j]?=some (cs[j]?.getD .any):=λj hj=>by simp [show j<cs.length by omega]
  refine⟨_,_,Cm ht ha f (by simp [AJ]) (λj hj=>(hf j _ (ig j hj)).1),?_,hk⟩;rw[AJ];simp only[if_true];have e:∀j,j<i.sz->((List.range i.sz).map f).toArray.getD j undef=f j:=λj hj=>by simp [Array.getD,hj]
  have e2:∀j x,(cs.take i.sz)[j]?=some x->j<i.sz/\cs[j]?=some x:=by
   intro j x hx;rw[List.getElem?_take]at hx;split at hx
   ·exact⟨by assumption,hx⟩
   ·cases hx
  refine .ag (by simp [Nat.min_eq_left hn]) (λj x hx=>?_) (λj x hx=>?_)
  ·rw[e j (e2 j x hx).1];exact(hf j x (e2 j x hx).2).2.1
  ·rw[e j (e2 j x hx).1];exact(hf j x (e2 j x hx).2).2.2
 |false =>
  rw[AJ]at hk;obtain⟨hn,hk⟩:=hk;cases cs with
  |nil=>exact hk.elim
  |cons v rest =>
   refine⟨v,_,Cm ht ha f (λ_=>hn) (λj hj=>?_),?_,hk⟩
   ·have:j=0:=by omega
    subst this;exact(hf 0 v rfl).1
   ·rw[AJ];exact(hf 0 v rfl).2.2
theorem PO{p:V} (hI:Inv σ s w) (hp:aD σ s w p u) (VZ:∀id g i off b a,p≠.pp id g i off b a) (h:mA P t s p K) :
  ∃v c,(Instr.loadAt t u).run P w=.ok c w/\aD σ s w v c/\K v:=by
 unfold mA at h;cases ht:bW P t with
 |none=>rw[ht]at h;exact h.elim
 |some i =>
  rw[ht]at h;simp only at h;have fin:∀(a:Addr) (v:V) (c:Value),u=.pointer (some a)->(loadVar t a).run P w=.ok c w->aD σ s w v c->K v->∃v c,(Instr.loadAt t u).run P w=.ok c w/\aD σ s w v c/\K v:=by rintro a v c rfl h1 h2 h3;exact⟨v,c,by simp [Instr.loadAt,Instr.sureAddr,h1],h2,h3⟩
  cases hp with
  |pp o ho hg hk=>exact absurd rfl (VZ _ _ _ _ _ _)
  |d hx =>
   cases hx with
   |el cs a f h1 h2 h3 =>
    obtain⟨v,c,k1,k2,k3⟩:=DM (σ:=σ) (s:=s) (w:=w) ht h1 h (λj x hx=>by
     rw[List.getElem?_map]at hx;obtain⟨y,hy,rfl⟩:=Option.map_eq_some_iff.1 hx;exact⟨f j,(h2 j y hy).1,(h3 j y hy).one,.d (h3 j y hy)⟩)
    exact fin a v c rfl k1 k2 k3
   |_=>exact h.elim
  |bx h1 h2 h3 hu h4 =>
   obtain⟨v,c,k1,k2,k3⟩:=DM (σ:=σ) (s:=s) (w:=w) ht h1 h (λj x hx=>by
    cases j with
    |zero=>simp at hx;subst hx;exact⟨_,h2,hu,h4⟩
    |succ j=>simp at hx)
   exact fin _ v c rfl k1 k2 k3
  |rf o ho hg hu hk =>
   simp only[ho]at h;obtain⟨x6,h⟩:=h;obtain⟨b,base,hs,hC,rfl⟩:=hk x6;split at h
   ·exact h.elim
   ·rename_i id g k off _ cs n9;rcases hI.content _ o ho with h1|⟨b',bT,arr,E,h1,h2,h3,h4,h5⟩
    ·exact(h1.CH hs hC).elim
    ·rw[hs]at h1;cases h1;obtain⟨v,c,k1,k2,k3⟩:=DM (σ:=σ) (s:=s) (w:=w) (a:=⟨b,base+k*o.sz+off,none⟩) ht rfl h (λj x hx=>by
      rw[List.getElem?_drop]at hx;obtain⟨y,k1,k2,k3⟩:=h5 k (off+j) x (by rw[n9];exact hx);refine⟨y,?_,k2,k3⟩;simp only[World.cell?,h2];simpa [alL]using k1)
     exact fin _ v c rfl k1 k2 k3
  |_=>exact h.elim
theorem E4{p:V} (hI:Inv σ s w) (hp:aD σ s w p u) (h:mA P t s p K) :
  ∃v c,(Instr.loadAt t u).run P w=.ok c w/\aD σ s w v c/\K v:=by
 by_cases Lz:∃id g i off b a,p=.pp id g i off b a
 ·obtain⟨id,g,i,off,b,a,rfl⟩:=Lz;exact PO hI hp.YV (by intros;simp) h
 ·exact PO hI hp (λid g i off b a he=>Lz ⟨id,g,i,off,b,a,he⟩) h
def iE (cs:List V) (off:Nat) (ns:List V):List V:=cs.take off++ns++cs.drop (off+ns.length)
def iU (P:Program) (t:TypeId) (s:List Obj) (p x:V) (K:List Obj->Prop):Prop :=
 match bW P t with
 |none=>False
 |some i=>match p with
  |.rf id g k off=>match s[id]? with
   |none=>False
   |some o=>o.g=g/\o.live=true/\match o.aA[k]? with
    |none=>False
    |some cs=>match eI x with
     |none=>False
     |some ns=>ns.length=i.sz/\off+i.sz<=cs.length/\K (s.set id { o with aA:=o.aA.set k (iE cs off ns) })
  |.pp id g k off _ _=>match s[id]? with
   |none=>False
   |some o=>o.g=g/\o.live=true/\match o.aA[k]? with
    |none=>False
    |some cs=>match eI x with
     |none=>False
     |some ns=>ns.length=i.sz/\off+i.sz<=cs.length/\K (s.set id { o with aA:=o.aA.set k (iE cs off ns) })
  |_=>False
theorem qE (cs:List V) (off:Nat) (ns:List V) (h:off+ns.length<=cs.length) (j:Nat) :
  (iE cs off ns)[j]?=if off<=j/\j<off+ns.length then ns[j-off]? else cs[j]?:=by
 have hl:(cs.take off).length=off:=cV;unfold iE;by_cases h1:j<off
 ·exact Zdr
 ·by_cases h2:j<off+ns.length
  ·exact Zby
  ·exact ZcZ
theorem tT (cs:List V) (off:Nat) (ns:List V) (h:off+ns.length<=cs.length):(iE cs off ns).length=cs.length:=by simp [iE];omega
theorem wh (σ:Gh) (id:Nat):pM σ id (σ id)=σ:=by
 obtain⟨m,b⟩:=σ;unfold pM;congr 1;funext k;split
 ·rename_i h;rw[h]
 ·rfl
theorem Rm (hI:Inv σ s w){o:Obj} (ho:s[id]?=some o) (hl:o.live=true) {k:Nat}{ns:List V} (n9:o.aA[k]?=some cs)
  (hfit:off+ns.length<=cs.length) (hs:σ id=some (b,base)) (hC:IA w b) {us:List Value} (Ze:us.length=ns.length)
  (hrep:∀(j:Nat) (x:V),ns[j]?=some x->∃u,us[j]?=some u/\u.oneCell'=true/\aD σ s w x u) (Q3:∀u∈us,u.oneCell'=true) (P:Program) :
  ∃w',(storeCells ⟨b,base+k*o.sz+off,none⟩ us).run P w=.ok () w'/\aK σ s w σ (s.set id { o with aA:=o.aA.set k (iE cs off ns) }) w' /\
   Inv σ (s.set id { o with aA:=o.aA.set k (iE cs off ns) }) w':=by
 rcases hI.content _ o ho with h1|⟨b',bT,arr,E,h1,h2,h3,h4,h5⟩
 ·exact(h1.CH hs hC).elim
 rw[hs]at h1;cases h1;have hk:k<o.aA.length:=(List.getElem?_eq_some_iff.1 n9).1;have cQ:cs.length=o.sz:=h3 cs (List.mem_of_getElem? n9);have af8:k*o.sz+o.sz<=o.aA.length*o.sz:=by have:=alF o.sz (show k+1<=o.aA.length from hk);rw[alS,Nat.one_mul]at this;exact this
 have dU:=run_storeCells_at P b (base+k*o.sz+off) E us 0 arr w h2 (by rw[Ze];omega) Q3;simp only[al8]at dU;generalize qI:(arr.toList.take (base+k*o.sz+off)++us++arr.toList.drop (base+k*o.sz+off+us.length)).toArray=cN at dU;have jS:cN.size=arr.size:=by rw[<- qI];simp;omega
 have ig:∀p,cN[p]?=if base+k*o.sz+off<=p/\p<base+k*o.sz+off+us.length then us[p-(base+k*o.sz+off)]? else arr[p]?:=by
  intro p;have hl:(arr.toList.take (base+k*o.sz+off)).length=base+k*o.sz+off:=cV;rw[<- qI,List.getElem?_toArray];by_cases g1:p<base+k*o.sz+off
  ·exact ZcN
  ·by_cases g2:p<base+k*o.sz+off+us.length
   ·exact Zby
   ·exact ZcI
 refine⟨_,dU,?_⟩;have:=oM (p:=σ id) (w':=w.setRow b cN) (o':={ o with aA:=o.aA.set k (iE cs off ns) }) hI ho hl rfl rfl rfl aq
  (λb1 _ eX=>setRow_other w b b1 cN (λe=>eX base (by rw[hs,e])))
  (λb1 kI ZA E1 he hh=>by
   rw[hs]at he;cases he;rw[h2]at hh;cases hh;exact⟨cN,setRow_heap w b arr cN E (0,0) h2,jS⟩)
  (λb1 kI he hm=>by
   rw[hs]at he;cases he;exact(hC.notM hm).elim)
  (ale _) (λ_=>⟨rfl,rfl⟩) (λb1 kI he=>.inl ⟨kI,he⟩)
  (λhE=>.inr ⟨b,base,cN,E,hs,setRow_heap w b arr cN E (0,0) h2,(by
   intro e he;simp only at he;rcases amb he with h'|h'
   ·exact h3 e h'
   ·rw[h',tT _ _ _ hfit];exact cQ),(by simp only[alu];omega),(by
   intro i j x hx;simp only at hx ⊢;rw[wh]at hE ⊢;by_cases T5:i=k
   ·subst T5;rw[List.getElem?_set_self hk]at hx;simp only[alO]at hx;rw[qE _ _ _ hfit]at hx;split at hx
    ·rename_i kK;obtain⟨u,k1,k2,k3⟩:=hrep _ x hx;refine⟨u,?_,k2,k3.bj hE⟩;rw[ig,rY,<- k1];congr 1;omega
    ·rename_i kK;obtain⟨u,k1,k2,k3⟩:=h5 i j x (by rw[n9];exact hx);refine⟨u,?_,k2,k3.bj hE⟩;rw[ig,bm];exact k1
   ·rw[List.getElem?_set_ne (Ne.symm T5)]at hx;obtain⟨u,k1,k2,k3⟩:=h5 i j x hx;refine⟨u,?_,k2,k3.bj hE⟩;rw[ig,ap ?_]
    ·exact k1
    ·have WJ:j<o.sz:=by
      exact Zbw
     rcases Nat.lt_or_gt_of_ne T5 with aE|aE
     ·have:=alF o.sz (show i+1<=k from aE);exact ZcF
     ·have:=alF o.sz (show k+1<=i from aE);rw[alS,Nat.one_mul]at this;omega)⟩)
 rw[wh]at this;exact this
theorem Mv{p:V}{K:List Obj->Prop} (hI:Inv σ s w) (hp:aD σ s w p u) (hx:aD σ s w x c) (VZ:∀id g i off b a,p≠.pp id g i off b a) (h:iU P t s p x K) :
  ∃s' w',(Instr.storeAt t u c).run P w=.ok () w'/\aK σ s w σ s' w'/\Inv σ s' w'/\K s':=by
 unfold iU at h;cases ht:bW P t with
 |none=>rw[ht]at h;exact h.elim
 |some i =>
  rw[ht]at h;simp only at h;cases hp with
  |rf o ho hg hu hk =>
   simp only[ho]at h;obtain⟨x6,hl,h⟩:=h;obtain⟨b,base,hs,hC,rfl⟩:=hk x6;split at h
   ·exact h.elim
   ·rename_i id g k off _ cs n9;split at h
    ·exact h.elim
    ·rename_i ns yS;obtain⟨h1,h2,h3⟩:=h;obtain⟨CA,ud⟩:=nO hx yS;obtain⟨ti,d,z,k1,k2,k3,k4,k5,k6,k7,k8,k9⟩:=iI ht;have gr:∀w,(sizeOf t).run P w=.ok i.sz w:=λw=>by simp [sizeOf,typeInfo,k1,k4]
     obtain⟨w',r1,r2,r3⟩:=Rm hI ho hl n9 (ns:=ns) (off:=off) ae hs hC (us:=c.cells.toList) (by simpa using CA)
      (λj x hx=>by
       obtain⟨u,e1,e2,e3⟩:=ud j x hx;exact⟨u,by rw[Array.getElem?_toList];exact e1,e2,e3⟩)
      (λu hu=>by
       obtain⟨j,hj,rfl⟩:=List.mem_iff_getElem.1 hu;have VI:j<ns.length:=by simpa [CA]using hj
       obtain⟨u,e1,e2,e3⟩:=ud j ns[j] (by simp [VI]);have:c.cells.toList[j]=u:=by rw[<- Array.getElem?_toList]at e1;exact(List.getElem?_eq_some_iff.1 e1).2
       rw[this];exact e2) P
     refine⟨_,w',?_,r2,r3,h3⟩;simp [Instr.storeAt,Instr.sureAddr,storeVar,gr,CA,h1,r1]
  |pp o ho hg hk=>exact absurd rfl (VZ _ _ _ _ _ _)
  |_=>exact h.elim
theorem Ko{p:V}{K:List Obj->Prop} (hI:Inv σ s w) (hp:aD σ s w p u) (hx:aD σ s w x c) (h:iU P t s p x K) :
  ∃s' w',(Instr.storeAt t u c).run P w=.ok () w'/\aK σ s w σ s' w'/\Inv σ s' w'/\K s':=by
 by_cases Lz:∃id g i off b a,p=.pp id g i off b a
 ·obtain⟨id,g,i,off,b,a,rfl⟩:=Lz;exact Mv hI hp.YV hx (by intros;simp) h
 ·exact Mv hI hp hx (λid g i off b a he=>Lz ⟨id,g,i,off,b,a,he⟩) h
end Go.VL
