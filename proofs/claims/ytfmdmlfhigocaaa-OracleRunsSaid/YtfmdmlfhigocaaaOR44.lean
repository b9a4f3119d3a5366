/- A part of the proof (O38 O39 O40 O41 O42 O43). -/
import Derived.Test.YtfmdmlfhigocaaaOR33
import Derived.Test.YtfmdmlfhigocaaaOR41
import Derived.Test.YtfmdmlfhigocaaaOR43
set_option linter.unusedSimpArgs false
set_option linter.unusedVariables false
open Nat renaming reduceShiftRight → cy, reduceMod → cJ, reduceEqDiff → dV, reduceAdd → fi, reduceBEq → gV
set_option maxRecDepth 100000
set_option maxHeartbeats 80000000
namespace Go.Proofs.Ytfmdmlfhigocaaa
open Go.VL
variable{t:List Int}{s:List VL.Obj}{K:V->List VL.Obj->Prop}{Bs:List (List Bool)}{root:D}{nb:Nat}{parts:D}
def jG (p:eJ):List au:=p.re.emit 0 []++[bW]
structure aer (p:eJ) (t:List Int):Prop where
 Xy:p.re.every OH=true
 dc:p.re.dc<=1000000
 qW:fw t (aT t (p.re.bH 0) (p.re.bH 0).length) (jG p)
 sv:HG (jG p) (2*p.ai.toNat)
 c0:0<=p.ai
 c1:p.ai<=9
 tl:t.length<=65536
 len:0<(jG p).length
theorem rK {p:eJ} (h:dz p t=0):aer p t:=by
 obtain⟨a1,a2,a3⟩:=qh h;obtain⟨b1,b2,b3⟩:=mQ a1;obtain⟨v1,v2,v3,v4,v5⟩:=cT b1;have xh:=lF v4 p.re v5 v1;unfold nW at b3;have hsh:=(Bool.and_eq_true_iff.1 b3).1;have hl:1+dv p.re<=8192:=of_decide_eq_true hsh;have hoc:p.re.dc<=8191:=by unfold dv at hl;omega
 have MU:=Re.vR p.re 0;refine⟨E3 xh,ae,vt t _ p.re xh 0 ae (λj _ hj=>jR t _ _ j ae ae),?_,v3,v4,a2,by simp [jG]⟩;have hc:p.ai=(p.ai.toNat:Int):=ae;rw[hc]at v5;exact Rz v5 0
theorem pU{k:Nat}{o:VL.Obj} (h:s[k]?=some o):s.set k o=s:=by
 apply ajX;intro j;by_cases hj:j=k
 ·subst hj;rw[ajm (List.getElem?_eq_some_iff.1 h).1,h]
 ·rw[ajy (Ne.symm hj)]
def VJ (k g b a:Nat) (C:List au):VL.Obj:=bf [k] (cP g b a C)
theorem NR (k:Nat) (ρ:List Nat) (b a:Nat) (x:Option (Re×Nat)):aS (k::ρ) (cq b a x)=aS [k] (cq b a x):=by
 cases x with
 |none=>rfl
 |some x =>
  obtain⟨re,j⟩:=x;unfold cq;simp only;split
  ·rfl
  ·split <;> rfl
theorem Et (k:Nat) (ρ:List Nat) (g b a:Nat) (C:List au):bf (k::ρ) (cP g b a C)=VJ k g b a C:=by unfold VJ bf cP;simp only[ajL];congr 1;apply ajK;intro i _;simp [au.cells,NR k ρ,aS,aS.go,i64]
theorem DN{re:Re} (hs:re.every OH=true) (hz:re.dc<=1000000) (k:Nat)
  (h0:s[k]?=some (MR t root parts (k+1) nb)) (h1:s[k+1]?=some (fX 0 Bs))
  (hk:∀b a,K (.so s.length (re.emit 0 []++[bW]).length 0 (re.emit 0 []++[bW]).length) (s++[VJ k (re.emit 0 []++[bW]).length b a (re.emit 0 []++[bW])])) :
  az Try.prog 28 [.rf k 0 0 0,.d (re.bq 0)] s K:=by
 have hc:az Try.prog 28 [.rf 0 0 0 0,.d (re.bq 0)] [dK t root parts 0 nb,fX 0 Bs] λv s=>∃b a,v=.so 2 (re.emit 0 []++[bW]).length 0 (re.emit 0 []++[bW]).length/\s=[dK t root parts 0 nb,fX 0 Bs,cP (re.emit 0 []++[bW]).length b a (re.emit 0 []++[bW])] :=
  AS hs hz 0 λb a=>⟨b,a,rfl,rfl⟩
 have e6:∀ρ,bf (k::(k+1)::ρ) (dK t root parts 0 nb)=MR t root parts (k+1) nb:=λρ=>rfl;refine jX hc [k,k+1] rfl aj (λj o ho=>?_) rfl (by simp [ak,ak.go]) ?_ ?_
 ·match j with
  |0=>cases ho;rw[e6];exact h0
  |1=>cases ho;rw[fN];exact h1
  |j+2=>simp at ho
 ·have hb:=ij 2 0 Bs;simp only[ajS,ajV,ai8,ai9,ai7,fi,ajk];simp [bc,dK,ak,hb]
 rintro v s' ⟨b,a,rfl,rfl⟩ _;generalize re.emit 0 []++[bW]=C at *;have e1:xa [k,k+1] s [dK t root parts 0 nb,fX 0 Bs] [dK t root parts 0 nb,fX 0 Bs,cP C.length b a C]=[k,k+1,s.length]:=rfl;rw[e1];have e5:aS [k,k+1,s.length] (.so 2 C.length 0 C.length)=.so s.length C.length 0 C.length:=rfl;rw[e5];simp only[ai8,ai9,ai7,fi,aj1,akc,List.drop_succ_cons,ajQ,aiZ,ai2,e6,fN,Et,aO];rw[pU h0,pU h1];exact hk b a
theorem BO{g b a:Nat}{C:List au}{q c:Nat} (hg:fw t Bs C) (RN:HG C (2*c)) (hc:c<=1000) (oM:nb=Bs.length) (ht:t.length<=1000000) (hC:0<C.length) {p:Nat} (hp:p<=t.length) {ad:List Nat} (UG:ad.length=C.length)
  (k j i:Nat) (zF:[k,k+1,j,i].Nodup) (h0:s[k]?=some (MR t root parts (k+1) nb)) (h1:s[k+1]?=some (fX 0 Bs)) (h2:s[j]?=some (VJ k g b a C)) (h3:s[i]?=some (bw q ad))
  (hk:K (.tu [(Lx (gk t Bs C p c).1).v,bV (gk t Bs C p c).1.isSome]) (s.set i (bw q (gk t Bs C p c).2))) :
  az Try.prog 29 [.rf k 0 0 0,.so j g 0 C.length,.so i q 0 C.length,i64 p,i64 c] s K:=by
 have e6:∀ρ,bf (k::(k+1)::ρ) (dK t root parts 0 nb)=MR t root parts (k+1) nb:=λρ=>rfl;refine ew [k,k+1,j,i] (QC t root parts 0 nb Bs g b a C q hg c RN hc oM ht hC p hp ad UG) zF rfl ?_ ?_ aN ?_ (r':=.tu [(Lx (gk t Bs C p c).1).v,bV (gk t Bs C p c).1.isSome]) ?_ ?_
 ·simp only[aiZ,ai2,e6,fN,Et,pa,h0,h1,h2,h3]
 ·simp [aS,i64]
 ·have hb:=ij 4 0 Bs;simp only[ajS,ajV,ai8,ai9,ai7,fi,ll 4 _ _ _ ae,oF,ajk];simp [bc,dK,ak,hb]
 ·simp [aS,aS.go,kA.v,i64,bV]
 ·simp only[aiZ,ai2,e6,fN,Et,pa,aO];rw[pU h0,pU h1,pU h2];exact hk
def tm (p:eJ) (t:List Int) (x:Int):Option kA:=if dz p t≠0\/x<0\/(t.length:Int)<x then none else (gk t (aT t (p.re.bH 0) (p.re.bH 0).length) (jG p) x.toNat p.ai.toNat).1
def Fh (p:eJ) (t:List Int) (x:Int):Int:=if dz p t≠0 then dz p t else if x<0\/(t.length:Int)<x then 5 else 0
theorem P5 (p:eJ) (t:List Int) (x:Int) (hf:p.re.cN=true) (hl:t.length<=1000000):aM Try.prog 12 [aE p,.d (an t),i64 x] (.tu [(Lx (tm p t x)).v,bV (tm p t x).isSome,i64 (Fh p t x)]):=by
 by_cases h:dz p t=0
 ·obtain⟨Xy,dc,qW,sv,c0,c1,tl,VO⟩:=rK h;have ck:=λs K hk=>uH hf h (s:=s) (K:=K) hk;have LU:=fK t (p.re.bH 0) (p.re.bH 0).length;by_cases hx:x<0\/(t.length:Int)<x
  ·have Jq:tm p t x=none:=be (.inr hx);have Fu:Fh p t x=5:=by unfold Fh;rw[ap (by rw[h];simp),be hx]
   rw[Jq,Fu];generalize aT t (p.re.bH 0) (p.re.bH 0).length=Bs at *;generalize (p.re.bH 0).length=n at *;generalize p.re.bq 0=rd at *;generalize eF (p.re.bH 0)=pd at *;clear Jq Fu h Xy dc qW sv c0 c1 VO hf;cases p with
   |mk re ai aF =>
   unfold aE at ck;simp only[Re.ah,aiZ,ai2,aiX,ai0,i64,iD,bD,bV,an]at ck;by_cases U7:x<0
   ·refine bk Try.func12 Try.ntmps12 Try.results12 0 16335 ?_;simp only[zI,simprocAttr,aE,Re.ah,bV,iD,bD,an];refine ck _ _ ?_;simp only[zQ,simprocAttr,an,MR,ai8,ai9,ai7,aiX,ai0,ne_eq,not_true_eq_false,aiW,U7];rfl
   ·have x4:(t.length:Int)<x:=hx.resolve_left U7;refine bk Try.func12 Try.ntmps12 Try.results12 0 16335 ?_;simp only[zI,simprocAttr,aE,Re.ah,bV,iD,bD,an];refine ck _ _ ?_;simp only[zQ,simprocAttr,an,MR,ai8,ai9,ai7,aiX,ai0,ne_eq,not_true_eq_false,aiW,U7,x4,gt_iff_lt];rfl
  ·obtain⟨y,rfl⟩:∃y:Nat,x=y:=⟨x.toNat,ae⟩
   have hy:y<=t.length:=ae;have hy1:¬(t.length:Int)<(y:Int):=ae;have X7:¬(y:Int)<0:=ae;have Jq:tm p t y=(gk t (aT t (p.re.bH 0) (p.re.bH 0).length) (jG p) y p.ai.toNat).1:=by unfold tm;rw[ap (by rw[h];omega)];rfl
   have Fu:Fh p t y=0:=by unfold Fh;rw[ap (by rw[h];simp),bd]
   rw[Jq,Fu];have eD:=λ(s:List VL.Obj) (K:V->List VL.Obj->Prop) (root parts:D) (nb:Nat) (Bs:List (List Bool))=>DN (t:=t) (root:=root) (parts:=parts) (nb:=nb) (Bs:=Bs) Xy dc 2 (s:=s) (K:=K);have yu:=λ(s:List VL.Obj) (K:V->List VL.Obj->Prop) (root parts:D) (g b a:Nat)=>BO (root:=root) (parts:=parts) (g:=g) (b:=b) (a:=a) (q:=1) qW sv ae LU.symm hl VO hy (ad:=List.replicate (jG p).length 0) aj (s:=s) (K:=K) 2 4 5 aJ;have iy:=qW.len;have W0:p.re.emit 0 []++[bW]=jG p:=rfl;rw[W0]at eD;have kR:(p.ai.toNat:Int)=p.ai:=ae;rw[kR]at yu;generalize aT t (p.re.bH 0) (p.re.bH 0).length=Bs at *;generalize (p.re.bH 0).length=n at *;generalize jG p=C at *;generalize p.re.bq 0=rd at *;generalize eF (p.re.bH 0)=pd at *;generalize gk t Bs C y p.ai.toNat=R at *;clear Jq Fu h Xy dc qW sv c0 c1 hf W0 kR;cases p with
   |mk re ai aF =>
   unfold aE at ck;simp only[Re.ah,aiZ,ai2,aiX,ai0,i64,iD,bD,bV,an]at ck yu eD;refine bk Try.func12 Try.ntmps12 Try.results12 0 16335 ?_;simp only[zI,simprocAttr,aE,Re.ah,bV,iD,bD,an];refine ck _ _ ?_;simp only[zQ,simprocAttr,an,MR,ai8,ai9,ai7,aiX,ai0,ne_eq,not_true_eq_false,aiW,X7,hy1,gt_iff_lt];refine eD _ _ _ _ _ _ rfl rfl (λb a=>?_);simp only[zQ,simprocAttr,ai8,ai9,ai7,fi,aiX,ai0];refine aX ct.bt ?_;refine aX ct.bt ?_;refine aA mix [] [(4,[5],[5]),(6,[0],[]),(7,[0],[]),(8,[2,3,4,5],[5]),(12,[6],[6]),(13,[6],[6])] aN ?_;simp only[zQ,simprocAttr,ai8,ai9,ai7,fi,aiX,ai0,hole,Wg,Value.oneCell'];refine⟨⟨ajs _,ae,ae⟩,?_⟩;have hnz:(⟨1,true,1,List.replicate C.length [V.d (.sc (.int .i64 0))]⟩:VL.Obj)=bw 1 (List.replicate C.length 0):=by simp [bw,i64]
   refine⟨.tu [(Lx R.1).v,bV R.1.isSome],[bw 1 R.2],rfl,λs' _ mJ=>?_,?_⟩
   ·exact yu s' _ _ _ _ _ _ (mJ 2 aj) (mJ 3 aj) (mJ 4 aj) ((mJ 5 aj).trans (congrArg some hnz)) ⟨rfl,rfl⟩
   ·simp only[zQ,simprocAttr,kA.v,aO,ai8,ai9,ai7,fi,aiX,ai0]
 ·have Jq:tm p t x=none:=be (.inl h);have Fu:Fh p t x=dz p t:=by unfold Fh;rw[be h]
  rw[Jq,Fu];have he:=Av p t hf h hl;generalize dz p t=se at *;clear hf Jq Fu;cases p with
  |mk re ai aF =>
  unfold aE at he;simp only[Re.ah,aiZ,ai2,aiX,ai0,i64,iD,bD,bV,an]at he;refine bk Try.func12 Try.ntmps12 Try.results12 0 16335 ?_;simp only[zI,simprocAttr,aE,Re.ah,bV,iD,bD,an];refine bO he ?_;simp only[zQ,simprocAttr,an,ne_eq,h,not_false_eq_true];rfl
def Om (m:kA):List D:=[iD m.s,iD m.e,df m.c]
def gG (t:List Int) (Bs:List (List Bool)) (C:List au) (c i:Nat):List kA:=(List.range i).filterMap λj=>(gk t Bs C j c).1
theorem BU (t:List Int) (Bs:List (List Bool)) (C:List au) (c i:Nat):gG t Bs C c (i+1)=gG t Bs C c i++(gk t Bs C i c).1.toList:=by unfold gG;rw[List.range_succ,List.filterMap_append];cases h:(gk t Bs C i c).1 <;> simp [h]
theorem Dj (t:List Int) (Bs:List (List Bool)) (C:List au) (c i:Nat):(gG t Bs C c i).length<=i:=by unfold gG;exact aj0 (List.length_filterMap_le _ _) aj
theorem G5 {t:List Int}{Bs:List (List Bool)}{C:List au}{b c:Nat}:∀(k p:Nat) (st:eG) (gb:Nat) (fO:Option kA),xm C c st->(nZ t Bs C b c k p st gb fO).2.length=C.length
 |0,_,_,_,_,h=>h.ad
 |k+1,p,st,gb,fO,h=>by
  rw[nZ];split
  ·exact h.ad
  ·refine G5 k _ _ _ _ (sH (p:=p) st.rd ⟨st.ad,false,[],gb⟩ h.th ⟨h.ad,aj,aj⟩ ?_).1;have:fy (p+1) st.ad<=st.ad.length:=ajY;have:=h.ad;unfold mM;simp only[ai9];omega
theorem Qc (t:List Int) (Bs:List (List Bool)) (C:List au) (p c:Nat):(gk t Bs C p c).2.length=C.length:=by unfold gk;refine G5 _ _ _ _ _ ?_;unfold sU;refine(AT (p:=p) ⟨aj,aj,aj⟩ ?_ (by simp [gr])).1;have:fy p (List.replicate C.length 0)<=(List.replicate C.length 0).length:=ajY;unfold mM;simp only[aj6,ai9]at *;omega
def RT (g:Nat) (l:List kA):VL.Obj:=⟨g,true,3,(l.map Om).map λc=>c.map V.d⟩
theorem RX (n g:Nat) (l:List kA):bc n (RT g l)=true:=by unfold bc RT;rw[ajo];intro e he;obtain⟨x,hx,rfl⟩:=List.mem_map.1 he;rw[ajo];intro y hy;obtain⟨d,_,rfl⟩:=List.mem_map.1 hy;rfl
theorem Ux (n k g b a:Nat) (hk:k<n) (C:List au):bc n (VJ k g b a C)=true:=by
 have hp:∀x,ak n (aS [k] (cq b a x))=true:=by
  intro x;cases x with
  |none=>rfl
  |some x =>
   obtain⟨re,j⟩:=x;unfold cq;simp only;split
   ·simp [aS,aS.go,mB,nB,ak,ak.go,hk]
   ·split <;> simp [aS,aS.go,mB,nB,ak,ak.go,hk]
 unfold bc VJ bf cP;rw[ajo];intro e he;simp only[ajL]at he;obtain⟨i,_,rfl⟩:=List.mem_map.1 he;simp [au.cells,aS,aS.go,i64,ak,hp]
def pj (p:eJ) (t:List Int):List kA:=if dz p t≠0 then [] else gG t (aT t (p.re.bH 0) (p.re.bH 0).length) (jG p) p.ai.toNat (t.length+1)
theorem Gz (p:eJ) (t:List Int) (hf:p.re.cN=true) (hl:t.length<=1000000):aM Try.prog 8 [aE p,.d (an t)] (.tu [.d (.sl ((pj p t).map Om)),i64 (dz p t)]):=by
 by_cases h:dz p t=0
 ·obtain⟨Xy,dc,qW,sv,c0,c1,tl,VO⟩:=rK h;have ck:=λs K hk=>uH hf h (s:=s) (K:=K) hk;have LU:=fK t (p.re.bH 0) (p.re.bH 0).length;have Jq:pj p t=gG t (aT t (p.re.bH 0) (p.re.bH 0).length) (jG p) p.ai.toNat (t.length+1):=ap (by rw[h];simp);rw[Jq,h];have eD:=λ(s:List VL.Obj) (K:V->List VL.Obj->Prop) (root parts:D) (nb:Nat) (Bs:List (List Bool))=>DN (t:=t) (root:=root) (parts:=parts) (nb:=nb) (Bs:=Bs) Xy dc 1 (s:=s) (K:=K);have yu:=λ(s:List VL.Obj) (K:V->List VL.Obj->Prop) (y:Nat) (hy:y<=t.length) (ad:List Nat) (UG:ad.length=(jG p).length) (root parts:D) (g b a:Nat)=>BO (root:=root) (parts:=parts) (g:=g) (b:=b) (a:=a) (q:=0) qW sv ae LU.symm hl VO hy UG (s:=s) (K:=K) 1 3 4 aJ;have iy:=qW.len;have W0:p.re.emit 0 []++[bW]=jG p:=rfl;rw[W0]at eD;have kR:(p.ai.toNat:Int)=p.ai:=ae;simp only[kR]at yu;generalize aT t (p.re.bH 0) (p.re.bH 0).length=Bs at *;generalize (p.re.bH 0).length=n at *;generalize jG p=C at *;generalize p.re.bq 0=rd at *;generalize eF (p.re.bH 0)=pd at *;clear Jq h Xy dc qW sv c0 c1 hf W0;cases p with
  |mk re ai aF =>
  simp only at kR;generalize Int.toNat ai=c at *;unfold aE at ck;simp only[Re.ah,aiZ,ai2,aiX,ai0,i64,iD,bD,bV,an]at ck yu eD;have w1:IntKind.i64.wrap ((t.length:Int)+1)=((t.length+1:Nat):Int):=by rw[bF _ ae];rfl
  have hnz:∀g,(⟨g,true,1,List.replicate C.length [V.d (.sc (.int .i64 0))]⟩:VL.Obj)=bw g (List.replicate C.length 0):=λg=>by simp [bw,i64]
  refine bk Try.func8 Try.ntmps8 Try.results8 0 51539623927 ?_;simp only[zI,simprocAttr,aE,Re.ah,bV,iD,bD,an];refine ck _ _ ?_;simp only[zQ,simprocAttr,an,MR,ai8,ai9,ai7,aiX,ai0,ne_eq,not_true_eq_false,aiW];refine eD _ _ _ _ _ _ rfl rfl (λb a=>?_);simp only[zQ,simprocAttr,ai8,ai9,aiW,an,ai7,fi,aiX,ai0,w1];refine⟨⟨ajs _,ae,ae⟩,?_⟩;refine ay (λm e s=>∃(i gg:Nat) (ad:List Nat),m=t.length+1-i/\i<=t.length+1/\ad.length=C.length/\e 2=.rf 0 0 0 0/\e 6=.rf 1 0 0 0/\e 8=.so 3 C.length 0 C.length/\e 9=.so 4 0 0 C.length/\e 10=.so 5 gg 0 (gG t Bs C c i).length/\e 34=i64 ((t.length+1:Nat):Int)/\e 35=i64 i /\
    s=[⟨0,true,10,[[i64 re.op,.d (.sl (re.set.map aU)),.d (.sl (re.kids.map Re.cells)),i64 re.mn,i64 re.mx,i64 re.mode,i64 re.n,bV re.neg,i64 ai,bV aF]]⟩,MR t rd pd 2 n,fX 0 Bs,VJ 1 C.length b a C,bw 0 ad,RT gg (gG t Bs C c i)])
   ⟨_,_,_,.MX (fQ 10 3 rfl),0,0,List.replicate C.length 0,rfl,ae,aj,rfl,rfl,rfl,rfl,rfl,rfl,rfl,by rw[<- hnz];rfl⟩ ?_
  rintro m e s ⟨i,gg,ad,rfl,hi,UG,h2,h6,h8,h9,dX,WI,Bd,rfl⟩;have tO:=Dj t Bs C c i;rcases ajr i (t.length+1) with aB|iA
  ·have aH:(i:Int)<((t.length+1:Nat):Int):=by omega
   have GB:=BU t Bs C c i;have Yt:=Qc t Bs C i c;have hf2:=λ(s:List VL.Obj) (K:V->List VL.Obj->Prop)=>yu s K i ae ad UG;generalize gk t Bs C i c=R at *;obtain⟨r1,ad2⟩:=R;simp only at GB Yt hf2;simp only[zQ,simprocAttr,h2,h6,h8,h9,dX,WI,Bd,aH];refine hf2 _ _ _ _ _ _ _ rfl rfl rfl rfl ?_;simp only[ajw,aju];have g1:∀g l,(RT g l).g=g:=λ_ _=>rfl;have g2:∀g l,(RT g l).sz=3:=λ_ _=>rfl;cases r1 with
   |none =>
    have he:gG t Bs C c (i+1)=gG t Bs C c i:=by rw[GB];simp
    simp only[zQ,simprocAttr,h2,h6,h8,h9,dX,WI,Bd,kA.v,Option.isSome_none];refine⟨t.length+1-(i+1),_,_,ae,bJ.cut (s':=[⟨0,true,10,[[i64 re.op,.d (.sl (re.set.map aU)),.d (.sl (re.kids.map Re.cells)),i64 re.mn,i64 re.mx,i64 re.mode,i64 re.n,bV re.neg,i64 ai,bV aF]]⟩,MR t rd pd 2 n,fX 0 Bs,VJ 1 C.length b a C,bw 0 ad2,RT gg (gG t Bs C c i)]) 6 ae rfl ?_ [2,6,8,9,10,34,35] (by simp [bX,aY,ak,h2,h6,h8,h9,dX,WI,Bd,i64]),i+1,gg,ad2,rfl,aB,Yt,?_,?_,?_,?_,?_,?_,?_,by rw[he];rfl⟩ <;> (try simp only[zU,gV,cy,cJ,dV,reduceIte])
    ·have hb:=ij 6 0 Bs;simp only[ajS,ajV,Ux 6 1 _ _ _ ae,oF,RX,ajk];simp [bc,MR,ak,i64,bV,hb]
    ·exact h2
    ·exact h6
    ·exact h8
    ·exact h9
    ·rw[he];exact dX
    ·exact WI
    ·rw[bF _ ae];rfl
   |some r =>
    have he:gG t Bs C c (i+1)=gG t Bs C c i++[r]:=by rw[GB];rfl
    simp only[zQ,simprocAttr,h2,h6,h8,h9,dX,WI,Bd,kA.v,Option.isSome_some,g1,g2,ai7];have uS:(⟨gg+1,true,3,List.take (gG t Bs C c i).length (RT gg (gG t Bs C c i)).aw++[[V.d (.sc (.int .i64 (Lx (some r)).s)),V.d (.sc (.int .i64 (Lx (some r)).e)),V.d (df (Lx (some r)).c)]]⟩:VL.Obj)=RT (gg+1) (gG t Bs C c (i+1)):=by rw[he];simp [RT,Om,Lx,iD];rw[ajb aj]
    refine⟨λe he=>by rw[List.mem_singleton.1 he];rfl,⟨rfl,by simp [RT],ae⟩,?_⟩;refine⟨t.length+1-(i+1),_,_,ae,bJ.cut (s':=[⟨0,true,10,[[i64 re.op,.d (.sl (re.set.map aU)),.d (.sl (re.kids.map Re.cells)),i64 re.mn,i64 re.mx,i64 re.mode,i64 re.n,bV re.neg,i64 ai,bV aF]]⟩,MR t rd pd 2 n,fX 0 Bs,VJ 1 C.length b a C,bw 0 ad2,RT (gg+1) (gG t Bs C c (i+1))]) 6 ae ?_ ?_ [2,6,8,9,10,34,35] (by simp [bX,aY,ak,h2,h6,h8,h9,dX,WI,Bd,i64]),i+1,gg+1,ad2,rfl,aB,Yt,?_,?_,?_,?_,?_,?_,?_,rfl⟩ <;> (try simp only[zU,gV,cy,cJ,dV,reduceIte])
    ·rw[<- uS];rfl
    ·have hb:=ij 6 0 Bs;simp only[ajS,ajV,Ux 6 1 _ _ _ ae,oF,RX,ajk];simp [bc,MR,ak,i64,bV,hb]
    ·exact h2
    ·exact h6
    ·exact h8
    ·exact h9
    ·rw[he,ai6];rfl
    ·exact WI
    ·rw[bF _ ae];rfl
  ·have dY:i=t.length+1:=by omega
   subst dY;simp only[zQ,simprocAttr,h2,h6,h8,h9,dX,WI,Bd,ajZ,RT];rw[be aj,g9 7 0 _ _ _ aj];rfl
 ·have Jq:pj p t=[]:=be h;rw[Jq];have he:=Av p t hf h hl;generalize dz p t=se at *;clear hf Jq;cases p with
  |mk re ai aF =>
  unfold aE at he;simp only[Re.ah,aiZ,ai2,aiX,ai0,i64,iD,bD,bV,an]at he;refine bk Try.func8 Try.ntmps8 Try.results8 0 51539623927 ?_;simp only[zI,simprocAttr,aE,Re.ah,bV,iD,bD,an];refine bO he ?_;simp only[zQ,simprocAttr,an,ne_eq,h,not_false_eq_true];all_goals rfl
def V2 (x:Int):Re:=.mk 1 [(x,x)] [] 0 0 0 0 false
def E0:eJ:=⟨.mk 2 [] [V2 97,.mk 7 [] [V2 98] 0 0 0 0 false] 0 0 0 0 false,0,false⟩
def K2:eJ:=⟨.mk 2 [] [.mk 8 [] [V2 97] 0 0 0 0 true,V2 98] 0 0 0 0 false,0,false⟩
set_option maxRecDepth 100000
set_option maxHeartbeats 4000000
theorem aep:dz E0 [97,98,97,97]=0:=by decide +kernel
theorem abd:dz K2 [97,98]=0:=by decide +kernel
theorem ad0:JB E0 [97,98,97,97]=[[false,true,false,false,false]]:=by decide +kernel
theorem adL:JB K2 [97,98]=[[true,false,true]]:=by decide +kernel
theorem adh:Fh E0 [97,98,97,97] 0=0:=by decide +kernel
theorem Ah {α:Type}{a b:List α}{i:Nat}{x y:α} (ha:a[i]?=some x) (hb:b[i]?=some y):a.take (i+1)=b.take (i+1) ↔ a.take i=b.take i/\x=y:=by
 rw[bj ha,bj hb];constructor
 ·intro h;have hl:(a.take i).length=(b.take i).length:=by have:=(List.getElem?_eq_some_iff.1 ha).1;have:=(List.getElem?_eq_some_iff.1 hb).1;rw[aj3,aj3];omega
  obtain⟨h1,h2⟩:=List.append_inj h hl;exact⟨h1,by simpa using h2⟩
 ·rintro ⟨h1,rfl⟩;rw[h1]
def oQ (l:List (List Bool)):D:=.sl (l.map λl=>[.sl (l.map λb=>[bD b])])
theorem Cb (a b:List (List Bool)) (h1:a.length<=1000000) (h2:∀x∈a,x.length<=1000000):aM Try.prog 32 [.d (oQ a),.d (oQ b)] (bV (decide (a=b))):=by
 refine bk Try.func32 Try.ntmps32 Try.results32 0 115 ?_;by_cases hl:a.length=b.length
 ·have Cm:((a.length:Int)=(b.length:Int))=True:=eq_true ae;simp only[zQ,simprocAttr,oQ,aiW,Cm,ne_eq,not_true_eq_false];refine ay (λn e s=>∃i:Nat,n=a.length-i/\i<=a.length/\e 0=.d (oQ a)/\e 1=.d (oQ b)/\e 5=i64 i/\a.take i=b.take i/\s=[])
   ⟨_,_,_,bJ.refl,0,rfl,ae,rfl,rfl,rfl,aj,rfl⟩ ?_
  rintro n e s ⟨i,rfl,hi,q0,q1,q5,hT,rfl⟩;rcases ajr i a.length with aB|iA
  ·have aH:(i:Int)<(a.length:Int):=by omega
   have Qx:(i:Int)<(b.length:Int):=ae;have hi0:(0:Int)<=(i:Int):=ae;obtain⟨x,hx⟩:∃x,a[i]?=some x:=bZ aB;obtain⟨y,hy⟩:∃y,b[i]?=some y:=bZ;have GO:=h2 x (ai4 hx);simp only[oQ]at q0 q1;by_cases RJ:x.length=y.length
   ·have YU:((x.length:Int)=(y.length:Int))=True:=eq_true ae;simp only[zQ,simprocAttr,oQ,q0,q1,q5,aH,Qx,hi0,aiW,aiY,hx,hy,ai3,ai1];refine aA mix [] [] aN ?_;simp only[zQ,simprocAttr,oQ,q0,q1,q5,aH,Qx,hi0,aiW,aiY,hx,hy,ai3,ai1,YU,ne_eq,not_true_eq_false];refine ay (λn e s=>∃j:Nat,n=x.length-j/\j<=x.length/\e 0=.d (oQ a)/\e 1=.d (oQ b)/\e 5=i64 i/\e 6=i64 j/\x.take j=y.take j/\s=[])
     ⟨_,_,_,bJ.refl,0,rfl,ae,by (try simp only[zU,gV,cy,cJ,dV,reduceIte]);exact q0,by (try simp only[zU,gV,cy,cJ,dV,reduceIte]);exact q1,by (try simp only[zU,gV,cy,cJ,dV,reduceIte]);exact q5,rfl,aj,rfl⟩ ?_
    clear q0 q1 q5;rintro n e s ⟨j,rfl,hj,q0,q1,q5,q6,hTj,rfl⟩;simp only[oQ]at q0 q1;rcases ajr j x.length with jlt|jge
    ·have T6:(j:Int)<(x.length:Int):=by omega
     have jlb:(j:Int)<(y.length:Int):=ae;have UE:(0:Int)<=(j:Int):=ae;obtain⟨u,hu⟩:∃u,x[j]?=some u:=bZ jlt;obtain⟨v,hv⟩:∃v,y[j]?=some v:=bZ;have rG:∀{z:List Bool}{w:Bool},z[j]?=some w->(z.map λb=>[D.sc (Value.bool b)])[j]?=some [D.sc (Value.bool w)]:=λh=>by rw[aiY,h];rfl
     have GB:=Ah hu hv;have hw:IntKind.i64.wrap ((j:Int)+1)=((j+1:Nat):Int):=by rw[bF _ ae];rfl
     simp only[zQ,simprocAttr,oQ,q0,q1,q5,q6,aH,Qx,hi0,T6,jlb,UE,aiW,aiY,hx,hy,hu,hv,ai3,ai1];refine aA mix [] [] aN ?_;by_cases V0:u=v
     ·have huv:(u == v)=true:=by rw[V0];exact beq_self_eq_true v
      simp only[zQ,simprocAttr,oQ,q0,q1,q5,q6,aH,Qx,hi0,T6,jlb,UE,aiW,aiY,hx,hy,hu,hv,ai3,ai1,hw,huv,ne_eq,not_true_eq_false,not_false_eq_true];refine⟨x.length-(j+1),_,_,ae,bJ.refl,j+1,rfl,jlt,?_,?_,?_,?_,GB.2 ⟨hTj,V0⟩,rfl⟩ <;> (try simp only[zU,gV,cy,cJ,dV,reduceIte])
      ·exact q0
      ·exact q1
      ·exact q5
     ·have huv:(u == v)=false:=by cases u <;> cases v <;> first|rfl|exact absurd rfl V0
      have dP:a≠b:=λh=>V0 (by rw[h,hy]at hx;cases hx;rw[hu]at hv;cases hv;rfl);simp only[zQ,simprocAttr,oQ,q0,q1,q5,q6,aH,Qx,hi0,T6,jlb,UE,aiW,aiY,hx,hy,hu,hv,ai3,ai1,hw,huv,ne_eq,not_true_eq_false,not_false_eq_true,ce dP]
    ·have NI:j=x.length:=by omega
     subst NI;have T6:¬(x.length:Int)<(x.length:Int):=ae;simp only[zQ,simprocAttr,oQ,q0,q1,q5,q6,aH,Qx,hi0,T6,aiW,aiY,hx,hy,ai3,ai1];have Oj:x=y:=by rw[ajt,RJ,ajt]at hTj;exact hTj
     have hw:IntKind.i64.wrap ((i:Int)+1)=((i+1:Nat):Int):=by rw[bF _ ae];rfl
     refine⟨a.length-(i+1),_,_,ae,bJ.refl,i+1,rfl,aB,?_,?_,?_,(Ah hx hy).2 ⟨hT,Oj⟩,rfl⟩ <;> (try simp only[zU,gV,cy,cJ,dV,reduceIte])
     ·exact q0
     ·exact q1
     ·rw[hw]
   ·have YU:¬((x.length:Int)=(y.length:Int)):=by omega
    have dP:a≠b:=λh=>RJ (by rw[h,hy]at hx;cases hx;rfl);simp only[zQ,simprocAttr,oQ,q0,q1,q5,aH,Qx,hi0,aiW,aiY,hx,hy,ai3,ai1];refine aA mix [] [] aN ?_;simp only[zQ,simprocAttr,oQ,q0,q1,q5,aH,Qx,hi0,aiW,aiY,hx,hy,ai3,ai1,YU,ne_eq,not_false_eq_true,ce dP]
  ·have dY:i=a.length:=by omega
   subst dY;have aH:¬(a.length:Int)<(a.length:Int):=ae;have hab:a=b:=by rw[ajt,hl,ajt]at hT;exact hT
   simp only[oQ]at q0 q1;simp only[zQ,simprocAttr,oQ,q0,q1,q5,aH,aiW,bi hab]
 ·have Cm:¬((a.length:Int)=(b.length:Int)):=by omega
  have dP:a≠b:=λh=>hl (by rw[h]);simp only[zQ,simprocAttr,oQ,aiW,Cm,ne_eq,not_false_eq_true,ce dP]
set_option maxRecDepth 100000
set_option maxHeartbeats 16000000
theorem acY:pj K2 [97,98]=[]:=by decide +kernel
theorem aak:(tm E0 [97,98,97,97] 0).isSome=true/\(Lx (tm E0 [97,98,97,97] 0)).e=1:=by decide +kernel
theorem VN:E0.re.cN=true/\K2.re.cN=true:=by decide +kernel
theorem gP {P:Program}{f:FuncId}{args:List V} (cargs:List V) {s:List VL.Obj}{K:V->List VL.Obj->Prop} (hc:bm.go s.length s args=some cargs) (h:az P f cargs s K):az P f args s K:=bL [] hc h
theorem Qq:aM Try.prog 15 [] (bV true):=by have b1:=Md E0 [97,98,97,97] VN.1 aJ;have b2:=P5 E0 [97,98,97,97] 0 VN.1 aJ;have b3:=Md K2 [97,98] VN.2 aJ;have b4:=Gz K2 [97,98] VN.2 aJ;rw[aep,ad0]at b1;rw[adh,aak.1]at b2;rw[abd,adL]at b3;rw[abd,acY]at b4;have hm:=aak.2;generalize Lx (tm E0 [97,98,97,97] 0)=m at *;have s1:=Cb [[false,true,false,false,false]] [[false,true,false,false,false]] aJ aJ;have s2:=Cb [[true,false,true]] [[true,false,true]] aJ aJ;rw[bi rfl]at s1 s2;refine bk Try.func15 Try.ntmps15 Try.results15 0 16383 ?_;simp only[zQ,simprocAttr,an];refine gP [aE E0,.d (an [97,98,97,97])] rfl ?_;refine bO b1 ?_;simp only[zQ,simprocAttr,an,uR];refine gP [aE E0,.d (an [97,98,97,97]),i64 0] rfl ?_;refine bO b2 ?_;simp only[zQ,simprocAttr,an,uR,kA.v];refine gP [aE K2,.d (an [97,98])] rfl ?_;refine bO b3 ?_;simp only[zQ,simprocAttr,an,uR];refine gP [aE K2,.d (an [97,98])] rfl ?_;refine bO b4 ?_;have hz0:(((0:Nat):Int)=0)=True:=eq_true rfl;simp only[zQ,simprocAttr,an,uR,hm,hz0];refine gP [.d (oQ [[false,true,false,false,false]]),.d (oQ [[false,true,false,false,false]])] rfl ?_;refine bO s1 ?_;simp only[zQ,simprocAttr,an,uR,hm,hz0];refine gP [.d (oQ [[true,false,true]]),.d (oQ [[true,false,true]])] rfl ?_;refine bO s2 ?_;simp only[zQ,simprocAttr,an,uR,hm,hz0]
end Go.Proofs.Ytfmdmlfhigocaaa
