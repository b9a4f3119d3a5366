/- A part of the proof (O38 O39 O40 O41 O42 O43). -/
import Derived.Test.YtjjfioalgbecmaaGreatOQ47
set_option linter.unusedSimpArgs false
set_option linter.unusedVariables false
open Nat renaming reduceShiftRight → jN, reduceMod → oN, reduceEqDiff → oV, reduceAdd → oW, reduceBEq → pZ
set_option maxRecDepth 100000
set_option maxHeartbeats 80000000
namespace Go.Proofs.YtjjfioalgbecmaaGreat
open Go.VL
variable{t:List Int}{s:List VL.Obj}{K:V->List VL.Obj->Prop}{Bs:List (List Bool)}{root:D}{nb:Nat}{parts:D}
def ja (p:iM):List aq:=p.re.emit 0 []++[bw]
structure afk (p:iM) (t:List Int):Prop where
 XX:p.re.every NR=true
 eC:p.re.eC<=1000000
 eF:nj t (aY t (p.re.bz 0) (p.re.bz 0).length) (ja p)
 sv:He (ja p) (2*p.ai.toNat)
 c0:0<=p.ai
 c1:p.ai<=9
 tl:t.length<=65536
 len:0<(ja p).length
theorem zV {p:iM} (h:c9 p t=0):afk p t:=by
 obtain⟨a1,a2,a3⟩:=AB h;obtain⟨b1,b2,b3⟩:=FZ a1;obtain⟨v1,v2,v3,v4,v5⟩:=ed b1;have Q8:=qu v4 p.re v5 v1;unfold mi at b3;have hsh:=(Bool.and_eq_true_iff.1 b3).1;have hl:1+iR p.re<=8192:=of_decide_eq_true hsh;have hoc:p.re.eC<=8191:=by unfold iR at hl;omega
 have ON:=Re.uT p.re 0;refine⟨DG Q8,ae,yX t _ p.re Q8 0 ae (λj _ hj=>lj t _ _ j ae ae),?_,v3,v4,a2,by simp [ja]⟩;have hc:p.ai=(p.ai.toNat:Int):=ae;rw[hc]at v5;exact Q6 v5 0
theorem ou{k:Nat}{o:VL.Obj} (h:s[k]?=some o):s.set k o=s:=by
 apply List.ext_getElem?;intro j;by_cases hj:j=k
 ·subst hj;rw[List.getElem?_set_self (List.getElem?_eq_some_iff.1 h).1,h]
 ·rw[List.getElem?_set_ne (Ne.symm hj)]
def VX (k g b a:Nat) (C:List aq):VL.Obj:=aN [k] (cN g b a C)
theorem M5 (k:Nat) (ρ:List Nat) (b a:Nat) (x:Option (Re×Nat)):aE (k::ρ) (cj b a x)=aE [k] (cj b a x):=by
 cases x with
 |none=>rfl
 |some x =>
  obtain⟨re,j⟩:=x;unfold cj;simp only;split
  ·rfl
  ·split <;> rfl
theorem C0 (k:Nat) (ρ:List Nat) (g b a:Nat) (C:List aq):aN (k::ρ) (cN g b a C)=VX k g b a C:=by unfold VX aN cN;simp only[akq];congr 1;apply akz;intro i _;simp [aq.cells,M5 k ρ,aE,aE.go,i64]
theorem Cs{re:Re} (hs:re.every NR=true) (hz:re.eC<=1000000) (k:Nat)
  (h0:s[k]?=some (L9 t root parts (k+1) nb)) (h1:s[k+1]?=some (fx 0 Bs))
  (hk:∀b a,K (.so s.length (re.emit 0 []++[bw]).length 0 (re.emit 0 []++[bw]).length) (s++[VX k (re.emit 0 []++[bw]).length b a (re.emit 0 []++[bw])])) :
  ar Tryz.prog 30 [.rf k 0 0 0,.d (re.bk 0)] s K:=by
 have hc:ar Tryz.prog 30 [.rf 0 0 0 0,.d (re.bk 0)] [dz t root parts 0 nb,fx 0 Bs] λv s=>∃b a,v=.so 2 (re.emit 0 []++[bw]).length 0 (re.emit 0 []++[bw]).length/\s=[dz t root parts 0 nb,fx 0 Bs,cN (re.emit 0 []++[bw]).length b a (re.emit 0 []++[bw])] :=
  zG hs hz 0 λb a=>⟨b,a,rfl,rfl⟩
 have e6:∀ρ,aN (k::(k+1)::ρ) (dz t root parts 0 nb)=L9 t root parts (k+1) nb:=λρ=>rfl;refine g9 hc [k,k+1] rfl ak (λj o ho=>?_) rfl (by simp [aj,aj.go]) ?_ ?_
 ·match j with
  |0=>cases ho;rw[e6];exact h0
  |1=>cases ho;rw[fr];exact h1
  |j+2=>simp at ho
 ·have hb:=gu 2 0 Bs;simp only[aks,akB,ajW,ajX,ajT,oW,aj4];simp [aK,dz,aj,hb]
 rintro v s' ⟨b,a,rfl,rfl⟩ _;generalize re.emit 0 []++[bw]=C at *;have e1:pY [k,k+1] s [dz t root parts 0 nb,fx 0 Bs] [dz t root parts 0 nb,fx 0 Bs,cN C.length b a C]=[k,k+1,s.length]:=rfl;rw[e1];have e5:aE [k,k+1,s.length] (.so 2 C.length 0 C.length)=.so s.length C.length 0 C.length:=rfl;rw[e5];simp only[ajW,ajX,ajT,oW,akO,akW,List.drop_succ_cons,akJ,ajR,ajV,e6,fr,C0,aJ];rw[ou h0,ou h1];exact hk b a
theorem AO{g b a:Nat}{C:List aq}{q c:Nat} (hg:nj t Bs C) (Rj:He C (2*c)) (hc:c<=1000) (nD:nb=Bs.length) (ht:t.length<=1000000) (hC:0<C.length) {p:Nat} (hp:p<=t.length) {ad:List Nat} (UN:ad.length=C.length)
  (k j i:Nat) (hnd:[k,k+1,j,i].Nodup) (h0:s[k]?=some (L9 t root parts (k+1) nb)) (h1:s[k+1]?=some (fx 0 Bs)) (h2:s[j]?=some (VX k g b a C)) (h3:s[i]?=some (bp q ad))
  (hk:K (.tu [(Tx (fL t Bs C p c).1).v,bV (fL t Bs C p c).1.isSome]) (s.set i (bp q (fL t Bs C p c).2))) :
  ar Tryz.prog 31 [.rf k 0 0 0,.so j g 0 C.length,.so i q 0 C.length,i64 p,i64 c] s K:=by
 have e6:∀ρ,aN (k::(k+1)::ρ) (dz t root parts 0 nb)=L9 t root parts (k+1) nb:=λρ=>rfl;refine cV [k,k+1,j,i] (PT t root parts 0 nb Bs g b a C q hg c Rj hc nD ht hC p hp ad UN) hnd rfl ?_ ?_ cB ?_ (r':=.tu [(Tx (fL t Bs C p c).1).v,bV (fL t Bs C p c).1.isSome]) ?_ ?_
 ·simp only[ajR,ajV,e6,fr,C0,nS,h0,h1,h2,h3]
 ·simp [aE,i64]
 ·have hb:=gu 4 0 Bs;simp only[aks,akB,ajW,ajX,ajT,oW,kv 4 _ _ _ ae,nq,aj4];simp [aK,dz,aj,hb]
 ·simp [aE,aE.go,jy.v,i64,bV]
 ·simp only[ajR,ajV,e6,fr,C0,nS,aJ];rw[ou h0,ou h1,ou h2];exact hk
def IE (p:iM) (t:List Int) (x:Int):Option jy:=if c9 p t≠0\/x<0\/(t.length:Int)<x then none else (fL t (aY t (p.re.bz 0) (p.re.bz 0).length) (ja p) x.toNat p.ai.toNat).1
def tV (p:iM) (t:List Int) (x:Int):Int:=if c9 p t≠0 then c9 p t else if x<0\/(t.length:Int)<x then 5 else 0
theorem WO (p:iM) (t:List Int) (x:Int) (hf:p.re.dx=true) (hl:t.length<=1000000):aM Tryz.prog 10 [bI p,.d (ao t),i64 x] (.tu [(Tx (IE p t x)).v,bV (IE p t x).isSome,i64 (tV p t x)]):=by
 by_cases h:c9 p t=0
 ·obtain⟨XX,eC,eF,sv,c0,c1,tl,V3⟩:=zV h;have bH:=λs K hk=>tt hf h (s:=s) (K:=K) hk;have QF:=fV t (p.re.bz 0) (p.re.bz 0).length;by_cases hx:x<0\/(t.length:Int)<x
  ·have Gd:IE p t x=none:=be (.inr hx);have BP:tV p t x=5:=by unfold tV;rw[ap (by rw[h];simp),be hx]
   rw[Gd,BP];generalize aY t (p.re.bz 0) (p.re.bz 0).length=Bs at *;generalize (p.re.bz 0).length=n at *;generalize p.re.bk 0=rd at *;generalize ef (p.re.bz 0)=pd at *;clear Gd BP h XX eC eF sv c0 c1 V3 hf;cases p with
   |mk re ai aB =>
   unfold bI at bH;simp only[Re.ah,ajR,ajV,ajN,ajO,i64,iD,bD,bV,ao]at bH;by_cases Mo:x<0
   ·refine bo Tryz.func10 Tryz.ntmps10 Tryz.results10 0 16335 ?_;simp only[zI,simprocAttr,bI,Re.ah,bV,iD,bD,ao];refine bH _ _ ?_;simp only[zQ,simprocAttr,ao,L9,ajW,ajX,ajT,ajN,ajO,ne_eq,not_true_eq_false,ajM,Mo];rfl
   ·have BR:(t.length:Int)<x:=hx.resolve_left Mo;refine bo Tryz.func10 Tryz.ntmps10 Tryz.results10 0 16335 ?_;simp only[zI,simprocAttr,bI,Re.ah,bV,iD,bD,ao];refine bH _ _ ?_;simp only[zQ,simprocAttr,ao,L9,ajW,ajX,ajT,ajN,ajO,ne_eq,not_true_eq_false,ajM,Mo,BR,gt_iff_lt];rfl
  ·obtain⟨y,rfl⟩:∃y:Nat,x=y:=⟨x.toNat,ae⟩
   have hy:y<=t.length:=ae;have hy1:¬(t.length:Int)<(y:Int):=ae;have hy0:¬(y:Int)<0:=ae;have Gd:IE p t y=(fL t (aY t (p.re.bz 0) (p.re.bz 0).length) (ja p) y p.ai.toNat).1:=by unfold IE;rw[ap (by rw[h];omega)];rfl
   have BP:tV p t y=0:=by unfold tV;rw[ap (by rw[h];simp),bd]
   rw[Gd,BP];have mM:=λ(s:List VL.Obj) (K:V->List VL.Obj->Prop) (root parts:D) (nb:Nat) (Bs:List (List Bool))=>Cs (t:=t) (root:=root) (parts:=parts) (nb:=nb) (Bs:=Bs) XX eC 2 (s:=s) (K:=K);have xj:=λ(s:List VL.Obj) (K:V->List VL.Obj->Prop) (root parts:D) (g b a:Nat)=>AO (root:=root) (parts:=parts) (g:=g) (b:=b) (a:=a) (q:=1) eF sv ae QF.symm hl V3 hy (ad:=List.replicate (ja p).length 0) ak (s:=s) (K:=K) 2 4 5 aU;have ia:=eF.len;have Xw:p.re.emit 0 []++[bw]=ja p:=rfl;rw[Xw]at mM;have J5:(p.ai.toNat:Int)=p.ai:=ae;rw[J5]at xj;generalize aY t (p.re.bz 0) (p.re.bz 0).length=Bs at *;generalize (p.re.bz 0).length=n at *;generalize ja p=C at *;generalize p.re.bk 0=rd at *;generalize ef (p.re.bz 0)=pd at *;generalize fL t Bs C y p.ai.toNat=R at *;clear Gd BP h XX eC eF sv c0 c1 hf Xw J5;cases p with
   |mk re ai aB =>
   unfold bI at bH;simp only[Re.ah,ajR,ajV,ajN,ajO,i64,iD,bD,bV,ao]at bH xj mM;refine bo Tryz.func10 Tryz.ntmps10 Tryz.results10 0 16335 ?_;simp only[zI,simprocAttr,bI,Re.ah,bV,iD,bD,ao];refine bH _ _ ?_;simp only[zQ,simprocAttr,ao,L9,ajW,ajX,ajT,ajN,ajO,ne_eq,not_true_eq_false,ajM,hy0,hy1,gt_iff_lt];refine mM _ _ _ _ _ _ rfl rfl (λb a=>?_);simp only[zQ,simprocAttr,ajW,ajX,ajT,oW,ajN,ajO];refine aX bW.bn ?_;refine aX bW.bn ?_;refine cu mix [] [(4,[5],[5]),(6,[0],[]),(7,[0],[]),(8,[2,3,4,5],[5]),(12,[6],[6]),(13,[6],[6])] ?_;simp only[zQ,simprocAttr,ajW,ajX,ajT,oW,ajN,ajO,hole,QQ,Value.oneCell'];refine⟨⟨akc _,ae,ae⟩,?_⟩;have hnz:(⟨1,true,1,List.replicate C.length [V.d (.sc (.int .i64 0))]⟩:VL.Obj)=bp 1 (List.replicate C.length 0):=by simp [bp,i64]
   refine⟨.tu [(Tx R.1).v,bV R.1.isSome],[bp 1 R.2],rfl,λs' _ jz=>?_,?_⟩
   ·exact xj s' _ _ _ _ _ _ (jz 2 ak) (jz 3 ak) (jz 4 ak) ((jz 5 ak).trans (congrArg some hnz)) ⟨rfl,rfl⟩
   ·simp only[zQ,simprocAttr,jy.v,aJ,ajW,ajX,ajT,oW,ajN,ajO]
 ·have Gd:IE p t x=none:=be (.inl h);have BP:tV p t x=c9 p t:=by unfold tV;rw[be h]
  rw[Gd,BP];have he:=tY p t hf h hl;generalize c9 p t=se at *;clear hf Gd BP;cases p with
  |mk re ai aB =>
  unfold bI at he;simp only[Re.ah,ajR,ajV,ajN,ajO,i64,iD,bD,bV,ao]at he;refine bo Tryz.func10 Tryz.ntmps10 Tryz.results10 0 16335 ?_;simp only[zI,simprocAttr,bI,Re.ah,bV,iD,bD,ao];refine dY he ?_;simp only[zQ,simprocAttr,ao,ne_eq,h,not_false_eq_true];rfl
def WC (m:jy):List D:=[iD m.s,iD m.e,cQ m.c]
def gW (t:List Int) (Bs:List (List Bool)) (C:List aq) (c i:Nat):List jy:=(List.range i).filterMap λj=>(fL t Bs C j c).1
theorem AT (t:List Int) (Bs:List (List Bool)) (C:List aq) (c i:Nat):gW t Bs C c (i+1)=gW t Bs C c i++(fL t Bs C i c).1.toList:=by unfold gW;rw[alb,List.filterMap_append];cases h:(fL t Bs C i c).1 <;> simp [h]
theorem B5 (t:List Int) (Bs:List (List Bool)) (C:List aq) (c i:Nat):(gW t Bs C c i).length<=i:=by unfold gW;exact akS (List.length_filterMap_le _ _) ak
theorem Gr {t:List Int}{Bs:List (List Bool)}{C:List aq}{b c:Nat}:∀(k p:Nat) (st:fE) (gb:Nat) (ig:Option jy),vK C c st->(mm t Bs C b c k p st gb ig).2.length=C.length
 |0,_,_,_,_,h=>h.ad
 |k+1,p,st,gb,ig,h=>by
  rw[mm];split
  ·exact h.ad
  ·refine Gr k _ _ _ _ (rH (p:=p) st.rd ⟨st.ad,false,[],gb⟩ h.th ⟨h.ad,ak,ak⟩ ?_).1;have:jd (p+1) st.ad<=st.ad.length:=akP;have:=h.ad;unfold l8;simp only[ajX];omega
theorem Px (t:List Int) (Bs:List (List Bool)) (C:List aq) (p c:Nat):(fL t Bs C p c).2.length=C.length:=by unfold fL;refine Gr _ _ _ _ _ ?_;unfold mJ;refine(zH (p:=p) ⟨ak,ak,ak⟩ ?_ (by simp [lI])).1;have:jd p (List.replicate C.length 0)<=(List.replicate C.length 0).length:=akP;unfold l8;simp only[akK,ajX]at *;omega
def Rr (g:Nat) (l:List jy):VL.Obj:=⟨g,true,3,(l.map WC).map λc=>c.map V.d⟩
theorem Rw (n g:Nat) (l:List jy):aK n (Rr g l)=true:=by unfold aK Rr;rw[aj3];intro e he;obtain⟨x,hx,rfl⟩:=List.mem_map.1 he;rw[aj3];intro y hy;obtain⟨d,_,rfl⟩:=List.mem_map.1 hy;rfl
theorem Uy (n k g b a:Nat) (hk:k<n) (C:List aq):aK n (VX k g b a C)=true:=by
 have hp:∀x,aj n (aE [k] (cj b a x))=true:=by
  intro x;cases x with
  |none=>rfl
  |some x =>
   obtain⟨re,j⟩:=x;unfold cj;simp only;split
   ·simp [aE,aE.go,mB,nB,aj,aj.go,hk]
   ·split <;> simp [aE,aE.go,mB,nB,aj,aj.go,hk]
 unfold aK VX aN cN;rw[aj3];intro e he;simp only[akq]at he;obtain⟨i,_,rfl⟩:=List.mem_map.1 he;simp [aq.cells,aE,aE.go,i64,aj,hp]
def kt (p:iM) (t:List Int):List jy:=if c9 p t≠0 then [] else gW t (aY t (p.re.bz 0) (p.re.bz 0).length) (ja p) p.ai.toNat (t.length+1)
theorem y7 (p:iM) (t:List Int) (hf:p.re.dx=true) (hl:t.length<=1000000):aM Tryz.prog 16 [bI p,.d (ao t)] (.tu [.d (.sl ((kt p t).map WC)),i64 (c9 p t)]):=by
 by_cases h:c9 p t=0
 ·obtain⟨XX,eC,eF,sv,c0,c1,tl,V3⟩:=zV h;have bH:=λs K hk=>tt hf h (s:=s) (K:=K) hk;have QF:=fV t (p.re.bz 0) (p.re.bz 0).length;have Gd:kt p t=gW t (aY t (p.re.bz 0) (p.re.bz 0).length) (ja p) p.ai.toNat (t.length+1):=ap (by rw[h];simp);rw[Gd,h];have mM:=λ(s:List VL.Obj) (K:V->List VL.Obj->Prop) (root parts:D) (nb:Nat) (Bs:List (List Bool))=>Cs (t:=t) (root:=root) (parts:=parts) (nb:=nb) (Bs:=Bs) XX eC 1 (s:=s) (K:=K);have xj:=λ(s:List VL.Obj) (K:V->List VL.Obj->Prop) (y:Nat) (hy:y<=t.length) (ad:List Nat) (UN:ad.length=(ja p).length) (root parts:D) (g b a:Nat)=>AO (root:=root) (parts:=parts) (g:=g) (b:=b) (a:=a) (q:=0) eF sv ae QF.symm hl V3 hy UN (s:=s) (K:=K) 1 3 4 aU;have ia:=eF.len;have Xw:p.re.emit 0 []++[bw]=ja p:=rfl;rw[Xw]at mM;have J5:(p.ai.toNat:Int)=p.ai:=ae;simp only[J5]at xj;generalize aY t (p.re.bz 0) (p.re.bz 0).length=Bs at *;generalize (p.re.bz 0).length=n at *;generalize ja p=C at *;generalize p.re.bk 0=rd at *;generalize ef (p.re.bz 0)=pd at *;clear Gd h XX eC eF sv c0 c1 hf Xw;cases p with
  |mk re ai aB =>
  simp only at J5;generalize Int.toNat ai=c at *;unfold bI at bH;simp only[Re.ah,ajR,ajV,ajN,ajO,i64,iD,bD,bV,ao]at bH xj mM;have w1:IntKind.i64.wrap ((t.length:Int)+1)=((t.length+1:Nat):Int):=by rw[bG _ ae];rfl
  have hnz:∀g,(⟨g,true,1,List.replicate C.length [V.d (.sc (.int .i64 0))]⟩:VL.Obj)=bp g (List.replicate C.length 0):=λg=>by simp [bp,i64]
  refine bo Tryz.func16 Tryz.ntmps16 Tryz.results16 0 51539623927 ?_;simp only[zI,simprocAttr,bI,Re.ah,bV,iD,bD,ao];refine bH _ _ ?_;simp only[zQ,simprocAttr,ao,L9,ajW,ajX,ajT,ajN,ajO,ne_eq,not_true_eq_false,ajM];refine mM _ _ _ _ _ _ rfl rfl (λb a=>?_);simp only[zQ,simprocAttr,ajW,ajX,ajM,ao,ajT,oW,ajN,ajO,w1];refine⟨⟨akc _,ae,ae⟩,?_⟩;refine aw (λm e s=>∃(i gg:Nat) (ad:List Nat),m=t.length+1-i/\i<=t.length+1/\ad.length=C.length/\e 2=.rf 0 0 0 0/\e 6=.rf 1 0 0 0/\e 8=.so 3 C.length 0 C.length/\e 9=.so 4 0 0 C.length/\e 10=.so 5 gg 0 (gW t Bs C c i).length/\e 34=i64 ((t.length+1:Nat):Int)/\e 35=i64 i /\
    s=[⟨0,true,10,[[i64 re.op,.d (.sl (re.set.map aT)),.d (.sl (re.kids.map Re.cells)),i64 re.mn,i64 re.mx,i64 re.mode,i64 re.n,bV re.neg,i64 ai,bV aB]]⟩,L9 t rd pd 2 n,fx 0 Bs,VX 1 C.length b a C,bp 0 ad,Rr gg (gW t Bs C c i)])
   ⟨_,_,_,.K4 (fW 10 3 rfl),0,0,List.replicate C.length 0,rfl,ae,ak,rfl,rfl,rfl,rfl,rfl,rfl,rfl,by rw[<- hnz];rfl⟩ ?_
  rintro m e s ⟨i,gg,ad,rfl,hi,UN,h2,h6,h8,h9,cA,Xc,Ae,rfl⟩;have sE:=B5 t Bs C c i;rcases akd i (t.length+1) with az|gx
  ·have aA:(i:Int)<((t.length+1:Nat):Int):=by omega
   have Mq:=AT t Bs C c i;have YK:=Px t Bs C i c;have hf2:=λ(s:List VL.Obj) (K:V->List VL.Obj->Prop)=>xj s K i ae ad UN;generalize fL t Bs C i c=R at *;obtain⟨r1,ad2⟩:=R;simp only at Mq YK hf2;simp only[zQ,simprocAttr,h2,h6,h8,h9,cA,Xc,Ae,aA];refine hf2 _ _ _ _ _ _ _ rfl rfl rfl rfl ?_;simp only[akf,aj9];have g1:∀g l,(Rr g l).g=g:=λ_ _=>rfl;have g2:∀g l,(Rr g l).sz=3:=λ_ _=>rfl;cases r1 with
   |none =>
    have he:gW t Bs C c (i+1)=gW t Bs C c i:=by rw[Mq];simp
    simp only[zQ,simprocAttr,h2,h6,h8,h9,cA,Xc,Ae,jy.v,Option.isSome_none];refine⟨t.length+1-(i+1),_,_,ae,bA.cut (s':=[⟨0,true,10,[[i64 re.op,.d (.sl (re.set.map aT)),.d (.sl (re.kids.map Re.cells)),i64 re.mn,i64 re.mx,i64 re.mode,i64 re.n,bV re.neg,i64 ai,bV aB]]⟩,L9 t rd pd 2 n,fx 0 Bs,VX 1 C.length b a C,bp 0 ad2,Rr gg (gW t Bs C c i)]) 6 ae rfl ?_ [2,6,8,9,10,34,35] (by simp [bK,aS,aj,h2,h6,h8,h9,cA,Xc,Ae,i64]),i+1,gg,ad2,rfl,az,YK,?_,?_,?_,?_,?_,?_,?_,by rw[he];rfl⟩ <;> (try simp only[zU,pZ,jN,oN,oV,reduceIte])
    ·have hb:=gu 6 0 Bs;simp only[aks,akB,Uy 6 1 _ _ _ ae,nq,Rw,aj4];simp [aK,L9,aj,i64,bV,hb]
    ·exact h2
    ·exact h6
    ·exact h8
    ·exact h9
    ·rw[he];exact cA
    ·exact Xc
    ·rw[bG _ ae];rfl
   |some r =>
    have he:gW t Bs C c (i+1)=gW t Bs C c i++[r]:=by rw[Mq];rfl
    simp only[zQ,simprocAttr,h2,h6,h8,h9,cA,Xc,Ae,jy.v,Option.isSome_some,g1,g2,ajT];have Qo:(⟨gg+1,true,3,List.take (gW t Bs C c i).length (Rr gg (gW t Bs C c i)).au++[[V.d (.sc (.int .i64 (Tx (some r)).s)),V.d (.sc (.int .i64 (Tx (some r)).e)),V.d (cQ (Tx (some r)).c)]]⟩:VL.Obj)=Rr (gg+1) (gW t Bs C c (i+1)):=by rw[he];simp [Rr,WC,Tx,iD];rw[akb ak]
    refine⟨λe he=>by rw[List.mem_singleton.1 he];rfl,⟨rfl,by simp [Rr],ae⟩,?_⟩;refine⟨t.length+1-(i+1),_,_,ae,bA.cut (s':=[⟨0,true,10,[[i64 re.op,.d (.sl (re.set.map aT)),.d (.sl (re.kids.map Re.cells)),i64 re.mn,i64 re.mx,i64 re.mode,i64 re.n,bV re.neg,i64 ai,bV aB]]⟩,L9 t rd pd 2 n,fx 0 Bs,VX 1 C.length b a C,bp 0 ad2,Rr (gg+1) (gW t Bs C c (i+1))]) 6 ae ?_ ?_ [2,6,8,9,10,34,35] (by simp [bK,aS,aj,h2,h6,h8,h9,cA,Xc,Ae,i64]),i+1,gg+1,ad2,rfl,az,YK,?_,?_,?_,?_,?_,?_,?_,rfl⟩ <;> (try simp only[zU,pZ,jN,oN,oV,reduceIte])
    ·rw[<- Qo];rfl
    ·have hb:=gu 6 0 Bs;simp only[aks,akB,Uy 6 1 _ _ _ ae,nq,Rw,aj4];simp [aK,L9,aj,i64,bV,hb]
    ·exact h2
    ·exact h6
    ·exact h8
    ·exact h9
    ·rw[he,ajQ];rfl
    ·exact Xc
    ·rw[bG _ ae];rfl
  ·have dX:i=t.length+1:=by omega
   subst dX;simp only[zQ,simprocAttr,h2,h6,h8,h9,cA,Xc,Ae,aku,Rr];rw[be ak,js 7 0 _ _ _ ak];rfl
 ·have Gd:kt p t=[]:=be h;rw[Gd];have he:=tY p t hf h hl;generalize c9 p t=se at *;clear hf Gd;cases p with
  |mk re ai aB =>
  unfold bI at he;simp only[Re.ah,ajR,ajV,ajN,ajO,i64,iD,bD,bV,ao]at he;refine bo Tryz.func16 Tryz.ntmps16 Tryz.results16 0 51539623927 ?_;simp only[zI,simprocAttr,bI,Re.ah,bV,iD,bD,ao];refine dY he ?_;simp only[zQ,simprocAttr,ao,ne_eq,h,not_false_eq_true];all_goals rfl
def Wm (x:Int):Re:=.mk 1 [(x,x)] [] 0 0 0 0 false
def DF:iM:=⟨.mk 2 [] [Wm 97,.mk 7 [] [Wm 98] 0 0 0 0 false] 0 0 0 0 false,0,false⟩
def Kp:iM:=⟨.mk 2 [] [.mk 8 [] [Wm 97] 0 0 0 0 true,Wm 98] 0 0 0 0 false,0,false⟩
set_option maxRecDepth 100000
set_option maxHeartbeats 4000000
theorem afi:c9 DF [97,98,97,97]=0:=by decide +kernel
theorem abF:c9 Kp [97,98]=0:=by decide +kernel
theorem aeQ:Cd DF [97,98,97,97]=[[false,true,false,false,false]]:=by decide +kernel
theorem aeu:Cd Kp [97,98]=[[true,false,true]]:=by decide +kernel
theorem adU:tV DF [97,98,97,97] 0=0:=by decide +kernel
theorem yP {α:Type}{a b:List α}{i:Nat}{x y:α} (ha:a[i]?=some x) (hb:b[i]?=some y):a.take (i+1)=b.take (i+1) ↔ a.take i=b.take i/\x=y:=by
 rw[bm ha,bm hb];constructor
 ·intro h;have hl:(a.take i).length=(b.take i).length:=by have:=(List.getElem?_eq_some_iff.1 ha).1;have:=(List.getElem?_eq_some_iff.1 hb).1;rw[akH,akH];omega
  obtain⟨h1,h2⟩:=List.append_inj h hl;exact⟨h1,by simpa using h2⟩
 ·rintro ⟨h1,rfl⟩;rw[h1]
def nH (l:List (List Bool)):D:=.sl (l.map λl=>[.sl (l.map λb=>[bD b])])
theorem Bb (a b:List (List Bool)) (h1:a.length<=1000000) (h2:∀x∈a,x.length<=1000000):aM Tryz.prog 28 [.d (nH a),.d (nH b)] (bV (decide (a=b))):=by
 refine bo Tryz.func28 Tryz.ntmps28 Tryz.results28 0 115 ?_;by_cases hl:a.length=b.length
 ·have D8:((a.length:Int)=(b.length:Int))=True:=eq_true ae;simp only[zQ,simprocAttr,nH,ajM,D8,ne_eq,not_true_eq_false];refine aw (λn e s=>∃i:Nat,n=a.length-i/\i<=a.length/\e 0=.d (nH a)/\e 1=.d (nH b)/\e 5=i64 i/\a.take i=b.take i/\s=[])
   ⟨_,_,_,bA.refl,0,rfl,ae,rfl,rfl,rfl,ak,rfl⟩ ?_
  rintro n e s ⟨i,rfl,hi,q0,q1,q5,hT,rfl⟩;rcases akd i a.length with az|gx
  ·have aA:(i:Int)<(a.length:Int):=by omega
   have PN:(i:Int)<(b.length:Int):=ae;have hi0:(0:Int)<=(i:Int):=ae;obtain⟨x,hx⟩:∃x,a[i]?=some x:=cc az;obtain⟨y,hy⟩:∃y,b[i]?=some y:=cc;have UK:=h2 x (List.mem_of_getElem? hx);simp only[nH]at q0 q1;by_cases Rh:x.length=y.length
   ·have Zb:((x.length:Int)=(y.length:Int))=True:=eq_true ae;simp only[zQ,simprocAttr,nH,q0,q1,q5,aA,PN,hi0,ajM,List.getElem?_map,hx,hy,ajS,ajP];refine cu mix [] [] ?_;simp only[zQ,simprocAttr,nH,q0,q1,q5,aA,PN,hi0,ajM,List.getElem?_map,hx,hy,ajS,ajP,Zb,ne_eq,not_true_eq_false];refine aw (λn e s=>∃j:Nat,n=x.length-j/\j<=x.length/\e 0=.d (nH a)/\e 1=.d (nH b)/\e 5=i64 i/\e 6=i64 j/\x.take j=y.take j/\s=[])
     ⟨_,_,_,bA.refl,0,rfl,ae,by (try simp only[zU,pZ,jN,oN,oV,reduceIte]);exact q0,by (try simp only[zU,pZ,jN,oN,oV,reduceIte]);exact q1,by (try simp only[zU,pZ,jN,oN,oV,reduceIte]);exact q5,rfl,ak,rfl⟩ ?_
    clear q0 q1 q5;rintro n e s ⟨j,rfl,hj,q0,q1,q5,q6,hTj,rfl⟩;simp only[nH]at q0 q1;rcases akd j x.length with jlt|jge
    ·have Ud:(j:Int)<(x.length:Int):=by omega
     have jlb:(j:Int)<(y.length:Int):=ae;have L8:(0:Int)<=(j:Int):=ae;obtain⟨u,hu⟩:∃u,x[j]?=some u:=cc jlt;obtain⟨v,hv⟩:∃v,y[j]?=some v:=cc;have qx:∀{z:List Bool}{w:Bool},z[j]?=some w->(z.map λb=>[D.sc (Value.bool b)])[j]?=some [D.sc (Value.bool w)]:=λh=>by rw[List.getElem?_map,h];rfl
     have Mq:=yP hu hv;have hw:IntKind.i64.wrap ((j:Int)+1)=((j+1:Nat):Int):=by rw[bG _ ae];rfl
     simp only[zQ,simprocAttr,nH,q0,q1,q5,q6,aA,PN,hi0,Ud,jlb,L8,ajM,List.getElem?_map,hx,hy,hu,hv,ajS,ajP];refine cu mix [] [] ?_;by_cases Wj:u=v
     ·have huv:(u == v)=true:=by rw[Wj];exact beq_self_eq_true v
      simp only[zQ,simprocAttr,nH,q0,q1,q5,q6,aA,PN,hi0,Ud,jlb,L8,ajM,List.getElem?_map,hx,hy,hu,hv,ajS,ajP,hw,huv,ne_eq,not_true_eq_false,not_false_eq_true];refine⟨x.length-(j+1),_,_,ae,bA.refl,j+1,rfl,jlt,?_,?_,?_,?_,Mq.2 ⟨hTj,Wj⟩,rfl⟩ <;> (try simp only[zU,pZ,jN,oN,oV,reduceIte])
      ·exact q0
      ·exact q1
      ·exact q5
     ·have huv:(u == v)=false:=by cases u <;> cases v <;> first|rfl|exact absurd rfl Wj
      have eU:a≠b:=λh=>Wj (by rw[h,hy]at hx;cases hx;rw[hu]at hv;cases hv;rfl);simp only[zQ,simprocAttr,nH,q0,q1,q5,q6,aA,PN,hi0,Ud,jlb,L8,ajM,List.getElem?_map,hx,hy,hu,hv,ajS,ajP,hw,huv,ne_eq,not_true_eq_false,not_false_eq_true,ce eU]
    ·have Ks:j=x.length:=by omega
     subst Ks;have Ud:¬(x.length:Int)<(x.length:Int):=ae;simp only[zQ,simprocAttr,nH,q0,q1,q5,q6,aA,PN,hi0,Ud,ajM,List.getElem?_map,hx,hy,ajS,ajP];have hxe:x=y:=by rw[akg,Rh,akg]at hTj;exact hTj
     have hw:IntKind.i64.wrap ((i:Int)+1)=((i+1:Nat):Int):=by rw[bG _ ae];rfl
     refine⟨a.length-(i+1),_,_,ae,bA.refl,i+1,rfl,az,?_,?_,?_,(yP hx hy).2 ⟨hT,hxe⟩,rfl⟩ <;> (try simp only[zU,pZ,jN,oN,oV,reduceIte])
     ·exact q0
     ·exact q1
     ·rw[hw]
   ·have Zb:¬((x.length:Int)=(y.length:Int)):=by omega
    have eU:a≠b:=λh=>Rh (by rw[h,hy]at hx;cases hx;rfl);simp only[zQ,simprocAttr,nH,q0,q1,q5,aA,PN,hi0,ajM,List.getElem?_map,hx,hy,ajS,ajP];refine cu mix [] [] ?_;simp only[zQ,simprocAttr,nH,q0,q1,q5,aA,PN,hi0,ajM,List.getElem?_map,hx,hy,ajS,ajP,Zb,ne_eq,not_false_eq_true,ce eU]
  ·have dX:i=a.length:=by omega
   subst dX;have aA:¬(a.length:Int)<(a.length:Int):=ae;have hab:a=b:=by rw[akg,hl,akg]at hT;exact hT
   simp only[nH]at q0 q1;simp only[zQ,simprocAttr,nH,q0,q1,q5,aA,ajM,bi hab]
 ·have D8:¬((a.length:Int)=(b.length:Int)):=by omega
  have eU:a≠b:=λh=>hl (by rw[h]);simp only[zQ,simprocAttr,nH,ajM,D8,ne_eq,not_false_eq_true,ce eU]
set_option maxRecDepth 100000
set_option maxHeartbeats 16000000
theorem adB:kt Kp [97,98]=[]:=by decide +kernel
theorem aaC:(IE DF [97,98,97,97] 0).isSome=true/\(Tx (IE DF [97,98,97,97] 0)).e=1:=by decide +kernel
theorem V2:DF.re.dx=true/\Kp.re.dx=true:=by decide +kernel
theorem jG {P:Program}{f:FuncId}{args:List V} (cargs:List V) {s:List VL.Obj}{K:V->List VL.Obj->Prop} (hc:bc.go s.length s args=some cargs) (h:ar P f cargs s K):ar P f args s K:=bE [] hc h
theorem F8:aM Tryz.prog 9 [] (bV true):=by have b1:=DN DF [97,98,97,97] V2.1 aU;have b2:=WO DF [97,98,97,97] 0 V2.1 aU;have b3:=DN Kp [97,98] V2.2 aU;have b4:=y7 Kp [97,98] V2.2 aU;rw[afi,aeQ]at b1;rw[adU,aaC.1]at b2;rw[abF,aeu]at b3;rw[abF,adB]at b4;have hm:=aaC.2;generalize Tx (IE DF [97,98,97,97] 0)=m at *;have s1:=Bb [[false,true,false,false,false]] [[false,true,false,false,false]] aU aU;have s2:=Bb [[true,false,true]] [[true,false,true]] aU aU;rw[bi rfl]at s1 s2;refine bo Tryz.func9 Tryz.ntmps9 Tryz.results9 0 16383 ?_;simp only[zQ,simprocAttr,ao];refine jG [bI DF,.d (ao [97,98,97,97])] rfl ?_;refine dY b1 ?_;simp only[zQ,simprocAttr,ao,sy];refine jG [bI DF,.d (ao [97,98,97,97]),i64 0] rfl ?_;refine dY b2 ?_;simp only[zQ,simprocAttr,ao,sy,jy.v];refine jG [bI Kp,.d (ao [97,98])] rfl ?_;refine dY b3 ?_;simp only[zQ,simprocAttr,ao,sy];refine jG [bI Kp,.d (ao [97,98])] rfl ?_;refine dY b4 ?_;have ZY:(((0:Nat):Int)=0)=True:=eq_true rfl;simp only[zQ,simprocAttr,ao,sy,hm,ZY];refine jG [.d (nH [[false,true,false,false,false]]),.d (nH [[false,true,false,false,false]])] rfl ?_;refine dY s1 ?_;simp only[zQ,simprocAttr,ao,sy,hm,ZY];refine jG [.d (nH [[true,false,true]]),.d (nH [[true,false,true]])] rfl ?_;refine dY s2 ?_;simp only[zQ,simprocAttr,ao,sy,hm,ZY]
end Go.Proofs.YtjjfioalgbecmaaGreat
