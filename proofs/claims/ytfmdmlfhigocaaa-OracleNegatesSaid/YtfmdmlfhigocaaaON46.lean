/- A part of the proof (O38 O39 O40 O41 O42 O43 O44). -/
import Derived.Test.YtfmdmlfhigocaaaON34
import Derived.Test.YtfmdmlfhigocaaaON43
import Derived.Test.YtfmdmlfhigocaaaON45
set_option linter.unusedSimpArgs false
set_option linter.unusedVariables false
open Nat renaming reduceShiftRight → cQ, reduceMod → dx, reduceLT → dB, reduceMul → dC, reduceSub → dD, reduceEqDiff → eI, reduceAdd → eJ, reduceLeDiff → fX, reduceBEq → gj
open Int renaming reduceToNat → gl, reduceNeg → ja, reduceLT → jg, reduceLE → jk, reduceEq → mA
set_option maxRecDepth 100000
set_option maxHeartbeats 80000000
namespace Go.Proofs.Ytfmdmlfhigocaaa
open Go.VL
variable{t:List Int}{s:List VL.Obj}{K:V->List VL.Obj->Prop}{Bs:List (List Bool)}{root:D}{nb:Nat}{parts:D}
def pz (p:ic):List ay:=p.re.emit 0 []++[cq]
structure abj (p:ic) (t:List Int):Prop where
 Ux:p.re.every LB=true
 gD:p.re.gD<=1000000
 qi:m8 t (aU t (p.re.bw 0) (p.re.bw 0).length) (pz p)
 sv:E8 (pz p) (2*p.ak.toNat)
 c0:0<=p.ak
 c1:p.ak<=9
 tl:t.length<=65536
 len:0<(pz p).length
theorem EK {p:ic} (h:dg p t=0):abj p t:=by
 obtain⟨a1,a2,a3⟩:=sh h;obtain⟨b1,b2,b3⟩:=yH a1;obtain⟨v1,v2,v3,v4,v5⟩:=db b1;have DL:=nF v4 p.re v5 v1;unfold mS at b3;have hsh:=(Bool.and_eq_true_iff.1 b3).1;have hl:1+dm p.re<=8192:=of_decide_eq_true hsh;have hoc:p.re.gD<=8191:=by unfold dm at hl;omega
 have C7:=Re.nG p.re 0;refine⟨Cz DL,by omega,yu t _ p.re DL 0 (by omega) (λj _ hj=>iW t _ _ j (by omega) (by omega)),?_,v3,v4,a2,by simp [pz]⟩;have hc:p.ak=(p.ak.toNat:Int):=by omega
 rw[hc]at v5;exact On v5 0
theorem ox{k:Nat}{o:VL.Obj} (h:s[k]?=some o):s.set k o=s:=by
 apply agT;intro j;by_cases hj:j=k
 ·subst hj;rw[agc (List.getElem?_eq_some_iff.1 h).1,h]
 ·rw[agp (Ne.symm hj)]
def SK (k g b a:Nat) (C:List ay):VL.Obj:=aT [k] (cG g b a C)
theorem KW (k:Nat) (ρ:List Nat) (b a:Nat) (x:Option (Re×Nat)):aL (k::ρ) (bY b a x)=aL [k] (bY b a x):=by
 cases x with
 |none=>rfl
 |some x =>
  obtain⟨re,j⟩:=x;unfold bY;simp only;split
  ·rfl
  ·split <;> rfl
theorem BZ (k:Nat) (ρ:List Nat) (g b a:Nat) (C:List ay):aT (k::ρ) (cG g b a C)=SK k g b a C:=by unfold SK aT cG;simp only[agy];congr 1;apply agC;intro i _;simp [ay.cells,KW k ρ,aL,aL.go,i64]
theorem Bq{re:Re} (hs:re.every LB=true) (hz:re.gD<=1000000) (k:Nat)
  (h0:s[k]?=some (J4 t root parts (k+1) nb)) (h1:s[k+1]?=some (fr 0 Bs))
  (hk:∀b a,K (.so s.length (re.emit 0 []++[cq]).length 0 (re.emit 0 []++[cq]).length) (s++[SK k (re.emit 0 []++[cq]).length b a (re.emit 0 []++[cq])])) :
  aq Try.prog 28 [.rf k 0 0 0,.d (re.bj 0)] s K:=by
 have hc:aq Try.prog 28 [.rf 0 0 0 0,.d (re.bj 0)] [dp t root parts 0 nb,fr 0 Bs] λv s=>∃b a,v=.so 2 (re.emit 0 []++[cq]).length 0 (re.emit 0 []++[cq]).length/\s=[dp t root parts 0 nb,fr 0 Bs,cG (re.emit 0 []++[cq]).length b a (re.emit 0 []++[cq])] :=
  yV hs hz 0 λb a=>⟨b,a,rfl,rfl⟩
 have e6:∀ρ,aT (k::(k+1)::ρ) (dp t root parts 0 nb)=J4 t root parts (k+1) nb:=λρ=>rfl;refine jc hc [k,k+1] rfl (by simp) (λj o ho=>?_) rfl (by simp [ah,ah.go]) ?_ ?_
 ·match j with
  |0=>cases ho;rw[e6];exact h0
  |1=>cases ho;rw[fh];exact h1
  |j+2=>simp at ho
 ·have hb:=gr 2 0 Bs;simp only[agq,agA,afZ,af0,afX,eJ,af5];simp [aG,dp,ah,hb]
 rintro v s' ⟨b,a,rfl,rfl⟩ _;generalize re.emit 0 []++[cq]=C at *;have e1:uZ [k,k+1] s [dp t root parts 0 nb,fr 0 Bs] [dp t root parts 0 nb,fr 0 Bs,cG C.length b a C]=[k,k+1,s.length]:=rfl;rw[e1];have e5:aL [k,k+1,s.length] (.so 2 C.length 0 C.length)=.so s.length C.length 0 C.length:=rfl;rw[e5];simp only[afZ,af0,afX,eJ,ags,agD,agZ,agH,afR,afU,e6,fh,BZ,aE];rw[ox h0,ox h1];exact hk b a
theorem zK{g b a:Nat}{C:List ay}{q c:Nat} (hg:m8 t Bs C) (OC:E8 C (2*c)) (hc:c<=1000) (nr:nb=Bs.length) (ht:t.length<=1000000) (hC:0<C.length) {p:Nat} (hp:p<=t.length) {ad:List Nat} (RH:ad.length=C.length)
  (k j i:Nat) (rR:[k,k+1,j,i].Nodup) (h0:s[k]?=some (J4 t root parts (k+1) nb)) (h1:s[k+1]?=some (fr 0 Bs)) (h2:s[j]?=some (SK k g b a C)) (h3:s[i]?=some (bo q ad))
  (hk:K (.tu [(QB (iA t Bs C p c).1).v,bV (iA t Bs C p c).1.isSome]) (s.set i (bo q (iA t Bs C p c).2))) :
  aq Try.prog 29 [.rf k 0 0 0,.so j g 0 C.length,.so i q 0 C.length,i64 p,i64 c] s K:=by
 have e6:∀ρ,aT (k::(k+1)::ρ) (dp t root parts 0 nb)=J4 t root parts (k+1) nb:=λρ=>rfl;refine cH [k,k+1,j,i] (Nl t root parts 0 nb Bs g b a C q hg c OC hc nr ht hC p hp ad RH) rR rfl ?_ ?_ (by rfl) ?_ (r':=.tu [(QB (iA t Bs C p c).1).v,bV (iA t Bs C p c).1.isSome]) ?_ ?_
 ·simp only[afR,afU,e6,fh,BZ,nJ,h0,h1,h2,h3]
 ·simp [aL,i64]
 ·have hb:=gr 4 0 Bs;simp only[agq,agA,afZ,af0,afX,eJ,kj 4 _ _ _ (by omega),ni,af5];simp [aG,dp,ah,hb]
 ·simp [aL,aL.go,nK.v,i64,bV]
 ·simp only[afR,afU,e6,fh,BZ,nJ,aE];rw[ox h0,ox h1,ox h2];exact hk
def GG (p:ic) (t:List Int) (x:Int):Option nK:=if dg p t≠0\/x<0\/(t.length:Int)<x then none else (iA t (aU t (p.re.bw 0) (p.re.bw 0).length) (pz p) x.toNat p.ak.toNat).1
def JM (p:ic) (t:List Int) (x:Int):Int:=if dg p t≠0 then dg p t else if x<0\/(t.length:Int)<x then 5 else 0
theorem Tr (p:ic) (t:List Int) (x:Int) (hf:p.re.bC=true) (hl:t.length<=1000000):aO Try.prog 12 [aZ p,.d (al t),i64 x] (.tu [(QB (GG p t x)).v,bV (GG p t x).isSome,i64 (JM p t x)]):=by
 by_cases h:dg p t=0
 ·obtain⟨Ux,gD,qi,sv,c0,c1,tl,SP⟩:=EK h;have cI:=λs K hk=>sI hf h (s:=s) (K:=K) hk;have Ms:=dk t (p.re.bw 0) (p.re.bw 0).length;by_cases hx:x<0\/(t.length:Int)<x
  ·have Ee:GG p t x=none:=be (.inr hx);have C5:JM p t x=5:=by unfold JM;rw[ap (by rw[h];simp),be hx]
   rw[Ee,C5];generalize aU t (p.re.bw 0) (p.re.bw 0).length=Bs at *;generalize (p.re.bw 0).length=n at *;generalize p.re.bj 0=rd at *;generalize dS (p.re.bw 0)=pd at *;clear Ee C5 h Ux gD qi sv c0 c1 SP hf;cases p with
   |mk re ak aN =>
   unfold aZ at cI;simp only[Re.ae,afR,afU,afQ,afS,i64,iD,bD,bV,al]at cI;by_cases R4:x<0
   ·refine an Try.func12 rfl Try.ntmps12 Try.results12 rfl 0 16335 (by simp) (by simp) ?_;simp only[zX,cQ,dx,dB,dC,dD,gl,ja,jg,jk,mA,eI,eJ,fX,reduceIte,reduceCtorEq,gj,i64,aZ,Re.ae,bV,iD,bD,al];refine cI _ _ ?_;simp only[zX,cQ,dx,dB,dC,dD,gl,ja,jg,jk,mA,eI,eJ,fX,reduceIte,reduceCtorEq,gj,i64,bV,iD,bD,al,J4,afZ,af0,afX,afQ,afS,ne_eq,not_true_eq_false,afN,R4];rfl
   ·have Qj:(t.length:Int)<x:=hx.resolve_left R4;refine an Try.func12 rfl Try.ntmps12 Try.results12 rfl 0 16335 (by simp) (by simp) ?_;simp only[zX,cQ,dx,dB,dC,dD,gl,ja,jg,jk,mA,eI,eJ,fX,reduceIte,reduceCtorEq,gj,i64,aZ,Re.ae,bV,iD,bD,al];refine cI _ _ ?_;simp only[zX,cQ,dx,dB,dC,dD,gl,ja,jg,jk,mA,eI,eJ,fX,reduceIte,reduceCtorEq,gj,i64,bV,iD,bD,al,J4,afZ,af0,afX,afQ,afS,ne_eq,not_true_eq_false,afN,R4,Qj,gt_iff_lt];rfl
  ·obtain⟨y,rfl⟩:∃y:Nat,x=y:=⟨x.toNat,by omega⟩
   have hy:y<=t.length:=by omega
   have hy1:¬(t.length:Int)<(y:Int):=by omega
   have UZ:¬(y:Int)<0:=by omega
   have Ee:GG p t y=(iA t (aU t (p.re.bw 0) (p.re.bw 0).length) (pz p) y p.ak.toNat).1:=by unfold GG;rw[ap (by rw[h];omega)];rfl
   have C5:JM p t y=0:=by unfold JM;rw[ap (by rw[h];simp),ap (by omega)]
   rw[Ee,C5];have dR:=λ(s:List VL.Obj) (K:V->List VL.Obj->Prop) (root parts:D) (nb:Nat) (Bs:List (List Bool))=>Bq (t:=t) (root:=root) (parts:=parts) (nb:=nb) (Bs:=Bs) Ux gD 2 (s:=s) (K:=K);have wm:=λ(s:List VL.Obj) (K:V->List VL.Obj->Prop) (root parts:D) (g b a:Nat)=>zK (root:=root) (parts:=parts) (g:=g) (b:=b) (a:=a) (q:=1) qi sv (by omega) Ms.symm hl SP hy (ad:=List.replicate (pz p).length 0) (by simp) (s:=s) (K:=K) 2 4 5 (by decide);have fK:=qi.len;have xI:p.re.emit 0 []++[cq]=pz p:=rfl;rw[xI]at dR;have H8:(p.ak.toNat:Int)=p.ak:=by omega
   rw[H8]at wm;generalize aU t (p.re.bw 0) (p.re.bw 0).length=Bs at *;generalize (p.re.bw 0).length=n at *;generalize pz p=C at *;generalize p.re.bj 0=rd at *;generalize dS (p.re.bw 0)=pd at *;generalize iA t Bs C y p.ak.toNat=R at *;clear Ee C5 h Ux gD qi sv c0 c1 hf xI H8;cases p with
   |mk re ak aN =>
   unfold aZ at cI;simp only[Re.ae,afR,afU,afQ,afS,i64,iD,bD,bV,al]at cI wm dR;refine an Try.func12 rfl Try.ntmps12 Try.results12 rfl 0 16335 (by simp) (by simp) ?_;simp only[zX,cQ,dx,dB,dC,dD,gl,ja,jg,jk,mA,eI,eJ,fX,reduceIte,reduceCtorEq,gj,i64,aZ,Re.ae,bV,iD,bD,al];refine cI _ _ ?_;simp only[zX,cQ,dx,dB,dC,dD,gl,ja,jg,jk,mA,eI,eJ,fX,reduceIte,reduceCtorEq,gj,i64,bV,iD,bD,al,J4,afZ,af0,afX,afQ,afS,ne_eq,not_true_eq_false,afN,UZ,hy1,gt_iff_lt];refine dR _ _ _ _ _ _ rfl rfl (λb a=>?_);simp only[zX,cQ,dx,dB,dC,dD,gl,ja,jg,jk,mA,eI,eJ,fX,reduceIte,reduceCtorEq,gj,i64,bV,iD,bD,afZ,af0,afX,eJ,afQ,afS];refine aS bO.bf ?_;refine aS bO.bf ?_;refine ar mix [] [(4,[5],[5]),(6,[0],[]),(7,[0],[]),(8,[2,3,4,5],[5]),(12,[6],[6]),(13,[6],[6])] (by rfl) ?_;simp only[zX,cQ,dx,dB,dC,dD,gl,ja,jg,jk,mA,eI,eJ,fX,reduceIte,reduceCtorEq,gj,i64,bV,iD,bD,afZ,af0,afX,eJ,afQ,afS,hole,Tf,Value.oneCell'];refine⟨⟨agn _,by omega,by omega⟩,?_⟩;have ZA:(⟨1,true,1,List.replicate C.length [V.d (.sc (.int .i64 0))]⟩:VL.Obj)=bo 1 (List.replicate C.length 0):=by simp [bo,i64]
   refine⟨.tu [(QB R.1).v,bV R.1.isSome],[bo 1 R.2],rfl,λs' _ kJ=>?_,?_⟩
   ·exact wm s' _ _ _ _ _ _ (kJ 2 (by simp)) (kJ 3 (by simp)) (kJ 4 (by simp)) ((kJ 5 (by simp)).trans (congrArg some ZA)) ⟨rfl,rfl⟩
   ·simp only[zX,cQ,dx,dB,dC,dD,gl,ja,jg,jk,mA,eI,eJ,fX,reduceIte,reduceCtorEq,gj,i64,bV,iD,bD,nK.v,aE,afZ,af0,afX,eJ,afQ,afS]
 ·have Ee:GG p t x=none:=be (.inl h);have C5:JM p t x=dg p t:=by unfold JM;rw[be h]
  rw[Ee,C5];have he:=yy p t hf h hl;generalize dg p t=se at *;clear hf Ee C5;cases p with
  |mk re ak aN =>
  unfold aZ at he;simp only[Re.ae,afR,afU,afQ,afS,i64,iD,bD,bV,al]at he;refine an Try.func12 rfl Try.ntmps12 Try.results12 rfl 0 16335 (by simp) (by simp) ?_;simp only[zX,cQ,dx,dB,dC,dD,gl,ja,jg,jk,mA,eI,eJ,fX,reduceIte,reduceCtorEq,gj,i64,aZ,Re.ae,bV,iD,bD,al];refine aj he rfl rfl ?_;simp only[zX,cQ,dx,dB,dC,dD,gl,ja,jg,jk,mA,eI,eJ,fX,reduceIte,reduceCtorEq,gj,i64,bV,iD,bD,al,ne_eq,h,not_false_eq_true];rfl
def mtD (m:nK):List D:=[iD m.s,iD m.e,cM m.c]
def iz (t:List Int) (Bs:List (List Bool)) (C:List ay) (c i:Nat):List nK:=(List.range i).filterMap λj=>(iA t Bs C j c).1
theorem IF (t:List Int) (Bs:List (List Bool)) (C:List ay) (c i:Nat):iz t Bs C c (i+1)=iz t Bs C c i++(iA t Bs C i c).1.toList:=by unfold iz;rw[List.range_succ,List.filterMap_append];cases h:(iA t Bs C i c).1 <;> simp [h]
theorem Kg (t:List Int) (Bs:List (List Bool)) (C:List ay) (c i:Nat):(iz t Bs C c i).length<=i:=by unfold iz;exact ag4 (List.length_filterMap_le _ _) (by simp)
theorem Et {t:List Int}{Bs:List (List Bool)}{C:List ay}{b c:Nat}:∀(k p:Nat) (st:il) (gb:Nat) (iC:Option nK),vg C c st->(sN t Bs C b c k p st gb iC).2.length=C.length
 |0,_,_,_,_,h=>h.ad
 |k+1,p,st,gb,iC,h=>by
  rw[sN];split
  ·exact h.ad
  ·refine Et k _ _ _ _ (qR (p:=p) st.rd ⟨st.ad,false,[],gb⟩ h.th ⟨h.ad,by simp,by simp⟩ ?_).1;have:iM (p+1) st.ad<=st.ad.length:=ag5;have:=h.ad;unfold lL;simp only[af0];omega
theorem MR (t:List Int) (Bs:List (List Bool)) (C:List ay) (p c:Nat):(iA t Bs C p c).2.length=C.length:=by unfold iA;refine Et _ _ _ _ _ ?_;unfold xU;refine(yW (p:=p) ⟨by simp,by simp,by simp⟩ ?_ (by simp [nt])).1;have:iM p (List.replicate C.length 0)<=(List.replicate C.length 0).length:=ag5;unfold lL;simp only[ahe,af0]at *;omega
def OH (g:Nat) (l:List nK):VL.Obj:=⟨g,true,3,(l.map mtD).map λc=>c.map V.d⟩
theorem OM (n g:Nat) (l:List nK):aG n (OH g l)=true:=by unfold aG OH;rw[af8];intro e he;obtain⟨x,hx,rfl⟩:=List.mem_map.1 he;rw[af8];intro y hy;obtain⟨d,_,rfl⟩:=List.mem_map.1 hy;rfl
theorem Ry (n k g b a:Nat) (hk:k<n) (C:List ay):aG n (SK k g b a C)=true:=by
 have hp:∀x,ah n (aL [k] (bY b a x))=true:=by
  intro x;cases x with
  |none=>rfl
  |some x =>
   obtain⟨re,j⟩:=x;unfold bY;simp only;split
   ·simp [aL,aL.go,mB,nB,ah,ah.go,hk]
   ·split <;> simp [aL,aL.go,mB,nB,ah,ah.go,hk]
 unfold aG SK aT cG;rw[af8];intro e he;simp only[agy]at he;obtain⟨i,_,rfl⟩:=List.mem_map.1 he;simp [ay.cells,aL,aL.go,i64,ah,hp]
def Fx (p:ic) (t:List Int):List nK:=if dg p t≠0 then [] else iz t (aU t (p.re.bw 0) (p.re.bw 0).length) (pz p) p.ak.toNat (t.length+1)
theorem MS (p:ic) (t:List Int) (hf:p.re.bC=true) (hl:t.length<=1000000):aO Try.prog 8 [aZ p,.d (al t)] (.tu [.d (.sl ((Fx p t).map mtD)),i64 (dg p t)]):=by
 by_cases h:dg p t=0
 ·obtain⟨Ux,gD,qi,sv,c0,c1,tl,SP⟩:=EK h;have cI:=λs K hk=>sI hf h (s:=s) (K:=K) hk;have Ms:=dk t (p.re.bw 0) (p.re.bw 0).length;have Ee:Fx p t=iz t (aU t (p.re.bw 0) (p.re.bw 0).length) (pz p) p.ak.toNat (t.length+1):=ap (by rw[h];simp);rw[Ee,h];have dR:=λ(s:List VL.Obj) (K:V->List VL.Obj->Prop) (root parts:D) (nb:Nat) (Bs:List (List Bool))=>Bq (t:=t) (root:=root) (parts:=parts) (nb:=nb) (Bs:=Bs) Ux gD 1 (s:=s) (K:=K);have wm:=λ(s:List VL.Obj) (K:V->List VL.Obj->Prop) (y:Nat) (hy:y<=t.length) (ad:List Nat) (RH:ad.length=(pz p).length) (root parts:D) (g b a:Nat)=>zK (root:=root) (parts:=parts) (g:=g) (b:=b) (a:=a) (q:=0) qi sv (by omega) Ms.symm hl SP hy RH (s:=s) (K:=K) 1 3 4 (by decide);have fK:=qi.len;have xI:p.re.emit 0 []++[cq]=pz p:=rfl;rw[xI]at dR;have H8:(p.ak.toNat:Int)=p.ak:=by omega
  simp only[H8]at wm;generalize aU t (p.re.bw 0) (p.re.bw 0).length=Bs at *;generalize (p.re.bw 0).length=n at *;generalize pz p=C at *;generalize p.re.bj 0=rd at *;generalize dS (p.re.bw 0)=pd at *;clear Ee h Ux gD qi sv c0 c1 hf xI;cases p with
  |mk re ak aN =>
  simp only at H8;generalize Int.toNat ak=c at *;unfold aZ at cI;simp only[Re.ae,afR,afU,afQ,afS,i64,iD,bD,bV,al]at cI wm dR;have w1:IntKind.i64.wrap ((t.length:Int)+1)=((t.length+1:Nat):Int):=by rw[bd _ (by omega)];rfl
  have ZA:∀g,(⟨g,true,1,List.replicate C.length [V.d (.sc (.int .i64 0))]⟩:VL.Obj)=bo g (List.replicate C.length 0):=λg=>by simp [bo,i64]
  refine an Try.func8 rfl Try.ntmps8 Try.results8 rfl 0 51539623927 (by simp) (by simp) ?_;simp only[zX,cQ,dx,dB,dC,dD,gl,ja,jg,jk,mA,eI,eJ,fX,reduceIte,reduceCtorEq,gj,i64,aZ,Re.ae,bV,iD,bD,al];refine cI _ _ ?_;simp only[zX,cQ,dx,dB,dC,dD,gl,ja,jg,jk,mA,eI,eJ,fX,reduceIte,reduceCtorEq,gj,i64,bV,iD,bD,al,J4,afZ,af0,afX,afQ,afS,ne_eq,not_true_eq_false,afN];refine dR _ _ _ _ _ _ rfl rfl (λb a=>?_);simp only[zX,cQ,dx,dB,dC,dD,gl,ja,jg,jk,mA,eI,eJ,fX,reduceIte,reduceCtorEq,gj,i64,bV,iD,bD,afZ,af0,afN,al,afX,eJ,afQ,afS,w1];refine⟨⟨agn _,by omega,by omega⟩,?_⟩;refine au (λm e s=>∃(i gg:Nat) (ad:List Nat),m=t.length+1-i/\i<=t.length+1/\ad.length=C.length/\e 2=.rf 0 0 0 0/\e 6=.rf 1 0 0 0/\e 8=.so 3 C.length 0 C.length/\e 9=.so 4 0 0 C.length/\e 10=.so 5 gg 0 (iz t Bs C c i).length/\e 34=i64 ((t.length+1:Nat):Int)/\e 35=i64 i /\
    s=[⟨0,true,10,[[i64 re.op,.d (.sl (re.set.map aV)),.d (.sl (re.kids.map Re.cells)),i64 re.mn,i64 re.mx,i64 re.mode,i64 re.n,bV re.neg,i64 ak,bV aN]]⟩,J4 t rd pd 2 n,fr 0 Bs,SK 1 C.length b a C,bo 0 ad,OH gg (iz t Bs C c i)])
   ⟨_,_,_,.DD (eE 10 3 rfl),0,0,List.replicate C.length 0,rfl,by omega,by simp,rfl,rfl,rfl,rfl,rfl,rfl,rfl,by rw[<- ZA];rfl⟩ ?_
  rintro m e s ⟨i,gg,ad,rfl,hi,RH,h2,h6,h8,h9,du,TL,zd,rfl⟩;have qX:=Kg t Bs C c i;rcases agi i (t.length+1) with az|fI
  ·have aC:(i:Int)<((t.length+1:Nat):Int):=by omega
   have DZ:=IF t Bs C c i;have Vo:=MR t Bs C i c;have hf2:=λ(s:List VL.Obj) (K:V->List VL.Obj->Prop)=>wm s K i (by omega) ad RH;generalize iA t Bs C i c=R at *;obtain⟨r1,Zi⟩:=R;simp only at DZ Vo hf2;simp only[zX,cQ,dx,dB,dC,dD,gl,ja,jg,jk,mA,eI,eJ,fX,reduceIte,reduceCtorEq,gj,i64,bV,iD,bD,h2,h6,h8,h9,du,TL,zd,aC];refine hf2 _ _ _ _ _ _ _ rfl rfl rfl rfl ?_;simp only[agf,agd];have g1:∀g l,(OH g l).g=g:=λ_ _=>rfl;have g2:∀g l,(OH g l).sz=3:=λ_ _=>rfl;cases r1 with
   |none =>
    have he:iz t Bs C c (i+1)=iz t Bs C c i:=by rw[DZ];simp
    simp only[zX,cQ,dx,dB,dC,dD,gl,ja,jg,jk,mA,eI,eJ,fX,reduceIte,reduceCtorEq,gj,i64,bV,iD,bD,h2,h6,h8,h9,du,TL,zd,nK.v,Option.isSome_none];refine⟨t.length+1-(i+1),_,_,by omega,br.cut (s':=[⟨0,true,10,[[i64 re.op,.d (.sl (re.set.map aV)),.d (.sl (re.kids.map Re.cells)),i64 re.mn,i64 re.mx,i64 re.mode,i64 re.n,bV re.neg,i64 ak,bV aN]]⟩,J4 t rd pd 2 n,fr 0 Bs,SK 1 C.length b a C,bo 0 Zi,OH gg (iz t Bs C c i)]) 6 (by omega) rfl ?_ [2,6,8,9,10,34,35] (by simp [bz,aH,ah,h2,h6,h8,h9,du,TL,zd,i64]),i+1,gg,Zi,rfl,az,Vo,?_,?_,?_,?_,?_,?_,?_,by rw[he];rfl⟩ <;> (try simp only[zU,gj,cQ,dx,eI,reduceIte])
    ·have hb:=gr 6 0 Bs;simp only[agq,agA,Ry 6 1 _ _ _ (by omega),ni,OM,af5];simp [aG,J4,ah,i64,bV,hb]
    ·exact h2
    ·exact h6
    ·exact h8
    ·exact h9
    ·rw[he];exact du
    ·exact TL
    ·rw[bd _ (by omega)];rfl
   |some r =>
    have he:iz t Bs C c (i+1)=iz t Bs C c i++[r]:=by rw[DZ];rfl
    simp only[zX,cQ,dx,dB,dC,dD,gl,ja,jg,jk,mA,eI,eJ,fX,reduceIte,reduceCtorEq,gj,i64,bV,iD,bD,h2,h6,h8,h9,du,TL,zd,nK.v,Option.isSome_some,g1,g2,afX];have NQ:(⟨gg+1,true,3,List.take (iz t Bs C c i).length (OH gg (iz t Bs C c i)).aw++[[V.d (.sc (.int .i64 (QB (some r)).s)),V.d (.sc (.int .i64 (QB (some r)).e)),V.d (cM (QB (some r)).c)]]⟩:VL.Obj)=OH (gg+1) (iz t Bs C c (i+1)):=by rw[he];simp [OH,mtD,QB,iD];rw[af1 (by simp)]
    refine⟨λe he=>by rw[List.mem_singleton.1 he];rfl,⟨rfl,by simp [OH],by omega⟩,?_⟩;refine⟨t.length+1-(i+1),_,_,by omega,br.cut (s':=[⟨0,true,10,[[i64 re.op,.d (.sl (re.set.map aV)),.d (.sl (re.kids.map Re.cells)),i64 re.mn,i64 re.mx,i64 re.mode,i64 re.n,bV re.neg,i64 ak,bV aN]]⟩,J4 t rd pd 2 n,fr 0 Bs,SK 1 C.length b a C,bo 0 Zi,OH (gg+1) (iz t Bs C c (i+1))]) 6 (by omega) ?_ ?_ [2,6,8,9,10,34,35] (by simp [bz,aH,ah,h2,h6,h8,h9,du,TL,zd,i64]),i+1,gg+1,Zi,rfl,az,Vo,?_,?_,?_,?_,?_,?_,?_,rfl⟩ <;> (try simp only[zU,gj,cQ,dx,eI,reduceIte])
    ·rw[<- NQ];rfl
    ·have hb:=gr 6 0 Bs;simp only[agq,agA,Ry 6 1 _ _ _ (by omega),ni,OM,af5];simp [aG,J4,ah,i64,bV,hb]
    ·exact h2
    ·exact h6
    ·exact h8
    ·exact h9
    ·rw[he,af7];rfl
    ·exact TL
    ·rw[bd _ (by omega)];rfl
  ·have cV:i=t.length+1:=by omega
   subst cV;simp only[zX,cQ,dx,dB,dC,dD,gl,ja,jg,jk,mA,eI,eJ,fX,reduceIte,reduceCtorEq,gj,i64,bV,iD,bD,h2,h6,h8,h9,du,TL,zd,agO,OH];rw[be (by simp),eH 7 0 _ _ _ (by simp)];rfl
 ·have Ee:Fx p t=[]:=be h;rw[Ee];have he:=yy p t hf h hl;generalize dg p t=se at *;clear hf Ee;cases p with
  |mk re ak aN =>
  unfold aZ at he;simp only[Re.ae,afR,afU,afQ,afS,i64,iD,bD,bV,al]at he;refine an Try.func8 rfl Try.ntmps8 Try.results8 rfl 0 51539623927 (by simp) (by simp) ?_;simp only[zX,cQ,dx,dB,dC,dD,gl,ja,jg,jk,mA,eI,eJ,fX,reduceIte,reduceCtorEq,gj,i64,aZ,Re.ae,bV,iD,bD,al];refine aj he rfl rfl ?_;simp only[zX,cQ,dx,dB,dC,dD,gl,ja,jg,jk,mA,eI,eJ,fX,reduceIte,reduceCtorEq,gj,i64,bV,iD,bD,al,ne_eq,h,not_false_eq_true];all_goals rfl
def S4 (x:Int):Re:=.mk 1 [(x,x)] [] 0 0 0 0 false
def Cy:ic:=⟨.mk 2 [] [S4 97,.mk 7 [] [S4 98] 0 0 0 0 false] 0 0 0 0 false,0,false⟩
def Is:ic:=⟨.mk 2 [] [.mk 8 [] [S4 97] 0 0 0 0 true,S4 98] 0 0 0 0 false,0,false⟩
set_option maxRecDepth 100000
set_option maxHeartbeats 4000000
theorem abh:dg Cy [97,98,97,97]=0:=by decide +kernel
theorem X4:dg Is [97,98]=0:=by decide +kernel
theorem aaN:pS Cy [97,98,97,97]=[[false,true,false,false,false]]:=by decide +kernel
theorem aaw:pS Is [97,98]=[[true,false,true]]:=by decide +kernel
theorem Z1:JM Cy [97,98,97,97] 0=0:=by decide +kernel
theorem yi {α:Type}{a b:List α}{i:Nat}{x y:α} (ha:a[i]?=some x) (hb:b[i]?=some y):a.take (i+1)=b.take (i+1) ↔ a.take i=b.take i/\x=y:=by
 rw[aR ha,aR hb];constructor
 ·intro h;have hl:(a.take i).length=(b.take i).length:=by have:=(List.getElem?_eq_some_iff.1 ha).1;have:=(List.getElem?_eq_some_iff.1 hb).1;rw[agN,agN];omega
  obtain⟨h1,h2⟩:=List.append_inj h hl;exact⟨h1,by simpa using h2⟩
 ·rintro ⟨h1,rfl⟩;rw[h1]
def nv (l:List (List Bool)):D:=.sl (l.map λl=>[.sl (l.map λb=>[bD b])])
theorem Aa (a b:List (List Bool)) (h1:a.length<=1000000) (h2:∀x∈a,x.length<=1000000):aO Try.prog 32 [.d (nv a),.d (nv b)] (bV (decide (a=b))):=by
 refine an Try.func32 rfl Try.ntmps32 Try.results32 rfl 0 115 (by simp) (by simp) ?_;by_cases hl:a.length=b.length
 ·have CW:((a.length:Int)=(b.length:Int))=True:=eq_true (by omega);simp only[zX,cQ,dx,dB,dC,dD,gl,ja,jg,jk,mA,eI,eJ,fX,reduceIte,reduceCtorEq,gj,i64,bV,iD,bD,nv,afN,CW,ne_eq,not_true_eq_false];refine au (λn e s=>∃i:Nat,n=a.length-i/\i<=a.length/\e 0=.d (nv a)/\e 1=.d (nv b)/\e 5=i64 i/\a.take i=b.take i/\s=[])
   ⟨_,_,_,br.refl,0,rfl,by omega,rfl,rfl,rfl,by simp,rfl⟩ ?_
  rintro n e s ⟨i,rfl,hi,q0,q1,q5,hT,rfl⟩;rcases agi i a.length with az|fI
  ·have aC:(i:Int)<(a.length:Int):=by omega
   have GN:(i:Int)<(b.length:Int):=by omega
   have hi0:(0:Int)<=(i:Int):=by omega
   obtain⟨x,hx⟩:∃x,a[i]?=some x:=⟨_,afP az⟩
   obtain⟨y,hy⟩:∃y,b[i]?=some y:=⟨_,afP (by omega)⟩
   have UQ:=h2 x (afW hx);simp only[nv]at q0 q1;by_cases OA:x.length=y.length
   ·have VM:((x.length:Int)=(y.length:Int))=True:=eq_true (by omega);simp only[zX,cQ,dx,dB,dC,dD,gl,ja,jg,jk,mA,eI,eJ,fX,reduceIte,reduceCtorEq,gj,i64,bV,iD,bD,nv,q0,q1,q5,aC,GN,hi0,afN,afO,hx,hy,afV,afT];refine ar mix [] [] (by rfl) ?_;simp only[zX,cQ,dx,dB,dC,dD,gl,ja,jg,jk,mA,eI,eJ,fX,reduceIte,reduceCtorEq,gj,i64,bV,iD,bD,nv,q0,q1,q5,aC,GN,hi0,afN,afO,hx,hy,afV,afT,VM,ne_eq,not_true_eq_false];refine au (λn e s=>∃j:Nat,n=x.length-j/\j<=x.length/\e 0=.d (nv a)/\e 1=.d (nv b)/\e 5=i64 i/\e 6=i64 j/\x.take j=y.take j/\s=[])
     ⟨_,_,_,br.refl,0,rfl,by omega,by (try simp only[zU,gj,cQ,dx,eI,reduceIte]);exact q0,by (try simp only[zU,gj,cQ,dx,eI,reduceIte]);exact q1,by (try simp only[zU,gj,cQ,dx,eI,reduceIte]);exact q5,rfl,by simp,rfl⟩ ?_
    clear q0 q1 q5;rintro n e s ⟨j,rfl,hj,q0,q1,q5,q6,hTj,rfl⟩;simp only[nv]at q0 q1;rcases agi j x.length with jlt|jge
    ·have Q9:(j:Int)<(x.length:Int):=by omega
     have jlb:(j:Int)<(y.length:Int):=by omega
     have RG:(0:Int)<=(j:Int):=by omega
     obtain⟨u,hu⟩:∃u,x[j]?=some u:=⟨_,afP jlt⟩
     obtain⟨v,hv⟩:∃v,y[j]?=some v:=⟨_,afP (by omega)⟩
     have qh:∀{z:List Bool}{w:Bool},z[j]?=some w->(z.map λb=>[D.sc (Value.bool b)])[j]?=some [D.sc (Value.bool w)]:=λh=>by rw[afO,h];rfl
     have DZ:=yi hu hv;have hw:IntKind.i64.wrap ((j:Int)+1)=((j+1:Nat):Int):=by rw[bd _ (by omega)];rfl
     simp only[zX,cQ,dx,dB,dC,dD,gl,ja,jg,jk,mA,eI,eJ,fX,reduceIte,reduceCtorEq,gj,i64,bV,iD,bD,nv,q0,q1,q5,q6,aC,GN,hi0,Q9,jlb,RG,afN,afO,hx,hy,hu,hv,afV,afT];refine ar mix [] [] (by rfl) ?_;by_cases S1:u=v
     ·have huv:(u == v)=true:=by rw[S1];exact beq_self_eq_true v
      simp only[zX,cQ,dx,dB,dC,dD,gl,ja,jg,jk,mA,eI,eJ,fX,reduceIte,reduceCtorEq,gj,i64,bV,iD,bD,nv,q0,q1,q5,q6,aC,GN,hi0,Q9,jlb,RG,afN,afO,hx,hy,hu,hv,afV,afT,hw,huv,ne_eq,not_true_eq_false,not_false_eq_true];refine⟨x.length-(j+1),_,_,by omega,br.refl,j+1,rfl,jlt,?_,?_,?_,?_,DZ.2 ⟨hTj,S1⟩,rfl⟩ <;> (try simp only[zU,gj,cQ,dx,eI,reduceIte])
      ·exact q0
      ·exact q1
      ·exact q5
     ·have huv:(u == v)=false:=by cases u <;> cases v <;> first|rfl|exact absurd rfl S1
      have cB:a≠b:=λh=>S1 (by rw[h,hy]at hx;cases hx;rw[hu]at hv;cases hv;rfl);simp only[zX,cQ,dx,dB,dC,dD,gl,ja,jg,jk,mA,eI,eJ,fX,reduceIte,reduceCtorEq,gj,i64,bV,iD,bD,nv,q0,q1,q5,q6,aC,GN,hi0,Q9,jlb,RG,afN,afO,hx,hy,hu,hv,afV,afT,hw,huv,ne_eq,not_true_eq_false,not_false_eq_true,b6 cB]
    ·have KR:j=x.length:=by omega
     subst KR;have Q9:¬(x.length:Int)<(x.length:Int):=by omega
     simp only[zX,cQ,dx,dB,dC,dD,gl,ja,jg,jk,mA,eI,eJ,fX,reduceIte,reduceCtorEq,gj,i64,bV,iD,bD,nv,q0,q1,q5,q6,aC,GN,hi0,Q9,afN,afO,hx,hy,afV,afT];have hxe:x=y:=by rw[agj,OA,agj]at hTj;exact hTj
     have hw:IntKind.i64.wrap ((i:Int)+1)=((i+1:Nat):Int):=by rw[bd _ (by omega)];rfl
     refine⟨a.length-(i+1),_,_,by omega,br.refl,i+1,rfl,az,?_,?_,?_,(yi hx hy).2 ⟨hT,hxe⟩,rfl⟩ <;> (try simp only[zU,gj,cQ,dx,eI,reduceIte])
     ·exact q0
     ·exact q1
     ·rw[hw]
   ·have VM:¬((x.length:Int)=(y.length:Int)):=by omega
    have cB:a≠b:=λh=>OA (by rw[h,hy]at hx;cases hx;rfl);simp only[zX,cQ,dx,dB,dC,dD,gl,ja,jg,jk,mA,eI,eJ,fX,reduceIte,reduceCtorEq,gj,i64,bV,iD,bD,nv,q0,q1,q5,aC,GN,hi0,afN,afO,hx,hy,afV,afT];refine ar mix [] [] (by rfl) ?_;simp only[zX,cQ,dx,dB,dC,dD,gl,ja,jg,jk,mA,eI,eJ,fX,reduceIte,reduceCtorEq,gj,i64,bV,iD,bD,nv,q0,q1,q5,aC,GN,hi0,afN,afO,hx,hy,afV,afT,VM,ne_eq,not_false_eq_true,b6 cB]
  ·have cV:i=a.length:=by omega
   subst cV;have aC:¬(a.length:Int)<(a.length:Int):=by omega
   have XM:a=b:=by rw[agj,hl,agj]at hT;exact hT
   simp only[nv]at q0 q1;simp only[zX,cQ,dx,dB,dC,dD,gl,ja,jg,jk,mA,eI,eJ,fX,reduceIte,reduceCtorEq,gj,i64,bV,iD,bD,nv,q0,q1,q5,aC,afN,bi XM]
 ·have CW:¬((a.length:Int)=(b.length:Int)):=by omega
  have cB:a≠b:=λh=>hl (by rw[h]);simp only[zX,cQ,dx,dB,dC,dD,gl,ja,jg,jk,mA,eI,eJ,fX,reduceIte,reduceCtorEq,gj,i64,bV,iD,bD,nv,afN,CW,ne_eq,not_false_eq_true,b6 cB]
set_option maxRecDepth 100000
set_option maxHeartbeats 16000000
theorem ZL:Fx Is [97,98]=[]:=by decide +kernel
theorem Xa:(GG Cy [97,98,97,97] 0).isSome=true/\(QB (GG Cy [97,98,97,97] 0)).e=1:=by decide +kernel
theorem SO:Cy.re.bC=true/\Is.re.bC=true:=by decide +kernel
theorem fp {P:Program}{f:FuncId}{args:List V} (cargs:List V) {s:List VL.Obj}{K:V->List VL.Obj->Prop} (hc:ba.go s.length s args=some cargs) (h:aq P f cargs s K):aq P f args s K:=bc [] hc h
theorem M7:aO Try.prog 15 [] (bV true):=by have b1:=x8 Cy [97,98,97,97] SO.1 (by decide);have b2:=Tr Cy [97,98,97,97] 0 SO.1 (by decide);have b3:=x8 Is [97,98] SO.2 (by decide);have b4:=MS Is [97,98] SO.2 (by decide);rw[abh,aaN]at b1;rw[Z1,Xa.1]at b2;rw[X4,aaw]at b3;rw[X4,ZL]at b4;have hm:=Xa.2;generalize QB (GG Cy [97,98,97,97] 0)=m at *;have s1:=Aa [[false,true,false,false,false]] [[false,true,false,false,false]] (by decide) (by decide);have s2:=Aa [[true,false,true]] [[true,false,true]] (by decide) (by decide);rw[bi rfl]at s1 s2;refine an Try.func15 rfl Try.ntmps15 Try.results15 rfl 0 16383 (by simp) (by simp) ?_;simp only[zX,cQ,dx,dB,dC,dD,gl,ja,jg,jk,mA,eI,eJ,fX,reduceIte,reduceCtorEq,gj,i64,bV,iD,bD,al];refine fp [aZ Cy,.d (al [97,98,97,97])] rfl ?_;refine aj b1 rfl rfl ?_;simp only[zX,cQ,dx,dB,dC,dD,gl,ja,jg,jk,mA,eI,eJ,fX,reduceIte,reduceCtorEq,gj,i64,bV,iD,bD,al,lJ];refine fp [aZ Cy,.d (al [97,98,97,97]),i64 0] rfl ?_;refine aj b2 rfl rfl ?_;simp only[zX,cQ,dx,dB,dC,dD,gl,ja,jg,jk,mA,eI,eJ,fX,reduceIte,reduceCtorEq,gj,i64,bV,iD,bD,al,lJ,nK.v];refine fp [aZ Is,.d (al [97,98])] rfl ?_;refine aj b3 rfl rfl ?_;simp only[zX,cQ,dx,dB,dC,dD,gl,ja,jg,jk,mA,eI,eJ,fX,reduceIte,reduceCtorEq,gj,i64,bV,iD,bD,al,lJ];refine fp [aZ Is,.d (al [97,98])] rfl ?_;refine aj b4 rfl rfl ?_;have hz0:(((0:Nat):Int)=0)=True:=eq_true rfl;simp only[zX,cQ,dx,dB,dC,dD,gl,ja,jg,jk,mA,eI,eJ,fX,reduceIte,reduceCtorEq,gj,i64,bV,iD,bD,al,lJ,hm,hz0];refine fp [.d (nv [[false,true,false,false,false]]),.d (nv [[false,true,false,false,false]])] rfl ?_;refine aj s1 rfl rfl ?_;simp only[zX,cQ,dx,dB,dC,dD,gl,ja,jg,jk,mA,eI,eJ,fX,reduceIte,reduceCtorEq,gj,i64,bV,iD,bD,al,lJ,hm,hz0];refine fp [.d (nv [[true,false,true]]),.d (nv [[true,false,true]])] rfl ?_;refine aj s2 rfl rfl ?_;simp only[zX,cQ,dx,dB,dC,dD,gl,ja,jg,jk,mA,eI,eJ,fX,reduceIte,reduceCtorEq,gj,i64,bV,iD,bD,al,lJ,hm,hz0]
section
variable {t t':List Int}{Bs IQ:List (List Bool)}{C:List ay}
theorem Hz {p p':Nat}{Lt:List Bool} (h:∀n,(eV C n).pass t Bs p=(eV C n).pass t' IQ p'):∀(k n:Nat) (st:L8),bB t Bs C p Lt k n st=bB t' IQ C p' Lt k n st
 |0,_,_=>rfl
 |k+1,n,st=>by have ih:=Hz (Lt:=Lt) h k;rw[bB,bB];simp only[h,ih]
theorem z0 {p p':Nat}{Lt:List Bool} (h:∀n,(eV C n).pass t Bs p=(eV C n).pass t' IQ p'):∀n,dE t Bs C p Lt n=dE t' IQ C p' Lt n
 |0=>by simp [dE]
 |n+1=>by rw[ma,ma,z0 h n,Hz h]
theorem vn {m:Nat} (h:∀i,i<m->∀n,(eV C n).pass t Bs (t.length-i)=(eV C n).pass t' IQ (t'.length-i)):∀i,i<=m->fU t Bs C i=fU t' IQ C i
 |0,_=>rfl
 |i+1,hi=>by rw[fU,fU,vn h i (by omega),z0 (h i (by omega))]
structure BR (m:Nat) (a b:Aq):Prop where
 ad:a.ad=b.ad
 rd:a.rd=b.rd
 gn:a.gn=b.gn
 ho:∀j,j<m->a.ho[j]?=b.ho[j]?
 la:m<=a.ho.length
 lb:m<=b.ho.length
structure BW (m:Nat) (a b:Aq):Prop where
 ad:a.ad=b.ad
 ho:∀j,j<m->a.ho[j]?=b.ho[j]?
 la:m<=a.ho.length
 lb:m<=b.ho.length
end
end Go.Proofs.Ytfmdmlfhigocaaa
