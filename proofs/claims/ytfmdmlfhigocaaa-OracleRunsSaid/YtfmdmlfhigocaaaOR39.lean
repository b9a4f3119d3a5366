/- A part of the proof (O28 O29). -/
import Derived.Test.YtfmdmlfhigocaaaOR38
set_option linter.unusedSimpArgs false
set_option linter.unusedVariables false
open Nat renaming reduceShiftRight → cy, reduceMod → cJ, reduceEqDiff → dV, reduceAdd → fi, reduceBEq → gV
set_option maxRecDepth 100000
set_option maxHeartbeats 80000000
namespace Go.Proofs.Ytfmdmlfhigocaaa
open Go.VL
variable{g:Nat}{s:List VL.Obj}{K:V->List VL.Obj->Prop}{f:FuncId}{P:Program}{l:List Bool}{Bs:List (List Bool)}{root:D}{bg:Nat}{nb:Nat}{m:Nat}{C:List au}{parts:D}{t:List Int}{y:Bool}{neg:Bool}{e:VL.Env}
theorem VU{args:List V}{sz k n:Nat}{l:List (List D)}{ob:VL.Obj}
  (h1:az P f args s λv s1=>v=.so s.length g 0 n/\s1=s++[⟨g,true,sz,l.map λc=>c.map V.d⟩]) (hs:s[k]?=some ob)
  (hk:K (.so k (ob.g+1) 0 n) (s.set k ⟨ob.g+1,true,sz,l.map λc=>c.map V.d⟩)):az P f args s K:=by
 refine⟨h1.1,λσ w vals hI hl hv=>(h1.2 σ w vals hI hl hv).mono λe w' ⟨u,v,σ',s',k1,k2,k3,k4,k5,k6⟩=>?_⟩;subst k5 k6;obtain⟨m1,m2,m3⟩:=oX hI k2 k3 hs rfl (λi' j x' kS=>by
  rw[aiY]at kS;cases hq:l[i']? with
  |none=>rw[hq]at kS;cases kS
  |some c =>
   rw[hq]at kS;simp only[ai3,ajM,aiY]at kS;obtain⟨d,_,rfl⟩:=Option.map_eq_some_iff.1 kS;rfl)
 exact⟨u,_,_,_,k1,m1,m2,m3 _ _ _ k4,hk⟩
theorem Sf (q:Nat) (l:List Bool):cx q l=⟨q,true,1,(l.map λb=>[bD b]).map λc=>c.map V.d⟩:=by unfold cx;rw[ajL];rfl
theorem Rd{b a:Nat}
  (h:az Try.prog f [.rf 0 0 0 0,.so 2 g 0 C.length] [dK t root parts bg nb,fX bg Bs,cP g b a C] λv s=>v=.so 3 0 0 m/\s=[dK t root parts bg nb,fX bg Bs,cP g b a C,cx 0 l])
  (h0:s[0]?=some (dK t root parts bg nb)) (h1:s[1]?=some (fX bg Bs)) (h2:s[2]?=some (cP g b a C)) (h3:s[3]?=some hole)
  (hk:K (.so 3 1 0 m) (s.set 3 (cx 1 l))):az Try.prog f [.rf 0 0 0 0,.so 2 g 0 C.length] s K:=by
 refine VU (k:=3) (ob:=hole) (g:=0) (sz:=1) (n:=m) (l:=l.map λb=>[bD b]) ?_ h3 (by rw[<- Sf];exact hk);have hm:∀ρ,bf (0::1::ρ) (dK t root parts bg nb)=dK t root parts bg nb:=λρ=>rfl;refine jX h [0,1,2] rfl aJ (λj o ho=>?_) rfl (by simp [ak,ak.go]) ?_ ?_
 ·match j with
  |0=>cases ho;rw[hm];exact h0
  |1=>cases ho;rw[fN];exact h1
  |2=>cases ho;rw[kY];exact h2
  |j+3=>simp at ho
 ·have hb:=ij 3 bg Bs;simp only[ajS,ajV,ai8,ai9,ai7,fi,ll 3 _ _ _ ae,ajk];simp [bc,dK,ak,hb]
 rintro v s' ⟨rfl,rfl⟩ _;rw[<- Sf];have e1:xa [0,1,2] s [dK t root parts bg nb,fX bg Bs,cP g b a C] [dK t root parts bg nb,fX bg Bs,cP g b a C,cx 0 l]=[0,1,2,s.length]:=rfl;rw[e1];have e5:aS [0,1,2,s.length] (.so 3 0 0 m)=.so s.length 0 0 m:=rfl;rw[e5];simp only[ai8,ai9,ai7,fi,aj1,akc,List.drop_succ_cons,ajQ,aiZ,ai2,hm,fN,kY,zN,aO];have s0:s.set 0 (dK t root parts bg nb)=s:=by
  apply ajX;intro j;by_cases hj:j=0
  ·subst hj;rw[ajm (List.getElem?_eq_some_iff.1 h0).1,h0]
  ·rw[ajy (Ne.symm hj)]
 have s1:s.set 1 (fX bg Bs)=s:=by
  apply ajX;intro j;by_cases hj:j=1
  ·subst hj;rw[ajm (List.getElem?_eq_some_iff.1 h1).1,h1]
  ·rw[ajy (Ne.symm hj)]
 have s2:s.set 2 (cP g b a C)=s:=by
  apply ajX;intro j;by_cases hj:j=2
  ·subst hj;rw[ajm (List.getElem?_eq_some_iff.1 h2).1,h2]
  ·rw[ajy (Ne.symm hj)]
 rw[s0,s1,s2];first|exact⟨rfl,rfl⟩|exact⟨trivial,rfl⟩
theorem tv{b a:Nat}
  (h:az Try.prog f [.rf 0 0 0 0,.so 2 g 0 C.length] [dK t root parts bg nb,fX bg Bs,cP g b a C] λv s=>v=.so 3 0 0 m/\s=[dK t root parts bg nb,fX bg Bs,cP g b a C,cx 0 l])
  (hk:K (.so 3 1 0 m) [dK t root parts bg nb,fX bg Bs,cP g b a C,cx 1 l]):LC Try.prog [0,1,2,3] [3] f [.rf 0 0 0 0,.so 2 g 0 C.length] [dK t root parts bg nb,fX bg Bs,cP g b a C,hole] K:=by
 refine⟨.so 3 1 0 m,[cx 1 l],rfl,λs' _ mJ=>?_,hk⟩;exact Rd h (mJ 0 aj) (mJ 1 aj) (mJ 2 aj) (mJ 3 aj) ⟨rfl,rfl⟩
theorem AS{re:Re} (hs:re.every OH=true) (hz:re.dc<=1000000) (k:Nat)
  (hk:∀b a,K (.so 2 (re.emit k []++[bW]).length 0 (re.emit k []++[bW]).length) [dK t root parts bg nb,fX bg Bs,cP (re.emit k []++[bW]).length b a (re.emit k []++[bW])]) :
  az Try.prog 28 [.rf 0 0 0 0,.d (re.bq k)] [dK t root parts bg nb,fX bg Bs] K:=by
 refine QD (ok:=dK t root parts bg nb) (g:=0) 0 0 rfl rfl rfl (λb a=>?_);refine ar (Tf t root parts bg nb Bs b a re hs hz k) ?_;rintro v s ⟨rfl,rfl⟩;exact hk b a
def dz (p:eJ) (t:List Int):Int:=if Ct p≠0 then Ct p else if 65536<t.length then 4 else if t.all (eE p.aF)=false then 1 else 0
theorem Av (p:eJ) (t:List Int) (hf:p.re.cN=true) (h:dz p t≠0) (hl:t.length<=1000000):aM Try.prog 27 [aE p,.d (an t)] (.tu [.d (.sc (.pointer none)),i64 (dz p t)]):=by
 have h1:=BT p hf;unfold dz at h ⊢;generalize Ct p=ac at *;cases p with
 |mk re ai aF =>
 simp only[aE,Re.ah,aiZ,ai2,aiX,ai0,i64,iD,bD,bV]at h1;simp only at h ⊢;by_cases Je:ac=0
 ·subst Je;rw[ap aj]at h ⊢;by_cases hlen:65536<t.length
  ·rw[be hlen];have Eu:(65536:Int)<(t.length:Int):=ae;refine bk Try.func27 Try.ntmps27 Try.results27 0 62307562302417931542365956185554679 ?_;simp only[zI,simprocAttr,aE,Re.ah,bV,iD,bD,an];refine bO h1 ?_;simp only[zI,simprocAttr,aE,Re.ah,bV,iD,bD,ne_eq,not_true_eq_false,aiW,Eu,gt_iff_lt];all_goals rfl
  ·rw[ap hlen]at h ⊢;have Eu:¬(65536:Int)<(t.length:Int):=ae;have OU:t.all (eE aF)=false:=by
    cases hq:t.all (eE aF) with
    |false=>rfl
    |true=>rw[hq]at h;exact absurd rfl h
   rw[be OU];have jA:=OU;obtain⟨ru,tE⟩:∃ru,aF=ru:=⟨_,rfl⟩
   cases ru with
   |true =>
    refine bk Try.func27 Try.ntmps27 Try.results27 0 62307562302417931542365956185554679 ?_;simp only[zI,simprocAttr,aE,Re.ah,bV,iD,bD,an];refine bO h1 ?_;simp only[zI,simprocAttr,aE,Re.ah,bV,iD,bD,ne_eq,not_true_eq_false,aiW,Eu,gt_iff_lt,tE];refine ay (λn e s=>∃i:Nat,n=t.length-i/\i<=t.length/\e 1=.d (an t)/\e 2=.rf 0 0 0 0/\e 7=i64 (hU aF)/\e 25=.d (an t)/\e 26=i64 t.length/\e 27=i64 i/\(t.take i).all (eE aF)=true/\s=[⟨0,true,10,[re.cells.map .d++[i64 ai,bV aF]]⟩])
     ⟨_,_,_,bJ.refl,0,rfl,ae,rfl,rfl,by subst tE;rfl,rfl,by first|rfl|(rw[aiW];rfl),rfl,aj,by subst tE;simp [Re.ah re,iD,bD,bV,i64]⟩ ?_
    rintro n e s ⟨i,rfl,hi,q1,q2,q7,Qv,Cs,FD,bK,rfl⟩;have qS:e 25=.d (.sl (t.map λx=>[iD x])):=Qv;rcases ajr i t.length with aB|iA
    ·obtain⟨x,hx⟩:∃x,t[i]?=some x:=bZ aB;have aH:(i:Int)<(t.length:Int):=ae;have hi0:(0:Int)<=(i:Int):=ae;have hT:=bj hx;by_cases c1:x<0
     ·have jZ:t.all (eE aF)=false:=all_false hx (by simp [eE];omega);simp only[zI,simprocAttr,iD,bD,bV,Re.ah re,aiZ,ai2,q1,q2,q7,qS,Cs,FD,aH,hi0,aB,hx,aiW,aiY,ai3,ai1,c1];first|(rw[jA]at jZ;cases jZ;done)|(all_goals rfl)
     ·by_cases c2:hU aF<x
      ·have jZ:t.all (eE aF)=false:=all_false hx (by simp [eE];omega);simp only[zI,simprocAttr,iD,bD,bV,Re.ah re,aiZ,ai2,q1,q2,q7,qS,Cs,FD,aH,hi0,aB,hx,aiW,aiY,ai3,ai1,c1,c2,gt_iff_lt];first|(rw[jA]at jZ;cases jZ;done)|(all_goals rfl)
      ·simp only[zI,simprocAttr,iD,bD,bV,Re.ah re,aiZ,ai2,q1,q2,q7,qS,Cs,FD,aH,hi0,aB,hx,aiW,aiY,ai3,ai1,c1,c2,gt_iff_lt];refine⟨t.length-(i+1),_,_,ae,bJ.refl,i+1,rfl,aB,?_,?_,?_,?_,?_,?_,?_,by simp [Re.ah re,iD,bD,bV,i64]⟩ <;> (try simp only[zU,gV,cy,cJ,dV,reduceIte])
       ·exact q1
       ·exact q2
       ·exact q7
       ·exact Qv
       ·exact Cs
       ·rw[bF _ ae];rfl
       ·rw[hT,akm,bK];simp [eE];omega
    ·have dY:i=t.length:=by omega
     subst dY;rw[ajt,OU]at bK;cases bK
   |false =>
    refine bk Try.func27 Try.ntmps27 Try.results27 0 62307562302417931542365956185554679 ?_;simp only[zI,simprocAttr,aE,Re.ah,bV,iD,bD,an];refine bO h1 ?_;simp only[zI,simprocAttr,aE,Re.ah,bV,iD,bD,ne_eq,not_true_eq_false,aiW,Eu,gt_iff_lt,tE];refine ay (λn e s=>∃i:Nat,n=t.length-i/\i<=t.length/\e 1=.d (an t)/\e 2=.rf 0 0 0 0/\e 7=i64 (hU aF)/\e 25=.d (an t)/\e 26=i64 t.length/\e 27=i64 i/\(t.take i).all (eE aF)=true/\s=[⟨0,true,10,[re.cells.map .d++[i64 ai,bV aF]]⟩])
     ⟨_,_,_,bJ.refl,0,rfl,ae,rfl,rfl,by subst tE;rfl,rfl,by first|rfl|(rw[aiW];rfl),rfl,aj,by subst tE;simp [Re.ah re,iD,bD,bV,i64]⟩ ?_
    rintro n e s ⟨i,rfl,hi,q1,q2,q7,Qv,Cs,FD,bK,rfl⟩;have qS:e 25=.d (.sl (t.map λx=>[iD x])):=Qv;rcases ajr i t.length with aB|iA
    ·obtain⟨x,hx⟩:∃x,t[i]?=some x:=bZ aB;have aH:(i:Int)<(t.length:Int):=ae;have hi0:(0:Int)<=(i:Int):=ae;have hT:=bj hx;by_cases c1:x<0
     ·have jZ:t.all (eE aF)=false:=all_false hx (by simp [eE];omega);simp only[zI,simprocAttr,iD,bD,bV,Re.ah re,aiZ,ai2,q1,q2,q7,qS,Cs,FD,aH,hi0,aB,hx,aiW,aiY,ai3,ai1,c1];first|(rw[jA]at jZ;cases jZ;done)|(all_goals rfl)
     ·by_cases c2:hU aF<x
      ·have jZ:t.all (eE aF)=false:=all_false hx (by simp [eE];omega);simp only[zI,simprocAttr,iD,bD,bV,Re.ah re,aiZ,ai2,q1,q2,q7,qS,Cs,FD,aH,hi0,aB,hx,aiW,aiY,ai3,ai1,c1,c2,gt_iff_lt];first|(rw[jA]at jZ;cases jZ;done)|(all_goals rfl)
      ·simp only[zI,simprocAttr,iD,bD,bV,Re.ah re,aiZ,ai2,q1,q2,q7,qS,Cs,FD,aH,hi0,aB,hx,aiW,aiY,ai3,ai1,c1,c2,gt_iff_lt];refine⟨t.length-(i+1),_,_,ae,bJ.refl,i+1,rfl,aB,?_,?_,?_,?_,?_,?_,?_,by simp [Re.ah re,iD,bD,bV,i64]⟩ <;> (try simp only[zU,gV,cy,cJ,dV,reduceIte])
       ·exact q1
       ·exact q2
       ·exact q7
       ·exact Qv
       ·exact Cs
       ·rw[bF _ ae];rfl
       ·rw[hT,akm,bK];simp [eE];omega
    ·have dY:i=t.length:=by omega
     subst dY;rw[ajt,OU]at bK;cases bK
 ·rw[be Je];refine bk Try.func27 Try.ntmps27 Try.results27 0 62307562302417931542365956185554679 ?_;simp only[zI,simprocAttr,aE,Re.ah,bV,iD,bD,an];refine bO h1 ?_;simp only[zI,simprocAttr,aE,Re.ah,bV,iD,bD,ne_eq,Je,not_false_eq_true];all_goals rfl
def eF (L:List (Re×Nat)):D:=.sl (L.map λp=>[p.1.bq p.2])
theorem mQ {p:eJ} (h:Ct p=0):cz p=0/\p.re.dW (List.replicate 10 false) false=true/\nW p.re=true:=by
 unfold Ct at h;split at h
 ·rename_i h1;exact absurd h h1
 ·rename_i h1;split at h
  ·cases h
  ·rename_i h2;split at h
   ·cases h
   ·rename_i h3;exact⟨by simpa using h1,by simpa using h2,by simpa using h3⟩
theorem qh {p:eJ} (h:dz p t=0):Ct p=0/\t.length<=65536/\t.all (eE p.aF)=true:=by
 unfold dz at h;split at h
 ·rename_i h1;exact absurd h h1
 ·rename_i h1;split at h
  ·cases h
  ·rename_i h2;split at h
   ·cases h
   ·rename_i h3;exact⟨by simpa using h1,ae,by simpa using h3⟩
theorem yA (re:Re):re.looks<=re.size:=by
 refine Re.ind (Q:=λre=>re.looks<=re.size) (λre ih=>?_) re;have hL:∀l:List Re,(∀x∈l,x∈re.kids)->Re.aV l<=Re.bT l:=by
  intro l;induction l with
  |nil=>intro _;simp [Re.aV,Re.bT]
  |cons x l D0 =>
   intro hm;have h1:=ih x (hm x aj);have h2:=D0 (λy hy=>hm y (by simp [hy]));simp only[Re.aV,Re.bT];omega
 have:=hL re.kids (λ_ h=>h);rw[Re.jg,Re.size_eq];split <;> omega
theorem PF (lim:Nat) (s:List VL.Obj) (d:D):gm lim s (.d d)=.d d:=rfl
theorem KP (t:List Int) (fI:D) (L:List (Re×Nat)) (pb:VL.Obj) :
  mF [1,3] (ln 4 (bA [pb,⟨0,true,4,[[.d (.sl (t.map λx=>[D.sc (Value.int IntKind.i64 x)])),.d fI,.so 2 L.length 0 L.length,.so 3 0 0 L.length]]⟩,fL L.length (L.map λp=>p.1.bq p.2),⟨0,true,1,List.replicate L.length [.fu []]⟩] [2])) =
   [dK t fI (eF L) 0 L.length,fX 0 (List.replicate L.length [])]:=by
 have hk:bA [pb,⟨0,true,4,[[.d (.sl (t.map λx=>[D.sc (Value.int IntKind.i64 x)])),.d fI,.so 2 L.length 0 L.length,.so 3 0 0 L.length]]⟩,fL L.length (L.map λp=>p.1.bq p.2),⟨0,true,1,List.replicate L.length [.fu []]⟩] [2] =
   [pb,⟨0,true,4,[[.d (.sl (t.map λx=>[D.sc (Value.int IntKind.i64 x)])),.d fI,.so 2 L.length 0 L.length,.so 3 0 0 L.length]]⟩,⟨L.length,false,1,(L.map λp=>p.1.bq p.2).map λd=>[.d d]⟩,⟨0,true,1,List.replicate L.length [.fu []]⟩]:=rfl
 rw[hk];generalize hS:[pb,(⟨0,true,4,[[.d (.sl (t.map λx=>[D.sc (Value.int IntKind.i64 x)])),.d fI,.so 2 L.length 0 L.length,.so 3 0 0 L.length]]⟩:VL.Obj),⟨L.length,false,1,(L.map λp=>p.1.bq p.2).map λd=>[.d d]⟩,⟨0,true,1,List.replicate L.length [.fu []]⟩]=S;have s2:S[2]?=some ⟨L.length,false,1,(L.map λp=>p.1.bq p.2).map λd=>[.d d]⟩:=by rw[<- hS];rfl
 have s3:S[3]?=some ⟨0,true,1,List.replicate L.length [.fu []]⟩:=by rw[<- hS];rfl
 have c2:gm 4 S (.so 2 L.length 0 L.length)=.d (eF L):=by have:=rB (lim:=4) (s:=S) (id:=2) (g:=L.length) (lo:=0) (n:=L.length) (sz:=1) (live:=false) (ds:=L.map λp=>[p.1.bq p.2]) s2 (by rw[ajQ,ajb aj];simp) aj (.inr rfl);rw[gm,this];rfl
 have c3:gm 4 S (.so 3 0 0 L.length)=.so 3 0 0 L.length:=by rw[gm,bm,cR,s3];simp
 have hc:ln 4 S=[⟨pb.g,pb.live,pb.sz,pb.aw.map λc=>c.map (gm 4 S)⟩,⟨0,true,4,[[.d (.sl (t.map λx=>[D.sc (Value.int IntKind.i64 x)])),.d fI,.d (eF L),.so 3 0 0 L.length]]⟩,⟨L.length,false,1,((L.map λp=>p.1.bq p.2).map λd=>[V.d d]).map λc=>c.map (gm 4 S)⟩,⟨0,true,1,List.replicate L.length [.d (.sl [])]⟩]:=by unfold ln;rw[show S.take 4=[pb,(⟨0,true,4,[[.d (.sl (t.map λx=>[D.sc (Value.int IntKind.i64 x)])),.d fI,.so 2 L.length 0 L.length,.so 3 0 0 L.length]]⟩:VL.Obj),⟨L.length,false,1,(L.map λp=>p.1.bq p.2).map λd=>[.d d]⟩,⟨0,true,1,List.replicate L.length [.fu []]⟩] by rw[<- hS];rfl];simp only[aiZ,ai2,PF,c2,c3,List.map_replicate];rfl
 rw[hc];simp only[mF,aiZ,ai2,ajW,aj2];have e4:ga [1,3] ⟨0,true,1,List.replicate L.length [V.d (.sl [])]⟩=fX 0 (List.replicate L.length []):=by simp [ga,eV.go,eV,fX]
 rw[e4];rfl
theorem O3 (t:List Int) (fI Hf:D) (n i m:Nat) (Bs:List (List Bool)) (l:List Bool) (hl:l.length=m) (x:VL.Obj) :
  ln 2 [dK t fI Hf 0 n,⟨0,true,1,(Bs.map λl=>[V.d (.sl (l.map λb=>[bD b]))]).set i [.so 3 1 0 m]⟩,x,cx 1 l]=[dK t fI Hf 0 n,fX 0 (Bs.set i l)]:=by
 generalize hS:[dK t fI Hf 0 n,⟨0,true,1,(Bs.map λl=>[V.d (.sl (l.map λb=>[bD b]))]).set i [.so 3 1 0 m]⟩,x,cx 1 l]=S;have s3:S[3]?=some (cx 1 l):=by rw[<- hS];rfl
 have s1:S[1]?=some ⟨0,true,1,(Bs.map λl=>[V.d (.sl (l.map λb=>[bD b]))]).set i [.so 3 1 0 m]⟩:=by rw[<- hS];rfl
 have c3:gm 2 S (.so 3 1 0 m)=.d (.sl (l.map λb=>[bD b])):=by have:=rB (lim:=2) (s:=S) (id:=3) (g:=1) (lo:=0) (n:=m) (sz:=1) (live:=true) (aw:=l.map λb=>[bV b]) (ds:=l.map λb=>[bD b]) s3 (by rw[ajQ,ajb (by simp [hl]),ajL];rfl) (by simp [hl]) (.inl ae);rw[gm,this];rfl
 have c1:gm 2 S (.so 1 0 0 n)=.so 1 0 0 n:=by rw[gm,bm,cR,s1];simp
 have e1:ln 2 S=[{ dK t fI Hf 0 n with aw:=(dK t fI Hf 0 n).aw.map λc=>c.map (gm 2 S) },⟨0,true,1,((Bs.map λl=>[V.d (.sl (l.map λb=>[bD b]))]).set i [.so 3 1 0 m]).map λc=>c.map (gm 2 S)⟩]:=by
  unfold ln
  conv=>lhs;rw[show S.take 2=[dK t fI Hf 0 n,⟨0,true,1,(Bs.map λl=>[V.d (.sl (l.map λb=>[bD b]))]).set i [.so 3 1 0 m]⟩] by rw[<- hS];rfl]
  rfl
 rw[e1];simp only[dK,aiZ,ai2,PF,c1,akv,c3,ajL];unfold fX;rw[akv];rfl
def jc (neg:Bool) (m:Nat) (l:List Bool):List Bool:=(l.take m).map (λb=>b != neg)++l.drop m
theorem Hl (neg:Bool) (l:List Bool):jc neg 0 l=l:=by simp [jc]
theorem LD (neg:Bool) (l:List Bool):jc neg l.length l=l.map λb=>b != neg:=by simp [jc]
theorem Kp (neg:Bool) (m:Nat) (l:List Bool):(jc neg m l).length=l.length:=by simp [jc];omega
theorem J9 (h:l[m]?=some y):(jc neg m l)[m]?=some y:=by have hm:=(List.getElem?_eq_some_iff.1 h).1;unfold jc;rw[ajh cG];simp only[aiW,aj3,Nat.min_eq_left (Nat.le_of_lt hm),akp,ajU,aj5];exact h
theorem Hb (h:l[m]?=some y):(jc neg m l).set m (y != neg)=jc neg (m+1) l:=by have hm:=(List.getElem?_eq_some_iff.1 h).1;unfold jc;rw[akh _ _ cG];simp only[aiW,aj3,Nat.min_eq_left (Nat.le_of_lt hm),akp];rw[List.drop_eq_getElem_cons hm,aju,bj h,akf,ajq];rfl
theorem tg {lim:Nat}{ba:List Nat}{t:Nat} (h:ba.contains t=true):A0 lim s ba e t=gm lim s (e t):=by unfold A0;rw[be h]
theorem DK{N L M:Nat}{a b:Code}{R:VL.Env->List VL.Obj->Prop}{Q:Exit->VL.Env->List VL.Obj->Prop}{p:Prop} [Decidable p] (J:VL.Env->List VL.Obj->Prop)
  (h1:p->∀(B:VL.Env->List VL.Obj->Prop) (Q:Exit->VL.Env->List VL.Obj->Prop),(∀e s,J e s->B e s)->codeWp P N L M a (E9 B Q) e s)
  (h2:¬p->∀(B:VL.Env->List VL.Obj->Prop) (Q:Exit->VL.Env->List VL.Obj->Prop),(∀e s,J e s->B e s)->codeWp P N L M b (E9 B Q) e s)
  (h3:∀e s,J e s->R e s):ow (.d (.sc (.bool (decide p)))) (codeWp P N L M a (E9 R Q)) (codeWp P N L M b (E9 R Q)) e s :=
 lI (λh=>h1 h _ _ h3) (λh=>h2 h _ _ h3)
end Go.Proofs.Ytfmdmlfhigocaaa
