/- A part of the proof (O28 O29). -/
import Derived.Test.YtfmdmlfhigocaaaON40
set_option linter.unusedSimpArgs false
set_option linter.unusedVariables false
open Nat renaming reduceShiftRight → cQ, reduceMod → dx, reduceLT → dB, reduceMul → dC, reduceSub → dD, reduceEqDiff → eI, reduceAdd → eJ, reduceLeDiff → fX, reduceBEq → gj
open Int renaming reduceToNat → gl, reduceNeg → ja, reduceLT → jg, reduceLE → jk, reduceEq → mA
set_option maxRecDepth 100000
set_option maxHeartbeats 80000000
namespace Go.Proofs.Ytfmdmlfhigocaaa
open Go.VL
variable{g:Nat}{s:List VL.Obj}{K:V->List VL.Obj->Prop}{f:FuncId}{P:Program}{l:List Bool}{Bs:List (List Bool)}{root:D}{bg:Nat}{nb:Nat}{m:Nat}{C:List ay}{parts:D}{t:List Int}{y:Bool}{neg:Bool}{e:VL.Env}
theorem SW{args:List V}{sz k n:Nat}{l:List (List D)}{ob:VL.Obj}
  (h1:aq P f args s λv s1=>v=.so s.length g 0 n/\s1=s++[⟨g,true,sz,l.map λc=>c.map V.d⟩]) (hs:s[k]?=some ob)
  (hk:K (.so k (ob.g+1) 0 n) (s.set k ⟨ob.g+1,true,sz,l.map λc=>c.map V.d⟩)):aq P f args s K:=by
 refine⟨h1.1,λσ w vals hI hl hv=>(h1.2 σ w vals hI hl hv).mono λe w' ⟨u,v,σ',s',k1,k2,k3,k4,k5,k6⟩=>?_⟩;subst k5 k6;obtain⟨m1,m2,m3⟩:=nE hI k2 k3 hs rfl (λi' j x' jB=>by
  rw[afO]at jB;cases hq:l[i']? with
  |none=>rw[hq]at jB;cases jB
  |some c =>
   rw[hq]at jB;simp only[afV,agE,afO]at jB;obtain⟨d,_,rfl⟩:=Option.map_eq_some_iff.1 jB;rfl)
 exact⟨u,_,_,_,k1,m1,m2,m3 _ _ _ k4,hk⟩
theorem OY (q:Nat) (l:List Bool):b5 q l=⟨q,true,1,(l.map λb=>[bD b]).map λc=>c.map V.d⟩:=by unfold b5;rw[agy];rfl
theorem N5{b a:Nat}
  (h:aq Try.prog f [.rf 0 0 0 0,.so 2 g 0 C.length] [dp t root parts bg nb,fr bg Bs,cG g b a C] λv s=>v=.so 3 0 0 m/\s=[dp t root parts bg nb,fr bg Bs,cG g b a C,b5 0 l])
  (h0:s[0]?=some (dp t root parts bg nb)) (h1:s[1]?=some (fr bg Bs)) (h2:s[2]?=some (cG g b a C)) (h3:s[3]?=some hole)
  (hk:K (.so 3 1 0 m) (s.set 3 (b5 1 l))):aq Try.prog f [.rf 0 0 0 0,.so 2 g 0 C.length] s K:=by
 refine SW (k:=3) (ob:=hole) (g:=0) (sz:=1) (n:=m) (l:=l.map λb=>[bD b]) ?_ h3 (by rw[<- OY];exact hk);have hm:∀ρ,aT (0::1::ρ) (dp t root parts bg nb)=dp t root parts bg nb:=λρ=>rfl;refine jc h [0,1,2] rfl (by decide) (λj o ho=>?_) rfl (by simp [ah,ah.go]) ?_ ?_
 ·match j with
  |0=>cases ho;rw[hm];exact h0
  |1=>cases ho;rw[fh];exact h1
  |2=>cases ho;rw[jY];exact h2
  |j+3=>simp at ho
 ·have hb:=gr 3 bg Bs;simp only[agq,agA,afZ,af0,afX,eJ,kj 3 _ _ _ (by omega),af5];simp [aG,dp,ah,hb]
 rintro v s' ⟨rfl,rfl⟩ _;rw[<- OY];have e1:uZ [0,1,2] s [dp t root parts bg nb,fr bg Bs,cG g b a C] [dp t root parts bg nb,fr bg Bs,cG g b a C,b5 0 l]=[0,1,2,s.length]:=rfl;rw[e1];have e5:aL [0,1,2,s.length] (.so 3 0 0 m)=.so s.length 0 0 m:=rfl;rw[e5];simp only[afZ,af0,afX,eJ,ags,agD,agZ,agH,afR,afU,hm,fh,jY,xX,aE];have s0:s.set 0 (dp t root parts bg nb)=s:=by
  apply agT;intro j;by_cases hj:j=0
  ·subst hj;rw[agc (List.getElem?_eq_some_iff.1 h0).1,h0]
  ·rw[agp (Ne.symm hj)]
 have s1:s.set 1 (fr bg Bs)=s:=by
  apply agT;intro j;by_cases hj:j=1
  ·subst hj;rw[agc (List.getElem?_eq_some_iff.1 h1).1,h1]
  ·rw[agp (Ne.symm hj)]
 have s2:s.set 2 (cG g b a C)=s:=by
  apply agT;intro j;by_cases hj:j=2
  ·subst hj;rw[agc (List.getElem?_eq_some_iff.1 h2).1,h2]
  ·rw[agp (Ne.symm hj)]
 rw[s0,s1,s2];first|exact⟨rfl,rfl⟩|exact⟨trivial,rfl⟩
theorem rD{b a:Nat}
  (h:aq Try.prog f [.rf 0 0 0 0,.so 2 g 0 C.length] [dp t root parts bg nb,fr bg Bs,cG g b a C] λv s=>v=.so 3 0 0 m/\s=[dp t root parts bg nb,fr bg Bs,cG g b a C,b5 0 l])
  (hk:K (.so 3 1 0 m) [dp t root parts bg nb,fr bg Bs,cG g b a C,b5 1 l]):EJ Try.prog [0,1,2,3] [3] f [.rf 0 0 0 0,.so 2 g 0 C.length] [dp t root parts bg nb,fr bg Bs,cG g b a C,hole] K:=by
 refine⟨.so 3 1 0 m,[b5 1 l],rfl,λs' _ kJ=>?_,hk⟩;exact N5 h (kJ 0 (by simp)) (kJ 1 (by simp)) (kJ 2 (by simp)) (kJ 3 (by simp)) ⟨rfl,rfl⟩
theorem yV{re:Re} (hs:re.every LB=true) (hz:re.gD<=1000000) (k:Nat)
  (hk:∀b a,K (.so 2 (re.emit k []++[cq]).length 0 (re.emit k []++[cq]).length) [dp t root parts bg nb,fr bg Bs,cG (re.emit k []++[cq]).length b a (re.emit k []++[cq])]) :
  aq Try.prog 28 [.rf 0 0 0 0,.d (re.bj k)] [dp t root parts bg nb,fr bg Bs] K:=by
 refine Nm (ok:=dp t root parts bg nb) (g:=0) 0 0 rfl rfl rfl (λb a=>?_);refine ao (P8 t root parts bg nb Bs b a re hs hz k) ?_;rintro v s ⟨rfl,rfl⟩;exact hk b a
def dg (p:ic) (t:List Int):Int:=if vO p≠0 then vO p else if 65536<t.length then 4 else if t.all (fT p.aN)=false then 1 else 0
theorem yy (p:ic) (t:List Int) (hf:p.re.bC=true) (h:dg p t≠0) (hl:t.length<=1000000):aO Try.prog 27 [aZ p,.d (al t)] (.tu [.d (.sc (.pointer none)),i64 (dg p t)]):=by
 have h1:=sL p hf;unfold dg at h ⊢;generalize vO p=ac at *;cases p with
 |mk re ak aN =>
 simp only[aZ,Re.ae,afR,afU,afQ,afS,i64,iD,bD,bV]at h1;simp only at h ⊢;by_cases MH:ac=0
 ·subst MH;rw[ap (by simp)]at h ⊢;by_cases hlen:65536<t.length
  ·rw[be hlen];have B0:(65536:Int)<(t.length:Int):=by omega
   refine an Try.func27 rfl Try.ntmps27 Try.results27 rfl 0 62307562302417931542365956185554679 (by simp) (by simp) ?_;simp only[zX,cQ,dx,dB,dC,dD,gl,ja,jg,jk,mA,eI,eJ,fX,reduceIte,reduceCtorEq,gj,i64,aZ,Re.ae,bV,iD,bD,al];refine aj h1 rfl rfl ?_;simp only[zX,cQ,dx,dB,dC,dD,gl,ja,jg,jk,mA,eI,eJ,fX,reduceIte,reduceCtorEq,gj,i64,aZ,Re.ae,bV,iD,bD,ne_eq,not_true_eq_false,afN,B0,gt_iff_lt];all_goals rfl
  ·rw[ap hlen]at h ⊢;have B0:¬(65536:Int)<(t.length:Int):=by omega
   have LP:t.all (fT aN)=false:=by
    cases hq:t.all (fT aN) with
    |false=>rfl
    |true=>rw[hq]at h;exact absurd rfl h
   rw[be LP];have fO:=LP;obtain⟨ru,uF⟩:∃ru,aN=ru:=⟨_,rfl⟩
   cases ru with
   |true =>
    refine an Try.func27 rfl Try.ntmps27 Try.results27 rfl 0 62307562302417931542365956185554679 (by simp) (by simp) ?_;simp only[zX,cQ,dx,dB,dC,dD,gl,ja,jg,jk,mA,eI,eJ,fX,reduceIte,reduceCtorEq,gj,i64,aZ,Re.ae,bV,iD,bD,al];refine aj h1 rfl rfl ?_;simp only[zX,cQ,dx,dB,dC,dD,gl,ja,jg,jk,mA,eI,eJ,fX,reduceIte,reduceCtorEq,gj,i64,aZ,Re.ae,bV,iD,bD,ne_eq,not_true_eq_false,afN,B0,gt_iff_lt,uF];refine au (λn e s=>∃i:Nat,n=t.length-i/\i<=t.length/\e 1=.d (al t)/\e 2=.rf 0 0 0 0/\e 7=i64 (gz aN)/\e 25=.d (al t)/\e 26=i64 t.length/\e 27=i64 i/\(t.take i).all (fT aN)=true/\s=[⟨0,true,10,[re.cells.map .d++[i64 ak,bV aN]]⟩])
     ⟨_,_,_,br.refl,0,rfl,by omega,rfl,rfl,by subst uF;rfl,rfl,by first|rfl|(rw[afN];rfl),rfl,by simp,by subst uF;simp [Re.ae re,iD,bD,bV,i64]⟩ ?_
    rintro n e s ⟨i,rfl,hi,q1,q2,q7,Nc,Ar,De,bA,rfl⟩;have pG:e 25=.d (.sl (t.map λx=>[iD x])):=Nc;rcases agi i t.length with az|fI
    ·obtain⟨x,hx⟩:∃x,t[i]?=some x:=⟨_,afP az⟩
     have aC:(i:Int)<(t.length:Int):=by omega
     have hi0:(0:Int)<=(i:Int):=by omega
     have hT:=aR hx;by_cases c1:x<0
     ·have kK:t.all (fT aN)=false:=all_false hx (by simp [fT];omega);simp only[zX,cQ,dx,dB,dC,dD,gl,ja,jg,jk,mA,eI,eJ,fX,reduceIte,reduceCtorEq,gj,i64,iD,bD,bV,Re.ae re,afR,afU,q1,q2,q7,pG,Ar,De,aC,hi0,az,hx,afN,afO,afV,afT,c1];first|(rw[fO]at kK;cases kK;done)|(all_goals rfl)
     ·by_cases c2:gz aN<x
      ·have kK:t.all (fT aN)=false:=all_false hx (by simp [fT];omega);simp only[zX,cQ,dx,dB,dC,dD,gl,ja,jg,jk,mA,eI,eJ,fX,reduceIte,reduceCtorEq,gj,i64,iD,bD,bV,Re.ae re,afR,afU,q1,q2,q7,pG,Ar,De,aC,hi0,az,hx,afN,afO,afV,afT,c1,c2,gt_iff_lt];first|(rw[fO]at kK;cases kK;done)|(all_goals rfl)
      ·simp only[zX,cQ,dx,dB,dC,dD,gl,ja,jg,jk,mA,eI,eJ,fX,reduceIte,reduceCtorEq,gj,i64,iD,bD,bV,Re.ae re,afR,afU,q1,q2,q7,pG,Ar,De,aC,hi0,az,hx,afN,afO,afV,afT,c1,c2,gt_iff_lt];refine⟨t.length-(i+1),_,_,by omega,br.refl,i+1,rfl,az,?_,?_,?_,?_,?_,?_,?_,by simp [Re.ae re,iD,bD,bV,i64]⟩ <;> (try simp only[zU,gj,cQ,dx,eI,reduceIte])
       ·exact q1
       ·exact q2
       ·exact q7
       ·exact Nc
       ·exact Ar
       ·rw[bd _ (by omega)];rfl
       ·rw[hT,ahf,bA];simp [fT];omega
    ·have cV:i=t.length:=by omega
     subst cV;rw[agj,LP]at bA;cases bA
   |false =>
    refine an Try.func27 rfl Try.ntmps27 Try.results27 rfl 0 62307562302417931542365956185554679 (by simp) (by simp) ?_;simp only[zX,cQ,dx,dB,dC,dD,gl,ja,jg,jk,mA,eI,eJ,fX,reduceIte,reduceCtorEq,gj,i64,aZ,Re.ae,bV,iD,bD,al];refine aj h1 rfl rfl ?_;simp only[zX,cQ,dx,dB,dC,dD,gl,ja,jg,jk,mA,eI,eJ,fX,reduceIte,reduceCtorEq,gj,i64,aZ,Re.ae,bV,iD,bD,ne_eq,not_true_eq_false,afN,B0,gt_iff_lt,uF];refine au (λn e s=>∃i:Nat,n=t.length-i/\i<=t.length/\e 1=.d (al t)/\e 2=.rf 0 0 0 0/\e 7=i64 (gz aN)/\e 25=.d (al t)/\e 26=i64 t.length/\e 27=i64 i/\(t.take i).all (fT aN)=true/\s=[⟨0,true,10,[re.cells.map .d++[i64 ak,bV aN]]⟩])
     ⟨_,_,_,br.refl,0,rfl,by omega,rfl,rfl,by subst uF;rfl,rfl,by first|rfl|(rw[afN];rfl),rfl,by simp,by subst uF;simp [Re.ae re,iD,bD,bV,i64]⟩ ?_
    rintro n e s ⟨i,rfl,hi,q1,q2,q7,Nc,Ar,De,bA,rfl⟩;have pG:e 25=.d (.sl (t.map λx=>[iD x])):=Nc;rcases agi i t.length with az|fI
    ·obtain⟨x,hx⟩:∃x,t[i]?=some x:=⟨_,afP az⟩
     have aC:(i:Int)<(t.length:Int):=by omega
     have hi0:(0:Int)<=(i:Int):=by omega
     have hT:=aR hx;by_cases c1:x<0
     ·have kK:t.all (fT aN)=false:=all_false hx (by simp [fT];omega);simp only[zX,cQ,dx,dB,dC,dD,gl,ja,jg,jk,mA,eI,eJ,fX,reduceIte,reduceCtorEq,gj,i64,iD,bD,bV,Re.ae re,afR,afU,q1,q2,q7,pG,Ar,De,aC,hi0,az,hx,afN,afO,afV,afT,c1];first|(rw[fO]at kK;cases kK;done)|(all_goals rfl)
     ·by_cases c2:gz aN<x
      ·have kK:t.all (fT aN)=false:=all_false hx (by simp [fT];omega);simp only[zX,cQ,dx,dB,dC,dD,gl,ja,jg,jk,mA,eI,eJ,fX,reduceIte,reduceCtorEq,gj,i64,iD,bD,bV,Re.ae re,afR,afU,q1,q2,q7,pG,Ar,De,aC,hi0,az,hx,afN,afO,afV,afT,c1,c2,gt_iff_lt];first|(rw[fO]at kK;cases kK;done)|(all_goals rfl)
      ·simp only[zX,cQ,dx,dB,dC,dD,gl,ja,jg,jk,mA,eI,eJ,fX,reduceIte,reduceCtorEq,gj,i64,iD,bD,bV,Re.ae re,afR,afU,q1,q2,q7,pG,Ar,De,aC,hi0,az,hx,afN,afO,afV,afT,c1,c2,gt_iff_lt];refine⟨t.length-(i+1),_,_,by omega,br.refl,i+1,rfl,az,?_,?_,?_,?_,?_,?_,?_,by simp [Re.ae re,iD,bD,bV,i64]⟩ <;> (try simp only[zU,gj,cQ,dx,eI,reduceIte])
       ·exact q1
       ·exact q2
       ·exact q7
       ·exact Nc
       ·exact Ar
       ·rw[bd _ (by omega)];rfl
       ·rw[hT,ahf,bA];simp [fT];omega
    ·have cV:i=t.length:=by omega
     subst cV;rw[agj,LP]at bA;cases bA
 ·rw[be MH];refine an Try.func27 rfl Try.ntmps27 Try.results27 rfl 0 62307562302417931542365956185554679 (by simp) (by simp) ?_;simp only[zX,cQ,dx,dB,dC,dD,gl,ja,jg,jk,mA,eI,eJ,fX,reduceIte,reduceCtorEq,gj,i64,aZ,Re.ae,bV,iD,bD,al];refine aj h1 rfl rfl ?_;simp only[zX,cQ,dx,dB,dC,dD,gl,ja,jg,jk,mA,eI,eJ,fX,reduceIte,reduceCtorEq,gj,i64,aZ,Re.ae,bV,iD,bD,ne_eq,MH,not_false_eq_true];all_goals rfl
def dS (L:List (Re×Nat)):D:=.sl (L.map λp=>[p.1.bj p.2])
theorem yH {p:ic} (h:vO p=0):cC p=0/\p.re.bH (List.replicate 10 false) false=true/\mS p.re=true:=by
 unfold vO at h;split at h
 ·rename_i h1;exact absurd h h1
 ·rename_i h1;split at h
  ·cases h
  ·rename_i h2;split at h
   ·cases h
   ·rename_i h3;exact⟨by simpa using h1,by simpa using h2,by simpa using h3⟩
theorem sh {p:ic} (h:dg p t=0):vO p=0/\t.length<=65536/\t.all (fT p.aN)=true:=by
 unfold dg at h;split at h
 ·rename_i h1;exact absurd h h1
 ·rename_i h1;split at h
  ·cases h
  ·rename_i h2;split at h
   ·cases h
   ·rename_i h3;exact⟨by simpa using h1,by omega,by simpa using h3⟩
theorem l6 (re:Re):re.looks<=re.size:=by
 refine Re.ind (Q:=λre=>re.looks<=re.size) (λre ih=>?_) re;have hL:∀l:List Re,(∀x∈l,x∈re.kids)->Re.aD l<=Re.bZ l:=by
  intro l;induction l with
  |nil=>intro _;simp [Re.aD,Re.bZ]
  |cons x l yM =>
   intro hm;have h1:=ih x (hm x (by simp));have h2:=yM (λy hy=>hm y (by simp [hy]));simp only[Re.aD,Re.bZ];omega
 have:=hL re.kids (λ_ h=>h);rw[Re.eA,Re.size_eq];split <;> omega
theorem Mz (lim:Nat) (s:List VL.Obj) (d:D):fA lim s (.d d)=.d d:=rfl
theorem Ic (t:List Int) (e9:D) (L:List (Re×Nat)) (pb:VL.Obj) :
  lF [1,3] (ko 4 (bE [pb,⟨0,true,4,[[.d (.sl (t.map λx=>[D.sc (Value.int IntKind.i64 x)])),.d e9,.so 2 L.length 0 L.length,.so 3 0 0 L.length]]⟩,fe L.length (L.map λp=>p.1.bj p.2),⟨0,true,1,List.replicate L.length [.fu []]⟩] [2])) =
   [dp t e9 (dS L) 0 L.length,fr 0 (List.replicate L.length [])]:=by
 have hk:bE [pb,⟨0,true,4,[[.d (.sl (t.map λx=>[D.sc (Value.int IntKind.i64 x)])),.d e9,.so 2 L.length 0 L.length,.so 3 0 0 L.length]]⟩,fe L.length (L.map λp=>p.1.bj p.2),⟨0,true,1,List.replicate L.length [.fu []]⟩] [2] =
   [pb,⟨0,true,4,[[.d (.sl (t.map λx=>[D.sc (Value.int IntKind.i64 x)])),.d e9,.so 2 L.length 0 L.length,.so 3 0 0 L.length]]⟩,⟨L.length,false,1,(L.map λp=>p.1.bj p.2).map λd=>[.d d]⟩,⟨0,true,1,List.replicate L.length [.fu []]⟩]:=rfl
 rw[hk];generalize hS:[pb,(⟨0,true,4,[[.d (.sl (t.map λx=>[D.sc (Value.int IntKind.i64 x)])),.d e9,.so 2 L.length 0 L.length,.so 3 0 0 L.length]]⟩:VL.Obj),⟨L.length,false,1,(L.map λp=>p.1.bj p.2).map λd=>[.d d]⟩,⟨0,true,1,List.replicate L.length [.fu []]⟩]=S;have s2:S[2]?=some ⟨L.length,false,1,(L.map λp=>p.1.bj p.2).map λd=>[.d d]⟩:=by rw[<- hS];rfl
 have s3:S[3]?=some ⟨0,true,1,List.replicate L.length [.fu []]⟩:=by rw[<- hS];rfl
 have c2:fA 4 S (.so 2 L.length 0 L.length)=.d (dS L):=by have:=nM (lim:=4) (s:=S) (id:=2) (g:=L.length) (lo:=0) (n:=L.length) (sz:=1) (live:=false) (ds:=L.map λp=>[p.1.bj p.2]) s2 (by rw[agH,af1 (by simp)];simp) (by simp) (.inr rfl);rw[fA,this];rfl
 have c3:fA 4 S (.so 3 0 0 L.length)=.so 3 0 0 L.length:=by rw[fA,ba,cj,s3];simp
 have hc:ko 4 S=[⟨pb.g,pb.live,pb.sz,pb.aw.map λc=>c.map (fA 4 S)⟩,⟨0,true,4,[[.d (.sl (t.map λx=>[D.sc (Value.int IntKind.i64 x)])),.d e9,.d (dS L),.so 3 0 0 L.length]]⟩,⟨L.length,false,1,((L.map λp=>p.1.bj p.2).map λd=>[V.d d]).map λc=>c.map (fA 4 S)⟩,⟨0,true,1,List.replicate L.length [.d (.sl [])]⟩]:=by unfold ko;rw[show S.take 4=[pb,(⟨0,true,4,[[.d (.sl (t.map λx=>[D.sc (Value.int IntKind.i64 x)])),.d e9,.so 2 L.length 0 L.length,.so 3 0 0 L.length]]⟩:VL.Obj),⟨L.length,false,1,(L.map λp=>p.1.bj p.2).map λd=>[.d d]⟩,⟨0,true,1,List.replicate L.length [.fu []]⟩] by rw[<- hS];rfl];simp only[afR,afU,Mz,c2,c3,List.map_replicate];rfl
 rw[hc];simp only[lF,afR,afU,agX,agW];have e4:fy [1,3] ⟨0,true,1,List.replicate L.length [V.d (.sl [])]⟩=fr 0 (List.replicate L.length []):=by simp [fy,ej.go,ej,fr]
 rw[e4];rfl
theorem LY (t:List Int) (e9 EB:D) (n i m:Nat) (Bs:List (List Bool)) (l:List Bool) (hl:l.length=m) (x:VL.Obj) :
  ko 2 [dp t e9 EB 0 n,⟨0,true,1,(Bs.map λl=>[V.d (.sl (l.map λb=>[bD b]))]).set i [.so 3 1 0 m]⟩,x,b5 1 l]=[dp t e9 EB 0 n,fr 0 (Bs.set i l)]:=by
 generalize hS:[dp t e9 EB 0 n,⟨0,true,1,(Bs.map λl=>[V.d (.sl (l.map λb=>[bD b]))]).set i [.so 3 1 0 m]⟩,x,b5 1 l]=S;have s3:S[3]?=some (b5 1 l):=by rw[<- hS];rfl
 have s1:S[1]?=some ⟨0,true,1,(Bs.map λl=>[V.d (.sl (l.map λb=>[bD b]))]).set i [.so 3 1 0 m]⟩:=by rw[<- hS];rfl
 have c3:fA 2 S (.so 3 1 0 m)=.d (.sl (l.map λb=>[bD b])):=by have:=nM (lim:=2) (s:=S) (id:=3) (g:=1) (lo:=0) (n:=m) (sz:=1) (live:=true) (aw:=l.map λb=>[bV b]) (ds:=l.map λb=>[bD b]) s3 (by rw[agH,af1 (by simp [hl]),agy];rfl) (by simp [hl]) (.inl (by omega));rw[fA,this];rfl
 have c1:fA 2 S (.so 1 0 0 n)=.so 1 0 0 n:=by rw[fA,ba,cj,s1];simp
 have e1:ko 2 S=[{ dp t e9 EB 0 n with aw:=(dp t e9 EB 0 n).aw.map λc=>c.map (fA 2 S) },⟨0,true,1,((Bs.map λl=>[V.d (.sl (l.map λb=>[bD b]))]).set i [.so 3 1 0 m]).map λc=>c.map (fA 2 S)⟩]:=by
  unfold ko
  conv=>lhs;rw[show S.take 2=[dp t e9 EB 0 n,⟨0,true,1,(Bs.map λl=>[V.d (.sl (l.map λb=>[bD b]))]).set i [.so 3 1 0 m]⟩] by rw[<- hS];rfl]
  rfl
 rw[e1];simp only[dp,afR,afU,Mz,c1,ahg,c3,agy];unfold fr;rw[ahg];rfl
def hZ (neg:Bool) (m:Nat) (l:List Bool):List Bool:=(l.take m).map (λb=>b != neg)++l.drop m
theorem EM (neg:Bool) (l:List Bool):hZ neg 0 l=l:=by simp [hZ]
theorem IZ (neg:Bool) (l:List Bool):hZ neg l.length l=l.map λb=>b != neg:=by simp [hZ]
theorem HM (neg:Bool) (m:Nat) (l:List Bool):(hZ neg m l).length=l.length:=by simp [hZ];omega
theorem Hy (h:l[m]?=some y):(hZ neg m l)[m]?=some y:=by have hm:=(List.getElem?_eq_some_iff.1 h).1;unfold hZ;rw[af6 (by simp;omega)];simp only[afN,agN,Nat.min_eq_left (Nat.le_of_lt hm),ahi,agR,ag0];exact h
theorem Ey (h:l[m]?=some y):(hZ neg m l).set m (y != neg)=hZ neg (m+1) l:=by have hm:=(List.getElem?_eq_some_iff.1 h).1;unfold hZ;rw[ahd _ _ (by simp;omega)];simp only[afN,agN,Nat.min_eq_left (Nat.le_of_lt hm),ahi];rw[List.drop_eq_getElem_cons hm,agd,aR h,aha,agu];rfl
theorem rz {lim:Nat}{aY:List Nat}{t:Nat} (h:aY.contains t=true):y5 lim s aY e t=fA lim s (e t):=by unfold y5;rw[be h]
theorem Bo{N L M:Nat}{a b:Code}{R:VL.Env->List VL.Obj->Prop}{Q:Exit->VL.Env->List VL.Obj->Prop}{p:Prop} [Decidable p] (J:VL.Env->List VL.Obj->Prop)
  (h1:p->∀(B:VL.Env->List VL.Obj->Prop) (Q:Exit->VL.Env->List VL.Obj->Prop),(∀e s,J e s->B e s)->codeWp P N L M a (CD B Q) e s)
  (h2:¬p->∀(B:VL.Env->List VL.Obj->Prop) (Q:Exit->VL.Env->List VL.Obj->Prop),(∀e s,J e s->B e s)->codeWp P N L M b (CD B Q) e s)
  (h3:∀e s,J e s->R e s):na (.d (.sc (.bool (decide p)))) (codeWp P N L M a (CD R Q)) (codeWp P N L M b (CD R Q)) e s :=
 kB (λh=>h1 h _ _ h3) (λh=>h2 h _ _ h3)
end Go.Proofs.Ytfmdmlfhigocaaa
