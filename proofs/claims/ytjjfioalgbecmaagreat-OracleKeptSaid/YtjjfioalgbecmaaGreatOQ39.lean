/- A part of the proof (O28 O29). -/
import Derived.Test.YtjjfioalgbecmaaGreatOQ38
set_option linter.unusedSimpArgs false
set_option linter.unusedVariables false
open Nat renaming reduceShiftRight → jN, reduceMod → oN, reduceEqDiff → oV, reduceAdd → oW, reduceBEq → pZ
set_option maxRecDepth 100000
set_option maxHeartbeats 80000000
namespace Go.Proofs.YtjjfioalgbecmaaGreat
open Go.VL
variable{g:Nat}{s:List VL.Obj}{K:V->List VL.Obj->Prop}{f:FuncId}{P:Program}{m:Nat}{l:List Bool}{Bs:List (List Bool)}{root:D}{bg:Nat}{nb:Nat}{C:List aq}{parts:D}{t:List Int}{y:Bool}{neg:Bool}{e:VL.Env}
theorem Wd{args:List V}{sz k n:Nat}{l:List (List D)}{ob:VL.Obj}
  (h1:ar P f args s λv s1=>v=.so s.length g 0 n/\s1=s++[⟨g,true,sz,l.map λc=>c.map V.d⟩]) (hs:s[k]?=some ob)
  (hk:K (.so k (ob.g+1) 0 n) (s.set k ⟨ob.g+1,true,sz,l.map λc=>c.map V.d⟩)):ar P f args s K:=by
 refine⟨h1.1,λσ w vals hI hl hv=>(h1.2 σ w vals hI hl hv).mono λe w' ⟨u,v,σ',s',k1,k2,k3,k4,k5,k6⟩=>?_⟩;subst k5 k6;obtain⟨m1,m2,m3⟩:=nP hI k2 k3 hs rfl (λi' j x' jR=>by
  rw[List.getElem?_map]at jR;cases hq:l[i']? with
  |none=>rw[hq]at jR;cases jR
  |some c =>
   rw[hq]at jR;simp only[ajS,akA,List.getElem?_map]at jR;obtain⟨d,_,rfl⟩:=Option.map_eq_some_iff.1 jR;rfl)
 exact⟨u,_,_,_,k1,m1,m2,m3 _ _ _ k4,hk⟩
theorem RL (q:Nat) (l:List Bool):cq q l=⟨q,true,1,(l.map λb=>[bD b]).map λc=>c.map V.d⟩:=by unfold cq;rw[akq];rfl
theorem QA{b a:Nat}
  (h:ar Tryz.prog f [.rf 0 0 0 0,.so 2 g 0 C.length] [dz t root parts bg nb,fx bg Bs,cN g b a C] λv s=>v=.so 3 0 0 m/\s=[dz t root parts bg nb,fx bg Bs,cN g b a C,cq 0 l])
  (h0:s[0]?=some (dz t root parts bg nb)) (h1:s[1]?=some (fx bg Bs)) (h2:s[2]?=some (cN g b a C)) (h3:s[3]?=some hole)
  (hk:K (.so 3 1 0 m) (s.set 3 (cq 1 l))):ar Tryz.prog f [.rf 0 0 0 0,.so 2 g 0 C.length] s K:=by
 refine Wd (k:=3) (ob:=hole) (g:=0) (sz:=1) (n:=m) (l:=l.map λb=>[bD b]) ?_ h3 (by rw[<- RL];exact hk);have hm:∀ρ,aN (0::1::ρ) (dz t root parts bg nb)=dz t root parts bg nb:=λρ=>rfl;refine g9 h [0,1,2] rfl aU (λj o ho=>?_) rfl (by simp [aj,aj.go]) ?_ ?_
 ·match j with
  |0=>cases ho;rw[hm];exact h0
  |1=>cases ho;rw[fr];exact h1
  |2=>cases ho;rw[ko];exact h2
  |j+3=>simp at ho
 ·have hb:=gu 3 bg Bs;simp only[aks,akB,ajW,ajX,ajT,oW,kv 3 _ _ _ ae,aj4];simp [aK,dz,aj,hb]
 rintro v s' ⟨rfl,rfl⟩ _;rw[<- RL];have e1:pY [0,1,2] s [dz t root parts bg nb,fx bg Bs,cN g b a C] [dz t root parts bg nb,fx bg Bs,cN g b a C,cq 0 l]=[0,1,2,s.length]:=rfl;rw[e1];have e5:aE [0,1,2,s.length] (.so 3 0 0 m)=.so s.length 0 0 m:=rfl;rw[e5];simp only[ajW,ajX,ajT,oW,akO,akW,List.drop_succ_cons,akJ,ajR,ajV,hm,fr,ko,yv,aJ];have s0:s.set 0 (dz t root parts bg nb)=s:=by
  apply List.ext_getElem?;intro j;by_cases hj:j=0
  ·subst hj;rw[List.getElem?_set_self (List.getElem?_eq_some_iff.1 h0).1,h0]
  ·rw[List.getElem?_set_ne (Ne.symm hj)]
 have s1:s.set 1 (fx bg Bs)=s:=by
  apply List.ext_getElem?;intro j;by_cases hj:j=1
  ·subst hj;rw[List.getElem?_set_self (List.getElem?_eq_some_iff.1 h1).1,h1]
  ·rw[List.getElem?_set_ne (Ne.symm hj)]
 have s2:s.set 2 (cN g b a C)=s:=by
  apply List.ext_getElem?;intro j;by_cases hj:j=2
  ·subst hj;rw[List.getElem?_set_self (List.getElem?_eq_some_iff.1 h2).1,h2]
  ·rw[List.getElem?_set_ne (Ne.symm hj)]
 rw[s0,s1,s2];first|exact⟨rfl,rfl⟩|exact⟨trivial,rfl⟩
theorem sh{b a:Nat}
  (h:ar Tryz.prog f [.rf 0 0 0 0,.so 2 g 0 C.length] [dz t root parts bg nb,fx bg Bs,cN g b a C] λv s=>v=.so 3 0 0 m/\s=[dz t root parts bg nb,fx bg Bs,cN g b a C,cq 0 l])
  (hk:K (.so 3 1 0 m) [dz t root parts bg nb,fx bg Bs,cN g b a C,cq 1 l]):GO Tryz.prog [0,1,2,3] [3] f [.rf 0 0 0 0,.so 2 g 0 C.length] [dz t root parts bg nb,fx bg Bs,cN g b a C,hole] K:=by
 refine⟨.so 3 1 0 m,[cq 1 l],rfl,λs' _ jz=>?_,hk⟩;exact QA h (jz 0 ak) (jz 1 ak) (jz 2 ak) (jz 3 ak) ⟨rfl,rfl⟩
theorem zG{re:Re} (hs:re.every NR=true) (hz:re.eC<=1000000) (k:Nat)
  (hk:∀b a,K (.so 2 (re.emit k []++[bw]).length 0 (re.emit k []++[bw]).length) [dz t root parts bg nb,fx bg Bs,cN (re.emit k []++[bw]).length b a (re.emit k []++[bw])]) :
  ar Tryz.prog 30 [.rf 0 0 0 0,.d (re.bk k)] [dz t root parts bg nb,fx bg Bs] K:=by
 refine PU (ok:=dz t root parts bg nb) (g:=0) 0 0 rfl rfl rfl (λb a=>?_);refine an (SZ t root parts bg nb Bs b a re hs hz k) ?_;rintro v s ⟨rfl,rfl⟩;exact hk b a
def c9 (p:iM) (t:List Int):Int:=if wM p≠0 then wM p else if 65536<t.length then 4 else if t.all (gK p.aB)=false then 1 else 0
theorem tY (p:iM) (t:List Int) (hf:p.re.dx=true) (h:c9 p t≠0) (hl:t.length<=1000000):aM Tryz.prog 29 [bI p,.d (ao t)] (.tu [.d (.sc (.pointer none)),i64 (c9 p t)]):=by
 have h1:=AS p hf;unfold c9 at h ⊢;generalize wM p=ac at *;cases p with
 |mk re ai aB =>
 simp only[bI,Re.ah,ajR,ajV,ajN,ajO,i64,iD,bD,bV]at h1;simp only at h ⊢;by_cases hac:ac=0
 ·subst hac;rw[ap ak]at h ⊢;by_cases hlen:65536<t.length
  ·rw[be hlen];have C6:(65536:Int)<(t.length:Int):=ae;refine bo Tryz.func29 Tryz.ntmps29 Tryz.results29 0 62307562302417931542365956185554679 ?_;simp only[zI,simprocAttr,bI,Re.ah,bV,iD,bD,ao];refine dY h1 ?_;simp only[zI,simprocAttr,bI,Re.ah,bV,iD,bD,ne_eq,not_true_eq_false,ajM,C6,gt_iff_lt];all_goals rfl
  ·rw[ap hlen]at h ⊢;have C6:¬(65536:Int)<(t.length:Int):=ae;have N8:t.all (gK aB)=false:=by
    cases hq:t.all (gK aB) with
    |false=>rfl
    |true=>rw[hq]at h;exact absurd rfl h
   rw[be N8];have gL:=N8;obtain⟨ru,yI⟩:∃ru,aB=ru:=⟨_,rfl⟩
   cases ru with
   |true =>
    refine bo Tryz.func29 Tryz.ntmps29 Tryz.results29 0 62307562302417931542365956185554679 ?_;simp only[zI,simprocAttr,bI,Re.ah,bV,iD,bD,ao];refine dY h1 ?_;simp only[zI,simprocAttr,bI,Re.ah,bV,iD,bD,ne_eq,not_true_eq_false,ajM,C6,gt_iff_lt,yI];refine aw (λn e s=>∃i:Nat,n=t.length-i/\i<=t.length/\e 1=.d (ao t)/\e 2=.rf 0 0 0 0/\e 7=i64 (gH aB)/\e 25=.d (ao t)/\e 26=i64 t.length/\e 27=i64 i/\(t.take i).all (gK aB)=true/\s=[⟨0,true,10,[re.cells.map .d++[i64 ai,bV aB]]⟩])
     ⟨_,_,_,bA.refl,0,rfl,ae,rfl,rfl,by subst yI;rfl,rfl,by first|rfl|(rw[ajM];rfl),rfl,ak,by subst yI;simp [Re.ah re,iD,bD,bV,i64]⟩ ?_
    rintro n e s ⟨i,rfl,hi,q1,q2,q7,PL,Bq,ES,bX,rfl⟩;have pV:e 25=.d (.sl (t.map λx=>[iD x])):=PL;rcases akd i t.length with az|gx
    ·obtain⟨x,hx⟩:∃x,t[i]?=some x:=cc az;have aA:(i:Int)<(t.length:Int):=ae;have hi0:(0:Int)<=(i:Int):=ae;have hT:=bm hx;by_cases c1:x<0
     ·have kT:t.all (gK aB)=false:=all_false hx (by simp [gK];omega);simp only[zI,simprocAttr,iD,bD,bV,Re.ah re,ajR,ajV,q1,q2,q7,pV,Bq,ES,aA,hi0,az,hx,ajM,List.getElem?_map,ajS,ajP,c1];first|(rw[gL]at kT;cases kT;done)|(all_goals rfl)
     ·by_cases c2:gH aB<x
      ·have kT:t.all (gK aB)=false:=all_false hx (by simp [gK];omega);simp only[zI,simprocAttr,iD,bD,bV,Re.ah re,ajR,ajV,q1,q2,q7,pV,Bq,ES,aA,hi0,az,hx,ajM,List.getElem?_map,ajS,ajP,c1,c2,gt_iff_lt];first|(rw[gL]at kT;cases kT;done)|(all_goals rfl)
      ·simp only[zI,simprocAttr,iD,bD,bV,Re.ah re,ajR,ajV,q1,q2,q7,pV,Bq,ES,aA,hi0,az,hx,ajM,List.getElem?_map,ajS,ajP,c1,c2,gt_iff_lt];refine⟨t.length-(i+1),_,_,ae,bA.refl,i+1,rfl,az,?_,?_,?_,?_,?_,?_,?_,by simp [Re.ah re,iD,bD,bV,i64]⟩ <;> (try simp only[zU,pZ,jN,oN,oV,reduceIte])
       ·exact q1
       ·exact q2
       ·exact q7
       ·exact PL
       ·exact Bq
       ·rw[bG _ ae];rfl
       ·rw[hT,akZ,bX];simp [gK];omega
    ·have dX:i=t.length:=by omega
     subst dX;rw[akg,N8]at bX;cases bX
   |false =>
    refine bo Tryz.func29 Tryz.ntmps29 Tryz.results29 0 62307562302417931542365956185554679 ?_;simp only[zI,simprocAttr,bI,Re.ah,bV,iD,bD,ao];refine dY h1 ?_;simp only[zI,simprocAttr,bI,Re.ah,bV,iD,bD,ne_eq,not_true_eq_false,ajM,C6,gt_iff_lt,yI];refine aw (λn e s=>∃i:Nat,n=t.length-i/\i<=t.length/\e 1=.d (ao t)/\e 2=.rf 0 0 0 0/\e 7=i64 (gH aB)/\e 25=.d (ao t)/\e 26=i64 t.length/\e 27=i64 i/\(t.take i).all (gK aB)=true/\s=[⟨0,true,10,[re.cells.map .d++[i64 ai,bV aB]]⟩])
     ⟨_,_,_,bA.refl,0,rfl,ae,rfl,rfl,by subst yI;rfl,rfl,by first|rfl|(rw[ajM];rfl),rfl,ak,by subst yI;simp [Re.ah re,iD,bD,bV,i64]⟩ ?_
    rintro n e s ⟨i,rfl,hi,q1,q2,q7,PL,Bq,ES,bX,rfl⟩;have pV:e 25=.d (.sl (t.map λx=>[iD x])):=PL;rcases akd i t.length with az|gx
    ·obtain⟨x,hx⟩:∃x,t[i]?=some x:=cc az;have aA:(i:Int)<(t.length:Int):=ae;have hi0:(0:Int)<=(i:Int):=ae;have hT:=bm hx;by_cases c1:x<0
     ·have kT:t.all (gK aB)=false:=all_false hx (by simp [gK];omega);simp only[zI,simprocAttr,iD,bD,bV,Re.ah re,ajR,ajV,q1,q2,q7,pV,Bq,ES,aA,hi0,az,hx,ajM,List.getElem?_map,ajS,ajP,c1];first|(rw[gL]at kT;cases kT;done)|(all_goals rfl)
     ·by_cases c2:gH aB<x
      ·have kT:t.all (gK aB)=false:=all_false hx (by simp [gK];omega);simp only[zI,simprocAttr,iD,bD,bV,Re.ah re,ajR,ajV,q1,q2,q7,pV,Bq,ES,aA,hi0,az,hx,ajM,List.getElem?_map,ajS,ajP,c1,c2,gt_iff_lt];first|(rw[gL]at kT;cases kT;done)|(all_goals rfl)
      ·simp only[zI,simprocAttr,iD,bD,bV,Re.ah re,ajR,ajV,q1,q2,q7,pV,Bq,ES,aA,hi0,az,hx,ajM,List.getElem?_map,ajS,ajP,c1,c2,gt_iff_lt];refine⟨t.length-(i+1),_,_,ae,bA.refl,i+1,rfl,az,?_,?_,?_,?_,?_,?_,?_,by simp [Re.ah re,iD,bD,bV,i64]⟩ <;> (try simp only[zU,pZ,jN,oN,oV,reduceIte])
       ·exact q1
       ·exact q2
       ·exact q7
       ·exact PL
       ·exact Bq
       ·rw[bG _ ae];rfl
       ·rw[hT,akZ,bX];simp [gK];omega
    ·have dX:i=t.length:=by omega
     subst dX;rw[akg,N8]at bX;cases bX
 ·rw[be hac];refine bo Tryz.func29 Tryz.ntmps29 Tryz.results29 0 62307562302417931542365956185554679 ?_;simp only[zI,simprocAttr,bI,Re.ah,bV,iD,bD,ao];refine dY h1 ?_;simp only[zI,simprocAttr,bI,Re.ah,bV,iD,bD,ne_eq,hac,not_false_eq_true];all_goals rfl
def ef (L:List (Re×Nat)):D:=.sl (L.map λp=>[p.1.bk p.2])
theorem FZ {p:iM} (h:wM p=0):cS p=0/\p.re.cP (List.replicate 10 false) false=true/\mi p.re=true:=by
 unfold wM at h;split at h
 ·rename_i h1;exact absurd h h1
 ·rename_i h1;split at h
  ·cases h
  ·rename_i h2;split at h
   ·cases h
   ·rename_i h3;exact⟨by simpa using h1,by simpa using h2,by simpa using h3⟩
theorem AB {p:iM} (h:c9 p t=0):wM p=0/\t.length<=65536/\t.all (gK p.aB)=true:=by
 unfold c9 at h;split at h
 ·rename_i h1;exact absurd h h1
 ·rename_i h1;split at h
  ·cases h
  ·rename_i h2;split at h
   ·cases h
   ·rename_i h3;exact⟨by simpa using h1,ae,by simpa using h3⟩
theorem NM (re:Re):re.looks<=re.size:=by
 refine Re.ind (Q:=λre=>re.looks<=re.size) (λre ih=>?_) re;have hL:∀l:List Re,(∀x∈l,x∈re.kids)->Re.ba l<=Re.dw l:=by
  intro l;induction l with
  |nil=>intro _;simp [Re.ba,Re.dw]
  |cons x l CG =>
   intro hm;have h1:=ih x (hm x ak);have h2:=CG (λy hy=>hm y (by simp [hy]));simp only[Re.ba,Re.dw];omega
 have:=hL re.kids (λ_ h=>h);rw[Re.jZ,Re.size_eq];split <;> omega
theorem O5 (lim:Nat) (s:List VL.Obj) (d:D):fp lim s (.d d)=.d d:=rfl
theorem Kd (t:List Int) (fg:D) (L:List (Re×Nat)) (pb:VL.Obj) :
  kx [1,3] (ky 4 (br [pb,⟨0,true,4,[[.d (.sl (t.map λx=>[D.sc (Value.int IntKind.i64 x)])),.d fg,.so 2 L.length 0 L.length,.so 3 0 0 L.length]]⟩,fk L.length (L.map λp=>p.1.bk p.2),⟨0,true,1,List.replicate L.length [.fu []]⟩] [2])) =
   [dz t fg (ef L) 0 L.length,fx 0 (List.replicate L.length [])]:=by
 have hk:br [pb,⟨0,true,4,[[.d (.sl (t.map λx=>[D.sc (Value.int IntKind.i64 x)])),.d fg,.so 2 L.length 0 L.length,.so 3 0 0 L.length]]⟩,fk L.length (L.map λp=>p.1.bk p.2),⟨0,true,1,List.replicate L.length [.fu []]⟩] [2] =
   [pb,⟨0,true,4,[[.d (.sl (t.map λx=>[D.sc (Value.int IntKind.i64 x)])),.d fg,.so 2 L.length 0 L.length,.so 3 0 0 L.length]]⟩,⟨L.length,false,1,(L.map λp=>p.1.bk p.2).map λd=>[.d d]⟩,⟨0,true,1,List.replicate L.length [.fu []]⟩]:=rfl
 rw[hk];generalize hS:[pb,(⟨0,true,4,[[.d (.sl (t.map λx=>[D.sc (Value.int IntKind.i64 x)])),.d fg,.so 2 L.length 0 L.length,.so 3 0 0 L.length]]⟩:VL.Obj),⟨L.length,false,1,(L.map λp=>p.1.bk p.2).map λd=>[.d d]⟩,⟨0,true,1,List.replicate L.length [.fu []]⟩]=S;have s2:S[2]?=some ⟨L.length,false,1,(L.map λp=>p.1.bk p.2).map λd=>[.d d]⟩:=by rw[<- hS];rfl
 have s3:S[3]?=some ⟨0,true,1,List.replicate L.length [.fu []]⟩:=by rw[<- hS];rfl
 have c2:fp 4 S (.so 2 L.length 0 L.length)=.d (ef L):=by have:=lh (lim:=4) (s:=S) (id:=2) (g:=L.length) (lo:=0) (n:=L.length) (sz:=1) (live:=false) (ds:=L.map λp=>[p.1.bk p.2]) s2 (by rw[akJ,akb ak];simp) ak (.inr rfl);rw[fp,this];rfl
 have c3:fp 4 S (.so 3 0 0 L.length)=.so 3 0 0 L.length:=by rw[fp,bc,cT,s3];simp
 have hc:ky 4 S=[⟨pb.g,pb.live,pb.sz,pb.au.map λc=>c.map (fp 4 S)⟩,⟨0,true,4,[[.d (.sl (t.map λx=>[D.sc (Value.int IntKind.i64 x)])),.d fg,.d (ef L),.so 3 0 0 L.length]]⟩,⟨L.length,false,1,((L.map λp=>p.1.bk p.2).map λd=>[V.d d]).map λc=>c.map (fp 4 S)⟩,⟨0,true,1,List.replicate L.length [.d (.sl [])]⟩]:=by unfold ky;rw[show S.take 4=[pb,(⟨0,true,4,[[.d (.sl (t.map λx=>[D.sc (Value.int IntKind.i64 x)])),.d fg,.so 2 L.length 0 L.length,.so 3 0 0 L.length]]⟩:VL.Obj),⟨L.length,false,1,(L.map λp=>p.1.bk p.2).map λd=>[.d d]⟩,⟨0,true,1,List.replicate L.length [.fu []]⟩] by rw[<- hS];rfl];simp only[ajR,ajV,O5,c2,c3,List.map_replicate];rfl
 rw[hc];simp only[kx,ajR,ajV,akN,akM];have e4:di [1,3] ⟨0,true,1,List.replicate L.length [V.d (.sl [])]⟩=fx 0 (List.replicate L.length []):=by simp [di,cJ.go,cJ,fx]
 rw[e4];rfl
theorem Og (t:List Int) (fg GC:D) (n i m:Nat) (Bs:List (List Bool)) (l:List Bool) (hl:l.length=m) (x:VL.Obj) :
  ky 2 [dz t fg GC 0 n,⟨0,true,1,(Bs.map λl=>[V.d (.sl (l.map λb=>[bD b]))]).set i [.so 3 1 0 m]⟩,x,cq 1 l]=[dz t fg GC 0 n,fx 0 (Bs.set i l)]:=by
 generalize hS:[dz t fg GC 0 n,⟨0,true,1,(Bs.map λl=>[V.d (.sl (l.map λb=>[bD b]))]).set i [.so 3 1 0 m]⟩,x,cq 1 l]=S;have s3:S[3]?=some (cq 1 l):=by rw[<- hS];rfl
 have s1:S[1]?=some ⟨0,true,1,(Bs.map λl=>[V.d (.sl (l.map λb=>[bD b]))]).set i [.so 3 1 0 m]⟩:=by rw[<- hS];rfl
 have c3:fp 2 S (.so 3 1 0 m)=.d (.sl (l.map λb=>[bD b])):=by have:=lh (lim:=2) (s:=S) (id:=3) (g:=1) (lo:=0) (n:=m) (sz:=1) (live:=true) (au:=l.map λb=>[bV b]) (ds:=l.map λb=>[bD b]) s3 (by rw[akJ,akb (by simp [hl]),akq];rfl) (by simp [hl]) (.inl ae);rw[fp,this];rfl
 have c1:fp 2 S (.so 1 0 0 n)=.so 1 0 0 n:=by rw[fp,bc,cT,s1];simp
 have e1:ky 2 S=[{ dz t fg GC 0 n with au:=(dz t fg GC 0 n).au.map λc=>c.map (fp 2 S) },⟨0,true,1,((Bs.map λl=>[V.d (.sl (l.map λb=>[bD b]))]).set i [.so 3 1 0 m]).map λc=>c.map (fp 2 S)⟩]:=by
  unfold ky
  conv=>lhs;rw[show S.take 2=[dz t fg GC 0 n,⟨0,true,1,(Bs.map λl=>[V.d (.sl (l.map λb=>[bD b]))]).set i [.so 3 1 0 m]⟩] by rw[<- hS];rfl]
  rfl
 rw[e1];simp only[dz,ajR,ajV,O5,c1,akT,c3,akq];unfold fx;rw[akT];rfl
def iH (neg:Bool) (m:Nat) (l:List Bool):List Bool:=(l.take m).map (λb=>b != neg)++l.drop m
theorem GR (neg:Bool) (l:List Bool):iH neg 0 l=l:=by simp [iH]
theorem K1 (neg:Bool) (l:List Bool):iH neg l.length l=l.map λb=>b != neg:=by simp [iH]
theorem JJ (neg:Bool) (m:Nat) (l:List Bool):(iH neg m l).length=l.length:=by simp [iH];omega
theorem Js (h:l[m]?=some y):(iH neg m l)[m]?=some y:=by have hm:=(List.getElem?_eq_some_iff.1 h).1;unfold iH;rw[List.getElem?_append_right cC];simp only[ajM,akH,Nat.min_eq_left (Nat.le_of_lt hm),akQ,List.getElem?_drop,ak0];exact h
theorem Gx (h:l[m]?=some y):(iH neg m l).set m (y != neg)=iH neg (m+1) l:=by have hm:=(List.getElem?_eq_some_iff.1 h).1;unfold iH;rw[akI _ _ cC];simp only[ajM,akH,Nat.min_eq_left (Nat.le_of_lt hm),akQ];rw[alc hm,aj9,bm h,akF,aj7];rfl
theorem sa {lim:Nat}{aZ:List Nat}{t:Nat} (h:aZ.contains t=true):zS lim s aZ e t=fp lim s (e t):=by unfold zS;rw[be h]
theorem Cr{N L M:Nat}{a b:Code}{R:VL.Env->List VL.Obj->Prop}{Q:Exit->VL.Env->List VL.Obj->Prop}{p:Prop} [Decidable p] (J:VL.Env->List VL.Obj->Prop)
  (h1:p->∀(B:VL.Env->List VL.Obj->Prop) (Q:Exit->VL.Env->List VL.Obj->Prop),(∀e s,J e s->B e s)->codeWp P N L M a (qI B Q) e s)
  (h2:¬p->∀(B:VL.Env->List VL.Obj->Prop) (Q:Exit->VL.Env->List VL.Obj->Prop),(∀e s,J e s->B e s)->codeWp P N L M b (qI B Q) e s)
  (h3:∀e s,J e s->R e s):mb (.d (.sc (.bool (decide p)))) (codeWp P N L M a (qI R Q)) (codeWp P N L M b (qI R Q)) e s :=
 jQ (λh=>h1 h _ _ h3) (λh=>h2 h _ _ h3)
end Go.Proofs.YtjjfioalgbecmaaGreat
