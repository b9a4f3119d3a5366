/- A part of the proof (G19 F51 F52 F61 G20 G21 G22). -/
import Derived.Test.YtfmdmlfhigocaaaON14
import Derived.Test.YtfmdmlfhigocaaaON24
import Derived.Test.YtfmdmlfhigocaaaON25
set_option linter.unusedSimpArgs false
set_option linter.unusedVariables false
open Nat renaming reduceShiftRight → cQ, reduceMod → dx, reduceEqDiff → eI, reduceAdd → eJ, reduceBEq → gj
set_option maxRecDepth 100000
set_option maxHeartbeats 80000000
namespace Go.Proofs.Ytfmdmlfhigocaaa
open Go.VL Go.Proofs.Try
variable{most:Int}{t:List Int}{ak:Int}{top:Int}{fuel:Int}{p:ic}
def Gt (at_:Int) (x:Int×aK):List D:=[iD at_,iD x.1,cM x.2]
def sf (p:ic):aK:=List.replicate p.ak.toNat (-1,-1)
def SC (at_:Int) (x:bJ):V:=if x.empty=true then .tu [.d (.sl []),i64 0,i64 11] else .tu [.d (.sl ((x.ends.zip x.ak).map (Gt at_))),i64 x.steps,i64 0]
def XG (e:Int):V:=.tu [.d (.sl []),i64 0,i64 e]
theorem SL (p:ic) (t:List Int) (at_ most fuel:Int) (hf:p.re.bC=true) (hs:p.re.size<=1000000000) (ht:t.length<=1000000000) (hv:jl p t fuel≠0) :
  aO prog 26 [aZ p,.d (al t),i64 at_,i64 most,i64 fuel] (XG (jl p t fuel)):=by
 have h1:=y8 p t fuel hf hs ht;cases p with
 |mk re ak aN =>
 simp only[aZ,Re.ae re,afR,afU,afQ,afS,i64,iD,bD,bV]at h1;generalize jl ⟨re,ak,aN⟩ t fuel=v at *;refine an func26 rfl ntmps26 results26 rfl 0 130111 (by simp) (by simp) ?_;simp only[zX,simprocAttr,i64,aZ,Re.ae re,bV,iD,bD];refine aj h1 (by simp [ah,ah.go,ai,i64,bV,aM]) (by simp [ah,ah.go,ai,i64,bV,aM]) ?_;simp only[zX,simprocAttr,i64,aZ,bV,iD,bD,hv];rfl
theorem Nx (p:ic) (t:List Int) (at_ most fuel:Int) (hf:p.re.bC=true) (hs:p.re.size<=1000000000) (ht:t.length<=1000000000) (hv:jl p t fuel=0) (ha:at_<0\/t.length<at_) :
  aO prog 26 [aZ p,.d (al t),i64 at_,i64 most,i64 fuel] (XG 5):=by
 have h1:=y8 p t fuel hf hs ht;rw[hv]at h1;cases p with
 |mk re ak aN =>
 simp only[aZ,Re.ae re,afR,afU,afQ,afS,i64,iD,bD,bV]at h1;refine an func26 rfl ntmps26 results26 rfl 0 130111 (by simp) (by simp) ?_;simp only[zX,simprocAttr,i64,aZ,Re.ae re,bV,iD,bD];refine aj h1 (by simp [ah,ah.go,ai,i64,bV,aM]) (by simp [ah,ah.go,ai,i64,bV,aM]) ?_;simp only[zX,simprocAttr,i64,aZ,bV,iD,bD];by_cases c1:at_<0
 ·simp only[zX,simprocAttr,i64,aZ,bV,iD,bD,c1];rfl
 ·have c2:(t.length:Int)<at_:=ha.resolve_left c1;simp only[zX,simprocAttr,i64,aZ,bV,iD,bD,c1,c2,al,gt_iff_lt,afN];rfl
def ZX (re:Re) (ak:Int) (aN:Bool) (t:List Int) (most fuel xs:Int) (gU:List Int) (qs:List aK):List VL.Obj :=
 [⟨0,true,10,[[.d (.sc (.int .i64 re.op)),.d (.sl (re.set.map aV)),.d (.sl (re.kids.map Re.cells)),.d (.sc (.int .i64 re.mn)),.d (.sc (.int .i64 re.mx)),.d (.sc (.int .i64 re.mode)),.d (.sc (.int .i64 re.n)),.d (.sc (.bool re.neg)),.d (.sc (.int .i64 ak)),.d (.sc (.bool aN))]]⟩,
  ⟨0,true,7,[[.d (al t),.d (.sc (.int .i64 most)),.d (.sc (.int .i64 fuel)),.d (.sc (.int .i64 xs)),.d (.sc (.bool false)),.so 3 gU.length 0 gU.length,.so 4 gU.length 0 qs.length]]⟩,
  ⟨1,false,12,[[.d (.sc (.int .i64 0)),.d (.sc (.int .i64 re.op)),.d (.sl (re.set.map aV)),.d (.sl (re.kids.map Re.cells)),.d (.sc (.int .i64 re.mn)),.d (.sc (.int .i64 re.mx)),.d (.sc (.int .i64 re.mode)),.d (.sc (.int .i64 re.n)),.d (.sc (.bool re.neg)),.d (.sc (.int .i64 0)),.d (.sc (.int .i64 0)),.d (.sc (.pointer none))]]⟩,
  ⟨gU.length,true,1,gU.map λx=>[.d (.sc (.int .i64 x))]⟩,⟨gU.length,true,1,qs.map λc=>[.d (cM c)]⟩]
theorem S6 (p:ic) (t:List Int) (at_ most fuel:Int) (hf:p.re.bC=true) (hs:p.re.size<=1000000000) (ht:t.length<=1000000) (hc:p.ak<=1000000) (hv:jl p t fuel=0) (a0:0<=at_) (a1:at_<=t.length)
  {n:Nat}{b:Bool}{x:bJ} (hx:gT t fuel n most (.run (.mk 0 p.re 0 0 .nil) at_ (sf p)) ⟨0,false,[],[]⟩=some (b,x)) (hl:x.ends.length<=2000000000000) (Mh:x.ak.length=x.ends.length) :
  aO prog 26 [aZ p,.d (al t),i64 at_,i64 most,i64 fuel] (SC at_ x):=by
 have h1:=y8 p t fuel hf hs (by omega);have hb:=SN p.ak hc;have DE:Goal.nil.d=.sc (.pointer none):=rfl;rw[hv]at h1;have eu:=Mn (F:=fuel) ht n 0 most _ _ _ _ hx;unfold bS dt fl eB at eu;unfold sf at eu;cases p with
 |mk re ak aN =>
 simp only[Goal.bW,DE,i64,bV,iD,bD]at eu;simp only[i64]at hb;simp only[aZ,Re.ae re,afR,afU,afQ,afS,i64,iD,bD,bV]at h1;clear hx hv;have c1:¬at_<0:=by omega
 have c2:¬(t.length:Int)<at_:=by omega
 refine an func26 rfl ntmps26 results26 rfl 0 130111 (by simp) (by simp) ?_;simp only[zX,simprocAttr,i64,aZ,Re.ae re,bV,iD,bD];refine aj h1 (by simp [ah,ah.go,ai,i64,bV,aM]) (by simp [ah,ah.go,ai,i64,bV,aM]) ?_;simp only[zX,simprocAttr,i64,aZ,bV,iD,bD,c1,c2,al,gt_iff_lt,afN];refine aS bO.bf ?_;refine ar mix [9] [(4,[2],[2])] (by rfl) ?_;simp only[zX,simprocAttr,i64,bV,hole];refine bp hb rfl rfl ?_;simp only[zX,simprocAttr,i64,bV,iD,bD];refine e8 (r:=.d (.sc (.bool b))) (s1:=[⟨0,true,10,[[.d (.sc (.int .i64 re.op)),.d (.sl (re.set.map aV)),.d (.sl (re.kids.map Re.cells)),.d (.sc (.int .i64 re.mn)),.d (.sc (.int .i64 re.mx)),.d (.sc (.int .i64 re.mode)),.d (.sc (.int .i64 re.n)),.d (.sc (.bool re.neg)),.d (.sc (.int .i64 ak)),.d (.sc (.bool aN))]]⟩,
  ⟨0,true,7,[[.d (al t),.d (.sc (.int .i64 most)),.d (.sc (.int .i64 fuel)),.d (.sc (.int .i64 x.steps)),.d (.sc (.bool x.empty)),.so 3 x.ends.length 0 x.ends.length,.so 4 x.ends.length 0 x.ak.length]]⟩,
  ⟨1,false,12,[[.d (.sc (.int .i64 0)),.d (.sc (.int .i64 re.op)),.d (.sl (re.set.map aV)),.d (.sl (re.kids.map Re.cells)),.d (.sc (.int .i64 re.mn)),.d (.sc (.int .i64 re.mx)),.d (.sc (.int .i64 re.mode)),.d (.sc (.int .i64 re.n)),.d (.sc (.bool re.neg)),.d (.sc (.int .i64 0)),.d (.sc (.int .i64 0)),.d (.sc (.pointer none))]]⟩,
  ⟨x.ends.length,true,1,x.ends.map λx=>[.d (.sc (.int .i64 x))]⟩,⟨x.ends.length,true,1,x.ak.map λc=>[.d (cM c)]⟩]) ?_ ?_
 ·refine bc (cargs:=[.rf 1 0 0 0,.d (.el [.sc (.int .i64 0),.sc (.int .i64 re.op),.sl (re.set.map aV),.sl (re.kids.map Re.cells),.sc (.int .i64 re.mn),.sc (.int .i64 re.mx),.sc (.int .i64 re.mode),.sc (.int .i64 re.n),.sc (.bool re.neg),.sc (.int .i64 0),.sc (.int .i64 0),.sc (.pointer none)]),.d (.sc (.int .i64 at_)),.d (cM (List.replicate ak.toNat (-1,-1)))]) [2] (by simp [bE,bM,ba.go,ba,cj]) ?_;simp only[bE,bM,agm,agF,agf,agd];refine g9 (pre:=[.d (al t),.d (.sc (.int .i64 most)),.d (.sc (.int .i64 fuel)),.d (.sc (.int .i64 0)),.d (.sc (.bool false))]) (post:=[.fu []]) 1 1 rfl rfl rfl ?_;simp only[agf,agd,afQ,afS,afZ,af0,eJ];refine g9 (pre:=[.d (al t),.d (.sc (.int .i64 most)),.d (.sc (.int .i64 fuel)),.d (.sc (.int .i64 0)),.d (.sc (.bool false)),.so 3 0 0 0]) (post:=[]) 1 1 rfl rfl rfl ?_;simp only[agf,agd,afQ,afS,afZ,af0,eJ];refine cH [1,3,4] eu (by decide) rfl rfl rfl rfl ?_ rfl ?_
  ·rfl
  simp only[afR,afU,FB,aE,agd,agf,aT,aL,aL.go,agW,agX,agy,and_self,true_and];rfl
 ·clear eu;obtain⟨xs,xe,gU,qs⟩:=x;simp only at hl Mh;cases xe with
  |true =>
   simp only[zX,simprocAttr,i64,bV,iD,bD,SC]
  |false =>
   simp only[GQ,Di,Dj,simprocAttr,qc,i64,bV,iD,bD,SC,age,if_false];refine au (λn e s=>∃i:Nat,n=gU.length-i/\i<=gU.length/\e 2=i64 at_/\e 14=.rf 1 0 0 0/\e 16=i64 i/\Acc (ZX re ak aN t most fuel xs gU qs) 3 (e 15) s (((gU.zip qs).take i).map (Gt at_)))
    ⟨_,_,_,br.refl,0,rfl,by omega,rfl,rfl,rfl,.inl ⟨rfl,rfl⟩⟩ ?_
   rintro n e s ⟨i,rfl,hi,h2,cP,lT,iE⟩;have TQ:=iE.get (id:=1) rfl;have Zr:=iE.get (id:=3) rfl;have hB4:=iE.get (id:=4) rfl;have acG:(0:Int)<=i:=by omega
   rcases agi i gU.length with az|fI
   ·obtain⟨y,hy⟩:∃y,gU[i]?=some y:=⟨_,afP az⟩
    obtain⟨z,hz⟩:∃z,qs[i]?=some z:=⟨_,afP (by omega)⟩
    have hyz:(gU.zip qs)[i]?=some (y,z):=by rw[List.getElem?_zip_eq_some];exact⟨hy,hz⟩
    have aC:(i:Int)<gU.length:=by omega
    have aal:i<qs.length:=by omega
    simp only[GQ,Di,Dj,simprocAttr,qc,i64,iD,bD,bV,h2,cP,lT,TQ,Zr,hB4,aC,az];refine ar mix [18] [] (by rfl) ?_;simp only[GQ,Di,Dj,simprocAttr,qc,i64,iD,bD,bV,h2,cP,lT,TQ,Zr,hB4,aC,az,aal,hy,hz,afX];refine iE.append U5 rfl (by decide) (by decide) (by intro y hy;obtain⟨z,_,rfl⟩:=List.mem_map.1 hy;rfl) (by simp) (by simp) (by simp only[afN,agN,afZ,af0];omega) (λv' s' He=>?_);simp only[GQ,Di,Dj,simprocAttr,qc,i64,iD,bD,bV,h2,cP,lT];refine⟨gU.length-(i+1),_,_,by omega,br.refl,i+1,rfl,az,?_,?_,?_,?_⟩ <;> (try simp only[zU,gj,cQ,dx,eI,reduceIte])
    ·exact h2
    ·exact cP
    ·rw[bd _ (by omega)];rfl
    ·rw[aR hyz];simpa [Gt,iD]using He
   ·have cV:i=gU.length:=by omega
    subst cV;have aC:¬(gU.length:Int)<gU.length:=by omega
    have Vz:(gU.zip qs).length=gU.length:=by simp [Mh]
    have EC:(gU.zip qs).take gU.length=gU.zip qs:=by rw[<- Vz,agj]
    rw[EC]at iE;simp only[GQ,Di,Dj,simprocAttr,qc,i64,iD,bD,bV,h2,cP,lT,TQ,Zr,hB4,aC];refine ar mix [] [] (by rfl) ?_;simp only[GQ,Di,Dj,simprocAttr,qc,i64,iD,bD,bV,h2,cP,lT,TQ];rw[iE.W6 (ahn _)];rfl
open Classical in
noncomputable def ZT (t:List Int) (F most:Int) (task:Task) (st:bJ):Bool×bJ:=if h:∃n r,gT t F n most task st=some r then (Classical.choose_spec h).choose else (false,st)
theorem Qm{F:Int}{task:Task}{st:bJ}{n:Nat}{r:Bool×bJ} (h:gT t F n most task st=some r):ZT t F most task st=r:=by unfold ZT;rw[dif_pos ⟨n,r,h⟩];exact Sm (Classical.choose_spec (Classical.choose_spec (⟨n,r,h⟩:∃n r,gT t F n most task st=some r))) h
theorem GV {re:Re} (h:bK re ak top=true) (hk:re.kids.length<=1000000000):jI re=true:=by
 obtain⟨h1,h2,h3,h4,h5⟩:=fz.1 h;have fx:re.set.length<=64:=by
  split at h2
  ·simp only[gZ,agb,decide_eq_true_eq]at h2;exact h2.1
  ·omega
 refine bi ⟨λho hn=>?_,λho=>?_,by omega,hk⟩
 ·have:=h1.2.2.1;rw[hn]at this;simp only[af0,agk]at this;rcases ho with o|o|o|o|o <;> rw[o]at this <;> simp [cr]at this
 ·have:=h1.2.2.1;rw[ho]at this;simp [cr]at this;omega
theorem Iz (re:Re) (h:re.whole ak top=true) (hs:re.size<=1000000):re.every jI=true:=by revert h hs;refine Re.ind (Q:=λre=>re.whole ak top=true->re.size<=1000000->re.every jI=true) (λre ih h hs=>?_) re;obtain⟨a1,a2⟩:=(Re.aB re).1 h;have:=Re.lO re.kids;have:=Re.size_eq re;exact(Re.aB re).2 ⟨GV a1 (by omega),λk hk=>ih k hk (a2 k hk) (by have:=Re.bL hk;omega)⟩
noncomputable def jW (p:ic) (t:List Int) (at_ most fuel:Int):Bool×bJ:=ZT t fuel most (.run (.mk 0 p.re 0 0 .nil) at_ (sf p)) ⟨0,false,[],[]⟩
theorem Af (h:jl p t fuel=0):cC p=0/\t.length<=65536/\t.all (fT p.aN)=true/\0<=fuel/\fuel<=1099511627776:=by
 unfold jl at h;split at h
 ·omega
 ·split at h
  ·omega
  ·split at h
   ·omega
   ·split at h
    ·omega
    ·refine⟨by omega,by omega,by simp_all,by omega,by omega⟩
theorem db (h:cC p=0):p.re.size<=256/\p.re.depth<=24/\0<=p.ak/\p.ak<=9/\p.re.whole p.ak (gz p.aN)=true:=by
 unfold cC at h;split at h
 ·omega
 ·split at h
  ·omega
  ·rename_i h1 h2;refine⟨by omega,by omega,by omega,by omega,?_⟩;cases hw:p.re.whole p.ak (gz p.aN) with
   |true=>rfl
   |false=>exact absurd (.inr (.inr hw)) h2
theorem zu{at_:Int} (hv:jl p t fuel=0) (a0:0<=at_) (a1:at_<=t.length) :
  ∃n,gT t fuel n most (.run (.mk 0 p.re 0 0 .nil) at_ (sf p)) ⟨0,false,[],[]⟩=some (jW p t at_ most fuel)/\dW t fuel 0 at_ (sf p).length ⟨0,false,[],[]⟩ (jW p t at_ most fuel).1 (jW p t at_ most fuel).2:=by
 obtain⟨h1,h2,h3,h4,h5⟩:=Af hv;obtain⟨k1,k2,k3,k4,k5⟩:=db h1;have fK:(sf p).length<=9:=by unfold sf;rw[ahe];omega
 obtain⟨n,b,s',e1,e2,_⟩:=QT (t:=t) (F:=fuel) (by omega) _ _ most (.run (.mk 0 p.re 0 0 .nil) at_ (sf p)) ⟨0,false,[],[]⟩ (af3 _) (af3 _)
  ⟨by omega,Iz _ k5 (by omega),by intro h;omega,by intro h;omega,by intro h;omega,by intro h;omega,trivial⟩
  ⟨a0,a1,⟨by show (sf p).length<=_;omega,λq hq=>.inl (List.eq_of_mem_replicate hq)⟩,rfl,agn _,h4,by simp [Task.gW,eg],rfl⟩
 have hx:jW p t at_ most fuel=(b,s'):=Qm e1;rw[hx];exact⟨n,e1,e2⟩
noncomputable def uP (p:ic) (t:List Int) (at_ most fuel:Int):Int:=if jl p t fuel≠0 then jl p t fuel else if at_<0\/(t.length:Int)<at_ then 5 else if (jW p t at_ most fuel).2.empty=true then 11 else 0
noncomputable def allM (p:ic) (t:List Int) (at_ most fuel:Int):List (Int×aK):=if uP p t at_ most fuel=0 then (jW p t at_ most fuel).2.ends.zip (jW p t at_ most fuel).2.ak else []
noncomputable def R5 (p:ic) (t:List Int) (at_ most fuel:Int):Int:=if uP p t at_ most fuel=0 then (jW p t at_ most fuel).2.steps else 0
theorem NF (p:ic) (t:List Int) (at_ most fuel:Int) (hf:p.re.bC=true) (hs:p.re.size<=1000000000) (ht:t.length<=1000000000) :
  aO prog 26 [aZ p,.d (al t),i64 at_,i64 most,i64 fuel] (.tu [.d (.sl ((allM p t at_ most fuel).map (Gt at_))),i64 (R5 p t at_ most fuel),i64 (uP p t at_ most fuel)]):=by
 by_cases hv:jl p t fuel=0
 case neg =>
  have he:uP p t at_ most fuel=jl p t fuel:=by rw[uP,be hv]
  rw[allM,R5,he,ap hv,ap hv];exact SL p t at_ most fuel hf hs ht hv
 by_cases ha:at_<0\/(t.length:Int)<at_
 ·have he:uP p t at_ most fuel=5:=by rw[uP,ap (by omega),be ha]
  rw[allM,R5,he,ap (by omega),ap (by omega)];exact Nx p t at_ most fuel hf hs ht hv ha
 ·obtain⟨n,e1,e2⟩:=zu (at_:=at_) (most:=most) hv (by omega) (by omega);obtain⟨h1,h2,_,h4,h5⟩:=Af hv;obtain⟨_,_,_,k4,_⟩:=db h1;have he:uP p t at_ most fuel=if (jW p t at_ most fuel).2.empty=true then 11 else 0:=by rw[uP,ap (by omega),ap ha]
  rw[allM,R5,he];generalize jW p t at_ most fuel=X at *;obtain⟨b,x⟩:=X;simp only at e2 ⊢;obtain⟨new,v9,m1,m2,m3,m4,_⟩:=e2.more;have ez:=e2.s1;simp only[afS]at m1 m2;have hlen:x.ends.length<=2000000000000:=by rw[m1];simp only at m4;omega
  have r:=S6 p t at_ most fuel hf hs (by omega) (by omega) hv (by omega) (by omega) e1 hlen (by rw[m1,m2,m3]);unfold SC at r;split at r
  ·rename_i hh;rw[be hh,ap (by decide),ap (by decide)];exact r
  ·rename_i hh;rw[ap hh,be rfl,be rfl];exact r
end Go.Proofs.Ytfmdmlfhigocaaa
namespace Go.Proofs.Ytfmdmlfhigocaaa
open Go.VL Go.Proofs.Try
end Go.Proofs.Ytfmdmlfhigocaaa
namespace Go.Proofs.Ytfmdmlfhigocaaa
open Go.VL Go.Proofs.Try
structure nK where
 s:Int
 e:Int
 c:aK
deriving DecidableEq
def nK.v (m:nK):V:=.ag [i64 m.s,i64 m.e,.d (cM m.c)]
theorem Xk (a b:nK) (hc:a.c.length<=1000000000):aO prog 14 [a.v,b.v] (bV (decide (a=b))):=by
 obtain⟨s1,e1,c1⟩:=a;obtain⟨s2,e2,c2⟩:=b;simp only at hc;refine an func14 rfl ntmps14 results14 rfl 0 63 (by simp) (by simp) ?_;by_cases q1:s1=s2
 case neg =>
  simp only[zX,simprocAttr,-Int.reduceNatCast',i64,iD,cM,nK.v,q1];rw[b6 (λh=>q1 (by simp only[nK.mk.injEq]at h;exact h.1))];rfl
 by_cases q2:e1=e2
 case neg =>
  simp only[zX,simprocAttr,-Int.reduceNatCast',i64,iD,cM,nK.v,q1,q2];rw[b6 (λh=>q2 (by simp only[nK.mk.injEq]at h;exact h.2.1))];rfl
 by_cases q3:(c1.length:Int)=c2.length
 case neg =>
  simp only[zX,simprocAttr,-Int.reduceNatCast',i64,iD,cM,nK.v,q1,q2,q3,afN];rw[b6 (λh=>q3 (by simp only[nK.mk.injEq]at h;rw[h.2.2]))];rfl
 subst q1 q2;simp only[zX,simprocAttr,-Int.reduceNatCast',i64,iD,cM,nK.v,q3,afN];refine au (λn e s=>∃i:Nat,n=c1.length-i/\i<=c1.length/\e 2=.rf 0 0 0 0/\e 3=.rf 1 0 0 0/\e 5=i64 i/\s=[⟨0,true,3,[[i64 s1,i64 e1,.d (cM c1)]]⟩,⟨0,true,3,[[i64 s1,i64 e1,.d (cM c2)]]⟩]/\c1.take i=c2.take i)
  ⟨_,_,_,br.refl,0,rfl,by omega,rfl,rfl,rfl,rfl,rfl⟩ ?_
 rintro n e s ⟨i,rfl,hi,h2,h3,h5,rfl,EC⟩;rcases agi i c1.length with az|fI
 ·have PN:i<c2.length:=by omega
  have aC:(i:Int)<c2.length:=by omega
  obtain⟨x,hx⟩:∃x,c1[i]?=some x:=⟨_,afP az⟩
  obtain⟨y,hy⟩:∃y,c2[i]?=some y:=⟨_,afP PN⟩
  simp only[zX,simprocAttr,-Int.reduceNatCast',i64,cM,h2,h3,h5,az,PN,q3,aC,afN];refine ar mix [] [] (by rfl) ?_;simp only[zX,simprocAttr,-Int.reduceNatCast',i64,cM,h2,h3,h5,az,PN,hx,hy,iD,aV,q3,aC,afN];by_cases OA:x=y
  ·have hb:(x.1 == y.1&&x.2 == y.2)=true:=by simp [OA]
   simp only[zX,simprocAttr,-Int.reduceNatCast',i64,cM,h2,h3,h5,hb];refine⟨c1.length-(i+1),_,_,by omega,br.refl,i+1,rfl,az,?_,?_,?_,rfl,by rw[aR hx,aR hy,EC,OA]⟩ <;> (try simp only[zU,gj,cQ,dx,eI,reduceIte])
   ·exact h2
   ·exact h3
   ·rw[bd _ (by omega)];rfl
  ·have hb:(x.1 == y.1&&x.2 == y.2)=false:=by rw[agP];intro h;exact OA (by simp at h;exact Prod.ext h.1 h.2)
   simp only[zX,simprocAttr,-Int.reduceNatCast',i64,cM,h2,h3,h5,hb];rw[b6 (λh=>by simp only[nK.mk.injEq,true_and]at h;subst h;rw[hx]at hy;simp only[afY]at hy;exact OA hy)];all_goals first|exact⟨rfl,rfl⟩|exact⟨rfl,trivial⟩|rfl|trivial|(rw[ai];rfl)
 ·have cV:i=c1.length:=by omega
  subst cV;have XM:c1=c2:=by rw[agj,af1 (by omega)]at EC;exact EC
  simp only[zX,simprocAttr,-Int.reduceNatCast',i64,cM,h2,h3,h5,agK,afN];rw[bi (by rw[XM])];all_goals first|exact⟨rfl,rfl⟩|exact⟨rfl,trivial⟩|rfl|trivial|(rw[ai];rfl)
def ov:List Int:=[97,97,97,98,98,99,97,98,10,32,65,200]
def jz (l:List Int) (most:Int):List Int:=(List.range (min l.length most.toNat)).map λi:Nat=>ov.getD (pick l i 12).toNat 0
theorem Sy (l:List Int) (hl:∀x∈l,jC x) (most:Int) (hm:most<=1000000):aO prog 17 [.d (al l),i64 most] (.d (al (jz l most))):=by
 refine an func17 rfl ntmps17 results17 rfl 0 115 (by simp) (by simp) ?_;simp only[GQ,Di,Dj,simprocAttr,-Int.reduceNatCast',qc,i64];refine au (λm e s=>∃i:Nat,m=min l.length most.toNat-i/\i<=min l.length most.toNat/\e 0=.d (al l)/\e 1=i64 most/\e 6=i64 i/\Acc [] 1 (e 5) s (((List.range i).map λi:Nat=>ov.getD (pick l i 12).toNat 0).map λx=>[iD x]))
  ⟨_,_,_,br.refl,0,rfl,by omega,rfl,rfl,rfl,.inl ⟨rfl,rfl⟩⟩ ?_
 rintro m e s ⟨i,rfl,hi,h0,h1,h6,iE⟩;have hp:=AM l hl i 12 (by omega);have hpr:=cb l i 12 (by omega);simp only[i64]at hp;by_cases c1:(i:Int)<l.length
 case neg =>
  have cV:i=min l.length most.toNat:=by omega
  simp only[GQ,Di,Dj,simprocAttr,-Int.reduceNatCast',qc,i64,al,h0,h1,h6,c1,afN];rw[iE.W6 (by simp)];subst cV;simp only[jz,al]
 by_cases c2:(i:Int)<most
 case neg =>
  have cV:i=min l.length most.toNat:=by omega
  simp only[GQ,Di,Dj,simprocAttr,-Int.reduceNatCast',qc,i64,al,h0,h1,h6,c1,c2,afN];rw[iE.W6 (by simp)];subst cV;simp only[jz,al]
 simp only[GQ,Di,Dj,simprocAttr,-Int.reduceNatCast',qc,i64,h0,h1,h6,c1,c2];refine aj hp rfl rfl ?_;have Vi:pick l i 12=0\/pick l i 12=1\/pick l i 12=2\/pick l i 12=3\/pick l i 12=4\/pick l i 12=5\/pick l i 12=6\/pick l i 12=7\/pick l i 12=8\/pick l i 12=9\/pick l i 12=10\/pick l i 12=11:=by omega
 have go:∀(z:Int),ov.getD (pick l i 12).toNat 0=z->∀(v':V) (s':List VL.Obj),Acc [] 1 v' s' (((List.range i).map λi:Nat=>ov.getD (pick l i 12).toNat 0).map (λx=>[iD x])++[[iD z]])->Acc [] 1 v' s' (((List.range (i+1)).map λi:Nat=>ov.getD (pick l i 12).toNat 0).map λx=>[iD x]):=by intro z hz v' s' h;rw[List.range_succ,aha,aha,afR,afU,hz];exact h
 rcases Vi with q|q|q|q|q|q|q|q|q|q|q|q;all_goals
  rw[q]at go ⊢;simp only[GQ,Di,Dj,simprocAttr,-Int.reduceNatCast',qc,i64,h0,h1,h6,Int.toNat_zero,Int.toNat_one];refine⟨by omega,?_⟩;refine iE.append VI rfl (by decide) (by decide) (by intro y hy;obtain⟨z,_,rfl⟩:=List.mem_map.1 hy;rfl) (by simp) (by simp) (by simp only[afN,List.length_range,afZ,af0];omega) (λv' s' He=>?_);simp only[GQ,Di,Dj,simprocAttr,-Int.reduceNatCast',qc,i64,h0,h1,h6];refine⟨min l.length most.toNat-(i+1),_,_,by omega,br.refl,i+1,rfl,by omega,?_,?_,?_,?_⟩ <;> (try simp only[zU,gj,cQ,dx,eI,reduceIte])
  ·exact h0
  ·exact h1
  ·rw[bd _ (by omega)];rfl
  ·exact go _ rfl _ _ He
noncomputable def vP (p:ic) (t:List Int) (n:Nat) (fuel:Int) (i:Nat):Bool:=decide (uP p (t.take n) i (-1) fuel=0)
noncomputable def cZ (p:ic) (t:List Int) (fuel:Int):Nat->ic×List Int
 |0=>(⟨.mk 0 [] [] 0 0 0 0 false,p.ak,false⟩,[])
 |n+1=>if (List.range (n+1)).all (vP p t n fuel)=true then (p,t.take n) else cZ p t fuel n
theorem CA (f:Nat->Bool) (n:Nat):(List.range (n+1)).all f=((List.range n).all f&&f n):=by rw[List.range_succ,ahf];simp
def vj (p:ic):List VL.Obj:=[⟨0,true,10,[[i64 0,.fu [],.fu [],i64 0,i64 0,i64 0,i64 0,bV false,i64 0,bV false]]⟩,⟨0,true,10,[p.re.cells.map V.d++[i64 p.ak,bV p.aN]]⟩]
theorem Tq (l m:List Int) (hl:∀x∈l,jC x) (hm:∀x∈m,jC x) (cu most fuel:Int) (h0:0<=most) (h1:most<=100) :
  aO prog 16 [.d (al l),.d (al m),i64 cu,i64 most,i64 fuel]
   (.tu [aZ (cZ (lN l cu most) (jz m 12) fuel ((jz m 12).length+1)).1,.d (al (cZ (lN l cu most) (jz m 12) fuel ((jz m 12).length+1)).2)]):=by
 have Vq:=KN l cu most hl h0 (by omega);have htx:=Sy m hm 12 (by omega);obtain⟨hv,fF⟩:=zi l cu most hl h0 h1;have Wr:=ER l cu most hl h0 h1;have Py:(lN l cu most).re.bC=true:=CS (by omega) _ Wr.ev;have PU:(jz m 12).length<=12:=by simp [jz];omega
 generalize lN l cu most=p at *;generalize jz m 12=t at *;have bA:=λ(n i:Nat)=>NF p (t.take n) i (-1) fuel Py (by omega) (by rw[agN];omega);generalize hR:cZ p t fuel (t.length+1)=R;have WJ:=Re.ae p.re;simp only[aZ,Re.ae p.re,afR,afU,afQ,afS,i64,iD,bD,bV]at Vq bA;simp only[i64]at htx;refine an func16 rfl ntmps16 results16 rfl 0 654367 (by simp) (by simp) ?_;simp only[zX,simprocAttr,-Int.reduceNatCast',i64];refine aj Vq (by simp [ah,ah.go,ai,i64,bV,aM]) (by simp [ah,ah.go,ai,i64,bV,aM]) ?_;simp only[zX,simprocAttr,-Int.reduceNatCast',i64];refine aj htx (by simp [ah,ah.go,ai,i64,bV,aM]) (by simp [ah,ah.go,ai,i64,bV,aM]) ?_;simp only[zX,simprocAttr,-Int.reduceNatCast',i64,al,afN];refine au (λN e s=>e 4=i64 fuel/\e 10=.rf 0 0 0 0/\e 12=.rf 1 0 0 0/\e 13=.d (al t)/\e 14=i64 ((N:Int)-1)/\N<=t.length+1/\cZ p t fuel N=R/\s=vj p)
  ⟨t.length+1,_,_,br.refl,rfl,rfl,rfl,rfl,?_,af3 _,hR,?_⟩ ?_
 ·show i64 _=i64 _;congr 1;omega
 ·unfold vj;rw[Re.ae];rfl
 clear Vq htx hR;rintro N e s ⟨h4,du,jn,fk,cP,hN,hR,rfl⟩;cases N with
 |zero =>
  unfold vj;rw[Re.ae];simp only[zX,simprocAttr,-Int.reduceNatCast',i64,h4,du,jn,fk,cP,bD,iD,agk,Int.zero_sub];subst hR;simp only[cZ,aZ,Re.cells];rfl
 |succ n =>
  have e14:((n+1:Nat):Int)-1=n:=by omega
  rw[e14]at cP;have gp:(0:Int)<=n:=by omega
  unfold vj;rw[Re.ae];simp only[zX,simprocAttr,-Int.reduceNatCast',i64,h4,du,jn,fk,cP,bD,iD,gp,ge_iff_le];refine au (λM e s=>∃i:Nat,M=n+1-i/\i<=n+1/\e 4=i64 fuel/\e 10=.rf 0 0 0 0/\e 12=.rf 1 0 0 0/\e 13=.d (al t)/\e 14=i64 n/\e 15=bV ((List.range i).all (vP p t n fuel))/\e 16=i64 i/\s=vj p)
   ⟨_,_,_,br.refl,0,rfl,by omega,?_,?_,?_,?_,?_,rfl,rfl,?_⟩ ?_ <;> (try simp only[zU,gj,cQ,dx,eI,reduceIte])
  ·exact h4
  ·exact du
  ·exact jn
  ·exact fk
  ·exact cP
  ·unfold vj;rw[Re.ae];rfl
  rintro M e s ⟨i,rfl,hi,h4,du,jn,fk,cP,fm,lT,rfl⟩;have bad:(List.range (n+1)).all (vP p t n fuel)=false->cZ p t fuel n=R:=by intro h;rw[cZ,h]at hR;exact hR
  by_cases zH:(i:Int)<=n
  ·cases hg:(List.range i).all (vP p t n fuel) with
   |false =>
    rw[hg]at fm;unfold vj;rw[Re.ae];simp only[zX,simprocAttr,-Int.reduceNatCast',i64,h4,du,jn,fk,cP,fm,lT,bD,iD,zH,bV];refine⟨n,_,_,by omega,br.refl,?_,?_,?_,?_,?_,by omega,bad ?_,?_⟩ <;> (try simp only[zU,gj,cQ,dx,eI,reduceIte])
    ·exact h4
    ·exact du
    ·exact jn
    ·exact fk
    ·rw[bd _ (by omega)]
    ·rw[agP]at hg ⊢;intro h;apply hg;rw[af8]at h ⊢;exact λx hx=>h x (List.mem_range.2 (by have:=List.mem_range.1 hx;omega))
   |true =>
    rw[hg]at fm;have DO:=bA n i;have RJ:n<=t.length:=by omega
    unfold vj;rw[Re.ae];simp only[zX,simprocAttr,-Int.reduceNatCast',i64,h4,du,jn,fk,cP,fm,lT,bD,iD,zH,bV];refine ar mix [] [] (by rfl) ?_;simp only[zX,simprocAttr,-Int.reduceNatCast',i64,h4,du,jn,fk,cP,fm,lT,bD,iD,al,afN,gp,RJ];refine⟨by omega,?_⟩;have EC:List.take ((n:Int)-0).toNat (List.map (λx=>[D.sc (.int .i64 x)]) t)=(t.take n).map (λx=>[D.sc (.int .i64 x)]):=by rw[<- List.map_take];congr 2
    rw[EC];simp only[al,iD]at DO;refine bp DO (by simp [ah,ah.go,ai,i64,bV,aM]) (by simp [ah,ah.go,ai,i64,bV,aM]) ?_;simp only[zX,simprocAttr,-Int.reduceNatCast',i64,h4,du,jn,fk,cP,fm,lT,bD,iD,al,afN,gp,RJ];refine⟨n+1-(i+1),_,_,by omega,br.refl,i+1,rfl,by omega,?_,?_,?_,?_,?_,?_,?_,?_⟩ <;> (try simp only[zU,gj,cQ,dx,eI,reduceIte])
    ·exact h4
    ·exact du
    ·exact jn
    ·exact fk
    ·exact cP
    ·rw[CA,hg,Bool.true_and];rfl
    ·rw[bd _ (by omega)];rfl
  ·have cV:i=n+1:=by omega
   subst cV;cases hg:(List.range (n+1)).all (vP p t n fuel) with
   |false =>
    rw[hg]at fm;unfold vj;rw[Re.ae];simp only[zX,simprocAttr,-Int.reduceNatCast',i64,h4,du,jn,fk,cP,fm,lT,bD,iD,zH,bV];refine⟨n,_,_,by omega,br.refl,?_,?_,?_,?_,?_,by omega,bad hg,?_⟩ <;> (try simp only[zU,gj,cQ,dx,eI,reduceIte])
    ·exact h4
    ·exact du
    ·exact jn
    ·exact fk
    ·rw[bd _ (by omega)]
   |true =>
    rw[hg]at fm;rw[cZ,hg,be rfl]at hR;subst hR;unfold vj;rw[Re.ae];have RJ:n<=t.length:=by omega
    simp only[zX,simprocAttr,-Int.reduceNatCast',i64,h4,du,jn,fk,cP,fm,lT,bD,iD,zH,bV];refine ar mix [] [(0,[1],[]),(4,[0],[0])] (by rfl) ?_;simp only[zX,simprocAttr,-Int.reduceNatCast',i64,h4,du,jn,fk,cP,fm,lT,bD,iD,al,afN,gp,RJ];refine⟨by omega,?_⟩;have EC:List.take ((n:Int)-0).toNat (List.map (λx=>[D.sc (.int .i64 x)]) t)=(t.take n).map (λx=>[D.sc (.int .i64 x)]):=by rw[<- List.map_take];congr 2
    rw[EC,aZ,Re.ae];rfl
inductive Z5 where
 |nil
 |root
 |el (re:Re)
inductive TX where
 |nil
 |mk (kind:Int) (re:Z5) (n at_:Int) (next:TX)
structure KM where
 at_:Int
 ak:aK
 todo:TX
structure PZ where
 p:ic
 t:List Int
 So:Bool
 own:List Int
 ado:Nat
 stk:List (Option KM)
 top:Nat
 gen:Nat
 Zb:Int
 start:Int
 steps:Int
 fuel:Int
 WN:Bool
 ready:Bool
def PZ.step (m:PZ):PZ:=if m.steps<m.fuel then { m with steps:=m.steps+1 } else { m with WN:=true }
end Go.Proofs.Ytfmdmlfhigocaaa
