/- A part of the proof (O22). -/
import Derived.Test.YtfmdmlfhigocaaaON16
import Derived.Test.YtfmdmlfhigocaaaON35
set_option linter.unusedSimpArgs false
set_option linter.unusedVariables false
open Nat renaming reduceShiftRight → cQ, reduceMod → dx, reduceLT → dB, reduceMul → dC, reduceSub → dD, reduceEqDiff → eI, reduceAdd → eJ, reduceLeDiff → fX, reduceBEq → gj
open Int renaming reduceToNat → gl, reduceNeg → ja, reduceLT → jg, reduceLE → jk, reduceEq → mA
set_option maxRecDepth 100000
set_option maxHeartbeats 80000000
namespace Go.Proofs.Ytfmdmlfhigocaaa
open Go.VL
mutual
def Re.bH:Re->List Bool->Bool->Bool
 |.mk op _ kids _ _ mode n _,A,look =>
  if op=6\/op=10\/op=9 then false
  else if op=4/\(mode=2\/Re.EA kids=true) then false
  else if op=5/\(look=true\/A.getD n.toNat false=true) then false
  else Re.IP kids (if op=5 then A.set n.toNat true else A) (look||decide (op=7\/op=8))
def Re.IP:List Re->List Bool->Bool->Bool
 |[],_,_=>true
 |k::l,A,look=>k.bH A look&&Re.IP l A look
def Re.EA:List Re->Bool
 |[]=>false
 |k::_=>k.jR
end
theorem Re.E5:∀(l:List Re) (A:List Bool) (look:Bool),Re.IP l A look=l.all λk=>k.bH A look
 |[],_,_=>by simp [Re.IP]
 |k::l,A,look=>by simp [Re.IP,Re.E5 l A look]
theorem Re.Be (re:Re) (A:List Bool) (look:Bool):re.bH A look=if re.op=6\/re.op=10\/re.op=9 then false
  else if re.op=4/\(re.mode=2\/Re.EA re.kids=true) then false
  else if re.op=5/\(look=true\/A.getD re.n.toNat false=true) then false
  else re.kids.all λk=>k.bH (if re.op=5 then A.set re.n.toNat true else A) (look||decide (re.op=7\/re.op=8)):=by
 cases re;rw[Re.bH,Re.E5];rfl
def kV (A:List Bool):V:=.ag (A.map bV)
def bq (A:List Bool):VL.Obj:=⟨0,true,A.length,[A.map bV]⟩
theorem mg (n:Nat):∀A:List Bool,ah.go n (A.map bV)=true
 |[]=>rfl
 |b::A=>by have:=mg n A;simp only[afR,ah.go,this,af5];rfl
theorem Rd (re:Re) (hf:re.bC=true):re.every mv=true->∀(A:List Bool) (look:Bool),A.length=10->aO Try.prog 36 [fv re,kV A,bV look] (bV (re.bH A look)):=by
 revert hf;refine Re.ind (Q:=λre=>re.bC=true->re.every mv=true->∀(A:List Bool) (look:Bool),A.length=10->aO Try.prog 36 [fv re,kV A,bV look] (bV (re.bH A look))) (λre ih0 hf hs A look hA=>?_) re;obtain⟨_,_,rQ⟩:=Re.cA hf;have ih:∀k∈re.kids,k.every mv=true->∀(A:List Bool) (look:Bool),A.length=10->aO Try.prog 36 [fv k,kV A,bV look] (bV (k.bH A look)):=λk hk=>ih0 k hk (rQ k hk);clear ih0;obtain⟨ez,iO⟩:=(Re.aB re).1 hs;obtain⟨q1,q2,q3,q4,q5,q6,q7,q8,q9,iF,kM,CV,q13,q14,_⟩:=jS.1 ez;have mZ:re.op=6\/re.op=10\/re.op=9\/re.op=4\/re.op=5\/re.op=7\/re.op=8\/re.op=0\/re.op=1\/re.op=2\/re.op=3\/re.op=11:=by omega
 rw[Re.Be];rcases mZ with o|o|o|o|o|o|o|o|o|o|o|o
 case inl=>rw[be (.inl o)];unfold kV;refine an Try.func36 rfl Try.ntmps36 Try.results36 rfl 0 62122406972767 (by simp) (by simp) ?_;simp only[zX,cQ,dx,dB,dC,dD,gl,ja,jg,jk,mA,eI,eJ,fX,reduceIte,reduceCtorEq,gj,i64,ai re,iD,bD,bV,o];all_goals rfl
 case inr.inl=>rw[be (.inr (.inl o))];unfold kV;refine an Try.func36 rfl Try.ntmps36 Try.results36 rfl 0 62122406972767 (by simp) (by simp) ?_;simp only[zX,cQ,dx,dB,dC,dD,gl,ja,jg,jk,mA,eI,eJ,fX,reduceIte,reduceCtorEq,gj,i64,ai re,iD,bD,bV,o];all_goals rfl
 case inr.inr.inl=>rw[be (.inr (.inr o))];unfold kV;refine an Try.func36 rfl Try.ntmps36 Try.results36 rfl 0 62122406972767 (by simp) (by simp) ?_;simp only[zX,cQ,dx,dB,dC,dD,gl,ja,jg,jk,mA,eI,eJ,fX,reduceIte,reduceCtorEq,gj,i64,ai re,iD,bD,bV,o];all_goals rfl
 case inr.inr.inr.inl =>
  rw[ap (by omega)];obtain⟨x,hx⟩:∃x,re.kids=[x]:=List.length_eq_one_iff.1 (q1 (by omega));have uY:re.kids[0]?=some x:=by rw[hx];rfl
  have cU:(0:Int)<(re.kids.length:Int):=by rw[hx];simp
  have Zx:=HG x (rQ x (by rw[hx];simp));have hxa:Re.EA re.kids=x.jR:=by rw[hx];simp [Re.EA]
  simp only[bV,bD]at Zx;by_cases hm:re.mode=2
  ·rw[be ⟨o,.inl hm⟩];unfold kV;refine an Try.func36 rfl Try.ntmps36 Try.results36 rfl 0 62122406972767 (by simp) (by simp) ?_;simp only[zX,cQ,dx,dB,dC,dD,gl,ja,jg,jk,mA,eI,eJ,fX,reduceIte,reduceCtorEq,gj,i64,ai re,iD,bD,bV,o,hm];all_goals rfl
  ·cases YL:x.jR with
   |true =>
    rw[be ⟨o,.inr (by rw[hxa,YL])⟩];unfold kV;refine an Try.func36 rfl Try.ntmps36 Try.results36 rfl 0 62122406972767 (by simp) (by simp) ?_;simp only[zX,cQ,dx,dB,dC,dD,gl,ja,jg,jk,mA,eI,eJ,fX,reduceIte,reduceCtorEq,gj,i64,ai re,iD,bD,bV,o,hm,afN,cU,uY];refine aj Zx (by simp [ah,ah.go,ai,i64,bV,aM]) rfl ?_;simp only[zX,cQ,dx,dB,dC,dD,gl,ja,jg,jk,mA,eI,eJ,fX,reduceIte,reduceCtorEq,gj,i64,ai re,iD,bD,bV,o,hm,YL];all_goals rfl
   |false =>
    rw[ap (λh=>h.2.elim hm (by rw[hxa,YL];simp)),ap (by omega),ap (by omega),show (look||decide (re.op=7\/re.op=8))=look by rw[b6 (by omega),ag7]];obtain⟨A2,iQ⟩:∃A2,A2=A:=⟨_,rfl⟩
    obtain⟨kF,jf⟩:∃l,l=look:=⟨_,rfl⟩
    have eF:A2.length=10:=by rw[iQ];exact hA
    have iZ:∀k∈re.kids,k.bH A2 kF=false->(re.kids.all λk=>k.bH A look)=false:=λk hk h=>by subst iQ jf;rw[agY];exact⟨k,hk,by simp [h]⟩
    have mD:(∀k∈re.kids,k.bH A2 kF=true)->(re.kids.all λk=>k.bH A look)=true:=λh=>by subst iQ jf;rw[af8];exact h
    unfold kV;refine an Try.func36 rfl Try.ntmps36 Try.results36 rfl 0 62122406972767 (by simp) (by simp) ?_;simp only[zX,cQ,dx,dB,dC,dD,gl,ja,jg,jk,mA,eI,eJ,fX,reduceIte,reduceCtorEq,gj,i64,ai re,iD,bD,bV,o,hm,afN,cU,uY];refine aj Zx (by simp [ah,ah.go,ai,i64,bV,aM]) rfl ?_;simp only[zX,cQ,dx,dB,dC,dD,gl,ja,jg,jk,mA,eI,eJ,fX,reduceIte,reduceCtorEq,gj,i64,ai re,iD,bD,bV,o,hm,YL];refine au (λn e s=>∃i:Nat,n=re.kids.length-i/\i<=re.kids.length/\e 2=bV kF/\e 3=.rf 0 0 0 0/\e 4=.rf 1 0 0 0/\e 43=.d (.sl (re.kids.map Re.cells))/\e 44=i64 re.kids.length/\e 45=i64 i/\(∀x∈re.kids.take i,x.bH A2 kF=true)/\s=[av re,bq A2])
     ⟨_,_,_,br.refl,0,rfl,by omega,by first|rfl|(subst jf;rfl),rfl,rfl,rfl,rfl,rfl,by simp,by first|(simp [av,bq,iD,bD,Re.ae re,o,eF];done)|(subst iQ;simp [av,bq,bV,bD,iD,Re.ae re,o];done)|(rw[<- iQ];simp [av,bq,bV,bD,iD,Re.ae re,o];done)|(simp [av,bq,bV,bD,iD,Re.ae re,o,iQ];done)|(simp [av,bq,bV,bD,iD,Re.ae re,iQ];done)⟩ ?_
    rintro n e s ⟨i,rfl,hi,h2,h3,h4,iT,kE,mw,bA,rfl⟩;rcases agi i re.kids.length with az|fI
    ·obtain⟨k,hk⟩:∃k,re.kids[i]?=some k:=⟨_,afP az⟩
     have hm:=afW hk;have aC:(i:Int)<(re.kids.length:Int):=by omega
     have hi0:(0:Int)<=(i:Int):=by omega
     have di:=ih k hm (iO k hm) A2 kF eF;have te:List.take 10 (A2.map bV)=A2.map bV:=af1 (by rw[afN];omega);unfold kV at di;simp only[bV,bD]at di;simp only[zX,cQ,dx,dB,dC,dD,gl,ja,jg,jk,mA,eI,eJ,fX,reduceIte,reduceCtorEq,gj,av,bq,Re.ae re,afR,afU,iD,bD,bV,h2,h3,h4,iT,kE,mw,i64,aC,hi0,az,hk,eF,te,afN,afO,afV,afT];refine aj di (by rw[ai];simp [ah,ah.go,i64,mg]) rfl ?_;cases cU:k.bH A2 kF with
     |false =>
      rw[iZ k hm cU];simp only[zX,cQ,dx,dB,dC,dD,gl,ja,jg,jk,mA,eI,eJ,fX,reduceIte,reduceCtorEq,gj,av,bq,Re.ae re,afR,afU,iD,bD,bV,h2,h3,h4,iT,kE,mw,i64,af4];all_goals rfl
     |true =>
      simp only[zX,cQ,dx,dB,dC,dD,gl,ja,jg,jk,mA,eI,eJ,fX,reduceIte,reduceCtorEq,gj,av,bq,Re.ae re,afR,afU,iD,bD,bV,h2,h3,h4,iT,kE,mw,i64,aga];refine⟨re.kids.length-(i+1),_,_,by omega,br.cut (s':=[av re,bq A2]) 2 (by omega) (by simp [av,bq,eF,Re.ae re,iD,bD]) (by simp [av,bq,bV,aG,Re.ae re,ah]) [2,3,4,43,44,45] (by simp [bz,aH,ah,h2,h3,h4,iT,kE,mw,i64,bV]),i+1,rfl,az,?_,?_,?_,?_,?_,?_,?_,by simp [av,bq,eF,Re.ae re,iD,bD]⟩ <;> (try simp only[zU,gj,cQ,dx,eI,reduceIte])
      ·exact h2
      ·exact h3
      ·exact h4
      ·exact iT
      ·exact kE
      ·rw[bd _ (by omega)];rfl
      ·intro x hx;rcases bu hk hx with h|rfl
       ·exact bA x h
       ·exact cU
    ·have cV:i=re.kids.length:=by omega
     subst cV;rw[agj]at bA;rw[mD bA];simp only[zX,cQ,dx,dB,dC,dD,gl,ja,jg,jk,mA,eI,eJ,fX,reduceIte,reduceCtorEq,gj,av,bq,Re.ae re,afR,afU,iD,bD,bV,h2,h3,h4,iT,kE,mw,i64,agO];all_goals rfl
 case inr.inr.inr.inr.inl =>
  have hn5:=kM o;rw[ap (by omega),ap (by omega)];cases look with
  |true =>
   rw[be ⟨o,.inl rfl⟩];unfold kV;refine an Try.func36 rfl Try.ntmps36 Try.results36 rfl 0 62122406972767 (by simp) (by simp) ?_;simp only[zX,cQ,dx,dB,dC,dD,gl,ja,jg,jk,mA,eI,eJ,fX,reduceIte,reduceCtorEq,gj,i64,ai re,iD,bD,bV,o];all_goals rfl
  |false =>
   have VK:re.n.toNat<10:=by omega
   have n0:(0:Int)<=re.n:=by omega
   have n1:re.n<((10:Nat):Int):=by omega
   have n2:re.n<10:=by omega
   generalize hm:re.n.toNat=m at VK;obtain⟨y,hy⟩:∃y,A[m]?=some y:=⟨_,afP (by omega)⟩
   have hyd:A.getD m false=y:=by rw[af9,hy];rfl
   obtain⟨tl,PU⟩:∃tl,(A.map bV).drop m=.d (.sc (.bool y))::tl:=⟨_,by rw[List.drop_eq_getElem_cons (by simpa [hA]using VK)];congr 1;rw[List.getElem_map];congr 1;exact(List.getElem?_eq_some_iff.1 hy).2⟩
   cases y with
   |true =>
    rw[be ⟨o,.inr hyd⟩];unfold kV;refine an Try.func36 rfl Try.ntmps36 Try.results36 rfl 0 62122406972767 (by simp) (by simp) ?_;simp only[zX,cQ,dx,dB,dC,dD,gl,ja,jg,jk,mA,eI,eJ,fX,reduceIte,reduceCtorEq,gj,i64,ai re,iD,bD,bV,o,hm,n0,n1,n2,hA,PU,afX,Nat.mul_one,afT,afN];all_goals rfl
   |false =>
    have fx:List.take m (A.map bV)++[.d (.sc (.bool true))]++List.drop (m+1) (A.map bV)=(A.set m true).map bV:=by rw[ahg,List.set_eq_take_append_cons_drop,be (by simpa [hA]using VK)];simp [bV,bD]
    rw[ap (λh=>h.2.elim (by simp) (by rw[hyd];simp)),be o,show (false||decide (re.op=7\/re.op=8))=false by rw[b6 (by omega)];rfl];obtain⟨A2,iQ⟩:∃A2,A2=A.set m true:=⟨_,rfl⟩
    obtain⟨kF,jf⟩:∃l,l=false:=⟨_,rfl⟩
    have eF:A2.length=10:=by rw[iQ];simp [hA]
    have iZ:∀k∈re.kids,k.bH A2 kF=false->(re.kids.all λk=>k.bH (A.set m true) false)=false:=λk hk h=>by subst iQ;subst jf;rw[agY];exact⟨k,hk,by simp [h]⟩
    have mD:(∀k∈re.kids,k.bH A2 kF=true)->(re.kids.all λk=>k.bH (A.set m true) false)=true:=λh=>by subst iQ;subst jf;rw[af8];exact h
    rw[<- iQ]at fx;unfold kV;refine an Try.func36 rfl Try.ntmps36 Try.results36 rfl 0 62122406972767 (by simp) (by simp) ?_;simp only[zX,cQ,dx,dB,dC,dD,gl,ja,jg,jk,mA,eI,eJ,fX,reduceIte,reduceCtorEq,gj,i64,ai re,iD,bD,bV,o,hm,n0,n1,n2,hA,PU,afX,Nat.mul_one,afT,afN,fx];refine⟨by omega,?_⟩;refine au (λn e s=>∃i:Nat,n=re.kids.length-i/\i<=re.kids.length/\e 2=bV kF/\e 3=.rf 0 0 0 0/\e 4=.rf 1 0 0 0/\e 43=.d (.sl (re.kids.map Re.cells))/\e 44=i64 re.kids.length/\e 45=i64 i/\(∀x∈re.kids.take i,x.bH A2 kF=true)/\s=[av re,bq A2])
     ⟨_,_,_,br.refl,0,rfl,by omega,by first|rfl|(subst jf;rfl),rfl,rfl,rfl,rfl,rfl,by simp,by first|(simp [av,bq,iD,bD,Re.ae re,o,eF];done)|(subst iQ;simp [av,bq,bV,bD,iD,Re.ae re,o];done)|(rw[<- iQ];simp [av,bq,bV,bD,iD,Re.ae re,o];done)|(simp [av,bq,bV,bD,iD,Re.ae re,o,iQ];done)|(simp [av,bq,bV,bD,iD,Re.ae re,iQ];done)⟩ ?_
    rintro n e s ⟨i,rfl,hi,h2,h3,h4,iT,kE,mw,bA,rfl⟩;rcases agi i re.kids.length with az|fI
    ·obtain⟨k,hk⟩:∃k,re.kids[i]?=some k:=⟨_,afP az⟩
     have hm:=afW hk;have aC:(i:Int)<(re.kids.length:Int):=by omega
     have hi0:(0:Int)<=(i:Int):=by omega
     have di:=ih k hm (iO k hm) A2 kF eF;have te:List.take 10 (A2.map bV)=A2.map bV:=af1 (by rw[afN];omega);unfold kV at di;simp only[bV,bD]at di;simp only[zX,cQ,dx,dB,dC,dD,gl,ja,jg,jk,mA,eI,eJ,fX,reduceIte,reduceCtorEq,gj,av,bq,Re.ae re,afR,afU,iD,bD,bV,h2,h3,h4,iT,kE,mw,i64,aC,hi0,az,hk,eF,te,afN,afO,afV,afT];refine aj di (by rw[ai];simp [ah,ah.go,i64,mg]) rfl ?_;cases cU:k.bH A2 kF with
     |false =>
      rw[iZ k hm cU];simp only[zX,cQ,dx,dB,dC,dD,gl,ja,jg,jk,mA,eI,eJ,fX,reduceIte,reduceCtorEq,gj,av,bq,Re.ae re,afR,afU,iD,bD,bV,h2,h3,h4,iT,kE,mw,i64,af4];all_goals rfl
     |true =>
      simp only[zX,cQ,dx,dB,dC,dD,gl,ja,jg,jk,mA,eI,eJ,fX,reduceIte,reduceCtorEq,gj,av,bq,Re.ae re,afR,afU,iD,bD,bV,h2,h3,h4,iT,kE,mw,i64,aga];refine⟨re.kids.length-(i+1),_,_,by omega,br.cut (s':=[av re,bq A2]) 2 (by omega) (by simp [av,bq,eF,Re.ae re,iD,bD]) (by simp [av,bq,bV,aG,Re.ae re,ah]) [2,3,4,43,44,45] (by simp [bz,aH,ah,h2,h3,h4,iT,kE,mw,i64,bV]),i+1,rfl,az,?_,?_,?_,?_,?_,?_,?_,by simp [av,bq,eF,Re.ae re,iD,bD]⟩ <;> (try simp only[zU,gj,cQ,dx,eI,reduceIte])
      ·exact h2
      ·exact h3
      ·exact h4
      ·exact iT
      ·exact kE
      ·rw[bd _ (by omega)];rfl
      ·intro x hx;rcases bu hk hx with h|rfl
       ·exact bA x h
       ·exact cU
    ·have cV:i=re.kids.length:=by omega
     subst cV;rw[agj]at bA;rw[mD bA];simp only[zX,cQ,dx,dB,dC,dD,gl,ja,jg,jk,mA,eI,eJ,fX,reduceIte,reduceCtorEq,gj,av,bq,Re.ae re,afR,afU,iD,bD,bV,h2,h3,h4,iT,kE,mw,i64,agO];all_goals rfl
 case inr.inr.inr.inr.inr.inl =>
  rw[ap (by omega),ap (by omega),ap (by omega),ap (by omega),show (look||decide (re.op=7\/re.op=8))=true by rw[bi (by omega),Bool.or_true]];obtain⟨A2,iQ⟩:∃A2,A2=A:=⟨_,rfl⟩
  obtain⟨kF,jf⟩:∃l,l=true:=⟨_,rfl⟩
  have eF:A2.length=10:=by rw[iQ];simp [hA]
  have iZ:∀k∈re.kids,k.bH A2 kF=false->(re.kids.all λk=>k.bH A true)=false:=λk hk h=>by subst iQ;subst jf;rw[agY];exact⟨k,hk,by simp [h]⟩
  have mD:(∀k∈re.kids,k.bH A2 kF=true)->(re.kids.all λk=>k.bH A true)=true:=λh=>by subst iQ;subst jf;rw[af8];exact h
  unfold kV;refine an Try.func36 rfl Try.ntmps36 Try.results36 rfl 0 62122406972767 (by simp) (by simp) ?_;simp only[zX,cQ,dx,dB,dC,dD,gl,ja,jg,jk,mA,eI,eJ,fX,reduceIte,reduceCtorEq,gj,i64,ai re,iD,bD,bV,o];refine au (λn e s=>∃i:Nat,n=re.kids.length-i/\i<=re.kids.length/\e 2=bV kF/\e 3=.rf 0 0 0 0/\e 4=.rf 1 0 0 0/\e 43=.d (.sl (re.kids.map Re.cells))/\e 44=i64 re.kids.length/\e 45=i64 i/\(∀x∈re.kids.take i,x.bH A2 kF=true)/\s=[av re,bq A2])
   ⟨_,_,_,br.refl,0,rfl,by omega,by first|rfl|(subst jf;rfl),rfl,rfl,rfl,rfl,rfl,by simp,by first|(simp [av,bq,iD,bD,Re.ae re,o,eF];done)|(subst iQ;simp [av,bq,bV,bD,iD,Re.ae re,o];done)|(rw[<- iQ];simp [av,bq,bV,bD,iD,Re.ae re,o];done)|(simp [av,bq,bV,bD,iD,Re.ae re,o,iQ];done)|(simp [av,bq,bV,bD,iD,Re.ae re,iQ];done)⟩ ?_
  rintro n e s ⟨i,rfl,hi,h2,h3,h4,iT,kE,mw,bA,rfl⟩;rcases agi i re.kids.length with az|fI
  ·obtain⟨k,hk⟩:∃k,re.kids[i]?=some k:=⟨_,afP az⟩
   have hm:=afW hk;have aC:(i:Int)<(re.kids.length:Int):=by omega
   have hi0:(0:Int)<=(i:Int):=by omega
   have di:=ih k hm (iO k hm) A2 kF eF;have te:List.take 10 (A2.map bV)=A2.map bV:=af1 (by rw[afN];omega);unfold kV at di;simp only[bV,bD]at di;simp only[zX,cQ,dx,dB,dC,dD,gl,ja,jg,jk,mA,eI,eJ,fX,reduceIte,reduceCtorEq,gj,av,bq,Re.ae re,afR,afU,iD,bD,bV,h2,h3,h4,iT,kE,mw,i64,aC,hi0,az,hk,eF,te,afN,afO,afV,afT];refine aj di (by rw[ai];simp [ah,ah.go,i64,mg]) rfl ?_;cases cU:k.bH A2 kF with
   |false =>
    rw[iZ k hm cU];simp only[zX,cQ,dx,dB,dC,dD,gl,ja,jg,jk,mA,eI,eJ,fX,reduceIte,reduceCtorEq,gj,av,bq,Re.ae re,afR,afU,iD,bD,bV,h2,h3,h4,iT,kE,mw,i64,af4];all_goals rfl
   |true =>
    simp only[zX,cQ,dx,dB,dC,dD,gl,ja,jg,jk,mA,eI,eJ,fX,reduceIte,reduceCtorEq,gj,av,bq,Re.ae re,afR,afU,iD,bD,bV,h2,h3,h4,iT,kE,mw,i64,aga];refine⟨re.kids.length-(i+1),_,_,by omega,br.cut (s':=[av re,bq A2]) 2 (by omega) (by simp [av,bq,eF,Re.ae re,iD,bD]) (by simp [av,bq,bV,aG,Re.ae re,ah]) [2,3,4,43,44,45] (by simp [bz,aH,ah,h2,h3,h4,iT,kE,mw,i64,bV]),i+1,rfl,az,?_,?_,?_,?_,?_,?_,?_,by simp [av,bq,eF,Re.ae re,iD,bD]⟩ <;> (try simp only[zU,gj,cQ,dx,eI,reduceIte])
    ·exact h2
    ·exact h3
    ·exact h4
    ·exact iT
    ·exact kE
    ·rw[bd _ (by omega)];rfl
    ·intro x hx;rcases bu hk hx with h|rfl
     ·exact bA x h
     ·exact cU
  ·have cV:i=re.kids.length:=by omega
   subst cV;rw[agj]at bA;rw[mD bA];simp only[zX,cQ,dx,dB,dC,dD,gl,ja,jg,jk,mA,eI,eJ,fX,reduceIte,reduceCtorEq,gj,av,bq,Re.ae re,afR,afU,iD,bD,bV,h2,h3,h4,iT,kE,mw,i64,agO];all_goals rfl
 case inr.inr.inr.inr.inr.inr.inl =>
  rw[ap (by omega),ap (by omega),ap (by omega),ap (by omega),show (look||decide (re.op=7\/re.op=8))=true by rw[bi (by omega),Bool.or_true]];obtain⟨A2,iQ⟩:∃A2,A2=A:=⟨_,rfl⟩
  obtain⟨kF,jf⟩:∃l,l=true:=⟨_,rfl⟩
  have eF:A2.length=10:=by rw[iQ];simp [hA]
  have iZ:∀k∈re.kids,k.bH A2 kF=false->(re.kids.all λk=>k.bH A true)=false:=λk hk h=>by subst iQ;subst jf;rw[agY];exact⟨k,hk,by simp [h]⟩
  have mD:(∀k∈re.kids,k.bH A2 kF=true)->(re.kids.all λk=>k.bH A true)=true:=λh=>by subst iQ;subst jf;rw[af8];exact h
  unfold kV;refine an Try.func36 rfl Try.ntmps36 Try.results36 rfl 0 62122406972767 (by simp) (by simp) ?_;simp only[zX,cQ,dx,dB,dC,dD,gl,ja,jg,jk,mA,eI,eJ,fX,reduceIte,reduceCtorEq,gj,i64,ai re,iD,bD,bV,o];refine au (λn e s=>∃i:Nat,n=re.kids.length-i/\i<=re.kids.length/\e 2=bV kF/\e 3=.rf 0 0 0 0/\e 4=.rf 1 0 0 0/\e 43=.d (.sl (re.kids.map Re.cells))/\e 44=i64 re.kids.length/\e 45=i64 i/\(∀x∈re.kids.take i,x.bH A2 kF=true)/\s=[av re,bq A2])
   ⟨_,_,_,br.refl,0,rfl,by omega,by first|rfl|(subst jf;rfl),rfl,rfl,rfl,rfl,rfl,by simp,by first|(simp [av,bq,iD,bD,Re.ae re,o,eF];done)|(subst iQ;simp [av,bq,bV,bD,iD,Re.ae re,o];done)|(rw[<- iQ];simp [av,bq,bV,bD,iD,Re.ae re,o];done)|(simp [av,bq,bV,bD,iD,Re.ae re,o,iQ];done)|(simp [av,bq,bV,bD,iD,Re.ae re,iQ];done)⟩ ?_
  rintro n e s ⟨i,rfl,hi,h2,h3,h4,iT,kE,mw,bA,rfl⟩;rcases agi i re.kids.length with az|fI
  ·obtain⟨k,hk⟩:∃k,re.kids[i]?=some k:=⟨_,afP az⟩
   have hm:=afW hk;have aC:(i:Int)<(re.kids.length:Int):=by omega
   have hi0:(0:Int)<=(i:Int):=by omega
   have di:=ih k hm (iO k hm) A2 kF eF;have te:List.take 10 (A2.map bV)=A2.map bV:=af1 (by rw[afN];omega);unfold kV at di;simp only[bV,bD]at di;simp only[zX,cQ,dx,dB,dC,dD,gl,ja,jg,jk,mA,eI,eJ,fX,reduceIte,reduceCtorEq,gj,av,bq,Re.ae re,afR,afU,iD,bD,bV,h2,h3,h4,iT,kE,mw,i64,aC,hi0,az,hk,eF,te,afN,afO,afV,afT];refine aj di (by rw[ai];simp [ah,ah.go,i64,mg]) rfl ?_;cases cU:k.bH A2 kF with
   |false =>
    rw[iZ k hm cU];simp only[zX,cQ,dx,dB,dC,dD,gl,ja,jg,jk,mA,eI,eJ,fX,reduceIte,reduceCtorEq,gj,av,bq,Re.ae re,afR,afU,iD,bD,bV,h2,h3,h4,iT,kE,mw,i64,af4];all_goals rfl
   |true =>
    simp only[zX,cQ,dx,dB,dC,dD,gl,ja,jg,jk,mA,eI,eJ,fX,reduceIte,reduceCtorEq,gj,av,bq,Re.ae re,afR,afU,iD,bD,bV,h2,h3,h4,iT,kE,mw,i64,aga];refine⟨re.kids.length-(i+1),_,_,by omega,br.cut (s':=[av re,bq A2]) 2 (by omega) (by simp [av,bq,eF,Re.ae re,iD,bD]) (by simp [av,bq,bV,aG,Re.ae re,ah]) [2,3,4,43,44,45] (by simp [bz,aH,ah,h2,h3,h4,iT,kE,mw,i64,bV]),i+1,rfl,az,?_,?_,?_,?_,?_,?_,?_,by simp [av,bq,eF,Re.ae re,iD,bD]⟩ <;> (try simp only[zU,gj,cQ,dx,eI,reduceIte])
    ·exact h2
    ·exact h3
    ·exact h4
    ·exact iT
    ·exact kE
    ·rw[bd _ (by omega)];rfl
    ·intro x hx;rcases bu hk hx with h|rfl
     ·exact bA x h
     ·exact cU
  ·have cV:i=re.kids.length:=by omega
   subst cV;rw[agj]at bA;rw[mD bA];simp only[zX,cQ,dx,dB,dC,dD,gl,ja,jg,jk,mA,eI,eJ,fX,reduceIte,reduceCtorEq,gj,av,bq,Re.ae re,afR,afU,iD,bD,bV,h2,h3,h4,iT,kE,mw,i64,agO];all_goals rfl
 case inr.inr.inr.inr.inr.inr.inr.inl =>
  rw[ap (by omega),ap (by omega),ap (by omega),ap (by omega),show (look||decide (re.op=7\/re.op=8))=look by rw[b6 (by omega),ag7]];obtain⟨A2,iQ⟩:∃A2,A2=A:=⟨_,rfl⟩
  obtain⟨kF,jf⟩:∃l,l=look:=⟨_,rfl⟩
  have eF:A2.length=10:=by rw[iQ];simp [hA]
  have iZ:∀k∈re.kids,k.bH A2 kF=false->(re.kids.all λk=>k.bH A look)=false:=λk hk h=>by subst iQ;subst jf;rw[agY];exact⟨k,hk,by simp [h]⟩
  have mD:(∀k∈re.kids,k.bH A2 kF=true)->(re.kids.all λk=>k.bH A look)=true:=λh=>by subst iQ;subst jf;rw[af8];exact h
  unfold kV;refine an Try.func36 rfl Try.ntmps36 Try.results36 rfl 0 62122406972767 (by simp) (by simp) ?_;simp only[zX,cQ,dx,dB,dC,dD,gl,ja,jg,jk,mA,eI,eJ,fX,reduceIte,reduceCtorEq,gj,i64,ai re,iD,bD,bV,o];refine au (λn e s=>∃i:Nat,n=re.kids.length-i/\i<=re.kids.length/\e 2=bV kF/\e 3=.rf 0 0 0 0/\e 4=.rf 1 0 0 0/\e 43=.d (.sl (re.kids.map Re.cells))/\e 44=i64 re.kids.length/\e 45=i64 i/\(∀x∈re.kids.take i,x.bH A2 kF=true)/\s=[av re,bq A2])
   ⟨_,_,_,br.refl,0,rfl,by omega,by first|rfl|(subst jf;rfl),rfl,rfl,rfl,rfl,rfl,by simp,by first|(simp [av,bq,iD,bD,Re.ae re,o,eF];done)|(subst iQ;simp [av,bq,bV,bD,iD,Re.ae re,o];done)|(rw[<- iQ];simp [av,bq,bV,bD,iD,Re.ae re,o];done)|(simp [av,bq,bV,bD,iD,Re.ae re,o,iQ];done)|(simp [av,bq,bV,bD,iD,Re.ae re,iQ];done)⟩ ?_
  rintro n e s ⟨i,rfl,hi,h2,h3,h4,iT,kE,mw,bA,rfl⟩;rcases agi i re.kids.length with az|fI
  ·obtain⟨k,hk⟩:∃k,re.kids[i]?=some k:=⟨_,afP az⟩
   have hm:=afW hk;have aC:(i:Int)<(re.kids.length:Int):=by omega
   have hi0:(0:Int)<=(i:Int):=by omega
   have di:=ih k hm (iO k hm) A2 kF eF;have te:List.take 10 (A2.map bV)=A2.map bV:=af1 (by rw[afN];omega);unfold kV at di;simp only[bV,bD]at di;simp only[zX,cQ,dx,dB,dC,dD,gl,ja,jg,jk,mA,eI,eJ,fX,reduceIte,reduceCtorEq,gj,av,bq,Re.ae re,afR,afU,iD,bD,bV,h2,h3,h4,iT,kE,mw,i64,aC,hi0,az,hk,eF,te,afN,afO,afV,afT];refine aj di (by rw[ai];simp [ah,ah.go,i64,mg]) rfl ?_;cases cU:k.bH A2 kF with
   |false =>
    rw[iZ k hm cU];simp only[zX,cQ,dx,dB,dC,dD,gl,ja,jg,jk,mA,eI,eJ,fX,reduceIte,reduceCtorEq,gj,av,bq,Re.ae re,afR,afU,iD,bD,bV,h2,h3,h4,iT,kE,mw,i64,af4];all_goals rfl
   |true =>
    simp only[zX,cQ,dx,dB,dC,dD,gl,ja,jg,jk,mA,eI,eJ,fX,reduceIte,reduceCtorEq,gj,av,bq,Re.ae re,afR,afU,iD,bD,bV,h2,h3,h4,iT,kE,mw,i64,aga];refine⟨re.kids.length-(i+1),_,_,by omega,br.cut (s':=[av re,bq A2]) 2 (by omega) (by simp [av,bq,eF,Re.ae re,iD,bD]) (by simp [av,bq,bV,aG,Re.ae re,ah]) [2,3,4,43,44,45] (by simp [bz,aH,ah,h2,h3,h4,iT,kE,mw,i64,bV]),i+1,rfl,az,?_,?_,?_,?_,?_,?_,?_,by simp [av,bq,eF,Re.ae re,iD,bD]⟩ <;> (try simp only[zU,gj,cQ,dx,eI,reduceIte])
    ·exact h2
    ·exact h3
    ·exact h4
    ·exact iT
    ·exact kE
    ·rw[bd _ (by omega)];rfl
    ·intro x hx;rcases bu hk hx with h|rfl
     ·exact bA x h
     ·exact cU
  ·have cV:i=re.kids.length:=by omega
   subst cV;rw[agj]at bA;rw[mD bA];simp only[zX,cQ,dx,dB,dC,dD,gl,ja,jg,jk,mA,eI,eJ,fX,reduceIte,reduceCtorEq,gj,av,bq,Re.ae re,afR,afU,iD,bD,bV,h2,h3,h4,iT,kE,mw,i64,agO];all_goals rfl
 case inr.inr.inr.inr.inr.inr.inr.inr.inl =>
  rw[ap (by omega),ap (by omega),ap (by omega),ap (by omega),show (look||decide (re.op=7\/re.op=8))=look by rw[b6 (by omega),ag7]];obtain⟨A2,iQ⟩:∃A2,A2=A:=⟨_,rfl⟩
  obtain⟨kF,jf⟩:∃l,l=look:=⟨_,rfl⟩
  have eF:A2.length=10:=by rw[iQ];simp [hA]
  have iZ:∀k∈re.kids,k.bH A2 kF=false->(re.kids.all λk=>k.bH A look)=false:=λk hk h=>by subst iQ;subst jf;rw[agY];exact⟨k,hk,by simp [h]⟩
  have mD:(∀k∈re.kids,k.bH A2 kF=true)->(re.kids.all λk=>k.bH A look)=true:=λh=>by subst iQ;subst jf;rw[af8];exact h
  unfold kV;refine an Try.func36 rfl Try.ntmps36 Try.results36 rfl 0 62122406972767 (by simp) (by simp) ?_;simp only[zX,cQ,dx,dB,dC,dD,gl,ja,jg,jk,mA,eI,eJ,fX,reduceIte,reduceCtorEq,gj,i64,ai re,iD,bD,bV,o];refine au (λn e s=>∃i:Nat,n=re.kids.length-i/\i<=re.kids.length/\e 2=bV kF/\e 3=.rf 0 0 0 0/\e 4=.rf 1 0 0 0/\e 43=.d (.sl (re.kids.map Re.cells))/\e 44=i64 re.kids.length/\e 45=i64 i/\(∀x∈re.kids.take i,x.bH A2 kF=true)/\s=[av re,bq A2])
   ⟨_,_,_,br.refl,0,rfl,by omega,by first|rfl|(subst jf;rfl),rfl,rfl,rfl,rfl,rfl,by simp,by first|(simp [av,bq,iD,bD,Re.ae re,o,eF];done)|(subst iQ;simp [av,bq,bV,bD,iD,Re.ae re,o];done)|(rw[<- iQ];simp [av,bq,bV,bD,iD,Re.ae re,o];done)|(simp [av,bq,bV,bD,iD,Re.ae re,o,iQ];done)|(simp [av,bq,bV,bD,iD,Re.ae re,iQ];done)⟩ ?_
  rintro n e s ⟨i,rfl,hi,h2,h3,h4,iT,kE,mw,bA,rfl⟩;rcases agi i re.kids.length with az|fI
  ·obtain⟨k,hk⟩:∃k,re.kids[i]?=some k:=⟨_,afP az⟩
   have hm:=afW hk;have aC:(i:Int)<(re.kids.length:Int):=by omega
   have hi0:(0:Int)<=(i:Int):=by omega
   have di:=ih k hm (iO k hm) A2 kF eF;have te:List.take 10 (A2.map bV)=A2.map bV:=af1 (by rw[afN];omega);unfold kV at di;simp only[bV,bD]at di;simp only[zX,cQ,dx,dB,dC,dD,gl,ja,jg,jk,mA,eI,eJ,fX,reduceIte,reduceCtorEq,gj,av,bq,Re.ae re,afR,afU,iD,bD,bV,h2,h3,h4,iT,kE,mw,i64,aC,hi0,az,hk,eF,te,afN,afO,afV,afT];refine aj di (by rw[ai];simp [ah,ah.go,i64,mg]) rfl ?_;cases cU:k.bH A2 kF with
   |false =>
    rw[iZ k hm cU];simp only[zX,cQ,dx,dB,dC,dD,gl,ja,jg,jk,mA,eI,eJ,fX,reduceIte,reduceCtorEq,gj,av,bq,Re.ae re,afR,afU,iD,bD,bV,h2,h3,h4,iT,kE,mw,i64,af4];all_goals rfl
   |true =>
    simp only[zX,cQ,dx,dB,dC,dD,gl,ja,jg,jk,mA,eI,eJ,fX,reduceIte,reduceCtorEq,gj,av,bq,Re.ae re,afR,afU,iD,bD,bV,h2,h3,h4,iT,kE,mw,i64,aga];refine⟨re.kids.length-(i+1),_,_,by omega,br.cut (s':=[av re,bq A2]) 2 (by omega) (by simp [av,bq,eF,Re.ae re,iD,bD]) (by simp [av,bq,bV,aG,Re.ae re,ah]) [2,3,4,43,44,45] (by simp [bz,aH,ah,h2,h3,h4,iT,kE,mw,i64,bV]),i+1,rfl,az,?_,?_,?_,?_,?_,?_,?_,by simp [av,bq,eF,Re.ae re,iD,bD]⟩ <;> (try simp only[zU,gj,cQ,dx,eI,reduceIte])
    ·exact h2
    ·exact h3
    ·exact h4
    ·exact iT
    ·exact kE
    ·rw[bd _ (by omega)];rfl
    ·intro x hx;rcases bu hk hx with h|rfl
     ·exact bA x h
     ·exact cU
  ·have cV:i=re.kids.length:=by omega
   subst cV;rw[agj]at bA;rw[mD bA];simp only[zX,cQ,dx,dB,dC,dD,gl,ja,jg,jk,mA,eI,eJ,fX,reduceIte,reduceCtorEq,gj,av,bq,Re.ae re,afR,afU,iD,bD,bV,h2,h3,h4,iT,kE,mw,i64,agO];all_goals rfl
 case inr.inr.inr.inr.inr.inr.inr.inr.inr.inl =>
  rw[ap (by omega),ap (by omega),ap (by omega),ap (by omega),show (look||decide (re.op=7\/re.op=8))=look by rw[b6 (by omega),ag7]];obtain⟨A2,iQ⟩:∃A2,A2=A:=⟨_,rfl⟩
  obtain⟨kF,jf⟩:∃l,l=look:=⟨_,rfl⟩
  have eF:A2.length=10:=by rw[iQ];simp [hA]
  have iZ:∀k∈re.kids,k.bH A2 kF=false->(re.kids.all λk=>k.bH A look)=false:=λk hk h=>by subst iQ;subst jf;rw[agY];exact⟨k,hk,by simp [h]⟩
  have mD:(∀k∈re.kids,k.bH A2 kF=true)->(re.kids.all λk=>k.bH A look)=true:=λh=>by subst iQ;subst jf;rw[af8];exact h
  unfold kV;refine an Try.func36 rfl Try.ntmps36 Try.results36 rfl 0 62122406972767 (by simp) (by simp) ?_;simp only[zX,cQ,dx,dB,dC,dD,gl,ja,jg,jk,mA,eI,eJ,fX,reduceIte,reduceCtorEq,gj,i64,ai re,iD,bD,bV,o];refine au (λn e s=>∃i:Nat,n=re.kids.length-i/\i<=re.kids.length/\e 2=bV kF/\e 3=.rf 0 0 0 0/\e 4=.rf 1 0 0 0/\e 43=.d (.sl (re.kids.map Re.cells))/\e 44=i64 re.kids.length/\e 45=i64 i/\(∀x∈re.kids.take i,x.bH A2 kF=true)/\s=[av re,bq A2])
   ⟨_,_,_,br.refl,0,rfl,by omega,by first|rfl|(subst jf;rfl),rfl,rfl,rfl,rfl,rfl,by simp,by first|(simp [av,bq,iD,bD,Re.ae re,o,eF];done)|(subst iQ;simp [av,bq,bV,bD,iD,Re.ae re,o];done)|(rw[<- iQ];simp [av,bq,bV,bD,iD,Re.ae re,o];done)|(simp [av,bq,bV,bD,iD,Re.ae re,o,iQ];done)|(simp [av,bq,bV,bD,iD,Re.ae re,iQ];done)⟩ ?_
  rintro n e s ⟨i,rfl,hi,h2,h3,h4,iT,kE,mw,bA,rfl⟩;rcases agi i re.kids.length with az|fI
  ·obtain⟨k,hk⟩:∃k,re.kids[i]?=some k:=⟨_,afP az⟩
   have hm:=afW hk;have aC:(i:Int)<(re.kids.length:Int):=by omega
   have hi0:(0:Int)<=(i:Int):=by omega
   have di:=ih k hm (iO k hm) A2 kF eF;have te:List.take 10 (A2.map bV)=A2.map bV:=af1 (by rw[afN];omega);unfold kV at di;simp only[bV,bD]at di;simp only[zX,cQ,dx,dB,dC,dD,gl,ja,jg,jk,mA,eI,eJ,fX,reduceIte,reduceCtorEq,gj,av,bq,Re.ae re,afR,afU,iD,bD,bV,h2,h3,h4,iT,kE,mw,i64,aC,hi0,az,hk,eF,te,afN,afO,afV,afT];refine aj di (by rw[ai];simp [ah,ah.go,i64,mg]) rfl ?_;cases cU:k.bH A2 kF with
   |false =>
    rw[iZ k hm cU];simp only[zX,cQ,dx,dB,dC,dD,gl,ja,jg,jk,mA,eI,eJ,fX,reduceIte,reduceCtorEq,gj,av,bq,Re.ae re,afR,afU,iD,bD,bV,h2,h3,h4,iT,kE,mw,i64,af4];all_goals rfl
   |true =>
    simp only[zX,cQ,dx,dB,dC,dD,gl,ja,jg,jk,mA,eI,eJ,fX,reduceIte,reduceCtorEq,gj,av,bq,Re.ae re,afR,afU,iD,bD,bV,h2,h3,h4,iT,kE,mw,i64,aga];refine⟨re.kids.length-(i+1),_,_,by omega,br.cut (s':=[av re,bq A2]) 2 (by omega) (by simp [av,bq,eF,Re.ae re,iD,bD]) (by simp [av,bq,bV,aG,Re.ae re,ah]) [2,3,4,43,44,45] (by simp [bz,aH,ah,h2,h3,h4,iT,kE,mw,i64,bV]),i+1,rfl,az,?_,?_,?_,?_,?_,?_,?_,by simp [av,bq,eF,Re.ae re,iD,bD]⟩ <;> (try simp only[zU,gj,cQ,dx,eI,reduceIte])
    ·exact h2
    ·exact h3
    ·exact h4
    ·exact iT
    ·exact kE
    ·rw[bd _ (by omega)];rfl
    ·intro x hx;rcases bu hk hx with h|rfl
     ·exact bA x h
     ·exact cU
  ·have cV:i=re.kids.length:=by omega
   subst cV;rw[agj]at bA;rw[mD bA];simp only[zX,cQ,dx,dB,dC,dD,gl,ja,jg,jk,mA,eI,eJ,fX,reduceIte,reduceCtorEq,gj,av,bq,Re.ae re,afR,afU,iD,bD,bV,h2,h3,h4,iT,kE,mw,i64,agO];all_goals rfl
 case inr.inr.inr.inr.inr.inr.inr.inr.inr.inr.inl =>
  rw[ap (by omega),ap (by omega),ap (by omega),ap (by omega),show (look||decide (re.op=7\/re.op=8))=look by rw[b6 (by omega),ag7]];obtain⟨A2,iQ⟩:∃A2,A2=A:=⟨_,rfl⟩
  obtain⟨kF,jf⟩:∃l,l=look:=⟨_,rfl⟩
  have eF:A2.length=10:=by rw[iQ];simp [hA]
  have iZ:∀k∈re.kids,k.bH A2 kF=false->(re.kids.all λk=>k.bH A look)=false:=λk hk h=>by subst iQ;subst jf;rw[agY];exact⟨k,hk,by simp [h]⟩
  have mD:(∀k∈re.kids,k.bH A2 kF=true)->(re.kids.all λk=>k.bH A look)=true:=λh=>by subst iQ;subst jf;rw[af8];exact h
  unfold kV;refine an Try.func36 rfl Try.ntmps36 Try.results36 rfl 0 62122406972767 (by simp) (by simp) ?_;simp only[zX,cQ,dx,dB,dC,dD,gl,ja,jg,jk,mA,eI,eJ,fX,reduceIte,reduceCtorEq,gj,i64,ai re,iD,bD,bV,o];refine au (λn e s=>∃i:Nat,n=re.kids.length-i/\i<=re.kids.length/\e 2=bV kF/\e 3=.rf 0 0 0 0/\e 4=.rf 1 0 0 0/\e 43=.d (.sl (re.kids.map Re.cells))/\e 44=i64 re.kids.length/\e 45=i64 i/\(∀x∈re.kids.take i,x.bH A2 kF=true)/\s=[av re,bq A2])
   ⟨_,_,_,br.refl,0,rfl,by omega,by first|rfl|(subst jf;rfl),rfl,rfl,rfl,rfl,rfl,by simp,by first|(simp [av,bq,iD,bD,Re.ae re,o,eF];done)|(subst iQ;simp [av,bq,bV,bD,iD,Re.ae re,o];done)|(rw[<- iQ];simp [av,bq,bV,bD,iD,Re.ae re,o];done)|(simp [av,bq,bV,bD,iD,Re.ae re,o,iQ];done)|(simp [av,bq,bV,bD,iD,Re.ae re,iQ];done)⟩ ?_
  rintro n e s ⟨i,rfl,hi,h2,h3,h4,iT,kE,mw,bA,rfl⟩;rcases agi i re.kids.length with az|fI
  ·obtain⟨k,hk⟩:∃k,re.kids[i]?=some k:=⟨_,afP az⟩
   have hm:=afW hk;have aC:(i:Int)<(re.kids.length:Int):=by omega
   have hi0:(0:Int)<=(i:Int):=by omega
   have di:=ih k hm (iO k hm) A2 kF eF;have te:List.take 10 (A2.map bV)=A2.map bV:=af1 (by rw[afN];omega);unfold kV at di;simp only[bV,bD]at di;simp only[zX,cQ,dx,dB,dC,dD,gl,ja,jg,jk,mA,eI,eJ,fX,reduceIte,reduceCtorEq,gj,av,bq,Re.ae re,afR,afU,iD,bD,bV,h2,h3,h4,iT,kE,mw,i64,aC,hi0,az,hk,eF,te,afN,afO,afV,afT];refine aj di (by rw[ai];simp [ah,ah.go,i64,mg]) rfl ?_;cases cU:k.bH A2 kF with
   |false =>
    rw[iZ k hm cU];simp only[zX,cQ,dx,dB,dC,dD,gl,ja,jg,jk,mA,eI,eJ,fX,reduceIte,reduceCtorEq,gj,av,bq,Re.ae re,afR,afU,iD,bD,bV,h2,h3,h4,iT,kE,mw,i64,af4];all_goals rfl
   |true =>
    simp only[zX,cQ,dx,dB,dC,dD,gl,ja,jg,jk,mA,eI,eJ,fX,reduceIte,reduceCtorEq,gj,av,bq,Re.ae re,afR,afU,iD,bD,bV,h2,h3,h4,iT,kE,mw,i64,aga];refine⟨re.kids.length-(i+1),_,_,by omega,br.cut (s':=[av re,bq A2]) 2 (by omega) (by simp [av,bq,eF,Re.ae re,iD,bD]) (by simp [av,bq,bV,aG,Re.ae re,ah]) [2,3,4,43,44,45] (by simp [bz,aH,ah,h2,h3,h4,iT,kE,mw,i64,bV]),i+1,rfl,az,?_,?_,?_,?_,?_,?_,?_,by simp [av,bq,eF,Re.ae re,iD,bD]⟩ <;> (try simp only[zU,gj,cQ,dx,eI,reduceIte])
    ·exact h2
    ·exact h3
    ·exact h4
    ·exact iT
    ·exact kE
    ·rw[bd _ (by omega)];rfl
    ·intro x hx;rcases bu hk hx with h|rfl
     ·exact bA x h
     ·exact cU
  ·have cV:i=re.kids.length:=by omega
   subst cV;rw[agj]at bA;rw[mD bA];simp only[zX,cQ,dx,dB,dC,dD,gl,ja,jg,jk,mA,eI,eJ,fX,reduceIte,reduceCtorEq,gj,av,bq,Re.ae re,afR,afU,iD,bD,bV,h2,h3,h4,iT,kE,mw,i64,agO];all_goals rfl
 case inr.inr.inr.inr.inr.inr.inr.inr.inr.inr.inr =>
  rw[ap (by omega),ap (by omega),ap (by omega),ap (by omega),show (look||decide (re.op=7\/re.op=8))=look by rw[b6 (by omega),ag7]];obtain⟨A2,iQ⟩:∃A2,A2=A:=⟨_,rfl⟩
  obtain⟨kF,jf⟩:∃l,l=look:=⟨_,rfl⟩
  have eF:A2.length=10:=by rw[iQ];simp [hA]
  have iZ:∀k∈re.kids,k.bH A2 kF=false->(re.kids.all λk=>k.bH A look)=false:=λk hk h=>by subst iQ;subst jf;rw[agY];exact⟨k,hk,by simp [h]⟩
  have mD:(∀k∈re.kids,k.bH A2 kF=true)->(re.kids.all λk=>k.bH A look)=true:=λh=>by subst iQ;subst jf;rw[af8];exact h
  unfold kV;refine an Try.func36 rfl Try.ntmps36 Try.results36 rfl 0 62122406972767 (by simp) (by simp) ?_;simp only[zX,cQ,dx,dB,dC,dD,gl,ja,jg,jk,mA,eI,eJ,fX,reduceIte,reduceCtorEq,gj,i64,ai re,iD,bD,bV,o];refine au (λn e s=>∃i:Nat,n=re.kids.length-i/\i<=re.kids.length/\e 2=bV kF/\e 3=.rf 0 0 0 0/\e 4=.rf 1 0 0 0/\e 43=.d (.sl (re.kids.map Re.cells))/\e 44=i64 re.kids.length/\e 45=i64 i/\(∀x∈re.kids.take i,x.bH A2 kF=true)/\s=[av re,bq A2])
   ⟨_,_,_,br.refl,0,rfl,by omega,by first|rfl|(subst jf;rfl),rfl,rfl,rfl,rfl,rfl,by simp,by first|(simp [av,bq,iD,bD,Re.ae re,o,eF];done)|(subst iQ;simp [av,bq,bV,bD,iD,Re.ae re,o];done)|(rw[<- iQ];simp [av,bq,bV,bD,iD,Re.ae re,o];done)|(simp [av,bq,bV,bD,iD,Re.ae re,o,iQ];done)|(simp [av,bq,bV,bD,iD,Re.ae re,iQ];done)⟩ ?_
  rintro n e s ⟨i,rfl,hi,h2,h3,h4,iT,kE,mw,bA,rfl⟩;rcases agi i re.kids.length with az|fI
  ·obtain⟨k,hk⟩:∃k,re.kids[i]?=some k:=⟨_,afP az⟩
   have hm:=afW hk;have aC:(i:Int)<(re.kids.length:Int):=by omega
   have hi0:(0:Int)<=(i:Int):=by omega
   have di:=ih k hm (iO k hm) A2 kF eF;have te:List.take 10 (A2.map bV)=A2.map bV:=af1 (by rw[afN];omega);unfold kV at di;simp only[bV,bD]at di;simp only[zX,cQ,dx,dB,dC,dD,gl,ja,jg,jk,mA,eI,eJ,fX,reduceIte,reduceCtorEq,gj,av,bq,Re.ae re,afR,afU,iD,bD,bV,h2,h3,h4,iT,kE,mw,i64,aC,hi0,az,hk,eF,te,afN,afO,afV,afT];refine aj di (by rw[ai];simp [ah,ah.go,i64,mg]) rfl ?_;cases cU:k.bH A2 kF with
   |false =>
    rw[iZ k hm cU];simp only[zX,cQ,dx,dB,dC,dD,gl,ja,jg,jk,mA,eI,eJ,fX,reduceIte,reduceCtorEq,gj,av,bq,Re.ae re,afR,afU,iD,bD,bV,h2,h3,h4,iT,kE,mw,i64,af4];all_goals rfl
   |true =>
    simp only[zX,cQ,dx,dB,dC,dD,gl,ja,jg,jk,mA,eI,eJ,fX,reduceIte,reduceCtorEq,gj,av,bq,Re.ae re,afR,afU,iD,bD,bV,h2,h3,h4,iT,kE,mw,i64,aga];refine⟨re.kids.length-(i+1),_,_,by omega,br.cut (s':=[av re,bq A2]) 2 (by omega) (by simp [av,bq,eF,Re.ae re,iD,bD]) (by simp [av,bq,bV,aG,Re.ae re,ah]) [2,3,4,43,44,45] (by simp [bz,aH,ah,h2,h3,h4,iT,kE,mw,i64,bV]),i+1,rfl,az,?_,?_,?_,?_,?_,?_,?_,by simp [av,bq,eF,Re.ae re,iD,bD]⟩ <;> (try simp only[zU,gj,cQ,dx,eI,reduceIte])
    ·exact h2
    ·exact h3
    ·exact h4
    ·exact iT
    ·exact kE
    ·rw[bd _ (by omega)];rfl
    ·intro x hx;rcases bu hk hx with h|rfl
     ·exact bA x h
     ·exact cU
  ·have cV:i=re.kids.length:=by omega
   subst cV;rw[agj]at bA;rw[mD bA];simp only[zX,cQ,dx,dB,dC,dD,gl,ja,jg,jk,mA,eI,eJ,fX,reduceIte,reduceCtorEq,gj,av,bq,Re.ae re,afR,afU,iD,bD,bV,h2,h3,h4,iT,kE,mw,i64,agO];all_goals rfl
end Go.Proofs.Ytfmdmlfhigocaaa
