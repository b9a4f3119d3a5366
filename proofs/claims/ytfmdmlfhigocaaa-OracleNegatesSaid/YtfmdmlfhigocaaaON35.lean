/- A part of the proof (O21). -/
import Derived.Test.YtfmdmlfhigocaaaON33
set_option linter.unusedSimpArgs false
set_option linter.unusedVariables false
open Nat renaming reduceShiftRight → cQ, reduceMod → dx, reduceLT → dB, reduceMul → dC, reduceSub → dD, reduceEqDiff → eI, reduceAdd → eJ, reduceLeDiff → fX, reduceBEq → gj
open Int renaming reduceToNat → gl, reduceNeg → ja, reduceLT → jg, reduceLE → jk, reduceEq → mA
set_option maxRecDepth 100000
set_option maxHeartbeats 80000000
namespace Go.Proofs.Ytfmdmlfhigocaaa
open Go.VL
def Dp (re:Re):Bool:=!re.lr||re.kids.all λk=>decide (1+dm k<=8192)
def mS (re:Re):Bool:=decide (1+dm re<=8192)&&re.every Dp
def pB:VL.Obj:=⟨0,true,1,[[.cl (.func 70) [] [.rf 0 0 0 0]]]⟩
theorem A7 (re:Re):0<=dm re/\dm re<=8193:=by unfold dm;omega
def FZ (re:Re):Prop:=aq Try.prog 70 [fv re,.rf 0 0 0 0] [pB] λv s=>v=bV (re.every Dp)/\s=[pB]
theorem Lq {re:Re} (h:FZ re) {tl:List VL.Obj}{K:V->List VL.Obj->Prop} (hk:K (bV (re.every Dp)) (pB::tl)):aq Try.prog 70 [fv re,.rf 0 0 0 0] (pB::tl) K:=by
 refine cH [0] h (by decide) rfl rfl ?_ ?_ (by rfl) (r':=bV (re.every Dp)) rfl ?_
 ·rw[ai];simp [aL,aL.go,i64,bV]
 ·rw[ai];simp [ah,ah.go,i64,bV]
 ·exact hk
theorem Rv (re:Re):re.every mv=true->FZ re:=by
 induction re using Re.ind with
 |h re ih =>
 intro hs;obtain⟨ez,iO⟩:=(Re.aB re).1 hs;obtain⟨_,_,q3,_⟩:=jS.1 ez;unfold FZ;refine an Try.func70 rfl Try.ntmps70 Try.results70 rfl 1 943 (by simp) (by simp) ?_;simp only[zX,cQ,dx,dB,dC,dD,gl,ja,jg,jk,mA,eI,eJ,fX,reduceIte,reduceCtorEq,gj,i64,ai re,iD,bD];refine au (λn e s=>∃i:Nat,n=re.kids.length-i/\i<=re.kids.length/\e 1=.rf 0 0 0 0/\e 2=.rf 1 0 0 0/\e 7=.d (.sl (re.kids.map Re.cells))/\e 8=i64 re.kids.length/\e 9=i64 i/\(∀x∈re.kids.take i,(re.lr=true->1+dm x<=8192)/\x.every Dp=true)/\s=[pB,av re]) ⟨_,_,_,br.refl,0,rfl,by omega,rfl,rfl,rfl,rfl,rfl,by simp,by simp [av,Re.ae re,iD,bD]⟩ ?_;rintro n e s ⟨i,rfl,hi,h1,h2,h7,h8,h9,bA,rfl⟩;rcases agi i re.kids.length with az|fI
 ·obtain⟨k,hk⟩:∃k,re.kids[i]?=some k:=⟨_,afP az⟩
  have hm:=afW hk;have aC:(i:Int)<(re.kids.length:Int):=by omega
  have hi0:(0:Int)<=(i:Int):=by omega
  have C7:=BJ k (iO k hm);have hlr:=A7 k;have w1:IntKind.i64.wrap (1+dm k)=1+dm k:=bd _ (by omega);have GP:=λK hk=>Lq (ih k hm (iO k hm)) (tl:=[av re,⟨0,true,8,[k.cells.map .d]⟩]) (K:=K) hk;have kK:re.lr=true->8192<1+dm k->re.every Dp=false:=λh1 h2=>by rw[agP];intro h;have h3:=((Re.aB re).1 h).1;unfold Dp at h3;rw[h1]at h3;simp only[aga,agr,af8,decide_eq_true_eq]at h3;have:=h3 k hm;omega
  have Q1:k.every Dp=false->re.every Dp=false:=λh=>by rw[agP];intro h3;have:=((Re.aB re).1 h3).2 k hm;rw[h]at this;cases this
  simp only[i64]at C7;unfold av at GP;rw[Re.ae re]at GP;generalize hyk:dm k=y at *;have mZ:re.op=7\/(re.op≠7/\re.op=8)\/(re.op≠7/\re.op≠8):=by omega
  rcases mZ with o|⟨o,o'⟩|⟨o,o'⟩
  ·have hl:re.lr=true:=by unfold Re.lr;simp only[o];rfl
   have Gb:¬re.lr=true->False:=λh=>h hl;by_cases c:8192<1+y
   ·rw[kK hl c];simp only[zX,cQ,dx,dB,dC,dD,gl,ja,jg,jk,mA,eI,eJ,fX,reduceIte,reduceCtorEq,gj,av,Re.ae re,afR,afU,iD,bD,bV,h1,h2,h7,h8,h9,i64,aC,hi0,az,hk,afN,afO,afV,afT,w1,o,c];refine aj C7 (by simp [ah,ah.go,ai,i64,bV,aM]) (by simp [ah,ah.go,ai,i64,bV,aM]) ?_;simp only[zX,cQ,dx,dB,dC,dD,gl,ja,jg,jk,mA,eI,eJ,fX,reduceIte,reduceCtorEq,gj,av,Re.ae re,afR,afU,iD,bD,bV,h1,h2,h7,h8,h9,i64,aC,hi0,az,hk,afN,afO,afV,afT,w1,o,c];all_goals rfl
   ·cases cU:k.every Dp with
    |false =>
     rw[Q1 cU];simp only[zX,cQ,dx,dB,dC,dD,gl,ja,jg,jk,mA,eI,eJ,fX,reduceIte,reduceCtorEq,gj,av,Re.ae re,afR,afU,iD,bD,bV,h1,h2,h7,h8,h9,i64,aC,hi0,az,hk,afN,afO,afV,afT,w1,o,c];refine aj C7 (by simp [ah,ah.go,ai,i64,bV,aM]) (by simp [ah,ah.go,ai,i64,bV,aM]) ?_;simp only[zX,cQ,dx,dB,dC,dD,gl,ja,jg,jk,mA,eI,eJ,fX,reduceIte,reduceCtorEq,gj,av,Re.ae re,afR,afU,iD,bD,bV,h1,h2,h7,h8,h9,i64,aC,hi0,az,hk,afN,afO,afV,afT,w1,o,c,pB,af4];simp only[o]at GP;unfold pB at GP;refine GP _ ?_;simp only[zX,cQ,dx,dB,dC,dD,gl,ja,jg,jk,mA,eI,eJ,fX,reduceIte,reduceCtorEq,gj,av,Re.ae re,afR,afU,iD,bD,bV,h1,h2,h7,h8,h9,i64,aC,hi0,az,hk,afN,afO,afV,afT,w1,o,c,cU,af4];all_goals rfl
    |true =>
     simp only[zX,cQ,dx,dB,dC,dD,gl,ja,jg,jk,mA,eI,eJ,fX,reduceIte,reduceCtorEq,gj,av,Re.ae re,afR,afU,iD,bD,bV,h1,h2,h7,h8,h9,i64,aC,hi0,az,hk,afN,afO,afV,afT,w1,o,c];refine aj C7 (by simp [ah,ah.go,ai,i64,bV,aM]) (by simp [ah,ah.go,ai,i64,bV,aM]) ?_;simp only[zX,cQ,dx,dB,dC,dD,gl,ja,jg,jk,mA,eI,eJ,fX,reduceIte,reduceCtorEq,gj,av,Re.ae re,afR,afU,iD,bD,bV,h1,h2,h7,h8,h9,i64,aC,hi0,az,hk,afN,afO,afV,afT,w1,o,c,pB,af4];simp only[o]at GP;unfold pB at GP;refine GP _ ?_;simp only[zX,cQ,dx,dB,dC,dD,gl,ja,jg,jk,mA,eI,eJ,fX,reduceIte,reduceCtorEq,gj,av,Re.ae re,afR,afU,iD,bD,bV,h1,h2,h7,h8,h9,i64,aC,hi0,az,hk,afN,afO,afV,afT,w1,o,c,cU,aga];refine⟨re.kids.length-(i+1),_,_,by omega,br.cut (s':=[pB,av re]) 2 (by omega) (by simp [av,pB,Re.ae re,iD,bD,o]) (by simp [av,pB,aG,Re.ae re,ah,ah.go]) [1,2,7,8,9] (by simp [bz,aH,ah,h1,h2,h7,h8,h9,i64]),i+1,rfl,az,?_,?_,?_,?_,?_,?_,by simp [av,pB,Re.ae re,iD,bD,o]⟩ <;> (try simp only[zU,gj,cQ,dx,eI,reduceIte])
     ·exact h1
     ·exact h2
     ·exact h7
     ·exact h8
     ·rw[bd _ (by omega)];rfl
     ·intro x hx;rcases bu hk hx with h|rfl
      ·exact bA x h
      ·exact⟨λjB=>by first|omega|exact absurd jB Gb,cU⟩
  ·have hl:re.lr=true:=by unfold Re.lr;simp only[o'];rfl
   have Gb:¬re.lr=true->False:=λh=>h hl;by_cases c:8192<1+y
   ·rw[kK hl c];simp only[zX,cQ,dx,dB,dC,dD,gl,ja,jg,jk,mA,eI,eJ,fX,reduceIte,reduceCtorEq,gj,av,Re.ae re,afR,afU,iD,bD,bV,h1,h2,h7,h8,h9,i64,aC,hi0,az,hk,afN,afO,afV,afT,w1,o',c];refine aj C7 (by simp [ah,ah.go,ai,i64,bV,aM]) (by simp [ah,ah.go,ai,i64,bV,aM]) ?_;simp only[zX,cQ,dx,dB,dC,dD,gl,ja,jg,jk,mA,eI,eJ,fX,reduceIte,reduceCtorEq,gj,av,Re.ae re,afR,afU,iD,bD,bV,h1,h2,h7,h8,h9,i64,aC,hi0,az,hk,afN,afO,afV,afT,w1,o',c];all_goals rfl
   ·cases cU:k.every Dp with
    |false =>
     rw[Q1 cU];simp only[zX,cQ,dx,dB,dC,dD,gl,ja,jg,jk,mA,eI,eJ,fX,reduceIte,reduceCtorEq,gj,av,Re.ae re,afR,afU,iD,bD,bV,h1,h2,h7,h8,h9,i64,aC,hi0,az,hk,afN,afO,afV,afT,w1,o',c];refine aj C7 (by simp [ah,ah.go,ai,i64,bV,aM]) (by simp [ah,ah.go,ai,i64,bV,aM]) ?_;simp only[zX,cQ,dx,dB,dC,dD,gl,ja,jg,jk,mA,eI,eJ,fX,reduceIte,reduceCtorEq,gj,av,Re.ae re,afR,afU,iD,bD,bV,h1,h2,h7,h8,h9,i64,aC,hi0,az,hk,afN,afO,afV,afT,w1,o',c,pB,af4];simp only[o']at GP;unfold pB at GP;refine GP _ ?_;simp only[zX,cQ,dx,dB,dC,dD,gl,ja,jg,jk,mA,eI,eJ,fX,reduceIte,reduceCtorEq,gj,av,Re.ae re,afR,afU,iD,bD,bV,h1,h2,h7,h8,h9,i64,aC,hi0,az,hk,afN,afO,afV,afT,w1,o',c,cU,af4];all_goals rfl
    |true =>
     simp only[zX,cQ,dx,dB,dC,dD,gl,ja,jg,jk,mA,eI,eJ,fX,reduceIte,reduceCtorEq,gj,av,Re.ae re,afR,afU,iD,bD,bV,h1,h2,h7,h8,h9,i64,aC,hi0,az,hk,afN,afO,afV,afT,w1,o',c];refine aj C7 (by simp [ah,ah.go,ai,i64,bV,aM]) (by simp [ah,ah.go,ai,i64,bV,aM]) ?_;simp only[zX,cQ,dx,dB,dC,dD,gl,ja,jg,jk,mA,eI,eJ,fX,reduceIte,reduceCtorEq,gj,av,Re.ae re,afR,afU,iD,bD,bV,h1,h2,h7,h8,h9,i64,aC,hi0,az,hk,afN,afO,afV,afT,w1,o',c,pB,af4];simp only[o']at GP;unfold pB at GP;refine GP _ ?_;simp only[zX,cQ,dx,dB,dC,dD,gl,ja,jg,jk,mA,eI,eJ,fX,reduceIte,reduceCtorEq,gj,av,Re.ae re,afR,afU,iD,bD,bV,h1,h2,h7,h8,h9,i64,aC,hi0,az,hk,afN,afO,afV,afT,w1,o',c,cU,aga];refine⟨re.kids.length-(i+1),_,_,by omega,br.cut (s':=[pB,av re]) 2 (by omega) (by simp [av,pB,Re.ae re,iD,bD,o']) (by simp [av,pB,aG,Re.ae re,ah,ah.go]) [1,2,7,8,9] (by simp [bz,aH,ah,h1,h2,h7,h8,h9,i64]),i+1,rfl,az,?_,?_,?_,?_,?_,?_,by simp [av,pB,Re.ae re,iD,bD,o']⟩ <;> (try simp only[zU,gj,cQ,dx,eI,reduceIte])
     ·exact h1
     ·exact h2
     ·exact h7
     ·exact h8
     ·rw[bd _ (by omega)];rfl
     ·intro x hx;rcases bu hk hx with h|rfl
      ·exact bA x h
      ·exact⟨λjB=>by first|omega|exact absurd jB Gb,cU⟩
  ·have Gb:¬re.lr=true:=by unfold Re.lr;simp;omega
   cases cU:k.every Dp with
   |false =>
    rw[Q1 cU];simp only[zX,cQ,dx,dB,dC,dD,gl,ja,jg,jk,mA,eI,eJ,fX,reduceIte,reduceCtorEq,gj,av,Re.ae re,afR,afU,iD,bD,bV,h1,h2,h7,h8,h9,i64,aC,hi0,az,hk,afN,afO,afV,afT,w1,o,o',pB,af4];unfold pB at GP;refine GP _ ?_;simp only[zX,cQ,dx,dB,dC,dD,gl,ja,jg,jk,mA,eI,eJ,fX,reduceIte,reduceCtorEq,gj,av,Re.ae re,afR,afU,iD,bD,bV,h1,h2,h7,h8,h9,i64,aC,hi0,az,hk,afN,afO,afV,afT,w1,o,o',cU,af4];all_goals rfl
   |true =>
    simp only[zX,cQ,dx,dB,dC,dD,gl,ja,jg,jk,mA,eI,eJ,fX,reduceIte,reduceCtorEq,gj,av,Re.ae re,afR,afU,iD,bD,bV,h1,h2,h7,h8,h9,i64,aC,hi0,az,hk,afN,afO,afV,afT,w1,o,o',pB,af4];unfold pB at GP;refine GP _ ?_;simp only[zX,cQ,dx,dB,dC,dD,gl,ja,jg,jk,mA,eI,eJ,fX,reduceIte,reduceCtorEq,gj,av,Re.ae re,afR,afU,iD,bD,bV,h1,h2,h7,h8,h9,i64,aC,hi0,az,hk,afN,afO,afV,afT,w1,o,o',cU,aga];refine⟨re.kids.length-(i+1),_,_,by omega,br.cut (s':=[pB,av re]) 2 (by omega) (by simp [av,pB,Re.ae re,iD,bD]) (by simp [av,pB,aG,Re.ae re,ah,ah.go]) [1,2,7,8,9] (by simp [bz,aH,ah,h1,h2,h7,h8,h9,i64]),i+1,rfl,az,?_,?_,?_,?_,?_,?_,by simp [av,pB,Re.ae re,iD,bD]⟩ <;> (try simp only[zU,gj,cQ,dx,eI,reduceIte])
    ·exact h1
    ·exact h2
    ·exact h7
    ·exact h8
    ·rw[bd _ (by omega)];rfl
    ·intro x hx;rcases bu hk hx with h|rfl
     ·exact bA x h
     ·exact⟨λjB=>by first|omega|exact absurd jB Gb,cU⟩
 ·have cV:i=re.kids.length:=by omega
  subst cV;rw[agj]at bA;have NQ:re.every Dp=true:=(Re.aB re).2 ⟨by
   unfold Dp;cases hl:re.lr with
   |false=>rfl
   |true =>
    simp only[aga,agr,af8,decide_eq_true_eq];exact λx hx=>(bA x hx).1 hl,λx hx=>(bA x hx).2⟩
  rw[NQ];simp only[zX,cQ,dx,dB,dC,dD,gl,ja,jg,jk,mA,eI,eJ,fX,reduceIte,reduceCtorEq,gj,av,Re.ae re,afR,afU,iD,bD,bV,h1,h2,h7,h8,h9,i64,agO];all_goals rfl
end Go.Proofs.Ytfmdmlfhigocaaa
