/- A part of the proof (O21 O22). -/
import Derived.Test.YtjjfioalgbecmaaGreatOQ32
set_option linter.unusedSimpArgs false
set_option linter.unusedVariables false
open Nat renaming reduceShiftRight → jN, reduceMod → oN, reduceEqDiff → oV, reduceBEq → pZ
set_option maxRecDepth 100000
set_option maxHeartbeats 80000000
namespace Go.Proofs.YtjjfioalgbecmaaGreat
open Go.VL
def Bn (re:Re):Bool:=!re.oA||re.kids.all λk=>decide (1+iR k<=8192)
def mi (re:Re):Bool:=decide (1+iR re<=8192)&&re.every Bn
def pB:VL.Obj:=⟨0,true,1,[[.cl (.func 58) [] [.rf 0 0 0 0]]]⟩
theorem Cc (re:Re):0<=iR re/\iR re<=8193:=by unfold iR;omega
def HT (re:Re):Prop:=ar Tryz.prog 58 [sN re,.rf 0 0 0 0] [pB] λv s=>v=bV (re.every Bn)/\s=[pB]
theorem NB {re:Re} (h:HT re) {tl:List VL.Obj}{K:V->List VL.Obj->Prop} (hk:K (bV (re.every Bn)) (pB::tl)):ar Tryz.prog 58 [sN re,.rf 0 0 0 0] (pB::tl) K:=by
 refine cV [0] h aU rfl rfl ?_ ?_ cB (r':=bV (re.every Bn)) rfl ?_
 ·rw[av];simp [aE,aE.go,i64,bV]
 ·rw[av];simp [aj,aj.go,i64,bV]
 ·exact hk
theorem Uv (re:Re):re.every oO=true->HT re:=by
 induction re using Re.ind with
 |h re ih =>
 intro hs;obtain⟨dM,jA⟩:=(Re.aD re).1 hs;obtain⟨_,_,q3,_⟩:=lN.1 dM;unfold HT;refine bo Tryz.func58 Tryz.ntmps58 Tryz.results58 1 943 ?_;simp only[zI,simprocAttr,av re,iD,bD];refine aw (λn e s=>∃i:Nat,n=re.kids.length-i/\i<=re.kids.length/\e 1=.rf 0 0 0 0/\e 2=.rf 1 0 0 0/\e 7=.d (.sl (re.kids.map Re.cells))/\e 8=i64 re.kids.length/\e 9=i64 i/\(∀x∈re.kids.take i,(re.oA=true->1+iR x<=8192)/\x.every Bn=true)/\s=[pB,bf re]) ⟨_,_,_,bA.refl,0,rfl,ae,rfl,rfl,rfl,rfl,rfl,ak,by simp [bf,Re.ah re,iD,bD]⟩ ?_;rintro n e s ⟨i,rfl,hi,h1,h2,h7,h8,h9,bX,rfl⟩;rcases akd i re.kids.length with az|gx
 ·obtain⟨k,hk⟩:∃k,re.kids[i]?=some k:=cc az;have hm:=List.mem_of_getElem? hk;have aA:(i:Int)<(re.kids.length:Int):=ae;have hi0:(0:Int)<=(i:Int):=ae;have ON:=CQ k (jA k hm);have hlr:=Cc k;have w1:IntKind.i64.wrap (1+iR k)=1+iR k:=bG _ ae;have Ov:=λK hk=>NB (ih k hm (jA k hm)) (tl:=[bf re,⟨0,true,8,[k.cells.map .d]⟩]) (K:=K) hk;have kT:re.oA=true->8192<1+iR k->re.every Bn=false:=λh1 h2=>by rw[akE];intro h;have h3:=((Re.aD re).1 h).1;unfold Bn at h3;rw[h1]at h3;simp only[aj0,akl,aj3,decide_eq_true_eq]at h3;have:=h3 k hm;omega
  have XH:k.every Bn=false->re.every Bn=false:=λh=>by rw[akE];intro h3;have:=((Re.aD re).1 h3).2 k hm;rw[h]at this;cases this
  simp only[i64]at ON;unfold bf at Ov;rw[Re.ah re]at Ov;generalize hyk:iR k=y at *;have oL:re.op=7\/re.op=8\/(re.op≠7/\re.op≠8):=ae;rcases oL with o|o|⟨o,o'⟩
  case inl|inr.inl =>
   have hl:re.oA=true:=by unfold Re.oA;simp only[o];rfl
   have AV:¬re.oA=true->False:=λh=>h hl;by_cases c:8192<1+y
   ·rw[kT hl c];simp only[zX,simprocAttr,bf,Re.ah re,ajR,ajV,iD,bD,bV,h1,h2,h7,h8,h9,i64,aA,hi0,az,hk,ajM,List.getElem?_map,ajS,ajP,w1,o,c];refine dY ON ?_;simp only[zX,simprocAttr,bf,Re.ah re,ajR,ajV,iD,bD,bV,h1,h2,h7,h8,h9,i64,aA,hi0,az,hk,ajM,List.getElem?_map,ajS,ajP,w1,o,c];all_goals rfl
   ·cases fm:k.every Bn with
    |false =>
     rw[XH fm];simp only[zX,simprocAttr,bf,Re.ah re,ajR,ajV,iD,bD,bV,h1,h2,h7,h8,h9,i64,aA,hi0,az,hk,ajM,List.getElem?_map,ajS,ajP,w1,o,c];refine dY ON ?_;simp only[zX,simprocAttr,bf,Re.ah re,ajR,ajV,iD,bD,bV,h1,h2,h7,h8,h9,i64,aA,hi0,az,hk,ajM,List.getElem?_map,ajS,ajP,w1,o,c,pB,aj2];simp only[o]at Ov;unfold pB at Ov;refine Ov _ ?_;simp only[zX,simprocAttr,bf,Re.ah re,ajR,ajV,iD,bD,bV,h1,h2,h7,h8,h9,i64,aA,hi0,az,hk,ajM,List.getElem?_map,ajS,ajP,w1,o,c,fm,aj2];all_goals rfl
    |true =>
     simp only[zX,simprocAttr,bf,Re.ah re,ajR,ajV,iD,bD,bV,h1,h2,h7,h8,h9,i64,aA,hi0,az,hk,ajM,List.getElem?_map,ajS,ajP,w1,o,c];refine dY ON ?_;simp only[zX,simprocAttr,bf,Re.ah re,ajR,ajV,iD,bD,bV,h1,h2,h7,h8,h9,i64,aA,hi0,az,hk,ajM,List.getElem?_map,ajS,ajP,w1,o,c,pB,aj2];simp only[o]at Ov;unfold pB at Ov;refine Ov _ ?_;simp only[zX,simprocAttr,bf,Re.ah re,ajR,ajV,iD,bD,bV,h1,h2,h7,h8,h9,i64,aA,hi0,az,hk,ajM,List.getElem?_map,ajS,ajP,w1,o,c,fm,aj0];refine⟨re.kids.length-(i+1),_,_,ae,bA.cut (s':=[pB,bf re]) 2 ae (by simp [bf,pB,Re.ah re,iD,bD,o]) (by simp [bf,pB,aK,Re.ah re,aj,aj.go]) [1,2,7,8,9] (by simp [bK,aS,aj,h1,h2,h7,h8,h9,i64]),i+1,rfl,az,?_,?_,?_,?_,?_,?_,by simp [bf,pB,Re.ah re,iD,bD,o]⟩ <;> (try simp only[zU,pZ,jN,oN,oV,reduceIte])
     ·exact h1
     ·exact h2
     ·exact h7
     ·exact h8
     ·rw[bG _ ae];rfl
     ·intro x hx;rcases cy hk hx with h|rfl
      ·exact bX x h
      ·exact⟨λjR=>by first|omega|exact absurd jR AV,fm⟩
  case inr.inr =>
   have AV:¬re.oA=true:=by unfold Re.oA;simp;omega
   cases fm:k.every Bn with
   |false =>
    rw[XH fm];simp only[zX,simprocAttr,bf,Re.ah re,ajR,ajV,iD,bD,bV,h1,h2,h7,h8,h9,i64,aA,hi0,az,hk,ajM,List.getElem?_map,ajS,ajP,w1,o,o',pB,aj2];unfold pB at Ov;refine Ov _ ?_;simp only[zX,simprocAttr,bf,Re.ah re,ajR,ajV,iD,bD,bV,h1,h2,h7,h8,h9,i64,aA,hi0,az,hk,ajM,List.getElem?_map,ajS,ajP,w1,o,o',fm,aj2];all_goals rfl
   |true =>
    simp only[zX,simprocAttr,bf,Re.ah re,ajR,ajV,iD,bD,bV,h1,h2,h7,h8,h9,i64,aA,hi0,az,hk,ajM,List.getElem?_map,ajS,ajP,w1,o,o',pB,aj2];unfold pB at Ov;refine Ov _ ?_;simp only[zX,simprocAttr,bf,Re.ah re,ajR,ajV,iD,bD,bV,h1,h2,h7,h8,h9,i64,aA,hi0,az,hk,ajM,List.getElem?_map,ajS,ajP,w1,o,o',fm,aj0];refine⟨re.kids.length-(i+1),_,_,ae,bA.cut (s':=[pB,bf re]) 2 ae (by simp [bf,pB,Re.ah re,iD,bD]) (by simp [bf,pB,aK,Re.ah re,aj,aj.go]) [1,2,7,8,9] (by simp [bK,aS,aj,h1,h2,h7,h8,h9,i64]),i+1,rfl,az,?_,?_,?_,?_,?_,?_,by simp [bf,pB,Re.ah re,iD,bD]⟩ <;> (try simp only[zU,pZ,jN,oN,oV,reduceIte])
    ·exact h1
    ·exact h2
    ·exact h7
    ·exact h8
    ·rw[bG _ ae];rfl
    ·intro x hx;rcases cy hk hx with h|rfl
     ·exact bX x h
     ·exact⟨λjR=>by first|omega|exact absurd jR AV,fm⟩
 ·have dX:i=re.kids.length:=by omega
  subst dX;rw[akg]at bX;have Qo:re.every Bn=true:=(Re.aD re).2 ⟨by
   unfold Bn;cases hl:re.oA with
   |false=>rfl
   |true =>
    simp only[aj0,akl,aj3,decide_eq_true_eq];exact λx hx=>(bX x hx).1 hl,λx hx=>(bX x hx).2⟩
  rw[Qo];simp only[zX,simprocAttr,bf,Re.ah re,ajR,ajV,iD,bD,bV,h1,h2,h7,h8,h9,i64,aku];all_goals rfl
mutual
def Re.cP:Re->List Bool->Bool->Bool
 |.mk op _ kids _ _ mode n _,A,look =>
  if op=6\/op=10\/op=9 then false
  else if op=4/\(mode=2\/Re.KO kids=true) then false
  else if op=5/\(look=true\/A.getD n.toNat false=true) then false
  else Re.KR kids (if op=5 then A.set n.toNat true else A) (look||decide (op=7\/op=8))
def Re.KR:List Re->List Bool->Bool->Bool
 |[],_,_=>true
 |k::l,A,look=>k.cP A look&&Re.KR l A look
def Re.KO:List Re->Bool
 |[]=>false
 |k::_=>k.fK
end
theorem Re.Hc:∀(l:List Re) (A:List Bool) (look:Bool),Re.KR l A look=l.all λk=>k.cP A look
 |[],_,_=>by simp [Re.KR]
 |k::l,A,look=>by simp [Re.KR,Re.Hc l A look]
theorem Re.qi (re:Re) (A:List Bool) (look:Bool):re.cP A look=if re.op=6\/re.op=10\/re.op=9 then false
  else if re.op=4/\(re.mode=2\/Re.KO re.kids=true) then false
  else if re.op=5/\(look=true\/A.getD re.n.toNat false=true) then false
  else re.kids.all λk=>k.cP (if re.op=5 then A.set re.n.toNat true else A) (look||decide (re.op=7\/re.op=8)):=by
 cases re;rw[Re.cP,Re.Hc];rfl
def kV (A:List Bool):V:=.ag (A.map bV)
def er (A:List Bool):VL.Obj:=⟨0,true,A.length,[A.map bV]⟩
theorem yc (n:Nat):∀A:List Bool,aj.go n (A.map bV)=true
 |[]=>rfl
 |b::A=>by have:=yc n A;simp only[ajR,aj.go,this,aj4];rfl
theorem Ug (re:Re) (hf:re.dx=true):re.every oO=true->∀(A:List Bool) (look:Bool),A.length=10->aM Tryz.prog 26 [sN re,kV A,bV look] (bV (re.cP A look)):=by
 revert hf;refine Re.ind (Q:=λre=>re.dx=true->re.every oO=true->∀(A:List Bool) (look:Bool),A.length=10->aM Tryz.prog 26 [sN re,kV A,bV look] (bV (re.cP A look))) (λre ih0 hf hs A look hA=>?_) re;obtain⟨_,_,Ew⟩:=Re.fP hf;have ih:∀k∈re.kids,k.every oO=true->∀(A:List Bool) (look:Bool),A.length=10->aM Tryz.prog 26 [sN k,kV A,bV look] (bV (k.cP A look)):=λk hk=>ih0 k hk (Ew k hk);clear ih0;obtain⟨dM,jA⟩:=(Re.aD re).1 hs;obtain⟨q1,q2,q3,q4,q5,q6,q7,q8,q9,jc,mX,B8,q13,q14,_⟩:=lN.1 dM;have oL:re.op=6\/re.op=10\/re.op=9\/re.op=4\/re.op=5\/re.op=7\/re.op=8\/re.op=0\/re.op=1\/re.op=2\/re.op=3\/re.op=11:=ae;rw[Re.qi];rcases oL with o|o|o|o|o|o|o|o|o|o|o|o
 case inl|inr.inl|inr.inr.inl=>rw[sP];unfold kV;refine bo Tryz.func26 Tryz.ntmps26 Tryz.results26 0 62122406972767 ?_;simp only[zI,simprocAttr,av re,iD,bD,bV,o];all_goals rfl
 case inr.inr.inr.inl =>
  rw[bd];obtain⟨x,hx⟩:∃x,re.kids=[x]:=List.length_eq_one_iff.1 (q1 ae);have Kl:re.kids[0]?=some x:=by rw[hx];rfl
  have fm:(0:Int)<(re.kids.length:Int):=by rw[hx];simp
  have hnu:=AI x (Ew x (by rw[hx];simp));have hxa:Re.KO re.kids=x.fK:=by rw[hx];simp [Re.KO]
  simp only[bV,bD]at hnu;by_cases hm:re.mode=2
  ·rw[be ⟨o,.inl hm⟩];unfold kV;refine bo Tryz.func26 Tryz.ntmps26 Tryz.results26 0 62122406972767 ?_;simp only[zI,simprocAttr,av re,iD,bD,bV,o,hm];all_goals rfl
  ·cases hxn:x.fK with
   |true =>
    rw[be ⟨o,.inr (by rw[hxa,hxn])⟩];unfold kV;refine bo Tryz.func26 Tryz.ntmps26 Tryz.results26 0 62122406972767 ?_;simp only[zI,simprocAttr,av re,iD,bD,bV,o,hm,ajM,fm,Kl];refine dY hnu ?_;simp only[zI,simprocAttr,av re,iD,bD,bV,o,hm,hxn];all_goals rfl
   |false =>
    rw[ap (λh=>h.2.elim hm (by rw[hxa,hxn];simp)),bd,bd,show (look||decide (re.op=7\/re.op=8))=look by rw[ce ae,akw]];obtain⟨A2,vH⟩:∃A2,A2=A:=⟨_,rfl⟩
    obtain⟨Ao,wR⟩:∃l,l=look:=⟨_,rfl⟩
    have oq:A2.length=10:=by rw[vH];exact hA
    have wI:∀k∈re.kids,k.cP A2 Ao=false->(re.kids.all λk=>k.cP A look)=false:=λk hk h=>by subst vH wR;rw[alg];exact⟨k,hk,by simp [h]⟩
    have CN:(∀k∈re.kids,k.cP A2 Ao=true)->(re.kids.all λk=>k.cP A look)=true:=λh=>by subst vH wR;rw[aj3];exact h
    unfold kV;refine bo Tryz.func26 Tryz.ntmps26 Tryz.results26 0 62122406972767 ?_;simp only[zI,simprocAttr,av re,iD,bD,bV,o,hm,ajM,fm,Kl];refine dY hnu ?_;simp only[zI,simprocAttr,av re,iD,bD,bV,o,hm,hxn];refine aw (λn e s=>∃i:Nat,n=re.kids.length-i/\i<=re.kids.length/\e 2=bV Ao/\e 3=.rf 0 0 0 0/\e 4=.rf 1 0 0 0/\e 43=.d (.sl (re.kids.map Re.cells))/\e 44=i64 re.kids.length/\e 45=i64 i/\(∀x∈re.kids.take i,x.cP A2 Ao=true)/\s=[bf re,er A2])
     ⟨_,_,_,bA.refl,0,rfl,ae,by first|rfl|(subst wR;rfl),rfl,rfl,rfl,rfl,rfl,ak,by first|(simp [bf,er,iD,bD,Re.ah re,o,oq];done)|(subst vH;simp [bf,er,bV,bD,iD,Re.ah re,o];done)|(rw[<- vH];simp [bf,er,bV,bD,iD,Re.ah re,o];done)|(simp [bf,er,bV,bD,iD,Re.ah re,o,vH];done)|(simp [bf,er,bV,bD,iD,Re.ah re,vH];done)⟩ ?_
    rintro n e s ⟨i,rfl,hi,h2,h3,h4,y5,z9,Cm,bX,rfl⟩;rcases akd i re.kids.length with az|gx
    ·obtain⟨k,hk⟩:∃k,re.kids[i]?=some k:=cc az;have hm:=List.mem_of_getElem? hk;have aA:(i:Int)<(re.kids.length:Int):=ae;have hi0:(0:Int)<=(i:Int):=ae;have fJ:=ih k hm (jA k hm) A2 Ao oq;have Nw:List.take 10 (A2.map bV)=A2.map bV:=akb (by rw[ajM];omega);unfold kV at fJ;simp only[bV,bD]at fJ;simp only[zX,simprocAttr,bf,er,Re.ah re,ajR,ajV,iD,bD,bV,h2,h3,h4,y5,z9,Cm,i64,aA,hi0,az,hk,oq,Nw,ajM,List.getElem?_map,ajS,ajP];refine dD fJ (by rw[av];simp [aj,aj.go,i64,yc]) rfl ?_;cases fm:k.cP A2 Ao with
     |false =>
      rw[wI k hm fm];simp only[zX,simprocAttr,bf,er,Re.ah re,ajR,ajV,iD,bD,bV,h2,h3,h4,y5,z9,Cm,i64,aj2];all_goals rfl
     |true =>
      simp only[zX,simprocAttr,bf,er,Re.ah re,ajR,ajV,iD,bD,bV,h2,h3,h4,y5,z9,Cm,i64,aj0];refine⟨re.kids.length-(i+1),_,_,ae,bA.cut (s':=[bf re,er A2]) 2 ae (by simp [bf,er,oq,Re.ah re,iD,bD]) (by simp [bf,er,bV,aK,Re.ah re,aj]) [2,3,4,43,44,45] (by simp [bK,aS,aj,h2,h3,h4,y5,z9,Cm,i64,bV]),i+1,rfl,az,?_,?_,?_,?_,?_,?_,?_,by simp [bf,er,oq,Re.ah re,iD,bD]⟩ <;> (try simp only[zU,pZ,jN,oN,oV,reduceIte])
      ·exact h2
      ·exact h3
      ·exact h4
      ·exact y5
      ·exact z9
      ·rw[bG _ ae];rfl
      ·intro x hx;rcases cy hk hx with h|rfl
       ·exact bX x h
       ·exact fm
    ·have dX:i=re.kids.length:=by omega
     subst dX;rw[akg]at bX;rw[CN bX];simp only[zX,simprocAttr,bf,er,Re.ah re,ajR,ajV,iD,bD,bV,h2,h3,h4,y5,z9,Cm,i64,aku];all_goals rfl
 case inr.inr.inr.inr.inl =>
  have hn5:=mX o;rw[bd,bd];cases look with
  |true =>
   rw[be ⟨o,.inl rfl⟩];unfold kV;refine bo Tryz.func26 Tryz.ntmps26 Tryz.results26 0 62122406972767 ?_;simp only[zI,simprocAttr,av re,iD,bD,bV,o];all_goals rfl
  |false =>
   have Za:re.n.toNat<10:=ae;have n0:(0:Int)<=re.n:=ae;have n1:re.n<((10:Nat):Int):=ae;have n2:re.n<10:=ae;generalize hm:re.n.toNat=m at Za;obtain⟨y,hy⟩:∃y,A[m]?=some y:=cc;have hyd:A.getD m false=y:=by rw[List.getD_eq_getElem?_getD,hy];rfl
   obtain⟨tl,Kb⟩:∃tl,(A.map bV).drop m=.d (.sc (.bool y))::tl:=⟨_,by rw[alc (by simpa [hA]using Za)];congr 1;rw[List.getElem_map];congr 1;exact(List.getElem?_eq_some_iff.1 hy).2⟩
   cases y with
   |true =>
    rw[be ⟨o,.inr hyd⟩];unfold kV;refine bo Tryz.func26 Tryz.ntmps26 Tryz.results26 0 62122406972767 ?_;simp only[zI,simprocAttr,av re,iD,bD,bV,o,hm,n0,n1,n2,hA,Kb,ajT,Nat.mul_one,ajP,ajM];all_goals rfl
   |false =>
    have eO:List.take m (A.map bV)++[.d (.sc (.bool true))]++List.drop (m+1) (A.map bV)=(A.set m true).map bV:=by rw[akT,List.set_eq_take_append_cons_drop,be (by simpa [hA]using Za)];simp [bV,bD]
    rw[ap (λh=>h.2.elim ak (by rw[hyd];simp)),be o,show (false||decide (re.op=7\/re.op=8))=false by rw[ce ae];rfl];obtain⟨A2,vH⟩:∃A2,A2=A.set m true:=⟨_,rfl⟩
    obtain⟨Ao,wR⟩:∃l,l=false:=⟨_,rfl⟩
    have oq:A2.length=10:=by rw[vH];simp [hA]
    have wI:∀k∈re.kids,k.cP A2 Ao=false->(re.kids.all λk=>k.cP (A.set m true) false)=false:=λk hk h=>by subst vH;subst wR;rw[alg];exact⟨k,hk,by simp [h]⟩
    have CN:(∀k∈re.kids,k.cP A2 Ao=true)->(re.kids.all λk=>k.cP (A.set m true) false)=true:=λh=>by subst vH;subst wR;rw[aj3];exact h
    rw[<- vH]at eO;unfold kV;refine bo Tryz.func26 Tryz.ntmps26 Tryz.results26 0 62122406972767 ?_;simp only[zI,simprocAttr,av re,iD,bD,bV,o,hm,n0,n1,n2,hA,Kb,ajT,Nat.mul_one,ajP,ajM,eO];refine⟨ae,?_⟩;refine aw (λn e s=>∃i:Nat,n=re.kids.length-i/\i<=re.kids.length/\e 2=bV Ao/\e 3=.rf 0 0 0 0/\e 4=.rf 1 0 0 0/\e 43=.d (.sl (re.kids.map Re.cells))/\e 44=i64 re.kids.length/\e 45=i64 i/\(∀x∈re.kids.take i,x.cP A2 Ao=true)/\s=[bf re,er A2])
     ⟨_,_,_,bA.refl,0,rfl,ae,by first|rfl|(subst wR;rfl),rfl,rfl,rfl,rfl,rfl,ak,by first|(simp [bf,er,iD,bD,Re.ah re,o,oq];done)|(subst vH;simp [bf,er,bV,bD,iD,Re.ah re,o];done)|(rw[<- vH];simp [bf,er,bV,bD,iD,Re.ah re,o];done)|(simp [bf,er,bV,bD,iD,Re.ah re,o,vH];done)|(simp [bf,er,bV,bD,iD,Re.ah re,vH];done)⟩ ?_
    rintro n e s ⟨i,rfl,hi,h2,h3,h4,y5,z9,Cm,bX,rfl⟩;rcases akd i re.kids.length with az|gx
    ·obtain⟨k,hk⟩:∃k,re.kids[i]?=some k:=cc az;have hm:=List.mem_of_getElem? hk;have aA:(i:Int)<(re.kids.length:Int):=ae;have hi0:(0:Int)<=(i:Int):=ae;have fJ:=ih k hm (jA k hm) A2 Ao oq;have Nw:List.take 10 (A2.map bV)=A2.map bV:=akb (by rw[ajM];omega);unfold kV at fJ;simp only[bV,bD]at fJ;simp only[zX,simprocAttr,bf,er,Re.ah re,ajR,ajV,iD,bD,bV,h2,h3,h4,y5,z9,Cm,i64,aA,hi0,az,hk,oq,Nw,ajM,List.getElem?_map,ajS,ajP];refine dD fJ (by rw[av];simp [aj,aj.go,i64,yc]) rfl ?_;cases fm:k.cP A2 Ao with
     |false =>
      rw[wI k hm fm];simp only[zX,simprocAttr,bf,er,Re.ah re,ajR,ajV,iD,bD,bV,h2,h3,h4,y5,z9,Cm,i64,aj2];all_goals rfl
     |true =>
      simp only[zX,simprocAttr,bf,er,Re.ah re,ajR,ajV,iD,bD,bV,h2,h3,h4,y5,z9,Cm,i64,aj0];refine⟨re.kids.length-(i+1),_,_,ae,bA.cut (s':=[bf re,er A2]) 2 ae (by simp [bf,er,oq,Re.ah re,iD,bD]) (by simp [bf,er,bV,aK,Re.ah re,aj]) [2,3,4,43,44,45] (by simp [bK,aS,aj,h2,h3,h4,y5,z9,Cm,i64,bV]),i+1,rfl,az,?_,?_,?_,?_,?_,?_,?_,by simp [bf,er,oq,Re.ah re,iD,bD]⟩ <;> (try simp only[zU,pZ,jN,oN,oV,reduceIte])
      ·exact h2
      ·exact h3
      ·exact h4
      ·exact y5
      ·exact z9
      ·rw[bG _ ae];rfl
      ·intro x hx;rcases cy hk hx with h|rfl
       ·exact bX x h
       ·exact fm
    ·have dX:i=re.kids.length:=by omega
     subst dX;rw[akg]at bX;rw[CN bX];simp only[zX,simprocAttr,bf,er,Re.ah re,ajR,ajV,iD,bD,bV,h2,h3,h4,y5,z9,Cm,i64,aku];all_goals rfl
 case inr.inr.inr.inr.inr.inl|inr.inr.inr.inr.inr.inr.inl =>
  rw[bd,bd,bd,bd,show (look||decide (re.op=7\/re.op=8))=true by rw[bi ae,Bool.or_true]];obtain⟨A2,vH⟩:∃A2,A2=A:=⟨_,rfl⟩
  obtain⟨Ao,wR⟩:∃l,l=true:=⟨_,rfl⟩
  have oq:A2.length=10:=by rw[vH];simp [hA]
  have wI:∀k∈re.kids,k.cP A2 Ao=false->(re.kids.all λk=>k.cP A true)=false:=λk hk h=>by subst vH;subst wR;rw[alg];exact⟨k,hk,by simp [h]⟩
  have CN:(∀k∈re.kids,k.cP A2 Ao=true)->(re.kids.all λk=>k.cP A true)=true:=λh=>by subst vH;subst wR;rw[aj3];exact h
  unfold kV;refine bo Tryz.func26 Tryz.ntmps26 Tryz.results26 0 62122406972767 ?_;simp only[zI,simprocAttr,av re,iD,bD,bV,o];refine aw (λn e s=>∃i:Nat,n=re.kids.length-i/\i<=re.kids.length/\e 2=bV Ao/\e 3=.rf 0 0 0 0/\e 4=.rf 1 0 0 0/\e 43=.d (.sl (re.kids.map Re.cells))/\e 44=i64 re.kids.length/\e 45=i64 i/\(∀x∈re.kids.take i,x.cP A2 Ao=true)/\s=[bf re,er A2])
   ⟨_,_,_,bA.refl,0,rfl,ae,by first|rfl|(subst wR;rfl),rfl,rfl,rfl,rfl,rfl,ak,by first|(simp [bf,er,iD,bD,Re.ah re,o,oq];done)|(subst vH;simp [bf,er,bV,bD,iD,Re.ah re,o];done)|(rw[<- vH];simp [bf,er,bV,bD,iD,Re.ah re,o];done)|(simp [bf,er,bV,bD,iD,Re.ah re,o,vH];done)|(simp [bf,er,bV,bD,iD,Re.ah re,vH];done)⟩ ?_
  rintro n e s ⟨i,rfl,hi,h2,h3,h4,y5,z9,Cm,bX,rfl⟩;rcases akd i re.kids.length with az|gx
  ·obtain⟨k,hk⟩:∃k,re.kids[i]?=some k:=cc az;have hm:=List.mem_of_getElem? hk;have aA:(i:Int)<(re.kids.length:Int):=ae;have hi0:(0:Int)<=(i:Int):=ae;have fJ:=ih k hm (jA k hm) A2 Ao oq;have Nw:List.take 10 (A2.map bV)=A2.map bV:=akb (by rw[ajM];omega);unfold kV at fJ;simp only[bV,bD]at fJ;simp only[zX,simprocAttr,bf,er,Re.ah re,ajR,ajV,iD,bD,bV,h2,h3,h4,y5,z9,Cm,i64,aA,hi0,az,hk,oq,Nw,ajM,List.getElem?_map,ajS,ajP];refine dD fJ (by rw[av];simp [aj,aj.go,i64,yc]) rfl ?_;cases fm:k.cP A2 Ao with
   |false =>
    rw[wI k hm fm];simp only[zX,simprocAttr,bf,er,Re.ah re,ajR,ajV,iD,bD,bV,h2,h3,h4,y5,z9,Cm,i64,aj2];all_goals rfl
   |true =>
    simp only[zX,simprocAttr,bf,er,Re.ah re,ajR,ajV,iD,bD,bV,h2,h3,h4,y5,z9,Cm,i64,aj0];refine⟨re.kids.length-(i+1),_,_,ae,bA.cut (s':=[bf re,er A2]) 2 ae (by simp [bf,er,oq,Re.ah re,iD,bD]) (by simp [bf,er,bV,aK,Re.ah re,aj]) [2,3,4,43,44,45] (by simp [bK,aS,aj,h2,h3,h4,y5,z9,Cm,i64,bV]),i+1,rfl,az,?_,?_,?_,?_,?_,?_,?_,by simp [bf,er,oq,Re.ah re,iD,bD]⟩ <;> (try simp only[zU,pZ,jN,oN,oV,reduceIte])
    ·exact h2
    ·exact h3
    ·exact h4
    ·exact y5
    ·exact z9
    ·rw[bG _ ae];rfl
    ·intro x hx;rcases cy hk hx with h|rfl
     ·exact bX x h
     ·exact fm
  ·have dX:i=re.kids.length:=by omega
   subst dX;rw[akg]at bX;rw[CN bX];simp only[zX,simprocAttr,bf,er,Re.ah re,ajR,ajV,iD,bD,bV,h2,h3,h4,y5,z9,Cm,i64,aku];all_goals rfl
 all_goals
  rw[bd,bd,bd,bd,show (look||decide (re.op=7\/re.op=8))=look by rw[ce ae,akw]];obtain⟨A2,vH⟩:∃A2,A2=A:=⟨_,rfl⟩
  obtain⟨Ao,wR⟩:∃l,l=look:=⟨_,rfl⟩
  have oq:A2.length=10:=by rw[vH];simp [hA]
  have wI:∀k∈re.kids,k.cP A2 Ao=false->(re.kids.all λk=>k.cP A look)=false:=λk hk h=>by subst vH;subst wR;rw[alg];exact⟨k,hk,by simp [h]⟩
  have CN:(∀k∈re.kids,k.cP A2 Ao=true)->(re.kids.all λk=>k.cP A look)=true:=λh=>by subst vH;subst wR;rw[aj3];exact h
  unfold kV;refine bo Tryz.func26 Tryz.ntmps26 Tryz.results26 0 62122406972767 ?_;simp only[zI,simprocAttr,av re,iD,bD,bV,o];refine aw (λn e s=>∃i:Nat,n=re.kids.length-i/\i<=re.kids.length/\e 2=bV Ao/\e 3=.rf 0 0 0 0/\e 4=.rf 1 0 0 0/\e 43=.d (.sl (re.kids.map Re.cells))/\e 44=i64 re.kids.length/\e 45=i64 i/\(∀x∈re.kids.take i,x.cP A2 Ao=true)/\s=[bf re,er A2])
   ⟨_,_,_,bA.refl,0,rfl,ae,by first|rfl|(subst wR;rfl),rfl,rfl,rfl,rfl,rfl,ak,by first|(simp [bf,er,iD,bD,Re.ah re,o,oq];done)|(subst vH;simp [bf,er,bV,bD,iD,Re.ah re,o];done)|(rw[<- vH];simp [bf,er,bV,bD,iD,Re.ah re,o];done)|(simp [bf,er,bV,bD,iD,Re.ah re,o,vH];done)|(simp [bf,er,bV,bD,iD,Re.ah re,vH];done)⟩ ?_
  rintro n e s ⟨i,rfl,hi,h2,h3,h4,y5,z9,Cm,bX,rfl⟩;rcases akd i re.kids.length with az|gx
  ·obtain⟨k,hk⟩:∃k,re.kids[i]?=some k:=cc az;have hm:=List.mem_of_getElem? hk;have aA:(i:Int)<(re.kids.length:Int):=ae;have hi0:(0:Int)<=(i:Int):=ae;have fJ:=ih k hm (jA k hm) A2 Ao oq;have Nw:List.take 10 (A2.map bV)=A2.map bV:=akb (by rw[ajM];omega);unfold kV at fJ;simp only[bV,bD]at fJ;simp only[zX,simprocAttr,bf,er,Re.ah re,ajR,ajV,iD,bD,bV,h2,h3,h4,y5,z9,Cm,i64,aA,hi0,az,hk,oq,Nw,ajM,List.getElem?_map,ajS,ajP];refine dD fJ (by rw[av];simp [aj,aj.go,i64,yc]) rfl ?_;cases fm:k.cP A2 Ao with
   |false =>
    rw[wI k hm fm];simp only[zX,simprocAttr,bf,er,Re.ah re,ajR,ajV,iD,bD,bV,h2,h3,h4,y5,z9,Cm,i64,aj2];all_goals rfl
   |true =>
    simp only[zX,simprocAttr,bf,er,Re.ah re,ajR,ajV,iD,bD,bV,h2,h3,h4,y5,z9,Cm,i64,aj0];refine⟨re.kids.length-(i+1),_,_,ae,bA.cut (s':=[bf re,er A2]) 2 ae (by simp [bf,er,oq,Re.ah re,iD,bD]) (by simp [bf,er,bV,aK,Re.ah re,aj]) [2,3,4,43,44,45] (by simp [bK,aS,aj,h2,h3,h4,y5,z9,Cm,i64,bV]),i+1,rfl,az,?_,?_,?_,?_,?_,?_,?_,by simp [bf,er,oq,Re.ah re,iD,bD]⟩ <;> (try simp only[zU,pZ,jN,oN,oV,reduceIte])
    ·exact h2
    ·exact h3
    ·exact h4
    ·exact y5
    ·exact z9
    ·rw[bG _ ae];rfl
    ·intro x hx;rcases cy hk hx with h|rfl
     ·exact bX x h
     ·exact fm
  ·have dX:i=re.kids.length:=by omega
   subst dX;rw[akg]at bX;rw[CN bX];simp only[zX,simprocAttr,bf,er,Re.ah re,ajR,ajV,iD,bD,bV,h2,h3,h4,y5,z9,Cm,i64,aku];all_goals rfl
end Go.Proofs.YtjjfioalgbecmaaGreat
