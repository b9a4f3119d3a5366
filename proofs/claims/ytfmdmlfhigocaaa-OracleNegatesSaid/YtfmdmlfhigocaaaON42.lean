/- A part of the proof (O48 O52 O49 O50). -/
import Derived.Test.YtfmdmlfhigocaaaON24
import Derived.Test.YtfmdmlfhigocaaaON25
import Derived.Test.YtfmdmlfhigocaaaON29
import Derived.Test.YtfmdmlfhigocaaaON33
import Derived.Test.YtfmdmlfhigocaaaON41
set_option linter.unusedSimpArgs false
set_option linter.unusedVariables false
open Nat renaming reduceShiftRight → cQ, reduceMod → dx, reduceLT → dB, reduceMul → dC, reduceSub → dD, reduceEqDiff → eI, reduceAdd → eJ, reduceLeDiff → fX, reduceBEq → gj
open Int renaming reduceToNat → gl, reduceNeg → ja, reduceLT → jg, reduceLE → jk, reduceEq → mA
set_option maxRecDepth 100000
set_option maxHeartbeats 80000000
namespace Go.Proofs.Ytfmdmlfhigocaaa
open Go.VL
mutual
def Re.jA:Re->List Re
 |.mk op set kids mn mx mode n neg=>(if op=7\/op=8 then [Re.mk op set kids mn mx mode n neg] else [])++Re.ck kids
def Re.ck:List Re->List Re
 |[]=>[]
 |k::l=>k.jA++Re.ck l
end
theorem Re.CL (re:Re):re.jA=(if re.op=7\/re.op=8 then [re] else [])++Re.ck re.kids:=by
 cases re;rw[Re.jA];rfl
theorem pf:∀(l:List Re) (k:Re),Re.ck (l++[k])=Re.ck l++k.jA
 |[],k=>by simp [Re.ck]
 |x::l,k=>by rw[afQ,Re.ck,pf l k,Re.ck,agu]
theorem uA (re:Re):re.jA.length=re.looks:=by
 refine Re.ind (Q:=λre=>re.jA.length=re.looks) (λre ih=>?_) re;have hL:∀l:List Re,(∀x∈l,x∈re.kids)->(Re.ck l).length=Re.aD l:=by
  intro l;induction l with
  |nil=>intro _;rfl
  |cons x l yM =>
   intro hm;rw[Re.ck,Re.aD,af7,ih x (hm x (by simp)),yM λy hy=>hm y (by simp [hy])]
 rw[Re.CL,Re.eA,af7,hL re.kids λ_ h=>h];split <;> rfl
theorem vL (l:List Re):(Re.ck l).length=Re.aD l:=by
 induction l with
 |nil=>rfl
 |cons x l ih=>rw[Re.ck,Re.aD,af7,uA,ih]
theorem oF (l:List Re) (i:Nat):Re.aD (l.take i)<=Re.aD l:=by have:=jO (l.take i) (l.drop i);rw[ahk]at this;omega
def Dl (g:Nat) (l:List Re):VL.Obj:=⟨g,true,8,(l.map Re.cells).map λc=>c.map V.d⟩
theorem KZ (l:List Re):∀c∈(l.map Re.cells).map (λc=>c.map V.d),c.length=8:=by intro c hc;obtain⟨d,hd,rfl⟩:=List.mem_map.1 hc;obtain⟨x,_,rfl⟩:=List.mem_map.1 hd;rw[Re.ae x];rfl
theorem Fl (re:Re) (hs:re.size<=1000000):aO Try.prog 40 [fv re] (.d (.sl (re.jA.map Re.cells))):=by
 revert hs;refine Re.ind (Q:=λre=>re.size<=1000000->aO Try.prog 40 [fv re] (.d (.sl (re.jA.map Re.cells)))) (λre ih hs=>?_) re;have C7:=l6 re;have GM:=uA re;have wF:=Re.lO re.kids;have hse:=Re.size_eq re;have Sw:=Re.eA re;rw[Re.CL];obtain⟨pre,JA⟩:∃pre:List Re,pre=if re.op=7\/re.op=8 then [re] else []:=⟨_,rfl⟩
 rw[<- JA];have yr:pre.length+Re.aD re.kids<=1000000:=by
  rw[JA];by_cases hc:re.op=7\/re.op=8
  ·rw[be hc]at Sw ⊢;simp;omega
  ·rw[ap hc]at Sw ⊢;simp;omega
 have mZ:re.op=7\/re.op=8\/¬(re.op=7\/re.op=8):=by omega
 have BT:re.op=7\/re.op=8->pre=[re]:=λh=>by rw[JA,be h]
 have YR:¬(re.op=7\/re.op=8)->pre=[]:=λh=>by rw[JA,ap h]
 clear JA;rcases mZ with o7|o8|ho
 ·have hp:=BT (.inl o7);have Pn:=eq_true o7;refine an Try.func40 rfl Try.ntmps40 Try.results40 rfl 0 31 (by simp) (by simp) ?_;simp only[zX,cQ,dx,dB,dC,dD,gl,ja,jg,jk,mA,eI,eJ,fX,reduceIte,reduceCtorEq,gj,i64,ai re,iD,bD,Pn,decide_true];refine⟨λe he=>by rw[List.mem_singleton.1 he];rfl,?_⟩;refine And.intro (λe he=>absurd he ag8) ?_;refine au (λn e s=>∃i g:Nat,n=re.kids.length-i/\i<=re.kids.length/\e 1=.rf 0 0 0 0/\e 3=.so 1 g 0 (pre++Re.ck (re.kids.take i)).length/\e 4=i64 i/\s=[av re,Dl g (pre++Re.ck (re.kids.take i))]) ⟨_,_,_,br.refl,0,0,rfl,by omega,rfl,by rw[hp];rfl,rfl,by rw[hp];simp [av,Dl,Re.ck,Re.ae re,iD,bD]⟩ ?_;clear BT YR;rintro n e s ⟨i,g,rfl,hi,h1,h3,h4,rfl⟩;rcases agi i re.kids.length with az|fI
  ·obtain⟨k,hk⟩:∃k,re.kids[i]?=some k:=⟨_,afP az⟩
   have hm:=afW hk;have wC:=Re.bL hm;have aC:(i:Int)<(re.kids.length:Int):=by omega
   have di:=ih k hm (by omega);have AJ:pre++Re.ck (re.kids.take (i+1))=(pre++Re.ck (re.kids.take i))++k.jA:=by rw[aR hk,pf,agu]
   have Uf:(pre++Re.ck (re.kids.take i)).length+k.jA.length<=1000000:=by have h1:=oF re.kids (i+1);have h2:=congrArg List.length AJ;simp only[af7,vL]at h1 h2 ⊢;omega
   generalize hO:pre++Re.ck (re.kids.take i)=O at *;generalize k.jA=kl at *;simp only[zX,cQ,dx,dB,dC,dD,gl,ja,jg,jk,mA,eI,eJ,fX,reduceIte,reduceCtorEq,gj,i64,av,Dl,Re.ae re,afR,afU,iD,bD,h1,h3,h4,aC,hk];refine aj di (by simp [ah,ah.go,ai]) (by simp [ah,ah.go,ai,i64,bV,aM]) ?_;simp only[zX,cQ,dx,dB,dC,dD,gl,ja,jg,jk,mA,eI,eJ,fX,reduceIte,reduceCtorEq,gj,i64,av,Dl,Re.ae re,afR,afU,iD,bD,h1,h3,h4,afN];refine⟨KZ _,⟨by simp,by omega⟩,re.kids.length-(i+1),_,_,by omega,br.refl,i+1,g+1,rfl,by omega,?_,?_,?_,?_⟩ <;> (try simp only[zU,gj,cQ,dx,eI,reduceIte])
   ·exact h1
   ·rw[AJ];simp
   ·rw[bd _ (by omega)];rfl
   ·rw[AJ,af1 (by simp)];simp [av,Dl,Re.ae re,iD,bD]
  ·have cV:i=re.kids.length:=by omega
   subst cV;have aC:¬(re.kids.length:Int)<re.kids.length:=by omega
   rw[agj]at h3 ⊢;simp only[zX,cQ,dx,dB,dC,dD,gl,ja,jg,jk,mA,eI,eJ,fX,reduceIte,reduceCtorEq,gj,i64,av,Re.ae re,afR,afU,iD,bD,h1,h3,h4,aC];rw[be ⟨rfl,by simp [Dl]⟩,show (Dl g (pre++Re.ck re.kids)).aw=((pre++Re.ck re.kids).map Re.cells).map (λc=>c.map V.d) from rfl,eH 7 0 _ _ _ (by simp)];rfl
 ·have hp:=BT (.inr o8);have U1:=eq_true o8;have Pn:=eq_false (show ¬re.op=7 by omega);refine an Try.func40 rfl Try.ntmps40 Try.results40 rfl 0 31 (by simp) (by simp) ?_;simp only[zX,cQ,dx,dB,dC,dD,gl,ja,jg,jk,mA,eI,eJ,fX,reduceIte,reduceCtorEq,gj,i64,ai re,iD,bD,Pn,U1,decide_true,decide_false];refine⟨λe he=>by rw[List.mem_singleton.1 he];rfl,?_⟩;refine And.intro (λe he=>absurd he ag8) ?_;refine au (λn e s=>∃i g:Nat,n=re.kids.length-i/\i<=re.kids.length/\e 1=.rf 0 0 0 0/\e 3=.so 1 g 0 (pre++Re.ck (re.kids.take i)).length/\e 4=i64 i/\s=[av re,Dl g (pre++Re.ck (re.kids.take i))]) ⟨_,_,_,br.refl,0,0,rfl,by omega,rfl,by rw[hp];rfl,rfl,by rw[hp];simp [av,Dl,Re.ck,Re.ae re,iD,bD]⟩ ?_;clear BT YR;rintro n e s ⟨i,g,rfl,hi,h1,h3,h4,rfl⟩;rcases agi i re.kids.length with az|fI
  ·obtain⟨k,hk⟩:∃k,re.kids[i]?=some k:=⟨_,afP az⟩
   have hm:=afW hk;have wC:=Re.bL hm;have aC:(i:Int)<(re.kids.length:Int):=by omega
   have di:=ih k hm (by omega);have AJ:pre++Re.ck (re.kids.take (i+1))=(pre++Re.ck (re.kids.take i))++k.jA:=by rw[aR hk,pf,agu]
   have Uf:(pre++Re.ck (re.kids.take i)).length+k.jA.length<=1000000:=by have h1:=oF re.kids (i+1);have h2:=congrArg List.length AJ;simp only[af7,vL]at h1 h2 ⊢;omega
   generalize hO:pre++Re.ck (re.kids.take i)=O at *;generalize k.jA=kl at *;simp only[zX,cQ,dx,dB,dC,dD,gl,ja,jg,jk,mA,eI,eJ,fX,reduceIte,reduceCtorEq,gj,i64,av,Dl,Re.ae re,afR,afU,iD,bD,h1,h3,h4,aC,hk];refine aj di (by simp [ah,ah.go,ai]) (by simp [ah,ah.go,ai,i64,bV,aM]) ?_;simp only[zX,cQ,dx,dB,dC,dD,gl,ja,jg,jk,mA,eI,eJ,fX,reduceIte,reduceCtorEq,gj,i64,av,Dl,Re.ae re,afR,afU,iD,bD,h1,h3,h4,afN];refine⟨KZ _,⟨by simp,by omega⟩,re.kids.length-(i+1),_,_,by omega,br.refl,i+1,g+1,rfl,by omega,?_,?_,?_,?_⟩ <;> (try simp only[zU,gj,cQ,dx,eI,reduceIte])
   ·exact h1
   ·rw[AJ];simp
   ·rw[bd _ (by omega)];rfl
   ·rw[AJ,af1 (by simp)];simp [av,Dl,Re.ae re,iD,bD]
  ·have cV:i=re.kids.length:=by omega
   subst cV;have aC:¬(re.kids.length:Int)<re.kids.length:=by omega
   rw[agj]at h3 ⊢;simp only[zX,cQ,dx,dB,dC,dD,gl,ja,jg,jk,mA,eI,eJ,fX,reduceIte,reduceCtorEq,gj,i64,av,Re.ae re,afR,afU,iD,bD,h1,h3,h4,aC];rw[be ⟨rfl,by simp [Dl]⟩,show (Dl g (pre++Re.ck re.kids)).aw=((pre++Re.ck re.kids).map Re.cells).map (λc=>c.map V.d) from rfl,eH 7 0 _ _ _ (by simp)];rfl
 ·have hp:=YR ho;have Pn:=eq_false (show ¬re.op=7 by omega);have U1:=eq_false (show ¬re.op=8 by omega);refine an Try.func40 rfl Try.ntmps40 Try.results40 rfl 0 31 (by simp) (by simp) ?_;simp only[zX,cQ,dx,dB,dC,dD,gl,ja,jg,jk,mA,eI,eJ,fX,reduceIte,reduceCtorEq,gj,i64,ai re,iD,bD,Pn,U1,decide_false];refine au (λn e s=>∃i g:Nat,n=re.kids.length-i/\i<=re.kids.length/\e 1=.rf 0 0 0 0/\e 3=.so 1 g 0 (pre++Re.ck (re.kids.take i)).length/\e 4=i64 i/\s=[av re,Dl g (pre++Re.ck (re.kids.take i))]) ⟨_,_,_,.DD (eE 3 8 rfl),0,0,rfl,by omega,rfl,by rw[hp];rfl,rfl,by rw[hp];simp [av,Dl,Re.ck,Re.ae re,iD,bD]⟩ ?_;clear BT YR;rintro n e s ⟨i,g,rfl,hi,h1,h3,h4,rfl⟩;rcases agi i re.kids.length with az|fI
  ·obtain⟨k,hk⟩:∃k,re.kids[i]?=some k:=⟨_,afP az⟩
   have hm:=afW hk;have wC:=Re.bL hm;have aC:(i:Int)<(re.kids.length:Int):=by omega
   have di:=ih k hm (by omega);have AJ:pre++Re.ck (re.kids.take (i+1))=(pre++Re.ck (re.kids.take i))++k.jA:=by rw[aR hk,pf,agu]
   have Uf:(pre++Re.ck (re.kids.take i)).length+k.jA.length<=1000000:=by have h1:=oF re.kids (i+1);have h2:=congrArg List.length AJ;simp only[af7,vL]at h1 h2 ⊢;omega
   generalize hO:pre++Re.ck (re.kids.take i)=O at *;generalize k.jA=kl at *;simp only[zX,cQ,dx,dB,dC,dD,gl,ja,jg,jk,mA,eI,eJ,fX,reduceIte,reduceCtorEq,gj,i64,av,Dl,Re.ae re,afR,afU,iD,bD,h1,h3,h4,aC,hk];refine aj di (by simp [ah,ah.go,ai]) (by simp [ah,ah.go,ai,i64,bV,aM]) ?_;simp only[zX,cQ,dx,dB,dC,dD,gl,ja,jg,jk,mA,eI,eJ,fX,reduceIte,reduceCtorEq,gj,i64,av,Dl,Re.ae re,afR,afU,iD,bD,h1,h3,h4,afN];refine⟨KZ _,⟨by simp,by omega⟩,re.kids.length-(i+1),_,_,by omega,br.refl,i+1,g+1,rfl,by omega,?_,?_,?_,?_⟩ <;> (try simp only[zU,gj,cQ,dx,eI,reduceIte])
   ·exact h1
   ·rw[AJ];simp
   ·rw[bd _ (by omega)];rfl
   ·rw[AJ,af1 (by simp)];simp [av,Dl,Re.ae re,iD,bD]
  ·have cV:i=re.kids.length:=by omega
   subst cV;have aC:¬(re.kids.length:Int)<re.kids.length:=by omega
   rw[agj]at h3 ⊢;simp only[zX,cQ,dx,dB,dC,dD,gl,ja,jg,jk,mA,eI,eJ,fX,reduceIte,reduceCtorEq,gj,i64,av,Re.ae re,afR,afU,iD,bD,h1,h3,h4,aC];rw[be ⟨rfl,by simp [Dl]⟩,show (Dl g (pre++Re.ck re.kids)).aw=((pre++Re.ck re.kids).map Re.cells).map (λc=>c.map V.d) from rfl,eH 7 0 _ _ _ (by simp)];rfl
mutual
def Re.wg:Re->Nat->List Int->List (Nat×List Int)
 |.mk op _ kids _ _ _ _ _,k,p=>if op=7\/op=8 then [(k,p)] else Re.fV kids k p 0
def Re.fV:List Re->Nat->List Int->Nat->List (Nat×List Int)
 |[],_,_,_=>[]
 |x::l,k,p,i=>x.wg k (p++[(i:Int)])++Re.fV l (k+x.looks) p (i+1)
end
theorem Re.Gw (re:Re) (k:Nat) (p:List Int):re.wg k p=if re.op=7\/re.op=8 then [(k,p)] else Re.fV re.kids k p 0:=by
 cases re;rw[Re.wg];rfl
theorem CK:∀(l:List Re) (x:Re) (k:Nat) (p:List Int) (i:Nat),Re.fV (l++[x]) k p i=Re.fV l k p i++x.wg (k+Re.aD l) (p++[((i+l.length:Nat):Int)])
 |[],x,k,p,i=>by simp [Re.fV,Re.aD]
 |y::l,x,k,p,i=>by
  rw[afQ,Re.fV,CK l x,Re.fV,Re.aD,agu,afZ];congr 3
  ·omega
  ·congr 3;omega
theorem Bn (re:Re):∀k p,(re.wg k p).length<=re.looks:=by
 refine Re.ind (Q:=λre=>∀k p,(re.wg k p).length<=re.looks) (λre ih k p=>?_) re;have hL:∀(l:List Re) (k i:Nat),(∀x∈l,x∈re.kids)->(Re.fV l k p i).length<=Re.aD l:=by
  intro l;induction l with
  |nil=>intro _ _ _;simp [Re.fV]
  |cons x l yM =>
   intro k i hm;rw[Re.fV,Re.aD,af7];have h1:=ih x (hm x (by simp)) k (p++[(i:Int)]);have h2:=yM (k+x.looks) (i+1) λy hy=>hm y (by simp [hy]);omega
 rw[Re.Gw,Re.eA];by_cases h:re.op=7\/re.op=8
 ·rw[be h,be h];simp
 ·rw[ap h,ap h];have:=hL re.kids k 0 λ_ h=>h;omega
theorem Nf (l:List Re):∀k p i,(Re.fV l k p i).length<=Re.aD l:=by
 induction l with
 |nil=>intro _ _ _;simp [Re.fV]
 |cons x l ih =>
  intro k p i;rw[Re.fV,Re.aD,af7];have h1:=Bn x k (p++[(i:Int)]);have h2:=ih (k+x.looks) p (i+1);omega
theorem Ae:∀l:List Re,Re.aD l<=Re.bZ l
 |[]=>by simp [Re.aD,Re.bZ]
 |x::l=>by have h1:=l6 x;have h2:=Ae l;rw[Re.aD,Re.bZ];omega
theorem MY {P:Program}{f:FuncId}{args cargs:List V}{r:V}{id:Nat}{o:VL.Obj}{s:List VL.Obj}{K:V->List VL.Obj->Prop} (h:aO P f cargs r) (ho:s[id]?=some o)
  (hc:∀s':List VL.Obj,s'.length=s.length->s'[id]?=some o->ba.go (bE s' [id]).length (bE s' [id]) args=some cargs) (ha:ah.go 0 cargs=true) (hr:ah 0 r=true) (hk:K r (s.set id { o with live:=false })) :
  EJ P [id] [id] f args s K:=by
 refine⟨r,[{ o with live:=false }],rfl,λs' hl kJ=>?_,hk⟩;have cS:s'[id]?=some o:=by rw[kJ id (by simp)];exact ho
 refine bc [id] ?_ (aj h ha hr ⟨rfl,?_⟩)
 ·exact hc s' hl cS
 ·simp only[bE,bM,cS];rfl
def Cb (g:Nat) (l:List (Nat×List Int)):VL.Obj:=⟨g,true,1,(l.map λq=>[iD (q.1:Int)]).map λc=>c.map V.d⟩
def BA (g:Nat) (l:List (Nat×List Int)):VL.Obj:=⟨g,true,1,(l.map λq=>sm q.2).map λc=>c.map V.d⟩
def SB (l:List (Nat×List Int)):V:=.tu [.d (.sl (l.map λq=>[iD (q.1:Int)])),.d (.sl (l.map λq=>sm q.2))]
theorem QU (re:Re):re.size<=1000000->∀(k:Nat) (p:List Int),k+re.size<=2000000->p.length+re.size<=2000000->aO Try.prog 21 [fv re,i64 k,.d (al p)] (SB (re.wg k p)):=by
 refine Re.ind (Q:=λre=>re.size<=1000000->∀(k:Nat) (p:List Int),k+re.size<=2000000->p.length+re.size<=2000000->aO Try.prog 21 [fv re,i64 k,.d (al p)] (SB (re.wg k p))) (λre ih hs k p hk hp=>?_) re;have hse:=Re.size_eq re;have wF:=Re.lO re.kids;have C7:=l6 re;have Sw:=Re.eA re;have o1:∀e∈p.map (λx=>[D.sc (Value.int IntKind.i64 x)]),e.length=1:=λe he=>by obtain⟨y,_,rfl⟩:=List.mem_map.1 he;rfl
 have o2:∀e∈(p.map (λx=>[D.sc (Value.int IntKind.i64 x)])).map (λc=>c.map V.d),e.length=1:=λe he=>by obtain⟨y,hy,rfl⟩:=List.mem_map.1 he;rw[afN];exact o1 y hy
 rw[Re.Gw];have mZ:re.op=7\/re.op=8\/¬(re.op=7\/re.op=8):=by omega
 rcases mZ with o7|o8|ho
 ·rw[be (.inl o7)];have Pn:=eq_true o7;refine an Try.func21 rfl Try.ntmps21 Try.results21 rfl 0 8143 (by simp) (by simp) ?_;simp only[zX,cQ,dx,dB,dC,dD,gl,ja,jg,jk,mA,eI,eJ,fX,reduceIte,reduceCtorEq,gj,i64,ai re,iD,bD,Pn,decide_true,al];all_goals rfl
 ·rw[be (.inr o8)];have U1:=eq_true o8;have Pn:=eq_false (show ¬re.op=7 by omega);refine an Try.func21 rfl Try.ntmps21 Try.results21 rfl 0 8143 (by simp) (by simp) ?_;simp only[zX,cQ,dx,dB,dC,dD,gl,ja,jg,jk,mA,eI,eJ,fX,reduceIte,reduceCtorEq,gj,i64,ai re,iD,bD,Pn,U1,decide_true,decide_false,al];all_goals rfl
 ·rw[ap ho];rw[ap ho]at Sw;have Pn:=eq_false (show ¬re.op=7 by omega);have U1:=eq_false (show ¬re.op=8 by omega);refine an Try.func21 rfl Try.ntmps21 Try.results21 rfl 0 8143 (by simp) (by simp) ?_;simp only[zX,cQ,dx,dB,dC,dD,gl,ja,jg,jk,mA,eI,eJ,fX,reduceIte,reduceCtorEq,gj,i64,ai re,iD,bD,Pn,U1,decide_false,al];refine au (λn e s=>∃i g g':Nat,n=re.kids.length-i/\i<=re.kids.length/\e 1=i64 ((k+Re.aD (re.kids.take i):Nat):Int)/\e 2=.d (al p)/\e 3=.rf 0 0 0 0/\e 8=.so 1 g 0 (Re.fV (re.kids.take i) k p 0).length/\e 9=.so 2 g' 0 (Re.fV (re.kids.take i) k p 0).length/\e 10=i64 i/\s=[av re,Cb g (Re.fV (re.kids.take i) k p 0),BA g' (Re.fV (re.kids.take i) k p 0)])
   ⟨_,_,_,.DD ((eE 8 1 rfl).trans (eE 9 1 rfl)),0,0,0,rfl,by omega,rfl,rfl,rfl,rfl,rfl,rfl,by simp [av,Cb,BA,Re.fV,Re.ae re,iD,bD]⟩ ?_
  rintro n e s ⟨i,g,g',rfl,hi,h1,h2,h3,h8,h9,du,rfl⟩;simp only[al]at h2;rcases agi i re.kids.length with az|fI
  ·obtain⟨x,hx⟩:∃x,re.kids[i]?=some x:=⟨_,afP az⟩
   have hm:=afW hx;have wC:=Re.bL hm;have aC:(i:Int)<(re.kids.length:Int):=by omega
   have EC:=Ae (re.kids.take i);have PU:=Re.BF re.kids (i+1);rw[aR hx,Re.kW,Re.bZ,Re.bZ,ag0]at PU;have aeB:=oF re.kids (i+1);have AJ:Re.aD (re.kids.take (i+1))=Re.aD (re.kids.take i)+x.looks:=by rw[aR hx,jO];simp [Re.aD]
   have di:=ih x hm (by omega) (k+Re.aD (re.kids.take i)) (p++[(i:Int)]) (by omega) (by simp;omega);have hos:Re.fV (re.kids.take (i+1)) k p 0=Re.fV (re.kids.take i) k p 0++x.wg (k+Re.aD (re.kids.take i)) (p++[(i:Int)]):=by rw[aR hx,CK,agN,afX,Nat.min_eq_left hi]
   have Fv:=Nf (re.kids.take i) k p 0;have acZ:=Bn x (k+Re.aD (re.kids.take i)) (p++[(i:Int)]);have hlo:=Fl x (by omega);have aaU:=uA x;have hw:IntKind.i64.wrap (((k+Re.aD (re.kids.take i):Nat):Int)+(x.looks:Int))=((k+Re.aD (re.kids.take (i+1)):Nat):Int):=by rw[bd _ (by omega)];omega
   generalize hO:Re.fV (re.kids.take i) k p 0=O at *;generalize x.wg (k+Re.aD (re.kids.take i)) (p++[(i:Int)])=O2 at *;have vu:∀l:List (Nat×List Int),∀e∈(l.map λq=>[iD (q.1:Int)]).map (λc=>c.map V.d),e.length=1:=λl e he=>by obtain⟨y,hy,rfl⟩:=List.mem_map.1 he;obtain⟨z,_,rfl⟩:=List.mem_map.1 hy;rfl
   have CZ:∀l:List (Nat×List Int),∀e∈(l.map λq=>sm q.2).map (λc=>c.map V.d),e.length=1:=λl e he=>by obtain⟨y,hy,rfl⟩:=List.mem_map.1 he;obtain⟨z,_,rfl⟩:=List.mem_map.1 hy;rfl
   unfold SB at di;rw[<- aaU]at hw;generalize ((k+Re.aD (re.kids.take i):Nat):Int)=K at *;generalize Rw:((k+Re.aD (re.kids.take (i+1)):Nat):Int)=K1 at *;simp only[i64]at di;simp only[zX,cQ,dx,dB,dC,dD,gl,ja,jg,jk,mA,eI,eJ,fX,reduceIte,reduceCtorEq,gj,i64,av,Cb,BA,Re.ae re,afR,afU,iD,bD,h1,h2,h3,h8,h9,du,aC,hx];refine aS bO.bf ?_;refine ar mix [] [(8,[3],[3]),(11,[3],[3]),(12,[3],[3])] (by rfl) ?_;simp only[zX,cQ,dx,dB,dC,dD,gl,ja,jg,jk,mA,eI,eJ,fX,reduceIte,reduceCtorEq,gj,i64,av,Cb,BA,Re.ae re,afR,afU,iD,bD,h1,h2,h3,h8,h9,du,aC,hx,hole,O3,afN];refine⟨⟨by omega,o1⟩,rfl,λe he=>by rw[List.mem_singleton.1 he];rfl,⟨by omega,by omega⟩,?_⟩;refine MY (cargs:=[fv x,.d (.sc (.int .i64 K)),.d (al (p++[(i:Int)]))]) (id:=3) di rfl (λs' hl kJ=>?_) (by simp [ah.go,ah,nC]) rfl ?_
   ·have e1:(bE s' [3])[3]?=some ⟨2,false,1,List.take p.length (List.map (λc=>List.map V.d c) (List.map (λx=>[D.sc (Value.int IntKind.i64 x)]) p))++[[V.d (D.sc (Value.int IntKind.i64 (i:Int)))]]⟩:=by simp only[bE,bM,kJ];rw[agc (List.getElem?_eq_some_iff.1 kJ).1]
    have e2:=nM (lim:=(bE s' [3]).length) (lo:=0) (n:=p.length+1) (ds:=(p++[(i:Int)]).map λx=>[iD x]) e1 (by
     rw[agH,af1 (by simp),af1 (by simp),aha,aha];rfl) (by simp) (.inr rfl)
    simp only[ba.go,Ro,e2];rfl
   simp only[zX,cQ,dx,dB,dC,dD,gl,ja,jg,jk,mA,eI,eJ,fX,reduceIte,reduceCtorEq,gj,i64,av,Cb,BA,Re.ae re,afR,afU,iD,bD,h1,h2,h3,h8,h9,du,aC,hx,hole,O3,afN];refine⟨vu O2,⟨by omega,by omega⟩,CZ O2,⟨by omega,by omega⟩,?_⟩;refine aj hlo (by simp [ah,ah.go,ai]) (by simp [ah,ah.go,ai,i64,bV,aM]) ?_;simp only[zX,cQ,dx,dB,dC,dD,gl,ja,jg,jk,mA,eI,eJ,fX,reduceIte,reduceCtorEq,gj,i64,iD,bD,h1,h2,h3,h8,h9,du,aC,hx,afN,hw];refine⟨re.kids.length-(i+1),_,_,by omega,br.cut (s':=[av re,Cb (g+1) (O++O2),BA (g'+1) (O++O2)]) 3 (by omega) ?_ ?_ [1,2,3,8,9,10] ?_,i+1,g+1,g'+1,rfl,by omega,?_,?_,?_,?_,?_,?_,by rw[hos];simp [av,Cb,BA,Re.ae re,iD,bD]⟩ <;> (try simp only[zU,gj,cQ,dx,eI,reduceIte])
   ·simp only[ags,agD];rw[af1 (by simp),af1 (by simp)];simp [av,Cb,BA,Re.ae re,iD,bD]
   ·simp [av,aG,Cb,BA,Re.ae re,ah,iD,bD,sm]
   ·simp [bz,aH,ah,h1,h2,h3,h8,h9,du]
   ·rw[Rw]
   ·exact h2
   ·exact h3
   ·rw[hos];simp
   ·rw[hos];simp
   ·rw[bd _ (by omega)];rfl
  ·have cV:i=re.kids.length:=by omega
   subst cV;have aC:¬(re.kids.length:Int)<re.kids.length:=by omega
   rw[agj]at h8 h9 ⊢;simp only[zX,cQ,dx,dB,dC,dD,gl,ja,jg,jk,mA,eI,eJ,fX,reduceIte,reduceCtorEq,gj,i64,av,Re.ae re,afR,afU,iD,bD,h1,h2,h3,h8,h9,du,aC];rw[be ⟨rfl,by simp [Cb]⟩,be ⟨rfl,by simp [BA]⟩,show (Cb g (Re.fV re.kids k p 0)).aw=((Re.fV re.kids k p 0).map λq=>[iD (q.1:Int)]).map (λc=>c.map V.d) from rfl,show (BA g' (Re.fV re.kids k p 0)).aw=((Re.fV re.kids k p 0).map λq=>sm q.2).map (λc=>c.map V.d) from rfl,eH 7 0 _ _ _ (by simp),eH 7 0 _ _ _ (by simp)];rfl
def Kq (re:Re):Bool:=mv re&&decide ((re.op=0\/re.op=6\/re.op=9\/re.op=10)->re.kids=[])
theorem BM {re:Re}:Kq re=true ↔ mv re=true/\((re.op=0\/re.op=6\/re.op=9\/re.op=10)->re.kids=[]):=by unfold Kq;rw[agb,decide_eq_true_eq]
def rB:List Re->Int
 |[]=>0
 |x::l=>dm x+rB l
theorem Fc:∀(l:List Re) (x:Re),rB (l++[x])=rB l+dm x
 |[],x=>by simp [rB]
 |y::l,x=>by rw[afQ,rB,Fc l x,rB];omega
theorem wv:∀l:List Re,0<=rB l/\rB l<=8193*l.length
 |[]=>by simp [rB]
 |x::l=>by
  have h1:=wv l;have h2:0<=dm x/\dm x<=8193:=by unfold dm;omega
  rw[rB,afZ];omega
theorem IS:∀(l:List Re) (c:Int),0<=c->min (rB l+c) 8193=min ((Re.c7 l:Int)+c) 8193
 |[],c,h=>by simp [rB,Re.c7]
 |x::l,c,h=>by have h1:=IS l c h;have h2:=wv l;rw[rB,Re.c7];unfold dm;omega
def pF (re:Re) (i:Nat):Int:=if re.op=3 then (if i=0 then 0 else 2*((i:Int)-1)) else if re.op=5 then 2*(i:Int) else 0
theorem Bj (re:Re):re.every Kq=true->aO Try.prog 74 [fv re] (i64 (dm re)):=by
 induction re using Re.ind with
 |h re ih =>
 intro hs;obtain⟨ez,iO⟩:=(Re.aB re).1 hs;obtain⟨qj,jv⟩:=BM.1 ez;obtain⟨q1,q2,q3,q4,q5,q6,q7,q8,q9,iF,_,_,q13,q14,_⟩:=jS.1 qj;have mZ:re.op=1\/re.op=11\/re.op=7\/re.op=8\/re.op=4\/¬(re.op=1\/re.op=11\/re.op=7\/re.op=8\/re.op=4):=by omega
 have rL:(re.op=1\/re.op=11\/re.op=7\/re.op=8)->dm re=1:=λh=>by rw[dm,Re.kr,uW,be h];rfl
 rcases mZ with o|o|o|o|o|o
 ·rw[rL (by omega)];refine an Try.func74 rfl Try.ntmps74 Try.results74 rfl 0 447 (by simp) (by simp) ?_;simp only[zX,cQ,dx,dB,dC,dD,gl,ja,jg,jk,mA,eI,eJ,fX,reduceIte,reduceCtorEq,gj,i64,ai re,iD,bD,o]
 ·rw[rL (by omega)];refine an Try.func74 rfl Try.ntmps74 Try.results74 rfl 0 447 (by simp) (by simp) ?_;simp only[zX,cQ,dx,dB,dC,dD,gl,ja,jg,jk,mA,eI,eJ,fX,reduceIte,reduceCtorEq,gj,i64,ai re,iD,bD,o]
 ·rw[rL (by omega)];refine an Try.func74 rfl Try.ntmps74 Try.results74 rfl 0 447 (by simp) (by simp) ?_;simp only[zX,cQ,dx,dB,dC,dD,gl,ja,jg,jk,mA,eI,eJ,fX,reduceIte,reduceCtorEq,gj,i64,ai re,iD,bD,o]
 ·rw[rL (by omega)];refine an Try.func74 rfl Try.ntmps74 Try.results74 rfl 0 447 (by simp) (by simp) ?_;simp only[zX,cQ,dx,dB,dC,dD,gl,ja,jg,jk,mA,eI,eJ,fX,reduceIte,reduceCtorEq,gj,i64,ai re,iD,bD,o]
 ·obtain⟨x,hx⟩:∃x,re.kids=[x]:=List.length_eq_one_iff.1 (q1 (by omega));have hz:=LO (m:=re.mn) (x:=re.mx) (z:=x.gD) (by omega) q4 (q8 o);rw[<- Mp o hx q4 (q8 o)]at hz;have di:=ih x (by rw[hx];simp) (iO x (by rw[hx];simp));have uY:re.kids[0]?=some x:=by rw[hx];rfl
  have cU:(0:Int)<(re.kids.length:Int):=by rw[hx];simp
  unfold dm at di ⊢;rw[<- hz];have UZ:0<=min (x.gD:Int) 8193:=by omega
  have hy1:min (x.gD:Int) 8193<=8193:=by omega
  generalize min (x.gD:Int) 8193=y at *;simp only[i64]at di;have e1:0<=re.mn*y/\re.mn*y<=32*y:=⟨ahm q4 UZ,agB q5 UZ⟩
  have w1:IntKind.i64.wrap (re.mn*y)=re.mn*y:=bd _ (by omega);by_cases hm:re.mx=-1
  ·have w2:IntKind.i64.wrap (re.mn*y+y)=re.mn*y+y:=bd _ (by omega);have w3:IntKind.i64.wrap (re.mn*y+y+2)=re.mn*y+(y+2):=by rw[bd _ (by omega),agQ]
   rw[be hm];have u5:decide (re.mx=-1)=true:=bi hm;refine an Try.func74 rfl Try.ntmps74 Try.results74 rfl 0 447 (by simp) (by simp) ?_;simp only[zX,cQ,dx,dB,dC,dD,gl,ja,jg,jk,mA,eI,eJ,fX,reduceIte,reduceCtorEq,gj,i64,ai re,iD,bD,o,afN,cU,uY];refine aj di (by simp [ah,ah.go,ai,i64,bV,aM]) (by simp [ah,ah.go,ai,i64,bV,aM]) ?_;simp only[zX,cQ,dx,dB,dC,dD,gl,ja,jg,jk,mA,eI,eJ,fX,reduceIte,reduceCtorEq,gj,i64,ai re,iD,bD,o,u5,w1,w2,w3]
  ·have e2:0<=(re.mx-re.mn)*(y+1)/\(re.mx-re.mn)*(y+1)<=32*(y+1):=by obtain⟨h1,h2⟩:=(q8 o).resolve_left hm;exact⟨ahm (by omega) (by omega),agB (by omega) (by omega)⟩
   have w2:IntKind.i64.wrap (y+1)=y+1:=bd _ (by omega);have w3:IntKind.i64.wrap (re.mx-re.mn)=re.mx-re.mn:=bd _ (by omega);have w4:IntKind.i64.wrap ((re.mx-re.mn)*(y+1))=(re.mx-re.mn)*(y+1):=bd _ (by omega);have w5:IntKind.i64.wrap (re.mn*y+(re.mx-re.mn)*(y+1))=re.mn*y+(re.mx-re.mn)*(y+1):=bd _ (by omega);rw[ap hm];have u5:decide (re.mx=-1)=false:=b6 hm;refine an Try.func74 rfl Try.ntmps74 Try.results74 rfl 0 447 (by simp) (by simp) ?_;simp only[zX,cQ,dx,dB,dC,dD,gl,ja,jg,jk,mA,eI,eJ,fX,reduceIte,reduceCtorEq,gj,i64,ai re,iD,bD,o,afN,cU,uY];refine aj di (by simp [ah,ah.go,ai,i64,bV,aM]) (by simp [ah,ah.go,ai,i64,bV,aM]) ?_;simp only[zX,cQ,dx,dB,dC,dD,gl,ja,jg,jk,mA,eI,eJ,fX,reduceIte,reduceCtorEq,gj,i64,ai re,iD,bD,o,u5,w1,w2,w3,w4,w5]
 ·have o1:¬re.op=1:=by omega
  have rO:¬re.op=11:=by omega
  have o7:¬re.op=7:=by omega
  have o8:¬re.op=8:=by omega
  have o4:¬re.op=4:=by omega
  have hz:dm re=min (rB re.kids+pF re re.kids.length) 8193:=by
   by_cases mT:re.op=0\/re.op=6\/re.op=9\/re.op=10
   ·rw[dm,Re.kr,uW,ap (by omega),ap (by omega),ap (by omega),ap (by omega),ap (by omega),jv mT,pF,ap (by omega),ap (by omega)];rfl
   ·have Up:0<=pF re re.kids.length:=by unfold pF;split <;> (try split) <;> (try split) <;> omega
    rw[IS _ _ Up,dm,Re.kr,uW,ap (by omega),pF];by_cases o2:re.op=2
    ·rw[be o2,ap (by omega),ap (by omega),Int.add_zero]
    ·rw[ap o2];by_cases o3:re.op=3
     ·have:=q2 o3;rw[be o3,be o3,ap (by omega)];omega
     ·have o5:re.op=5:=by omega
      have:=q1 (.inr (.inl o5));rw[ap o3,ap o3,be o5,be o5,this];omega
  rw[hz];refine an Try.func74 rfl Try.ntmps74 Try.results74 rfl 0 447 (by simp) (by simp) ?_;simp only[zX,cQ,dx,dB,dC,dD,gl,ja,jg,jk,mA,eI,eJ,fX,reduceIte,reduceCtorEq,gj,i64,ai re,iD,bD,o1,rO,o7,o8,o4];refine au (λn e s=>∃i:Nat,n=re.kids.length-i/\i<=re.kids.length/\e 1=.rf 0 0 0 0/\e 3=i64 (rB (re.kids.take i)+pF re i)/\e 5=i64 i/\s=[av re]) ⟨_,_,_,br.refl,0,rfl,by omega,rfl,by simp [rB,pF];rfl,rfl,by simp [av,Re.ae re,iD,bD]⟩ ?_;rintro n e s ⟨i,rfl,hi,h1,h3,h5,rfl⟩;rcases agi i re.kids.length with az|fI
  ·obtain⟨k,hk⟩:∃k,re.kids[i]?=some k:=⟨_,afP az⟩
   have hm:=afW hk;have aC:(i:Int)<(re.kids.length:Int):=by omega
   have DZ:rB (re.kids.take (i+1))=rB (re.kids.take i)+dm k:=by rw[aR hk,Fc]
   have di:=ih k hm (iO k hm);have hyr:0<=dm k/\dm k<=8193:=by unfold dm;omega
   have hsr:=wv (re.kids.take i);have u7:(re.kids.take i).length=i:=by simp;omega
   have T4:IntKind.i64.wrap ((i:Int)+1)=((i+1:Nat):Int):=by rw[bd _ (by omega)];rfl
   rw[u7]at hsr;generalize dm k=y at *;generalize rB (re.kids.take i)=S at *;simp only[i64]at di;by_cases o3:re.op=3
   ·have o5:¬re.op=5:=by omega
    have r1:pF re (i+1)=2*(i:Int):=by unfold pF;rw[be o3,ap (by omega)];omega
    cases i with
    |zero =>
     have r0:pF re 0=0:=by unfold pF;rw[be o3,be rfl]
     have w1:IntKind.i64.wrap (S+0+y)=S+y:=by rw[bd _ (by omega)];omega
     rw[r0]at h3;have g0:¬(0:Int)<((0:Nat):Int):=by omega
     simp only[zX,cQ,dx,dB,dC,dD,gl,ja,jg,jk,mA,eI,eJ,fX,reduceIte,reduceCtorEq,gj,i64,av,Re.ae re,afR,afU,iD,bD,h1,h3,h5,aC,hk,w1,gt_iff_lt];refine aj di (by simp [ah,ah.go,ai,i64,bV,aM]) (by simp [ah,ah.go,ai,i64,bV,aM]) ?_;simp only[zX,cQ,dx,dB,dC,dD,gl,ja,jg,jk,mA,eI,eJ,fX,reduceIte,reduceCtorEq,gj,i64,av,Re.ae re,afR,afU,iD,bD,h1,h3,h5,aC,hk,w1,gt_iff_lt,o3,g0,T4];refine⟨re.kids.length-(0+1),_,_,by omega,br.refl,0+1,rfl,by omega,?_,?_,?_,by simp [av,Re.ae re,iD,bD,o3]⟩ <;> (try simp only[zU,gj,cQ,dx,eI,reduceIte])
     ·exact h1
     ·rw[DZ,r1];simp
    |succ j =>
     have r0:pF re (j+1)=2*(j:Int):=by unfold pF;rw[be o3,ap (by omega)];omega
     have w1:IntKind.i64.wrap (S+2*(j:Int)+y)=S+2*(j:Int)+y:=bd _ (by omega);have w2:IntKind.i64.wrap (S+2*(j:Int)+y+2)=S+y+2*((j+1:Nat):Int):=by rw[bd _ (by omega)];omega
     rw[r0]at h3;have g0:(0:Int)<((j+1:Nat):Int):=by omega
     simp only[zX,cQ,dx,dB,dC,dD,gl,ja,jg,jk,mA,eI,eJ,fX,reduceIte,reduceCtorEq,gj,i64,av,Re.ae re,afR,afU,iD,bD,h1,h3,h5,aC,hk,w1,gt_iff_lt];refine aj di (by simp [ah,ah.go,ai,i64,bV,aM]) (by simp [ah,ah.go,ai,i64,bV,aM]) ?_;simp only[zX,cQ,dx,dB,dC,dD,gl,ja,jg,jk,mA,eI,eJ,fX,reduceIte,reduceCtorEq,gj,i64,av,Re.ae re,afR,afU,iD,bD,h1,h3,h5,aC,hk,w1,w2,gt_iff_lt,o3,g0,T4];refine⟨re.kids.length-(j+1+1),_,_,by omega,br.refl,j+1+1,rfl,by omega,?_,?_,?_,by simp [av,Re.ae re,iD,bD,o3]⟩ <;> (try simp only[zU,gj,cQ,dx,eI,reduceIte])
     ·exact h1
     ·rw[DZ,r1]
   ·by_cases o5:re.op=5
    ·have r0:pF re i=2*(i:Int):=by unfold pF;rw[ap o3,be o5]
     have r1:pF re (i+1)=2*(i:Int)+2:=by unfold pF;rw[ap o3,be o5];omega
     have w1:IntKind.i64.wrap (S+2*(i:Int)+y)=S+2*(i:Int)+y:=bd _ (by omega);have w2:IntKind.i64.wrap (S+2*(i:Int)+y+2)=S+y+(2*(i:Int)+2):=by rw[bd _ (by omega)];omega
     rw[r0]at h3;simp only[zX,cQ,dx,dB,dC,dD,gl,ja,jg,jk,mA,eI,eJ,fX,reduceIte,reduceCtorEq,gj,i64,av,Re.ae re,afR,afU,iD,bD,h1,h3,h5,aC,hk,w1,gt_iff_lt];refine aj di (by simp [ah,ah.go,ai,i64,bV,aM]) (by simp [ah,ah.go,ai,i64,bV,aM]) ?_;simp only[zX,cQ,dx,dB,dC,dD,gl,ja,jg,jk,mA,eI,eJ,fX,reduceIte,reduceCtorEq,gj,i64,av,Re.ae re,afR,afU,iD,bD,h1,h3,h5,aC,hk,w1,w2,gt_iff_lt,o5,T4];refine⟨re.kids.length-(i+1),_,_,by omega,br.refl,i+1,rfl,by omega,?_,?_,?_,by simp [av,Re.ae re,iD,bD,o5]⟩ <;> (try simp only[zU,gj,cQ,dx,eI,reduceIte])
     ·exact h1
     ·rw[DZ,r1]
    ·have r0:pF re i=0:=by unfold pF;rw[ap o3,ap o5]
     have r1:pF re (i+1)=0:=by unfold pF;rw[ap o3,ap o5]
     have w1:IntKind.i64.wrap (S+0+y)=S+y+0:=by rw[bd _ (by omega)];omega
     rw[r0]at h3;simp only[zX,cQ,dx,dB,dC,dD,gl,ja,jg,jk,mA,eI,eJ,fX,reduceIte,reduceCtorEq,gj,i64,av,Re.ae re,afR,afU,iD,bD,h1,h3,h5,aC,hk,w1,gt_iff_lt];refine aj di (by simp [ah,ah.go,ai,i64,bV,aM]) (by simp [ah,ah.go,ai,i64,bV,aM]) ?_;simp only[zX,cQ,dx,dB,dC,dD,gl,ja,jg,jk,mA,eI,eJ,fX,reduceIte,reduceCtorEq,gj,i64,av,Re.ae re,afR,afU,iD,bD,h1,h3,h5,aC,hk,w1,gt_iff_lt,o3,o5,T4];refine⟨re.kids.length-(i+1),_,_,by omega,br.refl,i+1,rfl,by omega,?_,?_,?_,by simp [av,Re.ae re,iD,bD]⟩ <;> (try simp only[zU,gj,cQ,dx,eI,reduceIte])
     ·exact h1
     ·rw[DZ,r1]
  ·have cV:i=re.kids.length:=by omega
   subst cV;have aC:¬(re.kids.length:Int)<re.kids.length:=by omega
   rw[agj]at h3;simp only[zX,cQ,dx,dB,dC,dD,gl,ja,jg,jk,mA,eI,eJ,fX,reduceIte,reduceCtorEq,gj,i64,av,Re.ae re,afR,afU,iD,bD,h1,h3,h5,aC]
mutual
def Re.nest:Re->List Int->Bool
 |.mk op _ kids _ _ _ n _,a=>if op=5/\n∈a then true else Re.Jp kids (if op=5 then a++[n] else a)
def Re.Jp:List Re->List Int->Bool
 |[],_=>false
 |k::l,a=>k.nest a||Re.Jp l a
end
theorem Re.Fi:∀(l:List Re) (a:List Int),Re.Jp l a=l.any λk=>k.nest a
 |[],_=>by simp [Re.Jp]
 |k::l,a=>by simp [Re.Jp,Re.Fi l a]
theorem Re.Ta (re:Re) (a:List Int):re.nest a=if re.op=5/\re.n∈a then true else re.kids.any λk=>k.nest (if re.op=5 then a++[re.n] else a):=by
 cases re;simp only[Re.nest,Re.Fi,Re.op,Re.kids,Re.n];rfl
theorem Sp (re:Re):∀a:List Int,re.every (λr=>decide (jC r.n))=true->re.size<=1000000->a.length+re.size<=2000000->aO Try.prog 73 [fv re,.d (al a)] (bV (re.nest a)):=by
 induction re using Re.ind with
 |h re ih =>
 intro a hs hz ha;obtain⟨ez,iO⟩:=(Re.aB re).1 hs;have iF:=of_decide_eq_true ez;have fF:=Re.size_eq re;have cU:=Re.lO re.kids;have mY:∀a':List Int,a'.length<=a.length+1->∀k∈re.kids,aO Try.prog 73 [fv k,.d (al a')] (bV (k.nest a')):=λa' NP k hk =>
  ih k hk a' (iO k hk) (by have:=Re.bL hk;omega) (by have:=Re.bL hk;omega)
 have qX:∀e∈(a.map λx=>[iD x]).map (λx=>x.map V.d),e.length=1:=λe he=>by obtain⟨x,hx,rfl⟩:=List.mem_map.1 he;obtain⟨p,_,rfl⟩:=List.mem_map.1 hx;rfl
 simp only[iD]at qX;rw[Re.Ta];by_cases c2:re.op=5
 ·have hh:=QK a re.n (by omega);have c2':=eq_true c2;by_cases c3:re.n∈a
  ·rw[be ⟨c2,c3⟩];rw[bi c3]at hh;refine an Try.func73 rfl Try.ntmps73 Try.results73 rfl 0 247 (by simp) (by simp) ?_;simp only[zX,cQ,dx,dB,dC,dD,gl,ja,jg,jk,mA,eI,eJ,fX,reduceIte,reduceCtorEq,gj,i64,ai re,iD,bD,c2,al,afN];refine⟨qX,⟨by omega,λe he=>absurd he ag8⟩,?_⟩;refine aj hh rfl rfl ?_;simp only[zX,cQ,dx,dB,dC,dD,gl,ja,jg,jk,mA,eI,eJ,fX,reduceIte,reduceCtorEq,gj,i64,ai re,iD,bD,bV,c2];all_goals rfl
  ·rw[ap (λh=>c3 h.2),be c2];rw[b6 c3]at hh;have hL:=mY (a++[re.n]) (by simp);refine an Try.func73 rfl Try.ntmps73 Try.results73 rfl 0 247 (by simp) (by simp) ?_;simp only[zX,cQ,dx,dB,dC,dD,gl,ja,jg,jk,mA,eI,eJ,fX,reduceIte,reduceCtorEq,gj,i64,ai re,iD,bD,c2,al,afN];refine⟨qX,⟨by omega,λe he=>absurd he ag8⟩,?_⟩;refine aj hh rfl rfl ?_;simp only[zX,cQ,dx,dB,dC,dD,gl,ja,jg,jk,mA,eI,eJ,fX,reduceIte,reduceCtorEq,gj,i64,ai re,iD,bD,bV,c2];refine And.intro (λe he=>by rw[List.mem_singleton.1 he];rfl) (And.intro ⟨by omega,by omega⟩ ?_);generalize YQ:a++[re.n]=aa at *;refine au (λn e s=>∃i:Nat,n=re.kids.length-i/\i<=re.kids.length/\e 2=.rf 0 0 0 0/\e 5=.d (al aa)/\e 6=i64 i/\(∀x∈re.kids.take i,x.nest aa=false)/\s=[av re])
    ⟨_,_,_,Ls (s':=[av re]) 5 (aa.map λx=>[iD x]) 1 [2,5,6] rfl rfl ?_ ?_ (by omega) (af3 _) ?_ (by simp [av,Re.ae re,aG,ah,iD,bD]) rfl,0,rfl,by omega,?_,?_,?_,by simp,rfl⟩ ?_
   ·rw[agH,<- YQ,af1 (by simp),af1 (by simp)];simp [iD]
   ·simp
   ·simp [av,Re.ae re,iD,bD,c2]
   ·rfl
   ·rfl
   ·rfl
   clear qX;rintro n e s ⟨i,rfl,hi,h2,h5,h6,bA,rfl⟩;simp only[al]at h5;rcases agi i re.kids.length with az|fI
   ·obtain⟨k,hk⟩:∃k,re.kids[i]?=some k:=⟨_,afP az⟩
    have hm:=afW hk;have JX:=hL k hm;simp only[al]at JX;have aC:(i:Int)<re.kids.length:=by omega
    simp only[zX,cQ,dx,dB,dC,dD,gl,ja,jg,jk,mA,eI,eJ,fX,reduceIte,reduceCtorEq,gj,i64,av,Re.ae re,afR,afU,iD,bD,h2,h5,h6,aC,hk];refine aj JX (by simp [ah,ah.go,ai]) (by simp [ah,ah.go,ai,i64,bV,aM]) ?_;cases cU:k.nest aa with
    |false =>
     simp only[zX,cQ,dx,dB,dC,dD,gl,ja,jg,jk,mA,eI,eJ,fX,reduceIte,reduceCtorEq,gj,i64,iD,bD,bV,h2,h5,h6,cU,af4];refine⟨re.kids.length-(i+1),_,_,by omega,br.refl,i+1,rfl,az,?_,?_,?_,?_,rfl⟩ <;> (try simp only[zU,gj,cQ,dx,eI,reduceIte])
     ·exact h2
     ·exact h5
     ·rw[bd _ (by omega)];rfl
     ·intro x hx;rcases bu hk hx with h|rfl
      ·exact bA x h
      ·exact cU
    |true =>
     simp only[zX,cQ,dx,dB,dC,dD,gl,ja,jg,jk,mA,eI,eJ,fX,reduceIte,reduceCtorEq,gj,i64,iD,bD,bV,h2,h5,h6,cU,aga];have:(re.kids.any λk=>k.nest aa)=true:=by rw[List.any_eq_true];exact⟨k,hm,cU⟩
     rw[this];all_goals rfl
   ·have cV:i=re.kids.length:=by omega
    subst cV;have aC:¬(re.kids.length:Int)<re.kids.length:=by omega
    rw[agj]at bA;have:(re.kids.any λk=>k.nest aa)=false:=by rw[List.any_eq_false];intro x hx;rw[bA x hx];simp
    rw[this];simp only[zX,cQ,dx,dB,dC,dD,gl,ja,jg,jk,mA,eI,eJ,fX,reduceIte,reduceCtorEq,gj,i64,av,Re.ae re,afR,afU,iD,bD,bV,h2,h5,h6,aC];all_goals rfl
 ·have hL:=mY a (by omega);rw[ap (λh=>c2 h.1),ap c2];have c2':=eq_false c2;refine an Try.func73 rfl Try.ntmps73 Try.results73 rfl 0 247 (by simp) (by simp) ?_;simp only[zX,cQ,dx,dB,dC,dD,gl,ja,jg,jk,mA,eI,eJ,fX,reduceIte,reduceCtorEq,gj,i64,ai re,iD,bD,c2',decide_false,al,afN];refine⟨qX,⟨by omega,λe he=>absurd he ag8⟩,?_⟩;generalize YQ:a=aa at *;refine au (λn e s=>∃i:Nat,n=re.kids.length-i/\i<=re.kids.length/\e 2=.rf 0 0 0 0/\e 5=.d (al aa)/\e 6=i64 i/\(∀x∈re.kids.take i,x.nest aa=false)/\s=[av re])
   ⟨_,_,_,Ls (s':=[av re]) 5 (aa.map λx=>[iD x]) 1 [2,5,6] rfl rfl ?_ ?_ (by omega) (af3 _) ?_ (by simp [av,Re.ae re,aG,ah,iD,bD]) rfl,0,rfl,by omega,?_,?_,?_,by simp,rfl⟩ ?_
  ·rw[agH,af1 (by simp)];simp [iD]
  ·simp
  ·simp [av,Re.ae re,iD,bD]
  ·rfl
  ·rfl
  ·rfl
  clear qX;rintro n e s ⟨i,rfl,hi,h2,h5,h6,bA,rfl⟩;simp only[al]at h5;rcases agi i re.kids.length with az|fI
  ·obtain⟨k,hk⟩:∃k,re.kids[i]?=some k:=⟨_,afP az⟩
   have hm:=afW hk;have JX:=hL k hm;simp only[al]at JX;have aC:(i:Int)<re.kids.length:=by omega
   simp only[zX,cQ,dx,dB,dC,dD,gl,ja,jg,jk,mA,eI,eJ,fX,reduceIte,reduceCtorEq,gj,i64,av,Re.ae re,afR,afU,iD,bD,h2,h5,h6,aC,hk];refine aj JX (by simp [ah,ah.go,ai]) (by simp [ah,ah.go,ai,i64,bV,aM]) ?_;cases cU:k.nest aa with
   |false =>
    simp only[zX,cQ,dx,dB,dC,dD,gl,ja,jg,jk,mA,eI,eJ,fX,reduceIte,reduceCtorEq,gj,i64,iD,bD,bV,h2,h5,h6,cU,af4];refine⟨re.kids.length-(i+1),_,_,by omega,br.refl,i+1,rfl,az,?_,?_,?_,?_,rfl⟩ <;> (try simp only[zU,gj,cQ,dx,eI,reduceIte])
    ·exact h2
    ·exact h5
    ·rw[bd _ (by omega)];rfl
    ·intro x hx;rcases bu hk hx with h|rfl
     ·exact bA x h
     ·exact cU
   |true =>
    simp only[zX,cQ,dx,dB,dC,dD,gl,ja,jg,jk,mA,eI,eJ,fX,reduceIte,reduceCtorEq,gj,i64,iD,bD,bV,h2,h5,h6,cU,aga];have:(re.kids.any λk=>k.nest aa)=true:=by rw[List.any_eq_true];exact⟨k,hm,cU⟩
    rw[this];all_goals rfl
  ·have cV:i=re.kids.length:=by omega
   subst cV;have aC:¬(re.kids.length:Int)<re.kids.length:=by omega
   rw[agj]at bA;have:(re.kids.any λk=>k.nest aa)=false:=by rw[List.any_eq_false];intro x hx;rw[bA x hx];simp
   rw[this];simp only[zX,cQ,dx,dB,dC,dD,gl,ja,jg,jk,mA,eI,eJ,fX,reduceIte,reduceCtorEq,gj,i64,av,Re.ae re,afR,afU,iD,bD,bV,h2,h5,h6,aC];all_goals rfl
end Go.Proofs.Ytfmdmlfhigocaaa
