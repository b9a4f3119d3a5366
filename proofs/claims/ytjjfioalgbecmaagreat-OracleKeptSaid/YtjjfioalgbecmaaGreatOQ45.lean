/- A part of the proof (K16 K13 K20 K21 K22 K23 K14 K14B K14C K14D K14E K24 K25 E2 E3 E4 K11 K39). -/
import Derived.Test.YtjjfioalgbecmaaGreatOQ44
set_option linter.unusedSimpArgs false
set_option linter.unusedVariables false
open Nat renaming reduceShiftRight → jN, reduceMod → oN, reduceLT → oP, reduceMul → oR, reduceSub → oS, reduceEqDiff → oV, reduceAdd → oW, reduceLeDiff → oX, reduceBEq → pZ
open Int renaming reduceToNat → B6, reduceNeg → D0, reduceLT → D4, reduceLE → D5, reduceEq → D6, reduceNatCast' → D7
set_option maxRecDepth 100000
set_option maxHeartbeats 80000000
namespace Go.Proofs.YtjjfioalgbecmaaGreat
open Go.VL Go.Proofs.Tryz
def zh (l:List (Int×Int)):Int:=if jS 1114111 (-2) l=true then (if 64<l.length then 4 else 0) else 1
def OK (s:Int×Int):Bool:=decide (0<=s.1/\s.1<=s.2/\s.2<=1114111)
theorem Ux (s:Int×Int):aM prog 137 [.ag [i64 s.1,i64 s.2]] (bV (OK s)):=by
 refine bo func137 ntmps137 results137 0 7 ?_;simp only[zI,simprocAttr,-D7,bV,ge_iff_le]
 repeat' (first
 |(with_reducible refine And.intro qH ?_)
 |(with_reducible first|refine jQ (λhc=>?_) (λhc=>?_)|refine dI (λhc=>?_) (λhc=>?_)|refine dH (λhc=>?_) (λhc=>?_)|refine cZ (λhc=>?_) (λhc=>?_)|refine cY (λhc=>?_) (λhc=>?_)|refine gX (λhc=>?_) (λhc=>?_)|refine dF (λhc=>?_) (λhc=>?_))<;>simp only[zI,simprocAttr,-D7,bV,ge_iff_le,hc])
 all_goals (simp only[OK,bV];simp [*];try omega)
theorem Pt {l:List (Int×Int)}{i:Nat}{k:Int×Int} (hk:l[i]?=some k) {p:Int} (h:jS 1114111 (-2) l=jS 1114111 p (l.drop i)):jS 1114111 (-2) l=(decide (0<=k.1/\k.1<=k.2/\k.2<=1114111/\p+1<k.1)&&jS 1114111 k.2 (l.drop (i+1))):=by rw[h];obtain⟨az,he⟩:=List.getElem?_eq_some_iff.1 hk;rw[alc az,he,jS]
theorem Hy (l:List (Int×Int)) (hl:l.length<=1000000000):aM prog 126 [.d (.sl (l.map aT))] (i64 (zh l)):=by
 refine bo func126 ntmps126 results126 0 253 ?_;simp only[zX,simprocAttr,-D7,i64];refine aw (λn e s=>∃i:Nat,n=l.length-i/\i<=l.length/\e 0=.d (.sl (l.map aT))/\e 5=.d (.sl (l.map aT))/\e 6=i64 l.length/\e 7=i64 i/\s=[]/\jS 1114111 (-2) l=jS 1114111 (fM l i) (l.drop i)/\(0<i->0<=fM l i/\fM l i<=1114111))
  ⟨_,_,_,bA.refl,0,rfl,ae,rfl,rfl,rfl,rfl,rfl,rfl,λh=>absurd h ae⟩ ?_
 rintro n e s ⟨i,rfl,hi,h0,h5,h6,h3,rfl,jO,mj⟩;rcases akd i l.length with az|gx
 ·obtain⟨k,hk⟩:∃k,l[i]?=some k:=cc az;have jO:=Pt hk jO;have oM:fM l (i+1)=k.2:=by simp [fM,hk]
  have hg:=Ux k;have aA:(i:Int)<l.length:=ae;simp only[i64,bV]at hg;by_cases c1:OK k=true
  ·have K6:=of_decide_eq_true c1;rw[c1]at hg;cases i with
   |zero =>
    simp only[zI,simprocAttr,-D7,iD,bD,aT,h0,h5,h6,h3,aA,hk];refine cu mix [] [] ?_;simp only[zI,simprocAttr,-D7,iD,bD,aT,h0,h5,h6,h3,aA,hk,aj0,aka,gt_iff_lt];refine Fk hg ?_;simp only[zI,simprocAttr,-D7,iD,bD,aT,h0,h5,h6,h3,aA,hk,aj0,aka,gt_iff_lt];refine⟨l.length-1,_,_,ae,bA.cut (s':=[]) 0 ae rfl rfl [0,5,6,7] (by simp [bK,aS,aj,h0,h5,h6,h3,i64]),1,rfl,az,?_,?_,?_,?_,rfl,?_,?_⟩ <;> (try simp only[zU,pZ,jN,oN,oV,reduceIte])
    ·exact h0
    ·exact h5
    ·exact h6
    ·rw[bG _ ae];rfl
    ·rw[jO,oM,show decide (0<=k.1/\k.1<=k.2/\k.2<=1114111/\fM l 0+1<k.1)=true from bi ⟨K6.1,K6.2.1,K6.2.2,by show (-2:Int)+1<k.1;omega⟩];rfl
    ·intro _;rw[oM];omega
   |succ j =>
    obtain⟨kp,zv⟩:∃k,l[j]?=some k:=⟨_,List.getElem?_eq_getElem (by omega:j<l.length)⟩
    have IK:fM l (j+1)=kp.2:=by simp [fM,zv]
    have mj:=mj ae;rw[IK]at mj jO;have w1:IntKind.i64.wrap (((j+1:Nat):Int)-1)=(j:Int):=by rw[bG _ ae];omega
    have w2:IntKind.i64.wrap (k.1-kp.2)=k.1-kp.2:=bG _ ae;have w3:IntKind.i64.wrap (kp.2+2)=kp.2+2:=bG _ ae;have p0:(0:Int)<((j+1:Nat):Int):=ae;have q1:(0:Int)<=(j:Int):=ae;have q2:(j:Int)<l.length:=ae;by_cases c2:k.1<kp.2+2
    ·have c2':=eq_true c2;simp only[zI,simprocAttr,-D7,iD,bD,aT,h0,h5,h6,h3,aA,hk,zv,w1,w2,w3,p0,q1,q2,aj0,gt_iff_lt];refine cu mix [] [] ?_;simp only[zI,simprocAttr,-D7,iD,bD,aT,h0,h5,h6,h3,aA,hk,zv,w1,w2,w3,p0,q1,q2,c2',aj0,gt_iff_lt];refine Fk hg ?_;simp only[zI,simprocAttr,-D7,iD,bD,aT,h0,h5,h6,h3,aA,hk,zv,w1,w2,w3,p0,q1,q2,c2',aj0,gt_iff_lt];have:zh l=1:=by unfold zh;rw[ap];rw[jO,ce ae];simp
     rw[this]
    ·have c2':=c2;simp only[zI,simprocAttr,-D7,iD,bD,aT,h0,h5,h6,h3,aA,hk,zv,w1,w2,w3,p0,q1,q2,aj0,gt_iff_lt];refine cu mix [] [] ?_;simp only[zI,simprocAttr,-D7,iD,bD,aT,h0,h5,h6,h3,aA,hk,zv,w1,w2,w3,p0,q1,q2,c2',aj0,gt_iff_lt];refine Fk hg ?_;simp only[zI,simprocAttr,-D7,iD,bD,aT,h0,h5,h6,h3,aA,hk,zv,w1,w2,w3,p0,q1,q2,c2',aj0,gt_iff_lt];refine⟨l.length-(j+1+1),_,_,ae,bA.cut (s':=[]) 0 ae rfl rfl [0,5,6,7] (by simp [bK,aS,aj,h0,h5,h6,h3,i64]),j+1+1,rfl,az,?_,?_,?_,?_,rfl,?_,?_⟩ <;> (try simp only[zU,pZ,jN,oN,oV,reduceIte])
     ·exact h0
     ·exact h5
     ·exact h6
     ·rw[bG _ ae];rfl
     ·rw[jO,oM,show decide (0<=k.1/\k.1<=k.2/\k.2<=1114111/\kp.2+1<k.1)=true from bi ae];rfl
     ·intro _;rw[oM];omega
  ·have c1:OK k=false:=by simpa using c1
   have K6:=of_decide_eq_false c1;rw[c1]at hg;simp only[zI,simprocAttr,-D7,iD,bD,aT,h0,h5,h6,h3,aA,hk];refine cu mix [] [] ?_;simp only[zI,simprocAttr,-D7,iD,bD,aT,h0,h5,h6,h3,aA,hk,aj2];refine Fk hg ?_;simp only[zI,simprocAttr,-D7,iD,bD,aT,h0,h5,h6,h3,aA,hk,aj2];have:zh l=1:=by unfold zh;rw[ap];rw[jO,ce ae];simp
   rw[this]
 ·have dX:i=l.length:=by omega
  subst dX;have aA:¬(l.length:Int)<l.length:=ae;have kA:jS 1114111 (-2) l=true:=by rw[jO];simp [jS]
  unfold zh;rw[be kA];by_cases c:64<l.length
  ·have c':(64:Int)<(l.length:Int):=by omega
   rw[be c];simp only[zI,simprocAttr,-D7,iD,bD,h0,h5,h6,h3,aA,c',gt_iff_lt]
  ·have c':¬(64:Int)<(l.length:Int):=by omega
   rw[ap c];simp only[zI,simprocAttr,-D7,iD,bD,h0,h5,h6,h3,aA,c',gt_iff_lt]
structure IG where
 pc:Int
 aF:List Int
structure JI where
 added:List Bool
 qg:List IG
def bu (g:dk) (n:Int):bM:=g.ins.getD n.toNat ⟨0,0,0,0,[]⟩
def nF (g:dk) (t:List Int) (at_:Int):Nat->Int->List Int->JI->JI
 |0,_,_,st=>st
 |k+1,pc,aF,st =>
  if st.added.getD pc.toNat true=true then st
  else
   let st:JI:=⟨st.added.set pc.toNat true,st.qg⟩
   let x:=bu g pc
   if x.op=2 then nF g t at_ k x.y aF (nF g t at_ k x.x aF st)
   else if x.op=3 then nF g t at_ k x.x aF st
   else if x.op=4 then nF g t at_ k (pc+1) (aF.set x.n.toNat at_) st
   else if x.op=5 then (if bL x.n t at_=true then nF g t at_ k (pc+1) aF st else st)
   else ⟨st.added,st.qg++[⟨pc,aF⟩]⟩
structure dk.eF (g:dk):Prop where
 BA:1<=g.ins.length
 Du:g.ins.length<=8192
 Jd:0<=g.ai
 Rs:g.ai<=9
 aa3:∀x∈g.ins,x.set.length<=64
 split:∀(i:Nat) (x:bM),g.ins[i]?=some x->x.op=2->0<=x.x/\x.x<g.ins.length/\0<=x.y/\x.y<g.ins.length
 jump:∀(i:Nat) (x:bM),g.ins[i]?=some x->x.op=3->0<=x.x/\x.x<g.ins.length
 save:∀(i:Nat) (x:bM),g.ins[i]?=some x->x.op=4->0<=x.n/\x.n<2*g.ai
 assert:∀(i:Nat) (x:bM),g.ins[i]?=some x->x.op=5->0<=x.n/\x.n<=5
 next:∀(i:Nat) (x:bM),g.ins[i]?=some x->(x.op=1\/4<=x.op)->i+1<g.ins.length
 ops:∀x∈g.ins,0<=x.op/\x.op<=5
def free (l:List Bool):Nat:=l.countP (λb=>!b)
theorem Se {l:List Bool}{i:Nat} (h:l.getD i true=false):free (l.set i true)+1=free l:=by
 induction l generalizing i with
 |nil=>simp at h
 |cons b l ih =>
  cases i with
  |zero=>simp at h;subst h;simp [free]
  |succ i =>
   have:=ih (i:=i) (by simpa using h);unfold free at *;simp only[akf,List.countP_cons];omega
theorem qF (g:dk) (t:List Int) (at_:Int):∀(k:Nat) (pc:Int) (aF:List Int) (st:JI),(nF g t at_ k pc aF st).added.length=st.added.length/\free (nF g t at_ k pc aF st).added<=free st.added /\
  (nF g t at_ k pc aF st).qg.length+free (nF g t at_ k pc aF st).added<=st.qg.length+free st.added
 |0,_,_,st=>by simp [nF]
 |k+1,pc,aF,st=>by
  rw[nF];by_cases h:st.added.getD pc.toNat true=true
  ·rw[be h];simp
  rw[ap h];have hf:=Se (l:=st.added) (i:=pc.toNat) (by simpa using h);have hl:(st.added.set pc.toNat true).length=st.added.length:=ak;simp only;generalize bH:(⟨st.added.set pc.toNat true,st.qg⟩:JI)=bF;have e1:bF.added=st.added.set pc.toNat true:=by rw[<- bH]
  have e2:bF.qg=st.qg:=by rw[<- bH]
  have hf0:=hf;have pU:=hl;rw[<- e1]at hf hl;split
  ·have h1:=qF g t at_ k (bu g pc).x aF bF;have h2:=qF g t at_ k (bu g pc).y aF (nF g t at_ k (bu g pc).x aF bF);rw[e2]at h1;omega
  split
  ·have h1:=qF g t at_ k (bu g pc).x aF bF;rw[e2]at h1;omega
  split
  ·have h1:=qF g t at_ k (pc+1) (aF.set (bu g pc).n.toNat at_) bF;rw[e2]at h1;omega
  split
  ·split
   ·have h1:=qF g t at_ k (pc+1) aF bF;rw[e2]at h1;omega
   ·rw[e2];omega
  ·show (st.added.set pc.toNat true).length=_/\free (st.added.set pc.toNat true)<=_/\(st.qg++[(⟨pc,aF⟩:IG)]).length+free (st.added.set pc.toNat true)<=_;simp only[ajQ,ajW,ajX];omega
theorem iP {g:dk}{pc:Int} (h0:0<=pc) (h1:pc<g.ins.length):g.ins[pc.toNat]?=some (bu g pc):=by unfold bu;rw[List.getD,List.getElem?_eq_getElem (by omega:pc.toNat<g.ins.length)];rfl
theorem Zq (l:List Int):∀e∈(l.map λx=>[iD x]).map (λx=>x.map V.d),e.length=1:=λe he=>by obtain⟨x,hx,rfl⟩:=List.mem_map.1 he;obtain⟨p,_,rfl⟩:=List.mem_map.1 hx;rfl
def qb (g:dk):Nat:=g.ins.length+1
def ts (g:dk):JI:=⟨List.replicate g.ins.length false,[]⟩
structure AF where
 at_:Int
 st:JI
def UB (g:dk) (t:List Int) (at_:Int):AF:=⟨at_,nF g t at_ (qb g) 0 (List.replicate (2*g.ai).toNat (-1)) (ts g)⟩
def np (g:dk):VL.Obj:=⟨0,true,3,[[.d (.sl (g.ins.map bM.cells)),i64 g.ai,bV g.aB]]⟩
structure IG.ok (g:dk) (x:IG):Prop where
 p0:0<=x.pc
 p1:x.pc<g.ins.length
 aF:x.aF.length=(2*g.ai).toNat
 op:(bu g x.pc).op=0\/(bu g x.pc).op=1
def gN (g:dk):List IG->List IG×Bool
 |[]=>([],false)
 |x::l=>if (bu g x.pc).op=0 then ([x],true) else (x::(gN g l).1,(gN g l).2)
def hasB (l:List (Int×Int)) (x:Int):Bool:=l.any λs=>decide (s.1<=x/\x<=s.2)
def FT (g:dk) (t:List Int) (at_:Int) (st:JI) (x:IG):JI :=
 if (bu g x.pc).op=1/\hasB (bu g x.pc).set (mG t at_)=true then nF g t (at_+1) (qb g) (x.pc+1) x.aF st else st
def Xf (g:dk) (t:List Int) (at_:Int) (l:List IG):JI:=l.foldl (FT g t at_) (ts g)
def Uq (g:dk) (t:List Int) (l:AF):AF:=⟨l.at_+1,Xf g t l.at_ (gN g l.st.qg).1⟩
def sS (n x:Int):Bool:=decide (0<=x/\x<n)
def Ua (aB:Bool) (l:List (Int×Int)):Bool:=aB||(match l[l.length-1]? with|none=>true|some s=>decide (s.2<=255))
def oG (n ai:Int) (aB:Bool) (x:bM):Bool :=
 if x.op=0 then true else if x.op=1 then decide (zh x.set=0)&&Ua aB x.set else if x.op=2 then sS n x.x&&sS n x.y else if x.op=3 then sS n x.x
 else if x.op=4 then decide (0<=x.n/\x.n<2*ai) else if x.op=5 then decide (0<=x.n/\x.n<=5) else false
def db (x:bM):Bool:=decide ((x.op≠1->x.set.length=0)/\(x.op≠2->x.y=0)/\(x.op≠2->x.op≠3->x.x=0)/\(x.op≠4->x.op≠5->x.n=0))
def jw (n ai:Int) (aB:Bool) (x:bM):Bool:=db x&&oG n ai aB x
def rl (g:dk):Int:=match g.ins[g.ins.length-1]? with|none=>0|some x=>x.op
def m9 (g:dk):Int :=
 if 8192<g.ins.length then 4 else if g.ins.length=0\/g.ai<0\/9<g.ai then 1
 else if g.ins.all (jw g.ins.length g.ai g.aB)=true then (if rl g=1\/4<=rl g then 1 else 0) else 1
end Go.Proofs.YtjjfioalgbecmaaGreat
namespace Go.Proofs.YtjjfioalgbecmaaGreat
open Go.VL Go.Proofs.Tryz
end Go.Proofs.YtjjfioalgbecmaaGreat
namespace Go.Proofs.YtjjfioalgbecmaaGreat
open Go.VL Go.Proofs.Tryz
variable{p:iM}{most:Int}{t:List Int}{hi:Int}{ai:Int}{aB:Bool}{lo:Int}{a:Int}{l:List Re}
def zk (aF:List Int) (j:Nat):Int×Int :=
 if aF.getD (2*j) 0=-1\/aF.getD (2*j+1) 0=-1 then (-1,-1) else (aF.getD (2*j) 0,aF.getD (2*j+1) 0)
def CZ (c:Nat) (aF:List Int):aH:=(List.range c).map (zk aF)
theorem xz {l:List Int}{i:Nat} (h:i<l.length):l[i]?=some (l.getD i 0):=by rw[List.getD,List.getElem?_eq_getElem h];rfl
theorem OT {g:dk} (h:m9 g=0):g.eF:=by
 unfold m9 at h;by_cases c1:8192<g.ins.length
 ·rw[be c1]at h;omega
 rw[ap c1]at h;by_cases c2:g.ins.length=0\/g.ai<0\/9<g.ai
 ·rw[be c2]at h;omega
 rw[ap c2]at h;have c3:g.ins.all (jw g.ins.length g.ai g.aB)=true:=by
  cases hc:g.ins.all (jw g.ins.length g.ai g.aB) with
  |true=>rfl
  |false=>rw[ap (by rw[hc];simp)]at h;omega
 rw[be c3]at h;by_cases c4:rl g=1\/4<=rl g
 ·rw[be c4]at h;omega
 rw[aj3]at c3;have wH:∀x∈g.ins,db x=true/\oG g.ins.length g.ai g.aB x=true:=λx hx=>by have:=c3 x hx;unfold jw at this;rwa [aj5]at this
 have ae2:∀x∈g.ins,0<=x.op/\x.op<=5:=λx hx=>by
  have:=(wH x hx).2;unfold oG at this;by_cases o0:x.op=0
  ·omega
  by_cases o1:x.op=1
  ·omega
  by_cases o2:x.op=2
  ·omega
  by_cases o3:x.op=3
  ·omega
  by_cases o4:x.op=4
  ·omega
  by_cases o5:x.op=5
  ·omega
  rw[ap o0,ap o1,ap o2,ap o3,ap o4,ap o5]at this;cases this
 refine⟨ae,ae,ae,ae,λx hx=>?_,λi x hx o=>?_,λi x hx o=>?_,λi x hx o=>?_,λi x hx o=>?_,λi x hx o=>?_,ae2⟩
 ·obtain⟨hu,ho⟩:=wH x hx;by_cases o1:x.op=1
  ·unfold oG at ho;rw[bd,be o1,aj5]at ho;have:=of_decide_eq_true ho.1;unfold zh at this;split at this
   ·split at this
    ·omega
    ·omega
   ·omega
  ·have:=(of_decide_eq_true hu).1 o1;omega
 ·have ho:=(wH x (List.mem_of_getElem? hx)).2;unfold oG sS at ho;rw[bd,bd,be o,aj5,decide_eq_true_eq,decide_eq_true_eq]at ho;omega
 ·have ho:=(wH x (List.mem_of_getElem? hx)).2;unfold oG sS at ho;rw[bd,bd,bd,be o,decide_eq_true_eq]at ho;omega
 ·have ho:=(wH x (List.mem_of_getElem? hx)).2;unfold oG at ho;rw[bd,bd,bd,bd,be o,decide_eq_true_eq]at ho;exact ho
 ·have ho:=(wH x (List.mem_of_getElem? hx)).2;unfold oG at ho;rw[bd,bd,bd,bd,bd,be o,decide_eq_true_eq]at ho;exact ho
 ·have az:=(List.getElem?_eq_some_iff.1 hx).1;rcases akd (i+1) g.ins.length with h'|h'
  ·exact h'
  ·exfalso;have hi:g.ins.length-1=i:=ae;apply c4;unfold rl;rw[hi,hx];exact o
def Nq (g:dk) (t:List Int) (at_:Int):Int:=if m9 g≠0 then m9 g else if 65536<t.length then 4 else if at_<0\/(t.length:Int)<at_ then 5 else 0
def Pfx (N:Nat) (st':bO) (o:Option (Bool×bO)):Prop :=
 (st'.ends.length<N/\o=some (false,st'))\/(N<=st'.ends.length/\∃s2,o=some (true,s2)/\s2.empty=false/\s2.steps<=st'.steps/\s2.ends=st'.ends.take N/\s2.ai=st'.ai.take N)
theorem MU{i f:Int} (h:sW p t i most f=0):ib p t f=0/\0<=i/\i<=t.length/\(iW p t i most f).2.empty=false:=by
 unfold sW at h;by_cases c1:ib p t f≠0
 ·rw[be c1]at h;exact absurd h c1
 rw[ap c1]at h;have c1:ib p t f=0:=by simpa using c1
 by_cases c2:i<0\/(t.length:Int)<i
 ·rw[be c2]at h;omega
 rw[ap c2]at h;by_cases c3:(iW p t i most f).2.empty=true
 ·rw[be c3]at h;omega
 ·exact⟨c1,ae,ae,by simpa using c3⟩
theorem Qr{i f:Int} (hv:ib p t f=0) (h0:0<=i) (h1:i<=t.length) (he:(iW p t i most f).2.empty=false):sW p t i most f=0:=by unfold sW;rw[ap (by rw[hv];simp),bd,ap (by rw[he];simp)]
theorem AQ (ai:Int) (h0:0<=ai) (h1:ai<=9):cS ⟨.mk 0 [] [] 0 0 0 0 false,ai,false⟩=0:=by
 have hw:Re.whole (.mk 0 [] [] 0 0 0 0 false) ai (gH false)=true:=by rw[Re.whole,Re.aD];refine⟨?_,λk hk=>by simp [Re.kids]at hk⟩;simp [bU,Re.op,Re.kids,Re.set,Re.mn,Re.mx,Re.mode,Re.n,Re.neg,cr]
 have hs:Re.size (.mk 0 [] [] 0 0 0 0 false)=1:=cB;have hd:Re.depth (.mk 0 [] [] 0 0 0 0 false)=1:=cB;unfold cS;rw[ap (by show ¬(256<Re.size (.mk 0 [] [] 0 0 0 0 false)\/24<Re.depth (.mk 0 [] [] 0 0 0 0 false));rw[hs,hd];omega),ap];show ¬(ai<0\/9<ai\/Re.whole (.mk 0 [] [] 0 0 0 0 false) ai (gH false)=false);rw[hw];simp;omega
theorem NL (ai:Int) (h0:0<=ai) (h1:ai<=9) (F:Int) (hF0:1<=F) (hF1:F<=1099511627776):sW ⟨.mk 0 [] [] 0 0 0 0 false,ai,false⟩ [] 0 (-1) F=0:=by
 have hv7:ib ⟨.mk 0 [] [] 0 0 0 0 false,ai,false⟩ [] F=0:=by unfold ib;rw[ap (by rw[AQ ai h0 h1];simp),ap ak,ap ak,bd]
 refine Qr hv7 (akc _) ak ?_;obtain⟨n,e1,e2⟩:=Av (most:=-1) hv7 (akc 0) ak;have hlen:(qj ⟨.mk 0 [] [] 0 0 0 0 false,ai,false⟩).length<=9:=by unfold qj;rw[akK];show ai.toNat<=9;omega
 have Qo:iw [] F 3 (-1) (.run (.mk 0 (.mk 0 [] [] 0 0 0 0 false) 0 0 .nil) 0 (qj ⟨.mk 0 [] [] 0 0 0 0 false,ai,false⟩)) ⟨0,false,[],[]⟩=some (false,⟨1,false,[0],[qj ⟨.mk 0 [] [] 0 0 0 0 false,ai,false⟩]⟩):=by
  generalize qj ⟨.mk 0 [] [] 0 0 0 0 false,ai,false⟩=c at *;show cM [] F (iw [] F 2) (-1) (.run (.mk 0 (.mk 0 [] [] 0 0 0 0 false) 0 0 .nil) 0 c) ⟨0,false,[],[]⟩=_;have bH:(bO.step F ⟨0,false,[],[]⟩)=⟨1,false,[],[]⟩:=by simp only[bO.step,akl];congr 1;exact ce ae
  simp only[cM];rw[ap ak,ap aU,ap aU,ap aU,ap aU];show cM [] F (iw [] F 1) (-1) (.node (.mk 0 (.mk 0 [] [] 0 0 0 0 false) 0 0 .nil) 0 c) ⟨0,false,[],[]⟩=_;simp only[cM];rw[ap ak,ap (by simp [Re.op]),ap (by simp [Re.set,Re.kids];omega),ap ak,bH,ap ak];unfold fG;rw[ap (show ¬(Re.mk 0 [] [] 0 0 0 0 false).op=1 by decide),ap (show ¬(Re.mk 0 [] [] 0 0 0 0 false).op=2 by decide),ap (show ¬(Re.mk 0 [] [] 0 0 0 0 false).op=3 by decide),ap (show ¬(Re.mk 0 [] [] 0 0 0 0 false).op=5 by decide),ap (show ¬(Re.mk 0 [] [] 0 0 0 0 false).op=6 by decide),ap (show ¬((Re.mk 0 [] [] 0 0 0 0 false).op=7\/(Re.mk 0 [] [] 0 0 0 0 false).op=8) by decide),ap (show ¬(Re.mk 0 [] [] 0 0 0 0 false).op=9 by decide),ap (show ¬(Re.mk 0 [] [] 0 0 0 0 false).op=10 by decide),ap (show ¬(Re.mk 0 [] [] 0 0 0 0 false).op=11 by decide)];show cM [] F (iw [] F 0) (-1) (.run .nil 0 c) ⟨1,false,[],[]⟩=_;simp only[cM];rw[ap ak,be ak];simp
 have hX:iW ⟨.mk 0 [] [] 0 0 0 0 false,ai,false⟩ [] 0 (-1) F=_:=Te Qo;rw[hX]
theorem FQ {p:iM}{t:List Int}{F:Int} (hv:cS p=0) (hf:p.re.dx=true) (hF0:1<=F) (hF1:F<=1099511627776):∀n,n<=t.length+1->(∀i:Int,0<=i->i<=(dR p t F n).2.length->sW (dR p t F n).1 (dR p t F n).2 i (-1) F=0)/\(dR p t F n).1.re.dx=true/\(dR p t F n).2.length<=t.length
 |0,_=>by
  obtain⟨_,_,k3,k4,_⟩:=ed hv;refine⟨λi h0 h1=>?_,cB,alf _⟩;have h1:i<=0:=by simpa [dR]using h1
  have:i=0:=ae;subst this;exact NL p.ai k3 k4 F hF0 hF1
 |n+1,hn=>by
  simp only[dR];by_cases c:(List.range (n+1)).all (wT p t n F)=true
  ·rw[be c];refine⟨λi h0 h1=>?_,hf,by rw[akH];omega⟩;have hl:(t.take n).length=n:=by rw[akH];omega
   have h1:i<=((t.take n).length:Int):=h1;rw[hl]at h1;have:=List.all_eq_true.1 c i.toNat (List.mem_range.2 ae);unfold wT at this;have:=of_decide_eq_true this;rwa [show ((i.toNat:Nat):Int)=i by omega]at this
  ·rw[ap c];exact FQ hv hf hF0 hF1 n ae
structure y3 (p:iM) (t:List Int):Prop where
 eF:∀i:Int,0<=i->i<=t.length->sW p t i (-1) 3000=0
 valid:cS p=0
 dx:p.re.dx=true
 ag8:0<=p.re.fh
 fh:p.re.fh<=4000
 len:t.length<=12
 aB:p.aB=false
theorem OB (p:iM) (t:List Int) (F:Int):∀n,(dR p t F n).1=p\/(dR p t F n).1=⟨.mk 0 [] [] 0 0 0 0 false,p.ai,false⟩
 |0=>.inr rfl
 |n+1=>by
  rw[dR];split
  ·exact .inl rfl
  ·exact OB p t F n
theorem WA (l m:List Int) (hl:∀x∈l,l9 x) (hm:∀x∈m,l9 x) (u:Int) (hu:Ym u):∃(p:iM) (t:List Int),aM prog 21 [.d (ao l),.d (ao m),i64 u,i64 24,i64 3000] (.tu [bI p,.d (ao t)]) /\
  y3 p t/\p.re.every (ZT (Np u))=true:=by
 obtain⟨hv,eZ⟩:=Al l u 24 hl ae ae;have hsm:=GV l u 24 hl ae ae;have Sr:(ma l u 24).re.dx=true:=DX ae _ hsm.ev;have Kb:(nh m 12).length<=12:=by simp [nh];omega
 obtain⟨g1,g2,g3⟩:=FQ (p:=ma l u 24) (t:=nh m 12) (F:=3000) hv Sr ae ae ((nh m 12).length+1) (ajZ _);obtain⟨s0,s1,s2⟩:=X7 l u 24 hu;obtain⟨v1,v2,v3,v4,v5⟩:=ed hv;have xA:=OB (ma l u 24) (nh m 12) 3000 ((nh m 12).length+1);refine⟨_,_,WM l m hl hm u 24 3000 ae ae,?_,?_⟩
 ·rcases xA with h|h
  ·exact⟨g1,by rw[h];exact hv,g2,by rw[h];exact s0,by rw[h];exact s1,ae,by rw[h];rfl⟩
  ·refine⟨g1,?_,g2,?_,?_,ae,by rw[h]⟩
   ·rw[h];exact AQ _ v3 v4
   ·rw[h];show 0<=kD 0 0 0 _ _;simp [kD,Re.cF];decide
   ·rw[h];show kD 0 0 0 _ _<=4000;simp [kD,Re.cF];decide
 ·rcases xA with h|h
  ·rw[h];exact s2
  ·rw[h];exact oo (bi ⟨.inl rfl,λh=>absurd (show (0:Int)=4 from h) aU,λh=>absurd (show (0:Int)=5 from h) aU⟩) (λk hk=>by cases hk)
theorem Lb (l m:List Int) (hl:∀x∈l,l9 x) (hm:∀x∈m,l9 x) (b:Bool):∃(p:iM) (t:List Int),aM prog 13 [.d (ao l),.d (ao m),bV b] (.tu [bI p,.d (ao t)])/\y3 p t/\p.re.comp []=true:=by
 have fits:=λu hu=>WA l m hl hm u hu;have two:∀u u':Int,Ym u->Ym u'->Np u'=false->IntKind.i64.wrap (u-64)=u'->(b=false->u=64)->(b=true->kg .or .i64 64 16=u)->∃(p:iM) (t:List Int),aM prog 13 [.d (ao l),.d (ao m),bV b] (.tu [bI p,.d (ao t)])/\y3 p t/\p.re.comp []=true:=by
  intro u u' hu JC Rl hw hb0 iC;obtain⟨p,t,h1,h2,h3⟩:=fits u hu;obtain⟨p',t',h1',h2',h3'⟩:=fits u' JC;obtain⟨v1,v2,v3,v4,v5⟩:=ed h2.valid;have hC:=HH v4 p.re v5 ae;have gV:=Wy p.re [] (RX hC) ae cC;cases qf:p.re.comp []with
  |true =>
   refine⟨p,t,?_,h2,qf⟩;rw[qf]at gV;clear h1' h3 h3';cases p with
   |mk re ai aB =>
   simp only[bI,Re.ah re,ajR,ajV,ajN,ajO,av re,i64,iD,bD,bV]at h1 gV ⊢;cases b with
   |false =>
    have:=hb0 rfl;subst this;refine bo func13 ntmps13 results13 0 1991 ?_;simp only[zX,jN,oN,oP,oR,oS,B6,D0,D4,D5,D6,oV,oW,oX,reduceIte,reduceCtorEq,pZ,i64,bV,ajY];refine dY h1 ?_;simp only[zX,jN,oN,oP,oR,oS,B6,D0,D4,D5,D6,oV,oW,oX,reduceIte,reduceCtorEq,pZ,i64,bV,iD,bD];refine bE [] cB (dY gV ?_);simp only[zX,jN,oN,oP,oR,oS,B6,D0,D4,D5,D6,oV,oW,oX,reduceIte,reduceCtorEq,pZ,br,i64,bV,iD,bD,aj0,ajY];all_goals exact dW
   |true =>
    have hor:=iC rfl;refine bo func13 ntmps13 results13 0 1991 ?_;simp only[zX,jN,oN,oP,oR,oS,B6,D0,D4,D5,D6,oV,oW,oX,reduceIte,reduceCtorEq,pZ,i64,bV,hor];refine dY h1 ?_;simp only[zX,jN,oN,oP,oR,oS,B6,D0,D4,D5,D6,oV,oW,oX,reduceIte,reduceCtorEq,pZ,i64,bV,iD,bD];refine bE [] cB (dY gV ?_);simp only[zX,jN,oN,oP,oR,oS,B6,D0,D4,D5,D6,oV,oW,oX,reduceIte,reduceCtorEq,pZ,br,i64,bV,iD,bD,aj0,ajY];all_goals exact dW
  |false =>
   refine⟨p',t',?_,h2',SH _ (by rw[<- Rl];exact h3') []⟩;rw[qf]at gV;clear h3 h3';cases p with
   |mk re ai aB =>
   cases p' with
   |mk re' FY ael =>
   simp only[bI,Re.ah re,Re.ah re',ajR,ajV,ajN,ajO,av re,i64,iD,bD,bV]at h1 h1' gV ⊢;cases b with
   |false =>
    have:=hb0 rfl;subst this;refine bo func13 ntmps13 results13 0 1991 ?_;simp only[zX,jN,oN,oP,oR,oS,B6,D0,D4,D5,D6,oV,oW,oX,reduceIte,reduceCtorEq,pZ,i64,bV,ajY];refine dY h1 ?_;simp only[zX,jN,oN,oP,oR,oS,B6,D0,D4,D5,D6,oV,oW,oX,reduceIte,reduceCtorEq,pZ,i64,bV,iD,bD];refine bE [] cB (dY gV ?_);simp only[zX,jN,oN,oP,oR,oS,B6,D0,D4,D5,D6,oV,oW,oX,reduceIte,reduceCtorEq,pZ,br,i64,bV,iD,bD,aj2,hw];refine dY h1' ?_;simp only[zX,jN,oN,oP,oR,oS,B6,D0,D4,D5,D6,oV,oW,oX,reduceIte,reduceCtorEq,pZ,i64,bV,iD,bD];all_goals exact dW
   |true =>
    have hor:=iC rfl;refine bo func13 ntmps13 results13 0 1991 ?_;simp only[zX,jN,oN,oP,oR,oS,B6,D0,D4,D5,D6,oV,oW,oX,reduceIte,reduceCtorEq,pZ,i64,bV,hor];refine dY h1 ?_;simp only[zX,jN,oN,oP,oR,oS,B6,D0,D4,D5,D6,oV,oW,oX,reduceIte,reduceCtorEq,pZ,i64,bV,iD,bD];refine bE [] cB (dY gV ?_);simp only[zX,jN,oN,oP,oR,oS,B6,D0,D4,D5,D6,oV,oW,oX,reduceIte,reduceCtorEq,pZ,br,i64,bV,iD,bD,aj2,hw];refine dY h1' ?_;simp only[zX,jN,oN,oP,oR,oS,B6,D0,D4,D5,D6,oV,oW,oX,reduceIte,reduceCtorEq,pZ,i64,bV,iD,bD];all_goals exact dW
 cases b with
 |false=>exact two 64 0 ⟨aU,aU,aU,aU,aU⟩ ⟨aU,aU,aU,aU,aU⟩ aU aU (λ_=>rfl) (λh=>by cases h)
 |true=>exact two 80 16 ⟨aU,aU,aU,aU,aU⟩ ⟨aU,aU,aU,aU,aU⟩ aU aU (λh=>by cases h) (λ_=>aU)
structure sw (lo hi ai:Int) (aB:Bool) (x:bM):Prop where
 un:db x=true
 op:x.op=0\/(x.op=1/\zh x.set=0/\Ua aB x.set=true)\/(x.op=2/\lo<=x.x/\x.x<=hi/\lo<=x.y/\x.y<=hi)\/(x.op=3/\lo<=x.x/\x.x<=hi)\/(x.op=4/\0<=x.n/\x.n<2*ai)\/(x.op=5/\0<=x.n/\x.n<=5)
theorem sw.mono {UJ hi':Int}{x:bM} (h:sw lo hi ai aB x) (h1:UJ<=lo) (h2:hi<=hi'):sw UJ hi' ai aB x:=⟨h.un,by
 rcases h.op with o|o|o|o|o
 ·exact .inl o
 ·exact .inr (.inl o)
 ·exact .inr (.inr (.inl ae))
 ·exact .inr (.inr (.inr (.inl ae)))
 ·exact .inr (.inr (.inr (.inr ae)))⟩
theorem HO {b mode:Int} (h:lo<=a/\a<=hi/\lo<=b/\b<=hi):sw lo hi ai aB (wN mode a b):=by
 unfold wN;split
 ·exact⟨by simp [db],cC⟩
 ·exact⟨by simp [db],cC⟩
theorem Po (h:lo<=a/\a<=hi):sw lo hi ai aB (sC a):=⟨by simp [db,sC],by simp [sC];omega⟩
theorem O6 (h:0<=a/\a<2*ai):sw lo hi ai aB (mc a):=⟨by simp [db,mc],by simp [mc];omega⟩
theorem wv {c:Int->List bM}{x:bM}:∀(k:Nat) (f:Int),x∈bB c k f->∃j,f<=j/\j+((c j).length:Int)<=f+(bB c k f).length/\x∈c j
 |0,f,h=>by simp [bB]at h
 |k+1,f,h=>by
  rw[bB]at h ⊢;rw[ajQ];rcases List.mem_append.1 h with h|h
  ·obtain⟨j,h1,h2,h3⟩:=wv k f h;exact⟨j,h1,by push_cast;omega,h3⟩
  ·exact⟨_,ae,by push_cast;omega,h⟩
theorem As {c:Int->List bM}{mode fin:Int}{x:bM}:∀(k:Nat) (f:Int),x∈c8 c mode fin k f->∃j,f<=j/\j+((c j).length:Int)<=f+(c8 c mode fin k f).length/\(x∈c j\/x=wN mode j fin)
 |0,f,h=>by simp [c8]at h
 |k+1,f,h=>by
  rw[c8]at h ⊢;rw[ajQ,ajW];rcases List.mem_append.1 h with h|h
  ·obtain⟨j,h1,h2,h3⟩:=As k f h;exact⟨j,h1,by push_cast;omega,h3⟩
  ·rcases List.mem_cons.1 h with h|h
   ·exact⟨_,ae,by push_cast;omega,.inr h⟩
   ·exact⟨_,ae,by push_cast;omega,.inl h⟩
theorem MP (h:∀k∈l,∀f,∀x∈k.code f,sw f (f+(k.code f).length) ai aB x):∀f,∀x∈Re.da l f,sw f (f+(Re.da l f).length) ai aB x:=by
 induction l with
 |nil=>intro f x hx;simp [Re.da]at hx
 |cons k l ih =>
  intro f x hx;have h1:=h k ak f;have h2:=ih (λy hy=>h y (by simp [hy])) (f+(k.code f).length);rw[Re.da]at hx ⊢;rw[ajQ];rcases List.mem_append.1 hx with hx|hx
  ·exact(h1 x hx).mono (akc _) (by push_cast;omega)
  ·exact(h2 x hx).mono ae (by push_cast;omega)
theorem Nh (h:∀k∈l,∀f,∀x∈k.code f,sw f (f+(k.code f).length) ai aB x):∀f,∀x∈Re.dJ l f,sw f (f+(Re.dJ l f).length) ai aB x:=by
 induction l with
 |nil=>intro f x hx;simp [Re.dJ]at hx
 |cons k l ih =>
  intro f x hx;cases l with
  |nil =>
   simp only[Re.dJ]at hx ⊢;exact h k ak f x hx
  |cons k2 l2 =>
   have h1:=h k ak (f+1);have h2:=ih (λy hy=>h y (by simp only[akD]at hy ⊢;exact .inr hy)) (f+(k.code (f+1)).length+2);rw[Re.dJ]at hx ⊢;generalize Re.dJ (k2::l2) (f+(k.code (f+1)).length+2)=z at *;simp only[ajW,ajQ]
   push_cast
   simp only[akD,akm]at hx;rcases hx with rfl|hx|rfl|hx
   ·exact HO ae
   ·exact(h1 x hx).mono ae ae
   ·exact Po ae
   ·exact(h2 x hx).mono ae ae
theorem G6 {top Z6:Int} (ht:top<=Z6):∀(l:List (Int×Int)) (p:Int),jS top p l=true->jS Z6 p l=true
 |[],_,_=>rfl
 |s::l,p,h=>by simp only[jS,aj5,decide_eq_true_eq]at h ⊢;exact⟨ae,G6 ht l _ h.2⟩
theorem JK {top:Int}:∀(l:List (Int×Int)) (p:Int),jS top p l=true->∀s∈l,s.2<=top
 |[],_,_,_,hs=>by cases hs
 |a::l,p,h,s,hs=>by
  simp only[jS,aj5,decide_eq_true_eq]at h;rcases List.mem_cons.1 hs with rfl|hs
  ·omega
  ·exact JK l _ h.2 s hs
theorem V6 {top:Int} (OX:0<=ai) (wJ:ai<=9) (adX:top<=1114111) (hr:aB=true\/top<=255) (re:Re):re.whole ai top=true->re.every ll=true->re.fh<=9000->∀f,∀x∈re.code f,sw f (f+(re.code f).length) ai aB x:=by
 induction re using Re.ind with
 |h re ih =>
 intro hw hs hz f x hx;obtain⟨hw1,U1⟩:=(Re.aD re).1 hw;obtain⟨dM,jA⟩:=(Re.aD re).1 hs;obtain⟨hsc,wH,IL,m7⟩:=gY.1 dM;obtain⟨⟨a1,a2,a3,a4⟩,b,c,d,e⟩:=eG.1 hw1;obtain⟨q1,q2,q3,q4,q5,q6,q7,q8,q9,jc⟩:=fU.1 (ga.1 hsc).1;have hq:=(ga.1 hsc).2;have hlen:=kd re hs hz f;have vA:¬iS re->∀k∈re.kids,∀f,∀x∈k.code f,sw f (f+(k.code f).length) ai aB x:=λhl k hk=>ih k hk (U1 k hk) (jA k hk) (by
  have:=(vu hs hz ⟨λh=>hl (.inr (.inl h)),λh=>hl (.inr (.inr h))⟩).2 k hk;omega)
 rw[Re.lg]at hx hlen ⊢;by_cases o1:re.op=1
 ·rw[be o1]at hx ⊢;rw[be o1]at b;rw[List.mem_singleton.1 hx];unfold gT at b;rw[aj5]at b;have iC:=of_decide_eq_true b.1;refine⟨by simp [db],.inr (.inl ⟨rfl,?_,?_⟩)⟩
  ·show zh re.set=0;unfold zh;rw[be (G6 adX _ _ b.2),bd]
  ·show Ua aB re.set=true;unfold Ua;rcases hr with rfl|hr
   ·rfl
   ·cases hg:re.set[re.set.length-1]? with
    |none=>simp
    |some s =>
     have:=JK _ _ b.2 s (List.mem_of_getElem? hg);simp only[Bool.or_eq_true,decide_eq_true_eq];exact .inr ae
 rw[ap o1]at hx hlen ⊢;by_cases sm:re.op=11
 ·rw[be sm]at hx ⊢;rw[bd,be sm]at d;rw[List.mem_singleton.1 hx];exact⟨by simp [db],cC⟩
 rw[ap sm]at hx hlen ⊢;by_cases o2:re.op=2
 ·rw[be o2]at hx ⊢;exact MP (vA (by unfold iS;omega)) f x hx
 rw[ap o2]at hx hlen ⊢;by_cases o3:re.op=3
 ·rw[be o3]at hx ⊢;exact Nh (vA (by unfold iS;omega)) f x hx
 rw[ap o3]at hx hlen ⊢;by_cases o5:re.op=5
 ·rw[be o5]at hx ⊢;rw[be (.inl o5)]at d;obtain⟨k,hk⟩:∃k,re.kids=[k]:=List.length_eq_one_iff.1 (IL (.inr o5));have vd:=vA (by unfold iS;omega) k (by rw[hk];simp) (f+1);have e0:Re.l6 re.kids (f+1)=k.code (f+1):=by rw[hk];rfl
  rw[e0]at hx ⊢;simp only[ajW,ajQ,ajX]
  push_cast
  simp only[akD,akm,List.not_mem_nil,or_false]at hx;rcases hx with rfl|hx|rfl
  ·exact O6 ae
  ·exact(vd x hx).mono ae ae
  ·exact O6 ae
 rw[ap o5]at hx hlen ⊢;by_cases o4:re.op=4
 ·rw[be o4]at hx hlen ⊢;obtain⟨k,hk⟩:∃k,re.kids=[k]:=List.length_eq_one_iff.1 (IL (.inl o4));have vd:=vA (by unfold iS;omega) k (by rw[hk];simp);have e0:(λi=>Re.l6 re.kids i)=k.code:=uK hk;rw[e0]at hx hlen ⊢;rw[hlen];unfold Ai at hx hlen;simp only at hx hlen;by_cases hm:re.mx=-1
  ·rw[be hm]at hx hlen;simp only[ajQ,ajW,ajX]at hlen
   push_cast at hlen
   simp only[akD,akm,List.not_mem_nil,or_false]at hx;rcases hx with hx|rfl|hx|rfl
   ·obtain⟨j,j1,j2,j3⟩:=wv _ _ hx;exact(vd j x j3).mono ae ae
   ·exact HO ae
   ·exact(vd _ x hx).mono ae ae
   ·exact Po ae
  ·rw[ap hm]at hx hlen;simp only[ajQ]at hlen
   push_cast at hlen
   rcases List.mem_append.1 hx with hx|hx
   ·obtain⟨j,j1,j2,j3⟩:=wv _ _ hx;exact(vd j x j3).mono ae ae
   ·obtain⟨j,j1,j2,j3⟩:=As _ _ hx;rcases j3 with j3|rfl
    ·exact(vd j x j3).mono ae ae
    ·exact HO ae
 rw[ap o4]at hx;cases hx
theorem AN (p:iM) (hv:cS p=0) (hc:p.re.comp []=true) (hz:p.re.fh<=8000):m9 (fH p)=0:=by
 obtain⟨v1,v2,v3,v4,v5⟩:=ed hv;have hC:=HH v4 p.re v5 ae;have hD:=Iv v4 p.re v5 ae [] hc;have hl:=kd p.re hD ae 0;have hr:=fw p.re hC;have hi:=V6 (aB:=p.aB) v3 v4 (by unfold gH;split <;> omega) (by unfold gH;cases p.aB <;> simp) p.re v5 hD ae 0;have hlen:((fH p).ins.length:Int)=p.re.fh+1:=by unfold fH;simp;omega
 unfold m9;rw[bd,ap (by show ¬((fH p).ins.length=0\/p.ai<0\/9<p.ai);omega),be ?_,ap ?_]
 ·have:rl (fH p)=0:=by unfold rl fH;simp [Kf]
  omega
 ·rw[aj3];intro x hx;unfold jw;rcases List.mem_append.1 hx with hx|hx
  ·have h:=hi x hx;have ho:=h.op;rw[h.un,ak5];show oG (fH p).ins.length p.ai p.aB x=true;unfold oG sS;rw[hlen];rcases ho with o|⟨o,ho⟩|⟨o,ho⟩|⟨o,ho⟩|⟨o,ho⟩|⟨o,ho⟩
   ·rw[be o]
   ·rw[bd,be o];simp [ho.1,ho.2]
   ·rw[bd,bd,be o];simp;omega
   ·rw[bd,bd,bd,be o];simp;omega
   ·rw[bd,bd,bd,bd,be o];simp;omega
   ·rw[bd,bd,bd,bd,bd,be o];simp;omega
  ·rw[List.mem_singleton.1 hx];rfl
theorem MT (h:y3 p t) (hc:p.re.comp []=true):(fH p).eF:=OT (AN p h.valid hc (by have:=h.fh;omega))
end Go.Proofs.YtjjfioalgbecmaaGreat
