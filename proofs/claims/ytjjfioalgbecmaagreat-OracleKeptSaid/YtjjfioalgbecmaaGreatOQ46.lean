/- A part of the proof (O80 K30 K31 K32). -/
import Derived.Test.YtjjfioalgbecmaaGreatOQ38
import Derived.Test.YtjjfioalgbecmaaGreatOQ42
import Derived.Test.YtjjfioalgbecmaaGreatOQ45
set_option linter.unusedSimpArgs false
set_option linter.unusedVariables false
open Nat renaming reduceShiftRight → jN, reduceMod → oN, reduceEqDiff → oV, reduceBEq → pZ
set_option maxRecDepth 100000
set_option maxHeartbeats 80000000
namespace Go.Proofs.YtjjfioalgbecmaaGreat
open Go.VL Go.Proofs.Tryz
variable{g:dk}{s:List VL.Obj}{K:V->List VL.Obj->Prop}{t:List Int}{e:VL.Env}
def aq.era (d:Nat) (i:aq):bM :=
 ⟨i.op,if i.op=2\/i.op=3 then i.x-d else 0,if i.op=2 then i.y-d else 0,
  match i.node with|none=>i.n|some x=>if i.op=5 then x.1.n else 0,
  match i.node with|none=>[]|some x=>if i.op=1 then x.1.set else []⟩
theorem Wz (d:Nat) (re:Re) (k:Nat):(qC re k).era d=⟨1,0,0,0,re.set⟩:=by simp [aq.era,qC]
theorem Vb (d:Nat) (re:Re) (k:Nat):(gQ re k).era d=⟨5,0,0,re.n,[]⟩:=by simp [aq.era,gQ]
theorem IB (d:Nat) (x y:Int):(cR x y).era d=⟨2,x-d,y-d,0,[]⟩:=by simp [aq.era,cR]
theorem NU (d:Nat) (x:Int):(iT x).era d=sC (x-d):=by simp [aq.era,iT,sC]
theorem U4 (d:Nat) (n:Int):(gy n).era d=mc n:=by simp [aq.era,gy,mc]
theorem KQ (d:Nat) (mode:Int) (a b:Nat):(G7 mode (a+d) (b+d)).era d=wN mode a b:=by
 unfold G7 wN;by_cases h:mode=1
 ·rw[be h,be h,IB];congr 1 <;> omega
 ·rw[ap h,ap h,IB];congr 1 <;> omega
theorem Pd {c:Nat->List aq}{c':Int->List bM}{d:Nat} (h:∀f:Nat,(c (f+d)).map (aq.era d)=c' f):∀(n f:Nat),(sA c n (f+d)).map (aq.era d)=bB c' n f
 |0,_=>rfl
 |n+1,f=>by
  have ih:=Pd h n f;have hl:(sA c n (f+d)).length=(bB c' n f).length:=by rw[<- ih,ajM]
  rw[sA,bB,akF,ih,hl,show f+d+(bB c' n f).length=f+(bB c' n f).length+d by omega,h];rw[show ((f+(bB c' n f).length:Nat):Int)=(f:Int)+((bB c' n f).length:Nat) by omega]
theorem LK {c:Nat->List aq}{c':Int->List bM}{d:Nat} (h:∀f:Nat,(c (f+d)).map (aq.era d)=c' f) (mode:Int) (fin:Nat):∀(n f:Nat),(pa c mode (fin+d) n (f+d)).map (aq.era d)=c8 c' mode fin n f
 |0,_=>rfl
 |n+1,f=>by
  have ih:=LK h mode fin n f;have hl:(pa c mode (fin+d) n (f+d)).length=(c8 c' mode fin n f).length:=by rw[<- ih,ajM]
  rw[pa,c8,akF,ajR,ih,hl,show f+d+(c8 c' mode fin n f).length+1=f+(c8 c' mode fin n f).length+1+d by omega,h,KQ];rw[show ((f+(c8 c' mode fin n f).length+1:Nat):Int)=(f:Int)+((c8 c' mode fin n f).length:Nat)+1 by omega]
theorem DE (re:Re):re.every ll=true->re.fh<=9000->∀(k f d:Nat),(re.F7 k (f+d)).map (aq.era d)=re.code f:=by
 refine Re.ind (Q:=λre=>re.every ll=true->re.fh<=9000->∀(k f d:Nat),(re.F7 k (f+d)).map (aq.era d)=re.code f) (λre ih hs hz k f d=>?_) re;obtain⟨dM,jA⟩:=(Re.aD re).1 hs;obtain⟨hc,wH,IL,h0⟩:=gY.1 dM;obtain⟨hb,Oc⟩:=ga.1 hc;obtain⟨q1,q2,q3,q4,q5,q6,q7,q8,q9,jc⟩:=fU.1 hb;have hu:=z8 hz;rw[Re.RB,Re.lg];by_cases o1:re.op=1
 ·rw[be o1,be o1,ajR,ajV,Wz]
 rw[ap o1,ap o1];by_cases sm:re.op=11
 ·rw[be (.inl sm),be sm,ajR,ajV,Vb]
 rw[bd,ap sm];have Rp:=(vu hs hz ⟨o1,sm⟩).2;have hk:∀x∈re.kids,∀(k f d:Nat),(x.F7 k (f+d)).map (aq.era d)=x.code f:=λx hx=>ih x hx (jA x hx) (Rp x hx);have uG:∀x∈re.kids,∀f:Nat,(x.code f).length=x.eC:=λx hx f=>by rw[<- hk x hx 0 f 0,ajM,Re.yx]
 by_cases o2:re.op=2
 ·rw[be o2,be o2];have hL:∀(l:List Re) (k f:Nat),(∀x∈l,x∈re.kids)->(Re.qA l k (f+d)).map (aq.era d)=Re.da l f:=by
   intro l;induction l with
   |nil=>intro _ _ _;rfl
   |cons x l CG =>
    intro k f hm;have hx:=hm x ak;rw[Re.qA,Re.da,akF,hk x hx,show f+d+x.eC=f+x.eC+d by omega,CG _ _ λy hy=>hm y (by simp [hy]),uG x hx];rw[show ((f+x.eC:Nat):Int)=(f:Int)+(x.eC:Nat) by omega]
  exact hL _ _ _ λ_ h=>h
 rw[ap o2,ap o2];by_cases o3:re.op=3
 ·rw[be o3,be o3];have hA:∀(l:List Re) (k f E:Nat),(∀x∈l,x∈re.kids)->E=f+(Re.cf l+2*(l.length-1))->(Re.y4 l k (f+d) (E+d)).map (aq.era d)=Re.dJ l f:=by
   intro l;induction l with
   |nil=>intro _ _ _ _ _;rfl
   |cons x l CG =>
    intro k f E hm hE;have hx:=hm x ak;cases l with
    |nil=>rw[Re.y4,Re.dJ,hk x hx]
    |cons y l =>
     have e4:Re.cf (x::y::l)=x.eC+Re.cf (y::l):=by rw[Re.cf]
     have e5:E=f+x.eC+2+(Re.cf (y::l)+2*((y::l).length-1)):=by rw[hE,e4];simp only[ajW];omega
     have h2:=CG (k+x.looks) (f+x.eC+2) E (λz hz=>hm z (by simp only[akD]at hz ⊢;exact .inr hz)) e5;have BR:=hk x hx k (f+1) d;have oT:=uG x hx (f+1);have Ec:(Re.dJ (y::l) ((f+x.eC+2:Nat):Int)).length=Re.cf (y::l)+2*((y::l).length-1):=by rw[<- h2,ajM,Re.K2]
     rw[Re.y4,Re.dJ];simp only[ajR,akF];rw[show ((f+1:Nat):Int)=(f:Int)+1 by omega]at BR oT;rw[oT,show f+d+1=f+1+d by omega,BR,show f+d+x.eC+2=f+x.eC+2+d by omega,h2,IB,NU];rw[show (f:Int)+(x.eC:Nat)+2=((f+x.eC+2:Nat):Int) by omega,Ec];refine List.cons_eq_cons.2 ⟨?_,?_⟩
     ·unfold wN;rw[ap aU];congr 1 <;> omega
     ·congr 2;unfold sC;congr 1;omega
  rw[show f+d+(Re.cf re.kids+2*(re.kids.length-1))=f+(Re.cf re.kids+2*(re.kids.length-1))+d by omega];exact hA _ _ _ _ (λ_ h=>h) rfl
 rw[ap o3,ap o3];by_cases o5:re.op=5
 ·rw[be o5,be o5];obtain⟨x,hx⟩:=List.length_eq_one_iff.1 (IL (.inr o5));have BR:=hk x (by rw[hx];simp) k (f+1) d;rw[hx];simp only[Re.qA,Re.l6,akh,ajR,akF,ajV,U4];rw[show f+d+1=f+1+d by omega,BR,show ((f+1:Nat):Int)=(f:Int)+1 by omega]
 rw[ap o5,ap o5];by_cases o4:re.op=4
 ·rw[be o4,be o4];obtain⟨x,hx⟩:=List.length_eq_one_iff.1 (IL (.inl o4));have VT:x∈re.kids:=by rw[hx];simp
  have hc:∀g:Nat,(Re.qA re.kids k (g+d)).map (aq.era d)=(λi=>Re.l6 re.kids i) g:=λg=>by rw[hx];simp only[Re.qA,Re.l6,akh];exact hk x VT k g d
  have hzz:Re.cF re.kids=(Re.cf re.kids:Int):=by have h1:=kd x (jA x VT) (Rp x VT) ((0:Nat):Int);rw[uG x VT]at h1;rw[hx];simp only[Re.cF,Re.cf];omega
  rw[bd,bd,bd,be o4,hzz]at hu;have ia:∀g:Nat,((λi=>Re.l6 re.kids i) (g:Int)).length=Re.cf re.kids:=λg=>by rw[<- hc g,ajM,Re.Ki]
  have Um:=Pd hc re.mn.toNat f;have oZ:(sA (λf=>Re.qA re.kids k f) re.mn.toNat (f+d)).length=(bB (λi=>Re.l6 re.kids i) re.mn.toNat f).length:=by rw[<- Um,ajM]
  have hpz:=Dp (c:=λf=>Re.qA re.kids k f) (λg=>Re.Ki re.kids k g) (f+d) re.mn.toNat;rw[oZ]at hpz;unfold IZ Ai;simp only;rw[akF,Um,oZ];generalize hP:bB (λi=>Re.l6 re.kids i) re.mn.toNat f=P at *;by_cases hm:re.mx=-1
  ·rw[be hm,be hm];congr 1;have vd:=hc (f+P.length+1);have FX:=ia (f+P.length+1);simp only[ajR,akF,ajV,NU]at vd ⊢;rw[show ((f+P.length+1:Nat):Int)=(f:Int)+(P.length:Nat)+1 by omega]at vd FX;rw[show f+d+P.length+1=f+P.length+1+d by omega,show f+d+P.length+Re.cf re.kids+2=f+P.length+Re.cf re.kids+2+d by omega,KQ,vd,FX];refine List.cons_eq_cons.2 ⟨?_,?_⟩
   ·congr 1 <;> omega
   ·congr 2;congr 1;omega
  ·rw[ap hm,ap hm];congr 1;have hn:0<=re.mx-re.mn:=by rcases Oc o4 with h|h <;> omega
   obtain⟨n,hn⟩:∃n:Nat,re.mx-re.mn=n:=⟨(re.mx-re.mn).toNat,ae⟩
   obtain⟨m,vT⟩:∃m:Nat,re.mn=m:=⟨re.mn.toNat,ae⟩
   rw[ap hm]at hu;have e1:re.fh=((m*Re.cf re.kids+n*(Re.cf re.kids+1):Nat):Int):=by
    rw[hu,show re.mx=((m+n:Nat):Int) by omega,vT]
    push_cast
    rw[Int.add_mul,Int.mul_add];omega
   rw[hn,ajP];rw[vT,ajP]at hpz;rw[show f+d+P.length=f+P.length+d by omega,show f+P.length+d+n*(Re.cf re.kids+1)=f+P.length+n*(Re.cf re.kids+1)+d by omega,LK hc];rw[show ((f+P.length:Nat):Int)=(f:Int)+(P.length:Nat) by omega,e1,hpz];congr 1;omega
 rw[ap o4,ap o4];rfl
structure kE where
 cI:Int
 from_:Int
 aF:List Int
def kE.cells (x:kE):List D:=[iD x.cI,iD x.from_,ao x.aF]
structure dK where
 marks:List Int
 closed:Bool
 arr:List kE
 n:Nat
 gen:Nat
variable{st:dK}
def dK.push (st:dK) (x:kE) (c:Bool):dK:=⟨st.marks,c,st.arr.take st.n++[x],st.n+1,st.gen+1⟩
def dK.mark (st:dK) (pc v:Int):dK:=⟨st.marks.set pc.toNat v,st.closed,st.arr,st.n,st.gen⟩
def gI (g:dk) (t:List Int) (at_ bZ:Int):Nat->Int->List Int->dK->dK
 |0,_,_,st=>st
 |k+1,pc,aF,st =>
  if st.closed=true\/st.marks.getD pc.toNat 0=at_+1 then st
  else
   let st:=st.mark pc (at_+1);let x:bM:=bu g pc
   if x.op=0\/x.op=1 then st.push ⟨pc,bZ,aF⟩ (decide (x.op=0))
   else if x.op=2 then gI g t at_ bZ k x.y aF (gI g t at_ bZ k x.x aF st)
   else if x.op=3 then gI g t at_ bZ k x.x aF st
   else if x.op=4 then gI g t at_ bZ k (pc+1) (aF.set x.n.toNat at_) st
   else if bL x.n t at_=true then gI g t at_ bZ k (pc+1) aF st else st
def zl (at_:Int) (l:List Int):Nat:=l.countP (λm=>decide (m≠at_+1))
theorem Hz {at_:Int}{l:List Int}{i:Nat} (hi:i<l.length) (h:l.getD i 0≠at_+1):zl at_ (l.set i (at_+1))+1=zl at_ l:=by
 induction l generalizing i with
 |nil=>simp at hi
 |cons b l ih =>
  cases i with
  |zero =>
   have h:b≠at_+1:=by simpa using h
   unfold zl;rw[aj9,List.countP_cons,List.countP_cons];simp [h]
  |succ i =>
   have:=ih (i:=i) (by simpa using hi) (by simpa using h);unfold zl at *;simp only[akf,List.countP_cons];omega
structure dK.ok (g:dk) (st:dK):Prop where
 len:st.marks.length=g.ins.length
 n:st.n<=st.arr.length
theorem dK.ok.Jg (h:st.ok g) (pc v:Int):(st.mark pc v).ok g:=⟨by simpa [dK.mark]using h.len,h.n⟩
theorem dK.ok.abk (h:st.ok g) (x:kE) (c:Bool):(st.push x c).ok g:=⟨h.len,by have:=h.n;simp [dK.push];omega⟩
theorem jm (g:dk) (t:List Int) (at_ bZ:Int):∀(k:Nat) (pc:Int) (aF:List Int) (st:dK),g.eF->st.ok g->0<=pc->pc<g.ins.length->(gI g t at_ bZ k pc aF st).ok g/\zl at_ (gI g t at_ bZ k pc aF st).marks<=zl at_ st.marks/\(gI g t at_ bZ k pc aF st).n+zl at_ (gI g t at_ bZ k pc aF st).marks<=st.n+zl at_ st.marks
 |0,_,_,st,_,h,_,_=>by simpa [gI]using h
 |k+1,pc,aF,st,hg,h,h0,h1=>by
  have hx:=iP h0 h1;have hs:=hg.split pc.toNat _ hx;have hj:=hg.jump pc.toNat _ hx;have hn:=hg.next pc.toNat _ hx;have ho:=hg.ops _ (List.mem_of_getElem? hx);rw[gI];split
  ·exact⟨h,ajZ _,ajZ _⟩
  rename_i hc;have hu:=Hz (at_:=at_) (l:=st.marks) (i:=pc.toNat) (by have:=h.len;omega) (λe=>hc (.inr e));have hm:=h.Jg pc (at_+1);have e1:(st.mark pc (at_+1)).marks=st.marks.set pc.toNat (at_+1):=rfl;have e2:(st.mark pc (at_+1)).n=st.n:=rfl;simp only;rw[<- e1]at hu;generalize st.mark pc (at_+1)=bF at *;split
  ·refine⟨hm.abk _ _,?_,?_⟩
   ·show zl at_ bF.marks<=_;omega
   ·show bF.n+1+zl at_ bF.marks<=_;omega
  split
  ·rename_i o2;have:=hs o2;have k1:=jm g t at_ bZ k (bu g pc).x aF bF hg hm ae ae;have k2:=jm g t at_ bZ k (bu g pc).y aF _ hg k1.1 ae ae;exact⟨k2.1,ae,ae⟩
  split
  ·rename_i o3;have:=hj o3;have k1:=jm g t at_ bZ k (bu g pc).x aF bF hg hm ae ae;exact⟨k1.1,ae,ae⟩
  split
  ·rename_i o4;have:=hn (.inr ae);have k1:=jm g t at_ bZ k (pc+1) (aF.set (bu g pc).n.toNat at_) bF hg hm ae ae;exact⟨k1.1,ae,ae⟩
  split
  ·have:=hn (.inr ae);have k1:=jm g t at_ bZ k (pc+1) aF bF hg hm ae ae;exact⟨k1.1,ae,ae⟩
  ·exact⟨hm,ae,ae⟩
def ca (g:dk) (t:List Int) (a1:Nat) (st:dK):VL.Obj:=⟨1,true,5,[[.d (.sl (g.ins.map bM.cells)),i64 g.ai,bV g.aB,.d (ao t),.so a1 1 0 st.marks.length]]⟩
def bJ (st:dK):VL.Obj:=⟨1,true,1,st.marks.map λx=>[i64 x]⟩
def cw (a0:Nat):VL.Obj:=⟨0,true,1,[[.rf a0 1 0 0]]⟩
def bT (st:dK):VL.Obj:=⟨0,true,1,[[bV st.closed]]⟩
def eH (a6:Nat) (st:dK):VL.Obj:=⟨0,true,1,[[.so a6 st.gen 0 st.n]]⟩
def eb (a2 a3 a4 a5:Nat):VL.Obj:=⟨0,true,1,[[.cl (.func 107) [] [.rf a3 0 0 0,.rf a2 0 0 0,.rf a4 0 0 0,.rf a5 0 0 0]]]⟩
def eB (st:dK):VL.Obj:=⟨st.gen,true,3,st.arr.map λx=>x.cells.map V.d⟩
def l5 (g:dk) (t:List Int) (st:dK):List VL.Obj:=[ca g t 1 st,bJ st,cw 0,bT st,eH 6 st,eb 2 3 4 5,eB st]
theorem ug (n:Nat) (st:dK):aK n (bJ st)=true:=by unfold aK bJ;rw[aj3];intro e he;obtain⟨c,hc,rfl⟩:=List.mem_map.1 he;rfl
theorem Io (n:Nat) (st:dK):aK n (eB st)=true:=by unfold aK eB;rw[aj3];intro e he;obtain⟨c,hc,rfl⟩:=List.mem_map.1 he;rfl
theorem FV (g:dk) (t:List Int) (st:dK) (n:Nat) (h:7<=n):(l5 g t st).all (aK n)=true:=by simp only[l5,aks,akB,ug,Io,aj4,ak5];simp [aK,ca,cw,bT,eH,eb,aj,aj.go,i64,bV];omega
theorem Ha (g:dk) (t:List Int) (st:dK) (a0 a1 a2 a3 a4 a5 a6:Nat):(l5 g t st).map (aN [a0,a1,a2,a3,a4,a5,a6])=[ca g t a1 st,bJ st,cw a0,bT st,eH a6 st,eb a2 a3 a4 a5,eB st]:=by
 unfold l5;simp only[ajR,ajV,alh,and_true];refine⟨?_,?_,?_,?_,?_,?_,?_⟩
 ·unfold aN ca;simp [aE.go,aE,i64,bV]
 ·unfold aN bJ;simp only[akq];congr 1
 ·unfold aN cw;simp [aE.go,aE]
 ·unfold aN bT;simp [aE.go,aE,bV]
 ·unfold aN eH;simp [aE.go,aE]
 ·unfold aN eb;simp [aE.go,aE]
 ·unfold aN eB;simp only[akq];congr 1
theorem rk {f:FuncId}{cargs args:List V}{r r':V}{st':dK}{a0 a1 a2 a3 a4 a5 a6:Nat} (h:ar prog f cargs (l5 g t st) λv s=>v=r/\s=l5 g t st')
  (hnd:[a0,a1,a2,a3,a4,a5,a6].Nodup) (h0:s[a0]?=some (ca g t a1 st)) (h1:s[a1]?=some (bJ st)) (h2:s[a2]?=some (cw a0)) (h3:s[a3]?=some (bT st)) (h4:s[a4]?=some (eH a6 st)) (h5:s[a5]?=some (eb a2 a3 a4 a5)) (h6:s[a6]?=some (eB st))
  (ha:args=cargs.map (aE [a0,a1,a2,a3,a4,a5,a6])) (wY:aj.go 7 cargs=true) (hr:aE [a0,a1,a2,a3,a4,a5,a6] r=r')
  (hk:K r' (((((((s.set a0 (ca g t a1 st')).set a1 (bJ st')).set a2 (cw a0)).set a3 (bT st')).set a4 (eH a6 st')).set a5 (eb a2 a3 a4 a5)).set a6 (eB st'))):ar prog f args s K:=by
 refine cV [a0,a1,a2,a3,a4,a5,a6] h hnd cB ?_ ha wY (FV g t st 7 (ajZ _)) hr ?_
 ·have e:(l5 g t st).map (λo=>some (aN [a0,a1,a2,a3,a4,a5,a6] o))=((l5 g t st).map (aN [a0,a1,a2,a3,a4,a5,a6])).map some:=by rw[akq];rfl
  rw[e,Ha];simp only[ajR,ajV,h0,h1,h2,h3,h4,h5,h6]
 ·rw[Ha];exact hk
def TA (pc at_ bZ:Int) (aF:List Int):List V:=[i64 pc,i64 at_,i64 bZ,.d (ao aF),.rf 3 0 0 0,.rf 2 0 0 0,.rf 4 0 0 0,.rf 5 0 0 0]
def Ix (g:dk) (t:List Int) (at_ bZ:Int) (k:Nat):Prop:=∀(pc:Int) (aF:List Int) (st:dK),0<=pc->pc<g.ins.length->aF.length=(2*g.ai).toNat->st.ok g->zl at_ st.marks<=k->st.n+zl at_ st.marks<=100000 ->
 ar prog 107 (TA pc at_ bZ aF) (l5 g t st) λv s=>v=.tu []/\s=l5 g t (gI g t at_ bZ (k+1) pc aF st)
theorem GP (g:dk) (hg:g.eF) (t:List Int) (ht:t.length<=65536) (at_ bZ:Int) (Gw:0<=at_) (Mc:at_<=t.length) (k:Nat) (ih:∀j,j+1=k->Ix g t at_ bZ j):Ix g t at_ bZ k:=by
 intro pc aF st h0 h1 hr bH hf hn;have hx:=iP h0 h1;have UM:=bH.len;have AV:=bH.n;have oZ:pc<(st.marks.length:Int):=ae;have hb:st.marks[pc.toNat]?=some (st.marks.getD pc.toNat 0):=xz ae;have gL:=FV g t st 7 (ajZ _);have hgl:=hg.Du;have hgc:=hg.Rs;have aaQ:=hg.Jd;have wa:IntKind.i64.wrap (at_+1)=at_+1:=bG _ ae;rw[gI];unfold TA;by_cases wJ:st.closed=true
 ·rw[be (.inl wJ)];unfold l5 at *;refine bo func107 ntmps107 results107 7 52776558145791 ?_;simp only[zQ,simprocAttr,bT,wJ];simp [ca,bJ,cw,bT,eH,eb,eB,aj,aj.go,i64,bV,kE.cells]
 have Bi:st.closed=false:=by simpa using wJ
 by_cases nO:st.marks.getD pc.toNat 0=at_+1
 ·rw[be (.inr nO)];have aej:=eq_true nO;unfold l5 at *;refine bo func107 ntmps107 results107 7 52776558145791 ?_;simp only[zQ,simprocAttr,bT,cw,ca,bJ,Bi,h0,oZ,hb,ajT,wa,aej,ajM];simp [ca,bJ,cw,bT,eH,eb,eB,aj,aj.go,i64,bV,kE.cells]
 rw[ap (λh=>h.elim wJ nO)];have hu:=Hz (at_:=at_) (l:=st.marks) (i:=pc.toNat) ae nO;have hm:=bH.Jg pc (at_+1);have e1:(st.mark pc (at_+1)).marks=st.marks.set pc.toNat (at_+1):=rfl;have e2:(st.mark pc (at_+1)).n=st.n:=rfl;have hX0:(⟨1,true,5,[[.d (.sl (g.ins.map bM.cells)),.d (.sc (.int .i64 g.ai)),.d (.sc (.bool g.aB)),.d (ao t),.so 1 1 0 st.marks.length]]⟩:VL.Obj)=ca g t 1 (st.mark pc (at_+1)):=by simp [ca,dK.mark,i64,bV]
 have UW:(⟨1,true,1,(st.marks.map λx=>[V.d (.sc (.int .i64 x))]).set pc.toNat [V.d (.sc (.int .i64 (at_+1)))]⟩:VL.Obj)=bJ (st.mark pc (at_+1)):=by simp [bJ,dK.mark,i64,akT]
 have UO:(⟨0,true,1,[[.rf 0 1 0 0]]⟩:VL.Obj)=cw 0:=rfl;have UL:(⟨0,true,1,[[V.d (.sc (.bool false))]]⟩:VL.Obj)=bT (st.mark pc (at_+1)):=by simp [bT,dK.mark,Bi,bV]
 have hX4:eH 6 st=eH 6 (st.mark pc (at_+1)):=rfl;have hX5:(⟨0,true,1,[[.cl (.func 107) [] [.rf 3 0 0 0,.rf 2 0 0 0,.rf 4 0 0 0,.rf 5 0 0 0]]]⟩:VL.Obj)=eb 2 3 4 5:=rfl;have hX6:eB st=eB (st.mark pc (at_+1)):=rfl;have Us:=hg.split pc.toNat _ hx;have hgj:=hg.jump pc.toNat _ hx;have hgv:=hg.save pc.toNat _ hx;have hga:=hg.assert pc.toNat _ hx;have Ut:=hg.next pc.toNat _ hx;have wH:=hg.ops _ (List.mem_of_getElem? hx);simp only;rw[<- e1]at hu;have hinv:=λj pc aF st h a b=>jm g t at_ bZ (j+1) pc aF st hg h a b;generalize yV:st.mark pc (at_+1)=bF at *;generalize bu g pc=x at *;obtain⟨j,rfl⟩:∃j,k=j+1:=⟨k-1,ae⟩
 have ih:=ih j rfl;unfold Ix TA at ih;by_cases o2:x.op=2
 ·rw[bd,be o2];have Q4:=Us o2;have sM:=ih x.x aF bF ae ae hr hm ae ae;have h2:=hinv j x.x aF bF hm ae ae;have xr:=ih x.y aF (gI g t at_ bZ (j+1) x.x aF bF) ae ae hr h2.1 ae ae;generalize gI g t at_ bZ (j+1) x.x aF bF=R1 at *;generalize gI g t at_ bZ (j+1) x.y aF R1=R2 at *;unfold l5;refine bo func107 ntmps107 results107 7 52776558145791 ?_;simp only[zQ,simprocAttr,bT,cw,ca,bJ,eb,Bi,h0,h1,oZ,hb,hx,ajT,wa,nO,bM.cells,ajM,o2];rw[hX0,UW,UO,UL,hX4,hX5,hX6];refine rk (a0:=0) (a1:=1) (a2:=2) (a3:=3) (a4:=4) (a5:=5) (a6:=6) sM aU rfl rfl rfl rfl rfl rfl rfl rfl rfl rfl ?_;simp only[aj9,akf];simp only[zQ,simprocAttr,cw,ca,eb,h0,h1,ajT,bM.cells,ajM,o2];refine rk (a0:=0) (a1:=1) (a2:=2) (a3:=3) (a4:=4) (a5:=5) (a6:=6) xr aU rfl rfl rfl rfl rfl rfl rfl rfl rfl rfl ?_;simp only[aj9,akf];simp only[zQ,simprocAttr,cw,ca,eb,h0,h1,ajT,bM.cells,ajM,o2];simp [ca,bJ,cw,bT,eH,eb,eB,aj,aj.go,i64,bV,kE.cells]
 by_cases o3:x.op=3
 ·rw[bd,ap o2,be o3];have Q4:=hgj o3;have sM:=ih x.x aF bF ae ae hr hm ae ae;generalize gI g t at_ bZ (j+1) x.x aF bF=R2 at *;unfold l5;refine bo func107 ntmps107 results107 7 52776558145791 ?_;simp only[zQ,simprocAttr,bT,cw,ca,bJ,eb,Bi,h0,h1,oZ,hb,hx,ajT,wa,nO,bM.cells,ajM,o2,o3];rw[hX0,UW,UO,UL,hX4,hX5,hX6];refine rk (a0:=0) (a1:=1) (a2:=2) (a3:=3) (a4:=4) (a5:=5) (a6:=6) sM aU rfl rfl rfl rfl rfl rfl rfl rfl rfl rfl ?_;simp only[aj9,akf];simp only[zQ,simprocAttr,cw,ca,eb,h0,h1,ajT,bM.cells,ajM,o2,o3];simp [ca,bJ,cw,bT,eH,eb,eB,aj,aj.go,i64,bV,kE.cells]
 by_cases o4:x.op=4
 ·rw[bd,ap o2,ap o3,be o4];have Q4:=hgv o4;have hg3:=Ut (.inr ae);have w1:IntKind.i64.wrap (pc+1)=pc+1:=bG _ ae;have sM:=ih (pc+1) (aF.set x.n.toNat at_) bF ae ae (by simpa using hr) hm ae ae;generalize gI g t at_ bZ (j+1) (pc+1) (aF.set x.n.toNat at_) bF=R2 at *;have w2:IntKind.i64.wrap (x.n+1)=x.n+1:=bG _ ae;have b1:x.n<=(aF.length:Int):=ae;have b2:x.n+1<=(aF.length:Int):=ae;have z1:(x.n-0).toNat=x.n.toNat:=ae;have z2:(x.n+1).toNat=x.n.toNat+1:=ae;have z3:List.take ((aF.length:Int)-(x.n+1)).toNat (List.drop (x.n.toNat+1) (aF.map λx=>[D.sc (.int .i64 x)]))=(aF.drop (x.n.toNat+1)).map λx=>[D.sc (.int .i64 x)]:=by rw[<- List.map_drop,akb cC]
  have z4:List.take x.n.toNat (aF.map λx=>[D.sc (.int .i64 x)])=(aF.take x.n.toNat).map λx=>[D.sc (.int .i64 x)]:=by rw[List.map_take]
  have eO:aF.set x.n.toNat at_=aF.take x.n.toNat++at_::aF.drop (x.n.toNat+1):=by rw[List.set_eq_take_append_cons_drop,sP]
  have Xv:(aF.drop (x.n.toNat+1)).length<=100000:=cC;have Kb:(aF.take x.n.toNat).length<=100000:=cC;unfold l5;refine bo func107 ntmps107 results107 7 52776558145791 ?_;simp only[zQ,simprocAttr,bT,cw,ca,bJ,eb,Bi,h0,h1,oZ,hb,hx,ajT,wa,nO,bM.cells,ajM,o2,o3,o4,ao,Q4.1,b1,akc,z1,z4];refine⟨rfl,λe he=>by rw[List.mem_singleton.1 he];rfl,?_⟩;split
  ·rename_i heq;cases heq
  refine⟨⟨ae,λe he=>by obtain⟨y,_,rfl⟩:=List.mem_map.1 he;rfl⟩,?_⟩;refine cu mix [12] [(11,[8],[8])] ?_;simp only[zQ,simprocAttr,cw,ca,eb,h0,h1,ajT,bM.cells,ajM,w1,w2,b2,akc,z1,z2,z3,z4];refine⟨ae,.inr (λe he=>by obtain⟨y,_,rfl⟩:=List.mem_map.1 he;rfl),rfl,Zq _,⟨ak,ae⟩,?_⟩;have aa6:=hX0;simp only[ao,iD]at aa6;rw[aa6,UW,UO,UL,hX4,hX5,hX6];refine ct (bE (cargs:=[i64 (pc+1),i64 at_,i64 bZ,.d (ao (aF.set x.n.toNat at_)),.rf 3 0 0 0,.rf 2 0 0 0,.rf 4 0 0 0,.rf 5 0 0 0]) [8] ?_ (rk (a0:=0) (a1:=1) (a2:=2) (a3:=3) (a4:=4) (a5:=5) (a6:=6) sM aU rfl rfl rfl rfl rfl rfl rfl rfl rfl rfl ⟨rfl,rfl⟩)) ?_
  ·simp only[br,ck,List.getElem?_cons_succ,List.getElem?_cons_zero,akf,aj9,ajW,ajX,bc.go];rw[lh (ds:=(aF.set x.n.toNat at_).map λx=>[iD x]) cB ?_ ?_ (.inr rfl)]
   ·rfl
   ·rw[akJ,akb ak,akb ak,eO];simp [iD]
   ·simp
  simp only[br,ck,List.getElem?_cons_succ,List.getElem?_cons_zero,aj9,akf];simp only[zQ,simprocAttr,o2,o3,o4];simp [ca,bJ,cw,bT,eH,eb,eB,aj,aj.go,i64,bV,kE.cells,iD]
 by_cases o5:x.op=5
 ·rw[bd,ap o2,ap o3,ap o4];have Q4:=hga o5;have hg3:=Ut (.inr ae);have w1:IntKind.i64.wrap (pc+1)=pc+1:=bG _ ae;have has:=Hh x.n t at_ Q4.1 Q4.2 ae Gw Mc;simp only[i64,bV]at has;by_cases hh:bL x.n t at_=true
  ·rw[be hh];rw[hh]at has;have sM:=ih (pc+1) aF bF ae ae hr hm ae ae;generalize gI g t at_ bZ (j+1) (pc+1) aF bF=R2 at *;unfold l5;refine bo func107 ntmps107 results107 7 52776558145791 ?_;simp only[zQ,simprocAttr,bT,cw,ca,bJ,eb,Bi,h0,h1,oZ,hb,hx,ajT,wa,nO,bM.cells,ajM,o2,o3,o4,o5];refine cu mix [] [] ?_;simp only[zQ,simprocAttr,bT,cw,ca,bJ,eb,Bi,h0,h1,oZ,hb,hx,ajT,wa,nO,bM.cells,ajM,o2,o3,o4,o5];refine Fk has ?_;simp only[zQ,simprocAttr,bT,cw,ca,bJ,eb,Bi,h0,h1,oZ,hb,hx,ajT,wa,nO,bM.cells,ajM,o2,o3,o4,o5,w1];rw[hX0,UW,UO,UL,hX4,hX5,hX6];refine rk (a0:=0) (a1:=1) (a2:=2) (a3:=3) (a4:=4) (a5:=5) (a6:=6) sM aU rfl rfl rfl rfl rfl rfl rfl rfl rfl rfl ?_;simp only[aj9,akf];simp only[zQ,simprocAttr,cw,ca,eb,h0,h1,ajT,bM.cells,ajM,o2,o3,o4,o5];simp [ca,bJ,cw,bT,eH,eb,eB,aj,aj.go,i64,bV,kE.cells]
  ·rw[ap hh];have Mm:bL x.n t at_=false:=by simpa using hh
   rw[Mm]at has;unfold l5;refine bo func107 ntmps107 results107 7 52776558145791 ?_;simp only[zQ,simprocAttr,bT,cw,ca,bJ,eb,Bi,h0,h1,oZ,hb,hx,ajT,wa,nO,bM.cells,ajM,o2,o3,o4,o5];refine cu mix [] [] ?_;simp only[zQ,simprocAttr,bT,cw,ca,bJ,eb,Bi,h0,h1,oZ,hb,hx,ajT,wa,nO,bM.cells,ajM,o2,o3,o4,o5];refine Fk has ?_;rw[hX0,UW,UO,UL,hX4,hX5,hX6];simp only[zQ,simprocAttr,o2,o3,o4,o5,ajY];simp [ca,bJ,cw,bT,eH,eb,eB,aj,aj.go,i64,bV,kE.cells]
 have V0:x.op=0\/x.op=1:=ae;rw[be V0];subst yV;unfold l5;rcases V0 with o0|o1
 ·refine bo func107 ntmps107 results107 7 52776558145791 ?_;simp only[zQ,simprocAttr,bT,cw,ca,bJ,eb,Bi,h0,h1,oZ,hb,hx,ajT,wa,nO,bM.cells,ajM,eH,eB,o0];refine⟨λe he=>by rw[List.mem_singleton.1 he];rfl,⟨ae,ae⟩,?_,?_⟩
  ·rw[aj5];refine⟨?_,?_⟩
   ·rw[aj3];intro e he;rcases akL he with he|rfl
    ·obtain⟨y,_,rfl⟩:=List.mem_map.1 he;rfl
    ·rfl
   ·rw[akZ,aj5];refine⟨?_,rfl⟩;rw[aj3];intro e he;obtain⟨y,_,rfl⟩:=List.mem_map.1 (akv he);rfl
  ·simp [dK.push,dK.mark,kE.cells,iD,List.map_take,akT,o0]
 ·refine bo func107 ntmps107 results107 7 52776558145791 ?_;simp only[zQ,simprocAttr,bT,cw,ca,bJ,eb,Bi,h0,h1,oZ,hb,hx,ajT,wa,nO,bM.cells,ajM,eH,eB,o1];refine⟨λe he=>by rw[List.mem_singleton.1 he];rfl,⟨ae,ae⟩,?_,?_⟩
  ·rw[aj5];refine⟨?_,?_⟩
   ·rw[aj3];intro e he;rcases akL he with he|rfl
    ·obtain⟨y,_,rfl⟩:=List.mem_map.1 he;rfl
    ·rfl
   ·rw[akZ,aj5];refine⟨?_,rfl⟩;rw[aj3];intro e he;obtain⟨y,_,rfl⟩:=List.mem_map.1 (akv he);rfl
  ·simp [dK.push,dK.mark,kE.cells,iD,List.map_take,akT,o1]
theorem Ir (g:dk) (hg:g.eF) (t:List Int) (ht:t.length<=65536) (at_ bZ:Int) (Gw:0<=at_) (Mc:at_<=t.length):∀k,Ix g t at_ bZ k
 |0=>GP g hg t ht at_ bZ Gw Mc 0 (λj h=>ae)
 |k+1=>by refine GP g hg t ht at_ bZ Gw Mc (k+1) (λj h=>?_);have:j=k:=ae;subst this;exact Ir g hg t ht at_ bZ Gw Mc j
structure kE.ok (g:dk) (x:kE):Prop where
 p0:0<=x.cI
 p1:x.cI<g.ins.length
 aF:x.aF.length=(2*g.ai).toNat
 op:(bu g x.cI).op=0\/(bu g x.cI).op=1
def dK.list (st:dK):List kE:=st.arr.take st.n
theorem dK.mw (h:st.n<=st.arr.length) (x:kE) (c:Bool):(st.push x c).list=st.list++[x]:=by unfold dK.list dK.push;simp only;rw[akb];simp;omega
theorem qK (g:dk) (hg:g.eF) (t:List Int) (at_ bZ:Int):∀(k:Nat) (pc:Int) (aF:List Int) (st:dK),st.ok g->0<=pc->pc<g.ins.length->aF.length=(2*g.ai).toNat->(∀x∈st.list,x.ok g)->∀x∈(gI g t at_ bZ k pc aF st).list,x.ok g
 |0,_,_,st,_,_,_,_,h=>by simpa [gI]using h
 |k+1,pc,aF,st,bH,h0,h1,hr,h=>by
  have hx:=iP h0 h1;have hs:=hg.split pc.toNat _ hx;have hj:=hg.jump pc.toNat _ hx;have hn:=hg.next pc.toNat _ hx;have ho:=hg.ops _ (List.mem_of_getElem? hx);rw[gI];split
  ·exact h
  have hm:=bH.Jg pc (at_+1);have hl:(st.mark pc (at_+1)).list=st.list:=rfl;simp only;rw[<- hl]at h;generalize st.mark pc (at_+1)=bF at *;split
  ·rename_i V0;intro x hx;rw[dK.mw hm.n]at hx;rcases List.mem_append.1 hx with hx|hx
   ·exact h x hx
   ·rw[List.mem_singleton.1 hx];exact⟨h0,h1,hr,V0⟩
  split
  ·rename_i o2;have:=hs o2;have k1:=jm g t at_ bZ k (bu g pc).x aF bF hg hm ae ae;exact qK g hg t at_ bZ k _ _ _ k1.1 ae ae hr (qK g hg t at_ bZ k _ _ _ hm ae ae hr h)
  split
  ·rename_i o3;have:=hj o3;exact qK g hg t at_ bZ k _ _ _ hm ae ae hr h
  split
  ·rename_i o4;have:=hn (.inr ae);exact qK g hg t at_ bZ k _ _ _ hm ae ae (by simpa using hr) h
  split
  ·have:=hn (.inr ae);exact qK g hg t at_ bZ k _ _ _ hm ae ae hr h
  ·exact h
theorem nf (at_:Int) (l:List Int):zl at_ l<=l.length:=akP
def tI (g:dk) (t:List Int) (at_:Int) (x:kE):Prop:=(bu g x.cI).op=1/\hasB (bu g x.cI).set (mG t at_)=true
instance (g:dk) (t:List Int) (at_:Int) (x:kE):Decidable (tI g t at_ x):=by unfold tI;infer_instance
def lu (g:dk) (t:List Int) (at_:Int) (st:dK) (x:kE):dK:=if tI g t at_ x then gI g t (at_+1) x.from_ (qb g) (x.cI+1) x.aF st else st
def qE (g:dk) (t:List Int) (at_:Int) (l:List kE) (st:dK):dK:=l.foldl (lu g t at_) st
theorem Mi (g:dk) (t:List Int) (at_:Int) (l:List kE) (x:kE) (st:dK):qE g t at_ (l++[x]) st=lu g t at_ (qE g t at_ l st) x:=by unfold qE;rw[ak7];rfl
structure dK.inv (g:dk) (at_:Int) (st:dK):Prop where
 ok:st.ok g
 n:st.n+zl at_ st.marks<=g.ins.length
 th:∀x∈st.list,x.ok g
theorem mf (g:dk) (hg:g.eF) (t:List Int) (at_ bZ:Int) (k:Nat) (pc:Int) (aF:List Int) (st:dK) (h:st.inv g at_) (h0:0<=pc) (h1:pc<g.ins.length) (hr:aF.length=(2*g.ai).toNat):(gI g t at_ bZ k pc aF st).inv g at_:=by obtain⟨k1,k2,k3⟩:=jm g t at_ bZ k pc aF st hg h.ok h0 h1;exact⟨k1,akS k3 h.n,qK g hg t at_ bZ k pc aF st h.ok h0 h1 hr h.th⟩
theorem nV (g:dk) (hg:g.eF) (t:List Int) (at_:Int):∀(l:List kE) (st:dK),(∀x∈l,x.ok g)->st.inv g (at_+1)->(qE g t at_ l st).inv g (at_+1)
 |[],st,_,h=>h
 |x::l,st,hl,h=>by
  have hx:=hl x ak;refine nV g hg t at_ l _ (λy hy=>hl y (by simp [hy])) ?_;unfold lu;split
  ·rename_i hc;have hn:=hg.next x.cI.toNat _ (iP hx.p0 hx.p1) (.inl hc.1);have:=hx.p0;exact mf g hg t (at_+1) x.from_ _ _ _ st h ae ae hx.aF
  ·exact h
theorem Vk (l:List (Int×Int)) (x:Int) (hl:l.length<=1000000):aM prog 108 [.d (.sl (l.map aT)),i64 x] (bV (hasB l x)):=by
 refine bo func108 ntmps108 results108 0 979 ?_;simp only[zI,simprocAttr,ajM];refine aw (λn e s=>∃i:Nat,n=l.length-i/\i<=l.length/\e 1=i64 x/\e 7=.d (.sl (l.map aT))/\e 8=i64 l.length/\e 9=i64 i/\s=[]/\(l.take i).any (λs=>decide (s.1<=x/\x<=s.2))=false)
  ⟨_,_,_,bA.refl,0,rfl,ae,rfl,rfl,rfl,rfl,rfl,ak⟩ ?_
 rintro n e s ⟨i,rfl,hi,h1,h7,h8,h9,rfl,mS⟩;rcases akd i l.length with az|gx
 ·obtain⟨k,hk⟩:∃k,l[i]?=some k:=cc az;have aA:(i:Int)<l.length:=ae;have hm:=List.mem_of_getElem? hk;by_cases c1:k.1<=x
  ·by_cases c2:x<=k.2
   ·simp only[zQ,simprocAttr,aT,h1,h7,h8,h9,aA,hk,c1,c2];have:hasB l x=true:=List.any_eq_true.2 ⟨k,hm,by simp [c1,c2]⟩;rw[this]
   ·simp only[zQ,simprocAttr,aT,h1,h7,h8,h9,aA,hk,c1,c2];refine⟨l.length-(i+1),_,_,ae,bA.cut (s':=[]) 0 ae rfl rfl [1,7,8,9] (by simp [bK,aS,aj,h1,h7,h8,h9,i64]),i+1,rfl,az,?_,?_,?_,?_,rfl,by rw[bm hk,List.any_append,mS];simp [c2]⟩ <;> (try simp only[zU,pZ,jN,oN,oV,reduceIte])
    ·exact h1
    ·exact h7
    ·exact h8
    ·rw[bG _ ae];rfl
  ·simp only[zQ,simprocAttr,aT,h1,h7,h8,h9,aA,hk,c1];refine⟨l.length-(i+1),_,_,ae,bA.cut (s':=[]) 0 ae rfl rfl [1,7,8,9] (by simp [bK,aS,aj,h1,h7,h8,h9,i64]),i+1,rfl,az,?_,?_,?_,?_,rfl,by rw[bm hk,List.any_append,mS];simp [c1]⟩ <;> (try simp only[zU,pZ,jN,oN,oV,reduceIte])
   ·exact h1
   ·exact h7
   ·exact h8
   ·rw[bG _ ae];rfl
 ·have dX:i=l.length:=by omega
  subst dX;have aA:¬(l.length:Int)<l.length:=ae;rw[akg]at mS;simp only[zQ,simprocAttr,h1,h7,h8,h9,aA];have:hasB l x=false:=mS;rw[this]
structure wZ (W:Type) where
 T2:W->VL.Obj
 T3:W->VL.Obj
 T4:W->VL.Obj
 T5:W->VL.Obj
 f:FuncId
 ai:List V
 F:W->Int->List kE->W
 B:W->Int->List kE->Bool
def wZ.iN {W:Type} (S:wZ W) (σ:W):List VL.Obj:=[S.T2 σ,S.T3 σ,S.T4 σ,S.T5 σ]
structure wZ.ok {W:Type} (S:wZ W) (g:dk) (t:List Int) (I:W->Prop):Prop where
 ren:∀σ a,(S.iN σ).map (aN [0,1,2,3,4,5,a])=S.iN σ
 all:∀σ n,6<=n->(S.iN σ).all (aK n)=true
 refs:∀n,6<=n->aj.go n S.ai=true
 down:∀σ,(S.iN σ).map (di [0,1,2,3,4,5,6,7,8,9,10,12,11])=S.iN σ
 abW:cJ.go [0,1,2,3,4,5,6,7,8,9,10,12,11] S.ai=S.ai
 aaE:∀a,S.ai.map (aE [0,1,2,3,4,5,a])=S.ai
 aZ:∀σ i l,I σ->S.B σ i l=true->I (S.F σ i l)
 call:∀(σ:W) (i:Int) (st:dK),I σ->0<=i->i<=t.length->st.ok g->(∀x∈st.list,x.ok g)->st.n<=100000 ->
  ar prog S.f (i64 i::.so 6 st.gen 0 st.n::S.ai) (ca g t 1 st::bJ st::(S.iN σ++[eB st])) λv s=>v=bV (S.B σ i st.list)/\s=ca g t 1 st::bJ st::(S.iN (S.F σ i st.list)++[eB st])
def fi (g:dk):List Int:=List.replicate (2*g.ai).toNat (-1)
def fB (g:dk) (t:List Int) (at_ last:Int) (found:Bool) (st:dK):dK :=
 if at_<=last/\found=false then gI g t at_ at_ (qb g) 0 (fi g) st else st
def pt {W:Type} (S:wZ W) (g:dk) (t:List Int) (last:Int):Nat->Int->Bool->dK->List kE×Nat->W->List Int×W
 |0,_,_,st,_,σ=>(st.marks,σ)
 |k+1,at_,found,st,sp,σ =>
  let bF:=fB g t at_ last found st;let Tq:=found||bF.closed;let σ1:=S.F σ at_ bF.list
  if S.B σ at_ bF.list=false\/(bF.list=[]/\(Tq=true\/last<=at_))\/(t.length:Int)<=at_ then (bF.marks,σ1)
  else pt S g t last k (at_+1) Tq (qE g t at_ bF.list ⟨bF.marks,false,sp.1,0,sp.2⟩) (bF.arr,bF.gen) σ1
def bh (g:dk):dK:=⟨List.replicate g.ins.length 0,false,[],0,0⟩
def lM (l:List Int):VL.Obj:=⟨1,true,1,l.map λx=>[i64 x]⟩
def jf (g:dk) (t:List Int):VL.Obj:=⟨1,true,5,[[.d (.sl (g.ins.map bM.cells)),i64 g.ai,bV g.aB,.d (ao t),.so 1 1 0 g.ins.length]]⟩
theorem Iw {α:Type} (l:List α) (f:α->List V) (n:Nat) (z:List V) (h:l.length=n):iG (l.map f) 0 (List.replicate n z)=List.replicate n z:=by simp [iG,h]
theorem Ve {α:Type} (a b:α) {N i:Nat} (h:i<N):(List.replicate i a++List.replicate (N-i) b).set i a=List.replicate (i+1) a++List.replicate (N-(i+1)) b:=by
 rw[akI _ _ ak];obtain⟨m,hm⟩:∃m,N-i=m+1:=⟨N-i-1,ae⟩
 rw[hm];simp only[akK,akQ,ale,aj9];have:N-(i+1)=m:=ae;rw[this,<- ale,List.replicate_succ',aj7];rfl
theorem sY (h:st.marks.length=g.ins.length):ca g t 1 st=jf g t:=by unfold ca jf;rw[h]
theorem bW.abO (ids:List Nat) (t:Nat) {v:V} (h:bc (br s ids).length (br s ids) (e t)=some v):bW e s (bK e t v) (br s ids):=by
 have hc:=bW.freeze (e:=e) (s:=s) ids [t];have he:jE (br s ids) [t] e=bK e t v:=by
  funext x;unfold jE bK;by_cases hx:x=t
  ·subst hx;simp [fp,h]
  ·simp [hx]
 rwa [he]at hc
def uf (N:Nat):VL.Obj:=⟨0,false,1,List.replicate N [i64 (-1)]⟩
def ue (sp:List kE×Nat):VL.Obj:=⟨sp.2,true,3,sp.1.map λx=>x.cells.map V.d⟩
def oF {W:Type} (S:wZ W) (g:dk) (t:List Int) (st:dK) (sp:List kE×Nat) (σ:W):List VL.Obj :=
 [jf g t,bJ st,S.T2 σ,S.T3 σ,S.T4 σ,S.T5 σ,cw 0,uf (2*g.ai).toNat,eH 11 st,bT st,eb 6 9 8 10,eB st,ue sp]
theorem KP {W:Type} (S:wZ W) (g:dk) (t:List Int) (st:dK) (sp:List kE×Nat) (σ:W):oF S g t st sp σ =
 [jf g t,bJ st,S.T2 σ,S.T3 σ,S.T4 σ,S.T5 σ,cw 0,uf (2*g.ai).toNat,eH 11 st,bT st,eb 6 9 8 10,eB st,ue sp]:=rfl
structure VJ {W:Type} (S:wZ W) (g:dk) (last a:Int) (fd:Bool) (sp:List kE×Nat) (m:Nat) (e:VL.Env):Prop where
 h1:e 1=i64 a
 h2:e 2=i64 last
 h3:e 3=.cl (.func S.f) [] S.ai
 h4:e 4=.rf 6 0 0 0
 h8:e 8=.d (ao (fi g))
 cA:e 10=.rf 8 0 0 0
 eI:e 11=.so 12 sp.2 0 m
 dV:e 12=bV fd
 gr:e 13=.rf 9 0 0 0
 dA:e 14=.rf 10 0 0 0
theorem Dq {P:Program}{N L M:Nat}{a b:Code}{Q:Exit->VL.Env->List VL.Obj->Prop} (J:VL.Env->List VL.Obj->Prop) (h1:∀(B:VL.Env->List VL.Obj->Prop) (Q:Exit->VL.Env->List VL.Obj->Prop),(∀e s,J e s->B e s)->codeWp P N L M a (qI B Q) e s) (h2:∀e s,J e s->codeWp P N L M b Q e s):codeWp P N L M (.seq a b) Q e s:=h1 _ _ h2
theorem Dy (ρ:List Nat) (st:dK):aN ρ (bJ st)=bJ st:=by unfold aN bJ;simp only[akq];congr 1
theorem Ko (ρ:List Nat) (st:dK):aN ρ (eB st)=eB st:=by unfold aN eB;simp only[akq];congr 1
theorem Tb {W:Type}{S:wZ W}{I:W->Prop} (hS:S.ok g t I) {σ:W}{a:Int}{sp:List kE×Nat} (hI:I σ) (Gw:0<=a) (Mc:a<=t.length) (bH:st.ok g) (Zw:∀x∈st.list,x.ok g) (hn:st.n<=100000)
  (hk:K (bV (S.B σ a st.list)) (oF S g t st sp (S.F σ a st.list))):ar prog S.f (i64 a::.so 11 st.gen 0 st.n::S.ai) (oF S g t st sp σ) K:=by
 have Ia:=sY (t:=t) bH.len;have Wx:=hS.ren σ 11;have Xp:=hS.ren (S.F σ a st.list) 11;have XO:aN [0,1,2,3,4,5,11] (jf g t)=jf g t:=by unfold aN jf;simp [aE.go,aE,i64,bV]
 refine cV [0,1,2,3,4,5,11] (hS.call σ a st hI Gw Mc bH Zw hn) aU (by simp [wZ.iN]) ?_ ?_ ?_ ?_ rfl ?_
 ·simp only[wZ.iN,ajR,ajV,alh,and_true,ajN,ajO]at Wx ⊢;simp only[Wx,Ia,Dy,Ko,XO];exact⟨rfl,rfl,rfl,rfl,rfl,rfl,rfl⟩
 ·simp only[ajR,hS.aaE];rfl
 ·have:aj.go 7 S.ai=true:=hS.refs 7 ae;simpa [wZ.iN,aj.go,aj,i64]using this
 ·have:=hS.all σ 7 ae;simp only[aks,akZ,akB,ug,Io,aj4,ak5];simp only[wZ.iN]at *;rw[Ia];simp [aK,jf,aj,i64,bV,aj.go]at this ⊢;exact this
 ·simp only[wZ.iN,ajR,ajV,alh,and_true,ajN,ajO]at Xp ⊢;simp only[Xp,Ia,Dy,Ko,XO];exact hk
theorem Nf {W:Type}{S:wZ W}{I:W->Prop} (hS:S.ok g t I) (st:dK) (σ:W):(((jf g t).au.all λe=>e.all (aj 6)) &&
  (((bJ st).au.all λe=>e.all (aj 6))&&(((S.T2 σ).au.all λe=>e.all (aj 6))&&(((S.T3 σ).au.all λe=>e.all (aj 6))&&(((S.T4 σ).au.all λe=>e.all (aj 6))&&(S.T5 σ).au.all λe=>e.all (aj 6))))))=true:=by
 have h:=hS.all σ 6 (ajZ _);have h2:=ug 6 st;simp only[wZ.iN,aks,akB,aj4]at h;unfold aK at h h2;rw[h2,h];rfl
def xL {W:Type} (S:wZ W) (g:dk) (t:List Int) (bF st:dK) (σ:W):List VL.Obj :=
 [jf g t,bJ st,S.T2 σ,S.T3 σ,S.T4 σ,S.T5 σ,cw 0,uf (2*g.ai).toNat,eH 12 st,bT st,eb 6 9 8 10,eB bF,eB st]
theorem Cq {W:Type} (S:wZ W) (g:dk) (t:List Int) (bF st:dK) (σ:W):xL S g t bF st σ =
 [jf g t,bJ st,S.T2 σ,S.T3 σ,S.T4 σ,S.T5 σ,cw 0,uf (2*g.ai).toNat,eH 12 st,bT st,eb 6 9 8 10,eB bF,eB st]:=rfl
theorem TN (n N:Nat):aK n (uf N)=true:=by unfold aK uf;rw[aj3];intro e he;rw[(List.mem_replicate.1 he).2];rfl
theorem Sl {W:Type}{S:wZ W}{I:W->Prop} (hS:S.ok g t I) (bF st:dK) (σ:W):(xL S g t bF st σ).all (aK 13)=true:=by have h:=hS.all σ 13 ae;simp only[wZ.iN,aks,akB,aj4,aj5]at h;obtain⟨a,b,c,d⟩:=h;simp only[xL,aks,akB,ug,Io,TN,a,b,c,d,aj4,ak5];simp [aK,jf,cw,bT,eH,eb,aj,aj.go,i64,bV]
theorem PH {W:Type}{S:wZ W}{I:W->Prop} (hS:S.ok g t I) (bF st:dK) (σ:W):kx [0,1,2,3,4,5,6,7,8,9,10,12,11] (xL S g t bF st σ)=oF S g t st (bF.arr,bF.gen) σ:=by
 have h:=hS.down σ;simp only[wZ.iN,ajR,ajV,alh,and_true]at h;obtain⟨a,b,c,d⟩:=h;have hd:∀(ρ:List Nat) (l:List (List D)) (g0:Nat) (b:Bool) (z:Nat),di ρ ⟨g0,b,z,l.map λc=>c.map V.d⟩=⟨g0,b,z,l.map λc=>c.map V.d⟩:=by intro ρ l g0 b z;unfold di;rw[akq];congr 1;exact akz λc _=>vS _ c
 have e1:∀st:dK,bJ st=⟨1,true,1,(st.marks.map λx=>[iD x]).map λc=>c.map V.d⟩:=λst=>by simp [bJ,iD,i64]
 have e2:∀st:dK,eB st=⟨st.gen,true,3,(st.arr.map kE.cells).map λc=>c.map V.d⟩:=λst=>by simp [eB]
 have e3:∀N,uf N=⟨0,false,1,(List.replicate N [iD (-1)]).map λc=>c.map V.d⟩:=λN=>by simp [uf,iD,i64]
 have m1:∀ρ,di ρ (bJ st)=bJ st:=λρ=>by rw[e1];exact hd ρ _ _ _ _
 have m2:∀ρ st,di ρ (eB st)=eB st:=λρ st=>by rw[e2];exact hd ρ _ _ _ _
 have m3:∀ρ N,di ρ (uf N)=uf N:=λρ N=>by rw[e3];exact hd ρ _ _ _ _
 unfold kx xL oF;simp only[ajR,ajV,akM,akN,a,b,c,d,m1,m2,m3,alh,and_true,true_and];refine⟨?_,?_,?_,?_,?_,?_⟩
 ·simp [di,jf,cJ.go,cJ,List.idxOf?,List.findIdx?_cons,i64,bV]
 ·simp [di,cw,cJ.go,cJ,List.idxOf?,List.findIdx?_cons]
 ·simp [di,eH,cJ.go,cJ,List.idxOf?,List.findIdx?_cons]
 ·simp [di,bT,cJ.go,cJ,bV]
 ·simp [di,eb,cJ.go,cJ,List.idxOf?,List.findIdx?_cons]
 ·simp [ue,eB]
theorem Wf {W:Type} (S:wZ W) (g:dk) (hg:g.eF) (t:List Int) (ht:t.length<=65536) (I:W->Prop) (hS:S.ok g t I) (at_ last:Int) (Gw:0<=at_) (Mc:at_<=t.length) (oT:last<=t.length) (σ:W) (hI:I σ) (marks:List Int) (hm:marks.length=g.ins.length) :
  ar prog 84 [.rf 0 1 0 0,i64 at_,i64 last,.cl (.func S.f) [] S.ai] (jf g t::lM marks::S.iN σ) λv s =>
   v=.tu []/\s=jf g t::lM (pt S g t last (t.length+1) at_ false (bh g) ([],0) σ).1::S.iN (pt S g t last (t.length+1) at_ false (bh g) ([],0) σ).2:=by
 have hgl:=hg.Du;have aim:=hg.BA;have hgc:=hg.Rs;have aaQ:=hg.Jd;have wc:IntKind.i64.wrap (2*g.ai)=2*g.ai:=bG _ ae;obtain⟨R,hR⟩:∃R,R=pt S g t last (t.length+1) at_ false (bh g) ([],0) σ:=⟨_,rfl⟩
 rw[<- hR];unfold wZ.iN;refine bo func84 ntmps84 results84 6 4332790137498830968589844255 ?_;simp only[zQ,simprocAttr,jf,lM,wc,hm,ajM,nr,ajT];refine⟨ajZ _,⟨ae,akc _,ae,ae⟩,?_⟩;obtain⟨N,hN⟩:∃N,N=(2*g.ai).toNat:=⟨_,rfl⟩
 have hN':(N:Int)=2*g.ai:=ae;have MO:fi g=List.replicate N (-1):=by rw[hN];rfl
 refine aw (λn e s=>∃i:Nat,n=N-i/\i<=N/\e 1=i64 at_/\e 2=i64 last/\e 3=.cl (.func S.f) [] S.ai/\e 4=.rf 6 0 0 0/\e 8=.so 7 0 0 N/\e 31=i64 N/\e 32=i64 i/\s=[jf g t,lM (bh g).marks,S.T2 σ,S.T3 σ,S.T4 σ,S.T5 σ,cw 0,⟨0,true,1,List.replicate i [i64 (-1)]++List.replicate (N-i) [i64 0]⟩])
  ⟨_,_,_,bA.refl,0,rfl,ae,rfl,rfl,rfl,rfl,by rw[hN];rfl,by rw[hN];rfl,rfl,by rw[<- hN];simp [jf,lM,bh,cw,i64,bV,Iw _ _ _ _ hm]⟩ ?_
 rintro n e s ⟨i,rfl,hi,h1,h2,h3,h4,h8,U0,Ba,rfl⟩;rcases akd i N with az|gx
 ·have aA:(i:Int)<N:=by omega
  have dO:(List.replicate i [V.d (.sc (.int .i64 (-1)))]++List.replicate (N-i) [V.d (.sc (.int .i64 0))])[i]?=some [V.d (.sc (.int .i64 0))]:=by rw[List.getElem?_append_right ak];simp [List.getElem?_replicate];omega
  simp only[zQ,simprocAttr,h1,h2,h3,h4,h8,U0,Ba,aA,dO,ajT];refine⟨N-(i+1),_,_,ae,bA.refl,i+1,rfl,az,?_,?_,?_,?_,?_,?_,?_,?_⟩ <;> (try simp only[zU,pZ,jN,oN,oV,reduceIte])
  ·exact h1
  ·exact h2
  ·exact h3
  ·exact h4
  ·exact h8
  ·exact U0
  ·rw[bG _ ae];rfl
  ·rw[<- Ve _ _ az]
 ·have dX:i=N:=by omega
  subst dX;have aA:¬(i:Int)<i:=ae;simp only[zQ,simprocAttr,h1,h2,h3,h4,h8,U0,Ba,aA];have hb:(List.replicate i (-1:Int)).map (λx=>[iD x])=List.replicate i [iD (-1)]:=ak;refine aw (λn e s=>∃(a:Int) (fd:Bool) (st:dK) (sp:List kE×Nat) (m:Nat) (σ':W),(t.length:Int)+1<=n+a/\0<=a/\a<=t.length/\I σ'/\st.inv g a/\m<=sp.1.length/\pt S g t last n a fd st sp σ'=R/\VJ S g last a fd sp m e/\s=oF S g t st sp σ')
   ⟨_,_,_,.K4 ((bW.abO (v:=.d (ao (fi g))) [7] 8 ?_).trans ((kL (pre:=[]) (post:=[]) 8 3 rfl rfl rfl).trans (fW 11 3 rfl))),at_,false,bh g,([],0),0,σ,?_,Gw,Mc,hI,?_,ajZ _,hR.symm,?_,?_⟩ ?_
  ·simp only[zU,pZ,jN,oN,oV,reduceIte];rw[h8,lh (live:=false) (g:=0) (sz:=1) (au:=List.replicate i [i64 (-1)]++List.replicate (i-i) [i64 0]) (ds:=(fi g).map λx=>[iD x]) cB ?_ ak (.inr rfl)];rw[MO,hb];simp [iD,i64]
  ·omega
  ·refine⟨⟨by simp [bh],ajZ _⟩,?_,λx hx=>by simp [dK.list,bh]at hx⟩;have:=nf at_ (bh g).marks;have h':(bh g).marks.length=g.ins.length:=by simp [bh]
   have Wo:(bh g).n=0:=rfl;omega
  ·refine⟨?_,?_,?_,?_,?_,?_,?_,?_,?_,?_⟩ <;> (try simp only[zU,pZ,jN,oN,oV,reduceIte])
   all_goals (first|exact h1|exact h2|exact h3|exact h4|rfl)
  ·simp [br,ck,oF,uf,<- hN,i64,bV,eH,bT,eb,eB,ue,bJ,lM,bh]
  rintro n e s ⟨a,fd,st,sp,m,σ',hna,Gw,Mc,fS,hinv,hm,iY,⟨h1,h2,h3,h4,h8,cA,eI,dV,gr,dA⟩,rfl⟩;obtain⟨k,rfl⟩:∃k,n=k+1:=⟨n-1,ae⟩
  rw[pt]at iY;have yV:(fB g t a last fd st).inv g a:=by
   unfold fB;split
   ·exact mf g hg t a a _ _ _ st hinv (akc _) ae (by simp [fi])
   ·exact hinv
  rw[oH,kZ];refine Dq (λe s=>VJ S g last a fd sp m e/\s=oF S g t (fB g t a last fd st) sp σ') ?_ ?_
  ·intro B Q hB;have UM:=hinv.ok.len;have Ia:=sY (t:=t) UM;by_cases c1:a<=last
   ·cases fd with
    |false =>
     have hs:fB g t a last false st=gI g t a a (qb g) 0 (fi g) st:=be ⟨c1,rfl⟩;have zr:=Ir g hg t ht a a Gw Mc g.ins.length 0 (fi g) st (akc _) ae (by simp [fi]) hinv.ok (by have:=nf a st.marks;omega) (by have:=hinv.n;omega);rw[hs]at hB yV;unfold qb at *;generalize gI g t a a (g.ins.length+1) 0 (fi g) st=R1 at *;unfold oF;simp only[zQ,simprocAttr,h1,h2,h3,h4,h8,cA,eI,dV,gr,dA,c1,eb];refine rk (a0:=0) (a1:=1) (a2:=6) (a3:=9) (a4:=8) (a5:=10) (a6:=11) zr aU (congrArg some Ia.symm) rfl rfl rfl rfl rfl rfl rfl rfl rfl ?_;rw[sY yV.ok.len];simp only[aj9,akf];simp only[zQ,simprocAttr];refine hB _ _ ⟨⟨?_,?_,?_,?_,?_,?_,?_,?_,?_,?_⟩,rfl⟩ <;> (try simp only[zU,pZ,jN,oN,oV,reduceIte])
     ·exact h1
     ·exact h2
     ·exact h3
     ·exact h4
     ·exact h8
     ·exact cA
     ·exact eI
     ·exact dV
     ·exact gr
     ·exact dA
    |true =>
     have hs:fB g t a last true st=st:=ap ak;rw[hs]at hB;unfold oF;simp only[zQ,simprocAttr,h1,h2,h3,h4,h8,cA,eI,dV,gr,dA,c1];refine hB _ _ ⟨⟨?_,?_,?_,?_,?_,?_,?_,?_,?_,?_⟩,rfl⟩ <;> (try simp only[zU,pZ,jN,oN,oV,reduceIte])
     ·exact h1
     ·exact h2
     ·exact h3
     ·exact h4
     ·exact h8
     ·exact cA
     ·exact eI
     ·exact dV
     ·exact gr
     ·exact dA
   ·have hs:fB g t a last fd st=st:=ap (λh=>c1 h.1);rw[hs]at hB;unfold oF;simp only[zQ,simprocAttr,h1,h2,h3,h4,h8,cA,eI,dV,gr,dA,c1];refine hB _ _ ⟨⟨?_,?_,?_,?_,?_,?_,?_,?_,?_,?_⟩,rfl⟩ <;> (try simp only[zU,pZ,jN,oN,oV,reduceIte])
    ·exact h1
    ·exact h2
    ·exact h3
    ·exact h4
    ·exact h8
    ·exact cA
    ·exact eI
    ·exact dV
    ·exact gr
    ·exact dA
  rintro e s ⟨⟨h1,h2,h3,h4,h8,cA,eI,dV,gr,dA⟩,rfl⟩;generalize fB g t a last fd st=bF at *;refine Dq (λe s=>VJ S g last a (fd||bF.closed) sp m e/\s=oF S g t bF sp σ') ?_ ?_
  ·intro B Q hB;unfold oF at *;cases fd with
   |true =>
    simp only[zQ,simprocAttr,h1,h2,h3,h4,h8,cA,eI,dV,gr,dA];refine hB _ _ ⟨⟨?_,?_,?_,?_,?_,?_,?_,?_,?_,?_⟩,rfl⟩ <;> (try simp only[zU,pZ,jN,oN,oV,reduceIte])
    all_goals (first|exact h1|exact h2|exact h3|exact h4|exact h8|exact cA|exact eI|exact gr|exact dA|rfl|(simp [bT,qf,bV];done))
   |false =>
    cases qf:bF.closed with
    |true =>
     rw[qf]at hB;simp only[zQ,simprocAttr,h1,h2,h3,h4,h8,cA,eI,dV,gr,dA,bT,qf];refine hB _ _ ⟨⟨?_,?_,?_,?_,?_,?_,?_,?_,?_,?_⟩,?_⟩ <;> (try simp only[zU,pZ,jN,oN,oV,reduceIte])
     all_goals (first|exact h1|exact h2|exact h3|exact h4|exact h8|exact cA|exact eI|exact gr|exact dA|rfl|(simp [bT,qf,bV];done))
    |false =>
     rw[qf]at hB;simp only[zQ,simprocAttr,h1,h2,h3,h4,h8,cA,eI,dV,gr,dA,bT,qf];refine hB _ _ ⟨⟨?_,?_,?_,?_,?_,?_,?_,?_,?_,?_⟩,?_⟩ <;> (try simp only[zU,pZ,jN,oN,oV,reduceIte])
     all_goals (first|exact h1|exact h2|exact h3|exact h4|exact h8|exact cA|exact eI|exact gr|exact dA|rfl|(simp [bT,qf,bV];done))
  rintro e s ⟨⟨h1,h2,h3,h4,h8,cA,eI,dV,gr,dA⟩,rfl⟩;generalize (fd||bF.closed)=ZE at *;refine Dq (λe s=>(VJ S g last a ZE sp m e/\e 15=bV (decide (bF.n=0/\(ZE=true\/last<=a))))/\s=oF S g t bF sp σ') ?_ ?_
  ·intro B Q hB;unfold oF at *;have NO:(eB bF).g=bF.gen:=rfl;by_cases z0:bF.n=0
   ·have hz:=eq_true (show (bF.n:Int)=0 by omega);cases ZE with
    |true =>
     simp only[zQ,simprocAttr,h1,h2,h3,h4,h8,cA,eI,dV,gr,dA,eH,NO,hz];refine hB _ _ ⟨⟨⟨?_,?_,?_,?_,?_,?_,?_,?_,?_,?_⟩,?_⟩,?_⟩ <;> (try simp only[zU,pZ,jN,oN,oV,reduceIte])
     all_goals (first|exact h1|exact h2|exact h3|exact h4|exact h8|exact cA|exact eI|exact dV|exact gr|exact dA|(simp [z0,bV];done)|(simp [eH,z0];done)|(simp [eH];done))
    |false =>
     by_cases c2:last<=a
     ·simp only[zQ,simprocAttr,h1,h2,h3,h4,h8,cA,eI,dV,gr,dA,eH,NO,hz,c2];refine hB _ _ ⟨⟨⟨?_,?_,?_,?_,?_,?_,?_,?_,?_,?_⟩,?_⟩,?_⟩ <;> (try simp only[zU,pZ,jN,oN,oV,reduceIte])
      all_goals (first|exact h1|exact h2|exact h3|exact h4|exact h8|exact cA|exact eI|exact dV|exact gr|exact dA|(simp [z0,c2,bV];done)|(simp [eH,z0];done))
     ·simp only[zQ,simprocAttr,h1,h2,h3,h4,h8,cA,eI,dV,gr,dA,eH,NO,hz,c2];refine hB _ _ ⟨⟨⟨?_,?_,?_,?_,?_,?_,?_,?_,?_,?_⟩,?_⟩,?_⟩ <;> (try simp only[zU,pZ,jN,oN,oV,reduceIte])
      all_goals (first|exact h1|exact h2|exact h3|exact h4|exact h8|exact cA|exact eI|exact dV|exact gr|exact dA|(simp [z0,c2,bV];done)|(simp [eH,z0];done))
   ·have z0':¬(bF.n:Int)=0:=by omega
    simp only[zQ,simprocAttr,h1,h2,h3,h4,h8,cA,eI,dV,gr,dA,eH,NO,z0'];refine hB _ _ ⟨⟨⟨?_,?_,?_,?_,?_,?_,?_,?_,?_,?_⟩,?_⟩,?_⟩ <;> (try simp only[zU,pZ,jN,oN,oV,reduceIte])
    all_goals (first|exact h1|exact h2|exact h3|exact h4|exact h8|exact cA|exact eI|exact dV|exact gr|exact dA|(simp [z0,bV];done)|(simp [eH,z0];done)|(simp [eH];done))
  rintro e s ⟨⟨⟨h1,h2,h3,h4,h8,cA,eI,dV,gr,dA⟩,ji⟩,rfl⟩;have NO:(eB bF).g=bF.gen:=rfl;have AV:=yV.ok.n;have Yu:=yV.n;have YR:bF.list=[] ↔ bF.n=0:=by unfold dK.list;rw[<- ak3,akH];omega
  simp only[YR]at iY;rw[KP];simp only[zQ,simprocAttr,h1,h2,h3,h4,h8,cA,eI,dV,gr,dA,ji,eH];refine Tb (st:=bF) (sp:=sp) (σ:=σ') (a:=a) hS fS Gw Mc yV.ok yV.th ae ?_;have Rf:=hS.aZ σ' a bF.list fS;have aio:∀σ,(S.iN σ).all (aK 6)=true:=λσ=>hS.all σ 6 (ajZ _);generalize S.F σ' a bF.list=σ2 at *;rw[KP];cases hBB:S.B σ' a bF.list with
  |false =>
   rw[be (.inl hBB)]at iY;simp only[zQ,simprocAttr,h1,h2,h3,h4,h8,cA,eI,dV,gr,dA,ji];rw[<- iY];exact⟨Nf hS bF σ2,rfl⟩
  |true =>
   have Rf:=Rf hBB;have I5:=yV.ok.len;by_cases dn:bF.n=0/\(ZE=true\/last<=a)
   ·rw[be (.inr (.inl dn))]at iY;rw[bi dn]at ji;simp only[zQ,simprocAttr,h1,h2,h3,h4,h8,cA,eI,dV,gr,dA,ji];rw[<- iY];exact⟨Nf hS bF σ2,rfl⟩
   rw[ce dn]at ji;by_cases hal:(t.length:Int)<=a
   ·rw[be (.inr (.inr hal))]at iY;simp only[zQ,simprocAttr,h1,h2,h3,h4,h8,cA,eI,dV,gr,dA,ji,jf,cw,ao,hal,ajM];rw[<- iY];exact⟨Nf hS bF σ2,rfl⟩
   rw[ap (λh=>h.elim (by rw[hBB];simp) (λh=>h.elim dn hal))]at iY;simp only[zQ,simprocAttr,h1,h2,h3,h4,h8,cA,eI,dV,gr,dA,ji,jf,cw,ao,hal,ajM];have By:⟨bF.marks,false,sp.1,0,sp.2⟩=qE g t a (bF.list.take 0) ⟨bF.marks,false,sp.1,0,sp.2⟩:=rfl;refine cu mix [] [(2,[8],[]),(3,[8],[8]),(5,[9],[9])] ?_;have dM:(ue sp).g=sp.2:=rfl;have jA:(ue sp).sz=3:=rfl;have hs3:m<=(ue sp).au.length:=by simpa [ue]using hm
   simp only[zQ,simprocAttr,h1,h2,h3,h4,h8,cA,eI,dV,gr,dA,ji,dM,jA,hs3,NO,ajT,eH,bT];obtain⟨Yz,Y1⟩:∃Yz:dK,Yz=⟨bF.marks,false,sp.1,0,sp.2⟩:=⟨_,rfl⟩
   rw[<- Y1]at iY;refine aw (λn e s=>∃(i:Nat) (st:dK),n=bF.n-i/\i<=bF.n/\st=qE g t a (bF.list.take i) Yz/\e 1=i64 a/\e 2=i64 last/\e 3=.cl (.func S.f) [] S.ai/\e 4=.rf 6 0 0 0/\e 8=.d (ao (fi g))/\e 10=.rf 8 0 0 0/\e 11=.so 11 bF.gen 0 bF.n/\e 12=bV ZE/\e 13=.rf 9 0 0 0/\e 14=.rf 10 0 0 0/\e 89=.so 11 bF.gen 0 bF.n/\e 90=i64 bF.n/\e 91=i64 i/\s=xL S g t bF st σ2)
    ?_ ?_
   ·refine⟨_,_,_,bA.refl,0,Yz,rfl,ae,rfl,?_,?_,?_,?_,?_,?_,?_,?_,?_,?_,?_,?_,?_,?_⟩ <;> (try simp only[zU,pZ,jN,oN,oV,reduceIte])
    all_goals (first|exact h1|exact h2|exact h3|exact h4|exact h8|exact cA|exact dV|exact gr|exact dA|rfl|(rw[Y1];rfl))
   rintro n e s ⟨i,st,rfl,hi,bH,h1,h2,h3,h4,h8,cA,eI,dV,gr,dA,NZ,OI,SJ,rfl⟩;have Dg:Yz.inv g (a+1):=by rw[Y1];refine⟨⟨I5,alf _⟩,?_,λx hx=>by simp [dK.list]at hx⟩;have:=nf (a+1) bF.marks;show 0+zl (a+1) bF.marks<=_;omega
   have Lc:st.inv g (a+1):=by rw[bH];exact nV g hg t a _ Yz (λx hx=>yV.th x (akv hx)) Dg
   have hmi:=Lc.ok.len;have adT:(eB bF).g=bF.gen:=rfl;rcases akd i bF.n with az|gx
   ·obtain⟨x,hx⟩:∃x,bF.arr[i]?=some x:=cc;have UK:bF.list[i]?=some x:=by unfold dK.list;rw[List.getElem?_take,be az];exact hx
    have AY:=yV.th x (List.mem_of_getElem? UK);have NX:=AY.p0;have oM:=AY.p1;have Nn:=iP NX oM;have aA:(i:Int)<bF.n:=ae;have vj:=hg.aa3 _ (List.mem_of_getElem? Nn);have aaD:=Vk (bu g x.cI).set (mG t a) ae;have Xz:=hg.next x.cI.toNat _ Nn;have w2:IntKind.i64.wrap (x.cI+1)=x.cI+1:=bG _ ae;have wa2:IntKind.i64.wrap (a+1)=a+1:=bG _ ae;have htx:t[a.toNat]?=some (mG t a):=pM Gw ae;have Yl:qE g t a (bF.list.take (i+1)) Yz=lu g t a st x:=by rw[bm UK,Mi,<- bH]
    simp only[i64,bV]at aaD;have O9:(eB bF).au[i]?=some [V.d (iD x.cI),V.d (iD x.from_),V.d (ao x.aF)]:=by simp [eB,hx,kE.cells]
    have adZ:(eB bF).sz=3:=rfl;have aei:a<(t.length:Int):=ae;have II:=Sl hS (t:=t) bF;rw[Cq];simp only[zQ,simprocAttr,h1,h2,h3,h4,h8,cA,eI,dV,gr,dA,NZ,OI,SJ,aA,adT,O9,adZ,ajT];refine aX bW.bn ?_;refine cu mix [] [(9,[14],[14]),(10,[14],[14])] ?_;simp only[zQ,simprocAttr,h1,h2,h3,h4,h8,cA,eI,dV,gr,dA,NZ,OI,SJ,jf,cw,NX,oM,Nn,bM.cells,hole,ajM];refine cu mix [] [] ?_;by_cases ho:(bu g x.cI).op=1
    ·have g7:=eq_true ho;simp only[zQ,simprocAttr,h1,h2,h3,h4,h8,cA,eI,dV,gr,dA,NZ,OI,SJ,ao,g7,Gw,aei,htx,ajM];refine Fk aaD ?_;cases Mm:hasB (bu g x.cI).set (mG t a) with
     |true =>
      have hF:lu g t a st x=gI g t (a+1) x.from_ (g.ins.length+1) (x.cI+1) x.aF st:=be ⟨ho,Mm⟩;have Mb:=Xz (.inl ho);have zr:=Ir g hg t ht (a+1) x.from_ ae ae g.ins.length (x.cI+1) x.aF st ae ae AY.aF Lc.ok (by have:=nf (a+1) st.marks;omega) (by have:=Lc.n;omega);have ab1:(gI g t (a+1) x.from_ (g.ins.length+1) (x.cI+1) x.aF st).marks.length=g.ins.length:=(mf g hg t (a+1) x.from_ _ _ _ st Lc ae ae AY.aF).ok.len;obtain⟨RR,hRR⟩:∃RR,RR=gI g t (a+1) x.from_ (g.ins.length+1) (x.cI+1) x.aF st:=⟨_,rfl⟩
      rw[<- hRR]at zr hF ab1;have adJ:=sY (t:=t) ab1;have Ia:=sY (t:=t) hmi;simp only[zQ,simprocAttr,h1,h2,h3,h4,h8,cA,eI,dV,gr,dA,NZ,OI,SJ,eb,w2,wa2];refine rk (a0:=0) (a1:=1) (a2:=6) (a3:=9) (a4:=8) (a5:=10) (a6:=12) zr aU (congrArg some Ia.symm) rfl rfl rfl rfl rfl rfl rfl rfl rfl ?_;rw[adJ];simp only[aj9,akf];simp only[zQ,simprocAttr,h1,h2,h3,h4,h8,cA,eI,dV,gr,dA,NZ,OI,SJ];refine⟨bF.n-(i+1),_,_,ae,bA.cut (s':=xL S g t bF RR σ2) 13 ae rfl (II _ _) [1,2,3,4,8,10,11,12,13,14,89,90,91] ?_,i+1,RR,rfl,az,by rw[Yl,hF],?_,?_,?_,?_,?_,?_,?_,?_,?_,?_,?_,?_,?_,rfl⟩ <;> (try simp only[zU,pZ,jN,oN,oV,reduceIte])
      ·simp [bK,aS,aj,aj.go,h1,h2,h3,h4,h8,cA,eI,dV,gr,dA,NZ,OI,SJ,i64,bV,hS.refs 13 ae]
      all_goals (first|exact h1|exact h2|exact h3|exact h4|exact h8|exact cA|exact eI|exact dV|exact gr|exact dA|exact NZ|exact OI|(rw[bG _ ae];rfl))
     |false =>
      have hF:lu g t a st x=st:=ap (λh=>by have h2:=h.2;rw[Mm]at h2;cases h2);simp only[zQ,simprocAttr,h1,h2,h3,h4,h8,cA,eI,dV,gr,dA,NZ,OI,SJ];refine⟨bF.n-(i+1),_,_,ae,bA.cut (s':=xL S g t bF st σ2) 13 ae rfl (II _ _) [1,2,3,4,8,10,11,12,13,14,89,90,91] ?_,i+1,st,rfl,az,by rw[Yl,hF],?_,?_,?_,?_,?_,?_,?_,?_,?_,?_,?_,?_,?_,rfl⟩ <;> (try simp only[zU,pZ,jN,oN,oV,reduceIte])
      ·simp [bK,aS,aj,aj.go,h1,h2,h3,h4,h8,cA,eI,dV,gr,dA,NZ,OI,SJ,i64,bV,hS.refs 13 ae]
      all_goals (first|exact h1|exact h2|exact h3|exact h4|exact h8|exact cA|exact eI|exact dV|exact gr|exact dA|exact NZ|exact OI|(rw[bG _ ae];rfl))
    ·have hF:lu g t a st x=st:=ap (λh=>ho h.1);simp only[zQ,simprocAttr,h1,h2,h3,h4,h8,cA,eI,dV,gr,dA,NZ,OI,SJ,ho];refine⟨bF.n-(i+1),_,_,ae,bA.cut (s':=xL S g t bF st σ2) 13 ae rfl (II _ _) [1,2,3,4,8,10,11,12,13,14,89,90,91] ?_,i+1,st,rfl,az,by rw[Yl,hF],?_,?_,?_,?_,?_,?_,?_,?_,?_,?_,?_,?_,?_,rfl⟩ <;> (try simp only[zU,pZ,jN,oN,oV,reduceIte])
     ·simp [bK,aS,aj,aj.go,h1,h2,h3,h4,h8,cA,eI,dV,gr,dA,NZ,OI,SJ,i64,bV,hS.refs 13 ae]
     all_goals (first|exact h1|exact h2|exact h3|exact h4|exact h8|exact cA|exact eI|exact dV|exact gr|exact dA|exact NZ|exact OI|(rw[bG _ ae];rfl))
   ·have dX:i=bF.n:=by omega
    subst dX;have aA:¬(bF.n:Int)<bF.n:=ae;have Rd:bF.list.take bF.n=bF.list:=akb (by unfold dK.list;rw[akH];omega);rw[Rd]at bH;rw[<- bH]at iY;rw[Cq];simp only[zQ,simprocAttr,h1,h2,h3,h4,h8,cA,eI,dV,gr,dA,NZ,OI,SJ,aA];rw[<- Cq S g t bF st σ2];refine⟨k,_,_,Nat.lt_succ_self k,bA.Dv [0,1,2,3,4,5,6,7,8,9,10,12,11] [1,2,3,4,8,10,11,12,13,14] cB,a+1,ZE,st,(bF.arr,bF.gen),bF.n,σ2,ae,ae,ae,Rf,Lc,AV,iY,?_,PH hS bF st σ2⟩
    ·refine⟨?_,?_,?_,?_,?_,?_,?_,?_,?_,?_⟩;all_goals
      rw[xQ,be cB];try simp only[zU,pZ,jN,oN,oV,reduceIte]
     ·rw[bG _ ae];rfl
     ·rw[h2];rfl
     ·rw[h3];have hdc:=hS.abW;show V.cl _ _ (cJ.go _ S.ai)=_;rw[hdc];rfl
     ·rw[h4];rfl
     ·rw[h8];rfl
     ·rw[cA];rfl
     ·rw[eI];rfl
     ·rw[dV];rfl
     ·rw[gr];rfl
     ·rw[dA];rfl
end Go.Proofs.YtjjfioalgbecmaaGreat
