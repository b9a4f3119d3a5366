/- A part of the proof. -/
import Derived.Test.YtjjfioalgbecmaaGreatOA25
set_option linter.unusedSimpArgs false
set_option linter.unusedVariables false
open Nat renaming reduceShiftRight → qa, reduceMod → qe, reduceEqDiff → Fp, reduceBEq → Ft
open Int renaming reduceEq → FD
set_option maxRecDepth 100000
set_option maxHeartbeats 80000000
namespace Go.Proofs.YtjjfioalgbecmaaGreat
open Go.VL
structure iz where
 fL:Nat
 aR:List Int
def iz.cells (x:iz):List D:=[iD x.fL,ar x.aR]
structure eQ where
 ad:List Nat
 cl:Bool
 rd:List iz
 gn:Nat
def fq (t:List Int) (Bs:List (List Bool)) (C:List aw) (p:Nat):Nat->Nat->List Int->eQ->eQ
 |0,_,_,st=>st
 |k+1,n,rg,st =>
  if st.cl=true\/st.ad[n]?=none\/st.ad[n]?=some (p+1) then st else
  let dI:eQ:=⟨st.ad.set n (p+1),st.cl,st.rd,st.gn⟩
  let i:=bH C n
  if i.op=0\/i.op=1 then ⟨dI.ad,decide (i.op=0),dI.rd++[⟨n,rg⟩],dI.gn+1⟩
  else if i.op=2 then fq t Bs C p k i.y.toNat rg (fq t Bs C p k i.x.toNat rg dI)
  else if i.op=3 then fq t Bs C p k i.x.toNat rg dI
  else if i.op=4 then fq t Bs C p k (n+1) (rg.set i.n.toNat p) dI
  else if i.op=5 then (if i.pass t Bs p=true then fq t Bs C p k (n+1) rg dI else dI)
  else dI
section
variable (t:List Int) (Bs:List (List Bool)) (C:List aw) (p:Nat) (c:Nat)
def iz.ok (x:iz):Prop:=x.aR.length=c/\x.fL<C.length/\((bH C x.fL).op=0\/(bH C x.fL).op=1)
def BC (st st':eQ):Prop:=st'.ad.length=st.ad.length/\fC p st'.ad<=fC p st.ad/\st'.rd.length+fC p st'.ad<=st.rd.length+fC p st.ad/\∀e∈st'.rd,e∈st.rd\/e.ok C c
variable {C p c}
theorem BC.refl (st:eQ):BC C p c st st:=⟨rfl,ale _,ale _,λ_ h=>.inl h⟩
theorem BC.trans {a b d:eQ} (h:BC C p c a b) (k:BC C p c b d):BC C p c a d :=
 ⟨k.1.trans h.1,al7 k.2.1 h.2.1,al7 k.2.2.1 h.2.2.1,λe he=>(k.2.2.2 e he).elim (λh'=>h.2.2.2 e h') .inr⟩
variable (C p c)
theorem nQ:∀(k n:Nat) (rg:List Int) (st:eQ),rg.length=c->st.ad.length=C.length->BC C p c st (fq t Bs C p k n rg st)
 |0,_,_,st,_,_=>.refl st
 |k+1,n,rg,st,hr,hd=>by
  have ih:=nQ k;rw[fq];split
  ·exact .refl st
  ·rename_i hk;obtain⟨x,hx⟩:∃x,st.ad[n]?=some x:=by
    cases h:st.ad[n]? with
    |none=>exact absurd (.inr (.inl h)) hk
    |some x=>exact⟨x,rfl⟩
   have yb:x≠p+1:=λh=>hk (.inr (.inr (by rw[hx,h])));have hn:=(List.getElem?_eq_some_iff.1 hx).1;have hu:=rO hx yb;have key:BC C p c st ⟨st.ad.set n (p+1),st.cl,st.rd,st.gn⟩:=⟨aq,oE,oE,λ_ h=>.inl h⟩
   have qg:(⟨st.ad.set n (p+1),st.cl,st.rd,st.gn⟩:eQ).ad.length=C.length:=by simpa using hd
   simp only;split
   ·rename_i h1;refine⟨aq,oE,by simp only[ald,alC];omega,λe he=>?_⟩;rcases List.mem_append.1 he with h|h
    ·exact .inl h
    ·rw[List.mem_singleton.1 h];exact .inr ⟨hr,oE,h1⟩
   split
   ·have k1:=ih (bH C n).x.toNat rg _ hr qg;exact(key.trans k1).trans (ih _ _ _ hr (k1.1.trans qg))
   split
   ·exact key.trans (ih _ _ _ hr qg)
   split
   ·exact key.trans (ih _ _ _ (by simpa using hr) qg)
   split
   ·split
    ·exact key.trans (ih _ _ _ hr qg)
    ·exact key
   ·exact key
end
def fv (q:Nat) (l:List iz):VL.Obj:=⟨q,true,2,l.map λx=>x.cells.map V.d⟩
def GI (g N:Nat):V:=.cl (.func 71) [] [.rf 5 0 0 0,.rf 4 0 0 0,.bx (.so 2 g 0 N),.rf 6 0 0 0,.rf 8 0 0 0]
def qc (t:List Int) (root parts:D) (bg nb:Nat) (Bs:List (List Bool)) (g b a:Nat) (C:List aw) (q:Nat) (st:eQ):List VL.Obj :=
 [dV t root parts bg nb,fW bg Bs,db g b a C,bG q st.ad,dG 3 q C.length,⟨0,true,1,[[bV st.cl]]⟩,dG 7 st.gn st.rd.length,fv st.gn st.rd,⟨0,true,1,[[GI g C.length]]⟩]
def dE (g N n p:Nat) (rg:List Int):List V:=[i64 n,i64 p,.d (ar rg),.rf 5 0 0 0,.rf 4 0 0 0,.bx (.so 2 g 0 N),.rf 6 0 0 0,.rf 8 0 0 0]
theorem HP (ρ:List Nat) (q:Nat) (l:List iz):ba ρ (fv q l)=fv q l:=by unfold ba fv;simp only[alH];congr 1
theorem Oh (bp:List Nat) (q:Nat) (l:List iz):fZ bp (fv q l)=fv q l:=by unfold fZ fv;simp only[alH];congr 1
theorem vk (n q:Nat) (l:List iz):aY n (fv q l)=true:=by unfold aY fv;rw[als];intro e he;obtain⟨i,_,rfl⟩:=List.mem_map.1 he;rfl
section
variable (t:List Int) (root parts:D) (bg nb:Nat) (Bs:List (List Bool)) (g b a:Nat) (C:List aw) (q:Nat) (p:Nat) (c:Nat)
theorem OS (st:eQ):(qc t root parts bg nb Bs g b a C q st).map (ba [0,1,2,3,4,5,6,7,8])=qc t root parts bg nb Bs g b a C q st:=by simp only[qc,ak8,ak9,kL,fQ,oY,HP];simp [ba,dV,dG,GI,aI,aI.go,bV]
theorem Tr (st:eQ):(qc t root parts bg nb Bs g b a C q st).all (aY 9)=true:=by have:=hU 9 bg Bs;simp only[qc,alR,alW,kR 9 _ _ _ ae,oD,vk,alp];simp [aY,dV,dG,GI,ak,ak.go,bV,this]
def Vm (k:Nat):Prop:=∀(n:Nat) (rg:List Int) (st:eQ),n<C.length->rg.length=c->st.ad.length=C.length->fC p st.ad<=k->st.rd.length+fC p st.ad<=C.length ->
 av Tryz.prog 71 (dE g C.length n p rg) (qc t root parts bg nb Bs g b a C q st) λv s=>v=.tu []/\s=qc t root parts bg nb Bs g b a C q (fq t Bs C p (k+1) n rg st)
def Ib:Prop:=∀n,n<C.length->(bH C n).op=4->0<=(bH C n).n/\(bH C n).n<(c:Int)
variable {t root parts bg nb Bs g b a C q p c}
theorem HC {k n:Nat}{rg:List Int}{st:eQ} (h:Vm t root parts bg nb Bs g b a C q p c k) (hn:n<C.length) (hc:rg.length=c) (h1:st.ad.length=C.length) (hu:fC p st.ad<=k) (hr:st.rd.length+fC p st.ad<=C.length) {tl:List VL.Obj}{K:V->List VL.Obj->Prop}
  (hk:K (.tu []) (qc t root parts bg nb Bs g b a C q (fq t Bs C p (k+1) n rg st)++tl)) :
  av Tryz.prog 71 (dE g C.length n p rg) (qc t root parts bg nb Bs g b a C q st++tl) K:=by
 have CX:=OS t root parts bg nb Bs g b a C q st;refine dD [0,1,2,3,4,5,6,7,8] (h n rg st hn hc h1 hu hr) aF rfl ?_ eh eh (Tr t root parts bg nb Bs g b a C q st) (r':=.tu []) rfl ?_
 ·have h2:(qc t root parts bg nb Bs g b a C q st).map (λo=>some (ba [0,1,2,3,4,5,6,7,8] o))=((qc t root parts bg nb Bs g b a C q st).map (ba [0,1,2,3,4,5,6,7,8])).map some:=by rw[alH];rfl
  rw[h2,CX];rfl
 ·rw[OS];exact hk
end
theorem aaE (l:List Int):∀e∈(l.map λx=>[iD x]).map (λx=>x.map V.d),e.length=1:=λe he=>by obtain⟨x,hx,rfl⟩:=List.mem_map.1 he;obtain⟨y,_,rfl⟩:=List.mem_map.1 hx;rfl
theorem DO {P:Program}{f:FuncId}{args:List V}{s:List VL.Obj}{K:V->List VL.Obj->Prop}{x y:V} (ids:List Nat) (j:Nat) (hj:args[j]?=some x) (hf:bq (bI s ids).length (bI s ids) x=some y) (h:av P f (args.set j y) (bI s ids) K):av P f args s K:=by
 refine⟨h.1,λσ w vals hI hl hv=>?_⟩;obtain⟨hE,jR⟩:=rT ids s hI;refine(h.2 σ w vals jR (by simpa using hl) λi z hz=>?_).mono λe w' ⟨u,v,σ',s',h1,h2,h3,h4,h5⟩=>⟨u,v,σ',s',h1,hE.trans h2,h3,h4,h5⟩
 rw[List.getElem?_set]at hz;split at hz
 ·rename_i Zj;subst Zj;split at hz
  ·cases hz;have:=lk jR ((hv j x hj).bj hE) hf;rwa [alr]at this
  ·cases hz
 ·exact(hv i z hz).bj hE
section
variable (t:List Int) (root parts:D) (bg nb:Nat) (Bs:List (List Bool)) (g b a:Nat) (C:List aw) (q:Nat) (p:Nat) (c:Nat)
theorem HY (hg:fz t Bs C) (Sr:Ib C c) (xY:c<=100000) (oK:nb=Bs.length) (ht:t.length<=1000000) (hp:p<=t.length) (k:Nat) (IH:∀j,j+1=k->Vm t root parts bg nb Bs g b a C q p c j):Vm t root parts bg nb Bs g b a C q p c k:=by
 intro n rg st hn hrg h1 hu II;have hCl:=hg.len;have jj:(n:Int)<(C.length:Int):=ae;have fS:(0:Int)<=(n:Int):=ae;have ka:n<st.ad.length:=ae;have uo:IntKind.i64.wrap ((p:Int)+1)=((p+1:Nat):Int):=by rw[bK _ ae];rfl
 have gY:=hU 9 bg Bs;have ll:((dV t root parts bg nb).aA.all λe=>e.all (ak 9))=true:=rfl;have kG:((C.map (aw.cells b a)).all λe=>e.all (ak 9))=true:=kR 9 g b a ae C;have Mc:∀q l,((fv q l).aA.all λe=>e.all (ak 9))=true:=λq l=>vk 9 q l;have tW:∀l:List Nat,((l.map λ(x:Nat)=>[V.d (D.sc (Value.int IntKind.i64 (x:Int)))]).all λe=>e.all (ak 9))=true:=λl=>oD 9 0 l;obtain⟨x,hx⟩:∃x,st.ad[n]?=some x:=cb ka;obtain⟨i,hi⟩:∃i,C[n]?=some i:=cb hn;have lD:bH C n=i:=by unfold bH;rw[List.getD_eq_getElem?_getD,hi];rfl
 cases cQ:st.cl with
 |true =>
  have hr:fq t Bs C p (k+1) n rg st=st:=by rw[fq,be (.inl cQ)]
  exact Zbo
 |false =>
 by_cases Wx:x=p+1
 ·subst Wx;have hr:fq t Bs C p (k+1) n rg st=st:=by rw[fq,be (.inr (.inr hx))]
  exact Zbo
 have wZ:((x:Int)=((p+1:Nat):Int))=False:=eq_false ae;have hu1:=rO hx Wx;have hup:=KZ hx Wx;have KY:fq t Bs C p (k+1) n rg st=(let dI:eQ:=⟨st.ad.set n (p+1),false,st.rd,st.gn⟩
  if i.op=0\/i.op=1 then ⟨dI.ad,decide (i.op=0),dI.rd++[⟨n,rg⟩],dI.gn+1⟩
  else if i.op=2 then fq t Bs C p k i.y.toNat rg (fq t Bs C p k i.x.toNat rg dI)
  else if i.op=3 then fq t Bs C p k i.x.toNat rg dI
  else if i.op=4 then fq t Bs C p k (n+1) (rg.set i.n.toNat p) dI
  else if i.op=5 then (if i.pass t Bs p=true then fq t Bs C p k (n+1) rg dI else dI)
  else dI):=by rw[fq,ap (by rw[hx,cQ];rintro (h|h|h) <;> simp at h;exact Wx h),lD,cQ]
 simp only at KY;rw[KY];have hT:List.take st.rd.length (st.rd.map λ(x:iz)=>x.cells.map V.d)++[[V.d (iD n),V.d (ar rg)]]=(st.rd++[(⟨n,rg⟩:iz)]).map λ(x:iz)=>x.cells.map V.d:=by rw[aln (by rw[ak4];exact ale _)];simp [iz.cells]
 have hcN:fC p st.ad<=st.ad.length:=al4;by_cases o0:i.op=0
 ·simp only[o0,true_or,if_true];unfold dE qc;refine br Tryz.func71 Tryz.ntmps71 Tryz.results71 9 25769810175 ?_;simp only[iD,ar]at hT;simp only[zQ,simprocAttr,dE,qc,cA,aV,dG,bG,GI,db,jj,fS,ka,hn,h1,ak7,ak4,List.getElem?_map,hx,hi,ala,alc,aw.cells,jO,ll,gY,kG,Mc,tW,alp,ak5,ak6,alu,uo,cQ,wZ,o0,fv,hT,ar];exact Zcx
 by_cases o1:i.op=1
 ·simp only[o1,or_true,if_true];unfold dE qc;refine br Tryz.func71 Tryz.ntmps71 Tryz.results71 9 25769810175 ?_;simp only[iD,ar]at hT;simp only[zQ,simprocAttr,dE,qc,cA,aV,dG,bG,GI,db,jj,fS,ka,hn,h1,ak7,ak4,List.getElem?_map,hx,hi,ala,alc,aw.cells,jO,ll,gY,kG,Mc,tW,alp,ak5,ak6,alu,uo,cQ,wZ,o1,fv,hT,ar];exact Zcx
 rw[bm];obtain⟨j,rfl⟩:∃j,k=j+1:=⟨k-1,ae⟩
 have VY:=λ(m:Nat) (r:List Int) (hm:m<C.length) (hr:r.length=c) (tl:List VL.Obj) (K:V->List VL.Obj->Prop) hk=>HC (IH j rfl) (n:=m) (rg:=r) (st:=⟨st.ad.set n (p+1),false,st.rd,st.gn⟩) hm hr (by simpa using h1) oE oE (tl:=tl) (K:=K) hk;have hlen:=λm=>nQ t Bs C p c (j+1) m rg ⟨st.ad.set n (p+1),false,st.rd,st.gn⟩ hrg (by simpa using h1);by_cases o3:i.op=3
 ·obtain⟨x0,x1⟩:=hg.jump n hn (by rw[lD];exact o3);rw[lD]at x0 x1;obtain⟨X,hX⟩:∃X:Nat,i.x=X:=⟨i.x.toNat,ae⟩
  have Co:X<C.length:=ae;have hc:=VY X rg Co hrg [⟨0,true,5,[[i64 3,i64 X,i64 i.y,i64 i.n,cB b a i.node]]⟩];simp only[o3,hX,FD,reduceIte,ak7];generalize fq t Bs C p (j+1) X rg ⟨st.ad.set n (p+1),false,st.rd,st.gn⟩=R at *;unfold dE qc at hc;unfold dE qc;refine br Tryz.func71 Tryz.ntmps71 Tryz.results71 9 25769810175 ?_;simp only[zQ,simprocAttr,dE,qc,cA,aV,dG,bG,GI,db,jj,fS,ka,hn,h1,ak7,ak4,List.getElem?_map,hx,hi,ala,alc,aw.cells,jO,ll,gY,kG,Mc,tW,alp,ak5,ak6,alu,uo,cQ,wZ,o3,hX];refine hc _ ?_;simp only[zQ,simprocAttr,dE,qc,cA,aV,dG,bG,GI,db,jj,fS,ka,hn,h1,ak7,ak4,List.getElem?_map,hx,hi,ala,alc,aw.cells,jO,ll,gY,kG,Mc,tW,alp,ak5,ak6,alu,uo,cQ,wZ,o3,hX]
 by_cases o4:i.op=4
 ·have Co:=hg.next n hn (by rw[lD];exact .inr (.inl o4));obtain⟨s0,s1⟩:=Sr n hn (by rw[lD];exact o4);rw[lD]at s0 s1;obtain⟨N,hN⟩:∃N:Nat,i.n=N:=⟨i.n.toNat,ae⟩
  have hw:IntKind.i64.wrap ((n:Int)+1)=((n+1:Nat):Int):=by rw[bK _ ae];rfl
  have w2:IntKind.i64.wrap ((N:Int)+1)=((N+1:Nat):Int):=by rw[bK _ ae];rfl
  have b0:(0:Int)<=(N:Int):=ae;have b1:(N:Int)<=(rg.length:Int):=ae;have b2:((N+1:Nat):Int)<=(rg.length:Int):=ae;have b3:(0:Int)<=((N+1:Nat):Int):=ae;have z3:List.take ((rg.length:Int)-((N+1:Nat):Int)).toNat (List.drop (N+1) (rg.map λx=>[D.sc (.int .i64 x)]))=(rg.drop (N+1)).map λx=>[D.sc (.int .i64 x)]:=by rw[<- List.map_drop,aln cV]
  have z4:List.take N (rg.map λx=>[D.sc (.int .i64 x)])=(rg.take N).map λx=>[D.sc (.int .i64 x)]:=by rw[List.map_take]
  have fB:rg.set N (p:Int)=rg.take N++(p:Int)::rg.drop (N+1):=by rw[List.set_eq_take_append_cons_drop,rY]
  have Un:(rg.drop (N+1)).length<=100000:=cV;have VW:(rg.take N).length<=100000:=cV;simp only[o4,hN,FD,reduceIte,ak7];have hc:=VY (n+1) (rg.set N (p:Int)) Co (by simpa using hrg);generalize fq t Bs C p (j+1) (n+1) (rg.set N (p:Int)) ⟨st.ad.set n (p+1),false,st.rd,st.gn⟩=R at *;unfold dE qc at hc;unfold dE qc;refine br Tryz.func71 Tryz.ntmps71 Tryz.results71 9 25769810175 ?_;simp only[zQ,simprocAttr,dE,qc,cA,aV,dG,bG,GI,db,jj,fS,ka,hn,h1,ak7,ak4,List.getElem?_map,hx,hi,ala,alc,aw.cells,jO,ll,gY,kG,Mc,tW,alp,ak5,ak6,alu,uo,cQ,wZ,o4,hN,ar,b0,b1,alj,z4,Int.sub_zero];refine⟨rfl,λe he=>by rw[List.mem_singleton.1 he];rfl,?_⟩;split
  ·rename_i heq;cases heq
  refine⟨⟨ae,λe he=>by obtain⟨y,_,rfl⟩:=List.mem_map.1 he;rfl⟩,?_⟩;refine cP mix [11] [(10,[10],[10])] ?_;simp only[zQ,simprocAttr,dE,qc,cA,aV,dG,bG,GI,db,jj,fS,ka,hn,h1,ak7,ak4,List.getElem?_map,hx,hi,ala,alc,aw.cells,jO,ll,gY,kG,Mc,tW,alp,ak5,ak6,alu,uo,cQ,wZ,o4,hN,ar,hw,w2,b2,b3,alj,z3,z4];refine⟨.inr (λe he=>by obtain⟨y,_,rfl⟩:=List.mem_map.1 he;rfl),rfl,aaE _,⟨aq,ae⟩,?_⟩;refine cU (DO (y:=.d (ar (rg.set N (p:Int)))) [10] 2 rfl ?_ (hc [⟨0,true,5,[[i64 4,i64 i.x,i64 i.y,i64 N,cB b a i.node]]⟩,⟨1,false,1,List.take ((List.take N rg).length+1) (List.map (λx=>List.map V.d x) (List.map (λx=>[D.sc (Value.int IntKind.i64 x)]) (List.take N rg))++[[V.d (D.sc (Value.int IntKind.i64 p))]])++List.map (λx=>List.map V.d x) (List.map (λx=>[D.sc (Value.int IntKind.i64 x)]) (List.drop (N+1) rg))⟩] _ ⟨rfl,rfl⟩)) ?_
  ·simp only[bI,bU,List.getElem?_cons_succ,List.getElem?_cons_zero,alD,alA,alg,alf];rw[rE (ds:=(rg.set N (p:Int)).map λx=>[iD x]) eh ?_ ?_ (.inr rfl)]
   ·rw[alV,aln aq,aln aq,fB];simp [iD]
   ·simp
  ·simp only[zQ,simprocAttr,dE,qc,cA,aV,dG,bG,GI,db,jj,fS,ka,hn,h1,ak7,ak4,List.getElem?_map,hx,hi,ala,alc,aw.cells,jO,ll,gY,kG,Mc,tW,alp,ak5,ak6,alu,uo,cQ,wZ,o4,hN]
 by_cases o5:i.op=5
 ·obtain⟨Xc,aj,n8,CA,ud,tP⟩:=rK t root parts bg nb Bs b a C hg oK ht hn (.inr (by rw[lD];exact o5)) p hp;have Co:=hg.next n hn (by rw[lD];exact .inr (.inr o5));have hw:IntKind.i64.wrap ((n:Int)+1)=((n+1:Nat):Int):=by rw[bK _ ae];rfl
  rw[lD]at n8 tP;have hc:=VY (n+1) rg Co hrg [⟨0,true,5,[[i64 5,i64 i.x,i64 i.y,i64 i.n,.cl (.func Xc) [] aj]]⟩];simp only[o5,FD,reduceIte];generalize i.pass t Bs p=y at *;cases y with
  |true =>
   simp only[reduceIte];generalize fq t Bs C p (j+1) (n+1) rg ⟨st.ad.set n (p+1),false,st.rd,st.gn⟩=R at *;unfold dE qc at hc;unfold dE qc;refine br Tryz.func71 Tryz.ntmps71 Tryz.results71 9 25769810175 ?_;simp only[zQ,simprocAttr,dE,qc,cA,aV,dG,bG,GI,db,jj,fS,ka,hn,h1,ak7,ak4,List.getElem?_map,hx,hi,ala,alc,aw.cells,jO,ll,gY,kG,Mc,tW,alp,ak5,ak6,alu,uo,cQ,wZ,o5,n8,hw];refine eD t root parts bg nb Bs tP ?_ ?_ rfl rfl rfl ?_
   ·simp [aI,i64,ud]
   ·simp [ak,ak.go,i64,CA]
   simp only[zQ,simprocAttr,dE,qc,cA,aV,dG,bG,GI,db,jj,fS,ka,hn,h1,ak7,ak4,List.getElem?_map,hx,hi,ala,alc,aw.cells,jO,ll,gY,kG,Mc,tW,alp,ak5,ak6,alu,uo,cQ,wZ,o5,n8,hw];refine hc _ ?_;simp only[zQ,simprocAttr,dE,qc,cA,aV,dG,bG,GI,db,jj,fS,ka,hn,h1,ak7,ak4,List.getElem?_map,hx,hi,ala,alc,aw.cells,jO,ll,gY,kG,Mc,tW,alp,ak5,ak6,alu,uo,cQ,wZ,o5,n8,hw]
  |false =>
   simp only[alk,reduceIte];unfold dE qc;refine br Tryz.func71 Tryz.ntmps71 Tryz.results71 9 25769810175 ?_;simp only[zQ,simprocAttr,dE,qc,cA,aV,dG,bG,GI,db,jj,fS,ka,hn,h1,ak7,ak4,List.getElem?_map,hx,hi,ala,alc,aw.cells,jO,ll,gY,kG,Mc,tW,alp,ak5,ak6,alu,uo,cQ,wZ,o5,n8];refine eD t root parts bg nb Bs tP ?_ ?_ rfl rfl rfl ?_
   ·simp [aI,i64,ud]
   ·simp [ak,ak.go,i64,CA]
   simp only[zQ,simprocAttr,dE,qc,cA,aV,dG,bG,GI,db,jj,fS,ka,hn,h1,ak7,ak4,List.getElem?_map,hx,hi,ala,alc,aw.cells,jO,ll,gY,kG,Mc,tW,alp,ak5,ak6,alu,uo,cQ,wZ,o5,n8]
 by_cases o2:i.op=2
 ·obtain⟨x0,x1,y0,y1⟩:=hg.split n hn (by rw[lD];exact o2);rw[lD]at x0 x1 y0 y1;obtain⟨X,hX⟩:∃X:Nat,i.x=X:=⟨i.x.toNat,ae⟩
  obtain⟨Y,hY⟩:∃Y:Nat,i.y=Y:=⟨i.y.toNat,ae⟩
  have Co:X<C.length:=ae;have hYC:Y<C.length:=ae;have hc:=VY X rg Co hrg [⟨0,true,5,[[i64 2,i64 X,i64 Y,i64 i.n,cB b a i.node]]⟩];have hl:=hlen X;simp only[o2,hX,hY,FD,reduceIte,ak7];generalize fq t Bs C p (j+1) X rg ⟨st.ad.set n (p+1),false,st.rd,st.gn⟩=R at *;obtain⟨l1,l2,l3,_⟩:=hl;simp only[alu]at l1 l2 l3;have ud:=λ(K:V->List VL.Obj->Prop) hk=>HC (IH j rfl) (n:=Y) (rg:=rg) (st:=R) hYC hrg ae ae ae (tl:=[⟨0,true,5,[[i64 2,i64 X,i64 Y,i64 i.n,cB b a i.node]]⟩]) (K:=K) hk;generalize fq t Bs C p (j+1) Y rg R=R2 at *;unfold dE qc at hc ud;unfold dE qc;refine br Tryz.func71 Tryz.ntmps71 Tryz.results71 9 25769810175 ?_;simp only[zQ,simprocAttr,dE,qc,cA,aV,dG,bG,GI,db,jj,fS,ka,hn,h1,ak7,ak4,List.getElem?_map,hx,hi,ala,alc,aw.cells,jO,ll,gY,kG,Mc,tW,alp,ak5,ak6,alu,uo,cQ,wZ,o2,hX,hY];refine hc _ ?_;simp only[zQ,simprocAttr,dE,qc,cA,aV,dG,bG,GI,db,jj,fS,ka,hn,h1,ak7,ak4,List.getElem?_map,hx,hi,ala,alc,aw.cells,jO,ll,gY,kG,Mc,tW,alp,ak5,ak6,alu,uo,cQ,wZ,o2,hX,hY];refine ud _ ?_;simp only[zQ,simprocAttr,dE,qc,cA,aV,dG,bG,GI,db,jj,fS,ka,hn,h1,ak7,ak4,List.getElem?_map,hx,hi,ala,alc,aw.cells,jO,ll,gY,kG,Mc,tW,alp,ak5,ak6,alu,uo,cQ,wZ,o2,hX,hY]
 exact Zdn
theorem Ah (hg:fz t Bs C) (Sr:Ib C c) (xY:c<=100000) (oK:nb=Bs.length) (ht:t.length<=1000000) (hp:p<=t.length):∀k,Vm t root parts bg nb Bs g b a C q p c k
 |0=>HY t root parts bg nb Bs g b a C q p c hg Sr xY oK ht hp 0 (λj h=>ae)
 |k+1=>HY t root parts bg nb Bs g b a C q p c hg Sr xY oK ht hp (k+1) (λj h=>by
  have:j=k:=ae;subst this;exact Ah hg Sr xY oK ht hp j)
end
variable{j:Nat}{c:Nat}
def Zs (aR:List Int) (j:Nat):Int×Int :=
 if aR.getD (2*j) 0=-1\/aR.getD (2*j+1) 0=-1 then (-1,-1) else (aR.getD (2*j) 0,aR.getD (2*j+1) 0)
def JU (c:Nat) (aR:List Int):aC:=(List.range c).map (Zs aR)
theorem Yt {l:List Int}{i:Nat} (h:i<l.length):l[i]?=some (l.getD i 0):=by rw[List.getD,List.getElem?_eq_getElem h];rfl
def V3 (st en:Int) (v:V):VL.Obj:=⟨0,true,3,[[i64 st,i64 en,v]]⟩
def PJ:VL.Obj:=⟨0,true,3,[[i64 0,i64 0,.fu []]]⟩
def Me (c i:Nat) (aR:List Int):VL.Obj:=⟨0,true,2,(List.range i).map (λj=>[i64 (Zs aR j).1,i64 (Zs aR j).2])++List.replicate (c-i) [i64 0,i64 0]⟩
theorem Xd {α:Type} (l:List α) (z:α) (hl:l.length=j) (h:j<c):(l++List.replicate (c-j) z)[j]?=some z:=by rw[List.getElem?_append_right ae];simp [List.getElem?_replicate,hl];omega
theorem abe {α:Type} (l:List α) (z y:α) (hl:l.length=j) (h:j<c):((l++List.replicate (c-j) z).set j y)[j]?=some y :=
 List.getElem?_set_self cV
theorem WC {α:Type} (l:List α) (z y:α) (hl:l.length=j) (h:j<c):(l++List.replicate (c-j) z).set j y=(l++[y])++List.replicate (c-(j+1)) z:=by
 rw[al0 _ _ ae];obtain⟨m,hm⟩:∃m,c-j=m+1:=⟨c-j-1,ae⟩
 rw[hm,hl,ame,List.replicate_succ,alA,alx];have:c-(j+1)=m:=ae;rw[this];rfl
theorem Qt (c:Nat) (hc:c<=1000) (st en:Int) (aR:List Int) (hr:aR.length=2*c):aS Tryz.prog 72 [i64 st,i64 en,.d (ar aR)] (mL.mk st en (JU c aR)).v:=by
 have w0:Int.tdiv (aR.length:Int) 2=(c:Int):=by rw[hr,Int.tdiv_eq_ediv_of_nonneg ae];omega
 have w00:IntKind.i64.wrap (c:Int)=(c:Int):=bK _ ae;refine br Tryz.func72 Tryz.ntmps72 Tryz.results72 0 786887 ?_;simp only[zQ,simprocAttr,ar,ak4,w0,w00];refine⟨ae,?_⟩;refine ay (λn e s=>∃j:Nat,n=c-j/\j<=c/\e 2=.d (ar aR)/\e 6=.rf 0 0 0 0/\e 7=.rf 2 0 0 0/\e 18=i64 c/\e 19=i64 j/\s=[PJ,Me c j aR,V3 st en (.so 1 0 0 c)])
  ⟨_,_,_,bO.refl,0,rfl,ae,rfl,rfl,rfl,rfl,rfl,by simp [PJ,Me,V3,i64]⟩ ?_
 rintro n e s ⟨j,rfl,hj,h2,h6,h7,lh,lT,rfl⟩;rcases alw j c with aE|gE
 ·have aH:(j:Int)<c:=by omega
  have w1:IntKind.i64.wrap (2*(j:Int))=((2*j:Nat):Int):=by rw[bK _ ae];omega
  have w2:IntKind.i64.wrap (((2*j:Nat):Int)+1)=((2*j+1:Nat):Int):=by rw[bK _ ae];omega
  have c1:((2*j+1:Nat):Int)<(aR.length:Int):=ae;have c2:((2*j:Nat):Int)<(aR.length:Int):=ae;have c3:(0:Int)<=((2*j:Nat):Int):=ae;have c4:(0:Int)<=((2*j+1:Nat):Int):=ae;have g1:=Yt (l:=aR) (i:=2*j) ae;have g2:=Yt (l:=aR) (i:=2*j+1) ae;have hP:Zs aR j=if aR.getD (2*j) 0=-1\/aR.getD (2*j+1) 0=-1 then (-1,-1) else (aR.getD (2*j) 0,aR.getD (2*j+1) 0):=rfl
  generalize aR.getD (2*j) 0=a at *;generalize aR.getD (2*j+1) 0=b at *;simp only[ar]at h2;have JN:((List.range j).map (λj=>[V.d (.sc (.int .i64 (Zs aR j).1)),V.d (.sc (.int .i64 (Zs aR j).2))])).length=j:=aq;have ig:=Xd _ [V.d (.sc (.int .i64 0)),V.d (.sc (.int .i64 0))] JN aE;have fB:=λy=>WC _ [V.d (.sc (.int .i64 0)),V.d (.sc (.int .i64 0))] y JN aE;have LI:=λy=>abe _ [V.d (.sc (.int .i64 0)),V.d (.sc (.int .i64 0))] y JN aE;by_cases ha:a=-1
  ·have RC:=eq_true ha;simp only[zQ,simprocAttr,h2,h6,h7,lh,lT,aH,w1,w2,c1,c2,c3,c4,g1,g2,RC,PJ,Me,V3,ar,ig,alc,amt,ak7,ak4,ne_eq,not_true_eq_false,not_false_eq_true];refine⟨c-(j+1),_,_,ae,bO.refl,j+1,rfl,aE,?_,?_,?_,?_,?_,?_⟩ <;> (try simp only[zU,Ft,qa,qe,Fp,reduceIte])
   ·exact h2
   ·exact h6
   ·exact h7
   ·exact lh
   ·rw[bK _ ae];rfl
   ·rw[fB];simp [hP,ha,List.range_succ]
  ·by_cases hb:b=-1
   ·have St:=eq_true hb;simp only[zQ,simprocAttr,h2,h6,h7,lh,lT,aH,w1,w2,c1,c2,c3,c4,g1,g2,ha,St,PJ,Me,V3,ar,ig,alc,amt,ak7,ak4,ne_eq,not_true_eq_false,not_false_eq_true];refine⟨c-(j+1),_,_,ae,bO.refl,j+1,rfl,aE,?_,?_,?_,?_,?_,?_⟩ <;> (try simp only[zU,Ft,qa,qe,Fp,reduceIte])
    ·exact h2
    ·exact h6
    ·exact h7
    ·exact lh
    ·rw[bK _ ae];rfl
    ·rw[fB];simp [hP,ha,hb,List.range_succ]
   ·simp only[zQ,simprocAttr,h2,h6,h7,lh,lT,aH,w1,w2,c1,c2,c3,c4,g1,g2,ha,hb,PJ,Me,V3,ar,ig,alc,amt,ak7,ak4,ne_eq,not_true_eq_false,not_false_eq_true];refine cP mix [16] [] ?_;simp only[zX,simprocAttr,LI,i64,bV,iD,bD,h2,h6,h7,lh,lT,aH,w1,w2,c1,c2,c3,c4,g1,g2,ha,hb,PJ,Me,V3,ar,ig,alc,amt,ak7,ak4,ne_eq,not_true_eq_false,not_false_eq_true];refine⟨c-(j+1),_,_,ae,bO.refl,j+1,rfl,aE,?_,?_,?_,?_,?_,?_⟩ <;> (try simp only[zU,Ft,qa,qe,Fp,reduceIte])
    ·exact h2
    ·exact h6
    ·exact h7
    ·exact lh
    ·rw[bK _ ae];rfl
    ·rw[List.set_set,fB];simp [hP,ha,hb,List.range_succ]
 ·have Rj:j=c:=by omega
  subst Rj;have aH:¬(j:Int)<j:=ae;have ae2:Me j j aR=⟨0,true,2,((JU j aR).map aU).map λx=>x.map V.d⟩:=by simp [Me,JU,aU,iD,i64]
  simp only[zI,simprocAttr,bV,iD,h2,h6,h7,lh,lT,aH,PJ,ae2,V3];rw[fI 7 0 _ _ _ (by simp [JU]),be (by simp [JU])];rfl
section
variable (t:List Int) (Bs:List (List Bool)) (C:List aw)
def fR (p:Nat) (st:eQ) (x:iz):eQ:=if (bH C x.fL).op=1/\(bH C x.fL).pass t Bs p=true then fq t Bs C (p+1) (C.length+1) (x.fL+1) x.aR st else st
def fF (p:Nat) (l:List iz) (st:eQ):eQ:=l.foldl (fR t Bs C p) st
def tq (b p c:Nat) (st:eQ) (gI:Option mL):Option mL:=if st.cl=true then some ⟨b,p,JU c (st.rd.getLastD ⟨0,[]⟩).aR⟩ else gI
def qW (b c:Nat):Nat->Nat->eQ->Nat->Option mL->Option mL×List Nat
 |0,_,st,_,gI=>(gI,st.ad)
 |k+1,p,st,gb,gI=>if st.rd=[] then (gI,st.ad) else qW b c k (p+1) (fF t Bs C p st.rd ⟨st.ad,false,[],gb⟩) st.gn (tq b p c st gI)
def gu (c:Nat):List Int:=List.replicate (2*c) (-1)
def tp (p c:Nat):eQ:=fq t Bs C p (C.length+1) 0 (gu c) ⟨List.replicate C.length 0,false,[],0⟩
def il (p c:Nat):Option mL×List Nat:=qW t Bs C p c (t.length+2-p) p (tp t Bs C p c) 0 none
def PR (r:Option mL):mL:=r.getD ⟨0,0,[]⟩
variable {t Bs C}
variable{st:eQ}{c:Nat}{p:Nat}
theorem ym (p:Nat) (l:List iz) (x:iz) (st:eQ):fF t Bs C p (l++[x]) st=fR t Bs C p (fF t Bs C p l st) x:=by unfold fF;rw[List.foldl_append];rfl
structure xp (C:List aw) (c:Nat) (st:eQ):Prop where
 ad:st.ad.length=C.length
 th:∀x∈st.rd,x.ok C (2*c)
 last:st.cl=true->st.rd≠[]
def mT (C:List aw) (p:Nat) (st:eQ):Prop:=st.rd.length+fC p st.ad<=C.length
theorem GS (p:Nat):∀(k n:Nat) (rg:List Int) (st:eQ),(st.cl=true->st.rd≠[])->((fq t Bs C p k n rg st).cl=true->(fq t Bs C p k n rg st).rd≠[])
 |0,_,_,st,h=>h
 |k+1,n,rg,st,h=>by
  have ih:=GS p k;rw[fq];split
  ·exact h
  simp only;split
  ·intro _;simp
  split
  ·exact ih _ _ _ (ih _ _ _ h)
  split
  ·exact ih _ _ _ h
  split
  ·exact ih _ _ _ h
  split
  ·split
   ·exact ih _ _ _ h
   ·exact h
  ·exact h
theorem AV {k n:Nat}{rg:List Int} (h:xp C c st) (hn:mT C p st) (hr:rg.length=2*c):xp C c (fq t Bs C p k n rg st)/\mT C p (fq t Bs C p k n rg st):=by obtain⟨l1,l2,l3,l4⟩:=nQ t Bs C p (2*c) k n rg st hr h.ad;refine⟨⟨l1.trans h.ad,λx hx=>(l4 x hx).elim (h.th x) id,GS p k n rg st h.last⟩,?_⟩;unfold mT at *;omega
theorem Oe{x:iz} (hx:x.ok C (2*c)) (h:xp C c st) (hn:mT C (p+1) st):xp C c (fR t Bs C p st x)/\mT C (p+1) (fR t Bs C p st x):=by
 unfold fR;split
 ·exact AV h hn hx.1
 ·exact⟨h,hn⟩
theorem sV {c p:Nat}:∀(l:List iz) (st:eQ),(∀x∈l,x.ok C (2*c))->xp C c st->mT C (p+1) st->xp C c (fF t Bs C p l st)/\mT C (p+1) (fF t Bs C p l st)
 |[],st,_,h,hn=>⟨h,hn⟩
 |x::l,st,hl,h,hn=>by obtain⟨k1,k2⟩:=Oe (t:=t) (Bs:=Bs) (hl x aq) h hn;exact sV l _ (λy hy=>hl y (by simp [hy])) k1 k2
theorem C5 (hg:fz t Bs C) {n:Nat} (hn:n<C.length) (ho:(bH C n).op=1) (h:(bH C n).pass t Bs p=true):p<t.length:=by obtain⟨re,k,h1,h2,_⟩:=hg.set n hn ho;unfold aw.pass at h;rw[h1]at h;simp only[h2,if_true,alo,decide_eq_true_eq]at h;omega
theorem QY (hg:fz t Bs C){x:iz} (hx:x.ok C (2*c)) (hp:t.length<=p):fR t Bs C p st x=st:=by unfold fR;rw[ap];rintro ⟨h1,h2⟩;have:=C5 hg hx.2.1 h1 h2;omega
theorem Bi (hg:fz t Bs C) {c p:Nat} (hp:t.length<=p):∀(l:List iz) (st:eQ),(∀x∈l,x.ok C (2*c))->fF t Bs C p l st=st
 |[],_,_=>rfl
 |x::l,st,hl=>by show fF t Bs C p l (fR t Bs C p st x)=st;rw[QY hg (hl x aq) hp];exact Bi hg hp l st λy hy=>hl y (by simp [hy])
end
theorem Uz {P:Program}{f:FuncId}{args:List V}{s:List VL.Obj}{K:V->List VL.Obj->Prop}{o:VL.Obj}{pre post:List V} (k sz:Nat) (ho:s[k]?=some o) (iy:o.aA=[pre++.fu []::post]) (gr:pre.length+1+post.length=o.sz)
  (h:av P f args (s.set k { o with aA:=[pre++.so s.length 0 0 0::post] }++[⟨0,true,sz,[]⟩]) K):av P f args s K:=by
 refine⟨h.1,λσ w vals hI hl hv=>?_⟩;obtain⟨σ',h1,h2⟩:=sH hI k sz ho iy gr;exact(h.2 σ' w vals h2 hl (λi x hx=>(hv i x hx).bj h1)).mono λ_ _ ⟨u,v,σ'',s',a,b,c,d,e⟩=>⟨u,v,σ'',s',a,h1.trans b,c,d,e⟩
def Sz (b:Bool):VL.Obj:=⟨0,true,1,[[bV b]]⟩
def sC (g N a3 a4 a5 a6:Nat):VL.Obj:=⟨0,true,1,[[.cl (.func 71) [] [.rf a3 0 0 0,.rf a4 0 0 0,.bx (.so 2 g 0 N),.rf a5 0 0 0,.rf a6 0 0 0]]]⟩
section
variable {t:List Int}{root parts:D}{bg nb:Nat}{Bs:List (List Bool)}{g b a:Nat}{C:List aw}{q p c:Nat}
theorem AB {k n:Nat}{rg:List Int}{st:eQ} (h:Vm t root parts bg nb Bs g b a C q p c k) (hn:n<C.length) (hc:rg.length=c) (h1:st.ad.length=C.length) (hu:fC p st.ad<=k) (hr:st.rd.length+fC p st.ad<=C.length) {s:List VL.Obj}{K:V->List VL.Obj->Prop}
  (a4 a5 a6 a7 a8:Nat) (yl:[0,1,2,3,a4,a5,a6,a7,a8].Nodup) (s0:s[0]?=some (dV t root parts bg nb)) (s1:s[1]?=some (fW bg Bs)) (s2:s[2]?=some (db g b a C)) (s3:s[3]?=some (bG q st.ad)) (s4:s[a4]?=some (dG 3 q C.length)) (s5:s[a5]?=some (Sz st.cl)) (s6:s[a6]?=some (dG a7 st.gn st.rd.length)) (s7:s[a7]?=some (fv st.gn st.rd)) (s8:s[a8]?=some (sC g C.length a5 a4 a6 a8))
  {R:eQ} (hR:R=fq t Bs C p (k+1) n rg st)
  (hk:K (.tu []) (((((((((s.set 0 (dV t root parts bg nb)).set 1 (fW bg Bs)).set 2 (db g b a C)).set 3 (bG q R.ad)).set a4 (dG 3 q C.length)).set a5 (Sz R.cl)).set a6 (dG a7 R.gn R.rd.length)).set a7 (fv R.gn R.rd)).set a8 (sC g C.length a5 a4 a6 a8))) :
  av Tryz.prog 71 [i64 n,i64 p,.d (ar rg),.rf a5 0 0 0,.rf a4 0 0 0,.bx (.so 2 g 0 C.length),.rf a6 0 0 0,.rf a8 0 0 0] s K:=by
 subst hR;have CX:∀st,(qc t root parts bg nb Bs g b a C q st).map (ba [0,1,2,3,a4,a5,a6,a7,a8])=[dV t root parts bg nb,fW bg Bs,db g b a C,bG q st.ad,dG 3 q C.length,Sz st.cl,dG a7 st.gn st.rd.length,fv st.gn st.rd,sC g C.length a5 a4 a6 a8]:=by intro st;simp only[qc,ak8,ak9,kL,fQ,oY,HP];simp [ba,dV,dG,GI,aI,aI.go,bV,Sz,sC]
 refine dD [0,1,2,3,a4,a5,a6,a7,a8] (h n rg st hn hc h1 hu hr) yl rfl ?_ (by simp [dE,aI,aI.go,i64]) eh (Tr t root parts bg nb Bs g b a C q st) (r':=.tu []) rfl ?_
 ·have h3:(qc t root parts bg nb Bs g b a C q st).map (λo=>some (ba [0,1,2,3,a4,a5,a6,a7,a8] o))=((qc t root parts bg nb Bs g b a C q st).map (ba [0,1,2,3,a4,a5,a6,a7,a8])).map some:=by rw[alH];rfl
  rw[h3,CX];simp only[ak8,ak9,s0,s1,s2,s3,s4,s5,s6,s7,s8]
 ·rw[CX];exact hk
end
theorem adl (k g':Nat) (v:V) (t:List Int) (root parts:D) (bg nb:Nat):(⟨(dV t root parts bg nb).g,(dV t root parts bg nb).live,(dV t root parts bg nb).sz,(dV t root parts bg nb).aA.map λc=>c.map (pk k g' v)⟩:VL.Obj)=dV t root parts bg nb:=rfl
theorem Xf (k g':Nat) (v:V) (q:Nat) (l:List Nat):(⟨(bG q l).g,(bG q l).live,(bG q l).sz,(bG q l).aA.map λc=>c.map (pk k g' v)⟩:VL.Obj)=bG q l:=by unfold bG;simp only[alH];congr 1
theorem SK {α:Type} (a b:α) {N i:Nat} (h:i<N):(List.replicate i a++List.replicate (N-i) b).set i a=List.replicate (i+1) a++List.replicate (N-(i+1)) b:=by
 rw[al0 _ _ aq];obtain⟨m,hm⟩:∃m,N-i=m+1:=⟨N-i-1,ae⟩
 rw[hm];simp only[alQ,ame,List.replicate_succ,alA];have:N-(i+1)=m:=ae;rw[this,<- List.replicate_succ,List.replicate_succ',alx];rfl
def dkO (g N:Nat):VL.Obj:=⟨0,false,1,[[.so 2 g 0 N]]⟩
def ddO (N:Nat):VL.Obj:=⟨0,false,1,List.replicate N [i64 (-1)]⟩
def PY (N i:Nat):VL.Obj:=⟨0,true,1,List.replicate i [i64 (-1)]++List.replicate (N-i) [i64 0]⟩
def Y1:Option mL->VL.Obj
 |none=>PJ
 |some m=>V3 m.s m.e (.d (bS m.c))
theorem Vb {L:Nat}{e:VL.Env}{s:List VL.Obj}{gb:Nat}{B:List iz} (k:Nat) (ho:s[k]?=some (fv gb B)):bO L e s e (s.set k (fv gb [])):=by
 cases B with
 |nil =>
  have:s.set k (fv gb [])=s:=by
   exact Zec
  rw[this];exact bO.refl
 |cons x B =>
  refine bO.X5 (o:=fv gb (x::B)) k 0 ho (λes h=>?_);have h1:(fv gb (x::B)).aA[0]?=some [.d (iD x.fL),.d (ar x.aR)]:=rfl;rw[h,fX,List.getElem?_map]at h1;obtain⟨y,_,h2⟩:=Option.map_eq_some_iff.1 h1;have h3:=congrArg (λl=>l[1]?) h2;simp [ar]at h3
theorem S7 (bp:List Nat) (m:Option mL):fZ bp (Y1 m)=Y1 m:=by
 cases m <;> rfl
theorem Z4 (n:Nat) (m:Option mL):aY n (Y1 m)=true:=by
 cases m <;> rfl
theorem TU (bp:List Nat) (n:Nat):fZ bp (ddO n)=ddO n:=by unfold fZ ddO;simp [fe.go,fe,i64]
theorem aaR (n N:Nat):aY n (ddO N)=true:=by unfold aY ddO;rw[als];intro e he;rw[(List.mem_replicate.1 he).2];rfl
section
variable (t:List Int) (root parts:D) (bg nb:Nat) (Bs:List (List Bool)) (g b a:Nat) (C:List aw) (q:Nat) (N:Nat)
def fiR (st:eQ) (gb:Nat) (B:List iz) (gI:Option mL):List VL.Obj :=
 [dV t root parts bg nb,fW bg Bs,db g b a C,bG q st.ad,dkO g C.length,dG 3 q C.length,PJ,ddO N,dG 11 st.gn st.rd.length,Sz st.cl,sC g C.length 9 5 8 10,fv st.gn st.rd,Y1 gI,fv gb B]
def BO (st:eQ) (gn:Nat) (rd:List iz) (gI:Option mL):List VL.Obj :=
 [dV t root parts bg nb,fW bg Bs,db g b a C,bG q st.ad,dkO g C.length,dG 3 q C.length,PJ,ddO N,dG 13 st.gn st.rd.length,Sz st.cl,sC g C.length 9 5 8 10,fv gn rd,Y1 gI,fv st.gn st.rd]
theorem AR (st:eQ) (gn:Nat) (rd:List iz) (gI:Option mL):(BO t root parts bg nb Bs g b a C q N st gn rd gI).all (aY 14)=true:=by have:=hU 14 bg Bs;simp only[BO,alR,alW,kR 14 _ _ _ ae,oD,vk,Z4,aaR,alp];simp [aY,dV,dG,Sz,sC,dkO,PJ,ak,ak.go,bV,i64,this]
theorem Pj (st:eQ) (gn:Nat) (rd:List iz) (gI:Option mL):mH [0,1,2,3,4,5,6,7,8,9,10,13,12,11] (BO t root parts bg nb Bs g b a C q N st gn rd gI)=fiR t root parts bg nb Bs g b a C q N st gn rd gI:=by unfold BO fiR;simp only[mH,ak8,ak9,ama,alY,jQ,rB,Oh,S7,TU,mD _ (rfl:List.idxOf? 0 [0,1,2,3,4,5,6,7,8,9,10,13,12,11]=some 0)];rfl
end
section
variable (t:List Int) (root parts:D) (bg nb:Nat) (Bs:List (List Bool)) (g b a:Nat) (C:List aw) (q:Nat)
theorem Q1 (hg:fz t Bs C) (c:Nat) (Sr:Ib C (2*c)) (hc:c<=1000) (oK:nb=Bs.length) (ht:t.length<=1000000) (hC:0<C.length) (p:Nat) (hp:p<=t.length) (ad:List Nat) (VV:ad.length=C.length) :
  av Tryz.prog 31 [.rf 0 0 0 0,.so 2 g 0 C.length,.so 3 q 0 C.length,i64 p,i64 c] [dV t root parts bg nb,fW bg Bs,db g b a C,bG q ad] λv s =>
   v=.tu [(PR (il t Bs C p c).1).v,bV (il t Bs C p c).1.isSome]/\s=[dV t root parts bg nb,fW bg Bs,db g b a C,bG q (il t Bs C p c).2]:=by
 obtain⟨R,hR⟩:∃R,R=il t Bs C p c:=⟨_,rfl⟩
 rw[<- hR];have hCl:=hg.len;have wc:IntKind.i64.wrap (2*(c:Int))=((2*c:Nat):Int):=by rw[bK _ ae];omega
 have e1:∀q l,(bG q l).g=q:=λ_ _=>rfl;have e2:∀q l,(bG q l).sz=1:=λ_ _=>rfl;have e3:∀q l,(bG q l).aA.length=l.length:=λ_ _=>by simp [bG]
 refine br Tryz.func31 Tryz.ntmps31 Tryz.results31 4 16140901065307454686 ?_;simp only[zQ,simprocAttr,wc,e1,e2,e3,VV,lW,alc,ak4];refine⟨⟨rfl,ale _⟩,⟨alj _,ae,ae⟩,?_⟩;obtain⟨N,hN⟩:∃N,N=2*c:=⟨_,rfl⟩
 rw[<- hN]at Sr ⊢;refine ay (λn e s=>∃i:Nat,n=N-i/\i<=N/\e 3=i64 p/\e 6=.bx (.so 2 g 0 C.length)/\e 7=.rf 5 0 0 0/\e 10=.rf 6 0 0 0/\e 12=.so 7 0 0 N/\e 28=i64 N/\e 29=i64 i/\s=[dV t root parts bg nb,fW bg Bs,db g b a C,bG q (List.replicate C.length 0),dkO g C.length,dG 3 q C.length,PJ,PY N i])
  ⟨_,_,_,.On (cr.bx 4 rfl rfl rfl),0,rfl,ae,rfl,rfl,rfl,rfl,rfl,rfl,rfl,?_⟩ ?_
 ·simp only[Ok,bU,List.getElem?_cons_succ,List.getElem?_cons_zero,alD,alA,ak8,ak9,P7,SG,adl,Xf];have q1:List.map (λc=>List.map (pk 4 0 (V.so 2 g 0 C.length)) c) (ib (bG q ad).aA 0 (List.replicate C.length [V.d (D.sc (Value.int IntKind.i64 0))]))=(bG q (List.replicate C.length 0)).aA:=by simp [bG,ib,VV,pk,i64]
  have q2:List.map (λc=>List.map (pk 4 0 (V.so 2 g 0 C.length)) c) (List.replicate N [V.d (D.sc (Value.int IntKind.i64 0))])=List.replicate N [V.d (D.sc (Value.int IntKind.i64 0))]:=by simp [pk]
  rw[q1,q2];rfl
 rintro n e s ⟨i,rfl,hi,h3,h6,h7,ek,jk,h28,h29,rfl⟩;rcases alw i N with aE|gE
 ·have aH:(i:Int)<N:=by omega
  have ig:(List.replicate i [V.d (.sc (.int .i64 (-1)))]++List.replicate (N-i) [V.d (.sc (.int .i64 0))])[i]?=some [V.d (.sc (.int .i64 0))]:=by rw[List.getElem?_append_right aq];simp [List.getElem?_replicate];omega
  simp only[zQ,simprocAttr,h3,h6,h7,ek,jk,h28,h29,aH,PY,ig,alc];refine⟨N-(i+1),_,_,ae,bO.refl,i+1,rfl,aE,?_,?_,?_,?_,?_,?_,?_,?_⟩ <;> (try simp only[zU,Ft,qa,qe,Fp,reduceIte])
  ·exact h3
  ·exact h6
  ·exact h7
  ·exact ek
  ·exact jk
  ·exact h28
  ·rw[bK _ ae];rfl
  ·rw[<- SK _ _ aE]
 ·have eg:i=N:=by omega
  subst eg;have aH:¬(i:Int)<i:=ae;simp only[zQ,simprocAttr,h3,h6,h7,ek,jk,h28,h29,aH];have acI:PY i i=⟨0,true,1,List.replicate i [i64 (-1)]⟩:=by simp [PY]
  have YE:xp C c ⟨List.replicate C.length 0,false,[],0⟩:=⟨aq,aq,aq⟩
  have Tk:mT C p ⟨List.replicate C.length 0,false,[],0⟩:=by have:fC p (List.replicate C.length 0)<=(List.replicate C.length 0).length:=al4;unfold mT;simp only[alQ,alf]at *;omega
  have Ml:(gu c).length=2*c:=by simp [gu]
  obtain⟨X0,Yf⟩:=AV (t:=t) (Bs:=Bs) (p:=p) (k:=C.length+1) (n:=0) YE Tk Ml;have KY:=Ah t root parts bg nb Bs g b a C q p i hg Sr ae oK ht hp C.length;have bL:fq t Bs C p (C.length+1) 0 (gu c) ⟨List.replicate C.length 0,false,[],0⟩=tp t Bs C p c:=rfl;rw[bL]at X0 Yf;have hR2:R=qW t Bs C p c (t.length+2-p) p (tp t Bs C p c) 0 none:=hR;have Te:=λ(s:List VL.Obj) (K:V->List VL.Obj->Prop)=>AB (s:=s) (K:=K) KY (n:=0) (rg:=gu c) (st:=⟨List.replicate C.length 0,false,[],0⟩) hC ae aq (by simp only;have:fC p (List.replicate C.length 0)<=(List.replicate C.length 0).length:=al4;simpa using this) Tk 5 9 8 11 10 aF;generalize tp t Bs C p c=S at *;rw[acI];refine DO (y:=.d (ar (gu c))) [7] 2 rfl ?_ ?_
  ·simp only[bI,bU,List.getElem?_cons_succ,List.getElem?_cons_zero,alD,alA,alg,alf];rw[rE (ds:=(gu c).map λx=>[iD x]) eh ?_ ?_ (.inr rfl)]
   ·rw[alV,aln aq];simp [gu,iD,hN,i64]
   ·simp
  simp only[bI,bU,List.getElem?_cons_succ,List.getElem?_cons_zero,alD,alA];refine Uz (pre:=[]) (post:=[]) 8 2 rfl rfl rfl ?_;simp only[alD,alA,ak5,ak6,alg,alf,alc,Nat.reduceAdd];refine Te _ _ rfl rfl rfl rfl rfl rfl rfl rfl rfl bL.symm ?_;simp only[alD,alA];simp only[zQ,simprocAttr,h3,h6,h7,ek,jk,h28,h29];have h3':=h3;have h6':=h6;have h7':=h7;have agW:=ek;clear h3 h6 h7 ek jk h28 h29 Te KY bL YE Tk aH;have t1:∀q l,(fv q l).g=q:=λ_ _=>rfl;have t2:∀q l,(fv q l).sz=2:=λ_ _=>rfl;have t3:∀q l,(fv q l).aA.length=l.length:=λ_ _=>by simp [fv]
  refine ay (λn e s=>∃(p':Nat) (st:eQ) (gb:Nat) (B:List iz) (gI:Option mL),n+p'=t.length+2/\xp C c st/\mT C p' st/\(st.rd≠[]->p'<=t.length)/\qW t Bs C p c n p' st gb gI=R /\
   e 3=i64 p/\e 6=.bx (.so 2 g 0 C.length)/\e 7=.rf 5 0 0 0/\e 10=.rf 6 0 0 0/\e 14=.rf 8 0 0 0/\e 15=.so 13 gb 0 B.length/\e 16=.rf 9 0 0 0/\e 17=.rf 10 0 0 0/\e 18=.rf 12 0 0 0/\e 19=bV gI.isSome/\e 20=i64 p'/\s=fiR t root parts bg nb Bs g b a C q i st gb B gI) ?_ ?_
  ·refine⟨_,_,_,.On (gQ 15 2 rfl),p,S,0,[],none,ae,X0,Yf,λ_=>hp,hR2.symm,?_,?_,?_,?_,?_,?_,?_,?_,?_,?_,?_,?_⟩ <;> (try simp only[zU,Ft,qa,qe,Fp,reduceIte])
   all_goals first|exact h3'|exact h6'|exact h7'|exact agW|rfl
  rintro n e s ⟨p',st,gb,B,gI,VZ,hinv,aco,hp',hL,h3,h6,h7,ek,gP,lJ,m9,rz,lh,lT,ku,rfl⟩;by_cases JV:st.rd=[]
  ·have hz:(st.rd.length:Int)=0:=by rw[JV];rfl
   have YZ:=eq_true hz;have hRe:R=(gI,st.ad):=by
    rw[<- hL];cases n with
    |zero=>rfl
    |succ k=>rw[qW,be JV]
   rw[hRe];have a1:((dV t root parts bg nb).aA.all λe=>e.all (ak 4))=true:=rfl;have a2:((fW bg Bs).aA.all λe=>e.all (ak 4))=true:=hU 4 bg Bs;have a3:((db g b a C).aA.all λe=>e.all (ak 4))=true:=kR 4 g b a ae C;have a4:((bG q st.ad).aA.all λe=>e.all (ak 4))=true:=oD 4 q st.ad;cases gI with
   |none =>
    exact Zco
   |some m =>
    exact Zco
  obtain⟨k,rfl⟩:∃k,n=k+1:=⟨n-1,by have:=hp' JV;omega⟩
  have hpt:=hp' JV;have fS:(0:Int)<(st.rd.length:Int):=by have:=List.length_pos_iff.2 JV;omega
  rw[qW,ap JV]at hL;have II:st.rd.length<=C.length:=by have:=aco;unfold mT at this;omega
  have YF:xp C c ⟨st.ad,false,[],gb⟩:=⟨hinv.ad,aq,aq⟩
  have YD:mT C (p'+1) ⟨st.ad,false,[],gb⟩:=by have:fC (p'+1) st.ad<=st.ad.length:=al4;have:=hinv.ad;unfold mT;simp only[alf];omega
  cases cQ:st.cl with
  |true =>
   obtain⟨x0,We⟩:∃x0,st.rd[st.rd.length-1]?=some x0:=cb;have afd:=hinv.th x0 (List.mem_of_getElem? We);have adD:st.rd.getLastD ⟨0,[]⟩=x0:=by rw[List.getLastD_eq_getLast?,List.getLast?_eq_getElem?,We];rfl
   have Vv:tq p p' c st gI=some ⟨p,p',JU c x0.aR⟩:=by unfold tq;rw[be cQ,adD]
   rw[Vv]at hL;have w1:IntKind.i64.wrap ((st.rd.length:Int)-1)=((st.rd.length-1:Nat):Int):=by rw[bK _ (by have:=aco;unfold mT at this;omega)];omega
   have b1:((st.rd.length-1:Nat):Int)<(st.rd.length:Int):=ae;have b0:(0:Int)<=((st.rd.length-1:Nat):Int):=ae;have ac9:(fv st.gn st.rd).aA[st.rd.length-1]?=some [V.d (iD x0.fL),V.d (ar x0.aR)]:=by simp [fv,We,iz.cells]
   have hma:=Qt c hc p p' x0.aR afd.1;simp only[i64]at hma;simp only[zQ,simprocAttr,h3,h6,h7,ek,gP,lJ,m9,rz,lh,lT,ku,fiR,dG,Sz,t1,t2,t3,fS,gt_iff_lt,cQ,w1,b0,b1,ac9,alc,ak7];refine dk hma ?_;obtain⟨va,vb,vc,WI⟩:∃va vb vc,Y1 gI=⟨0,true,3,[[va,vb,vc]]⟩:=by cases gI <;> exact⟨_,_,_,rfl⟩
   rw[WI];simp only[zQ,simprocAttr,h3,h6,h7,ek,gP,lJ,m9,rz,lh,lT,ku,t1,t2,t3,fS,gt_iff_lt,alc,mL.v];refine cP mix [3,4,5] [] ?_;simp only[zQ,simprocAttr,h3,h6,h7,ek,gP,lJ,m9,rz,lh,lT,ku,alc,gt_iff_lt,fS,t1,t2,t3,ale,Nat.zero_le,and_self,true_and,alj,amt];refine ay (λn e s=>∃m:Nat,n=st.rd.length-m/\m<=st.rd.length/\e 3=i64 p/\e 6=.bx (.so 2 g 0 C.length)/\e 7=.rf 5 0 0 0/\e 10=.rf 6 0 0 0/\e 14=.rf 8 0 0 0/\e 15=.so 11 st.gn 0 st.rd.length/\e 16=.rf 9 0 0 0/\e 17=.rf 10 0 0 0/\e 18=.rf 12 0 0 0/\e 19=bV ((some (mL.mk p p' (JU c x0.aR)))).isSome/\e 20=i64 p'/\e 61=.so 11 st.gn 0 st.rd.length/\e 62=i64 st.rd.length/\e 63=i64 m/\s=BO t root parts bg nb Bs g b a C q i (fF t Bs C p' (st.rd.take m) ⟨st.ad,false,[],gb⟩) st.gn st.rd (some (mL.mk p p' (JU c x0.aR)))) ?_ ?_
   ·exact Zbn
   clear h3 h6 h7 ek gP lJ m9 rz lh lT ku;rintro n e s ⟨m,rfl,hm,h3,h6,h7,ek,gP,lJ,m9,rz,lh,lT,ku,rl,r8,FU,rfl⟩;have hX:=sV (t:=t) (Bs:=Bs) (p:=p') (st.rd.take m) ⟨st.ad,false,[],gb⟩ (λx hx=>hinv.th x (alU hx)) YF YD;rcases alw m st.rd.length with aE|gE
   ·have aH:(m:Int)<(st.rd.length:Int):=by omega
    have Dm:(0:Int)<=(m:Int):=ae;obtain⟨x,hx⟩:∃x,st.rd[m]?=some x:=cb aE;have UR:=hinv.th x (List.mem_of_getElem? hx);have hn:=UR.2.1;have jj:(x.fL:Int)<(C.length:Int):=ae;have AX:(0:Int)<=(x.fL:Int):=ae;obtain⟨ins,hi⟩:∃ins,C[x.fL]?=some ins:=cb hn;have lD:bH C x.fL=ins:=by unfold bH;rw[List.getD_eq_getElem?_getD,hi];rfl
    have ig:(fv st.gn st.rd).aA[m]?=some [V.d (D.sc (.int .i64 x.fL)),V.d (ar x.aR)]:=by simp [fv,hx,iz.cells,iD]
    have jT:fF t Bs C p' (st.rd.take (m+1)) ⟨st.ad,false,[],gb⟩=fR t Bs C p' (fF t Bs C p' (st.rd.take m) ⟨st.ad,false,[],gb⟩) x:=by rw[bn hx,ym]
    generalize fF t Bs C p' (st.rd.take m) ⟨st.ad,false,[],gb⟩=X at *;by_cases o1:ins.op=1
    ·obtain⟨Xc,aj,n8,CA,ud,tP⟩:=rK t root parts bg nb Bs b a C hg oK ht hn (.inl (by rw[lD];exact o1)) p' hpt;have Vd:=C5 (t:=t) (Bs:=Bs) (p:=p') hg hn (by rw[lD];exact o1);have hnx:=hg.next x.fL hn (.inl (by rw[lD];exact o1));have hF:fR t Bs C p' X x=if ins.pass t Bs p'=true then fq t Bs C (p'+1) (C.length+1) (x.fL+1) x.aR X else X:=by unfold fR;rw[lD];simp [o1]
     rw[hF]at jT;rw[lD]at n8 tP Vd;have w1:IntKind.i64.wrap ((x.fL:Int)+1)=((x.fL+1:Nat):Int):=by rw[bK _ ae];rfl
     have w2:IntKind.i64.wrap ((p':Int)+1)=((p'+1:Nat):Int):=by rw[bK _ ae];rfl
     generalize ins.pass t Bs p'=y at *;cases y with
     |true =>
      have VB:=Ah t root parts bg nb Bs g b a C q (p'+1) i hg Sr ae oK ht (Vd rfl) C.length;have hcN:fC (p'+1) X.ad<=X.ad.length:=al4;have hXa:=hX.1.ad;have hXc:=hX.2;unfold mT at hXc;rw[be rfl]at jT;have GO:=λ(s:List VL.Obj) (K:V->List VL.Obj->Prop)=>AB (s:=s) (K:=K) VB (n:=x.fL+1) (rg:=x.aR) (st:=X) hnx (by rw[UR.1,hN]) hXa ae hXc 5 9 8 13 10 aF;simp only[zQ,simprocAttr,h3,h6,h7,ek,gP,lJ,m9,rz,lh,lT,ku,rl,r8,FU,BO,sC,db,aw.cells,cA,aV,t1,t2,t3,List.getElem?_map,ak4,hi,ala,jj,AX,Dm,aH,ig,alc,ak7,o1,n8];refine eD t root parts bg nb Bs tP ?_ ?_ rfl rfl rfl ?_
      ·simp [aI,i64,ud]
      ·simp [ak,ak.go,i64,CA]
      simp only[zQ,simprocAttr,h3,h6,h7,ek,gP,lJ,m9,rz,lh,lT,ku,rl,r8,FU,BO,sC,db,aw.cells,cA,aV,t1,t2,t3,List.getElem?_map,ak4,hi,ala,jj,AX,Dm,aH,ig,alc,ak7,o1,n8,w1,w2];refine GO _ _ rfl rfl rfl rfl rfl rfl rfl rfl rfl rfl ?_;simp only[alD,alA];simp only[zQ,simprocAttr,h3,h6,h7,ek,gP,lJ,m9,rz,lh,lT,ku,rl,r8,FU,BO,sC,db,aw.cells,cA,aV,t1,t2,t3,List.getElem?_map,ak4,hi,ala,jj,AX,Dm,aH,ig,alc,ak7,o1,n8,w1,w2];refine⟨st.rd.length-(m+1),_,_,ae,bO.cut (s':=BO t root parts bg nb Bs g b a C q i (fq t Bs C (p'+1) (C.length+1) (x.fL+1) x.aR X) st.gn st.rd (some (mL.mk p p' (JU c x0.aR)))) 14 ae rfl (AR t root parts bg nb Bs g b a C q i _ _ _ _) [3,6,7,10,14,15,16,17,18,19,20,61,62,63] (by simp [ca,aZ,ak,ak.go,h3,h6,h7,ek,gP,lJ,m9,rz,lh,lT,ku,rl,r8,FU,i64,bV]),m+1,rfl,aE,?_,?_,?_,?_,?_,?_,?_,?_,?_,?_,?_,?_,?_,?_,by rw[jT];rfl⟩ <;> (try simp only[zU,Ft,qa,qe,Fp,reduceIte])
      ·exact h3
      ·exact h6
      ·exact h7
      ·exact ek
      ·exact gP
      ·exact lJ
      ·exact m9
      ·exact rz
      ·exact lh
      ·exact lT
      ·exact ku
      ·exact rl
      ·exact r8
      ·rw[bK _ ae];rfl
     |false =>
      rw[ap aq]at jT;simp only[zQ,simprocAttr,h3,h6,h7,ek,gP,lJ,m9,rz,lh,lT,ku,rl,r8,FU,BO,sC,db,aw.cells,cA,aV,t1,t2,t3,List.getElem?_map,ak4,hi,ala,jj,AX,Dm,aH,ig,alc,ak7,o1,n8];refine eD t root parts bg nb Bs tP ?_ ?_ rfl rfl rfl ?_
      ·simp [aI,i64,ud]
      ·simp [ak,ak.go,i64,CA]
      simp only[zQ,simprocAttr,h3,h6,h7,ek,gP,lJ,m9,rz,lh,lT,ku,rl,r8,FU,BO,sC,db,aw.cells,cA,aV,t1,t2,t3,List.getElem?_map,ak4,hi,ala,jj,AX,Dm,aH,ig,alc,ak7,o1,n8,w1,w2];exact Zav
    ·have hF:fR t Bs C p' X x=X:=by unfold fR;rw[lD];simp [o1]
     rw[hF]at jT;simp only[zQ,simprocAttr,h3,h6,h7,ek,gP,lJ,m9,rz,lh,lT,ku,rl,r8,FU,BO,sC,db,aw.cells,cA,aV,t1,t2,t3,List.getElem?_map,ak4,hi,ala,jj,AX,Dm,aH,ig,alc,ak7,o1];exact Zav
   ·have UX:m=st.rd.length:=by omega
    subst UX;rw[alr]at *;have aH:¬(st.rd.length:Int)<(st.rd.length:Int):=ae;have hpe:(fF t Bs C p' st.rd ⟨st.ad,false,[],gb⟩).rd≠[]->p'+1<=t.length:=by intro h;refine Decidable.byContradiction λhc=>h ?_;rw[Bi hg (c:=c) ae st.rd _ hinv.th]
    generalize fF t Bs C p' st.rd ⟨st.ad,false,[],gb⟩=X at *;simp only[zQ,simprocAttr,h3,h6,h7,ek,gP,lJ,m9,rz,lh,lT,ku,rl,r8,FU,BO,aH,alZ];refine⟨k,_,_,Nat.lt_succ_self k,bO.FL [0,1,2,3,4,5,6,7,8,9,10,13,12,11] [3,6,7,10,14,15,16,17,18,19,20] eh,p'+1,X,st.gn,st.rd,(some (mL.mk p p' (JU c x0.aR))),ae,hX.1,hX.2,hpe,hL,?_,?_,?_,?_,?_,?_,?_,?_,?_,?_,?_,Pj t root parts bg nb Bs g b a C q i X st.gn st.rd (some (mL.mk p p' (JU c x0.aR)))⟩;all_goals
     rw[DK,be eh];try simp only[zU,Ft,qa,qe,Fp,reduceIte]
    ·rw[h3];rfl
    ·rw[h6];rfl
    ·rw[h7];rfl
    ·rw[ek];rfl
    ·rw[gP];rfl
    ·rw[lJ];rfl
    ·rw[m9];rfl
    ·rw[rz];rfl
    ·rw[lh];rfl
    ·rw[lT];rfl
    ·rw[bK _ ae];rfl
  |false =>
   have Vv:tq p p' c st gI=gI:=by unfold tq;rw[ap (by rw[cQ];simp)]
   rw[Vv]at hL;simp only[zQ,simprocAttr,h3,h6,h7,ek,gP,lJ,m9,rz,lh,lT,ku,fiR,dG,Sz,t1,t2,t3,fS,gt_iff_lt,cQ];refine cP mix [3,4,5] [] ?_;simp only[zQ,simprocAttr,h3,h6,h7,ek,gP,lJ,m9,rz,lh,lT,ku,alc,gt_iff_lt,fS,t1,t2,t3,ale,Nat.zero_le,and_self,true_and,alj,amt];refine ay (λn e s=>∃m:Nat,n=st.rd.length-m/\m<=st.rd.length/\e 3=i64 p/\e 6=.bx (.so 2 g 0 C.length)/\e 7=.rf 5 0 0 0/\e 10=.rf 6 0 0 0/\e 14=.rf 8 0 0 0/\e 15=.so 11 st.gn 0 st.rd.length/\e 16=.rf 9 0 0 0/\e 17=.rf 10 0 0 0/\e 18=.rf 12 0 0 0/\e 19=bV (gI).isSome/\e 20=i64 p'/\e 61=.so 11 st.gn 0 st.rd.length/\e 62=i64 st.rd.length/\e 63=i64 m/\s=BO t root parts bg nb Bs g b a C q i (fF t Bs C p' (st.rd.take m) ⟨st.ad,false,[],gb⟩) st.gn st.rd gI) ?_ ?_
   ·exact Zbn
   clear h3 h6 h7 ek gP lJ m9 rz lh lT ku;rintro n e s ⟨m,rfl,hm,h3,h6,h7,ek,gP,lJ,m9,rz,lh,lT,ku,rl,r8,FU,rfl⟩;have hX:=sV (t:=t) (Bs:=Bs) (p:=p') (st.rd.take m) ⟨st.ad,false,[],gb⟩ (λx hx=>hinv.th x (alU hx)) YF YD;rcases alw m st.rd.length with aE|gE
   ·have aH:(m:Int)<(st.rd.length:Int):=by omega
    have Dm:(0:Int)<=(m:Int):=ae;obtain⟨x,hx⟩:∃x,st.rd[m]?=some x:=cb aE;have UR:=hinv.th x (List.mem_of_getElem? hx);have hn:=UR.2.1;have jj:(x.fL:Int)<(C.length:Int):=ae;have AX:(0:Int)<=(x.fL:Int):=ae;obtain⟨ins,hi⟩:∃ins,C[x.fL]?=some ins:=cb hn;have lD:bH C x.fL=ins:=by unfold bH;rw[List.getD_eq_getElem?_getD,hi];rfl
    have ig:(fv st.gn st.rd).aA[m]?=some [V.d (D.sc (.int .i64 x.fL)),V.d (ar x.aR)]:=by simp [fv,hx,iz.cells,iD]
    have jT:fF t Bs C p' (st.rd.take (m+1)) ⟨st.ad,false,[],gb⟩=fR t Bs C p' (fF t Bs C p' (st.rd.take m) ⟨st.ad,false,[],gb⟩) x:=by rw[bn hx,ym]
    generalize fF t Bs C p' (st.rd.take m) ⟨st.ad,false,[],gb⟩=X at *;by_cases o1:ins.op=1
    ·obtain⟨Xc,aj,n8,CA,ud,tP⟩:=rK t root parts bg nb Bs b a C hg oK ht hn (.inl (by rw[lD];exact o1)) p' hpt;have Vd:=C5 (t:=t) (Bs:=Bs) (p:=p') hg hn (by rw[lD];exact o1);have hnx:=hg.next x.fL hn (.inl (by rw[lD];exact o1));have hF:fR t Bs C p' X x=if ins.pass t Bs p'=true then fq t Bs C (p'+1) (C.length+1) (x.fL+1) x.aR X else X:=by unfold fR;rw[lD];simp [o1]
     rw[hF]at jT;rw[lD]at n8 tP Vd;have w1:IntKind.i64.wrap ((x.fL:Int)+1)=((x.fL+1:Nat):Int):=by rw[bK _ ae];rfl
     have w2:IntKind.i64.wrap ((p':Int)+1)=((p'+1:Nat):Int):=by rw[bK _ ae];rfl
     generalize ins.pass t Bs p'=y at *;cases y with
     |true =>
      have VB:=Ah t root parts bg nb Bs g b a C q (p'+1) i hg Sr ae oK ht (Vd rfl) C.length;have hcN:fC (p'+1) X.ad<=X.ad.length:=al4;have hXa:=hX.1.ad;have hXc:=hX.2;unfold mT at hXc;rw[be rfl]at jT;have GO:=λ(s:List VL.Obj) (K:V->List VL.Obj->Prop)=>AB (s:=s) (K:=K) VB (n:=x.fL+1) (rg:=x.aR) (st:=X) hnx (by rw[UR.1,hN]) hXa ae hXc 5 9 8 13 10 aF;simp only[zQ,simprocAttr,h3,h6,h7,ek,gP,lJ,m9,rz,lh,lT,ku,rl,r8,FU,BO,sC,db,aw.cells,cA,aV,t1,t2,t3,List.getElem?_map,ak4,hi,ala,jj,AX,Dm,aH,ig,alc,ak7,o1,n8];refine eD t root parts bg nb Bs tP ?_ ?_ rfl rfl rfl ?_
      ·simp [aI,i64,ud]
      ·simp [ak,ak.go,i64,CA]
      simp only[zQ,simprocAttr,h3,h6,h7,ek,gP,lJ,m9,rz,lh,lT,ku,rl,r8,FU,BO,sC,db,aw.cells,cA,aV,t1,t2,t3,List.getElem?_map,ak4,hi,ala,jj,AX,Dm,aH,ig,alc,ak7,o1,n8,w1,w2];refine GO _ _ rfl rfl rfl rfl rfl rfl rfl rfl rfl rfl ?_;simp only[alD,alA];simp only[zQ,simprocAttr,h3,h6,h7,ek,gP,lJ,m9,rz,lh,lT,ku,rl,r8,FU,BO,sC,db,aw.cells,cA,aV,t1,t2,t3,List.getElem?_map,ak4,hi,ala,jj,AX,Dm,aH,ig,alc,ak7,o1,n8,w1,w2];refine⟨st.rd.length-(m+1),_,_,ae,bO.cut (s':=BO t root parts bg nb Bs g b a C q i (fq t Bs C (p'+1) (C.length+1) (x.fL+1) x.aR X) st.gn st.rd gI) 14 ae rfl (AR t root parts bg nb Bs g b a C q i _ _ _ _) [3,6,7,10,14,15,16,17,18,19,20,61,62,63] (by simp [ca,aZ,ak,ak.go,h3,h6,h7,ek,gP,lJ,m9,rz,lh,lT,ku,rl,r8,FU,i64,bV]),m+1,rfl,aE,?_,?_,?_,?_,?_,?_,?_,?_,?_,?_,?_,?_,?_,?_,by rw[jT];rfl⟩ <;> (try simp only[zU,Ft,qa,qe,Fp,reduceIte])
      ·exact h3
      ·exact h6
      ·exact h7
      ·exact ek
      ·exact gP
      ·exact lJ
      ·exact m9
      ·exact rz
      ·exact lh
      ·exact lT
      ·exact ku
      ·exact rl
      ·exact r8
      ·rw[bK _ ae];rfl
     |false =>
      rw[ap aq]at jT;simp only[zQ,simprocAttr,h3,h6,h7,ek,gP,lJ,m9,rz,lh,lT,ku,rl,r8,FU,BO,sC,db,aw.cells,cA,aV,t1,t2,t3,List.getElem?_map,ak4,hi,ala,jj,AX,Dm,aH,ig,alc,ak7,o1,n8];refine eD t root parts bg nb Bs tP ?_ ?_ rfl rfl rfl ?_
      ·simp [aI,i64,ud]
      ·simp [ak,ak.go,i64,CA]
      simp only[zQ,simprocAttr,h3,h6,h7,ek,gP,lJ,m9,rz,lh,lT,ku,rl,r8,FU,BO,sC,db,aw.cells,cA,aV,t1,t2,t3,List.getElem?_map,ak4,hi,ala,jj,AX,Dm,aH,ig,alc,ak7,o1,n8,w1,w2];exact ZaA
    ·have hF:fR t Bs C p' X x=X:=by unfold fR;rw[lD];simp [o1]
     rw[hF]at jT;simp only[zQ,simprocAttr,h3,h6,h7,ek,gP,lJ,m9,rz,lh,lT,ku,rl,r8,FU,BO,sC,db,aw.cells,cA,aV,t1,t2,t3,List.getElem?_map,ak4,hi,ala,jj,AX,Dm,aH,ig,alc,ak7,o1];exact ZaA
   ·have UX:m=st.rd.length:=by omega
    subst UX;rw[alr]at *;have aH:¬(st.rd.length:Int)<(st.rd.length:Int):=ae;have hpe:(fF t Bs C p' st.rd ⟨st.ad,false,[],gb⟩).rd≠[]->p'+1<=t.length:=by intro h;refine Decidable.byContradiction λhc=>h ?_;rw[Bi hg (c:=c) ae st.rd _ hinv.th]
    generalize fF t Bs C p' st.rd ⟨st.ad,false,[],gb⟩=X at *;simp only[zQ,simprocAttr,h3,h6,h7,ek,gP,lJ,m9,rz,lh,lT,ku,rl,r8,FU,BO,aH,alZ];refine⟨k,_,_,Nat.lt_succ_self k,bO.FL [0,1,2,3,4,5,6,7,8,9,10,13,12,11] [3,6,7,10,14,15,16,17,18,19,20] eh,p'+1,X,st.gn,st.rd,gI,ae,hX.1,hX.2,hpe,hL,?_,?_,?_,?_,?_,?_,?_,?_,?_,?_,?_,Pj t root parts bg nb Bs g b a C q i X st.gn st.rd gI⟩;all_goals
     rw[DK,be eh];try simp only[zU,Ft,qa,qe,Fp,reduceIte]
    ·rw[h3];rfl
    ·rw[h6];rfl
    ·rw[h7];rfl
    ·rw[ek];rfl
    ·rw[gP];rfl
    ·rw[lJ];rfl
    ·rw[m9];rfl
    ·rw[rz];rfl
    ·rw[lh];rfl
    ·rw[lT];rfl
    ·rw[bK _ ae];rfl
end
section
variable (P:aw->Prop) (node:Re->Bool)
structure sG:Prop where
 xy:∀i x y,P i->P ⟨i.op,x,y,i.n,i.node⟩
 NH:∀x y,P (dh x y)
 jmp:∀x,P (jZ x)
 set:∀re k,node re=true->re.op=1->P (s9 re k)
 ask:∀re k,node re=true->re.op=11\/re.op=7\/re.op=8->P (lG re k)
 yM:∀re,node re=true->re.op=5->P (jo (2*re.n-2))/\P (jo (2*re.n-1))
def kW (C:List aw):Prop:=∀i∈C,P i
variable {P node}
variable{C:List aw}
theorem kW.add (h:kW P C) {i:aw} (hp:P i):kW P (C++[i]):=λj hj=>by
 rcases List.mem_append.1 hj with hj|hj
 ·exact h j hj
 ·rw[List.mem_singleton.1 hj];exact hp
theorem kW.xy (hP:sG P node) (h:kW P C) (c:Nat) (x y:Int):kW P (yi C c x y):=λj hj=>by
 unfold yi at hj;by_cases hc:c<C.length
 ·rcases amb hj with hj|rfl
  ·exact h j hj
  ·have hm:bH C c∈C:=by unfold bH;rw[List.getD_eq_getElem?_getD,List.getElem?_eq_getElem hc];exact List.getElem_mem hc
   exact hP.xy _ _ _ (h _ hm)
 ·rw[List.set_eq_of_length_le ae]at hj;exact h j hj
theorem kW.xs (hP:sG P node) (E:Int):∀(J:List Nat) {C:List aw},kW P C->kW P (J.foldl (xO E) C)
 |[],_,h=>h
 |c::J,C,h=>kW.xs hP E J (h.xy hP c _ _)
theorem kW.NR (hP:sG P node) (mode:Int):∀(J:List Nat) {C:List aw},kW P C->kW P (J.foldl (oB mode) C)
 |[],_,h=>h
 |c::J,C,h=>by
  rw[aml];refine kW.NR hP mode J ?_;unfold oB;split
  ·exact h.xy hP c _ _
  ·exact h.xy hP c _ _
theorem Bu (hP:sG P node) (re:Re):re.every node=true->∀k C,kW P C->kW P (re.emit k C):=by
 refine Re.ind (Q:=λre=>re.every node=true->∀k C,kW P C->kW P (re.emit k C)) (λre ih hs k C hC=>?_) re;obtain⟨dL,jG⟩:=(Re.az re).1 hs;rw[Re.kN];by_cases o1:re.op=1
 ·rw[be o1];exact hC.add (hP.set re k dL o1)
 rw[ap o1];by_cases o7:re.op=11\/re.op=7\/re.op=8
 ·rw[be o7];exact hC.add (hP.ask re k dL o7)
 rw[ap o7];have hL:∀(l:List Re) (k:Nat) (C:List aw),(∀x∈l,x∈re.kids)->kW P C->kW P (Re.dn l k C):=by
  intro l;induction l with
  |nil=>intro k C _ h;exact h
  |cons x l Gb =>
   intro k C hm h;rw[Re.dn];exact Gb _ _ (λy hy=>hm y (by simp [hy])) (ih x (hm x aq) (jG x (hm x aq)) k C h)
 by_cases o2:re.op=2
 ·rw[be o2];exact hL _ _ _ (λ_ h=>h) hC
 rw[ap o2];by_cases o3:re.op=3
 ·rw[be o3];have hA:∀(l:List Re) (k:Nat) (C:List aw) (J:List Nat),(∀x∈l,x∈re.kids)->kW P C->kW P (Re.mr l k C J):=by
   intro l;induction l with
   |nil=>intro k C J _ h;exact h
   |cons x l Gb =>
    intro k C J hm h;have hx:=λC h=>ih x (hm x aq) (jG x (hm x aq)) k C h;cases l with
    |nil =>
     rw[Re.mr];exact kW.xs hP _ J (hx C h)
    |cons y l =>
     rw[Re.mr];exact Gb _ _ _ (λz hz=>hm z (by simp only[alT]at hz ⊢;exact .inr hz)) (((hx _ (h.add (hP.NH 0 0))).add (hP.jmp 0)).xy hP _ _ _)
   done
  exact hA _ _ _ _ (λ_ h=>h) hC
 rw[ap o3];by_cases o5:re.op=5
 ·rw[be o5];exact(hL _ _ _ (λ_ h=>h) (hC.add (hP.yM re dL o5).1)).add (hP.yM re dL o5).2
 rw[ap o5];by_cases o4:re.op=4
 ·rw[be o4];have hf:∀C,kW P C->kW P (Re.dn re.kids k C):=λC h=>hL _ _ _ (λ_ h=>h) h;have h1:∀n,kW P (iO (λC=>Re.dn re.kids k C) n C):=by
   intro n;induction n with
   |zero=>exact hC
   |succ n ihn=>exact hf _ ihn
  unfold mI;simp only;have h1:=h1 re.mn.toNat;generalize iO (λC=>Re.dn re.kids k C) re.mn.toNat C=C1 at *;split
  ·exact kW.NR hP _ _ ((hf _ (h1.add (hP.NH 0 0))).add (hP.jmp _))
  ·refine kW.NR hP _ _ ?_;have:∀n,kW P (gx (λC=>Re.dn re.kids k C) n C1).1:=by
    intro n;induction n with
    |zero=>exact h1
    |succ n ihn=>exact hf _ (ihn.add (hP.NH 0 0))
   exact this _
 rw[ap o4];exact hC
end
def svB (c:Int) (re:Re):Bool:=decide (re.op=5->1<=re.n/\re.n<=c)
theorem abP {re:Re}{aj top:Int} (h:bX re aj top=true):svB aj re=true:=by obtain⟨h1,h2,h3,h4,h5⟩:=eZ.1 h;unfold svB;rw[decide_eq_true_eq];intro o5;rw[be (.inl o5)]at h4;omega
theorem Se {re:Re}{c:Nat}{top:Int} (h:re.whole c top=true) (k:Nat):Ib (re.emit k []++[cq]) (2*c):=by
 have hP:sG (λi:aw=>i.op=4->0<=i.n/\i.n<((2*c:Nat):Int)) (svB c):=by refine⟨λi x y h=>h,λx y h=>by simp [dh]at h,λx h=>by simp [jZ]at h,λre k _ _ h=>by simp [s9]at h,λre k _ _ h=>by simp [lG]at h,λre h o=>?_⟩;unfold svB at h;have:=of_decide_eq_true h o;exact⟨λ_=>⟨by simp only[jo];omega,by simp only[jo];omega⟩,λ_=>⟨by simp only[jo];omega,by simp only[jo];omega⟩⟩
 have hs:re.every (svB c)=true:=iN (λr h=>abP h) re h;have ha:=Bu hP re hs k [] (λi hi=>by simp at hi);intro n hn ho;have hm:bH (re.emit k []++[cq]) n∈re.emit k []++[cq]:=by unfold bH;rw[List.getD_eq_getElem?_getD,List.getElem?_eq_getElem hn];exact List.getElem_mem hn
 rcases List.mem_append.1 hm with hm|hm
 ·exact ha _ hm ho
 ·rw[List.mem_singleton.1 hm]at ho;simp [cq]at ho
end Go.Proofs.YtjjfioalgbecmaaGreat
