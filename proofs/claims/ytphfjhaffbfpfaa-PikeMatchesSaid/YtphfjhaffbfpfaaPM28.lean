/- A part of the proof (K30 K31). -/
import Derived.Test.YtphfjhaffbfpfaaPM22
set_option linter.all false
set_option maxRecDepth 100000
set_option maxHeartbeats 80000000
namespace Go.Proofs.Ytphfjhaffbfpfaa
open Go.VL Go.Proofs.Try
variable{g:cJ}
structure jK where
 gZ:Int
 from_:Int
 aE:List Int
def jK.cells (x:jK):List D:=[iD x.gZ,iD x.from_,av x.aE]
structure eG where
 marks:List Int
 closed:Bool
 arr:List jK
 n:Nat
 gen:Nat
variable{st:eG}
def eG.push (st:eG) (x:jK) (c:Bool):eG:=⟨st.marks,c,st.arr.take st.n++[x],st.n+1,st.gen+1⟩
def eG.mark (st:eG) (pc v:Int):eG:=⟨st.marks.set pc.toNat v,st.closed,st.arr,st.n,st.gen⟩
def gW (g:cJ) (t:List Int) (at_ cq:Int):Nat->Int->List Int->eG->eG
 |0,_,_,st=>st
 |k+1,pc,aE,st =>
  if st.closed=true\/st.marks.getD pc.toNat 0=at_+1 then st
  else
   let st:=st.mark pc (at_+1);let x:bR:=bk g pc
   if x.op=0\/x.op=1 then st.push ⟨pc,cq,aE⟩ (decide (x.op=0))
   else if x.op=2 then gW g t at_ cq k x.y aE (gW g t at_ cq k x.x aE st)
   else if x.op=3 then gW g t at_ cq k x.x aE st
   else if x.op=4 then gW g t at_ cq k (pc+1) (aE.set x.n.toNat at_) st
   else if bN x.n t at_=true then gW g t at_ cq k (pc+1) aE st else st
def GO (at_:Int) (l:List Int):Nat:=l.countP (λm=>decide (m≠at_+1))
theorem Kh {at_:Int}{l:List Int}{i:Nat} (hi:i<l.length) (h:l.getD i 0≠at_+1):GO at_ (l.set i (at_+1))+1=GO at_ l:=by
 induction l generalizing i with
 |nil=>simp at hi
 |cons b l ih =>
  cases i with
  |zero =>
   have h:b≠at_+1:=by simpa using h
   unfold GO;rw[ad0,List.countP_cons,List.countP_cons];simp [h]
  |succ i =>
   have:=ih (i:=i) (by simpa using hi) (by simpa using h);unfold GO at *;simp only[ad6,List.countP_cons];omega
structure eG.ok (g:cJ) (st:eG):Prop where
 len:st.marks.length=g.ins.length
 n:st.n<=st.arr.length
theorem eG.ok.JF (h:st.ok g) (pc v:Int):(st.mark pc v).ok g:=⟨by simpa [eG.mark]using h.len,h.n⟩
theorem eG.ok.V4 (h:st.ok g) (x:jK) (c:Bool):(st.push x c).ok g:=⟨h.len,by have:=h.n;simp [eG.push];omega⟩
theorem ji (g:cJ) (t:List Int) (at_ cq:Int):∀(k:Nat) (pc:Int) (aE:List Int) (st:eG),g.bW->st.ok g->0<=pc->pc<g.ins.length->(gW g t at_ cq k pc aE st).ok g/\GO at_ (gW g t at_ cq k pc aE st).marks<=GO at_ st.marks/\(gW g t at_ cq k pc aE st).n+GO at_ (gW g t at_ cq k pc aE st).marks<=st.n+GO at_ st.marks
 |0,_,_,st,_,h,_,_=>by simpa [gW]using h
 |k+1,pc,aE,st,hg,h,h0,h1=>by
  have hx:=fE h0 h1;have hs:=hg.split pc.toNat _ hx;have hj:=hg.jump pc.toNat _ hx;have hn:=hg.next pc.toNat _ hx;have ho:=hg.ops _ (adw hx);rw[gW];split
  ·exact⟨h,adB _,adB _⟩
  rename_i hc;have hu:=Kh (at_:=at_) (l:=st.marks) (i:=pc.toNat) (by have:=h.len;omega) (λe=>hc (.inr e));have hm:=h.JF pc (at_+1);have e1:(st.mark pc (at_+1)).marks=st.marks.set pc.toNat (at_+1):=rfl;have e2:(st.mark pc (at_+1)).n=st.n:=rfl;simp only;rw[<- e1]at hu;generalize st.mark pc (at_+1)=c8 at *;split
  ·refine⟨hm.V4 _ _,?_,?_⟩
   ·show GO at_ c8.marks<=_;omega
   ·show c8.n+1+GO at_ c8.marks<=_;omega
  split
  ·rename_i o2;have:=hs o2;have k1:=ji g t at_ cq k (bk g pc).x aE c8 hg hm (by omega) (by omega);have k2:=ji g t at_ cq k (bk g pc).y aE _ hg k1.1 (by omega) (by omega);exact⟨k2.1,by omega,by omega⟩
  split
  ·rename_i o3;have:=hj o3;have k1:=ji g t at_ cq k (bk g pc).x aE c8 hg hm (by omega) (by omega);exact⟨k1.1,by omega,by omega⟩
  split
  ·rename_i o4;have:=hn (.inr (by omega));have k1:=ji g t at_ cq k (pc+1) (aE.set (bk g pc).n.toNat at_) c8 hg hm (by omega) (by omega);exact⟨k1.1,by omega,by omega⟩
  split
  ·have:=hn (.inr (by omega));have k1:=ji g t at_ cq k (pc+1) aE c8 hg hm (by omega) (by omega);exact⟨k1.1,by omega,by omega⟩
  ·exact⟨hm,by omega,by omega⟩
def b6 (g:cJ) (t:List Int) (a1:Nat) (st:eG):VL.Obj:=⟨1,true,5,[[.d (.sl (g.ins.map bR.cells)),i64 g.ah,bV g.aK,.d (av t),.so a1 1 0 st.marks.length]]⟩
def bK (st:eG):VL.Obj:=⟨1,true,1,st.marks.map λx=>[i64 x]⟩
def cF (a0:Nat):VL.Obj:=⟨0,true,1,[[.rf a0 1 0 0]]⟩
def b7 (st:eG):VL.Obj:=⟨0,true,1,[[bV st.closed]]⟩
def eA (a6:Nat) (st:eG):VL.Obj:=⟨0,true,1,[[.so a6 st.gen 0 st.n]]⟩
def eg (a2 a3 a4 a5:Nat):VL.Obj:=⟨0,true,1,[[.cl (.func 59) [] [.rf a3 0 0 0,.rf a2 0 0 0,.rf a4 0 0 0,.rf a5 0 0 0]]]⟩
def dD (st:eG):VL.Obj:=⟨st.gen,true,3,st.arr.map λx=>x.cells.map V.d⟩
def kv (g:cJ) (t:List Int) (st:eG):List VL.Obj:=[b6 g t 1 st,bK st,cF 0,b7 st,eA 6 st,eg 2 3 4 5,dD st]
theorem kQ (n:Nat) (st:eG):bJ n (bK st)=true:=by unfold bJ bK;rw[adE];intro e he;obtain⟨c,hc,rfl⟩:=List.mem_map.1 he;rfl
theorem sQ (n:Nat) (st:eG):bJ n (dD st)=true:=by unfold bJ dD;rw[adE];intro e he;obtain⟨c,hc,rfl⟩:=List.mem_map.1 he;rfl
theorem By (g:cJ) (t:List Int) (st:eG) (n:Nat) (h:7<=n):(kv g t st).all (bJ n)=true:=by simp only[kv,List.all_cons,List.all_nil,kQ,sQ,Bool.and_true,Bool.true_and];simp [bJ,b6,cF,b7,eA,eg,ak,ak.go,i64,bV];omega
theorem Bu (g:cJ) (t:List Int) (st:eG) (a0 a1 a2 a3 a4 a5 a6:Nat):(kv g t st).map (bp [a0,a1,a2,a3,a4,a5,a6])=[b6 g t a1 st,bK st,cF a0,b7 st,eA a6 st,eg a2 a3 a4 a5,dD st]:=by
 unfold kv;simp only[adG,adP,List.cons.injEq,and_true];refine⟨?_,?_,?_,?_,?_,?_,?_⟩
 ·unfold bp b6;simp [aX.go,aX,i64,bV]
 ·unfold bp bK;simp only[List.map_map];congr 1
 ·unfold bp cF;simp [aX.go,aX]
 ·unfold bp b7;simp [aX.go,aX,bV]
 ·unfold bp eA;simp [aX.go,aX]
 ·unfold bp eg;simp [aX.go,aX]
 ·unfold bp dD;simp only[List.map_map];congr 1
theorem pW {f:FuncId}{cargs args:List V}{r r':V}{t:List Int}{st':eG}{a0 a1 a2 a3 a4 a5 a6:Nat}{s:List VL.Obj}{K:V->List VL.Obj->Prop} (h:au prog f cargs (kv g t st) λv s=>v=r/\s=kv g t st')
  (hnd:[a0,a1,a2,a3,a4,a5,a6].Nodup) (h0:s[a0]?=some (b6 g t a1 st)) (h1:s[a1]?=some (bK st)) (h2:s[a2]?=some (cF a0)) (h3:s[a3]?=some (b7 st)) (h4:s[a4]?=some (eA a6 st)) (h5:s[a5]?=some (eg a2 a3 a4 a5)) (h6:s[a6]?=some (dD st))
  (ha:args=cargs.map (aX [a0,a1,a2,a3,a4,a5,a6])) (x8:ak.go 7 cargs=true) (hr:aX [a0,a1,a2,a3,a4,a5,a6] r=r')
  (hk:K r' (((((((s.set a0 (b6 g t a1 st')).set a1 (bK st')).set a2 (cF a0)).set a3 (b7 st')).set a4 (eA a6 st')).set a5 (eg a2 a3 a4 a5)).set a6 (dD st'))):au prog f args s K:=by
 refine gx [a0,a1,a2,a3,a4,a5,a6] h hnd (by rfl) ?_ ha x8 (By g t st 7 (adB _)) hr ?_
 ·have e:(kv g t st).map (λo=>some (bp [a0,a1,a2,a3,a4,a5,a6] o))=((kv g t st).map (bp [a0,a1,a2,a3,a4,a5,a6])).map some:=by rw[List.map_map];rfl
  rw[e,Bu];simp only[adG,adP,h0,h1,h2,h3,h4,h5,h6]
 ·rw[Bu];exact hk
def OU (pc at_ cq:Int) (aE:List Int):List V:=[i64 pc,i64 at_,i64 cq,.d (av aE),.rf 3 0 0 0,.rf 2 0 0 0,.rf 4 0 0 0,.rf 5 0 0 0]
def DT (g:cJ) (t:List Int) (at_ cq:Int) (k:Nat):Prop:=∀(pc:Int) (aE:List Int) (st:eG),0<=pc->pc<g.ins.length->aE.length=(2*g.ah).toNat->st.ok g->GO at_ st.marks<=k->st.n+GO at_ st.marks<=100000 ->
 au prog 59 (OU pc at_ cq aE) (kv g t st) λv s=>v=.tu []/\s=kv g t (gW g t at_ cq (k+1) pc aE st)
theorem Bw (g:cJ) (hg:g.bW) (t:List Int) (ht:t.length<=65536) (at_ cq:Int) (ha0:0<=at_) (B7:at_<=t.length) (k:Nat) (ih:∀j,j+1=k->DT g t at_ cq j):DT g t at_ cq k:=by
 intro pc aE st h0 h1 hr aU hf hn;have hx:=fE h0 h1;have Vb:=aU.len;have RP:=aU.n;have tW:pc<(st.marks.length:Int):=by omega
 have hb:st.marks[pc.toNat]?=some (st.marks.getD pc.toNat 0):=uU (by omega);have jB:=By g t st 7 (adB _);have Xr:=hg.CI;have Xx:=hg.NC;have WU:=hg.O7;have wa:IntKind.i64.wrap (at_+1)=at_+1:=bM _ (by omega);rw[gW];unfold OU;by_cases x0:st.closed=true
 ·rw[ap (.inl x0)];unfold kv at *;refine ar func59 rfl ntmps59 results59 rfl 7 52776558145791 (by simp) (by simp) ?_;simp only[zX,simprocAttr,i64,bV,iD,bD,b7,x0];simp [b6,bK,cF,b7,eA,eg,dD,ak,ak.go,i64,bV,jK.cells]
 have xT:st.closed=false:=by simpa using x0
 by_cases zJ:st.marks.getD pc.toNat 0=at_+1
 ·rw[ap (.inr zJ)];have Zo:=eq_true zJ;unfold kv at *;refine ar func59 rfl ntmps59 results59 rfl 7 52776558145791 (by simp) (by simp) ?_;simp only[zX,simprocAttr,i64,bV,iD,bD,b7,cF,b6,bK,xT,h0,tW,hb,adI,wa,Zo,ado];simp [b6,bK,cF,b7,eA,eg,dD,ak,ak.go,i64,bV,jK.cells]
 rw[am (λh=>h.elim x0 zJ)];have hu:=Kh (at_:=at_) (l:=st.marks) (i:=pc.toNat) (by omega) zJ;have hm:=aU.JF pc (at_+1);have e1:(st.mark pc (at_+1)).marks=st.marks.set pc.toNat (at_+1):=rfl;have e2:(st.mark pc (at_+1)).n=st.n:=rfl;have VK:(⟨1,true,5,[[.d (.sl (g.ins.map bR.cells)),.d (.sc (.int .i64 g.ah)),.d (.sc (.bool g.aK)),.d (av t),.so 1 1 0 st.marks.length]]⟩:VL.Obj)=b6 g t 1 (st.mark pc (at_+1)):=by simp [b6,eG.mark,i64,bV]
 have WB:(⟨1,true,1,(st.marks.map λx=>[V.d (.sc (.int .i64 x))]).set pc.toNat [V.d (.sc (.int .i64 (at_+1)))]⟩:VL.Obj)=bK (st.mark pc (at_+1)):=by simp [bK,eG.mark,i64,List.map_set]
 have Uo:(⟨0,true,1,[[.rf 0 1 0 0]]⟩:VL.Obj)=cF 0:=rfl;have W9:(⟨0,true,1,[[V.d (.sc (.bool false))]]⟩:VL.Obj)=b7 (st.mark pc (at_+1)):=by simp [b7,eG.mark,xT,bV]
 have VN:eA 6 st=eA 6 (st.mark pc (at_+1)):=rfl;have VS:(⟨0,true,1,[[.cl (.func 59) [] [.rf 3 0 0 0,.rf 2 0 0 0,.rf 4 0 0 0,.rf 5 0 0 0]]]⟩:VL.Obj)=eg 2 3 4 5:=rfl;have Vv:dD st=dD (st.mark pc (at_+1)):=rfl;have Q0:=hg.split pc.toNat _ hx;have hgj:=hg.jump pc.toNat _ hx;have Xd:=hg.save pc.toNat _ hx;have hga:=hg.assert pc.toNat _ hx;have So:=hg.next pc.toNat _ hx;have xV:=hg.ops _ (adw hx);simp only;rw[<- e1]at hu;have hinv:=λj pc aE st h a b=>ji g t at_ cq (j+1) pc aE st hg h a b;generalize uz:st.mark pc (at_+1)=c8 at *;generalize bk g pc=x at *;obtain⟨j,rfl⟩:∃j,k=j+1:=⟨k-1,by omega⟩
 have ih:=ih j rfl;unfold DT OU at ih;by_cases o2:x.op=2
 ·rw[am (by omega),ap o2];have Mb:=Q0 o2;have uI:=ih x.x aE c8 (by omega) (by omega) hr hm (by omega) (by omega);have h2:=hinv j x.x aE c8 hm (by omega) (by omega);have ie:=ih x.y aE (gW g t at_ cq (j+1) x.x aE c8) (by omega) (by omega) hr h2.1 (by omega) (by omega);generalize gW g t at_ cq (j+1) x.x aE c8=R1 at *;generalize gW g t at_ cq (j+1) x.y aE R1=R2 at *;unfold kv;refine ar func59 rfl ntmps59 results59 rfl 7 52776558145791 (by simp) (by simp) ?_;simp only[zX,simprocAttr,i64,bV,iD,bD,b7,cF,b6,bK,eg,xT,h0,h1,tW,hb,hx,adI,wa,zJ,bR.cells,ado,o2];rw[VK,WB,Uo,W9,VN,VS,Vv];refine pW (a0:=0) (a1:=1) (a2:=2) (a3:=3) (a4:=4) (a5:=5) (a6:=6) uI (by decide) rfl rfl rfl rfl rfl rfl rfl rfl rfl rfl ?_;simp only[ad0,ad6];simp only[zX,simprocAttr,i64,bV,iD,bD,cF,b6,eg,h0,h1,adI,bR.cells,ado,o2];refine pW (a0:=0) (a1:=1) (a2:=2) (a3:=3) (a4:=4) (a5:=5) (a6:=6) ie (by decide) rfl rfl rfl rfl rfl rfl rfl rfl rfl rfl ?_;simp only[ad0,ad6];simp only[zX,simprocAttr,i64,bV,iD,bD,cF,b6,eg,h0,h1,adI,bR.cells,ado,o2];simp [b6,bK,cF,b7,eA,eg,dD,ak,ak.go,i64,bV,jK.cells]
 by_cases o3:x.op=3
 ·rw[am (by omega),am o2,ap o3];have Mb:=hgj o3;have uI:=ih x.x aE c8 (by omega) (by omega) hr hm (by omega) (by omega);generalize gW g t at_ cq (j+1) x.x aE c8=R2 at *;unfold kv;refine ar func59 rfl ntmps59 results59 rfl 7 52776558145791 (by simp) (by simp) ?_;simp only[zX,simprocAttr,i64,bV,iD,bD,b7,cF,b6,bK,eg,xT,h0,h1,tW,hb,hx,adI,wa,zJ,bR.cells,ado,o2,o3];rw[VK,WB,Uo,W9,VN,VS,Vv];refine pW (a0:=0) (a1:=1) (a2:=2) (a3:=3) (a4:=4) (a5:=5) (a6:=6) uI (by decide) rfl rfl rfl rfl rfl rfl rfl rfl rfl rfl ?_;simp only[ad0,ad6];simp only[zX,simprocAttr,i64,bV,iD,bD,cF,b6,eg,h0,h1,adI,bR.cells,ado,o2,o3];simp [b6,bK,cF,b7,eA,eg,dD,ak,ak.go,i64,bV,jK.cells]
 by_cases o4:x.op=4
 ·rw[am (by omega),am o2,am o3,ap o4];have Mb:=Xd o4;have hg3:=So (.inr (by omega));have w1:IntKind.i64.wrap (pc+1)=pc+1:=bM _ (by omega);have uI:=ih (pc+1) (aE.set x.n.toNat at_) c8 (by omega) (by omega) (by simpa using hr) hm (by omega) (by omega);generalize gW g t at_ cq (j+1) (pc+1) (aE.set x.n.toNat at_) c8=R2 at *;have w2:IntKind.i64.wrap (x.n+1)=x.n+1:=bM _ (by omega);have b1:x.n<=(aE.length:Int):=by omega
  have b2:x.n+1<=(aE.length:Int):=by omega
  have z1:(x.n-0).toNat=x.n.toNat:=by omega
  have z2:(x.n+1).toNat=x.n.toNat+1:=by omega
  have z3:List.take ((aE.length:Int)-(x.n+1)).toNat (List.drop (x.n.toNat+1) (aE.map λx=>[D.sc (.int .i64 x)]))=(aE.drop (x.n.toNat+1)).map λx=>[D.sc (.int .i64 x)]:=by rw[<- List.map_drop,adT (by simp;omega)]
  have z4:List.take x.n.toNat (aE.map λx=>[D.sc (.int .i64 x)])=(aE.take x.n.toNat).map λx=>[D.sc (.int .i64 x)]:=by rw[List.map_take]
  have cC:aE.set x.n.toNat at_=aE.take x.n.toNat++at_::aE.drop (x.n.toNat+1):=by rw[List.set_eq_take_append_cons_drop,ap (by omega)]
  have Pg:(aE.drop (x.n.toNat+1)).length<=100000:=by simp;omega
  have Up:(aE.take x.n.toNat).length<=100000:=by simp;omega
  unfold kv;refine ar func59 rfl ntmps59 results59 rfl 7 52776558145791 (by simp) (by simp) ?_;simp only[zX,simprocAttr,i64,bV,iD,bD,b7,cF,b6,bK,eg,xT,h0,h1,tW,hb,hx,adI,wa,zJ,bR.cells,ado,o2,o3,o4,av,Mb.1,b1,ady,z1,z4];refine⟨rfl,λe he=>by rw[List.mem_singleton.1 he];rfl,?_⟩;split
  ·rename_i heq;cases heq
  refine⟨⟨by omega,λe he=>by obtain⟨y,_,rfl⟩:=List.mem_map.1 he;rfl⟩,?_⟩;refine ao mix [12] [(11,[8],[8])] (by rfl) ?_;simp only[zX,simprocAttr,i64,bV,iD,bD,cF,b6,eg,h0,h1,adI,bR.cells,ado,w1,w2,b2,ady,z1,z2,z3,z4];refine⟨by omega,.inr (λe he=>by obtain⟨y,_,rfl⟩:=List.mem_map.1 he;rfl),rfl,Td _,⟨by simp,by omega⟩,?_⟩;have WH:=VK;simp only[av,iD]at WH;rw[WH,WB,Uo,W9,VN,VS,Vv];refine bj (aY (cargs:=[i64 (pc+1),i64 at_,i64 cq,.d (av (aE.set x.n.toNat at_)),.rf 3 0 0 0,.rf 2 0 0 0,.rf 4 0 0 0,.rf 5 0 0 0]) [8] ?_ (pW (a0:=0) (a1:=1) (a2:=2) (a3:=3) (a4:=4) (a5:=5) (a6:=6) uI (by decide) rfl rfl rfl rfl rfl rfl rfl rfl rfl rfl ⟨rfl,rfl⟩)) ?_
  ·simp only[bg,bT,List.getElem?_cons_succ,adU,ad6,ad0,adA,adF,bf.go];rw[ru (ds:=(aE.set x.n.toNat at_).map λx=>[iD x]) (by rfl) ?_ ?_ (.inr rfl)]
   ·rfl
   ·rw[List.drop_zero,adT (by simp),adT (by simp),cC];simp [iD]
   ·simp
  simp only[bg,bT,List.getElem?_cons_succ,adU,ad0,ad6];simp only[zX,simprocAttr,i64,bV,iD,bD,o2,o3,o4];simp [b6,bK,cF,b7,eA,eg,dD,ak,ak.go,i64,bV,jK.cells,iD]
 by_cases o5:x.op=5
 ·rw[am (by omega),am o2,am o3,am o4];have Mb:=hga o5;have hg3:=So (.inr (by omega));have w1:IntKind.i64.wrap (pc+1)=pc+1:=bM _ (by omega);have has:=wF x.n t at_ Mb.1 Mb.2 (by omega) ha0 B7;simp only[i64,bV]at has;by_cases hh:bN x.n t at_=true
  ·rw[ap hh];rw[hh]at has;have uI:=ih (pc+1) aE c8 (by omega) (by omega) hr hm (by omega) (by omega);generalize gW g t at_ cq (j+1) (pc+1) aE c8=R2 at *;unfold kv;refine ar func59 rfl ntmps59 results59 rfl 7 52776558145791 (by simp) (by simp) ?_;simp only[zX,simprocAttr,i64,bV,iD,bD,b7,cF,b6,bK,eg,xT,h0,h1,tW,hb,hx,adI,wa,zJ,bR.cells,ado,o2,o3,o4,o5];refine ao mix [] [] (by rfl) ?_;simp only[zX,simprocAttr,i64,bV,iD,bD,b7,cF,b6,bK,eg,xT,h0,h1,tW,hb,hx,adI,wa,zJ,bR.cells,ado,o2,o3,o4,o5];refine bY has rfl rfl ?_;simp only[zX,simprocAttr,i64,bV,iD,bD,b7,cF,b6,bK,eg,xT,h0,h1,tW,hb,hx,adI,wa,zJ,bR.cells,ado,o2,o3,o4,o5,w1];rw[VK,WB,Uo,W9,VN,VS,Vv];refine pW (a0:=0) (a1:=1) (a2:=2) (a3:=3) (a4:=4) (a5:=5) (a6:=6) uI (by decide) rfl rfl rfl rfl rfl rfl rfl rfl rfl rfl ?_;simp only[ad0,ad6];simp only[zX,simprocAttr,i64,bV,iD,bD,cF,b6,eg,h0,h1,adI,bR.cells,ado,o2,o3,o4,o5];simp [b6,bK,cF,b7,eA,eg,dD,ak,ak.go,i64,bV,jK.cells]
  ·rw[am hh];have P8:bN x.n t at_=false:=by simpa using hh
   rw[P8]at has;unfold kv;refine ar func59 rfl ntmps59 results59 rfl 7 52776558145791 (by simp) (by simp) ?_;simp only[zX,simprocAttr,i64,bV,iD,bD,b7,cF,b6,bK,eg,xT,h0,h1,tW,hb,hx,adI,wa,zJ,bR.cells,ado,o2,o3,o4,o5];refine ao mix [] [] (by rfl) ?_;simp only[zX,simprocAttr,i64,bV,iD,bD,b7,cF,b6,bK,eg,xT,h0,h1,tW,hb,hx,adI,wa,zJ,bR.cells,ado,o2,o3,o4,o5];refine bY has rfl rfl ?_;rw[VK,WB,Uo,W9,VN,VS,Vv];simp only[zX,simprocAttr,i64,bV,iD,bD,o2,o3,o4,o5,adq];simp [b6,bK,cF,b7,eA,eg,dD,ak,ak.go,i64,bV,jK.cells]
 have XI:x.op=0\/x.op=1:=by omega
 rw[ap XI];subst uz;unfold kv;rcases XI with o0|o1
 ·refine ar func59 rfl ntmps59 results59 rfl 7 52776558145791 (by simp) (by simp) ?_;simp only[zX,simprocAttr,i64,bV,iD,bD,b7,cF,b6,bK,eg,xT,h0,h1,tW,hb,hx,adI,wa,zJ,bR.cells,ado,eA,dD,o0];refine⟨λe he=>by rw[List.mem_singleton.1 he];rfl,⟨by omega,by omega⟩,?_,?_⟩
  ·rw[adD];refine⟨?_,?_⟩
   ·rw[adE];intro e he;rcases List.mem_or_eq_of_mem_set he with he|rfl
    ·obtain⟨y,_,rfl⟩:=List.mem_map.1 he;rfl
    ·rfl
   ·rw[List.all_append,adD];refine⟨?_,rfl⟩;rw[adE];intro e he;obtain⟨y,_,rfl⟩:=List.mem_map.1 (List.mem_of_mem_take he);rfl
  ·simp [eG.push,eG.mark,jK.cells,iD,List.map_take,List.map_set,o0]
 ·refine ar func59 rfl ntmps59 results59 rfl 7 52776558145791 (by simp) (by simp) ?_;simp only[zX,simprocAttr,i64,bV,iD,bD,b7,cF,b6,bK,eg,xT,h0,h1,tW,hb,hx,adI,wa,zJ,bR.cells,ado,eA,dD,o1];refine⟨λe he=>by rw[List.mem_singleton.1 he];rfl,⟨by omega,by omega⟩,?_,?_⟩
  ·rw[adD];refine⟨?_,?_⟩
   ·rw[adE];intro e he;rcases List.mem_or_eq_of_mem_set he with he|rfl
    ·obtain⟨y,_,rfl⟩:=List.mem_map.1 he;rfl
    ·rfl
   ·rw[List.all_append,adD];refine⟨?_,rfl⟩;rw[adE];intro e he;obtain⟨y,_,rfl⟩:=List.mem_map.1 (List.mem_of_mem_take he);rfl
  ·simp [eG.push,eG.mark,jK.cells,iD,List.map_take,List.map_set,o1]
theorem Ea (g:cJ) (hg:g.bW) (t:List Int) (ht:t.length<=65536) (at_ cq:Int) (ha0:0<=at_) (B7:at_<=t.length):∀k,DT g t at_ cq k
 |0=>Bw g hg t ht at_ cq ha0 B7 0 (λj h=>by omega)
 |k+1=>by
  refine Bw g hg t ht at_ cq ha0 B7 (k+1) (λj h=>?_);have:j=k:=by omega
  subst this;exact Ea g hg t ht at_ cq ha0 B7 j
structure jK.ok (g:cJ) (x:jK):Prop where
 p0:0<=x.gZ
 p1:x.gZ<g.ins.length
 aE:x.aE.length=(2*g.ah).toNat
 op:(bk g x.gZ).op=0\/(bk g x.gZ).op=1
def eG.list (st:eG):List jK:=st.arr.take st.n
theorem eG.wo (h:st.n<=st.arr.length) (x:jK) (c:Bool):(st.push x c).list=st.list++[x]:=by unfold eG.list eG.push;simp only;rw[adT];simp;omega
theorem oP (g:cJ) (hg:g.bW) (t:List Int) (at_ cq:Int):∀(k:Nat) (pc:Int) (aE:List Int) (st:eG),st.ok g->0<=pc->pc<g.ins.length->aE.length=(2*g.ah).toNat->(∀x∈st.list,x.ok g)->∀x∈(gW g t at_ cq k pc aE st).list,x.ok g
 |0,_,_,st,_,_,_,_,h=>by simpa [gW]using h
 |k+1,pc,aE,st,aU,h0,h1,hr,h=>by
  have hx:=fE h0 h1;have hs:=hg.split pc.toNat _ hx;have hj:=hg.jump pc.toNat _ hx;have hn:=hg.next pc.toNat _ hx;have ho:=hg.ops _ (adw hx);rw[gW];split
  ·exact h
  have hm:=aU.JF pc (at_+1);have hl:(st.mark pc (at_+1)).list=st.list:=rfl;simp only;rw[<- hl]at h;generalize st.mark pc (at_+1)=c8 at *;split
  ·rename_i XI;intro x hx;rw[eG.wo hm.n]at hx;rcases List.mem_append.1 hx with hx|hx
   ·exact h x hx
   ·rw[List.mem_singleton.1 hx];exact⟨h0,h1,hr,XI⟩
  split
  ·rename_i o2;have:=hs o2;have k1:=ji g t at_ cq k (bk g pc).x aE c8 hg hm (by omega) (by omega);exact oP g hg t at_ cq k _ _ _ k1.1 (by omega) (by omega) hr (oP g hg t at_ cq k _ _ _ hm (by omega) (by omega) hr h)
  split
  ·rename_i o3;have:=hj o3;exact oP g hg t at_ cq k _ _ _ hm (by omega) (by omega) hr h
  split
  ·rename_i o4;have:=hn (.inr (by omega));exact oP g hg t at_ cq k _ _ _ hm (by omega) (by omega) (by simpa using hr) h
  split
  ·have:=hn (.inr (by omega));exact oP g hg t at_ cq k _ _ _ hm (by omega) (by omega) hr h
  ·exact h
theorem wY (at_:Int) (l:List Int):GO at_ l<=l.length:=List.countP_le_length
def DW (g:cJ) (t:List Int) (at_:Int) (x:jK):Prop:=(bk g x.gZ).op=1/\hasB (bk g x.gZ).set (gQ t at_)=true
instance (g:cJ) (t:List Int) (at_:Int) (x:jK):Decidable (DW g t at_ x):=by unfold DW;infer_instance
def mX (g:cJ) (t:List Int) (at_:Int) (st:eG) (x:jK):eG:=if DW g t at_ x then gW g t (at_+1) x.from_ (mu g) (x.gZ+1) x.aE st else st
def tH (g:cJ) (t:List Int) (at_:Int) (l:List jK) (st:eG):eG:=l.foldl (mX g t at_) st
theorem Ju (g:cJ) (t:List Int) (at_:Int) (l:List jK) (x:jK) (st:eG):tH g t at_ (l++[x]) st=mX g t at_ (tH g t at_ l st) x:=by unfold tH;rw[List.foldl_append];rfl
structure eG.inv (g:cJ) (at_:Int) (st:eG):Prop where
 ok:st.ok g
 n:st.n+GO at_ st.marks<=g.ins.length
 th:∀x∈st.list,x.ok g
theorem sT (g:cJ) (hg:g.bW) (t:List Int) (at_ cq:Int) (k:Nat) (pc:Int) (aE:List Int) (st:eG) (h:st.inv g at_) (h0:0<=pc) (h1:pc<g.ins.length) (hr:aE.length=(2*g.ah).toNat):(gW g t at_ cq k pc aE st).inv g at_:=by obtain⟨k1,k2,k3⟩:=ji g t at_ cq k pc aE st hg h.ok h0 h1;exact⟨k1,Nat.le_trans k3 h.n,oP g hg t at_ cq k pc aE st h.ok h0 h1 hr h.th⟩
theorem uq (g:cJ) (hg:g.bW) (t:List Int) (at_:Int):∀(l:List jK) (st:eG),(∀x∈l,x.ok g)->st.inv g (at_+1)->(tH g t at_ l st).inv g (at_+1)
 |[],st,_,h=>h
 |x::l,st,hl,h=>by
  have hx:=hl x (by simp);refine uq g hg t at_ l _ (λy hy=>hl y (by simp [hy])) ?_;unfold mX;split
  ·rename_i hc;have hn:=hg.next x.gZ.toNat _ (fE hx.p0 hx.p1) (.inl hc.1);have:=hx.p0;exact sT g hg t (at_+1) x.from_ _ _ _ st h (by omega) (by omega) hx.aE
  ·exact h
theorem Qs (l:List (Int×Int)) (x:Int) (hl:l.length<=1000000):ba prog 61 [.d (.sl (l.map aN)),i64 x] (bV (hasB l x)):=by
 refine ar func61 rfl ntmps61 results61 rfl 0 979 (by simp) (by simp) ?_;simp only[zX,simprocAttr,i64,ado];refine aJ (λn e s=>∃i:Nat,n=l.length-i/\i<=l.length/\e 1=i64 x/\e 7=.d (.sl (l.map aN))/\e 8=i64 l.length/\e 9=i64 i/\s=[]/\(l.take i).any (λs=>decide (s.1<=x/\x<=s.2))=false)
  ⟨_,_,_,cU.refl,0,rfl,by omega,rfl,rfl,rfl,rfl,rfl,by simp⟩ ?_
 rintro n e s ⟨i,rfl,hi,h1,h7,h8,h9,rfl,ov⟩;rcases adV i l.length with aH|iP
 ·obtain⟨k,hk⟩:∃k,l[i]?=some k:=⟨_,adn aH⟩
  have bo:(i:Int)<l.length:=by omega
  have hm:=adw hk;by_cases c1:k.1<=x
  ·by_cases c2:x<=k.2
   ·simp only[zX,simprocAttr,i64,bV,iD,bD,aN,h1,h7,h8,h9,bo,hk,c1,c2];have:hasB l x=true:=List.any_eq_true.2 ⟨k,hm,by simp [c1,c2]⟩;rw[this]
   ·simp only[zX,simprocAttr,i64,bV,iD,bD,aN,h1,h7,h8,h9,bo,hk,c1,c2];refine⟨l.length-(i+1),_,_,by omega,cU.cut (s':=[]) 0 (by omega) rfl rfl [1,7,8,9] (by simp [cB,br,ak,h1,h7,h8,h9,i64]),i+1,rfl,aH,?_,?_,?_,?_,rfl,by rw[cy hk,List.any_append,ov];simp [c2]⟩ <;> (try simp only[zU,Nat.reduceBEq,Nat.reduceShiftRight,Nat.reduceMod,Nat.reduceEqDiff,reduceIte])
    ·exact h1
    ·exact h7
    ·exact h8
    ·rw[bM _ (by omega)];rfl
  ·simp only[zX,simprocAttr,i64,bV,iD,bD,aN,h1,h7,h8,h9,bo,hk,c1];refine⟨l.length-(i+1),_,_,by omega,cU.cut (s':=[]) 0 (by omega) rfl rfl [1,7,8,9] (by simp [cB,br,ak,h1,h7,h8,h9,i64]),i+1,rfl,aH,?_,?_,?_,?_,rfl,by rw[cy hk,List.any_append,ov];simp [c1]⟩ <;> (try simp only[zU,Nat.reduceBEq,Nat.reduceShiftRight,Nat.reduceMod,Nat.reduceEqDiff,reduceIte])
   ·exact h1
   ·exact h7
   ·exact h8
   ·rw[bM _ (by omega)];rfl
 ·have fy:i=l.length:=by omega
  subst fy;have bo:¬(l.length:Int)<l.length:=by omega
  rw[adZ]at ov;simp only[zX,simprocAttr,i64,bV,iD,bD,h1,h7,h8,h9,bo];have:hasB l x=false:=ov;rw[this]
end Go.Proofs.Ytphfjhaffbfpfaa
