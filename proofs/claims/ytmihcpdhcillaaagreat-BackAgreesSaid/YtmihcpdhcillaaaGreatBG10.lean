/- A part of the proof (S5 S6). -/
import Derived.Test.YtmihcpdhcillaaaGreatBG9
set_option linter.unusedSimpArgs false
set_option linter.unusedVariables false
set_option maxRecDepth 100000
set_option maxHeartbeats 80000000
namespace Go.Proofs.YtmihcpdhcillaaaGreat
open Go.VL Go.Proofs.Tryz
def bp.push (m:bp) (p:ai):bp:={ m with cO:=m.cO.take m.top++[p],top:=m.top+1,gen:=m.gen+1 }
def rj (kids:List Re) (p:ai) (m:bp):bp:=kids.foldr (fun k m=>m.push { p with todo:=.tree k [] p.todo }) m
theorem DU:∀(kids:List Re) (p:ai) (m:bp),m.top≤m.cO.length→(rj kids p m).top≤(rj kids p m).cO.length∧(rj kids p m).top=m.top+kids.length
 |[],_,_,h=>⟨h,rfl⟩
 |k::l,p,m,h=>by
  obtain⟨h1,h2⟩:=DU l p m h
  have e:rj (k::l) p m=(rj l p m).push { p with todo:=.tree k [] p.todo }:=rfl
  rw[e]
  unfold bp.push
  simp only[W5,Xu,W3,Xa]
  omega
theorem NW (g b a:Nat) (m:bp) (re:Re) (next:aF) {ext:List VL.Obj}{K:V→List VL.Obj→Prop} (hk:K (.d ((aF.tree re [] next).d b a)) (m.au g b a++ext)) :
  mq prog [0,1,2] [] 39 [.pp 0 g 0 0 b a,.d (.el re.cells),.d (next.d b a)] (m.au g b a++ext) K:=by
 refine⟨_,[],rfl,fun s' hl hr=>?_,hk⟩
 have h:s'=m.au g b a++s'.drop 3:=by
  have h0:=hr 0 (by simp);have h1:=hr 1 (by simp);have h2:=hr 2 (by simp)
  match s',hl,h0,h1,h2 with
  |[],hl,_,_,_=>simp [bp.au]at hl
  |[_],hl,_,_,_=>simp [bp.au]at hl
  |[_,_],hl,_,_,_=>simp [bp.au]at hl
  |x::y::z::l,_,h0,h1,h2 =>
   unfold bp.au at *
   simp at h0 h1 h2
   subst h0 h1 h2
   rfl
 have hp:=dX (iV g b a m re [] next) rfl rfl rfl (s'.drop 3)
 rw[← wQ,← h]at hp
 exact hp
theorem Mf (g b a:Nat) (m:bp) (re:Re) (ext:List D) (p:ai) {kid:Re}{l:List Re} (hk0:re.kids=kid::l) (cz:re.kids.length≤1000000000) (pt:m.top≤m.cO.length) (VV:m.top≤1000000000000):av prog 60 [.pp 0 g 0 0 b a,.d (di re ext),p.v b a] (m.au g b a) fun v s=>v=dH b a { p with todo:=.tree kid [] p.todo } true∧s=(rj l p m).au g b a:=by
 have hM:=b9 (rj l p m) b a 3
 have wl:IntKind.i64.wrap ((re.kids.length:Int)-1)=(re.kids.length:Int)-1:=bU _ (by omega)
 unfold bp.au
 refine aw func60 rfl ntmps60 results60 rfl 3 999 (by simp) (by simp) ?_
 simp only[zX,simprocAttr,i64,bV,iD,dH,ai.v,ai.cells,WU,WV,di,Re.ae re,WR,WS,wl,W1]
 refine aX (fun n e s=>∃(j:Nat) (m':bp),n=j∧j≤l.length∧m'=rj (l.drop j) p m∧e 0=.pp 0 g 0 0 b a∧e 1=.d (di re ext)∧e 5=.rf 3 0 0 0∧e 6=.rf 4 0 0 0∧e 8=.d (p.todo.d b a)∧e 9=i64 j∧s=m'.au g b a++[gq b a p,dM])
  ⟨_,_,_,dw.refl,l.length,m,rfl,W4 _,by rw[List.drop_length];rfl,rfl,?_,rfl,rfl,rfl,?_,rfl⟩ ?_
 ·unfold di;rw[Re.ae re];rfl
 ·have:(re.kids.length:Int)-1=l.length:=by rw[hk0];simp
  rw[this];rfl
 rintro j e s ⟨_,m',rfl,hj,nq,h0,h1,h5,h6,h8,h9,rfl⟩
 cases j with
 |zero =>
  have h9:e 9=i64 0:=h9
  rw[X1]at nq
  subst nq
  have hput:=fun ext=>dX (iV g b a (rj l p m) kid [] p.todo) rfl rfl rfl ext
  rw[← wQ]at hput
  unfold bp.au at *
  have l3:(0:Int)<((l.length+1:Nat):Int):=by omega
  simp only[zX,simprocAttr,i64,bV,iD,dH,gq,dM,ai.v,ai.cells,WU,WV,WR,WS,h0,h1,h5,h6,h8,h9,gt_iff_lt,Int.lt_irrefl,di,Re.ae re,hk0,W3,l3]
  refine aj (hput _) (fun v s' hv=>?_);obtain⟨rfl,rfl⟩:=hv
  simp only[zX,simprocAttr,i64,bV,iD,dH,h0,h1,h5,h6,h8,h9,WR,WS]
  exact⟨hM,rfl⟩
 |succ j =>
  obtain⟨k,hk⟩:∃k,l[j]?=some k:=⟨_,WZ (by omega)⟩
  have dN:re.kids[j+1]?=some k:=by rw[hk0];exact hk
  have l0:(0:Int)<((j+1:Nat):Int):=by omega
  have Wh:(0:Int)≤((j+1:Nat):Int):=by omega
  have l1:((j+1:Nat):Int)<(re.kids.length:Int):=by rw[hk0,W3];omega
  have l2:j+1<re.kids.length:=by rw[hk0,W3];omega
  have hlen:=DU (l.drop (j+1)) p m pt
  rw[← nq,List.length_drop]at hlen
  obtain⟨Bf,Oe⟩:=hlen
  have TH:l.length≤1000000000:=by rw[hk0,W3]at cz;omega
  have RZ:m'.top≤2000000000000:=by omega
  have w9:IntKind.i64.wrap (((j+1:Nat):Int)-1)=(j:Int):=by rw[bU _ (by omega)];omega
  have iI:min m'.top m'.cO.length=m'.top:=by omega
  have ss:rj (l.drop j) p m=m'.push { p with todo:=.tree k [] p.todo }:=by
   obtain⟨aS,he⟩:=List.getElem?_eq_some_iff.1 hk
   rw[XV aS,he,nq]
   rfl
  have hput:=fun ext K=>NW g b a m' k p.todo (ext:=ext) (K:=K)
  unfold bp.au at *
  simp only[zX,simprocAttr,i64,bV,iD,dH,gq,dM,ai.v,ai.cells,WU,WV,WR,WS,h0,h1,h5,h6,h8,h9,gt_iff_lt,l0]
  refine aq mix [] [(2,[0],[]),(3,[0],[]),(4,[0],[]),(17,[0,1,2],[]),(20,[2],[2]),(21,[0],[]),(22,[0],[]),(23,[0],[0])] (by rfl) ?_
  simp only[zX,simprocAttr,i64,bV,iD,dH,ai.v,ai.cells,WU,WV,WR,WS,di,Re.ae re,h0,h1,h5,h6,h8,h9,Wh,l1,l2,dN,W1,Xp]
  refine hput _ _ ?_
  simp only[zX,simprocAttr,i64,bV,iD,dH,ai.v,ai.cells,WU,WV,WR,WS,h0,h1,h5,h6,h8,h9,Bf,iI,W1]
  refine⟨rfl,by simp,⟨by omega,by omega⟩,j,_,_,Xo j,dw.refl,j,_,rfl,by omega,ss.symm,?_,?_,?_,?_,?_,?_,?_⟩ <;> (try simp only[zU,Nat.reduceBEq,Nat.reduceShiftRight,Nat.reduceMod,Nat.reduceEqDiff,reduceIte])
  ·exact h0
  ·rw[h1];unfold di;rw[Re.ae re];rfl
  ·exact h5
  ·exact h6
  ·exact h8
  ·rw[w9]
  ·unfold bp.push
   simp only[X4,and_true,X1,Xi,XC,XR,WU,WV,ai.cells,iD]
theorem HS (c:ar):∀k:Nat,(c.flatMap fun p=>[iD p.1,iD p.2]).take (2*k)=(c.take k).flatMap fun p=>[iD p.1,iD p.2]:=by
 induction c with
 |nil=>intro k;simp
 |cons x l ih =>
  intro k
  cases k with
  |zero=>rfl
  |succ k =>
   rw[show 2*(k+1)=2*k+2 by omega]
   show iD x.1::iD x.2::(l.flatMap fun p=>[iD p.1,iD p.2]).take (2*k)=_
   rw[ih k]
   rfl
theorem JW {c:ar}{k:Nat} (h:k<c.length) (x:Int×Int):((c.set k x).flatMap fun p=>[iD p.1,iD p.2])=(c.flatMap fun p=>[iD p.1,iD p.2]).take (2*k)++[iD x.1,iD x.2]++(c.flatMap fun p=>[iD p.1,iD p.2]).drop (2*k+2):=by
 rw[HS,show 2*k+2=2*(k+1) by omega,AA,List.set_eq_take_append_cons_drop,if_pos h]
 simp
theorem C8 {c:ar}{k:Nat} (h:k<c.length) (x:Int×Int):eE ((c.flatMap fun p=>[iD p.1,iD p.2]).map V.d) (k*2) [.d (iD x.1),.d (iD x.2)]=((c.set k x).flatMap fun p=>[iD p.1,iD p.2]).map V.d:=by
 rw[JW h,Nat.mul_comm k 2]
 unfold eE
 simp
theorem LM (b a:Nat) (p:ai) (cT:Int) (re:Re) (ext:List D) (hn:1≤re.n) (WK:re.n≤9) {c:ar} (hc:p.ak=some c) (hl:c.length=9):br prog 89 [i64 p.at_,.d (dK p.ak),.d (p.todo.d b a),.bx (i64 cT),.bx (.d (di re ext))] (dH b a { p with ak:=some (c.set (re.n-1).toNat (cT,p.at_)) } true):=by
 have hput:=C8 (c:=c) (k:=(re.n-1).toNat) (by omega) (cT,p.at_)
 have cK:=xI hl
 have hr:dK (some (c.set (re.n-1).toNat (cT,p.at_)))=.el ((c.set (re.n-1).toNat (cT,p.at_)).flatMap fun p=>[iD p.1,iD p.2]):=rfl
 have AU:dK p.ak=.el (c.flatMap fun p=>[iD p.1,iD p.2]):=by rw[hc];rfl
 generalize ((c.set (re.n-1).toNat (cT,p.at_)).flatMap fun p=>[iD p.1,iD p.2])=C' at *
 generalize (c.flatMap fun p=>[iD p.1,iD p.2])=C at *
 have vf:List.take 18 (C.map V.d)=C.map V.d:=Xv (by rw[W1];omega)
 have wn:IntKind.i64.wrap (re.n-1)=re.n-1:=bU _ (by omega)
 have n0:(0:Int)≤re.n-1:=by omega
 have n9:re.n-1<((9:Nat):Int):=by omega
 have St:(re.n-1).toNat*2≤16:=by omega
 unfold eE at hput
 simp only[iD,W3,Xa,Xi,Nat.reduceAdd]at hput
 have hz:=fun (cE:Nat) (s:List VL.Obj)=>ln 6 cE s C'
 refine aw func89 rfl ntmps89 results89 rfl 0 1823 (by simp) (by simp) ?_
 simp only[zX,Nat.reduceShiftRight,Nat.reduceMod,Nat.reduceLT,Nat.reduceMul,Nat.reduceSub,Int.reduceToNat,Int.reduceNeg,Int.reduceLT,Int.reduceLE,Int.reduceEq,Nat.reduceEqDiff,Nat.reduceAdd,Nat.reduceLeDiff,reduceIte,reduceCtorEq,Nat.reduceBEq,i64,bV,dH,ai.v,ai.cells,iD,bc,WU,WV,AU,hr,di,Re.ae re,WR,WS,vf,cK,W1]
 refine aq mix [] [(8,[1],[]),(9,[1],[1])] (by rfl) ?_
 simp only[zX,Nat.reduceShiftRight,Nat.reduceMod,Nat.reduceLT,Nat.reduceMul,Nat.reduceSub,Int.reduceToNat,Int.reduceNeg,Int.reduceLT,Int.reduceLE,Int.reduceEq,Nat.reduceEqDiff,Nat.reduceAdd,Nat.reduceLeDiff,reduceIte,reduceCtorEq,Nat.reduceBEq,i64,bV,dH,ai.v,ai.cells,iD,bc,WU,WV,cK,W1,wn,n0,n9,St,Xi,hput,hz]
theorem I8 (g b a:Nat) (m:bp) (re:Re) (ext:List D) (p:ai) (hq:¬p.at_<m.t.length):av prog 58 [.pp 0 g 0 0 b a,.d (di re ext),p.v b a] (m.au g b a) fun v s=>v=dH b a .zero false∧s=m.au g b a:=by
 have EM:(m.t.length:Int)≤p.at_:=by omega
 have hM:=b9 m b a 3
 unfold bp.au
 refine aw func58 rfl ntmps58 results58 rfl 3 15032387047 (by simp) (by simp) ?_
 simp only[zX,Nat.reduceShiftRight,Nat.reduceMod,Nat.reduceLT,Nat.reduceMul,Nat.reduceSub,Int.reduceToNat,Int.reduceNeg,Int.reduceLT,Int.reduceLE,Int.reduceEq,Nat.reduceEqDiff,Nat.reduceAdd,Nat.reduceLeDiff,reduceIte,reduceCtorEq,Nat.reduceBEq,i64,bV,iD,dH,ai.v,ai.cells,WU,WV,aB]
 refine aq mix [] [] (by rfl) ?_
 simp only[zX,Nat.reduceShiftRight,Nat.reduceMod,Nat.reduceLT,Nat.reduceMul,Nat.reduceSub,Int.reduceToNat,Int.reduceNeg,Int.reduceLT,Int.reduceLE,Int.reduceEq,Nat.reduceEqDiff,Nat.reduceAdd,Nat.reduceLeDiff,reduceIte,reduceCtorEq,Nat.reduceBEq,i64,bV,iD,ge_iff_le,W1,EM,dH,ai.zero,ai.v,ai.cells,dK,aF.d,WU,WV]
 exact hM
end Go.Proofs.YtmihcpdhcillaaaGreat
