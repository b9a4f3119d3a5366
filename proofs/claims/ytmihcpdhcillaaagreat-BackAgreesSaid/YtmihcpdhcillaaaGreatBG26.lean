/- A part of the proof (S10 S11). -/
import Derived.Test.YtmihcpdhcillaaaGreatBG25
set_option linter.unusedSimpArgs false
set_option linter.unusedVariables false
set_option maxRecDepth 100000
set_option maxHeartbeats 80000000
namespace Go.Proofs.YtmihcpdhcillaaaGreat
open Go.VL Go.Proofs.Tryz
theorem KY (g b a:Nat) {m m':bp}{re kid:Re}{l:List Re} (ext:List D) {p q:ai}{f:Bool} (hk:re.kids=kid::l) (h:cY.wp g b a m m' q f (.first { p with todo:=.tree kid [] .nil })) :
  eY 66 [.pp 0 g 0 0 b a,.d (di re ext),p.v b a] g b a m m' { q with todo:=p.todo } f:=by
 have hs:=fun ext K=>eY.mq h rfl rfl (ext:=ext) (K:=K)
 have hM:=b9 m' b a 3
 have hput:=fun ext K=>NW g b a m kid .nil (ext:=ext) (K:=K)
 have KQ:=zJ b a q f p.todo
 unfold eY
 unfold bp.au at *
 simp only[i64,bV,iD,WU,WV,ai.cells,ai.v,dH,di,aF.d,Xk]at hs hput KQ
 have l3:(0:Int)<((l.length+1:Nat):Int):=by omega
 refine aw func66 rfl ntmps66 results66 rfl 3 999 (by simp) (by simp) ?_
 simp only[zX,simprocAttr,i64,bV,iD,dH,ai.v,ai.cells,WU,WV]
 refine aH bM.aP ?_
 refine aq mix [] [(1,[3],[]),(2,[3],[]),(3,[3],[]),(4,[3],[]),(8,[],[]),(9,[],[]),(10,[],[]),(11,[0,1,2],[]),(13,[0,1,2],[0,1,2]),(17,[5],[5]),(18,[5],[5])] (by rfl) ?_
 simp only[zX,simprocAttr,i64,bV,iD,dH,ai.v,ai.cells,WU,WV,WR,WS,W1,di,Re.ae re,hk,W3,l3]
 refine hput _ _ ?_
 simp only[zX,simprocAttr,i64,bV,iD,dH,ai.v,ai.cells,WU,WV,WR,WS]
 refine hs _ _ ?_
 simp only[zX,simprocAttr,i64,bV,iD,dH,ai.v,ai.cells,WU,WV,WR,WS,hole,mP]
 refine aD KQ (by simp [ao,ao.go,ay,i64,bV,bT]) (by simp [ao,ao.go,ay,i64,bV,bT]) ?_
 simp only[zX,simprocAttr,i64,bV,iD,dH,ai.v,ai.cells,WU,WV,WR,WS]
 exact hM
theorem Eo (g b a:Nat) (m:bp) (re:Re) (ex:List D) (k:Int) {ext:List VL.Obj}{K:V→List VL.Obj→Prop} (hk:K (.d (dW b a re ex k)) (m.au g b a++ext)) :
  mq prog [0,1,2] [] 87 [.pp 0 g 0 0 b a,.d (di re ex),i64 k] (m.au g b a++ext) K:=by
 refine⟨.d (dW b a re ex k),[],rfl,fun s' hl hr=>?_,hk⟩
 have e:=Eh hl hr
 have hp:=dX (uT g b a m re ex k) rfl rfl rfl (s'.drop 3)
 rw[← e]at hp
 exact hp
theorem Ku (g b a:Nat) (m:bp) (re:Re) (ext:List D) (p:ai) (hm:re.mode≠2):eY 61 [.pp 0 g 0 0 b a,.d (di re ext),p.v b a] g b a m m { p with todo:=.round re ext 0 p.todo } true:=by
 have hM:=b9 m b a 3
 have dg:=fun ex K=>Eo g b a m re ext 0 (ext:=ex) (K:=K)
 unfold eY
 unfold bp.au at *
 simp only[i64,bV,iD,WU,WV,ai.cells,ai.v,dH,di,aF.d,Xk,Re.ae re,WR,WS]at dg
 refine aw func61 rfl ntmps61 results61 rfl 3 999 (by simp) (by simp) ?_
 simp only[zX,simprocAttr,i64,bV,iD,dH,ai.v,ai.cells,WU,WV,di,Re.ae re,WR,WS,hm]
 refine aH bM.aP ?_
 refine aq mix [] [(2,[0,1,2],[]),(3,[3],[]),(4,[3],[]),(6,[5],[5]),(7,[3],[]),(8,[3,5],[3])] (by rfl) ?_
 simp only[zX,simprocAttr,i64,bV,iD,dH,ai.v,ai.cells,WU,WV,WR,WS,W1,hole]
 refine dg _ _ ?_
 simp only[zX,simprocAttr,i64,bV,iD,dH,ai.v,ai.cells,WU,WV,WR,WS,hole]
 exact⟨hM,rfl⟩
theorem iK {P:Program}{f:FuncId}{args:List V}{n:Nat}{s s1 os:List VL.Obj}{rd wr:List Nat}{r:V}{K:V→List VL.Obj→Prop} (h:∀tl,av P f args (s.take n++tl) fun v Ar=>v=r∧Ar=s1++tl) (Sz:∀i,i<n→i∈rd) (hl:os.length=wr.length)
  (hput:∀tl,aZ (s.take n++tl) wr os=s1++tl) (hk:K r (s1++s.drop n)):mq P rd wr f args s K:=by
 refine⟨r,os,hl,fun s' y7 hr=>?_,?_⟩
 ·have e:s'=s.take n++s'.drop n:=by
   conv=>lhs;rw[← List.take_append_drop n s']
   congr 1
   apply List.ext_getElem?
   intro i
   rw[Xr,Xr]
   by_cases hi:i<n
   ·rw[if_pos hi,if_pos hi];exact hr i (Sz i hi)
   ·rw[if_neg hi,if_neg hi]
  have:=h (s'.drop n)
  rw[← e]at this
  refine aj this fun v Ar hv=>⟨hv.1,?_⟩
  rw[hv.2,← hput,← e]
 ·have:aZ s wr os=s1++s.drop n:=by rw[← hput,List.take_append_drop]
  rw[this];exact hk
theorem Ll (g b a:Nat) {m m':bp}{re:Re}{ext:List D}{p q:ai}{f:Bool} (hm:re.mode=2) (h:cY.wp g b a m m' q f (.first { p with todo:=.round re ext 0 .nil })) :
  eY 61 [.pp 0 g 0 0 b a,.d (di re ext),p.v b a] g b a m m' { q with todo:=p.todo } f:=by
 have hM:=b9 m' b a 3
 have yT:=eq_true hm
 have dg:=fun ex K=>Eo g b a m re ext 0 (ext:=ex) (K:=K)
 have hs:=fun ext=>eY.ext h rfl rfl ext
 have KQ:=zJ b a q f p.todo
 unfold eY
 unfold bp.au at *
 simp only[i64,bV,iD,WU,WV,ai.cells,ai.v,dH,di,aF.d,Xk,Re.ae re,WR,WS]at dg hs KQ
 refine aw func61 rfl ntmps61 results61 rfl 3 999 (by simp) (by simp) ?_
 simp only[zX,simprocAttr,i64,bV,iD,dH,ai.v,ai.cells,WU,WV,di,Re.ae re,WR,WS,yT]
 refine aH (bM.aP.trans bM.aP) ?_
 refine aq mix [] [(1,[3],[]),(2,[3],[]),(3,[3],[]),(4,[3],[]),(7,[0,1,2],[]),(9,[5],[5]),(11,[0,1,2,3,4,5],[0,1,2,5]),(15,[6],[6]),(16,[6],[6])] (by rfl) ?_
 simp only[zX,simprocAttr,i64,bV,iD,dH,ai.v,ai.cells,WU,WV,WR,WS,W1,hole]
 refine dg _ _ ?_
 simp only[zX,simprocAttr,i64,bV,iD,dH,ai.v,ai.cells,WU,WV,WR,WS,hole]
 refine iK (n:=6) (r:=dH b a q f) (os:=((m'.au g b a)++[⟨1,false,2,[[.d (dW b a re ext 0),.d (.sc (.pointer none))]]⟩])) (s1:=m'.au g b a++[gq b a p,dM,⟨1,false,2,[[.d (dW b a re ext 0),.d (.sc (.pointer none))]]⟩]) (fun tl=>?_) (by decide) (by rfl) (fun tl=>by rfl) ?_
 ·simp only[List.take,WR,WS]
  refine aO [5] (by simp [aM,bf,aR.go,aR,bN];rfl) ?_
  simp only[aM,bf,W9,Xy,Xl,Xh]
  exact hs _
 unfold bp.au gq dM
 simp only[zX,simprocAttr,i64,bV,iD,dH,ai.v,ai.cells,WU,WV,WR,WS,hole,List.drop]
 refine aD KQ (by simp [ao,ao.go,ay,i64,bV,bT]) (by simp [ao,ao.go,ay,i64,bV,bT]) ?_
 simp only[zX,simprocAttr,i64,bV,iD,dH,ai.v,ai.cells,WU,WV,WR,WS]
 exact hM
def Sf (n:Nat):Prop:=∀j,j<n→∀(task:cY) (m m':bp) (r:ai) (f:Bool),fG j task m m' r f→∀g b a,cY.wp g b a m m' r f task
def kO (b a:Nat) (p:ai):VL.Obj:=⟨0,false,3,[[.d (iD p.at_),.d (dK p.ak),.d (p.todo.d b a)]]⟩
theorem FJ {n k:Nat} (ih:Sf n) (uY:k<n) (g b a:Nat) {m m':bp}{re kid:Re}{l:List Re} (ext:List D) {p r:ai}{f:Bool} (hk:re.kids=kid::l) (hp:0≤p.at_) (Ef:p.at_≤1000000) (h:fG k (.behind re kid p (p.at_.toNat+1)) m m' r f) :
  eY 65 [.pp 0 g 0 0 b a,.d (di re ext),p.v b a] g b a m m' r f:=by
 have hM:=b9 m' b a 3
 have l3:(0:Int)<((l.length+1:Nat):Int):=by omega
 have T0:di re ext=.el ([iD re.op,.sl (re.set.map aT),.sl (re.kids.map Re.cells),iD re.mn,iD re.mx,iD re.mode,iD re.n,bD re.neg]++ext):=by unfold di;rw[Re.ae re]
 unfold eY
 unfold bp.au
 refine aw func65 rfl ntmps65 results65 rfl 3 4071 (by simp) (by simp) ?_
 simp only[zX,simprocAttr,i64,bV,iD,dH,ai.v,ai.cells,WU,WV]
 refine aX (fun n e s=>∃(j:Nat) (m1:bp),n≤k∧j≤1000001∧e 0=.pp 0 g 0 0 b a∧e 1=.d (di re ext)∧e 5=.d (.el [iD p.at_,dK p.ak,p.todo.d b a])∧e 6=.rf 4 0 0 0∧e 8=.d (.cl (.func 92) [] [.el [iD p.at_,dK p.ak,p.todo.d b a]])∧e 9=i64 ((j:Int)-1)∧s=m1.au g b a++[kO b a p,dM]∧fG n (.behind re kid p j) m1 m' r f)
  ⟨_,_,_,dw.freeze [3] [5,8],p.at_.toNat+1,m,W4 _,by omega,?_,?_,?_,?_,?_,?_,?_,h⟩ ?_
 ·simp [fq,aM,bf,ni,bW,ba,aR,i64,iu]
 ·simp [fq,aM,bf,ni,bW,ba,aR,i64,iu]
 ·simp [fq,aM,bf,ni,bW,ba,aR,bN,i64,iD]
 ·simp [fq,aM,bf,ni,bW,ba,aR,i64]
 ·simp [fq,aM,bf,ni,bW,ba,aR,aR.go,bN,i64,iD]
 ·have:((p.at_.toNat+1:Nat):Int)-1=p.at_:=by omega
  rw[this]
  simp [fq,aM,bf,ni,bW,ba,aR,i64]
 ·rfl
 clear h
 rintro n1 e s ⟨j,m1,fY,hj,h0,h1,h5,h6,h8,h9,rfl,hb⟩
 simp only[iD]at h5 h8
 have KT:=fun q f=>Dl b a re ext p q f
 have Um:∀{K:VL.Env→List VL.Obj→Prop},True:=fun {_}=>trivial
 cases hb with
 |tU jk =>
  have rC:=KT .zero false
  unfold bp.au kO dM
  simp only[i64,bV,iD,WU,WV,ai.cells,ai.v,ai.zero,dH,dK,aF.d]at rC
  by_cases hz:j=0
  ·subst hz
   have h9:e 9=i64 (-1):=h9
   simp only[zX,simprocAttr,i64,bV,iD,dH,ai.v,ai.cells,WU,WV,WR,WS,ge_iff_le,h0,h1,h5,h6,h8,h9]
   refine aD rC (by simp [ao,ao.go,ay,i64,bV,bT]) (by simp [ao,ao.go,ay,i64,bV,bT]) ?_
   unfold mW
   simp only[zX,simprocAttr,i64,bV,iD,dH,ai.v,ai.cells,WU,WV,WR,WS,h0,h1,h5,h6,h8,h9]
   exact⟨hM,rfl⟩
  ·have dr:m'.aK=true:=jk.resolve_left hz
   have l0:(0:Int)≤(j:Int)-1:=by omega
   simp only[zX,simprocAttr,i64,bV,iD,dH,ai.v,ai.cells,WU,WV,WR,WS,ge_iff_le,h0,h1,h5,h6,h8,h9,l0,dr,WY]
   refine aD rC (by simp [ao,ao.go,ay,i64,bV,bT]) (by simp [ao,ao.go,ay,i64,bV,bT]) ?_
   unfold mW
   simp only[zX,simprocAttr,i64,bV,iD,dH,ai.v,ai.cells,WU,WV,WR,WS,h0,h1,h5,h6,h8,h9]
   exact⟨hM,rfl⟩
 |@nQ _ k1 j _ _ _ _ _ q jT hs hf =>
  have hw:=ih _ (by omega) _ _ _ _ _ hf g b a
  have hF:=fun ext K=>eY.mq hw rfl rfl (ext:=ext) (K:=K)
  have hput:=fun ext=>dX (iV g b a m1 kid [] (.here p.at_ p.ak p.todo .nil)) rfl rfl rfl ext
  have e9:((j+1:Nat):Int)-1=(j:Int):=by omega
  rw[e9]at h9
  have l0:(0:Int)≤(j:Int):=by omega
  unfold bp.au kO dM at *
  simp only[i64,bV,iD,WU,WV,ai.cells,ai.v,dH,aF.d,di,Xk,WR,WS,hs]at hput hF
  simp only[zX,simprocAttr,i64,bV,iD,dH,ai.v,ai.cells,WU,WV,WR,WS,ge_iff_le,h0,h1,h5,h6,h8,h9,l0,hs,W0]
  refine aH (bM.aP.trans bM.aP) ?_
  refine aq mix [] [(2,[],[]),(3,[],[]),(7,[],[]),(8,[],[]),(9,[],[]),(12,[5],[5]),(13,[0,1,2,3,4,5],[5]),(15,[0,1,2],[0,1,2]),(19,[6],[6]),(20,[6],[6])] (by rfl) ?_
  simp only[zX,simprocAttr,i64,bV,iD,dH,ai.v,ai.cells,WU,WV,WR,WS,T0,h0,h1,h5,h6,h8,h9,hk,l3,hole,W3,W1]
  refine iK (n:=6) (r:=.d ((aF.tree kid [] (aF.here p.at_ p.ak p.todo .nil)).d b a)) (os:=[⟨1,false,2,[[.d (.cl (.func 92) [] [.el [.sc (.int .i64 p.at_),dK p.ak,p.todo.d b a]]),.d (.sc (.pointer none))]]⟩]) (s1:=m1.au g b a++[kO b a p,dM,⟨1,false,2,[[.d (.cl (.func 92) [] [.el [.sc (.int .i64 p.at_),dK p.ak,p.todo.d b a]]),.d (.sc (.pointer none))]]⟩]) (fun tl=>?_) (by decide) (by rfl) (fun tl=>by unfold bp.au kO dM;rw[hs];rfl) ?_
  ··simp only[List.take,WR,WS]
    refine aO [5] (by simp [aM,bf,aR.go,aR,bN];rfl) ?_
    simp only[aM,bf,W9,Xy,Xl,Xh]
    refine aj (hput _) ?_
    rintro v s' ⟨rfl,rfl⟩
    refine⟨by simp only[aF.d,di,Xk,iD],?_⟩
    unfold bp.au kO dM;rw[hs];rfl
  unfold bp.au kO dM
  simp only[zX,simprocAttr,i64,bV,iD,dH,ai.v,ai.cells,WU,WV,WR,WS,List.drop,h0,h1,h5,h6,h8,h9,hole,hs,aF.d,di,Xk]
  refine hF _ _ ?_
  simp only[zX,simprocAttr,i64,bV,iD,dH,ai.v,ai.cells,WU,WV,WR,WS,h0,h1,h5,h6,h8,h9,hole]
  have rC:=KT q true
  simp only[i64,bV,iD,WU,WV,ai.cells,ai.v,dH,WY]at rC
  refine aD rC (by simp [ao,ao.go,ay,i64,bV,bT]) (by simp [ao,ao.go,ay,i64,bV,bT]) ?_
  unfold mW
  simp only[zX,simprocAttr,i64,bV,iD,dH,ai.v,ai.cells,WU,WV,WR,WS,h0,h1,h5,h6,h8,h9]
  first|exact hM|exact⟨hM,rfl⟩
 |@ov _ k1 k2 j _ m2 _ _ _ _ q _ _ jT od hs hf h2 =>
  have hw:=ih _ (by omega) _ _ _ _ _ hf g b a
  have hF:=fun ext K=>eY.mq hw rfl rfl (ext:=ext) (K:=K)
  have hput:=fun ext=>dX (iV g b a m1 kid [] (.here p.at_ p.ak p.todo .nil)) rfl rfl rfl ext
  have e9:((j+1:Nat):Int)-1=(j:Int):=by omega
  rw[e9]at h9
  have l0:(0:Int)≤(j:Int):=by omega
  unfold bp.au kO dM at *
  simp only[i64,bV,iD,WU,WV,ai.cells,ai.v,dH,aF.d,di,Xk,WR,WS,hs]at hput hF
  simp only[zX,simprocAttr,i64,bV,iD,dH,ai.v,ai.cells,WU,WV,WR,WS,ge_iff_le,h0,h1,h5,h6,h8,h9,l0,hs,W0]
  refine aH (bM.aP.trans bM.aP) ?_
  refine aq mix [] [(2,[],[]),(3,[],[]),(7,[],[]),(8,[],[]),(9,[],[]),(12,[5],[5]),(13,[0,1,2,3,4,5],[5]),(15,[0,1,2],[0,1,2]),(19,[6],[6]),(20,[6],[6])] (by rfl) ?_
  simp only[zX,simprocAttr,i64,bV,iD,dH,ai.v,ai.cells,WU,WV,WR,WS,T0,h0,h1,h5,h6,h8,h9,hk,l3,hole,W3,W1]
  refine iK (n:=6) (r:=.d ((aF.tree kid [] (aF.here p.at_ p.ak p.todo .nil)).d b a)) (os:=[⟨1,false,2,[[.d (.cl (.func 92) [] [.el [.sc (.int .i64 p.at_),dK p.ak,p.todo.d b a]]),.d (.sc (.pointer none))]]⟩]) (s1:=m1.au g b a++[kO b a p,dM,⟨1,false,2,[[.d (.cl (.func 92) [] [.el [.sc (.int .i64 p.at_),dK p.ak,p.todo.d b a]]),.d (.sc (.pointer none))]]⟩]) (fun tl=>?_) (by decide) (by rfl) (fun tl=>by unfold bp.au kO dM;rw[hs];rfl) ?_
  ··simp only[List.take,WR,WS]
    refine aO [5] (by simp [aM,bf,aR.go,aR,bN];rfl) ?_
    simp only[aM,bf,W9,Xy,Xl,Xh]
    refine aj (hput _) ?_
    rintro v s' ⟨rfl,rfl⟩
    refine⟨by simp only[aF.d,di,Xk,iD],?_⟩
    unfold bp.au kO dM;rw[hs];rfl
  unfold bp.au kO dM
  simp only[zX,simprocAttr,i64,bV,iD,dH,ai.v,ai.cells,WU,WV,WR,WS,List.drop,h0,h1,h5,h6,h8,h9,hole,hs,aF.d,di,Xk]
  refine hF _ _ ?_
  simp only[zX,simprocAttr,i64,bV,iD,dH,ai.v,ai.cells,WU,WV,WR,WS,h0,h1,h5,h6,h8,h9,hole]
  refine⟨k2,_,_,by omega,dw.cut (s':=m2.au g b a++[kO b a p,dM]) 5 (by omega) rfl ?_ [0,1,5,6,8,9] ?_,j,m2,by omega,by omega,?_,?_,?_,?_,?_,?_,rfl,h2⟩ <;> (try simp only[zU,Nat.reduceBEq,Nat.reduceShiftRight,Nat.reduceMod,Nat.reduceEqDiff,reduceIte])
  ·rw[XI,la g b a m2 5 (by omega)];rfl
  ·simp [bW,ba,ao,i64,h0,h1,h5,h6,h8,h9]
  ·exact h0
  ·rw[h1,T0,hk];rfl
  ·exact h5
  ·exact h6
  ·exact h8
  ·rw[bU _ (by omega)]
end Go.Proofs.YtmihcpdhcillaaaGreat
