/- A part of the proof (S12 S13). -/
import Derived.Test.YtmihcpdhcillaaaGreatBG26
set_option linter.unusedSimpArgs false
set_option linter.unusedVariables false
set_option maxRecDepth 100000
set_option maxHeartbeats 80000000
namespace Go.Proofs.YtmihcpdhcillaaaGreat
open Go.VL Go.Proofs.Tryz
theorem ey {m:bp} (h:m.steps<m.fuel):m.step={ m with steps:=m.steps+1 }:=by unfold bp.step;rw[if_neg (by omega)]
theorem kE (e0:V) (re:Re) (ext:List D):cX e0 (di re ext)=.d (di re ext):=by
 unfold di;rw[Re.ae re];simp only[WR,nw]
theorem Kk (o:Int) (h0:0≤o) (h1:o≤11):((rH .i64 E9).bind fun l=>rz l o)=some (.func (HN o)):=by
 have:o=0∨o=1∨o=2∨o=3∨o=4∨o=5∨o=6∨o=7∨o=8∨o=9∨o=10∨o=11:=by omega
 rcases this with rfl|rfl|rfl|rfl|rfl|rfl|rfl|rfl|rfl|rfl|rfl|rfl <;> rfl
theorem KW (g b a:Nat) {m m':bp}{x:Int}{c:Option ar}{re:Re}{ext:List D}{nx:aF}{r:ai}{f:Bool} (hg:er m ⟨x,c,.tree re ext nx⟩) (ho:re.op≠4) (hf:m.steps<m.fuel) (Tk:0≤re.op) (Te:re.op≤11)
  (h:cY.wp g b a m.step m' r f (.op re ext ⟨x,c,nx⟩)):cY.wp g b a m m' r f (.call ⟨x,c,.tree re ext nx⟩):=by
 have hM:=b9 m' b a 3
 have hs:=fun ex=>eY.ext h rfl rfl ex
 have db:=fun ex=>dX (lO g b a m hg.s0 hg.s1) rfl rfl rfl ex
 have uj:decide (m.steps<m.fuel)=true:=decide_eq_true hf
 rw[ey hf]at hs db
 rw[uj]at db
 unfold cY.wp eY aF.fn aF.bound aF.next
 simp only[dp,dS,ej,kE,mP,eZ]
 unfold bp.au at *
 simp only[i64,bV,iD,WU,WV,ai.cells,ai.v,di,Xk,Re.ae re,WR,WS]at hs db
 refine aw func69 rfl ntmps69 results69 rfl 3 799 (by simp) (by simp) ?_
 simp only[zX,simprocAttr,i64,bV,iD,bc,di,Re.ae re,WR,WS,ho,ne_eq,not_false_eq_true]
 refine aj (db _) (fun v s' hv=>?_);obtain⟨rfl,rfl⟩:=hv
 simp only[zX,simprocAttr,i64,bV,iD,bc,di,Re.ae re,WR,WS,WY]
 refine aq mix [15] [(3,[0],[]),(18,[3],[3])] (by rfl) ?_
 simp only[zX,simprocAttr,i64,bV,iD,bc,di,Re.ae re,WR,WS,ki,Kj,Kk re.op Tk Te]
 refine bu (hs _) ?_
 simp only[zX,simprocAttr,i64,bV,iD,bc,dH,ai.v,ai.cells,WU,WV,WR,WS]
 exact hM
theorem MK (g b a:Nat) {m m':bp}{x:Int}{c:Option ar}{re:Re}{ext:List D}{nx:aF}{r:ai}{f:Bool} (ho:re.op=4) (h:cY.wp g b a m m' r f (.op re ext ⟨x,c,nx⟩)):cY.wp g b a m m' r f (.call ⟨x,c,.tree re ext nx⟩):=by
 have hM:=b9 m' b a 3
 have hs:=fun ex=>eY.ext h rfl rfl ex
 have VI:=eq_true ho
 have Rh:=Kk re.op (by omega) (by omega)
 unfold cY.wp eY aF.fn aF.bound aF.next
 simp only[dp,dS,ej,kE,mP,eZ]
 unfold bp.au at *
 simp only[i64,bV,iD,WU,WV,ai.cells,ai.v,di,Xk,Re.ae re,WR,WS]at hs
 refine aw func69 rfl ntmps69 results69 rfl 3 799 (by simp) (by simp) ?_
 simp only[zX,simprocAttr,i64,bV,iD,bc,di,Re.ae re,WR,WS,VI,ne_eq,not_true_eq_false]
 refine aq mix [15] [(3,[0],[]),(18,[3],[3])] (by rfl) ?_
 simp only[zX,simprocAttr,i64,bV,iD,bc,di,Re.ae re,WR,WS,ki,Kj,Rh]
 refine bu (hs _) ?_
 simp only[zX,simprocAttr,i64,bV,iD,bc,dH,ai.v,ai.cells,WU,WV,WR,WS]
 exact hM
theorem mJ {m:bp} (h:m.fuel≤m.steps):m.step={ m with aK:=true }:=by unfold bp.step;rw[if_pos h]
theorem CZ (g b a:Nat) {m:bp}{x:Int}{c:Option ar}{re:Re}{ext:List D}{nx:aF} (hg:er m ⟨x,c,.tree re ext nx⟩) (ho:re.op≠4) (hf:m.fuel≤m.steps):cY.wp g b a m m.step .zero false (.call ⟨x,c,.tree re ext nx⟩):=by
 have hM:=b9 m b a 3
 have db:=fun ex=>dX (lO g b a m hg.s0 hg.s1) rfl rfl rfl ex
 have uj:decide (m.steps<m.fuel)=false:=decide_eq_false (by omega)
 rw[mJ hf]at db ⊢
 rw[uj]at db
 unfold cY.wp eY aF.fn aF.bound aF.next
 simp only[dp,dS,ej,kE,mP,eZ]
 unfold bp.au at *
 simp only[i64,bV,iD,WU,WV,ai.cells,ai.v,di,Xk,Re.ae re,WR,WS]at db
 refine aw func69 rfl ntmps69 results69 rfl 3 799 (by simp) (by simp) ?_
 simp only[zX,simprocAttr,i64,bV,iD,bc,di,Re.ae re,WR,WS,ho,ne_eq,not_false_eq_true]
 refine aj (db _) (fun v s' hv=>?_);obtain⟨rfl,rfl⟩:=hv
 simp only[zX,simprocAttr,i64,bV,iD,bc,di,Re.ae re,WR,WS,W0,dH,ai.v,ai.cells,ai.zero,dK,aF.d,WU,WV]
 exact hM
theorem BJ (g b a:Nat) {m:bp}{x:Int}{c:Option ar}{re:Re}{ext:List D}{k:Int}{nx:aF} (hg:er m ⟨x,c,.round re ext k nx⟩) (hf:m.fuel≤m.steps):cY.wp g b a m m.step .zero false (.call ⟨x,c,.round re ext k nx⟩):=by
 have hM:=b9 m b a 3
 have db:=fun ex=>dX (lO g b a m hg.s0 hg.s1) rfl rfl rfl ex
 have uj:decide (m.steps<m.fuel)=false:=decide_eq_false (by omega)
 rw[mJ hf]at db ⊢
 rw[uj]at db
 unfold cY.wp eY aF.fn aF.bound aF.next
 simp only[dp,dS,ej,kE,mP,eZ]
 unfold bp.au at *
 simp only[i64,bV,iD,WU,WV,ai.cells,ai.v,di,Xk,Re.ae re,WR,WS]at db
 refine aw func102 rfl ntmps102 results102 rfl 3 65151 (by simp) (by simp) ?_
 simp only[zX,simprocAttr,i64,bV,iD,bc,di,Re.ae re,WR,WS,ne_eq,not_false_eq_true]
 refine aj (db _) (fun v s' hv=>?_);obtain⟨rfl,rfl⟩:=hv
 simp only[zX,simprocAttr,i64,bV,iD,bc,di,Re.ae re,WR,WS,W0,dH,ai.v,ai.cells,ai.zero,dK,aF.d,WU,WV]
 exact hM
theorem bM.BP {e:VL.Env}{s:List VL.Obj} (ids:List Nat) (t:Nat) {v:V} (h:aR (aM s ids).length (aM s ids) (e t)=some v):bM e s (bW e t v) (aM s ids):=by
 have hc:=bM.freeze (e:=e) (s:=s) ids [t]
 have he:fq (aM s ids) [t] e=bW e t v:=by
  funext x
  unfold fq bW
  by_cases hx:x=t
  ·subst hx;simp [ni,h]
  ·simp [hx]
 rwa [he]at hc
theorem uH (g b a:Nat) (re:Re) (ext:List D) (k:Int):cX (.pp 0 g 0 0 b a) (dW b a re ext k)=.cl (.func 102) [] [.bx (At (.pp 0 g 0 0 b a) b a),.bx (.d (di re ext)),.bx (i64 k)]:=by
 unfold dW
 simp only[xr,dp,dS,ej,kE,mP,eZ,iD,i64,fH]
theorem Br (g b a:Nat) {m:bp}{x:Int}{c:Option ar}{re kid:Re}{l:List Re}{ext:List D}{k:Int}{nx:aF} (hg:er m ⟨x,c,.round re ext k nx⟩) (hk:re.kids=kid::l) (hf:m.steps<m.fuel) (hm:¬k<re.mn) (hx:0≤re.mx) (BI:re.mx≤k) :
  cY.wp g b a m m.step ⟨x,c,nx⟩ true (.call ⟨x,c,.round re ext k nx⟩):=by
 have hM:=b9 m.step b a 3
 have db:=fun ex=>dX (lO g b a m hg.s0 hg.s1) rfl rfl rfl ex
 have uj:decide (m.steps<m.fuel)=true:=decide_eq_true hf
 have l3:(0:Int)<((l.length+1:Nat):Int):=by omega
 rw[ey hf]at db hM ⊢
 rw[uj]at db
 unfold cY.wp eY aF.fn aF.bound aF.next
 simp only[dp,dS,ej,kE,mP,eZ,iD,fH]
 unfold bp.au at *
 simp only[i64,bV,iD,WU,WV,ai.cells,ai.v,di,Xk,Re.ae re,WR,WS]at db
 refine aw func102 rfl ntmps102 results102 rfl 3 65151 (by simp) (by simp) ?_
 simp only[zX,simprocAttr,i64,bV,iD,bc,di,Re.ae re,WR,WS]
 refine aj (db _) (fun v s' hv=>?_);obtain⟨rfl,rfl⟩:=hv
 simp only[zX,simprocAttr,i64,bV,iD,bc,di,Re.ae re,WR,WS,WY,hk,W3,W1,l3]
 refine aq mix [] [] (by rfl) ?_
 simp only[zX,simprocAttr,i64,bV,iD,bc,di,Re.ae re,WR,WS,hm]
 refine aq mix [] [] (by rfl) ?_
 simp only[zX,simprocAttr,i64,bV,iD,bc,di,Re.ae re,WR,WS,ge_iff_le,hx,BI,dH,ai.v,ai.cells,WU,WV]
 exact hM
theorem AR (g b a:Nat) {m:bp}{x:Int}{c:Option ar}{re kid:Re}{l:List Re}{ext:List D}{k:Int}{nx:aF} (hg:er m ⟨x,c,.round re ext k nx⟩) (hk:re.kids=kid::l) (h0:0≤k) (h1:k≤10000000000000) (hf:m.steps<m.fuel) (hm:k<re.mn) :
  cY.wp g b a m m.step ⟨x,c,.tree kid [] (.round re ext (k+1) nx)⟩ true (.call ⟨x,c,.round re ext k nx⟩):=by
 have hM:=b9 m.step b a 3
 have db:=fun ex=>dX (lO g b a m hg.s0 hg.s1) rfl rfl rfl ex
 have uj:decide (m.steps<m.fuel)=true:=decide_eq_true hf
 have l3:(0:Int)<((l.length+1:Nat):Int):=by omega
 have w1:IntKind.i64.wrap (k+1)=k+1:=bU _ (by omega)
 have dg:=fun ex K=>Eo g b a m.step re ext (k+1) (ext:=ex) (K:=K)
 have hput:=fun ex=>dX (iV g b a m.step kid [] (.round re ext (k+1) nx)) rfl rfl rfl ex
 rw[ey hf]at db hM dg hput ⊢
 rw[uj]at db
 unfold cY.wp eY aF.fn aF.bound aF.next
 simp only[dp,dS,ej,kE,mP,eZ,iD,fH]
 unfold bp.au at *
 simp only[i64,bV,iD,WU,WV,ai.cells,ai.v,di,Xk,Re.ae re,WR,WS,aF.d,hk]at db dg hput
 refine aw func102 rfl ntmps102 results102 rfl 3 65151 (by simp) (by simp) ?_
 simp only[zX,simprocAttr,i64,bV,iD,bc,di,Re.ae re,WR,WS]
 refine aj (db _) (fun v s' hv=>?_);obtain⟨rfl,rfl⟩:=hv
 simp only[zX,simprocAttr,i64,bV,iD,bc,di,Re.ae re,WR,WS,WY,hk,W3,W1,l3]
 refine aq mix [] [] (by rfl) ?_
 simp only[zX,simprocAttr,i64,bV,iD,bc,di,Re.ae re,WR,WS,hm]
 refine aH bM.aP ?_
 refine aq mix [] [(0,[3],[]),(8,[0,1,2],[]),(11,[6],[6]),(12,[0,1,2,3,4,5,6],[6]),(14,[4],[4])] (by rfl) ?_
 simp only[zX,simprocAttr,i64,bV,iD,bc,di,Re.ae re,WR,WS,w1,hole]
 refine dg _ _ ?_
 simp only[zX,simprocAttr,i64,bV,iD,bc,di,Re.ae re,WR,WS,w1,hole]
 refine iK (n:=7) (r:=.d ((aF.tree kid [] (aF.round re ext (k+1) nx)).d b a)) (os:=[⟨1,false,2,[[.d (dW b a re ext (k+1)),.d (nx.d b a)]]⟩]) (s1:=m.step.au g b a++[⟨0,true,1,[[.d (.sc (.int .i64 x))]]⟩,dM,gq b a ⟨x,c,nx⟩,⟨1,false,2,[[.d (dW b a re ext (k+1)),.d (nx.d b a)]]⟩]) (fun tl=>?_) (by decide) (by rfl) (fun tl=>by rw[ey hf];rfl) ?_
 ·simp only[List.take,WR,WS]
  refine aO [6] (by simp [aM,bf,aR.go,aR,bN];rfl) ?_
  simp only[aM,bf,W9,Xy,Xl,Xh]
  refine aj (hput _) ?_
  rintro v s' ⟨rfl,rfl⟩
  refine⟨by simp only[aF.d,di,Xk,iD],?_⟩
  rw[ey hf];rfl
 rw[ey hf]
 unfold bp.au gq dM
 simp only[zX,simprocAttr,i64,bV,iD,bc,WR,WS,hole,List.drop,dH,ai.v,ai.cells,WU,WV]
 exact hM
theorem zk (g b a:Nat) {m:bp}{x:Int}{c:Option ar}{re kid:Re}{l:List Re}{ext:List D}{k:Int}{nx:aF} (hg:er m ⟨x,c,.round re ext k nx⟩) (hk:re.kids=kid::l) (h0:0≤k) (h1:k≤10000000000000) (hf:m.steps<m.fuel) (hm:¬k<re.mn) (hx:¬(0≤re.mx∧re.mx≤k)) (ho:re.mode≠1) :
  cY.wp g b a m (m.step.push ⟨x,c,nx⟩) ⟨x,c,.tree kid [] (.dv x re ext (k+1) nx)⟩ true (.call ⟨x,c,.round re ext k nx⟩):=by
 have hM:=b9 (m.step.push ⟨x,c,nx⟩) b a 3
 have db:=fun ex=>dX (lO g b a m hg.s0 hg.s1) rfl rfl rfl ex
 have uj:decide (m.steps<m.fuel)=true:=decide_eq_true hf
 have l3:(0:Int)<((l.length+1:Nat):Int):=by omega
 have w1:IntKind.i64.wrap (k+1)=k+1:=bU _ (by omega)
 have pt:=hg.top
 have P6:=hg.EK
 have iI:min m.top m.cO.length=m.top:=by omega
 have Eg:(re.mode=1)=False:=eq_false ho
 have dg:=fun ex=>dX (uT g b a m.step re ext (k+1)) rfl rfl rfl ex
 have hput:=fun ex=>dX (iV g b a m.step kid [] (.dv x re ext (k+1) nx)) rfl rfl rfl ex
 rw[ey hf]at db hM dg hput ⊢
 rw[uj]at db
 unfold cY.wp eY aF.fn aF.bound aF.next
 simp only[dp,dS,ej,kE,mP,eZ,iD,fH]
 unfold bp.push at *
 unfold bp.au at *
 simp only[i64,bV,iD,WU,WV,ai.cells,ai.v,di,Xk,Re.ae re,WR,WS,aF.d,hk]at db dg hput
 refine aw func102 rfl ntmps102 results102 rfl 3 65151 (by simp) (by simp) ?_
 simp only[zX,simprocAttr,i64,bV,iD,bc,di,Re.ae re,WR,WS]
 refine aj (db _) (fun v s' hv=>?_);obtain⟨rfl,rfl⟩:=hv
 simp only[zX,simprocAttr,i64,bV,iD,bc,di,Re.ae re,WR,WS,WY,hk,W3,W1,l3]
 refine aq mix [] [] (by rfl) ?_
 simp only[zX,simprocAttr,i64,bV,iD,bc,di,Re.ae re,WR,WS,hm]
 refine aq mix [] [] (by rfl) ?_
 by_cases Pr:0≤re.mx
 ·have N2:¬re.mx≤k:=fun h=>hx ⟨Pr,h⟩
  simp only[zX,simprocAttr,i64,bV,iD,bc,di,Re.ae re,WR,WS,ge_iff_le,Pr,N2,w1,hk]
  refine aj (dg _) (fun v s' hv=>?_);obtain⟨rfl,rfl⟩:=hv
  simp only[zX,simprocAttr,i64,bV,iD,bc,di,Re.ae re,WR,WS,nM]
  refine aH ((bM.BP [3,6] 6 (v:=.d (.el [.sc (.int .i64 x)])) (by simp [bW,aM,bf,aR,bN])).trans ((bM.BP [] 14 (v:=.d (.cl (.func 103) [] [.el [.sc (.int .i64 x)],.el [dW b a re ext (k+1)]])) (by simp [bW,aM,bf,aR,aR.go,bN])).trans (bM.aP.trans bM.aP))) ?_
  simp only[aM,bf,W9,Xy,Xl,Xh]
  refine aq mix [] [(0,[],[]),(7,[7],[7]),(8,[0,1,2,3,4,5,6,7],[7]),(10,[8],[8]),(11,[8],[8])] (by rfl) ?_
  simp only[zX,simprocAttr,i64,bV,iD,bc,WR,WS,hole]
  refine iK (n:=8) (r:=.d ((aF.tree kid [] (aF.dv x re ext (k+1) nx)).d b a)) (os:=[⟨1,false,2,[[.d (.cl (.func 103) [] [.el [.sc (.int .i64 x)],.el [dW b a re ext (k+1)]]),.d (nx.d b a)]]⟩]) (s1:=m.step.au g b a++[⟨0,false,1,[[.d (.sc (.int .i64 x))]]⟩,dM,gq b a ⟨x,c,nx⟩,⟨0,false,1,[[.d (dW b a re ext (k+1))]]⟩,⟨1,false,2,[[.d (.cl (.func 103) [] [.el [.sc (.int .i64 x)],.el [dW b a re ext (k+1)]]),.d (nx.d b a)]]⟩]) (fun tl=>?_) (by decide) (by rfl) (fun tl=>by rw[ey hf];rfl) ?_
  ·simp only[List.take,WR,WS]
   refine aO [7] (by simp [aM,bf,aR.go,aR,bN];rfl) ?_
   simp only[aM,bf,W9,Xy,Xl,Xh]
   refine aj (hput _) ?_
   rintro v s' ⟨rfl,rfl⟩
   refine⟨by simp only[aF.d,di,Xk,iD],?_⟩
   rw[ey hf];rfl
  rw[ey hf]
  unfold bp.au gq dM
  simp only[zX,simprocAttr,i64,bV,iD,bc,WR,WS,hole,List.drop,di,Re.ae re,WU,WV,ai.cells,Eg]
  refine aq mix [] [(2,[0],[]),(3,[0],[]),(4,[0],[]),(5,[5],[]),(7,[2],[2]),(8,[0],[]),(9,[0],[]),(10,[0],[0])] (by rfl) ?_
  simp only[zX,simprocAttr,i64,bV,iD,bc,WR,WS,pt,iI,W1,dH,ai.v,ai.cells,WU,WV]
  refine⟨rfl,by simp,⟨by omega,by omega⟩,?_⟩
  refine⟨by simpa only[ai.cells,XC,XR,WU,WV,iD]using hM,?_⟩
  simp only[XC,XR,WU,WV,aF.d,di,Xk,iD,ai.cells]
 ·simp only[zX,simprocAttr,i64,bV,iD,bc,di,Re.ae re,WR,WS,ge_iff_le,Pr,w1,hk]
  refine aj (dg _) (fun v s' hv=>?_);obtain⟨rfl,rfl⟩:=hv
  simp only[zX,simprocAttr,i64,bV,iD,bc,di,Re.ae re,WR,WS,nM]
  refine aH ((bM.BP [3,6] 6 (v:=.d (.el [.sc (.int .i64 x)])) (by simp [bW,aM,bf,aR,bN])).trans ((bM.BP [] 14 (v:=.d (.cl (.func 103) [] [.el [.sc (.int .i64 x)],.el [dW b a re ext (k+1)]])) (by simp [bW,aM,bf,aR,aR.go,bN])).trans (bM.aP.trans bM.aP))) ?_
  simp only[aM,bf,W9,Xy,Xl,Xh]
  refine aq mix [] [(0,[],[]),(7,[7],[7]),(8,[0,1,2,3,4,5,6,7],[7]),(10,[8],[8]),(11,[8],[8])] (by rfl) ?_
  simp only[zX,simprocAttr,i64,bV,iD,bc,WR,WS,hole]
  refine iK (n:=8) (r:=.d ((aF.tree kid [] (aF.dv x re ext (k+1) nx)).d b a)) (os:=[⟨1,false,2,[[.d (.cl (.func 103) [] [.el [.sc (.int .i64 x)],.el [dW b a re ext (k+1)]]),.d (nx.d b a)]]⟩]) (s1:=m.step.au g b a++[⟨0,false,1,[[.d (.sc (.int .i64 x))]]⟩,dM,gq b a ⟨x,c,nx⟩,⟨0,false,1,[[.d (dW b a re ext (k+1))]]⟩,⟨1,false,2,[[.d (.cl (.func 103) [] [.el [.sc (.int .i64 x)],.el [dW b a re ext (k+1)]]),.d (nx.d b a)]]⟩]) (fun tl=>?_) (by decide) (by rfl) (fun tl=>by rw[ey hf];rfl) ?_
  ·simp only[List.take,WR,WS]
   refine aO [7] (by simp [aM,bf,aR.go,aR,bN];rfl) ?_
   simp only[aM,bf,W9,Xy,Xl,Xh]
   refine aj (hput _) ?_
   rintro v s' ⟨rfl,rfl⟩
   refine⟨by simp only[aF.d,di,Xk,iD],?_⟩
   rw[ey hf];rfl
  rw[ey hf]
  unfold bp.au gq dM
  simp only[zX,simprocAttr,i64,bV,iD,bc,WR,WS,hole,List.drop,di,Re.ae re,WU,WV,ai.cells,Eg]
  refine aq mix [] [(2,[0],[]),(3,[0],[]),(4,[0],[]),(5,[5],[]),(7,[2],[2]),(8,[0],[]),(9,[0],[]),(10,[0],[0])] (by rfl) ?_
  simp only[zX,simprocAttr,i64,bV,iD,bc,WR,WS,pt,iI,W1,dH,ai.v,ai.cells,WU,WV]
  refine⟨rfl,by simp,⟨by omega,by omega⟩,?_⟩
  refine⟨by simpa only[ai.cells,XC,XR,WU,WV,iD]using hM,?_⟩
  simp only[XC,XR,WU,WV,aF.d,di,Xk,iD,ai.cells]
theorem ze (g b a:Nat) {m:bp}{x:Int}{c:Option ar}{re kid:Re}{l:List Re}{ext:List D}{k:Int}{nx:aF} (hg:er m ⟨x,c,.round re ext k nx⟩) (hk:re.kids=kid::l) (h0:0≤k) (h1:k≤10000000000000) (hf:m.steps<m.fuel) (hm:¬k<re.mn) (hx:¬(0≤re.mx∧re.mx≤k)) (ho:re.mode=1) :
  cY.wp g b a m (m.step.push ⟨x,c,.tree kid [] (.dv x re ext (k+1) nx)⟩) ⟨x,c,nx⟩ true (.call ⟨x,c,.round re ext k nx⟩):=by
 have hM:=b9 (m.step.push ⟨x,c,.tree kid [] (.dv x re ext (k+1) nx)⟩) b a 3
 have db:=fun ex=>dX (lO g b a m hg.s0 hg.s1) rfl rfl rfl ex
 have uj:decide (m.steps<m.fuel)=true:=decide_eq_true hf
 have l3:(0:Int)<((l.length+1:Nat):Int):=by omega
 have w1:IntKind.i64.wrap (k+1)=k+1:=bU _ (by omega)
 have pt:=hg.top
 have P6:=hg.EK
 have iI:min m.top m.cO.length=m.top:=by omega
 have Eg:(re.mode=1)=True:=eq_true ho
 have dg:=fun ex=>dX (uT g b a m.step re ext (k+1)) rfl rfl rfl ex
 have hput:=fun ex=>dX (iV g b a m.step kid [] (.dv x re ext (k+1) nx)) rfl rfl rfl ex
 rw[ey hf]at db hM dg hput ⊢
 rw[uj]at db
 unfold cY.wp eY aF.fn aF.bound aF.next
 simp only[dp,dS,ej,kE,mP,eZ,iD,fH]
 unfold bp.push at *
 unfold bp.au at *
 simp only[i64,bV,iD,WU,WV,ai.cells,ai.v,di,Xk,Re.ae re,WR,WS,aF.d,hk]at db dg hput
 refine aw func102 rfl ntmps102 results102 rfl 3 65151 (by simp) (by simp) ?_
 simp only[zX,simprocAttr,i64,bV,iD,bc,di,Re.ae re,WR,WS]
 refine aj (db _) (fun v s' hv=>?_);obtain⟨rfl,rfl⟩:=hv
 simp only[zX,simprocAttr,i64,bV,iD,bc,di,Re.ae re,WR,WS,WY,hk,W3,W1,l3]
 refine aq mix [] [] (by rfl) ?_
 simp only[zX,simprocAttr,i64,bV,iD,bc,di,Re.ae re,WR,WS,hm]
 refine aq mix [] [] (by rfl) ?_
 by_cases Pr:0≤re.mx
 ·have N2:¬re.mx≤k:=fun h=>hx ⟨Pr,h⟩
  simp only[zX,simprocAttr,i64,bV,iD,bc,di,Re.ae re,WR,WS,ge_iff_le,Pr,N2,w1,hk]
  refine aj (dg _) (fun v s' hv=>?_);obtain⟨rfl,rfl⟩:=hv
  simp only[zX,simprocAttr,i64,bV,iD,bc,di,Re.ae re,WR,WS,nM]
  refine aH ((bM.BP [3,6] 6 (v:=.d (.el [.sc (.int .i64 x)])) (by simp [bW,aM,bf,aR,bN])).trans ((bM.BP [] 14 (v:=.d (.cl (.func 103) [] [.el [.sc (.int .i64 x)],.el [dW b a re ext (k+1)]])) (by simp [bW,aM,bf,aR,aR.go,bN])).trans (bM.aP.trans bM.aP))) ?_
  simp only[aM,bf,W9,Xy,Xl,Xh]
  refine aq mix [] [(0,[],[]),(7,[7],[7]),(8,[0,1,2,3,4,5,6,7],[7]),(10,[8],[8]),(11,[8],[8])] (by rfl) ?_
  simp only[zX,simprocAttr,i64,bV,iD,bc,WR,WS,hole]
  refine iK (n:=8) (r:=.d ((aF.tree kid [] (aF.dv x re ext (k+1) nx)).d b a)) (os:=[⟨1,false,2,[[.d (.cl (.func 103) [] [.el [.sc (.int .i64 x)],.el [dW b a re ext (k+1)]]),.d (nx.d b a)]]⟩]) (s1:=m.step.au g b a++[⟨0,false,1,[[.d (.sc (.int .i64 x))]]⟩,dM,gq b a ⟨x,c,nx⟩,⟨0,false,1,[[.d (dW b a re ext (k+1))]]⟩,⟨1,false,2,[[.d (.cl (.func 103) [] [.el [.sc (.int .i64 x)],.el [dW b a re ext (k+1)]]),.d (nx.d b a)]]⟩]) (fun tl=>?_) (by decide) (by rfl) (fun tl=>by rw[ey hf];rfl) ?_
  ·simp only[List.take,WR,WS]
   refine aO [7] (by simp [aM,bf,aR.go,aR,bN];rfl) ?_
   simp only[aM,bf,W9,Xy,Xl,Xh]
   refine aj (hput _) ?_
   rintro v s' ⟨rfl,rfl⟩
   refine⟨by simp only[aF.d,di,Xk,iD],?_⟩
   rw[ey hf];rfl
  rw[ey hf]
  unfold bp.au gq dM
  simp only[zX,simprocAttr,i64,bV,iD,bc,WR,WS,hole,List.drop,di,Re.ae re,WU,WV,ai.cells,Eg]
  refine aq mix [] [(2,[0],[]),(3,[0],[]),(4,[0],[]),(5,[8],[]),(7,[2],[2]),(8,[0],[]),(9,[0],[]),(10,[0],[0])] (by rfl) ?_
  simp only[zX,simprocAttr,i64,bV,iD,bc,WR,WS,pt,iI,W1,dH,ai.v,ai.cells,WU,WV]
  refine⟨rfl,by simp,⟨by omega,by omega⟩,?_⟩
  refine⟨by simpa only[ai.cells,XC,XR,WU,WV,iD]using hM,?_⟩
  simp only[XC,XR,WU,WV,aF.d,di,Xk,iD,ai.cells]
 ·simp only[zX,simprocAttr,i64,bV,iD,bc,di,Re.ae re,WR,WS,ge_iff_le,Pr,w1,hk]
  refine aj (dg _) (fun v s' hv=>?_);obtain⟨rfl,rfl⟩:=hv
  simp only[zX,simprocAttr,i64,bV,iD,bc,di,Re.ae re,WR,WS,nM]
  refine aH ((bM.BP [3,6] 6 (v:=.d (.el [.sc (.int .i64 x)])) (by simp [bW,aM,bf,aR,bN])).trans ((bM.BP [] 14 (v:=.d (.cl (.func 103) [] [.el [.sc (.int .i64 x)],.el [dW b a re ext (k+1)]])) (by simp [bW,aM,bf,aR,aR.go,bN])).trans (bM.aP.trans bM.aP))) ?_
  simp only[aM,bf,W9,Xy,Xl,Xh]
  refine aq mix [] [(0,[],[]),(7,[7],[7]),(8,[0,1,2,3,4,5,6,7],[7]),(10,[8],[8]),(11,[8],[8])] (by rfl) ?_
  simp only[zX,simprocAttr,i64,bV,iD,bc,WR,WS,hole]
  refine iK (n:=8) (r:=.d ((aF.tree kid [] (aF.dv x re ext (k+1) nx)).d b a)) (os:=[⟨1,false,2,[[.d (.cl (.func 103) [] [.el [.sc (.int .i64 x)],.el [dW b a re ext (k+1)]]),.d (nx.d b a)]]⟩]) (s1:=m.step.au g b a++[⟨0,false,1,[[.d (.sc (.int .i64 x))]]⟩,dM,gq b a ⟨x,c,nx⟩,⟨0,false,1,[[.d (dW b a re ext (k+1))]]⟩,⟨1,false,2,[[.d (.cl (.func 103) [] [.el [.sc (.int .i64 x)],.el [dW b a re ext (k+1)]]),.d (nx.d b a)]]⟩]) (fun tl=>?_) (by decide) (by rfl) (fun tl=>by rw[ey hf];rfl) ?_
  ·simp only[List.take,WR,WS]
   refine aO [7] (by simp [aM,bf,aR.go,aR,bN];rfl) ?_
   simp only[aM,bf,W9,Xy,Xl,Xh]
   refine aj (hput _) ?_
   rintro v s' ⟨rfl,rfl⟩
   refine⟨by simp only[aF.d,di,Xk,iD],?_⟩
   rw[ey hf];rfl
  rw[ey hf]
  unfold bp.au gq dM
  simp only[zX,simprocAttr,i64,bV,iD,bc,WR,WS,hole,List.drop,di,Re.ae re,WU,WV,ai.cells,Eg]
  refine aq mix [] [(2,[0],[]),(3,[0],[]),(4,[0],[]),(5,[8],[]),(7,[2],[2]),(8,[0],[]),(9,[0],[]),(10,[0],[0])] (by rfl) ?_
  simp only[zX,simprocAttr,i64,bV,iD,bc,WR,WS,pt,iI,W1,dH,ai.v,ai.cells,WU,WV]
  refine⟨rfl,by simp,⟨by omega,by omega⟩,?_⟩
  refine⟨by simpa only[ai.cells,XC,XR,WU,WV,iD]using hM,?_⟩
  simp only[XC,XR,WU,WV,aF.d,di,Xk,iD,ai.cells]
end Go.Proofs.YtmihcpdhcillaaaGreat
