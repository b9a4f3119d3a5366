/- A part of the proof (S14 S15). -/
import Derived.Test.YtmihcpdhcillaaaGreatBG27
set_option linter.unusedSimpArgs false
set_option linter.unusedVariables false
set_option maxRecDepth 100000
set_option maxHeartbeats 80000000
namespace Go.Proofs.YtmihcpdhcillaaaGreat
open Go.VL Go.Proofs.Tryz
theorem KV (g b a:Nat) {m:bp}{x:Int}{c:Option ar}{re:Re}{ext:List D}{k:Int}{nx:aF}:cY.wp g b a m m .zero false (.call ⟨x,c,.dv x re ext k nx⟩):=by
 have hM:=b9 m b a 3
 unfold cY.wp eY aF.fn aF.bound aF.next
 simp only[dp,dS,ej,uH,iD,fH]
 unfold bp.au
 refine aw func103 rfl ntmps103 results103 rfl 3 799 (by simp) (by simp) ?_
 simp only[zX,simprocAttr,i64,bV,iD,bc,dH,ai.v,ai.cells,ai.zero,dK,aF.d,WU,WV]
 exact hM
theorem IE (g b a:Nat) {m m':bp}{x y:Int}{c:Option ar}{re:Re}{ext:List D}{k:Int}{nx:aF}{r:ai}{f:Bool} (hy:x≠y) (h:cY.wp g b a m m' r f (.call ⟨x,c,.round re ext k nx⟩)):cY.wp g b a m m' r f (.call ⟨x,c,.dv y re ext k nx⟩):=by
 have hM:=b9 m' b a 3
 have V7:(x=y)=False:=eq_false hy
 unfold cY.wp aF.fn aF.bound aF.next at h ⊢
 simp only[dp,dS,ej,uH,iD,fH,kE,mP,eZ,tO]at h ⊢
 have hs:=fun ex=>eY.ext h rfl rfl ex
 unfold eY
 unfold bp.au at *
 simp only[i64]at hs
 refine aw func103 rfl ntmps103 results103 rfl 3 799 (by simp) (by simp) ?_
 simp only[zX,simprocAttr,i64,bV,iD,bc,V7]
 refine aj (hs _) (fun v s' hv=>?_);obtain⟨rfl,rfl⟩:=hv
 simp only[zX,simprocAttr,i64,bV,iD,dH,ai.v,ai.cells,WU,WV,WR,WS]
 exact hM
theorem eY.pure {f:FuncId}{args:List V}{g b a:Nat}{m:bp}{r:ai}{fd:Bool} (h:br prog f args (dH b a r fd)) (ha:ao.go 0 args=true):eY f args g b a m m r fd :=
 aD h ha rfl ⟨rfl,rfl⟩
theorem Mz (g b a:Nat) {m:bp}{x y:Int}{c:ar}{re:Re}{ext:List D}{nx:aF} (hl:c.length=9) (h0:1≤re.n) (h1:re.n≤9):cY.wp g b a m m ⟨x,some (c.set (re.n-1).toNat (y,x)),nx⟩ true (.call ⟨x,some c,.fin y re ext nx⟩):=by
 unfold cY.wp aF.fn aF.bound aF.next
 simp only[dp,dS,ej,iD,fH,kE]
 exact eY.pure (LM b a ⟨x,some c,nx⟩ y re ext h0 h1 rfl hl) rfl
theorem Jn (g b a:Nat) {m:bp}{x y:Int}{c c':Option ar}{t' nx:aF}:cY.wp g b a m m ⟨x,c,nx⟩ (decide (x=y)) (.call ⟨x,c,.here y c' t' nx⟩):=by
 unfold cY.wp aF.fn aF.bound aF.next
 simp only[dp,dS,nw,iD]
 exact eY.pure (Jq b a ⟨x,c,nx⟩ y (dK c') (t'.d b a)) rfl
theorem Lk (g b a:Nat) (h:aF):(cX.go (.pp 0 g 0 0 b a) (h.bound b a)).map (bF [0,1,2])=cX.go (.pp 0 g 0 0 b a) (h.bound b a)∧ao.go 3 (cX.go (.pp 0 g 0 0 b a) (h.bound b a))=true:=by
 cases h <;> unfold aF.bound <;> simp only[dp,dS,ej,nw,uH,iD,fH,kE,mP,eZ,tO]
 all_goals exact⟨rfl,rfl⟩
def pS (b a:Nat) (p:ai):VL.Obj:=⟨1,true,3,[[.d (iD p.at_),.d (dK p.ak),.d (p.todo.d b a)]]⟩
theorem Es {n:Nat} (ih:Sf n) (g b a:Nat) {m m':bp}{base:Nat}{r:ai}{f:Bool} (h:fG n (.search base) m m' r f):cY.wp g b a m m' r f (.search base):=by
 have hM:=b9 m' b a 3
 unfold cY.wp eY
 unfold bp.au
 refine aw func40 rfl ntmps40 results40 rfl 3 243 (by simp) (by simp) ?_
 simp only[zX,simprocAttr,i64,bV,iD]
 refine aX (fun n1 e s=>∃(m1:bp),n1≤n∧e 0=.pp 0 g 0 0 b a∧e 1=i64 (base:Nat)∧e 4=.rf 3 0 0 0∧s=m1.au g b a++[dM]∧fG n1 (.search base) m1 m' r f)
  ⟨_,_,_,dw.refl,m,W4 _,rfl,rfl,rfl,rfl,h⟩ ?_
 clear h
 rintro n1 e s ⟨m1,fY,h0,h1,h4,rfl,hb⟩
 cases hb with
 |stop aW =>
  unfold bp.au dM
  by_cases ht:base<m'.top
  ·have dr:m'.aK=true:=by
    rcases aW with h|h
    ·omega
    ·exact h
   have PU:(base:Int)<(m'.top:Int):=by omega
   simp only[zX,simprocAttr,i64,bV,iD,WR,WS,gt_iff_lt,h0,h1,h4,PU,dr,WY,dH,ai.v,ai.cells,ai.zero,dK,aF.d,WU,WV]
   first|exact hM|exact⟨hM,rfl⟩
  ·have PU:¬(base:Int)<(m'.top:Int):=by omega
   simp only[zX,simprocAttr,i64,bV,iD,WR,WS,gt_iff_lt,h0,h1,h4,PU,dH,ai.v,ai.cells,ai.zero,dK,aF.d,WU,WV]
   first|exact hM|exact⟨hM,rfl⟩
 |@pop _ k _ _ _ q _ _ hk WN RA VV dr hq yQ =>
  have w1:IntKind.i64.wrap ((m1.top:Int)-1)=(m1.top:Int)-1:=bU _ (by omega)
  have q0:(base:Int)<(m1.top:Int):=by omega
  have q1:(0:Int)≤(m1.top:Int)-1:=by omega
  have q2:(m1.top:Int)-1<(m1.top:Int):=by omega
  have q3:((m1.top:Int)-1).toNat=m1.top-1:=by omega
  have q4:(m1.top:Int)-1≤(m1.top:Int):=by omega
  have q9:min m1.top m1.cO.length=m1.top:=by omega
  unfold bp.au dM
  simp only[zX,simprocAttr,i64,bV,iD,WR,WS,gt_iff_lt,h0,h1,h4,q0,dr,W0]
  refine aH bM.aP ?_
  refine aq mix [] [(12,[4],[4]),(13,[4],[4])] (by rfl) ?_
  simp only[zX,simprocAttr,i64,bV,iD,WR,WS,h0,h1,h4,w1,q1,q2,q3,q4,RA,hole,hq,Xi,XE,ai.cells,WU,WV,W1]
  refine aq mix [14] [] (by rfl) ?_
  simp only[zX,simprocAttr,i64,bV,iD,WR,WS,h0,h1,h4,w1,q1,q2,q3,q4,q9,RA,Xi,W1,Xu,Int.sub_zero]
  refine aX (fun n2 e s=>∃(m2:bp) (p2:ai) (al:Bool),n2<n1∧e 0=.pp 0 g 0 0 b a∧e 1=i64 (base:Nat)∧e 4=.rf 3 0 0 0∧e 6=.rf 4 1 0 0∧e 7=bV al∧s=m2.au g b a++[dM,pS b a p2]∧fG n2 (.inner base p2 al) m2 m' r f)
   ⟨_,_,_,dw.refl,{ m1 with top:=m1.top-1 },q,true,hk,?_,?_,?_,?_,rfl,?_,yQ⟩ ?_ <;> (try simp only[zU,Nat.reduceBEq,Nat.reduceShiftRight,Nat.reduceMod,Nat.reduceEqDiff,reduceIte])
  ·exact h0
  ·exact h1
  ·exact h4
  ·unfold bp.au dM pS;rw[dr];simp only[ai.cells,iD,i64,bV,WU,WV];rfl
  clear yQ h0 h1 h4 q0 q1 q2 q3 q4 q9 w1 hq dr
  rintro n2 e s ⟨m2,p2,al,RK,h0,h1,h4,h6,h7,rfl,hb⟩
  cases hb with
  |done zm =>
   obtain⟨pa,pc,todo⟩:=r
   simp only at zm
   subst zm
   unfold bp.au dM pS
   simp only[zX,simprocAttr,i64,bV,iD,WR,WS,h0,h1,h4,h6,h7,aF.d,dH,ai.v,ai.cells,WU,WV]
   exact⟨⟨_,rfl⟩,hM⟩
  |@dead _ k2 _ _ _ _ _ _ od BW =>
   unfold bp.au dM pS
   simp only[zX,simprocAttr,i64,bV,iD,WR,WS,h0,h1,h4,h6,h7,dH,ai.v,ai.cells,WU,WV]
   refine⟨k2,_,_,by omega,dw.cut (s':=m2.au g b a++[dM]) 4 (by omega) rfl ?_ [0,1,4] ?_,m2,by omega,?_,?_,?_,rfl,BW⟩ <;> (try simp only[zU,Nat.reduceBEq,Nat.reduceShiftRight,Nat.reduceMod,Nat.reduceEqDiff,reduceIte])
   ·rw[XI,la g b a m2 4 (by omega)];rfl
   ·simp [bW,ba,ao,i64,h0,h1,h4]
   ·exact h0
   ·exact h1
   ·exact h4
  |@move _ k1 k2 _ _ m3 _ _ p3 _ a3 _ jT od hp hc hi =>
   have hw:=ih k1 (by omega) _ _ _ _ _ hc g b a
   have D9:=Lk g b a p2.todo
   unfold cY.wp at hw
   have hs:=fun ext=>eY.ext hw (by simp only[WU,D9.1];rfl) (by simp only[ao.go,D9.2];rfl) ext
   obtain⟨pa,pc,todo⟩:=p2
   simp only at hp hs
   have hd:=aF.TG b a hp
   unfold bp.au dM pS at *
   simp only[i64,bV,iD,ai.cells,WU,WV]at hs
   simp only[zX,simprocAttr,i64,bV,iD,WR,WS,h0,h1,h4,h6,h7,hd]
   refine⟨⟨_,rfl⟩,?_⟩
   refine aq mix [14] [(0,[4],[]),(1,[4],[]),(5,[4],[]),(6,[4],[]),(7,[4],[]),(8,[4],[]),(9,[4],[]),(10,[4],[]),(18,[4],[4])] (by rfl) ?_
   simp only[zX,simprocAttr,i64,bV,iD,WR,WS,h0,h1,h4,h6,h7,hd]
   refine bu (hs _) ?_
   simp only[zX,simprocAttr,i64,bV,iD,WR,WS,h0,h1,h4,h6,h7,hd,dH,ai.v,ai.cells,WU,WV]
   refine⟨k2,_,_,by omega,dw.refl,m3,p3,a3,by omega,?_,?_,?_,?_,rfl,rfl,hi⟩ <;> (try simp only[zU,Nat.reduceBEq,Nat.reduceShiftRight,Nat.reduceMod,Nat.reduceEqDiff,reduceIte])
   ·exact h0
   ·exact h1
   ·exact h4
   ·exact h6
theorem kI {g b a:Nat}{m m':bp}{re:Re}{ext:List D}{p r:ai}{f:Bool}{fn:FuncId} (Pc:HN re.op=fn) (h:eY fn [.pp 0 g 0 0 b a,.d (di re ext),p.v b a] g b a m m' r f):cY.wp g b a m m' r f (.op re ext p):=by
 show eY (HN re.op) _ g b a m m' r f
 rw[Pc]
 exact h
theorem fF {re:Re}{n:Int} (h:re.op=n):HN re.op=HN n:=by rw[h]
theorem Pu {n:Nat}{re:Re}{ext:List D}{p r:ai}{m m':bp}{f:Bool} (h:fG n (.op re ext p) m m' r f):0≤re.op∧re.op≤11:=by
 cases h <;> omega
theorem Bn:∀(n:Nat) (task:cY) (m m':bp) (r:ai) (f:Bool),fG n task m m' r f→∀g b a,cY.wp g b a m m' r f task:=by
 intro n
 induction n using Nat.strongRecOn with
 |ind n VO =>
 have ih:Sf n:=fun j hj task m m' r f h g b a=>VO j hj task m m' r f h g b a
 intro task m m' r f h g b a
 cases task with
 |search base=>exact Es ih g b a h
 |inner base p alive=>exact trivial
 |behind re kid p j=>exact trivial
 |first p =>
  cases h with
  |first hk ht hm h h1 h2=>exact Ib g b a ht hm (ih _ hk _ _ _ _ _ h g b a) h1 h2
 |call p =>
  cases h with
  |wk hg ho hf=>exact CZ g b a hg ho hf
  |tree hk hg ho hf h =>
   have wI:=Pu h
   exact KW g b a hg ho hf wI.1 wI.2 (ih _ hk _ _ _ _ _ h g b a)
  |rep hk ho h=>exact MK g b a ho (ih _ hk _ _ _ _ _ h g b a)
  |nB hg hf=>exact BJ g b a hg hf
  |w4 hg hk h0 h1 hf hm=>exact AR g b a hg hk h0 h1 hf hm
  |xw hg hk hf hm hx BI=>exact Br g b a hg hk hf hm hx BI
  |uQ hg hk h0 h1 hf hm hx ho=>exact ze g b a hg hk h0 h1 hf hm hx ho
  |uS hg hk h0 h1 hf hm hx ho=>exact zk g b a hg hk h0 h1 hf hm hx ho
  |stay=>exact KV g b a
  |dv hj hy h=>exact IE g b a hy (ih _ hj _ _ _ _ _ h g b a)
  |fin hl h0 h1=>exact Mz g b a hl h0 h1
  |here=>exact Jn g b a
 |op re ext p =>
  cases h with
  |empty ho=>exact kI (fF ho) (G9 g b a m re ext _)
  |Ni ho hg hs h hi =>
   have:=Gj g b a m re ext p hs hg.a0 h hg.t
   rw[if_pos hi]at this
   exact kI (fF ho) this
  |xK ho hg hs h hi =>
   have:=Gj g b a m re ext p hs hg.a0 h hg.t
   rw[if_neg (by rw[hi];exact Xe)]at this
   exact kI (fF ho) this
  |JA ho h=>exact kI (fF ho) (I8 g b a m re ext p h)
  |cat ho hk=>exact kI (fF ho) (Mg g b a m re ext p hk)
  |alt ho hk dN hg=>exact kI (fF ho) (Mf g b a m re ext p hk dN hg.top hg.EK)
  |Hy hk ho hm h=>exact kI (fF ho) (Ll g b a hm (ih _ hk _ _ _ _ _ h g b a))
  |Pm ho hm=>exact kI (fF ho) (Ku g b a m re ext _ hm)
  |fx ho hk=>exact kI (fF ho) (Dg g b a m re ext p hk)
  |vg ho hg hc hl hn hx hb hq=>exact kI (fF ho) (LF g b a m re ext p hg hc hl hn hx hb hq)
  |pe ho hg hc hl hn hx eU h2 hq=>exact kI (fF ho) (Ja g b a m re ext p hg hc hl hn hx eU h2 hq)
  |ahead hk ho dN h=>exact kI (fF ho) (H8 g b a ext dN (ih _ hk _ _ _ _ _ h g b a))
  |behind hk ho dN hp Ef h=>exact kI (fF ho) (FJ ih hk g b a ext dN hp Ef h)
  |atom hk ho dN h=>exact kI (fF ho) (KY g b a ext dN (ih _ hk _ _ _ _ _ h g b a))
  |cond ho dN hc hl hn hx=>exact kI (fF ho) (K0 g b a m re ext p dN hn hc hx hl)
  |assert ho hg h0 h1=>exact kI (fF ho) (Fp g b a m re ext _ hg h0 h1)
end Go.Proofs.YtmihcpdhcillaaaGreat
