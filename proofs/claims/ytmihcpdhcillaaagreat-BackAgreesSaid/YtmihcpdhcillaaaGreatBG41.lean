/- A part of the proof (G30 G32). -/
import Derived.Test.YtmihcpdhcillaaaGreatBG40
import Derived.Test.YtmihcpdhcillaaaGreatBG39
set_option linter.unusedSimpArgs false
set_option linter.unusedVariables false
set_option maxRecDepth 100000
set_option maxHeartbeats 80000000
namespace Go.Proofs.YtmihcpdhcillaaaGreat
open Go.VL Go.Proofs.Tryz
def bw (k:Nat):Prop:=∀g b a m base p alive x,bh k true m base p alive=some x→av prog 22 [.pp 0 g 0 0 b a,i64 (base:Nat),p.v b a,bV alive] (m.au g b a) fun v s=>v=aJ b a x.2.1 x.2.2∧s=x.1.au g b a
theorem HX (m:aC) (b a base:Nat) (h:base≤m.top):gg (m.cO.map (GV b a)) base (List.replicate (m.top-base) [V.d (D.sc (.int .i64 0)),.fu [],.d (D.sc (.pointer none))])=(m.clear base).cO.map (GV b a):=by
 unfold gg aC.clear
 simp only[XC,XR,List.map_drop,List.map_replicate,XD,GV,Xx]
 rw[show base+(m.top-base)=m.top by omega]
theorem nC {k:Nat} (ih:bw k) (g b a:Nat) (m:aC) (p:aA) {x:Rs} (hx:eS (fun m base p=>bh k true m base p true) m p=some x) :
  av prog 105 [.pp 0 g 0 0 b a,p.v b a] (m.au g b a) fun v s=>v=aJ b a x.2.1 x.2.2∧s=x.1.au g b a:=by
 simp only[eS]at hx
 cases hs:bh k true m m.top p true with
 |none=>rw[hs]at hx;cases hx
 |some y =>
  obtain⟨m1,p1,found⟩:=y
  rw[hs]at hx
  simp only at hx
  split at hx
  ·cases hx
  rename_i hc
  cases hx
  have aW:=fun ext=>bn (ih g b a m m.top p true _ hs) rfl rfl rfl ext
  have q1:m.top≤m1.top:=by omega
  have q2:m1.top≤m1.cO.length:=by omega
  have q3:(m.top:Int)≤(m1.top:Int):=by omega
  have q4:(0:Int)≤(m.top:Int):=by omega
  have iI:min m1.top m1.cO.length=m1.top:=by omega
  have cK:=HX m1 b a m.top q1
  unfold aC.au aC.az at aW
  simp only[zM,aJ]at aW
  unfold aC.au aC.az
  refine aw func105 rfl ntmps105 results105 rfl 3 251 (by simp) (by simp) ?_
  simp only[zX,simprocAttr,zM,aJ]
  refine aj (aW _) (fun v s' hv=>?_);obtain⟨rfl,rfl⟩:=hv
  have Hi:((m1.top:Int)-(m.top:Int)).toNat=m1.top-m.top:=by omega
  have hlen:(m1.clear m.top).cO.length=m1.cO.length:=by
   simp only[aC.clear,W5,Xu,XD,List.length_drop]
   omega
  have q7:m1.top≤(m1.clear m.top).cO.length:=by omega
  have Nw:min m1.top (m1.clear m.top).cO.length=m1.top:=by omega
  rcases Xw m.top m1.top with q5|q5
  ·have q6:(m.top:Int)<(m1.top:Int):=by omega
   simp only[zX,simprocAttr,zM,aJ,q1,q2,q3,q4,q6,q7,iI,Nw,Hi,cK,Xu,W1,Xp,Xi,or_true,kU,WW,W4,Int.sub_zero]
   exact⟨by omega,an (m1.clear m.top) b a,rfl⟩
  ·have q8:m1.top=m.top:=by omega
   have q6:¬(m.top:Int)<(m1.top:Int):=by omega
   by_cases z:(m.top:Int)=0
   ·have y:=eq_true z
    simp only[zX,simprocAttr,zM,aJ,q1,q2,q3,q4,q6,q7,y,iI,Nw,Hi,cK,Xu,W1,Xp,Xi,true_or,kU,WW,W4,Int.sub_zero]
    exact⟨by omega,an (m1.clear m.top) b a,rfl⟩
   ·have y:=eq_false z
    have P7:m1.clear m.top=m1:=by
     rw[← q8]
     obtain⟨⟩:=m1
     simp only[aC.clear,X3,List.replicate_zero,WS,List.take_append_drop]
    rw[P7]
    simp only[zX,simprocAttr,zM,aJ,q1,q2,q3,q4,q6,y,iI,Hi,Xu,W1,Xp,Xi,true_or,or_false,kU,WW,W4,Int.sub_zero]
    rw[← q8]
    exact⟨an m1 b a,rfl⟩
theorem qn {k:Nat} (ih:bw k) (g b a:Nat) (m:aC) (p:aA) (part:aG) {x:Rs} (hx:iW (fun m base p=>bh k true m base p true) m p part=some x) :
  av prog 95 [.pp 0 g 0 0 b a,p.v b a,.d (part.d b a)] (m.au g b a) fun v s=>v=aJ b a x.2.1 x.2.2∧s=x.1.au g b a:=by
 unfold iW at hx
 cases hs:eS (fun m base p=>bh k true m base p true) m { p with todo:=part } with
 |none=>rw[hs]at hx;cases hx
 |some y =>
  obtain⟨m1,r,found⟩:=y
  rw[hs]at hx
  cases hx
  have aW:=fun ext=>bn (nC ih g b a m _ hs) rfl rfl rfl ext
  unfold aC.au aC.az at aW
  simp only[zM,aJ]at aW
  unfold aC.au aC.az
  refine aw func95 rfl ntmps95 results95 rfl 3 983 (by simp) (by simp) ?_
  simp only[zX,simprocAttr,zM,aJ]
  refine aj (aW _) (fun v s' hv=>?_);obtain⟨rfl,rfl⟩:=hv
  simp only[zX,simprocAttr,zM,aJ]
  exact an m1 b a
theorem GO {k:Nat} (ih:bw k) (g b a:Nat) (m:aC) (re:Re) (p:aA) (kid:Re) (l:List Re) (hl:re.kids=kid::l) (U8:0≤p.at_) (Ef:p.at_≤1000000) {x:Rs} (hx:kb (fun m base p=>bh k true m base p true) m re kid p=some x) :
  av prog 99 [.pp 0 g 0 0 b a,.d ((aE.el re).d b a),p.v b a] (m.au g b a) fun v s=>v=aJ b a x.2.1 x.2.2∧s=x.1.au g b a:=by
 have hk:re.kids[0]?=some kid:=by rw[hl];rfl
 have eh:(0:Int)<(re.kids.length:Int):=by rw[hl,W3];omega
 have yT:=fJ b a (.el kid) .nil
 simp only[aG.d,aE.d,Re.ae,iD,bD]at yT
 clear hl
 unfold kb at hx
 by_cases o8:re.op=8
 ·have d8:decide (re.op=8)=true:=decide_eq_true o8
  rw[if_pos o8,if_pos o8]at hx
  have BV:∀q,jR re.op kid q=.mk 0 (.el kid) 0 0 (.mk 5 .nil 0 q .nil):=fun q=>if_pos o8
  simp only[BV]at hx
  unfold aC.au aC.az
  refine aw func99 rfl ntmps99 results99 rfl 3 8167 (by simp) (by simp) ?_
  simp only[zX,simprocAttr,zM,aJ,aE.d,Re.ae,d8]
  refine aX (fun n e s=>∃(j:Nat) (m1:aC),n=j∧(j:Int)≤p.at_+1∧m.Fr m1∧e 0=.pp 0 g 0 0 b a∧e 1=.d ((aE.el re).d b a)∧e 5=.rf 3 0 0 0∧e 6=.rf 4 0 0 0∧e 8=i64 (0)∧e 9=i64 (0+j-1)∧s=m1.au g b a++[⟨0,true,3,[(p.cells b a).map .d]⟩,⟨0,true,3,[[.d (iD 0),.fu [],.d (.sc (.pointer none))]]⟩] ∧
    fT (fun q m=>eS (fun m base p=>bh k true m base p true) m { at_:=q,ak:=p.ak,todo:=.mk 0 (.el kid) 0 0 (.mk 5 .nil 0 p.at_ .nil) }) re.neg p (0) j m1=some x)
   ⟨_,_,_,dw.refl,(p.at_.toNat+1),m,rfl,by omega,.refl _,rfl,?_,rfl,rfl,rfl,?_,rfl,hx⟩ ?_
  ·rw[aE.d,Re.ae];rfl
  ·rw[show (0:Int)+((p.at_.toNat+1):Nat)-1=p.at_ by omega];rfl
  clear hx
  rintro n e s ⟨j,m1,rfl,hj,kM,h0,h1,h5,h6,h8,h9,rfl,hx⟩
  have dr:=kM.p
  have gQ:=h1
  simp only[aE.d,Re.ae,iD,bD]at gQ
  cases n with
  |zero =>
   simp only[fT,WX]at hx
   cases hx
   rw[show (0:Int)+((0:Nat):Int)-1=0-1 by omega]at h9
   have hle:¬(0:Int)≤0-1:=by omega
   unfold aC.au aC.az
   cases hn:re.neg with
   |true =>
    simp only[zX,simprocAttr,zM,aJ,h0,gQ,h5,h6,h8,h9,d8,eh,hk,hle,ge_iff_le]
    refine aq mix [] [(0,[3],[]),(2,[0],[]),(3,[0],[]),(4,[0],[]),(7,[0],[]),(8,[0],[]),(9,[0],[]),(12,[4],[4])] (by rfl) ?_
    simp only[zX,simprocAttr,zM,aJ,h0,gQ,h5,h6,h8,h9,d8,eh,hk,hn]
    first|exact⟨an m1 b a,rfl⟩|exact an m1 b a
   |false =>
    simp only[zX,simprocAttr,zM,aJ,h0,gQ,h5,h6,h8,h9,d8,eh,hk,hle,ge_iff_le]
    refine aq mix [] [(0,[3],[]),(2,[0],[]),(3,[0],[]),(4,[0],[]),(7,[0],[]),(8,[0],[]),(9,[0],[]),(12,[4],[4])] (by rfl) ?_
    simp only[zX,simprocAttr,zM,aJ,h0,gQ,h5,h6,h8,h9,d8,eh,hk,hn]
    first|exact⟨an m1 b a,rfl⟩|exact an m1 b a
  |succ j =>
   rw[show (0:Int)+((j+1:Nat):Int)-1=0+(j:Int) by omega]at h9
   have hle:(0:Int)≤0+(j:Int):=by omega
   simp only[fT]at hx
   by_cases he:m1.aK=true
   ·rw[if_pos he]at hx
    cases hx
    unfold aC.au aC.az
    cases hn:re.neg with
    |true =>
     simp only[zX,simprocAttr,zM,aJ,h0,gQ,h5,h6,h8,h9,d8,eh,hk,hle,he,ge_iff_le]
     refine aq mix [] [(0,[3],[]),(2,[0],[]),(3,[0],[]),(4,[0],[]),(7,[0],[]),(8,[0],[]),(9,[0],[]),(12,[4],[4])] (by rfl) ?_
     simp only[zX,simprocAttr,zM,aJ,h0,gQ,h5,h6,h8,h9,d8,eh,hk,hn]
     first|exact⟨an m1 b a,rfl⟩|exact an m1 b a
    |false =>
     simp only[zX,simprocAttr,zM,aJ,h0,gQ,h5,h6,h8,h9,d8,eh,hk,hle,he,ge_iff_le]
     refine aq mix [] [(0,[3],[]),(2,[0],[]),(3,[0],[]),(4,[0],[]),(7,[0],[]),(8,[0],[]),(9,[0],[]),(12,[4],[4])] (by rfl) ?_
     simp only[zX,simprocAttr,zM,aJ,h0,gQ,h5,h6,h8,h9,d8,eh,hk,hn]
     first|exact⟨an m1 b a,rfl⟩|exact an m1 b a
   ·rw[if_neg he]at hx
    have he:m1.aK=false:=by simpa using he
    cases hs:eS (fun m base p=>bh k true m base p true) m1 { at_:=0+(j:Int),ak:=p.ak,todo:=.mk 0 (.el kid) 0 0 (.mk 5 .nil 0 p.at_ .nil) } with
    |none=>rw[hs]at hx;cases hx
    |some y =>
     obtain⟨m2,r,found⟩:=y
     rw[hs]at hx
     simp only at hx
     have sR:m1.Fr m2:=nK (fun m base p x h=>mr k true m base p true x h) hs
     have aW:=fun ext=>bn (nC ih g b a m1 _ hs) rfl rfl rfl ext
     unfold aC.au aC.az at aW
     simp only[zM,aJ,aG.d,aE.d,Re.ae,he]at aW
     unfold aC.au aC.az
     simp only[zX,simprocAttr,zM,aJ,h0,gQ,h5,h6,h8,h9,d8,eh,hk,he,hle,ge_iff_le,Re.ae]
     refine aD yT rfl rfl ?_
     simp only[zX,simprocAttr,zM,aJ,h0,gQ,h5,h6,h8,h9,d8,eh,hk,Re.ae]
     refine aH bM.aP ?_
     refine aq mix [9] [(1,[0],[]),(2,[0],[]),(3,[0],[]),(5,[3],[]),(6,[3],[]),(8,[5],[5])] (by rfl) ?_
     simp only[zX,simprocAttr,zM,aJ,hole,h0,gQ,h5,h6,h8,h9,d8,eh,hk]
     refine bu (aO [5] (by simp [aM,bf,aR.go,aR,bN,aG.d,aE.d,Re.ae,iD,bD]) (aD (fJ b a (.el kid) (.mk 5 .nil 0 p.at_ .nil)) rfl rfl ⟨rfl,rfl⟩)) ?_
     simp only[zX,simprocAttr,zM,aJ,h0,gQ,h5,h6,h8,h9,d8,eh,hk,aM,bf,aE.d,aG.d,Re.ae]
     refine aj (aW _) (fun v s' hv=>?_);obtain⟨rfl,rfl⟩:=hv
     cases found with
     |false =>
      simp only[W2,if_false]at hx
      simp only[zX,simprocAttr,zM,aJ,h0,gQ,h5,h6,h8,h9,d8,eh,hk]
      refine⟨j,_,_,by omega,dw.cut (s':=m2.au g b a++[⟨0,true,3,[(p.cells b a).map .d]⟩,⟨0,true,3,[[.d (iD 0),.fu [],.d (.sc (.pointer none))]]⟩]) 5 (by omega) rfl ?_ [0,1,5,6,8,9] ?_,j,m2,rfl,by omega,kM.trans sR,?_,?_,?_,?_,?_,?_,rfl,hx⟩ <;> (try simp only[zU,Nat.reduceBEq,Nat.reduceShiftRight,Nat.reduceMod,Nat.reduceEqDiff,reduceIte])
      ·rw[XI,show (m2.au g b a).all (cU 5)=true from fg g b a m2 _ 5 (by omega) (show ao 5 m2.text=true by unfold aC.text;split <;> rfl)];rfl
      ·simp [bW,ba,ao,i64,h0,gQ,h5,h6,h8,h9]
      ·exact h0
      ·first|exact h1|exact gQ
      ·exact h5
      ·exact h6
      ·exact h8
      ·rw[bU _ (by omega)]
     |true =>
      simp only[if_true]at hx
      cases cu:re.neg with
      |true =>
       skip
       rw[cu]at hx
       cases hx
       simp only[zX,simprocAttr,zM,aJ,h0,gQ,h5,h6,h8,h9,d8,eh,hk,cu]
       first|exact⟨an m2 b a,rfl⟩|exact an m2 b a
      |false =>
       skip
       rw[cu]at hx
       cases hx
       simp only[zX,simprocAttr,zM,aJ,h0,gQ,h5,h6,h8,h9,d8,eh,hk,cu]
       first|exact⟨an m2 b a,rfl⟩|exact an m2 b a
 ·have d8:decide (re.op=8)=false:=decide_eq_false o8
  rw[if_neg o8,if_neg o8]at hx
  have BV:∀q,jR re.op kid q=.mk 0 (.el kid) 0 0 .nil:=fun q=>if_neg o8
  simp only[BV]at hx
  unfold aC.au aC.az
  refine aw func99 rfl ntmps99 results99 rfl 3 8167 (by simp) (by simp) ?_
  simp only[zX,simprocAttr,zM,aJ,aE.d,Re.ae,d8]
  refine aX (fun n e s=>∃(j:Nat) (m1:aC),n=j∧(j:Int)≤1∧m.Fr m1∧e 0=.pp 0 g 0 0 b a∧e 1=.d ((aE.el re).d b a)∧e 5=.rf 3 0 0 0∧e 6=.rf 4 0 0 0∧e 8=i64 (p.at_)∧e 9=i64 (p.at_+j-1)∧s=m1.au g b a++[⟨0,true,3,[(p.cells b a).map .d]⟩,⟨0,true,3,[[.d (iD 0),.fu [],.d (.sc (.pointer none))]]⟩] ∧
    fT (fun q m=>eS (fun m base p=>bh k true m base p true) m { at_:=q,ak:=p.ak,todo:=.mk 0 (.el kid) 0 0 .nil }) re.neg p (p.at_) j m1=some x)
   ⟨_,_,_,dw.refl,1,m,rfl,by omega,.refl _,rfl,?_,rfl,rfl,rfl,?_,rfl,hx⟩ ?_
  ·rw[aE.d,Re.ae];rfl
  ·rw[show (p.at_:Int)+(1:Nat)-1=p.at_ by omega];rfl
  clear hx
  rintro n e s ⟨j,m1,rfl,hj,kM,h0,h1,h5,h6,h8,h9,rfl,hx⟩
  have dr:=kM.p
  have gQ:=h1
  simp only[aE.d,Re.ae,iD,bD]at gQ
  cases n with
  |zero =>
   simp only[fT,WX]at hx
   cases hx
   rw[show (p.at_:Int)+((0:Nat):Int)-1=p.at_-1 by omega]at h9
   have hle:¬(p.at_:Int)≤p.at_-1:=by omega
   unfold aC.au aC.az
   cases hn:re.neg with
   |true =>
    simp only[zX,simprocAttr,zM,aJ,h0,gQ,h5,h6,h8,h9,d8,eh,hk,hle,ge_iff_le]
    refine aq mix [] [(0,[3],[]),(2,[0],[]),(3,[0],[]),(4,[0],[]),(7,[0],[]),(8,[0],[]),(9,[0],[]),(12,[4],[4])] (by rfl) ?_
    simp only[zX,simprocAttr,zM,aJ,h0,gQ,h5,h6,h8,h9,d8,eh,hk,hn]
    first|exact⟨an m1 b a,rfl⟩|exact an m1 b a
   |false =>
    simp only[zX,simprocAttr,zM,aJ,h0,gQ,h5,h6,h8,h9,d8,eh,hk,hle,ge_iff_le]
    refine aq mix [] [(0,[3],[]),(2,[0],[]),(3,[0],[]),(4,[0],[]),(7,[0],[]),(8,[0],[]),(9,[0],[]),(12,[4],[4])] (by rfl) ?_
    simp only[zX,simprocAttr,zM,aJ,h0,gQ,h5,h6,h8,h9,d8,eh,hk,hn]
    first|exact⟨an m1 b a,rfl⟩|exact an m1 b a
  |succ j =>
   rw[show (p.at_:Int)+((j+1:Nat):Int)-1=p.at_+(j:Int) by omega]at h9
   have hle:(p.at_:Int)≤p.at_+(j:Int):=by omega
   simp only[fT]at hx
   by_cases he:m1.aK=true
   ·rw[if_pos he]at hx
    cases hx
    unfold aC.au aC.az
    cases hn:re.neg with
    |true =>
     simp only[zX,simprocAttr,zM,aJ,h0,gQ,h5,h6,h8,h9,d8,eh,hk,hle,he,ge_iff_le]
     refine aq mix [] [(0,[3],[]),(2,[0],[]),(3,[0],[]),(4,[0],[]),(7,[0],[]),(8,[0],[]),(9,[0],[]),(12,[4],[4])] (by rfl) ?_
     simp only[zX,simprocAttr,zM,aJ,h0,gQ,h5,h6,h8,h9,d8,eh,hk,hn]
     first|exact⟨an m1 b a,rfl⟩|exact an m1 b a
    |false =>
     simp only[zX,simprocAttr,zM,aJ,h0,gQ,h5,h6,h8,h9,d8,eh,hk,hle,he,ge_iff_le]
     refine aq mix [] [(0,[3],[]),(2,[0],[]),(3,[0],[]),(4,[0],[]),(7,[0],[]),(8,[0],[]),(9,[0],[]),(12,[4],[4])] (by rfl) ?_
     simp only[zX,simprocAttr,zM,aJ,h0,gQ,h5,h6,h8,h9,d8,eh,hk,hn]
     first|exact⟨an m1 b a,rfl⟩|exact an m1 b a
   ·rw[if_neg he]at hx
    have he:m1.aK=false:=by simpa using he
    cases hs:eS (fun m base p=>bh k true m base p true) m1 { at_:=p.at_+(j:Int),ak:=p.ak,todo:=.mk 0 (.el kid) 0 0 .nil } with
    |none=>rw[hs]at hx;cases hx
    |some y =>
     obtain⟨m2,r,found⟩:=y
     rw[hs]at hx
     simp only at hx
     have sR:m1.Fr m2:=nK (fun m base p x h=>mr k true m base p true x h) hs
     have aW:=fun ext=>bn (nC ih g b a m1 _ hs) rfl rfl rfl ext
     unfold aC.au aC.az at aW
     simp only[zM,aJ,aG.d,aE.d,Re.ae,he]at aW
     unfold aC.au aC.az
     simp only[zX,simprocAttr,zM,aJ,h0,gQ,h5,h6,h8,h9,d8,eh,hk,he,hle,ge_iff_le,Re.ae]
     refine aD yT rfl rfl ?_
     simp only[zX,simprocAttr,zM,aJ,h0,gQ,h5,h6,h8,h9,d8,eh,hk,Re.ae]
     refine aj (aW _) (fun v s' hv=>?_);obtain⟨rfl,rfl⟩:=hv
     cases found with
     |false =>
      simp only[W2,if_false]at hx
      simp only[zX,simprocAttr,zM,aJ,h0,gQ,h5,h6,h8,h9,d8,eh,hk]
      refine⟨j,_,_,by omega,dw.cut (s':=m2.au g b a++[⟨0,true,3,[(p.cells b a).map .d]⟩,⟨0,true,3,[[.d (iD 0),.fu [],.d (.sc (.pointer none))]]⟩]) 5 (by omega) rfl ?_ [0,1,5,6,8,9] ?_,j,m2,rfl,by omega,kM.trans sR,?_,?_,?_,?_,?_,?_,rfl,hx⟩ <;> (try simp only[zU,Nat.reduceBEq,Nat.reduceShiftRight,Nat.reduceMod,Nat.reduceEqDiff,reduceIte])
      ·rw[XI,show (m2.au g b a).all (cU 5)=true from fg g b a m2 _ 5 (by omega) (show ao 5 m2.text=true by unfold aC.text;split <;> rfl)];rfl
      ·simp [bW,ba,ao,i64,h0,gQ,h5,h6,h8,h9]
      ·exact h0
      ·first|exact h1|exact gQ
      ·exact h5
      ·exact h6
      ·exact h8
      ·rw[bU _ (by omega)]
     |true =>
      simp only[if_true]at hx
      cases cu:re.neg with
      |true =>
       skip
       rw[cu]at hx
       cases hx
       simp only[zX,simprocAttr,zM,aJ,h0,gQ,h5,h6,h8,h9,d8,eh,hk,cu]
       first|exact⟨an m2 b a,rfl⟩|exact an m2 b a
      |false =>
       skip
       rw[cu]at hx
       cases hx
       simp only[zX,simprocAttr,zM,aJ,h0,gQ,h5,h6,h8,h9,d8,eh,hk,cu]
       first|exact⟨an m2 b a,rfl⟩|exact an m2 b a
theorem AF {k:Nat} (ih:bw k) (g b a:Nat) (m:aC) (p:aA) (kid:Re) (l:List Re) (hl:m.p.re.kids=kid::l) (U8:0≤p.at_) (Ef:p.at_≤1000000) {x:Rs} (hx:kb (fun m base p=>bh k true m base p true) m m.p.re kid p=some x) :
  av prog 99 [.pp 0 g 0 0 b a,.d ((aE.root).d b a),p.v b a] (m.au g b a) fun v s=>v=aJ b a x.2.1 x.2.2∧s=x.1.au g b a:=by
 have hk:m.p.re.kids[0]?=some kid:=by rw[hl];rfl
 have eh:(0:Int)<(m.p.re.kids.length:Int):=by rw[hl,W3];omega
 have yT:=fJ b a (.el kid) .nil
 simp only[aG.d,aE.d,Re.ae,iD,bD]at yT
 clear hl
 unfold kb at hx
 by_cases o8:m.p.re.op=8
 ·have d8:decide (m.p.re.op=8)=true:=decide_eq_true o8
  rw[if_pos o8,if_pos o8]at hx
  have BV:∀q,jR m.p.re.op kid q=.mk 0 (.el kid) 0 0 (.mk 5 .nil 0 q .nil):=fun q=>if_pos o8
  simp only[BV]at hx
  unfold aC.au aC.az
  refine aw func99 rfl ntmps99 results99 rfl 3 8167 (by simp) (by simp) ?_
  simp only[zX,simprocAttr,zM,aJ,aE.d,Re.ae,d8]
  refine aX (fun n e s=>∃(j:Nat) (m1:aC),n=j∧(j:Int)≤p.at_+1∧m.Fr m1∧e 0=.pp 0 g 0 0 b a∧e 1=.d ((aE.root).d b a)∧e 5=.rf 3 0 0 0∧e 6=.rf 4 0 0 0∧e 8=i64 (0)∧e 9=i64 (0+j-1)∧s=m1.au g b a++[⟨0,true,3,[(p.cells b a).map .d]⟩,⟨0,true,3,[[.d (iD 0),.fu [],.d (.sc (.pointer none))]]⟩] ∧
    fT (fun q m=>eS (fun m base p=>bh k true m base p true) m { at_:=q,ak:=p.ak,todo:=.mk 0 (.el kid) 0 0 (.mk 5 .nil 0 p.at_ .nil) }) m.p.re.neg p (0) j m1=some x)
   ⟨_,_,_,dw.refl,(p.at_.toNat+1),m,rfl,by omega,.refl _,rfl,?_,rfl,rfl,rfl,?_,rfl,hx⟩ ?_
  ·rfl
  ·rw[show (0:Int)+((p.at_.toNat+1):Nat)-1=p.at_ by omega];rfl
  clear hx
  rintro n e s ⟨j,m1,rfl,hj,kM,h0,h1,h5,h6,h8,h9,rfl,hx⟩
  have dr:=kM.p
  have gQ:=h1
  simp only[aE.d,Re.ae,iD,bD]at gQ
  rw[← dr]at hk eh d8 hx
  have TZ:m.p.re=m1.p.re:=by rw[dr]
  cases n with
  |zero =>
   simp only[fT,WX]at hx
   cases hx
   rw[show (0:Int)+((0:Nat):Int)-1=0-1 by omega]at h9
   have hle:¬(0:Int)≤0-1:=by omega
   unfold aC.au aC.az
   cases hn:m1.p.re.neg with
   |true =>
    simp only[zX,simprocAttr,zM,aJ,h0,gQ,h5,h6,h8,h9,d8,eh,hk,hle,ge_iff_le]
    refine aq mix [] [(0,[3],[]),(2,[0],[]),(3,[0],[]),(4,[0],[]),(7,[0],[]),(8,[0],[]),(9,[0],[]),(12,[4],[4])] (by rfl) ?_
    simp only[zX,simprocAttr,zM,aJ,h0,gQ,h5,h6,h8,h9,d8,eh,hk,hn]
    first|exact⟨an m1 b a,rfl⟩|exact an m1 b a
   |false =>
    simp only[zX,simprocAttr,zM,aJ,h0,gQ,h5,h6,h8,h9,d8,eh,hk,hle,ge_iff_le]
    refine aq mix [] [(0,[3],[]),(2,[0],[]),(3,[0],[]),(4,[0],[]),(7,[0],[]),(8,[0],[]),(9,[0],[]),(12,[4],[4])] (by rfl) ?_
    simp only[zX,simprocAttr,zM,aJ,h0,gQ,h5,h6,h8,h9,d8,eh,hk,hn]
    first|exact⟨an m1 b a,rfl⟩|exact an m1 b a
  |succ j =>
   rw[show (0:Int)+((j+1:Nat):Int)-1=0+(j:Int) by omega]at h9
   have hle:(0:Int)≤0+(j:Int):=by omega
   simp only[fT]at hx
   by_cases he:m1.aK=true
   ·rw[if_pos he]at hx
    cases hx
    unfold aC.au aC.az
    cases hn:m1.p.re.neg with
    |true =>
     simp only[zX,simprocAttr,zM,aJ,h0,gQ,h5,h6,h8,h9,d8,eh,hk,hle,he,ge_iff_le]
     refine aq mix [] [(0,[3],[]),(2,[0],[]),(3,[0],[]),(4,[0],[]),(7,[0],[]),(8,[0],[]),(9,[0],[]),(12,[4],[4])] (by rfl) ?_
     simp only[zX,simprocAttr,zM,aJ,h0,gQ,h5,h6,h8,h9,d8,eh,hk,hn]
     first|exact⟨an m1 b a,rfl⟩|exact an m1 b a
    |false =>
     simp only[zX,simprocAttr,zM,aJ,h0,gQ,h5,h6,h8,h9,d8,eh,hk,hle,he,ge_iff_le]
     refine aq mix [] [(0,[3],[]),(2,[0],[]),(3,[0],[]),(4,[0],[]),(7,[0],[]),(8,[0],[]),(9,[0],[]),(12,[4],[4])] (by rfl) ?_
     simp only[zX,simprocAttr,zM,aJ,h0,gQ,h5,h6,h8,h9,d8,eh,hk,hn]
     first|exact⟨an m1 b a,rfl⟩|exact an m1 b a
   ·rw[if_neg he]at hx
    have he:m1.aK=false:=by simpa using he
    cases hs:eS (fun m base p=>bh k true m base p true) m1 { at_:=0+(j:Int),ak:=p.ak,todo:=.mk 0 (.el kid) 0 0 (.mk 5 .nil 0 p.at_ .nil) } with
    |none=>rw[hs]at hx;cases hx
    |some y =>
     obtain⟨m2,r,found⟩:=y
     rw[hs]at hx
     simp only at hx
     have sR:m1.Fr m2:=nK (fun m base p x h=>mr k true m base p true x h) hs
     have aW:=fun ext=>bn (nC ih g b a m1 _ hs) rfl rfl rfl ext
     unfold aC.au aC.az at aW
     simp only[zM,aJ,aG.d,aE.d,Re.ae,he]at aW
     unfold aC.au aC.az
     simp only[zX,simprocAttr,zM,aJ,h0,gQ,h5,h6,h8,h9,d8,eh,hk,he,hle,ge_iff_le,Re.ae]
     refine aD yT rfl rfl ?_
     simp only[zX,simprocAttr,zM,aJ,h0,gQ,h5,h6,h8,h9,d8,eh,hk,Re.ae]
     refine aH bM.aP ?_
     refine aq mix [9] [(1,[0],[]),(2,[0],[]),(3,[0],[]),(5,[3],[]),(6,[3],[]),(8,[5],[5])] (by rfl) ?_
     simp only[zX,simprocAttr,zM,aJ,hole,h0,gQ,h5,h6,h8,h9,d8,eh,hk]
     refine bu (aO [5] (by simp [aM,bf,aR.go,aR,bN,aG.d,aE.d,Re.ae,iD,bD]) (aD (fJ b a (.el kid) (.mk 5 .nil 0 p.at_ .nil)) rfl rfl ⟨rfl,rfl⟩)) ?_
     simp only[zX,simprocAttr,zM,aJ,h0,gQ,h5,h6,h8,h9,d8,eh,hk,aM,bf,aE.d,aG.d,Re.ae]
     refine aj (aW _) (fun v s' hv=>?_);obtain⟨rfl,rfl⟩:=hv
     cases found with
     |false =>
      simp only[W2,if_false]at hx
      simp only[zX,simprocAttr,zM,aJ,h0,gQ,h5,h6,h8,h9,d8,eh,hk]
      refine⟨j,_,_,by omega,dw.cut (s':=m2.au g b a++[⟨0,true,3,[(p.cells b a).map .d]⟩,⟨0,true,3,[[.d (iD 0),.fu [],.d (.sc (.pointer none))]]⟩]) 5 (by omega) rfl ?_ [0,1,5,6,8,9] ?_,j,m2,rfl,by omega,kM.trans sR,?_,?_,?_,?_,?_,?_,rfl,by rw[TZ];exact hx⟩ <;> (try simp only[zU,Nat.reduceBEq,Nat.reduceShiftRight,Nat.reduceMod,Nat.reduceEqDiff,reduceIte])
      ·rw[XI,show (m2.au g b a).all (cU 5)=true from fg g b a m2 _ 5 (by omega) (show ao 5 m2.text=true by unfold aC.text;split <;> rfl)];rfl
      ·simp [bW,ba,ao,i64,h0,gQ,h5,h6,h8,h9]
      ·exact h0
      ·first|exact h1|exact gQ
      ·exact h5
      ·exact h6
      ·exact h8
      ·rw[bU _ (by omega)]
     |true =>
      simp only[if_true]at hx
      cases cu:m1.p.re.neg with
      |true =>
       have pF:=cu;rw[← sR.p]at pF
       rw[cu]at hx
       cases hx
       simp only[zX,simprocAttr,zM,aJ,h0,gQ,h5,h6,h8,h9,d8,eh,hk,pF]
       first|exact⟨an m2 b a,rfl⟩|exact an m2 b a
      |false =>
       have pF:=cu;rw[← sR.p]at pF
       rw[cu]at hx
       cases hx
       simp only[zX,simprocAttr,zM,aJ,h0,gQ,h5,h6,h8,h9,d8,eh,hk,pF]
       first|exact⟨an m2 b a,rfl⟩|exact an m2 b a
 ·have d8:decide (m.p.re.op=8)=false:=decide_eq_false o8
  rw[if_neg o8,if_neg o8]at hx
  have BV:∀q,jR m.p.re.op kid q=.mk 0 (.el kid) 0 0 .nil:=fun q=>if_neg o8
  simp only[BV]at hx
  unfold aC.au aC.az
  refine aw func99 rfl ntmps99 results99 rfl 3 8167 (by simp) (by simp) ?_
  simp only[zX,simprocAttr,zM,aJ,aE.d,Re.ae,d8]
  refine aX (fun n e s=>∃(j:Nat) (m1:aC),n=j∧(j:Int)≤1∧m.Fr m1∧e 0=.pp 0 g 0 0 b a∧e 1=.d ((aE.root).d b a)∧e 5=.rf 3 0 0 0∧e 6=.rf 4 0 0 0∧e 8=i64 (p.at_)∧e 9=i64 (p.at_+j-1)∧s=m1.au g b a++[⟨0,true,3,[(p.cells b a).map .d]⟩,⟨0,true,3,[[.d (iD 0),.fu [],.d (.sc (.pointer none))]]⟩] ∧
    fT (fun q m=>eS (fun m base p=>bh k true m base p true) m { at_:=q,ak:=p.ak,todo:=.mk 0 (.el kid) 0 0 .nil }) m.p.re.neg p (p.at_) j m1=some x)
   ⟨_,_,_,dw.refl,1,m,rfl,by omega,.refl _,rfl,?_,rfl,rfl,rfl,?_,rfl,hx⟩ ?_
  ·rfl
  ·rw[show (p.at_:Int)+(1:Nat)-1=p.at_ by omega];rfl
  clear hx
  rintro n e s ⟨j,m1,rfl,hj,kM,h0,h1,h5,h6,h8,h9,rfl,hx⟩
  have dr:=kM.p
  have gQ:=h1
  simp only[aE.d,Re.ae,iD,bD]at gQ
  rw[← dr]at hk eh d8 hx
  have TZ:m.p.re=m1.p.re:=by rw[dr]
  cases n with
  |zero =>
   simp only[fT,WX]at hx
   cases hx
   rw[show (p.at_:Int)+((0:Nat):Int)-1=p.at_-1 by omega]at h9
   have hle:¬(p.at_:Int)≤p.at_-1:=by omega
   unfold aC.au aC.az
   cases hn:m1.p.re.neg with
   |true =>
    simp only[zX,simprocAttr,zM,aJ,h0,gQ,h5,h6,h8,h9,d8,eh,hk,hle,ge_iff_le]
    refine aq mix [] [(0,[3],[]),(2,[0],[]),(3,[0],[]),(4,[0],[]),(7,[0],[]),(8,[0],[]),(9,[0],[]),(12,[4],[4])] (by rfl) ?_
    simp only[zX,simprocAttr,zM,aJ,h0,gQ,h5,h6,h8,h9,d8,eh,hk,hn]
    first|exact⟨an m1 b a,rfl⟩|exact an m1 b a
   |false =>
    simp only[zX,simprocAttr,zM,aJ,h0,gQ,h5,h6,h8,h9,d8,eh,hk,hle,ge_iff_le]
    refine aq mix [] [(0,[3],[]),(2,[0],[]),(3,[0],[]),(4,[0],[]),(7,[0],[]),(8,[0],[]),(9,[0],[]),(12,[4],[4])] (by rfl) ?_
    simp only[zX,simprocAttr,zM,aJ,h0,gQ,h5,h6,h8,h9,d8,eh,hk,hn]
    first|exact⟨an m1 b a,rfl⟩|exact an m1 b a
  |succ j =>
   rw[show (p.at_:Int)+((j+1:Nat):Int)-1=p.at_+(j:Int) by omega]at h9
   have hle:(p.at_:Int)≤p.at_+(j:Int):=by omega
   simp only[fT]at hx
   by_cases he:m1.aK=true
   ·rw[if_pos he]at hx
    cases hx
    unfold aC.au aC.az
    cases hn:m1.p.re.neg with
    |true =>
     simp only[zX,simprocAttr,zM,aJ,h0,gQ,h5,h6,h8,h9,d8,eh,hk,hle,he,ge_iff_le]
     refine aq mix [] [(0,[3],[]),(2,[0],[]),(3,[0],[]),(4,[0],[]),(7,[0],[]),(8,[0],[]),(9,[0],[]),(12,[4],[4])] (by rfl) ?_
     simp only[zX,simprocAttr,zM,aJ,h0,gQ,h5,h6,h8,h9,d8,eh,hk,hn]
     first|exact⟨an m1 b a,rfl⟩|exact an m1 b a
    |false =>
     simp only[zX,simprocAttr,zM,aJ,h0,gQ,h5,h6,h8,h9,d8,eh,hk,hle,he,ge_iff_le]
     refine aq mix [] [(0,[3],[]),(2,[0],[]),(3,[0],[]),(4,[0],[]),(7,[0],[]),(8,[0],[]),(9,[0],[]),(12,[4],[4])] (by rfl) ?_
     simp only[zX,simprocAttr,zM,aJ,h0,gQ,h5,h6,h8,h9,d8,eh,hk,hn]
     first|exact⟨an m1 b a,rfl⟩|exact an m1 b a
   ·rw[if_neg he]at hx
    have he:m1.aK=false:=by simpa using he
    cases hs:eS (fun m base p=>bh k true m base p true) m1 { at_:=p.at_+(j:Int),ak:=p.ak,todo:=.mk 0 (.el kid) 0 0 .nil } with
    |none=>rw[hs]at hx;cases hx
    |some y =>
     obtain⟨m2,r,found⟩:=y
     rw[hs]at hx
     simp only at hx
     have sR:m1.Fr m2:=nK (fun m base p x h=>mr k true m base p true x h) hs
     have aW:=fun ext=>bn (nC ih g b a m1 _ hs) rfl rfl rfl ext
     unfold aC.au aC.az at aW
     simp only[zM,aJ,aG.d,aE.d,Re.ae,he]at aW
     unfold aC.au aC.az
     simp only[zX,simprocAttr,zM,aJ,h0,gQ,h5,h6,h8,h9,d8,eh,hk,he,hle,ge_iff_le,Re.ae]
     refine aD yT rfl rfl ?_
     simp only[zX,simprocAttr,zM,aJ,h0,gQ,h5,h6,h8,h9,d8,eh,hk,Re.ae]
     refine aj (aW _) (fun v s' hv=>?_);obtain⟨rfl,rfl⟩:=hv
     cases found with
     |false =>
      simp only[W2,if_false]at hx
      simp only[zX,simprocAttr,zM,aJ,h0,gQ,h5,h6,h8,h9,d8,eh,hk]
      refine⟨j,_,_,by omega,dw.cut (s':=m2.au g b a++[⟨0,true,3,[(p.cells b a).map .d]⟩,⟨0,true,3,[[.d (iD 0),.fu [],.d (.sc (.pointer none))]]⟩]) 5 (by omega) rfl ?_ [0,1,5,6,8,9] ?_,j,m2,rfl,by omega,kM.trans sR,?_,?_,?_,?_,?_,?_,rfl,by rw[TZ];exact hx⟩ <;> (try simp only[zU,Nat.reduceBEq,Nat.reduceShiftRight,Nat.reduceMod,Nat.reduceEqDiff,reduceIte])
      ·rw[XI,show (m2.au g b a).all (cU 5)=true from fg g b a m2 _ 5 (by omega) (show ao 5 m2.text=true by unfold aC.text;split <;> rfl)];rfl
      ·simp [bW,ba,ao,i64,h0,gQ,h5,h6,h8,h9]
      ·exact h0
      ·first|exact h1|exact gQ
      ·exact h5
      ·exact h6
      ·exact h8
      ·rw[bU _ (by omega)]
     |true =>
      simp only[if_true]at hx
      cases cu:m1.p.re.neg with
      |true =>
       have pF:=cu;rw[← sR.p]at pF
       rw[cu]at hx
       cases hx
       simp only[zX,simprocAttr,zM,aJ,h0,gQ,h5,h6,h8,h9,d8,eh,hk,pF]
       first|exact⟨an m2 b a,rfl⟩|exact an m2 b a
      |false =>
       have pF:=cu;rw[← sR.p]at pF
       rw[cu]at hx
       cases hx
       simp only[zX,simprocAttr,zM,aJ,h0,gQ,h5,h6,h8,h9,d8,eh,hk,pF]
       first|exact⟨an m2 b a,rfl⟩|exact an m2 b a
end Go.Proofs.YtmihcpdhcillaaaGreat
