/- A part of the proof (G30 G32). -/
import Derived.Test.YtllagoeijcjpiaaBD34
import Derived.Test.YtllagoeijcjpiaaBD22
set_option linter.unusedSimpArgs false
set_option linter.unusedVariables false
set_option maxRecDepth 100000
set_option maxHeartbeats 80000000
namespace Go.Proofs.Ytllagoeijcjpiaa
open Go.VL Go.Proofs.Try
def bz (k:Nat):Prop:=∀g b a m base p alive x,aQ k true m base p alive=some x→az prog 52 [.pp 0 g 0 0 b a,i64 (base:Nat),p.v b a,bV alive] (m.aF g b a) fun v s=>v=aR b a x.2.1 x.2.2∧s=x.1.aF g b a
theorem Hk (m:aB) (b a base:Nat) (h:base≤m.top):gq (m.dY.map (F5 b a)) base (List.replicate (m.top-base) [V.d (D.sc (.int .i64 0)),.fu [],.d (D.sc (.pointer none))])=(m.clear base).dY.map (F5 b a):=by
 unfold gq aB.clear
 simp only[WA,List.map_take,List.map_drop,List.map_replicate,V7,F5,VY]
 rw[show base+(m.top-base)=m.top by omega]
theorem na {k:Nat} (ih:bz k) (g b a:Nat) (m:aB) (p:ao) {x:Rs} (hx:bY (fun m base p=>aQ k true m base p true) m p=some x) :
  az prog 167 [.pp 0 g 0 0 b a,p.v b a] (m.aF g b a) fun v s=>v=aR b a x.2.1 x.2.2∧s=x.1.aF g b a:=by
 simp only[bY]at hx
 cases hs:aQ k true m m.top p true with
 |none=>rw[hs]at hx;cases hx
 |some y =>
  obtain⟨m1,p1,found⟩:=y
  rw[hs]at hx
  simp only at hx
  split at hx
  ·cases hx
  rename_i hc
  cases hx
  have aH:=fun ext=>br (ih g b a m m.top p true _ hs) rfl rfl rfl ext
  have q1:m.top≤m1.top:=by omega
  have q2:m1.top≤m1.dY.length:=by omega
  have q3:(m.top:Int)≤(m1.top:Int):=by omega
  have q4:(0:Int)≤(m.top:Int):=by omega
  have m6:min m1.top m1.dY.length=m1.top:=by omega
  have cI:=Hk m1 b a m.top q1
  unfold aB.aF aB.aA at aH
  simp only[zM,aR]at aH
  unfold aB.aF aB.aA
  refine av func167 rfl ntmps167 results167 rfl 3 251 (by simp) (by simp) ?_
  simp only[zX,simprocAttr,zM,aR]
  refine aj (aH _) (fun v s' hv=>?_);obtain⟨rfl,rfl⟩:=hv
  have Oz:((m1.top:Int)-(m.top:Int)).toNat=m1.top-m.top:=by omega
  have hlen:(m1.clear m.top).dY.length=m1.dY.length:=by
   simp only[aB.clear,VN,V3,V7,List.length_drop]
   omega
  have q7:m1.top≤(m1.clear m.top).dY.length:=by omega
  have MG:min m1.top (m1.clear m.top).dY.length=m1.top:=by omega
  rcases VX m.top m1.top with q5|q5
  ·have q6:(m.top:Int)<(m1.top:Int):=by omega
   simp only[zX,simprocAttr,zM,aR,q1,q2,q3,q4,q6,q7,m6,MG,Oz,cI,V3,Vv,VR,VU,or_true,kW,Vr,VA,Int.sub_zero]
   exact⟨by omega,ak (m1.clear m.top) b a,rfl⟩
  ·have q8:m1.top=m.top:=by omega
   have q6:¬(m.top:Int)<(m1.top:Int):=by omega
   by_cases z:(m.top:Int)=0
   ·have y:=eq_true z
    simp only[zX,simprocAttr,zM,aR,q1,q2,q3,q4,q6,q7,y,m6,MG,Oz,cI,V3,Vv,VR,VU,true_or,kW,Vr,VA,Int.sub_zero]
    exact⟨by omega,ak (m1.clear m.top) b a,rfl⟩
   ·have y:=eq_false z
    have PD:m1.clear m.top=m1:=by
     rw[← q8]
     obtain⟨⟩:=m1
     simp only[aB.clear,Wv,List.replicate_zero,Vx,List.take_append_drop]
    rw[PD]
    simp only[zX,simprocAttr,zM,aR,q1,q2,q3,q4,q6,y,m6,Oz,V3,Vv,VR,VU,true_or,or_false,kW,Vr,VA,Int.sub_zero]
    rw[← q8]
    exact⟨ak m1 b a,rfl⟩
theorem qk {k:Nat} (ih:bz k) (g b a:Nat) (m:aB) (p:ao) (part:aI) {x:Rs} (hx:fp (fun m base p=>aQ k true m base p true) m p part=some x) :
  az prog 151 [.pp 0 g 0 0 b a,p.v b a,.d (part.d b a)] (m.aF g b a) fun v s=>v=aR b a x.2.1 x.2.2∧s=x.1.aF g b a:=by
 unfold fp at hx
 cases hs:bY (fun m base p=>aQ k true m base p true) m { p with todo:=part } with
 |none=>rw[hs]at hx;cases hx
 |some y =>
  obtain⟨m1,r,found⟩:=y
  rw[hs]at hx
  cases hx
  have aH:=fun ext=>br (na ih g b a m _ hs) rfl rfl rfl ext
  unfold aB.aF aB.aA at aH
  simp only[zM,aR]at aH
  unfold aB.aF aB.aA
  refine av func151 rfl ntmps151 results151 rfl 3 983 (by simp) (by simp) ?_
  simp only[zX,simprocAttr,zM,aR]
  refine aj (aH _) (fun v s' hv=>?_);obtain⟨rfl,rfl⟩:=hv
  simp only[zX,simprocAttr,zM,aR]
  exact ak m1 b a
theorem Gq {k:Nat} (ih:bz k) (g b a:Nat) (m:aB) (re:Re) (p:ao) (kid:Re) (l:List Re) (hl:re.kids=kid::l) (TZ:0≤p.at_) (Fh:p.at_≤1000000) {x:Rs} (hx:eX (fun m base p=>aQ k true m base p true) m re kid p=some x) :
  az prog 155 [.pp 0 g 0 0 b a,.d ((aG.el re).d b a),p.v b a] (m.aF g b a) fun v s=>v=aR b a x.2.1 x.2.2∧s=x.1.aF g b a:=by
 have hk:re.kids[0]?=some kid:=by rw[hl];rfl
 have dg:(0:Int)<(re.kids.length:Int):=by rw[hl,VC];omega
 have Ea:=fO b a (.el kid) .nil
 simp only[aI.d,aG.d,Re.ae,iD,bD]at Ea
 clear hl
 unfold eX at hx
 by_cases o8:re.op=8
 ·have d8:decide (re.op=8)=true:=decide_eq_true o8
  rw[if_pos o8,if_pos o8]at hx
  have gR:∀q,cw re.op kid q=.mk 0 (.el kid) 0 0 (.mk 5 .nil 0 q .nil):=fun q=>if_pos o8
  simp only[gR]at hx
  unfold aB.aF aB.aA
  refine av func155 rfl ntmps155 results155 rfl 3 8167 (by simp) (by simp) ?_
  simp only[zX,simprocAttr,zM,aR,aG.d,Re.ae,d8]
  refine aY (fun n e s=>∃(j:Nat) (m1:aB),n=j∧(j:Int)≤p.at_+1∧m.Fr m1∧e 0=.pp 0 g 0 0 b a∧e 1=.d ((aG.el re).d b a)∧e 5=.rf 3 0 0 0∧e 6=.rf 4 0 0 0∧e 8=i64 (0)∧e 9=i64 (0+j-1)∧s=m1.aF g b a++[⟨0,true,3,[(p.cells b a).map .d]⟩,⟨0,true,3,[[.d (iD 0),.fu [],.d (.sc (.pointer none))]]⟩] ∧
    dz (fun q m=>bY (fun m base p=>aQ k true m base p true) m { at_:=q,ai:=p.ai,todo:=.mk 0 (.el kid) 0 0 (.mk 5 .nil 0 p.at_ .nil) }) re.neg p (0) j m1=some x)
   ⟨_,_,_,dt.refl,(p.at_.toNat+1),m,rfl,by omega,.refl _,rfl,?_,rfl,rfl,rfl,?_,rfl,hx⟩ ?_
  ·rw[aG.d,Re.ae];rfl
  ·rw[show (0:Int)+((p.at_.toNat+1):Nat)-1=p.at_ by omega];rfl
  clear hx
  rintro n e s ⟨j,m1,rfl,hj,yl,h0,h1,h5,h6,h8,h9,rfl,hx⟩
  have eD:=yl.p
  have gX:=h1
  simp only[aG.d,Re.ae,iD,bD]at gX
  cases n with
  |zero =>
   simp only[dz,Option.some.injEq]at hx
   cases hx
   rw[show (0:Int)+((0:Nat):Int)-1=0-1 by omega]at h9
   have hle:¬(0:Int)≤0-1:=by omega
   unfold aB.aF aB.aA
   cases hn:re.neg with
   |true =>
    simp only[zX,simprocAttr,zM,aR,h0,gX,h5,h6,h8,h9,d8,dg,hk,hle,ge_iff_le]
    refine an mix [] [(0,[3],[]),(2,[0],[]),(3,[0],[]),(4,[0],[]),(7,[0],[]),(8,[0],[]),(9,[0],[]),(12,[4],[4])] (by rfl) ?_
    simp only[zX,simprocAttr,zM,aR,h0,gX,h5,h6,h8,h9,d8,dg,hk,hn]
    first|exact⟨ak m1 b a,rfl⟩|exact ak m1 b a
   |false =>
    simp only[zX,simprocAttr,zM,aR,h0,gX,h5,h6,h8,h9,d8,dg,hk,hle,ge_iff_le]
    refine an mix [] [(0,[3],[]),(2,[0],[]),(3,[0],[]),(4,[0],[]),(7,[0],[]),(8,[0],[]),(9,[0],[]),(12,[4],[4])] (by rfl) ?_
    simp only[zX,simprocAttr,zM,aR,h0,gX,h5,h6,h8,h9,d8,dg,hk,hn]
    first|exact⟨ak m1 b a,rfl⟩|exact ak m1 b a
  |succ j =>
   rw[show (0:Int)+((j+1:Nat):Int)-1=0+(j:Int) by omega]at h9
   have hle:(0:Int)≤0+(j:Int):=by omega
   simp only[dz]at hx
   by_cases he:m1.aW=true
   ·rw[if_pos he]at hx
    cases hx
    unfold aB.aF aB.aA
    cases hn:re.neg with
    |true =>
     simp only[zX,simprocAttr,zM,aR,h0,gX,h5,h6,h8,h9,d8,dg,hk,hle,he,ge_iff_le]
     refine an mix [] [(0,[3],[]),(2,[0],[]),(3,[0],[]),(4,[0],[]),(7,[0],[]),(8,[0],[]),(9,[0],[]),(12,[4],[4])] (by rfl) ?_
     simp only[zX,simprocAttr,zM,aR,h0,gX,h5,h6,h8,h9,d8,dg,hk,hn]
     first|exact⟨ak m1 b a,rfl⟩|exact ak m1 b a
    |false =>
     simp only[zX,simprocAttr,zM,aR,h0,gX,h5,h6,h8,h9,d8,dg,hk,hle,he,ge_iff_le]
     refine an mix [] [(0,[3],[]),(2,[0],[]),(3,[0],[]),(4,[0],[]),(7,[0],[]),(8,[0],[]),(9,[0],[]),(12,[4],[4])] (by rfl) ?_
     simp only[zX,simprocAttr,zM,aR,h0,gX,h5,h6,h8,h9,d8,dg,hk,hn]
     first|exact⟨ak m1 b a,rfl⟩|exact ak m1 b a
   ·rw[if_neg he]at hx
    have he:m1.aW=false:=by simpa using he
    cases hs:bY (fun m base p=>aQ k true m base p true) m1 { at_:=0+(j:Int),ai:=p.ai,todo:=.mk 0 (.el kid) 0 0 (.mk 5 .nil 0 p.at_ .nil) } with
    |none=>rw[hs]at hx;cases hx
    |some y =>
     obtain⟨m2,r,found⟩:=y
     rw[hs]at hx
     simp only at hx
     have xO:m1.Fr m2:=nF (fun m base p x h=>iM k true m base p true x h) hs
     have aH:=fun ext=>br (na ih g b a m1 _ hs) rfl rfl rfl ext
     unfold aB.aF aB.aA at aH
     simp only[zM,aR,aI.d,aG.d,Re.ae,he]at aH
     unfold aB.aF aB.aA
     simp only[zX,simprocAttr,zM,aR,h0,gX,h5,h6,h8,h9,d8,dg,hk,he,hle,ge_iff_le,Re.ae]
     refine aE Ea rfl rfl ?_
     simp only[zX,simprocAttr,zM,aR,h0,gX,h5,h6,h8,h9,d8,dg,hk,Re.ae]
     refine aK bL.aV ?_
     refine an mix [9] [(1,[0],[]),(2,[0],[]),(3,[0],[]),(5,[3],[]),(6,[3],[]),(8,[5],[5])] (by rfl) ?_
     simp only[zX,simprocAttr,zM,aR,hole,h0,gX,h5,h6,h8,h9,d8,dg,hk]
     refine bn (aP [5] (by simp [bk,bA,aZ.go,aZ,bQ,aI.d,aG.d,Re.ae,iD,bD]) (aE (fO b a (.el kid) (.mk 5 .nil 0 p.at_ .nil)) rfl rfl ⟨rfl,rfl⟩)) ?_
     simp only[zX,simprocAttr,zM,aR,h0,gX,h5,h6,h8,h9,d8,dg,hk,bk,bA,aG.d,aI.d,Re.ae]
     refine aj (aH _) (fun v s' hv=>?_);obtain⟨rfl,rfl⟩:=hv
     cases found with
     |false =>
      simp only[Vw,if_false]at hx
      simp only[zX,simprocAttr,zM,aR,h0,gX,h5,h6,h8,h9,d8,dg,hk]
      refine⟨j,_,_,by omega,dt.cut (s':=m2.aF g b a++[⟨0,true,3,[(p.cells b a).map .d]⟩,⟨0,true,3,[[.d (iD 0),.fu [],.d (.sc (.pointer none))]]⟩]) 5 (by omega) rfl ?_ [0,1,5,6,8,9] ?_,j,m2,rfl,by omega,yl.trans xO,?_,?_,?_,?_,?_,?_,rfl,hx⟩ <;> (try simp only[zU,Nat.reduceBEq,Nat.reduceShiftRight,Nat.reduceMod,Nat.reduceEqDiff,reduceIte])
      ·rw[Wi,show (m2.aF g b a).all (cP 5)=true from ff g b a m2 _ 5 (by omega) (show ar 5 m2.text=true by unfold aB.text;split <;> rfl)];rfl
      ·simp [cu,bg,ar,i64,h0,gX,h5,h6,h8,h9]
      ·exact h0
      ·first|exact h1|exact gX
      ·exact h5
      ·exact h6
      ·exact h8
      ·rw[bR _ (by omega)]
     |true =>
      simp only[if_true]at hx
      cases ca:re.neg with
      |true =>
       skip
       rw[ca]at hx
       cases hx
       simp only[zX,simprocAttr,zM,aR,h0,gX,h5,h6,h8,h9,d8,dg,hk,ca]
       first|exact⟨ak m2 b a,rfl⟩|exact ak m2 b a
      |false =>
       skip
       rw[ca]at hx
       cases hx
       simp only[zX,simprocAttr,zM,aR,h0,gX,h5,h6,h8,h9,d8,dg,hk,ca]
       first|exact⟨ak m2 b a,rfl⟩|exact ak m2 b a
 ·have d8:decide (re.op=8)=false:=decide_eq_false o8
  rw[if_neg o8,if_neg o8]at hx
  have gR:∀q,cw re.op kid q=.mk 0 (.el kid) 0 0 .nil:=fun q=>if_neg o8
  simp only[gR]at hx
  unfold aB.aF aB.aA
  refine av func155 rfl ntmps155 results155 rfl 3 8167 (by simp) (by simp) ?_
  simp only[zX,simprocAttr,zM,aR,aG.d,Re.ae,d8]
  refine aY (fun n e s=>∃(j:Nat) (m1:aB),n=j∧(j:Int)≤1∧m.Fr m1∧e 0=.pp 0 g 0 0 b a∧e 1=.d ((aG.el re).d b a)∧e 5=.rf 3 0 0 0∧e 6=.rf 4 0 0 0∧e 8=i64 (p.at_)∧e 9=i64 (p.at_+j-1)∧s=m1.aF g b a++[⟨0,true,3,[(p.cells b a).map .d]⟩,⟨0,true,3,[[.d (iD 0),.fu [],.d (.sc (.pointer none))]]⟩] ∧
    dz (fun q m=>bY (fun m base p=>aQ k true m base p true) m { at_:=q,ai:=p.ai,todo:=.mk 0 (.el kid) 0 0 .nil }) re.neg p (p.at_) j m1=some x)
   ⟨_,_,_,dt.refl,1,m,rfl,by omega,.refl _,rfl,?_,rfl,rfl,rfl,?_,rfl,hx⟩ ?_
  ·rw[aG.d,Re.ae];rfl
  ·rw[show (p.at_:Int)+(1:Nat)-1=p.at_ by omega];rfl
  clear hx
  rintro n e s ⟨j,m1,rfl,hj,yl,h0,h1,h5,h6,h8,h9,rfl,hx⟩
  have eD:=yl.p
  have gX:=h1
  simp only[aG.d,Re.ae,iD,bD]at gX
  cases n with
  |zero =>
   simp only[dz,Option.some.injEq]at hx
   cases hx
   rw[show (p.at_:Int)+((0:Nat):Int)-1=p.at_-1 by omega]at h9
   have hle:¬(p.at_:Int)≤p.at_-1:=by omega
   unfold aB.aF aB.aA
   cases hn:re.neg with
   |true =>
    simp only[zX,simprocAttr,zM,aR,h0,gX,h5,h6,h8,h9,d8,dg,hk,hle,ge_iff_le]
    refine an mix [] [(0,[3],[]),(2,[0],[]),(3,[0],[]),(4,[0],[]),(7,[0],[]),(8,[0],[]),(9,[0],[]),(12,[4],[4])] (by rfl) ?_
    simp only[zX,simprocAttr,zM,aR,h0,gX,h5,h6,h8,h9,d8,dg,hk,hn]
    first|exact⟨ak m1 b a,rfl⟩|exact ak m1 b a
   |false =>
    simp only[zX,simprocAttr,zM,aR,h0,gX,h5,h6,h8,h9,d8,dg,hk,hle,ge_iff_le]
    refine an mix [] [(0,[3],[]),(2,[0],[]),(3,[0],[]),(4,[0],[]),(7,[0],[]),(8,[0],[]),(9,[0],[]),(12,[4],[4])] (by rfl) ?_
    simp only[zX,simprocAttr,zM,aR,h0,gX,h5,h6,h8,h9,d8,dg,hk,hn]
    first|exact⟨ak m1 b a,rfl⟩|exact ak m1 b a
  |succ j =>
   rw[show (p.at_:Int)+((j+1:Nat):Int)-1=p.at_+(j:Int) by omega]at h9
   have hle:(p.at_:Int)≤p.at_+(j:Int):=by omega
   simp only[dz]at hx
   by_cases he:m1.aW=true
   ·rw[if_pos he]at hx
    cases hx
    unfold aB.aF aB.aA
    cases hn:re.neg with
    |true =>
     simp only[zX,simprocAttr,zM,aR,h0,gX,h5,h6,h8,h9,d8,dg,hk,hle,he,ge_iff_le]
     refine an mix [] [(0,[3],[]),(2,[0],[]),(3,[0],[]),(4,[0],[]),(7,[0],[]),(8,[0],[]),(9,[0],[]),(12,[4],[4])] (by rfl) ?_
     simp only[zX,simprocAttr,zM,aR,h0,gX,h5,h6,h8,h9,d8,dg,hk,hn]
     first|exact⟨ak m1 b a,rfl⟩|exact ak m1 b a
    |false =>
     simp only[zX,simprocAttr,zM,aR,h0,gX,h5,h6,h8,h9,d8,dg,hk,hle,he,ge_iff_le]
     refine an mix [] [(0,[3],[]),(2,[0],[]),(3,[0],[]),(4,[0],[]),(7,[0],[]),(8,[0],[]),(9,[0],[]),(12,[4],[4])] (by rfl) ?_
     simp only[zX,simprocAttr,zM,aR,h0,gX,h5,h6,h8,h9,d8,dg,hk,hn]
     first|exact⟨ak m1 b a,rfl⟩|exact ak m1 b a
   ·rw[if_neg he]at hx
    have he:m1.aW=false:=by simpa using he
    cases hs:bY (fun m base p=>aQ k true m base p true) m1 { at_:=p.at_+(j:Int),ai:=p.ai,todo:=.mk 0 (.el kid) 0 0 .nil } with
    |none=>rw[hs]at hx;cases hx
    |some y =>
     obtain⟨m2,r,found⟩:=y
     rw[hs]at hx
     simp only at hx
     have xO:m1.Fr m2:=nF (fun m base p x h=>iM k true m base p true x h) hs
     have aH:=fun ext=>br (na ih g b a m1 _ hs) rfl rfl rfl ext
     unfold aB.aF aB.aA at aH
     simp only[zM,aR,aI.d,aG.d,Re.ae,he]at aH
     unfold aB.aF aB.aA
     simp only[zX,simprocAttr,zM,aR,h0,gX,h5,h6,h8,h9,d8,dg,hk,he,hle,ge_iff_le,Re.ae]
     refine aE Ea rfl rfl ?_
     simp only[zX,simprocAttr,zM,aR,h0,gX,h5,h6,h8,h9,d8,dg,hk,Re.ae]
     refine aj (aH _) (fun v s' hv=>?_);obtain⟨rfl,rfl⟩:=hv
     cases found with
     |false =>
      simp only[Vw,if_false]at hx
      simp only[zX,simprocAttr,zM,aR,h0,gX,h5,h6,h8,h9,d8,dg,hk]
      refine⟨j,_,_,by omega,dt.cut (s':=m2.aF g b a++[⟨0,true,3,[(p.cells b a).map .d]⟩,⟨0,true,3,[[.d (iD 0),.fu [],.d (.sc (.pointer none))]]⟩]) 5 (by omega) rfl ?_ [0,1,5,6,8,9] ?_,j,m2,rfl,by omega,yl.trans xO,?_,?_,?_,?_,?_,?_,rfl,hx⟩ <;> (try simp only[zU,Nat.reduceBEq,Nat.reduceShiftRight,Nat.reduceMod,Nat.reduceEqDiff,reduceIte])
      ·rw[Wi,show (m2.aF g b a).all (cP 5)=true from ff g b a m2 _ 5 (by omega) (show ar 5 m2.text=true by unfold aB.text;split <;> rfl)];rfl
      ·simp [cu,bg,ar,i64,h0,gX,h5,h6,h8,h9]
      ·exact h0
      ·first|exact h1|exact gX
      ·exact h5
      ·exact h6
      ·exact h8
      ·rw[bR _ (by omega)]
     |true =>
      simp only[if_true]at hx
      cases ca:re.neg with
      |true =>
       skip
       rw[ca]at hx
       cases hx
       simp only[zX,simprocAttr,zM,aR,h0,gX,h5,h6,h8,h9,d8,dg,hk,ca]
       first|exact⟨ak m2 b a,rfl⟩|exact ak m2 b a
      |false =>
       skip
       rw[ca]at hx
       cases hx
       simp only[zX,simprocAttr,zM,aR,h0,gX,h5,h6,h8,h9,d8,dg,hk,ca]
       first|exact⟨ak m2 b a,rfl⟩|exact ak m2 b a
theorem y6 {k:Nat} (ih:bz k) (g b a:Nat) (m:aB) (p:ao) (kid:Re) (l:List Re) (hl:m.p.re.kids=kid::l) (TZ:0≤p.at_) (Fh:p.at_≤1000000) {x:Rs} (hx:eX (fun m base p=>aQ k true m base p true) m m.p.re kid p=some x) :
  az prog 155 [.pp 0 g 0 0 b a,.d ((aG.root).d b a),p.v b a] (m.aF g b a) fun v s=>v=aR b a x.2.1 x.2.2∧s=x.1.aF g b a:=by
 have hk:m.p.re.kids[0]?=some kid:=by rw[hl];rfl
 have dg:(0:Int)<(m.p.re.kids.length:Int):=by rw[hl,VC];omega
 have Ea:=fO b a (.el kid) .nil
 simp only[aI.d,aG.d,Re.ae,iD,bD]at Ea
 clear hl
 unfold eX at hx
 by_cases o8:m.p.re.op=8
 ·have d8:decide (m.p.re.op=8)=true:=decide_eq_true o8
  rw[if_pos o8,if_pos o8]at hx
  have gR:∀q,cw m.p.re.op kid q=.mk 0 (.el kid) 0 0 (.mk 5 .nil 0 q .nil):=fun q=>if_pos o8
  simp only[gR]at hx
  unfold aB.aF aB.aA
  refine av func155 rfl ntmps155 results155 rfl 3 8167 (by simp) (by simp) ?_
  simp only[zX,simprocAttr,zM,aR,aG.d,Re.ae,d8]
  refine aY (fun n e s=>∃(j:Nat) (m1:aB),n=j∧(j:Int)≤p.at_+1∧m.Fr m1∧e 0=.pp 0 g 0 0 b a∧e 1=.d ((aG.root).d b a)∧e 5=.rf 3 0 0 0∧e 6=.rf 4 0 0 0∧e 8=i64 (0)∧e 9=i64 (0+j-1)∧s=m1.aF g b a++[⟨0,true,3,[(p.cells b a).map .d]⟩,⟨0,true,3,[[.d (iD 0),.fu [],.d (.sc (.pointer none))]]⟩] ∧
    dz (fun q m=>bY (fun m base p=>aQ k true m base p true) m { at_:=q,ai:=p.ai,todo:=.mk 0 (.el kid) 0 0 (.mk 5 .nil 0 p.at_ .nil) }) m.p.re.neg p (0) j m1=some x)
   ⟨_,_,_,dt.refl,(p.at_.toNat+1),m,rfl,by omega,.refl _,rfl,?_,rfl,rfl,rfl,?_,rfl,hx⟩ ?_
  ·rfl
  ·rw[show (0:Int)+((p.at_.toNat+1):Nat)-1=p.at_ by omega];rfl
  clear hx
  rintro n e s ⟨j,m1,rfl,hj,yl,h0,h1,h5,h6,h8,h9,rfl,hx⟩
  have eD:=yl.p
  have gX:=h1
  simp only[aG.d,Re.ae,iD,bD]at gX
  rw[← eD]at hk dg d8 hx
  have Qs:m.p.re=m1.p.re:=by rw[eD]
  cases n with
  |zero =>
   simp only[dz,Option.some.injEq]at hx
   cases hx
   rw[show (0:Int)+((0:Nat):Int)-1=0-1 by omega]at h9
   have hle:¬(0:Int)≤0-1:=by omega
   unfold aB.aF aB.aA
   cases hn:m1.p.re.neg with
   |true =>
    simp only[zX,simprocAttr,zM,aR,h0,gX,h5,h6,h8,h9,d8,dg,hk,hle,ge_iff_le]
    refine an mix [] [(0,[3],[]),(2,[0],[]),(3,[0],[]),(4,[0],[]),(7,[0],[]),(8,[0],[]),(9,[0],[]),(12,[4],[4])] (by rfl) ?_
    simp only[zX,simprocAttr,zM,aR,h0,gX,h5,h6,h8,h9,d8,dg,hk,hn]
    first|exact⟨ak m1 b a,rfl⟩|exact ak m1 b a
   |false =>
    simp only[zX,simprocAttr,zM,aR,h0,gX,h5,h6,h8,h9,d8,dg,hk,hle,ge_iff_le]
    refine an mix [] [(0,[3],[]),(2,[0],[]),(3,[0],[]),(4,[0],[]),(7,[0],[]),(8,[0],[]),(9,[0],[]),(12,[4],[4])] (by rfl) ?_
    simp only[zX,simprocAttr,zM,aR,h0,gX,h5,h6,h8,h9,d8,dg,hk,hn]
    first|exact⟨ak m1 b a,rfl⟩|exact ak m1 b a
  |succ j =>
   rw[show (0:Int)+((j+1:Nat):Int)-1=0+(j:Int) by omega]at h9
   have hle:(0:Int)≤0+(j:Int):=by omega
   simp only[dz]at hx
   by_cases he:m1.aW=true
   ·rw[if_pos he]at hx
    cases hx
    unfold aB.aF aB.aA
    cases hn:m1.p.re.neg with
    |true =>
     simp only[zX,simprocAttr,zM,aR,h0,gX,h5,h6,h8,h9,d8,dg,hk,hle,he,ge_iff_le]
     refine an mix [] [(0,[3],[]),(2,[0],[]),(3,[0],[]),(4,[0],[]),(7,[0],[]),(8,[0],[]),(9,[0],[]),(12,[4],[4])] (by rfl) ?_
     simp only[zX,simprocAttr,zM,aR,h0,gX,h5,h6,h8,h9,d8,dg,hk,hn]
     first|exact⟨ak m1 b a,rfl⟩|exact ak m1 b a
    |false =>
     simp only[zX,simprocAttr,zM,aR,h0,gX,h5,h6,h8,h9,d8,dg,hk,hle,he,ge_iff_le]
     refine an mix [] [(0,[3],[]),(2,[0],[]),(3,[0],[]),(4,[0],[]),(7,[0],[]),(8,[0],[]),(9,[0],[]),(12,[4],[4])] (by rfl) ?_
     simp only[zX,simprocAttr,zM,aR,h0,gX,h5,h6,h8,h9,d8,dg,hk,hn]
     first|exact⟨ak m1 b a,rfl⟩|exact ak m1 b a
   ·rw[if_neg he]at hx
    have he:m1.aW=false:=by simpa using he
    cases hs:bY (fun m base p=>aQ k true m base p true) m1 { at_:=0+(j:Int),ai:=p.ai,todo:=.mk 0 (.el kid) 0 0 (.mk 5 .nil 0 p.at_ .nil) } with
    |none=>rw[hs]at hx;cases hx
    |some y =>
     obtain⟨m2,r,found⟩:=y
     rw[hs]at hx
     simp only at hx
     have xO:m1.Fr m2:=nF (fun m base p x h=>iM k true m base p true x h) hs
     have aH:=fun ext=>br (na ih g b a m1 _ hs) rfl rfl rfl ext
     unfold aB.aF aB.aA at aH
     simp only[zM,aR,aI.d,aG.d,Re.ae,he]at aH
     unfold aB.aF aB.aA
     simp only[zX,simprocAttr,zM,aR,h0,gX,h5,h6,h8,h9,d8,dg,hk,he,hle,ge_iff_le,Re.ae]
     refine aE Ea rfl rfl ?_
     simp only[zX,simprocAttr,zM,aR,h0,gX,h5,h6,h8,h9,d8,dg,hk,Re.ae]
     refine aK bL.aV ?_
     refine an mix [9] [(1,[0],[]),(2,[0],[]),(3,[0],[]),(5,[3],[]),(6,[3],[]),(8,[5],[5])] (by rfl) ?_
     simp only[zX,simprocAttr,zM,aR,hole,h0,gX,h5,h6,h8,h9,d8,dg,hk]
     refine bn (aP [5] (by simp [bk,bA,aZ.go,aZ,bQ,aI.d,aG.d,Re.ae,iD,bD]) (aE (fO b a (.el kid) (.mk 5 .nil 0 p.at_ .nil)) rfl rfl ⟨rfl,rfl⟩)) ?_
     simp only[zX,simprocAttr,zM,aR,h0,gX,h5,h6,h8,h9,d8,dg,hk,bk,bA,aG.d,aI.d,Re.ae]
     refine aj (aH _) (fun v s' hv=>?_);obtain⟨rfl,rfl⟩:=hv
     cases found with
     |false =>
      simp only[Vw,if_false]at hx
      simp only[zX,simprocAttr,zM,aR,h0,gX,h5,h6,h8,h9,d8,dg,hk]
      refine⟨j,_,_,by omega,dt.cut (s':=m2.aF g b a++[⟨0,true,3,[(p.cells b a).map .d]⟩,⟨0,true,3,[[.d (iD 0),.fu [],.d (.sc (.pointer none))]]⟩]) 5 (by omega) rfl ?_ [0,1,5,6,8,9] ?_,j,m2,rfl,by omega,yl.trans xO,?_,?_,?_,?_,?_,?_,rfl,by rw[Qs];exact hx⟩ <;> (try simp only[zU,Nat.reduceBEq,Nat.reduceShiftRight,Nat.reduceMod,Nat.reduceEqDiff,reduceIte])
      ·rw[Wi,show (m2.aF g b a).all (cP 5)=true from ff g b a m2 _ 5 (by omega) (show ar 5 m2.text=true by unfold aB.text;split <;> rfl)];rfl
      ·simp [cu,bg,ar,i64,h0,gX,h5,h6,h8,h9]
      ·exact h0
      ·first|exact h1|exact gX
      ·exact h5
      ·exact h6
      ·exact h8
      ·rw[bR _ (by omega)]
     |true =>
      simp only[if_true]at hx
      cases ca:m1.p.re.neg with
      |true =>
       have pA:=ca;rw[← xO.p]at pA
       rw[ca]at hx
       cases hx
       simp only[zX,simprocAttr,zM,aR,h0,gX,h5,h6,h8,h9,d8,dg,hk,pA]
       first|exact⟨ak m2 b a,rfl⟩|exact ak m2 b a
      |false =>
       have pA:=ca;rw[← xO.p]at pA
       rw[ca]at hx
       cases hx
       simp only[zX,simprocAttr,zM,aR,h0,gX,h5,h6,h8,h9,d8,dg,hk,pA]
       first|exact⟨ak m2 b a,rfl⟩|exact ak m2 b a
 ·have d8:decide (m.p.re.op=8)=false:=decide_eq_false o8
  rw[if_neg o8,if_neg o8]at hx
  have gR:∀q,cw m.p.re.op kid q=.mk 0 (.el kid) 0 0 .nil:=fun q=>if_neg o8
  simp only[gR]at hx
  unfold aB.aF aB.aA
  refine av func155 rfl ntmps155 results155 rfl 3 8167 (by simp) (by simp) ?_
  simp only[zX,simprocAttr,zM,aR,aG.d,Re.ae,d8]
  refine aY (fun n e s=>∃(j:Nat) (m1:aB),n=j∧(j:Int)≤1∧m.Fr m1∧e 0=.pp 0 g 0 0 b a∧e 1=.d ((aG.root).d b a)∧e 5=.rf 3 0 0 0∧e 6=.rf 4 0 0 0∧e 8=i64 (p.at_)∧e 9=i64 (p.at_+j-1)∧s=m1.aF g b a++[⟨0,true,3,[(p.cells b a).map .d]⟩,⟨0,true,3,[[.d (iD 0),.fu [],.d (.sc (.pointer none))]]⟩] ∧
    dz (fun q m=>bY (fun m base p=>aQ k true m base p true) m { at_:=q,ai:=p.ai,todo:=.mk 0 (.el kid) 0 0 .nil }) m.p.re.neg p (p.at_) j m1=some x)
   ⟨_,_,_,dt.refl,1,m,rfl,by omega,.refl _,rfl,?_,rfl,rfl,rfl,?_,rfl,hx⟩ ?_
  ·rfl
  ·rw[show (p.at_:Int)+(1:Nat)-1=p.at_ by omega];rfl
  clear hx
  rintro n e s ⟨j,m1,rfl,hj,yl,h0,h1,h5,h6,h8,h9,rfl,hx⟩
  have eD:=yl.p
  have gX:=h1
  simp only[aG.d,Re.ae,iD,bD]at gX
  rw[← eD]at hk dg d8 hx
  have Qs:m.p.re=m1.p.re:=by rw[eD]
  cases n with
  |zero =>
   simp only[dz,Option.some.injEq]at hx
   cases hx
   rw[show (p.at_:Int)+((0:Nat):Int)-1=p.at_-1 by omega]at h9
   have hle:¬(p.at_:Int)≤p.at_-1:=by omega
   unfold aB.aF aB.aA
   cases hn:m1.p.re.neg with
   |true =>
    simp only[zX,simprocAttr,zM,aR,h0,gX,h5,h6,h8,h9,d8,dg,hk,hle,ge_iff_le]
    refine an mix [] [(0,[3],[]),(2,[0],[]),(3,[0],[]),(4,[0],[]),(7,[0],[]),(8,[0],[]),(9,[0],[]),(12,[4],[4])] (by rfl) ?_
    simp only[zX,simprocAttr,zM,aR,h0,gX,h5,h6,h8,h9,d8,dg,hk,hn]
    first|exact⟨ak m1 b a,rfl⟩|exact ak m1 b a
   |false =>
    simp only[zX,simprocAttr,zM,aR,h0,gX,h5,h6,h8,h9,d8,dg,hk,hle,ge_iff_le]
    refine an mix [] [(0,[3],[]),(2,[0],[]),(3,[0],[]),(4,[0],[]),(7,[0],[]),(8,[0],[]),(9,[0],[]),(12,[4],[4])] (by rfl) ?_
    simp only[zX,simprocAttr,zM,aR,h0,gX,h5,h6,h8,h9,d8,dg,hk,hn]
    first|exact⟨ak m1 b a,rfl⟩|exact ak m1 b a
  |succ j =>
   rw[show (p.at_:Int)+((j+1:Nat):Int)-1=p.at_+(j:Int) by omega]at h9
   have hle:(p.at_:Int)≤p.at_+(j:Int):=by omega
   simp only[dz]at hx
   by_cases he:m1.aW=true
   ·rw[if_pos he]at hx
    cases hx
    unfold aB.aF aB.aA
    cases hn:m1.p.re.neg with
    |true =>
     simp only[zX,simprocAttr,zM,aR,h0,gX,h5,h6,h8,h9,d8,dg,hk,hle,he,ge_iff_le]
     refine an mix [] [(0,[3],[]),(2,[0],[]),(3,[0],[]),(4,[0],[]),(7,[0],[]),(8,[0],[]),(9,[0],[]),(12,[4],[4])] (by rfl) ?_
     simp only[zX,simprocAttr,zM,aR,h0,gX,h5,h6,h8,h9,d8,dg,hk,hn]
     first|exact⟨ak m1 b a,rfl⟩|exact ak m1 b a
    |false =>
     simp only[zX,simprocAttr,zM,aR,h0,gX,h5,h6,h8,h9,d8,dg,hk,hle,he,ge_iff_le]
     refine an mix [] [(0,[3],[]),(2,[0],[]),(3,[0],[]),(4,[0],[]),(7,[0],[]),(8,[0],[]),(9,[0],[]),(12,[4],[4])] (by rfl) ?_
     simp only[zX,simprocAttr,zM,aR,h0,gX,h5,h6,h8,h9,d8,dg,hk,hn]
     first|exact⟨ak m1 b a,rfl⟩|exact ak m1 b a
   ·rw[if_neg he]at hx
    have he:m1.aW=false:=by simpa using he
    cases hs:bY (fun m base p=>aQ k true m base p true) m1 { at_:=p.at_+(j:Int),ai:=p.ai,todo:=.mk 0 (.el kid) 0 0 .nil } with
    |none=>rw[hs]at hx;cases hx
    |some y =>
     obtain⟨m2,r,found⟩:=y
     rw[hs]at hx
     simp only at hx
     have xO:m1.Fr m2:=nF (fun m base p x h=>iM k true m base p true x h) hs
     have aH:=fun ext=>br (na ih g b a m1 _ hs) rfl rfl rfl ext
     unfold aB.aF aB.aA at aH
     simp only[zM,aR,aI.d,aG.d,Re.ae,he]at aH
     unfold aB.aF aB.aA
     simp only[zX,simprocAttr,zM,aR,h0,gX,h5,h6,h8,h9,d8,dg,hk,he,hle,ge_iff_le,Re.ae]
     refine aE Ea rfl rfl ?_
     simp only[zX,simprocAttr,zM,aR,h0,gX,h5,h6,h8,h9,d8,dg,hk,Re.ae]
     refine aj (aH _) (fun v s' hv=>?_);obtain⟨rfl,rfl⟩:=hv
     cases found with
     |false =>
      simp only[Vw,if_false]at hx
      simp only[zX,simprocAttr,zM,aR,h0,gX,h5,h6,h8,h9,d8,dg,hk]
      refine⟨j,_,_,by omega,dt.cut (s':=m2.aF g b a++[⟨0,true,3,[(p.cells b a).map .d]⟩,⟨0,true,3,[[.d (iD 0),.fu [],.d (.sc (.pointer none))]]⟩]) 5 (by omega) rfl ?_ [0,1,5,6,8,9] ?_,j,m2,rfl,by omega,yl.trans xO,?_,?_,?_,?_,?_,?_,rfl,by rw[Qs];exact hx⟩ <;> (try simp only[zU,Nat.reduceBEq,Nat.reduceShiftRight,Nat.reduceMod,Nat.reduceEqDiff,reduceIte])
      ·rw[Wi,show (m2.aF g b a).all (cP 5)=true from ff g b a m2 _ 5 (by omega) (show ar 5 m2.text=true by unfold aB.text;split <;> rfl)];rfl
      ·simp [cu,bg,ar,i64,h0,gX,h5,h6,h8,h9]
      ·exact h0
      ·first|exact h1|exact gX
      ·exact h5
      ·exact h6
      ·exact h8
      ·rw[bR _ (by omega)]
     |true =>
      simp only[if_true]at hx
      cases ca:m1.p.re.neg with
      |true =>
       have pA:=ca;rw[← xO.p]at pA
       rw[ca]at hx
       cases hx
       simp only[zX,simprocAttr,zM,aR,h0,gX,h5,h6,h8,h9,d8,dg,hk,pA]
       first|exact⟨ak m2 b a,rfl⟩|exact ak m2 b a
      |false =>
       have pA:=ca;rw[← xO.p]at pA
       rw[ca]at hx
       cases hx
       simp only[zX,simprocAttr,zM,aR,h0,gX,h5,h6,h8,h9,d8,dg,hk,pA]
       first|exact⟨ak m2 b a,rfl⟩|exact ak m2 b a
end Go.Proofs.Ytllagoeijcjpiaa
