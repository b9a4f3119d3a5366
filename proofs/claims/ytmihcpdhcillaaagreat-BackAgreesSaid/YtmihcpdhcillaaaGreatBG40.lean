/- A part of the proof (G28 G29). -/
import Derived.Test.YtmihcpdhcillaaaGreatBG23
set_option linter.unusedSimpArgs false
set_option linter.unusedVariables false
set_option maxRecDepth 100000
set_option maxHeartbeats 80000000
namespace Go.Proofs.YtmihcpdhcillaaaGreat
open Go.VL Go.Proofs.Tryz
theorem Hz (gp:Nat) (kind n at_ x:Int) (rd cd nd:D) :
  av prog 71 [i64 kind,.d rd,i64 n,i64 at_,.rf 0 gp 0 0] [⟨gp,true,3,[[.d (iD x),.d cd,.d nd]]⟩] fun v s=>v=.tu []∧s=[⟨gp,true,3,[[.d (iD x),.d cd,.d (.el [iD kind,rd,iD n,iD at_,nd])]]⟩]:=by
 refine KA func71 rfl ntmps71 results71 rfl 1 31 (by simp) (by simp) ?_
 simp only[zX,simprocAttr,zM,KJ,A2,HM]
theorem nE {gp k:Nat}{kind n at_ x:Int}{rd cd nd:D}{s:List VL.Obj}{K:V→List VL.Obj→Prop} (ho:s[k]?=some ⟨gp,true,3,[[.d (.sc (.int .i64 x)),.d cd,.d nd]]⟩)
  (hk:K (.tu []) (s.set k ⟨gp,true,3,[[.d (.sc (.int .i64 x)),.d cd,.d (.el [.sc (.int .i64 kind),rd,.sc (.int .i64 n),.sc (.int .i64 at_),nd])]]⟩)) :
  av prog 71 [.d (.sc (.int .i64 kind)),.d rd,.d (.sc (.int .i64 n)),.d (.sc (.int .i64 at_)),.rf k gp 0 0] s K :=
 AV k (Hz gp kind n at_ x rd cd nd) rfl rfl rfl ho rfl hk
theorem Iw (gp:Nat) (kind n at_ x:Int) (rd cd nd:D) :
  av prog 94 [i64 kind,.d rd,i64 n,i64 at_,.rf 0 gp 0 0] [⟨gp,true,3,[[.d (iD x),.d cd,.d nd]]⟩] fun v s=>v=.tu []∧s=[⟨gp,true,3,[[.d (iD x),.d cd,.d (.el [iD kind,rd,iD n,iD at_,nd])]]⟩]:=by
 refine KA func94 rfl ntmps94 results94 rfl 1 31 (by simp) (by simp) ?_
 simp only[zX,simprocAttr,zM,KJ,A2,HM]
theorem eJ {gp k:Nat}{kind n at_ x:Int}{rd cd nd:D}{s:List VL.Obj}{K:V→List VL.Obj→Prop} (ho:s[k]?=some ⟨gp,true,3,[[.d (.sc (.int .i64 x)),.d cd,.d nd]]⟩)
  (hk:K (.tu []) (s.set k ⟨gp,true,3,[[.d (.sc (.int .i64 x)),.d cd,.d (.el [.sc (.int .i64 kind),rd,.sc (.int .i64 n),.sc (.int .i64 at_),nd])]]⟩)) :
  av prog 94 [.d (.sc (.int .i64 kind)),.d rd,.d (.sc (.int .i64 n)),.d (.sc (.int .i64 at_)),.rf k gp 0 0] s K :=
 AV k (Iw gp kind n at_ x rd cd nd) rfl rfl rfl ho rfl hk
theorem aC.eR (m:aC):m.step.p=m.p:=by unfold aC.step;split <;> rfl
theorem aC.Cf (m:aC):m.step.top=m.top:=by unfold aC.step;split <;> rfl
theorem aC.CK (m:aC):m.step.cO=m.cO:=by unfold aC.step;split <;> rfl
theorem bn {f:FuncId}{g b a:Nat}{cargs:List V}{m m':aC}{r:V} (h:av prog f cargs (m.au g b a) fun v s=>v=r∧s=m'.au g b a) (ha:cargs.map (bF [0,1,2])=cargs) (td:ao.go 3 cargs=true) (hr:bF [0,1,2] r=r)
  (ext:List VL.Obj):av prog f cargs (m.au g b a++ext) fun v s=>v=r∧s=m'.au g b a++ext:=by
 have KG:∀m:aC,(m.au g b a).map (bX [0,1,2])=m.au g b a:=by
  intro m
  unfold aC.au aC.az
  simp only[WU,WV,X4,and_true]
  refine⟨?_,?_,?_⟩
  ·unfold aC.text;split <;> rfl
  ·unfold bX
   simp only[XS]
   congr 1
   refine XM fun p _=>?_
   cases p <;> rfl
  ·exact sa [0,1,2] m.eP true 1 m.own iD
 refine jt [0,1,2] h (by decide) (by rfl) ?_ ha.symm td (fg g b a m _ 3 (W4 _) (iE m)) hr ?_
 ·have e:(m.au g b a).map (fun o=>some (bX [0,1,2] o))=(m.au g b a).map some:=by
   conv=>rhs;rw[← KG m]
   rw[XS];rfl
  rw[e];rfl
 ·rw[KG]
  exact⟨rfl,rfl⟩
theorem aG.bt (b a:Nat) (kind:Int) (r:aE) (n at_:Int) (nx:aG):(aG.mk kind r n at_ nx).d b a=.el [.sc (.int .i64 kind),r.d b a,.sc (.int .i64 n),.sc (.int .i64 at_),nx.d b a]:=rfl
theorem JK (g b a:Nat) (m:aC) (re:Re) (n at_:Int) (nx:aG) (p:aA) (kid:Re) (hk:re.kids[0]?=some kid) (hm:m.cn p) (nj:0≤n) (fY:n≤10000000000000) {x:Rs} (hx:jm m (.el re) n p=some x) :
  av prog 74 [.pp 0 g 0 0 b a,.d ((aG.mk 2 (.el re) n at_ nx).d b a),p.v b a] (m.au g b a) fun v s=>v=aJ b a x.2.1 x.2.2∧s=x.1.au g b a:=by
 obtain⟨⟨g1,g2,g3,g4⟩,⟨g5,g6,g7⟩,g8,g9⟩:=hm
 have aW:=fun ext=>bn (cI g b a m g1 g2) rfl rfl rfl ext
 unfold jm at hx
 simp only[aC.lit]at hx
 obtain⟨l,hl⟩:∃l,re.kids=kid::l:=by
  cases hh:re.kids with
  |nil=>rw[hh]at hk;cases hk
  |cons y l=>rw[hh]at hk;cases hk;exact⟨l,rfl⟩
 rw[hl]at hx
 simp only at hx
 have eh:(0:Int)<(re.kids.length:Int):=by rw[hl,W3];omega
 clear hl
 have dr:=m.eR
 have Of:=m.CK
 have Cb:=m.Cf
 by_cases c1:m.fuel≤m.steps
 ·rw[if_pos c1]at hx
  cases hx
  have hd:decide (m.steps<m.fuel)=false:=decide_eq_false (by omega)
  simp only[hd]at aW
  unfold aC.au aC.az at aW
  simp only[zM]at aW
  unfold aC.au aC.az
  refine aw func74 rfl ntmps74 results74 rfl 3 2023 (by simp) (by simp) ?_
  simp only[zX,simprocAttr,zM,aG.bt]
  refine aj (aW _) (fun v s' hv=>?_);obtain⟨rfl,rfl⟩:=hv
  simp only[zX,simprocAttr,zM,W0]
  exact⟨an m.step b a,rfl⟩
 ·rw[if_neg c1]at hx
  have hd:decide (m.steps<m.fuel)=true:=decide_eq_true (by omega)
  simp only[hd]at aW
  generalize rF:m.step=m1 at *
  unfold aC.au aC.az at aW
  simp only[zM]at aW
  unfold aC.au aC.az
  have w1:IntKind.i64.wrap (n+1)=n+1:=bU _ (by omega)
  have pG:∀q:aA,av prog 73 [.pp 0 g 0 0 b a,q.v b a] (m1.au g b a) fun v s=>v=.tu []∧s=(m1.push q).au g b a:=fun q=>qM g b a m1 q (by rw[Cb,Of];exact g3) (by rw[Cb];exact g4)
  refine aw func74 rfl ntmps74 results74 rfl 3 2023 (by simp) (by simp) ?_
  simp only[zX,simprocAttr,zM,aG.bt]
  refine aj (aW _) (fun v s' hv=>?_);obtain⟨rfl,rfl⟩:=hv
  simp only[zX,simprocAttr,zM,WY,aE.d,Re.ae,eh,hk]
  refine aH (bM.aP.trans bM.aP) ?_
  refine aq mix [] [(0,[3],[]),(1,[3],[]),(2,[5],[5]),(3,[6],[6]),(4,[5],[5]),(5,[6],[6])] (by rfl) ?_
  simp only[zX,simprocAttr,zM,hole]
  refine aq mix [] [(8,[0],[]),(9,[0],[]),(10,[0],[])] (by rfl) ?_
  by_cases c2:n<re.mn
  ·rw[if_pos c2]at hx
   cases hx
   simp only[zX,simprocAttr,zM,c2,aE.d,Re.ae]
   refine aH bM.aP ?_
   refine aq mix [14] [(10,[3],[]),(11,[3],[]),(13,[7],[7]),(15,[6],[]),(16,[6],[6])] (by rfl) ?_
   simp only[zX,simprocAttr,zM,hole,w1]
   refine bu (aO [7] (by simp [aM,bf,aR.go,aR,bN,aG.bt,aE.d,Re.ae,iD,bD]) (aD (fJ b a (.el kid) (.mk 2 (.el re) (n+1) 0 p.todo)) rfl rfl ⟨rfl,rfl⟩)) ?_
   simp only[zX,simprocAttr,zM,aG.bt,aE.d,Re.ae,aM,bf]
   refine⟨an m1 b a,?_⟩
   simp only[zM,aJ,aG.bt,aE.d,Re.ae]
  ·rw[if_neg c2]at hx
   have MC:=fun ext=>bn (pG { p with todo:=.mk 0 (.el kid) 0 0 (.mk 3 (.el re) (n+1) p.at_ p.todo) }) rfl rfl rfl ext
   have BH:=fun ext=>bn (pG p) rfl rfl rfl ext
   generalize ss:m1.push { p with todo:=.mk 0 (.el kid) 0 0 (.mk 3 (.el re) (n+1) p.at_ p.todo) }=m2 at *
   generalize Pp:m1.push p=m3 at *
   unfold aC.au aC.az at MC BH
   simp only[zM,aG.bt,aE.d,Re.ae]at MC BH
   simp only[zX,simprocAttr,zM,c2,aE.d,Re.ae]
   refine aq mix [] [(4,[0],[]),(5,[0],[]),(6,[0],[]),(17,[0],[]),(18,[0],[]),(19,[0],[])] (by rfl) ?_
   by_cases c3:0≤re.mx∧re.mx≤n
   ·rw[if_pos c3]at hx
    cases hx
    simp only[zX,simprocAttr,zM,c3.1,c3.2,ge_iff_le,aE.d,Re.ae]
    exact⟨an m1 b a,rfl⟩
   ·rw[if_neg c3]at hx
    by_cases c4:0≤re.mx
    ·have c5:¬re.mx≤n:=fun h=>c3 ⟨c4,h⟩
     simp only[zX,simprocAttr,zM,c4,c5,ge_iff_le,aE.d,Re.ae]
     refine aH bM.aP ?_
     refine aq mix [16] [(10,[3],[]),(11,[3],[]),(12,[3],[]),(13,[3],[]),(15,[7],[7]),(17,[6],[]),(18,[6],[6])] (by rfl) ?_
     simp only[zX,simprocAttr,zM,hole,w1]
     refine bu (aO [7] (by simp [aM,bf,aR.go,aR,bN,aG.bt,aE.d,Re.ae,iD,bD]) (aD (fJ b a (.el kid) (.mk 3 (.el re) (n+1) p.at_ p.todo)) rfl rfl ⟨rfl,rfl⟩)) ?_
     by_cases c6:re.mode=1
     ·rw[if_pos c6]at hx
      have d6:decide (re.mode=1)=true:=decide_eq_true c6
      cases hx
      simp only[zX,simprocAttr,zM,aG.bt,aE.d,Re.ae,d6,aM,bf]
      refine aj (MC _) (fun v s' hv=>?_);obtain⟨rfl,rfl⟩:=hv
      simp only[zX,simprocAttr,zM]
      exact⟨an m2 b a,rfl⟩
     ·rw[if_neg c6]at hx
      have d6:decide (re.mode=1)=false:=decide_eq_false c6
      cases hx
      simp only[zX,simprocAttr,zM,aG.bt,aE.d,Re.ae,d6,aM,bf]
      refine aj (BH _) (fun v s' hv=>?_);obtain⟨rfl,rfl⟩:=hv
      simp only[zX,simprocAttr,zM]
      refine⟨an m3 b a,?_⟩
      simp only[zM,aJ,aG.bt,aE.d,Re.ae]
    ·simp only[zX,simprocAttr,zM,c4,ge_iff_le,aE.d,Re.ae]
     refine aH bM.aP ?_
     refine aq mix [16] [(10,[3],[]),(11,[3],[]),(12,[3],[]),(13,[3],[]),(15,[7],[7]),(17,[6],[]),(18,[6],[6])] (by rfl) ?_
     simp only[zX,simprocAttr,zM,hole,w1]
     refine bu (aO [7] (by simp [aM,bf,aR.go,aR,bN,aG.bt,aE.d,Re.ae,iD,bD]) (aD (fJ b a (.el kid) (.mk 3 (.el re) (n+1) p.at_ p.todo)) rfl rfl ⟨rfl,rfl⟩)) ?_
     by_cases c6:re.mode=1
     ·rw[if_pos c6]at hx
      have d6:decide (re.mode=1)=true:=decide_eq_true c6
      cases hx
      simp only[zX,simprocAttr,zM,aG.bt,aE.d,Re.ae,d6,aM,bf]
      refine aj (MC _) (fun v s' hv=>?_);obtain⟨rfl,rfl⟩:=hv
      simp only[zX,simprocAttr,zM]
      exact⟨an m2 b a,rfl⟩
     ·rw[if_neg c6]at hx
      have d6:decide (re.mode=1)=false:=decide_eq_false c6
      cases hx
      simp only[zX,simprocAttr,zM,aG.bt,aE.d,Re.ae,d6,aM,bf]
      refine aj (BH _) (fun v s' hv=>?_);obtain⟨rfl,rfl⟩:=hv
      simp only[zX,simprocAttr,zM]
      refine⟨an m3 b a,?_⟩
      simp only[zM,aJ,aG.bt,aE.d,Re.ae]
theorem EH (g b a:Nat) (m:aC) (n at_:Int) (nx:aG) (p:aA) (kid:Re) (hk:m.p.re.kids[0]?=some kid) (hm:m.cn p) (nj:0≤n) (fY:n≤10000000000000) {x:Rs} (hx:jm m .root n p=some x) :
  av prog 74 [.pp 0 g 0 0 b a,.d ((aG.mk 2 .root n at_ nx).d b a),p.v b a] (m.au g b a) fun v s=>v=aJ b a x.2.1 x.2.2∧s=x.1.au g b a:=by
 obtain⟨⟨g1,g2,g3,g4⟩,⟨g5,g6,g7⟩,g8,g9⟩:=hm
 have aW:=fun ext=>bn (cI g b a m g1 g2) rfl rfl rfl ext
 unfold jm at hx
 simp only[aC.lit]at hx
 obtain⟨l,hl⟩:∃l,m.p.re.kids=kid::l:=by
  cases hh:m.p.re.kids with
  |nil=>rw[hh]at hk;cases hk
  |cons y l=>rw[hh]at hk;cases hk;exact⟨l,rfl⟩
 rw[hl]at hx
 simp only at hx
 have eh:(0:Int)<(m.p.re.kids.length:Int):=by rw[hl,W3];omega
 clear hl
 have dr:=m.eR
 have Of:=m.CK
 have Cb:=m.Cf
 by_cases c1:m.fuel≤m.steps
 ·rw[if_pos c1]at hx
  cases hx
  have hd:decide (m.steps<m.fuel)=false:=decide_eq_false (by omega)
  simp only[hd]at aW
  unfold aC.au aC.az at aW
  simp only[zM]at aW
  unfold aC.au aC.az
  refine aw func74 rfl ntmps74 results74 rfl 3 2023 (by simp) (by simp) ?_
  simp only[zX,simprocAttr,zM,aG.bt]
  refine aj (aW _) (fun v s' hv=>?_);obtain⟨rfl,rfl⟩:=hv
  simp only[zX,simprocAttr,zM,W0]
  exact⟨an m.step b a,rfl⟩
 ·rw[if_neg c1]at hx
  have hd:decide (m.steps<m.fuel)=true:=decide_eq_true (by omega)
  simp only[hd]at aW
  generalize rF:m.step=m1 at *
  rw[← dr]at hk eh hx
  unfold aC.au aC.az at aW
  simp only[zM]at aW
  unfold aC.au aC.az
  have w1:IntKind.i64.wrap (n+1)=n+1:=bU _ (by omega)
  have pG:∀q:aA,av prog 73 [.pp 0 g 0 0 b a,q.v b a] (m1.au g b a) fun v s=>v=.tu []∧s=(m1.push q).au g b a:=fun q=>qM g b a m1 q (by rw[Cb,Of];exact g3) (by rw[Cb];exact g4)
  refine aw func74 rfl ntmps74 results74 rfl 3 2023 (by simp) (by simp) ?_
  simp only[zX,simprocAttr,zM,aG.bt]
  refine aj (aW _) (fun v s' hv=>?_);obtain⟨rfl,rfl⟩:=hv
  simp only[zX,simprocAttr,zM,WY,aE.d,Re.ae,eh,hk]
  refine aH (bM.aP.trans bM.aP) ?_
  refine aq mix [] [(0,[3],[]),(1,[3],[]),(2,[5],[5]),(3,[6],[6]),(4,[5],[5]),(5,[6],[6])] (by rfl) ?_
  simp only[zX,simprocAttr,zM,hole]
  refine aq mix [] [(8,[0],[]),(9,[0],[]),(10,[0],[])] (by rfl) ?_
  by_cases c2:n<m1.p.re.mn
  ·rw[if_pos c2]at hx
   cases hx
   simp only[zX,simprocAttr,zM,c2,aE.d,Re.ae]
   refine aH bM.aP ?_
   refine aq mix [14] [(10,[3],[]),(11,[3],[]),(13,[7],[7]),(15,[6],[]),(16,[6],[6])] (by rfl) ?_
   simp only[zX,simprocAttr,zM,hole,w1]
   refine bu (aO [7] (by simp [aM,bf,aR.go,aR,bN,aG.bt,aE.d,Re.ae,iD,bD]) (aD (fJ b a (.el kid) (.mk 2 .root (n+1) 0 p.todo)) rfl rfl ⟨rfl,rfl⟩)) ?_
   simp only[zX,simprocAttr,zM,aG.bt,aE.d,Re.ae,aM,bf]
   refine⟨an m1 b a,?_⟩
   simp only[zM,aJ,aG.bt,aE.d,Re.ae]
  ·rw[if_neg c2]at hx
   have MC:=fun ext=>bn (pG { p with todo:=.mk 0 (.el kid) 0 0 (.mk 3 .root (n+1) p.at_ p.todo) }) rfl rfl rfl ext
   have BH:=fun ext=>bn (pG p) rfl rfl rfl ext
   generalize ss:m1.push { p with todo:=.mk 0 (.el kid) 0 0 (.mk 3 .root (n+1) p.at_ p.todo) }=m2 at *
   generalize Pp:m1.push p=m3 at *
   unfold aC.au aC.az at MC BH
   simp only[zM,aG.bt,aE.d,Re.ae]at MC BH
   simp only[zX,simprocAttr,zM,c2,aE.d,Re.ae]
   refine aq mix [] [(4,[0],[]),(5,[0],[]),(6,[0],[]),(17,[0],[]),(18,[0],[]),(19,[0],[])] (by rfl) ?_
   by_cases c3:0≤m1.p.re.mx∧m1.p.re.mx≤n
   ·rw[if_pos c3]at hx
    cases hx
    simp only[zX,simprocAttr,zM,c3.1,c3.2,ge_iff_le,aE.d,Re.ae]
    exact⟨an m1 b a,rfl⟩
   ·rw[if_neg c3]at hx
    by_cases c4:0≤m1.p.re.mx
    ·have c5:¬m1.p.re.mx≤n:=fun h=>c3 ⟨c4,h⟩
     simp only[zX,simprocAttr,zM,c4,c5,ge_iff_le,aE.d,Re.ae]
     refine aH bM.aP ?_
     refine aq mix [16] [(10,[3],[]),(11,[3],[]),(12,[3],[]),(13,[3],[]),(15,[7],[7]),(17,[6],[]),(18,[6],[6])] (by rfl) ?_
     simp only[zX,simprocAttr,zM,hole,w1]
     refine bu (aO [7] (by simp [aM,bf,aR.go,aR,bN,aG.bt,aE.d,Re.ae,iD,bD]) (aD (fJ b a (.el kid) (.mk 3 .root (n+1) p.at_ p.todo)) rfl rfl ⟨rfl,rfl⟩)) ?_
     by_cases c6:m1.p.re.mode=1
     ·rw[if_pos c6]at hx
      have d6:decide (m1.p.re.mode=1)=true:=decide_eq_true c6
      cases hx
      simp only[zX,simprocAttr,zM,aG.bt,aE.d,Re.ae,d6,aM,bf]
      refine aj (MC _) (fun v s' hv=>?_);obtain⟨rfl,rfl⟩:=hv
      simp only[zX,simprocAttr,zM]
      exact⟨an m2 b a,rfl⟩
     ·rw[if_neg c6]at hx
      have d6:decide (m1.p.re.mode=1)=false:=decide_eq_false c6
      cases hx
      simp only[zX,simprocAttr,zM,aG.bt,aE.d,Re.ae,d6,aM,bf]
      refine aj (BH _) (fun v s' hv=>?_);obtain⟨rfl,rfl⟩:=hv
      simp only[zX,simprocAttr,zM]
      refine⟨an m3 b a,?_⟩
      simp only[zM,aJ,aG.bt,aE.d,Re.ae]
    ·simp only[zX,simprocAttr,zM,c4,ge_iff_le,aE.d,Re.ae]
     refine aH bM.aP ?_
     refine aq mix [16] [(10,[3],[]),(11,[3],[]),(12,[3],[]),(13,[3],[]),(15,[7],[7]),(17,[6],[]),(18,[6],[6])] (by rfl) ?_
     simp only[zX,simprocAttr,zM,hole,w1]
     refine bu (aO [7] (by simp [aM,bf,aR.go,aR,bN,aG.bt,aE.d,Re.ae,iD,bD]) (aD (fJ b a (.el kid) (.mk 3 .root (n+1) p.at_ p.todo)) rfl rfl ⟨rfl,rfl⟩)) ?_
     by_cases c6:m1.p.re.mode=1
     ·rw[if_pos c6]at hx
      have d6:decide (m1.p.re.mode=1)=true:=decide_eq_true c6
      cases hx
      simp only[zX,simprocAttr,zM,aG.bt,aE.d,Re.ae,d6,aM,bf]
      refine aj (MC _) (fun v s' hv=>?_);obtain⟨rfl,rfl⟩:=hv
      simp only[zX,simprocAttr,zM]
      exact⟨an m2 b a,rfl⟩
     ·rw[if_neg c6]at hx
      have d6:decide (m1.p.re.mode=1)=false:=decide_eq_false c6
      cases hx
      simp only[zX,simprocAttr,zM,aG.bt,aE.d,Re.ae,d6,aM,bf]
      refine aj (BH _) (fun v s' hv=>?_);obtain⟨rfl,rfl⟩:=hv
      simp only[zX,simprocAttr,zM]
      refine⟨an m3 b a,?_⟩
      simp only[zM,aJ,aG.bt,aE.d,Re.ae]
end Go.Proofs.YtmihcpdhcillaaaGreat
