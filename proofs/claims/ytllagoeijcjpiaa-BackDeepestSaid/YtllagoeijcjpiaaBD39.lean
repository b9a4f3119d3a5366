/- A part of the proof (G36). -/
import Derived.Test.YtllagoeijcjpiaaBD38
set_option linter.unusedSimpArgs false
set_option linter.unusedVariables false
set_option maxRecDepth 100000
set_option maxHeartbeats 80000000
namespace Go.Proofs.Ytllagoeijcjpiaa
open Go.VL Go.Proofs.Try
theorem GY {k:Nat} (ih:bz k) (g b a:Nat) (m:aB) (r:aG) (p:ao) (hm:m.cX p) {x:Rs} (hx:bj (fun m base p=>aQ k true m base p true) m r p=some x) :
  az prog 118 [.pp 0 g 0 0 b a,.d (r.d b a),p.v b a] (m.aF g b a) fun v s=>v=aR b a x.2.1 x.2.2∧s=x.1.aF g b a:=by
 have key:∀re,m.lit r=some re→(re.set.length≤1000000000∧re.kids.length≤1000000000):=by
  intro re Mq
  unfold bj at hx
  rw[Mq]at hx
  simp only at hx
  by_cases c:1000000000<re.set.length∨1000000000<re.kids.length
  ·rw[if_pos c]at hx;cases hx
  ·omega
 cases r with
 |nil=>cases hx
 |root =>
  obtain⟨k1,k2⟩:=key m.p.re rfl
  by_cases o4:m.p.re.op=4
  ·by_cases om:m.p.re.mode=2
   ·exact vG ih g b a m p hm k1 k2 o4 om hx
   ·exact xE ih g b a m p hm k1 k2 o4 om hx
  by_cases hf:m.fuel≤m.steps
  ·exact wI ih g b a m p hm k1 k2 o4 hf hx
  by_cases o1:m.p.re.op=1
  ·exact Ap ih g b a m p hm k1 k2 o1 hf hx
  by_cases o2:m.p.re.op=2
  ·exact AY ih g b a m p hm k1 k2 o2 hf hx
  by_cases o3:m.p.re.op=3
  ·exact AF ih g b a m p hm k1 k2 o3 hf hx
  by_cases o5:m.p.re.op=5
  ·exact AU ih g b a m p hm k1 k2 o5 hf hx
  by_cases o6:m.p.re.op=6
  ·exact As ih g b a m p hm k1 k2 o6 hf hx
  by_cases o7:m.p.re.op=7
  ·exact An ih g b a m p hm k1 k2 o7 hf hx
  by_cases o8:m.p.re.op=8
  ·exact AJ ih g b a m p hm k1 k2 o8 hf hx
  by_cases o9:m.p.re.op=9
  ·exact Bd ih g b a m p hm k1 k2 o9 hf hx
  by_cases sg:m.p.re.op=10
  ·exact yA ih g b a m p hm k1 k2 sg hf hx
  by_cases wT:m.p.re.op=11
  ·exact yF ih g b a m p hm k1 k2 wT hf hx
  exact xD ih g b a m p hm k1 k2 (by omega) hf hx
 |el re =>
  obtain⟨k1,k2⟩:=key re rfl
  by_cases o4:re.op=4
  ·by_cases om:re.mode=2
   ·exact yN ih g b a m re p hm k1 k2 o4 om hx
   ·exact AH ih g b a m re p hm k1 k2 o4 om hx
  by_cases hf:m.fuel≤m.steps
  ·exact AI ih g b a m re p hm k1 k2 o4 hf hx
  by_cases o1:re.op=1
  ·exact FK ih g b a m re p hm k1 k2 o1 hf hx
  by_cases o2:re.op=2
  ·exact EA ih g b a m re p hm k1 k2 o2 hf hx
  by_cases o3:re.op=3
  ·exact Ez ih g b a m re p hm k1 k2 o3 hf hx
  by_cases o5:re.op=5
  ·exact Ew ih g b a m re p hm k1 k2 o5 hf hx
  by_cases o6:re.op=6
  ·exact Ff ih g b a m re p hm k1 k2 o6 hf hx
  by_cases o7:re.op=7
  ·exact Fo ih g b a m re p hm k1 k2 o7 hf hx
  by_cases o8:re.op=8
  ·exact E3 ih g b a m re p hm k1 k2 o8 hf hx
  by_cases o9:re.op=9
  ·exact EN ih g b a m re p hm k1 k2 o9 hf hx
  by_cases sg:re.op=10
  ·exact D3 ih g b a m re p hm k1 k2 sg hf hx
  by_cases wT:re.op=11
  ·exact BF ih g b a m re p hm k1 k2 wT hf hx
  exact Az ih g b a m re p hm k1 k2 (by omega) hf hx
theorem GZ (g b a:Nat) (m:aB) (r:aG) (n at_:Int) (nx:aI) (p:ao) (hm:m.cX p) (ma:0≤n) (kv:n≤10000000000000) {x:Rs} (hx:fG m r n p=some x) :
  az prog 120 [.pp 0 g 0 0 b a,.d ((aI.mk 2 r n at_ nx).d b a),p.v b a] (m.aF g b a) fun v s=>v=aR b a x.2.1 x.2.2∧s=x.1.aF g b a:=by
 cases r with
 |nil=>cases hx
 |root =>
  have:∃kid,m.p.re.kids[0]?=some kid:=by
   unfold fG at hx
   simp only[aB.lit]at hx
   cases hh:m.p.re.kids with
   |nil=>rw[hh]at hx;cases hx
   |cons y l=>exact⟨y,rfl⟩
  obtain⟨kid,hk⟩:=this
  exact EB g b a m n at_ nx p kid hk hm ma kv hx
 |el re =>
  have:∃kid,re.kids[0]?=some kid:=by
   unfold fG at hx
   simp only[aB.lit]at hx
   cases hh:re.kids with
   |nil=>rw[hh]at hx;cases hx
   |cons y l=>exact⟨y,rfl⟩
  obtain⟨kid,hk⟩:=this
  exact Kd g b a m re n at_ nx p kid hk hm ma kv hx
def py (c:Int×Int):List V:=[.d (iD c.1),.d (iD c.2)]
theorem ts (k cL:Nat) (s:List VL.Obj):∀L:aq,((L.map py).mapM fun (e:List V)=>e.mapM (bQ (k+1) cL s))=some (L.map aM)
 |[]=>rfl
 |x::L=>by
  rw[VP,Wz,ts k cL s L]
  rfl
theorem PT {k:Nat} (ih:bz k) (g b a:Nat) (m:aB) (r:aG) (pa:Int) (pc:aq) (kind n at_:Int) (next:aI) (hm:m.cX ⟨pa,pc,.mk kind r n at_ next⟩) (ho:kind=0) {x:Rs} (hx:fY (fun m base p=>aQ k true m base p true) m ⟨pa,pc,.mk kind r n at_ next⟩=some x) :
  az prog 94 [.pp 0 g 0 0 b a,ao.v b a ⟨pa,pc,.mk kind r n at_ next⟩] (m.aF g b a) fun v s=>v=aR b a x.2.1 x.2.2∧s=x.1.aF g b a:=by
 have nu:=hm
 obtain⟨⟨g1,g2,g3,g4⟩,⟨g5,g6,g7⟩,g8,g9⟩:=hm
 unfold fY at hx
 rw[if_neg (by simpa using nu)]at hx
 simp only at g5 g6 g7
 simp only at hx
 have d0:decide (kind=0)=true:=decide_eq_true (by omega)
 have d1:decide (kind=1)=false:=decide_eq_false (by omega)
 have d2:decide (kind=2)=false:=decide_eq_false (by omega)
 have d3:decide (kind=3)=false:=decide_eq_false (by omega)
 have d4:decide (kind=4)=false:=decide_eq_false (by omega)
 have d5:decide (kind=5)=false:=decide_eq_false (by omega)
 rw[if_pos ho]at hx
 have cI:=fun ext=>br (GY ih g b a m r ⟨pa,pc,next⟩ nu hx) rfl rfl rfl ext
 obtain⟨m2,y1,y2⟩:=x
 unfold aB.aF aB.aA at cI
 simp only[zM,aR]at cI
 unfold aB.aF aB.aA
 refine av func94 rfl ntmps94 results94 rfl 3 2098171 (by simp) (by simp) ?_
 try simp only[zX,simprocAttr,zM,aR,aI.aN,d0,d1,d2,d3,d4,d5]
 refine an mix [6] [(5,[3],[]),(9,[4],[4])] (by rfl) ?_
 try simp only[zX,simprocAttr,zM,aR]
 refine bn (cI _) ?_
 try simp only[zX,simprocAttr,zM,aR]
 first
  |(refine⟨ak m2 b a,?_⟩;simp only[zM,aR,iA,aI.d,aG.d,Re.ae];done)
  |exact⟨ak m2 b a,rfl⟩
  |exact ak m2 b a
theorem PO {k:Nat} (ih:bz k) (g b a:Nat) (m:aB) (r:aG) (pa:Int) (pc:aq) (kind n at_:Int) (next:aI) (hm:m.cX ⟨pa,pc,.mk kind r n at_ next⟩) (ho:kind=2) {x:Rs} (hx:fY (fun m base p=>aQ k true m base p true) m ⟨pa,pc,.mk kind r n at_ next⟩=some x) :
  az prog 94 [.pp 0 g 0 0 b a,ao.v b a ⟨pa,pc,.mk kind r n at_ next⟩] (m.aF g b a) fun v s=>v=aR b a x.2.1 x.2.2∧s=x.1.aF g b a:=by
 have nu:=hm
 obtain⟨⟨g1,g2,g3,g4⟩,⟨g5,g6,g7⟩,g8,g9⟩:=hm
 unfold fY at hx
 rw[if_neg (by simpa using nu)]at hx
 simp only at g5 g6 g7
 simp only at hx
 have d0:decide (kind=0)=false:=decide_eq_false (by omega)
 have d1:decide (kind=1)=false:=decide_eq_false (by omega)
 have d2:decide (kind=2)=true:=decide_eq_true (by omega)
 have d3:decide (kind=3)=false:=decide_eq_false (by omega)
 have d4:decide (kind=4)=false:=decide_eq_false (by omega)
 have d5:decide (kind=5)=false:=decide_eq_false (by omega)
 rw[if_neg (by omega)]at hx
 by_cases hn:n<0∨10000000000000<n
 ·rw[if_pos hn]at hx;cases hx
 rw[if_neg hn,if_neg (by omega),if_pos ho]at hx
 have cI:=fun ext=>br (GZ g b a m r n at_ next ⟨pa,pc,next⟩ nu (by omega) (by omega) hx) rfl rfl rfl ext
 obtain⟨m2,y1,y2⟩:=x
 unfold aB.aF aB.aA at cI
 simp only[zM,aR,aI.aN]at cI
 subst ho
 unfold aB.aF aB.aA
 refine av func94 rfl ntmps94 results94 rfl 3 2098171 (by simp) (by simp) ?_
 try simp only[zX,simprocAttr,zM,aR,aI.aN,d0,d1,d2,d3,d4,d5]
 refine aj (cI _) (fun v s' hv=>?_);obtain⟨rfl,rfl⟩:=hv
 try simp only[zX,simprocAttr,zM,aR]
 first
  |(refine⟨ak m2 b a,?_⟩;simp only[zM,aR,iA,aI.d,aG.d,Re.ae];done)
  |exact⟨ak m2 b a,rfl⟩
  |exact ak m2 b a
theorem Pk {k:Nat} (ih:bz k) (g b a:Nat) (m:aB) (r:aG) (pa:Int) (pc:aq) (kind n at_:Int) (next:aI) (hm:m.cX ⟨pa,pc,.mk kind r n at_ next⟩) (ho:kind=3) {x:Rs} (hx:fY (fun m base p=>aQ k true m base p true) m ⟨pa,pc,.mk kind r n at_ next⟩=some x) :
  az prog 94 [.pp 0 g 0 0 b a,ao.v b a ⟨pa,pc,.mk kind r n at_ next⟩] (m.aF g b a) fun v s=>v=aR b a x.2.1 x.2.2∧s=x.1.aF g b a:=by
 have nu:=hm
 obtain⟨⟨g1,g2,g3,g4⟩,⟨g5,g6,g7⟩,g8,g9⟩:=hm
 unfold fY at hx
 rw[if_neg (by simpa using nu)]at hx
 simp only at g5 g6 g7
 simp only at hx
 have d0:decide (kind=0)=false:=decide_eq_false (by omega)
 have d1:decide (kind=1)=false:=decide_eq_false (by omega)
 have d2:decide (kind=2)=false:=decide_eq_false (by omega)
 have d3:decide (kind=3)=true:=decide_eq_true (by omega)
 have d4:decide (kind=4)=false:=decide_eq_false (by omega)
 have d5:decide (kind=5)=false:=decide_eq_false (by omega)
 rw[if_neg (by omega)]at hx
 by_cases hn:n<0∨10000000000000<n
 ·rw[if_pos hn]at hx;cases hx
 rw[if_neg hn,if_neg (by omega),if_neg (by omega),if_pos ho]at hx
 by_cases c:pa=at_
 ·rw[if_pos c]at hx
  cases hx
  have dc:decide (pa=at_)=true:=decide_eq_true c
  unfold aB.aF aB.aA
  refine av func94 rfl ntmps94 results94 rfl 3 2098171 (by simp) (by simp) ?_
  try simp only[zX,simprocAttr,zM,aR,aI.aN,d0,d1,d2,d3,d4,d5]
  refine an mix [] [(0,[3],[]),(1,[3],[])] (by rfl) ?_
  try simp only[zX,simprocAttr,zM,aR,dc]
  first
   |(refine⟨ak m b a,?_⟩;simp only[zM,aR,iA,aI.d,aG.d,Re.ae];done)
   |exact⟨ak m b a,rfl⟩
   |exact ak m b a
 ·rw[if_neg c]at hx
  cases hx
  have dc:decide (pa=at_)=false:=decide_eq_false c
  unfold aB.aF aB.aA
  refine av func94 rfl ntmps94 results94 rfl 3 2098171 (by simp) (by simp) ?_
  try simp only[zX,simprocAttr,zM,aR,aI.aN,d0,d1,d2,d3,d4,d5]
  refine an mix [] [(0,[3],[]),(1,[3],[])] (by rfl) ?_
  try simp only[zX,simprocAttr,zM,aR,dc]
  refine an mix [9] [] (by rfl) ?_
  try simp only[zX,simprocAttr,zM,aR]
  refine bn (nr rfl ⟨rfl,rfl⟩) ?_
  try simp only[zX,simprocAttr,zM,aR]
  first
   |(refine⟨ak m b a,?_⟩;simp only[zM,aR,iA,aI.d,aG.d,Re.ae];done)
   |exact⟨ak m b a,rfl⟩
   |exact ak m b a
theorem Py {k:Nat} (ih:bz k) (g b a:Nat) (m:aB) (r:aG) (pa:Int) (pc:aq) (kind n at_:Int) (next:aI) (hm:m.cX ⟨pa,pc,.mk kind r n at_ next⟩) (ho:kind=5) {x:Rs} (hx:fY (fun m base p=>aQ k true m base p true) m ⟨pa,pc,.mk kind r n at_ next⟩=some x) :
  az prog 94 [.pp 0 g 0 0 b a,ao.v b a ⟨pa,pc,.mk kind r n at_ next⟩] (m.aF g b a) fun v s=>v=aR b a x.2.1 x.2.2∧s=x.1.aF g b a:=by
 have nu:=hm
 obtain⟨⟨g1,g2,g3,g4⟩,⟨g5,g6,g7⟩,g8,g9⟩:=hm
 unfold fY at hx
 rw[if_neg (by simpa using nu)]at hx
 simp only at g5 g6 g7
 simp only at hx
 have d0:decide (kind=0)=false:=decide_eq_false (by omega)
 have d1:decide (kind=1)=false:=decide_eq_false (by omega)
 have d2:decide (kind=2)=false:=decide_eq_false (by omega)
 have d3:decide (kind=3)=false:=decide_eq_false (by omega)
 have d4:decide (kind=4)=false:=decide_eq_false (by omega)
 have d5:decide (kind=5)=true:=decide_eq_true (by omega)
 rw[if_neg (by omega)]at hx
 by_cases hn:n<0∨10000000000000<n
 ·rw[if_pos hn]at hx;cases hx
 rw[if_neg hn,if_neg (by omega),if_neg (by omega),if_neg (by omega),if_neg (by omega),if_pos ho]at hx
 cases hx
 unfold aB.aF aB.aA
 refine av func94 rfl ntmps94 results94 rfl 3 2098171 (by simp) (by simp) ?_
 try simp only[zX,simprocAttr,zM,aR,aI.aN,d0,d1,d2,d3,d4,d5]
 refine an mix [] [(0,[3],[]),(1,[3],[]),(2,[3],[]),(8,[4],[4])] (by rfl) ?_
 try simp only[zX,simprocAttr,zM,aR]
 first
  |(refine⟨ak m b a,?_⟩;simp only[zM,aR,iA,aI.d,aG.d,Re.ae];done)
  |exact⟨ak m b a,rfl⟩
  |exact ak m b a
theorem KX {k:Nat} (ih:bz k) (g b a:Nat) (m:aB) (re:Re) (pa:Int) (pc:aq) (kind n at_:Int) (next:aI) (hm:m.cX ⟨pa,pc,.mk kind (.el re) n at_ next⟩) (ho:kind=1) {x:Rs} (hx:fY (fun m base p=>aQ k true m base p true) m ⟨pa,pc,.mk kind (.el re) n at_ next⟩=some x) :
  az prog 94 [.pp 0 g 0 0 b a,ao.v b a ⟨pa,pc,.mk kind (.el re) n at_ next⟩] (m.aF g b a) fun v s=>v=aR b a x.2.1 x.2.2∧s=x.1.aF g b a:=by
 have nu:=hm
 obtain⟨⟨g1,g2,g3,g4⟩,⟨g5,g6,g7⟩,g8,g9⟩:=hm
 unfold fY at hx
 rw[if_neg (by simpa using nu)]at hx
 simp only at g5 g6 g7
 simp only at hx
 have d0:decide (kind=0)=false:=decide_eq_false (by omega)
 have d1:decide (kind=1)=true:=decide_eq_true (by omega)
 have d2:decide (kind=2)=false:=decide_eq_false (by omega)
 have d3:decide (kind=3)=false:=decide_eq_false (by omega)
 have d4:decide (kind=4)=false:=decide_eq_false (by omega)
 have d5:decide (kind=5)=false:=decide_eq_false (by omega)
 rw[if_neg (by omega)]at hx
 by_cases hn:n<0∨10000000000000<n
 ·rw[if_pos hn]at hx;cases hx
 rw[if_neg hn,if_pos ho]at hx
 simp only[aB.lit]at hx
 by_cases bH:1000000000<re.kids.length
 ·rw[if_pos bH]at hx;cases hx
 rw[if_neg bH]at hx
 cases hk:re.kids[n.toNat]? with
 |none=>rw[hk]at hx;cases hx
 |some kid =>
 rw[hk]at hx
 simp only at hx
 have q0:0≤n:=by omega
 have q1:n<(re.kids.length:Int):=by have:=(List.getElem?_eq_some_iff.1 hk).1;omega
 have w1:IntKind.i64.wrap (n+1)=n+1:=bR _ (by omega)
 by_cases c:n+1<(re.kids.length:Int)
 ·rw[if_pos c]at hx
  have cI:=fun ext=>br (qS g b a m (iA ⟨pa,pc,next⟩ 1 (.el re) (n+1) 0) g3 g4) rfl rfl rfl ext
  cases hx
  generalize vx:m.push (iA ⟨pa,pc,next⟩ 1 (.el re) (n+1) 0)=m2 at *
  unfold aB.aF aB.aA at cI
  simp only[zM,aR,iA,aI.d,aG.d,Re.ae]at cI
  unfold aB.aF aB.aA
  refine av func94 rfl ntmps94 results94 rfl 3 2098171 (by simp) (by simp) ?_
  try simp only[zX,simprocAttr,zM,aR,aI.aN,d0,d1,d2,d3,d4,d5]
  refine an mix [] [(9,[0],[]),(10,[0],[]),(11,[0],[]),(12,[0],[])] (by rfl) ?_
  try simp only[zX,simprocAttr,zM,aR,aG.d,Re.ae,w1,c]
  refine aK bL.aV ?_
  refine an mix [] [(9,[3],[]),(10,[3],[]),(12,[6],[6]),(13,[5],[]),(14,[5],[5])] (by rfl) ?_
  try simp only[zX,simprocAttr,zM,aR,hole,w1]
  refine aP [6] (by simp [bk,bA,aZ.go,aZ,bQ,aI.d,aG.d,Re.ae,iD,bD]) (aj (cI _) (fun v s' hv=>?_))
  obtain⟨rfl,rfl⟩:=hv
  try simp only[zX,simprocAttr,zM,aR,aG.d,Re.ae]
  refine an mix [13] [(5,[0],[]),(6,[0],[]),(7,[0],[])] (by rfl) ?_
  try simp only[zX,simprocAttr,zM,aR,hk,q0,q1,aG.d,Re.ae]
  refine bn (nr rfl ⟨rfl,rfl⟩) ?_
  try simp only[zX,simprocAttr,zM,aR,aG.d,Re.ae]
  first
   |(refine⟨ak m2 b a,?_⟩;simp only[zM,aR,iA,aI.d,aG.d,Re.ae];done)
   |exact⟨ak m2 b a,rfl⟩
   |exact ak m2 b a
 ·rw[if_neg c]at hx
  cases hx
  unfold aB.aF aB.aA
  refine av func94 rfl ntmps94 results94 rfl 3 2098171 (by simp) (by simp) ?_
  try simp only[zX,simprocAttr,zM,aR,aI.aN,d0,d1,d2,d3,d4,d5]
  refine an mix [] [(9,[0],[]),(10,[0],[]),(11,[0],[]),(12,[0],[])] (by rfl) ?_
  try simp only[zX,simprocAttr,zM,aR,aG.d,Re.ae,w1,c]
  refine an mix [13] [(5,[0],[]),(6,[0],[]),(7,[0],[])] (by rfl) ?_
  try simp only[zX,simprocAttr,zM,aR,hk,q0,q1,aG.d,Re.ae]
  refine bn (nr rfl ⟨rfl,rfl⟩) ?_
  try simp only[zX,simprocAttr,zM,aR,aG.d,Re.ae]
  first
   |(refine⟨ak m b a,?_⟩;simp only[zM,aR,iA,aI.d,aG.d,Re.ae];done)
   |exact⟨ak m b a,rfl⟩
   |exact ak m b a
theorem E8 {k:Nat} (ih:bz k) (g b a:Nat) (m:aB) (pa:Int) (pc:aq) (kind n at_:Int) (next:aI) (hm:m.cX ⟨pa,pc,.mk kind .root n at_ next⟩) (ho:kind=1) {x:Rs} (hx:fY (fun m base p=>aQ k true m base p true) m ⟨pa,pc,.mk kind .root n at_ next⟩=some x) :
  az prog 94 [.pp 0 g 0 0 b a,ao.v b a ⟨pa,pc,.mk kind .root n at_ next⟩] (m.aF g b a) fun v s=>v=aR b a x.2.1 x.2.2∧s=x.1.aF g b a:=by
 have nu:=hm
 obtain⟨⟨g1,g2,g3,g4⟩,⟨g5,g6,g7⟩,g8,g9⟩:=hm
 unfold fY at hx
 rw[if_neg (by simpa using nu)]at hx
 simp only at g5 g6 g7
 simp only at hx
 have d0:decide (kind=0)=false:=decide_eq_false (by omega)
 have d1:decide (kind=1)=true:=decide_eq_true (by omega)
 have d2:decide (kind=2)=false:=decide_eq_false (by omega)
 have d3:decide (kind=3)=false:=decide_eq_false (by omega)
 have d4:decide (kind=4)=false:=decide_eq_false (by omega)
 have d5:decide (kind=5)=false:=decide_eq_false (by omega)
 rw[if_neg (by omega)]at hx
 by_cases hn:n<0∨10000000000000<n
 ·rw[if_pos hn]at hx;cases hx
 rw[if_neg hn,if_pos ho]at hx
 simp only[aB.lit]at hx
 by_cases bH:1000000000<m.p.re.kids.length
 ·rw[if_pos bH]at hx;cases hx
 rw[if_neg bH]at hx
 cases hk:m.p.re.kids[n.toNat]? with
 |none=>rw[hk]at hx;cases hx
 |some kid =>
 rw[hk]at hx
 simp only at hx
 have q0:0≤n:=by omega
 have q1:n<(m.p.re.kids.length:Int):=by have:=(List.getElem?_eq_some_iff.1 hk).1;omega
 have w1:IntKind.i64.wrap (n+1)=n+1:=bR _ (by omega)
 by_cases c:n+1<(m.p.re.kids.length:Int)
 ·rw[if_pos c]at hx
  have cI:=fun ext=>br (qS g b a m (iA ⟨pa,pc,next⟩ 1 .root (n+1) 0) g3 g4) rfl rfl rfl ext
  cases hx
  have UU:(m.push (iA ⟨pa,pc,next⟩ 1 .root (n+1) 0)).p=m.p:=rfl
  have uK:=hk
  have TD:=q1
  rw[← UU]at uK TD
  generalize vx:m.push (iA ⟨pa,pc,next⟩ 1 .root (n+1) 0)=m2 at *
  unfold aB.aF aB.aA at cI
  simp only[zM,aR,iA,aI.d,aG.d,Re.ae]at cI
  unfold aB.aF aB.aA
  refine av func94 rfl ntmps94 results94 rfl 3 2098171 (by simp) (by simp) ?_
  try simp only[zX,simprocAttr,zM,aR,aI.aN,d0,d1,d2,d3,d4,d5]
  refine an mix [] [(9,[0],[]),(10,[0],[]),(11,[0],[]),(12,[0],[])] (by rfl) ?_
  try simp only[zX,simprocAttr,zM,aR,aG.d,Re.ae,w1,c]
  refine aK bL.aV ?_
  refine an mix [] [(9,[3],[]),(10,[3],[]),(12,[6],[6]),(13,[5],[]),(14,[5],[5])] (by rfl) ?_
  try simp only[zX,simprocAttr,zM,aR,hole,w1]
  refine aP [6] (by simp [bk,bA,aZ.go,aZ,bQ,aI.d,aG.d,Re.ae,iD,bD]) (aj (cI _) (fun v s' hv=>?_))
  obtain⟨rfl,rfl⟩:=hv
  try simp only[zX,simprocAttr,zM,aR,aG.d,Re.ae]
  refine an mix [13] [(5,[0],[]),(6,[0],[]),(7,[0],[])] (by rfl) ?_
  try simp only[zX,simprocAttr,zM,aR,hk,q0,q1,aG.d,Re.ae,uK,TD]
  refine bn (nr rfl ⟨rfl,rfl⟩) ?_
  try simp only[zX,simprocAttr,zM,aR,aG.d,Re.ae]
  first
   |(refine⟨ak m2 b a,?_⟩;simp only[zM,aR,iA,aI.d,aG.d,Re.ae];done)
   |exact⟨ak m2 b a,rfl⟩
   |exact ak m2 b a
 ·rw[if_neg c]at hx
  cases hx
  unfold aB.aF aB.aA
  refine av func94 rfl ntmps94 results94 rfl 3 2098171 (by simp) (by simp) ?_
  try simp only[zX,simprocAttr,zM,aR,aI.aN,d0,d1,d2,d3,d4,d5]
  refine an mix [] [(9,[0],[]),(10,[0],[]),(11,[0],[]),(12,[0],[])] (by rfl) ?_
  try simp only[zX,simprocAttr,zM,aR,aG.d,Re.ae,w1,c]
  refine an mix [13] [(5,[0],[]),(6,[0],[]),(7,[0],[])] (by rfl) ?_
  try simp only[zX,simprocAttr,zM,aR,hk,q0,q1,aG.d,Re.ae]
  refine bn (nr rfl ⟨rfl,rfl⟩) ?_
  try simp only[zX,simprocAttr,zM,aR,aG.d,Re.ae]
  first
   |(refine⟨ak m b a,?_⟩;simp only[zM,aR,iA,aI.d,aG.d,Re.ae];done)
   |exact⟨ak m b a,rfl⟩
   |exact ak m b a
theorem IC {k:Nat} (ih:bz k) (g b a:Nat) (m:aB) (re:Re) (pa:Int) (pc:aq) (kind n at_:Int) (next:aI) (hm:m.cX ⟨pa,pc,.mk kind (.el re) n at_ next⟩) (ho:kind=4) {x:Rs} (hx:fY (fun m base p=>aQ k true m base p true) m ⟨pa,pc,.mk kind (.el re) n at_ next⟩=some x) :
  az prog 94 [.pp 0 g 0 0 b a,ao.v b a ⟨pa,pc,.mk kind (.el re) n at_ next⟩] (m.aF g b a) fun v s=>v=aR b a x.2.1 x.2.2∧s=x.1.aF g b a:=by
 have nu:=hm
 obtain⟨⟨g1,g2,g3,g4⟩,⟨g5,g6,g7⟩,g8,g9⟩:=hm
 unfold fY at hx
 rw[if_neg (by simpa using nu)]at hx
 simp only at g5 g6 g7
 simp only at hx
 have d0:decide (kind=0)=false:=decide_eq_false (by omega)
 have d1:decide (kind=1)=false:=decide_eq_false (by omega)
 have d2:decide (kind=2)=false:=decide_eq_false (by omega)
 have d3:decide (kind=3)=false:=decide_eq_false (by omega)
 have d4:decide (kind=4)=true:=decide_eq_true (by omega)
 have d5:decide (kind=5)=false:=decide_eq_false (by omega)
 rw[if_neg (by omega)]at hx
 by_cases hn:n<0∨10000000000000<n
 ·rw[if_pos hn]at hx;cases hx
 rw[if_neg hn,if_neg (by omega),if_neg (by omega),if_neg (by omega),if_pos ho]at hx
 simp only[aB.lit]at hx
 by_cases PL:re.n<1∨(pc.length:Int)<re.n
 ·rw[if_pos PL]at hx;cases hx
 rw[if_neg PL]at hx
 cases hx
 have w0:IntKind.i64.wrap (re.n-1)=re.n-1:=bR _ (by omega)
 have q0:0≤re.n-1:=by omega
 have q1:re.n-1<(pc.length:Int):=by omega
 unfold aB.aF aB.aA
 refine av func94 rfl ntmps94 results94 rfl 3 2098171 (by simp) (by simp) ?_
 try simp only[zX,simprocAttr,zM,aR,aI.aN,d0,d1,d2,d3,d4,d5]
 try simp only[zX,simprocAttr,zM,aR,bd,Vv]
 refine⟨⟨Vr _,by (try simp);omega,by omega⟩,?_⟩
 have Nm:gq (List.replicate pc.length [V.d (D.sc (Value.int IntKind.i64 0)),V.d (D.sc (Value.int IntKind.i64 0))]) 0 (List.map (fun x=>List.map V.d x) (List.map aM pc))=pc.map py:=by
  unfold gq
  rw[List.take_zero,Vx,List.drop_of_length_le (by simp),List.append_nil,List.map_map]
  rfl
 try simp only[zX,simprocAttr,zM,aR,oW,Vv,V7,Nm]
 refine⟨fun e he=>by obtain⟨y,hy,rfl⟩:=List.mem_map.1 he;obtain⟨c,_,rfl⟩:=List.mem_map.1 hy;rfl,⟨by omega,VA _⟩,?_⟩
 obtain⟨y,hy⟩:∃y,pc[(re.n-1).toNat]?=some y:=⟨_,Vu (by omega)⟩
 have iR:(pc.map py)[(re.n-1).toNat]?=some [V.d (D.sc (Value.int IntKind.i64 y.1)),V.d (D.sc (Value.int IntKind.i64 y.2))]:=by rw[VB,hy];rfl
 have cC:(pc.map py).set (re.n-1).toNat [V.d (D.sc (Value.int IntKind.i64 at_)),V.d (D.sc (Value.int IntKind.i64 pa))]=(pc.set (re.n-1).toNat (at_,pa)).map py:=by rw[List.map_set];rfl
 have OL:∀s:List VL.Obj,(List.take pc.length (List.map py (List.set pc (re.n-1).toNat (at_,pa)))).mapM (fun e=>e.mapM (bQ 7 3 s))=some ((List.set pc (re.n-1).toNat (at_,pa)).map aM):=by
  intro s
  rw[VZ (by simp)]
  exact ts 6 3 s _
 refine an mix [] [(5,[0],[]),(6,[0],[]),(7,[0],[]),(13,[3],[]),(14,[3],[]),(16,[5],[]),(17,[5],[5])] (by rfl) ?_
 try simp only[zX,simprocAttr,zM,aR,aG.d,Re.ae,w0,q0,q1,VU,iR,cC,List.length_set,VA,Wc,OL]
 first
  |(refine⟨ak m b a,?_⟩;simp only[zM,aR,iA,bd,aI.d,aG.d,Re.ae];done)
  |exact⟨ak m b a,rfl⟩
  |exact ak m b a
theorem FG {k:Nat} (ih:bz k) (g b a:Nat) (m:aB) (pa:Int) (pc:aq) (kind n at_:Int) (next:aI) (hm:m.cX ⟨pa,pc,.mk kind .root n at_ next⟩) (ho:kind=4) {x:Rs} (hx:fY (fun m base p=>aQ k true m base p true) m ⟨pa,pc,.mk kind .root n at_ next⟩=some x) :
  az prog 94 [.pp 0 g 0 0 b a,ao.v b a ⟨pa,pc,.mk kind .root n at_ next⟩] (m.aF g b a) fun v s=>v=aR b a x.2.1 x.2.2∧s=x.1.aF g b a:=by
 have nu:=hm
 obtain⟨⟨g1,g2,g3,g4⟩,⟨g5,g6,g7⟩,g8,g9⟩:=hm
 unfold fY at hx
 rw[if_neg (by simpa using nu)]at hx
 simp only at g5 g6 g7
 simp only at hx
 have d0:decide (kind=0)=false:=decide_eq_false (by omega)
 have d1:decide (kind=1)=false:=decide_eq_false (by omega)
 have d2:decide (kind=2)=false:=decide_eq_false (by omega)
 have d3:decide (kind=3)=false:=decide_eq_false (by omega)
 have d4:decide (kind=4)=true:=decide_eq_true (by omega)
 have d5:decide (kind=5)=false:=decide_eq_false (by omega)
 rw[if_neg (by omega)]at hx
 by_cases hn:n<0∨10000000000000<n
 ·rw[if_pos hn]at hx;cases hx
 rw[if_neg hn,if_neg (by omega),if_neg (by omega),if_neg (by omega),if_pos ho]at hx
 simp only[aB.lit]at hx
 by_cases PL:m.p.re.n<1∨(pc.length:Int)<m.p.re.n
 ·rw[if_pos PL]at hx;cases hx
 rw[if_neg PL]at hx
 cases hx
 have w0:IntKind.i64.wrap (m.p.re.n-1)=m.p.re.n-1:=bR _ (by omega)
 have q0:0≤m.p.re.n-1:=by omega
 have q1:m.p.re.n-1<(pc.length:Int):=by omega
 unfold aB.aF aB.aA
 refine av func94 rfl ntmps94 results94 rfl 3 2098171 (by simp) (by simp) ?_
 try simp only[zX,simprocAttr,zM,aR,aI.aN,d0,d1,d2,d3,d4,d5]
 try simp only[zX,simprocAttr,zM,aR,bd,Vv]
 refine⟨⟨Vr _,by (try simp);omega,by omega⟩,?_⟩
 have Nm:gq (List.replicate pc.length [V.d (D.sc (Value.int IntKind.i64 0)),V.d (D.sc (Value.int IntKind.i64 0))]) 0 (List.map (fun x=>List.map V.d x) (List.map aM pc))=pc.map py:=by
  unfold gq
  rw[List.take_zero,Vx,List.drop_of_length_le (by simp),List.append_nil,List.map_map]
  rfl
 try simp only[zX,simprocAttr,zM,aR,oW,Vv,V7,Nm]
 refine⟨fun e he=>by obtain⟨y,hy,rfl⟩:=List.mem_map.1 he;obtain⟨c,_,rfl⟩:=List.mem_map.1 hy;rfl,⟨by omega,VA _⟩,?_⟩
 obtain⟨y,hy⟩:∃y,pc[(m.p.re.n-1).toNat]?=some y:=⟨_,Vu (by omega)⟩
 have iR:(pc.map py)[(m.p.re.n-1).toNat]?=some [V.d (D.sc (Value.int IntKind.i64 y.1)),V.d (D.sc (Value.int IntKind.i64 y.2))]:=by rw[VB,hy];rfl
 have cC:(pc.map py).set (m.p.re.n-1).toNat [V.d (D.sc (Value.int IntKind.i64 at_)),V.d (D.sc (Value.int IntKind.i64 pa))]=(pc.set (m.p.re.n-1).toNat (at_,pa)).map py:=by rw[List.map_set];rfl
 have OL:∀s:List VL.Obj,(List.take pc.length (List.map py (List.set pc (m.p.re.n-1).toNat (at_,pa)))).mapM (fun e=>e.mapM (bQ 7 3 s))=some ((List.set pc (m.p.re.n-1).toNat (at_,pa)).map aM):=by
  intro s
  rw[VZ (by simp)]
  exact ts 6 3 s _
 refine an mix [] [(5,[0],[]),(6,[0],[]),(7,[0],[]),(13,[3],[]),(14,[3],[]),(16,[5],[]),(17,[5],[5])] (by rfl) ?_
 try simp only[zX,simprocAttr,zM,aR,aG.d,Re.ae,w0,q0,q1,VU,iR,cC,List.length_set,VA,Wc,OL]
 first
  |(refine⟨ak m b a,?_⟩;simp only[zM,aR,iA,bd,aI.d,aG.d,Re.ae];done)
  |exact⟨ak m b a,rfl⟩
  |exact ak m b a
end Go.Proofs.Ytllagoeijcjpiaa
