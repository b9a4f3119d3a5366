/- A part of the proof (G36). -/
import Derived.Test.YtmihcpdhcillaaaGreatBG43
set_option linter.unusedSimpArgs false
set_option linter.unusedVariables false
set_option maxRecDepth 100000
set_option maxHeartbeats 80000000
namespace Go.Proofs.YtmihcpdhcillaaaGreat
open Go.VL Go.Proofs.Tryz
theorem Iz {k:Nat} (ih:bw k) (g b a:Nat) (m:aC) (r:aE) (p:aA) (hm:m.cn p) {x:Rs} (hx:bq (fun m base p=>bh k true m base p true) m r p=some x) :
  av prog 72 [.pp 0 g 0 0 b a,.d (r.d b a),p.v b a] (m.au g b a) fun v s=>v=aJ b a x.2.1 x.2.2∧s=x.1.au g b a:=by
 have key:∀re,m.lit r=some re→(re.set.length≤1000000000∧re.kids.length≤1000000000):=by
  intro re Nj
  unfold bq at hx
  rw[Nj]at hx
  simp only at hx
  by_cases c:1000000000<re.set.length∨1000000000<re.kids.length
  ·rw[if_pos c]at hx;cases hx
  ·omega
 cases r with
 |nil=>cases hx
 |root =>
  obtain⟨k1,k2⟩:=key m.p.re rfl
  by_cases o4:m.p.re.op=4
  ·by_cases om:m.p.re.mode=2
   ·exact vM ih g b a m p hm k1 k2 o4 om hx
   ·exact yh ih g b a m p hm k1 k2 o4 om hx
  by_cases hf:m.fuel≤m.steps
  ·exact xZ ih g b a m p hm k1 k2 o4 hf hx
  by_cases o1:m.p.re.op=1
  ·exact Bb ih g b a m p hm k1 k2 o1 hf hx
  by_cases o2:m.p.re.op=2
  ·exact BA ih g b a m p hm k1 k2 o2 hf hx
  by_cases o3:m.p.re.op=3
  ·exact A4 ih g b a m p hm k1 k2 o3 hf hx
  by_cases o5:m.p.re.op=5
  ·exact BF ih g b a m p hm k1 k2 o5 hf hx
  by_cases o6:m.p.re.op=6
  ·exact A0 ih g b a m p hm k1 k2 o6 hf hx
  by_cases o7:m.p.re.op=7
  ·exact BB ih g b a m p hm k1 k2 o7 hf hx
  by_cases o8:m.p.re.op=8
  ·exact A9 ih g b a m p hm k1 k2 o8 hf hx
  by_cases o9:m.p.re.op=9
  ·exact A8 ih g b a m p hm k1 k2 o9 hf hx
  by_cases oS:m.p.re.op=10
  ·exact y9 ih g b a m p hm k1 k2 oS hf hx
  by_cases rA:m.p.re.op=11
  ·exact y4 ih g b a m p hm k1 k2 rA hf hx
  exact xS ih g b a m p hm k1 k2 (by omega) hf hx
 |el re =>
  obtain⟨k1,k2⟩:=key re rfl
  by_cases o4:re.op=4
  ·by_cases om:re.mode=2
   ·exact yW ih g b a m re p hm k1 k2 o4 om hx
   ·exact Bd ih g b a m re p hm k1 k2 o4 om hx
  by_cases hf:m.fuel≤m.steps
  ·exact A1 ih g b a m re p hm k1 k2 o4 hf hx
  by_cases o1:re.op=1
  ·exact FN ih g b a m re p hm k1 k2 o1 hf hx
  by_cases o2:re.op=2
  ·exact Fy ih g b a m re p hm k1 k2 o2 hf hx
  by_cases o3:re.op=3
  ·exact FH ih g b a m re p hm k1 k2 o3 hf hx
  by_cases o5:re.op=5
  ·exact EC ih g b a m re p hm k1 k2 o5 hf hx
  by_cases o6:re.op=6
  ·exact Fu ih g b a m re p hm k1 k2 o6 hf hx
  by_cases o7:re.op=7
  ·exact Fk ih g b a m re p hm k1 k2 o7 hf hx
  by_cases o8:re.op=8
  ·exact Ej ih g b a m re p hm k1 k2 o8 hf hx
  by_cases o9:re.op=9
  ·exact EB ih g b a m re p hm k1 k2 o9 hf hx
  by_cases oS:re.op=10
  ·exact Dt ih g b a m re p hm k1 k2 oS hf hx
  by_cases rA:re.op=11
  ·exact DD ih g b a m re p hm k1 k2 rA hf hx
  exact AN ih g b a m re p hm k1 k2 (by omega) hf hx
theorem HL (g b a:Nat) (m:aC) (r:aE) (n at_:Int) (nx:aG) (p:aA) (hm:m.cn p) (nj:0≤n) (fY:n≤10000000000000) {x:Rs} (hx:jm m r n p=some x) :
  av prog 74 [.pp 0 g 0 0 b a,.d ((aG.mk 2 r n at_ nx).d b a),p.v b a] (m.au g b a) fun v s=>v=aJ b a x.2.1 x.2.2∧s=x.1.au g b a:=by
 cases r with
 |nil=>cases hx
 |root =>
  have:∃kid,m.p.re.kids[0]?=some kid:=by
   unfold jm at hx
   simp only[aC.lit]at hx
   cases hh:m.p.re.kids with
   |nil=>rw[hh]at hx;cases hx
   |cons y l=>exact⟨y,rfl⟩
  obtain⟨kid,hk⟩:=this
  exact EH g b a m n at_ nx p kid hk hm nj fY hx
 |el re =>
  have:∃kid,re.kids[0]?=some kid:=by
   unfold jm at hx
   simp only[aC.lit]at hx
   cases hh:re.kids with
   |nil=>rw[hh]at hx;cases hx
   |cons y l=>exact⟨y,rfl⟩
  obtain⟨kid,hk⟩:=this
  exact JK g b a m re n at_ nx p kid hk hm nj fY hx
def pV (c:Int×Int):List V:=[.d (iD c.1),.d (iD c.2)]
theorem sy (k cE:Nat) (s:List VL.Obj):∀L:ar,((L.map pV).mapM fun (e:List V)=>e.mapM (bN (k+1) cE s))=some (L.map aT)
 |[]=>rfl
 |x::L=>by
  rw[WU,X5,sy k cE s L]
  rfl
theorem Q5 {k:Nat} (ih:bw k) (g b a:Nat) (m:aC) (r:aE) (pa:Int) (pc:ar) (kind n at_:Int) (next:aG) (hm:m.cn ⟨pa,pc,.mk kind r n at_ next⟩) (ho:kind=0) {x:Rs} (hx:gn (fun m base p=>bh k true m base p true) m ⟨pa,pc,.mk kind r n at_ next⟩=some x) :
  av prog 42 [.pp 0 g 0 0 b a,aA.v b a ⟨pa,pc,.mk kind r n at_ next⟩] (m.au g b a) fun v s=>v=aJ b a x.2.1 x.2.2∧s=x.1.au g b a:=by
 have nq:=hm
 obtain⟨⟨g1,g2,g3,g4⟩,⟨g5,g6,g7⟩,g8,g9⟩:=hm
 unfold gn at hx
 rw[if_neg (by simpa using nq)]at hx
 simp only at g5 g6 g7
 simp only at hx
 have d0:decide (kind=0)=true:=decide_eq_true (by omega)
 have d1:decide (kind=1)=false:=decide_eq_false (by omega)
 have d2:decide (kind=2)=false:=decide_eq_false (by omega)
 have d3:decide (kind=3)=false:=decide_eq_false (by omega)
 have d4:decide (kind=4)=false:=decide_eq_false (by omega)
 have d5:decide (kind=5)=false:=decide_eq_false (by omega)
 rw[if_pos ho]at hx
 have cK:=fun ext=>bn (Iz ih g b a m r ⟨pa,pc,next⟩ nq hx) rfl rfl rfl ext
 obtain⟨m2,y1,y2⟩:=x
 unfold aC.au aC.az at cK
 simp only[zM,aJ]at cK
 unfold aC.au aC.az
 refine aw func42 rfl ntmps42 results42 rfl 3 2098171 (by simp) (by simp) ?_
 try simp only[zX,simprocAttr,zM,aJ,aG.bt,d0,d1,d2,d3,d4,d5]
 refine aq mix [6] [(5,[3],[]),(9,[4],[4])] (by rfl) ?_
 try simp only[zX,simprocAttr,zM,aJ]
 refine bu (cK _) ?_
 try simp only[zX,simprocAttr,zM,aJ]
 first
  |(refine⟨an m2 b a,?_⟩;simp only[zM,aJ,jw,aG.d,aE.d,Re.ae];done)
  |exact⟨an m2 b a,rfl⟩
  |exact an m2 b a
theorem Rg {k:Nat} (ih:bw k) (g b a:Nat) (m:aC) (r:aE) (pa:Int) (pc:ar) (kind n at_:Int) (next:aG) (hm:m.cn ⟨pa,pc,.mk kind r n at_ next⟩) (ho:kind=2) {x:Rs} (hx:gn (fun m base p=>bh k true m base p true) m ⟨pa,pc,.mk kind r n at_ next⟩=some x) :
  av prog 42 [.pp 0 g 0 0 b a,aA.v b a ⟨pa,pc,.mk kind r n at_ next⟩] (m.au g b a) fun v s=>v=aJ b a x.2.1 x.2.2∧s=x.1.au g b a:=by
 have nq:=hm
 obtain⟨⟨g1,g2,g3,g4⟩,⟨g5,g6,g7⟩,g8,g9⟩:=hm
 unfold gn at hx
 rw[if_neg (by simpa using nq)]at hx
 simp only at g5 g6 g7
 simp only at hx
 have d0:decide (kind=0)=false:=decide_eq_false (by omega)
 have d1:decide (kind=1)=false:=decide_eq_false (by omega)
 have d2:decide (kind=2)=true:=decide_eq_true (by omega)
 have d3:decide (kind=3)=false:=decide_eq_false (by omega)
 have d4:decide (kind=4)=false:=decide_eq_false (by omega)
 have d5:decide (kind=5)=false:=decide_eq_false (by omega)
 rw[if_neg (by omega)]at hx
 by_cases hn:n<0∨10000000000000<n
 ·rw[if_pos hn]at hx;cases hx
 rw[if_neg hn,if_neg (by omega),if_pos ho]at hx
 have cK:=fun ext=>bn (HL g b a m r n at_ next ⟨pa,pc,next⟩ nq (by omega) (by omega) hx) rfl rfl rfl ext
 obtain⟨m2,y1,y2⟩:=x
 unfold aC.au aC.az at cK
 simp only[zM,aJ,aG.bt]at cK
 subst ho
 unfold aC.au aC.az
 refine aw func42 rfl ntmps42 results42 rfl 3 2098171 (by simp) (by simp) ?_
 try simp only[zX,simprocAttr,zM,aJ,aG.bt,d0,d1,d2,d3,d4,d5]
 refine aj (cK _) (fun v s' hv=>?_);obtain⟨rfl,rfl⟩:=hv
 try simp only[zX,simprocAttr,zM,aJ]
 first
  |(refine⟨an m2 b a,?_⟩;simp only[zM,aJ,jw,aG.d,aE.d,Re.ae];done)
  |exact⟨an m2 b a,rfl⟩
  |exact an m2 b a
theorem QB {k:Nat} (ih:bw k) (g b a:Nat) (m:aC) (r:aE) (pa:Int) (pc:ar) (kind n at_:Int) (next:aG) (hm:m.cn ⟨pa,pc,.mk kind r n at_ next⟩) (ho:kind=3) {x:Rs} (hx:gn (fun m base p=>bh k true m base p true) m ⟨pa,pc,.mk kind r n at_ next⟩=some x) :
  av prog 42 [.pp 0 g 0 0 b a,aA.v b a ⟨pa,pc,.mk kind r n at_ next⟩] (m.au g b a) fun v s=>v=aJ b a x.2.1 x.2.2∧s=x.1.au g b a:=by
 have nq:=hm
 obtain⟨⟨g1,g2,g3,g4⟩,⟨g5,g6,g7⟩,g8,g9⟩:=hm
 unfold gn at hx
 rw[if_neg (by simpa using nq)]at hx
 simp only at g5 g6 g7
 simp only at hx
 have d0:decide (kind=0)=false:=decide_eq_false (by omega)
 have d1:decide (kind=1)=false:=decide_eq_false (by omega)
 have d2:decide (kind=2)=false:=decide_eq_false (by omega)
 have d3:decide (kind=3)=true:=decide_eq_true (by omega)
 have d4:decide (kind=4)=false:=decide_eq_false (by omega)
 have d5:decide (kind=5)=false:=decide_eq_false (by omega)
 rw[if_neg (by omega)]at hx
 by_cases hn:n<0∨10000000000000<n
 ·rw[if_pos hn]at hx;cases hx
 rw[if_neg hn,if_neg (by omega),if_neg (by omega),if_pos ho]at hx
 by_cases c:pa=at_
 ·rw[if_pos c]at hx
  cases hx
  have dc:decide (pa=at_)=true:=decide_eq_true c
  unfold aC.au aC.az
  refine aw func42 rfl ntmps42 results42 rfl 3 2098171 (by simp) (by simp) ?_
  try simp only[zX,simprocAttr,zM,aJ,aG.bt,d0,d1,d2,d3,d4,d5]
  refine aq mix [] [(0,[3],[]),(1,[3],[])] (by rfl) ?_
  try simp only[zX,simprocAttr,zM,aJ,dc]
  first
   |(refine⟨an m b a,?_⟩;simp only[zM,aJ,jw,aG.d,aE.d,Re.ae];done)
   |exact⟨an m b a,rfl⟩
   |exact an m b a
 ·rw[if_neg c]at hx
  cases hx
  have dc:decide (pa=at_)=false:=decide_eq_false c
  unfold aC.au aC.az
  refine aw func42 rfl ntmps42 results42 rfl 3 2098171 (by simp) (by simp) ?_
  try simp only[zX,simprocAttr,zM,aJ,aG.bt,d0,d1,d2,d3,d4,d5]
  refine aq mix [] [(0,[3],[]),(1,[3],[])] (by rfl) ?_
  try simp only[zX,simprocAttr,zM,aJ,dc]
  refine aq mix [9] [] (by rfl) ?_
  try simp only[zX,simprocAttr,zM,aJ]
  refine bu (nE rfl ⟨rfl,rfl⟩) ?_
  try simp only[zX,simprocAttr,zM,aJ]
  first
   |(refine⟨an m b a,?_⟩;simp only[zM,aJ,jw,aG.d,aE.d,Re.ae];done)
   |exact⟨an m b a,rfl⟩
   |exact an m b a
theorem Rf {k:Nat} (ih:bw k) (g b a:Nat) (m:aC) (r:aE) (pa:Int) (pc:ar) (kind n at_:Int) (next:aG) (hm:m.cn ⟨pa,pc,.mk kind r n at_ next⟩) (ho:kind=5) {x:Rs} (hx:gn (fun m base p=>bh k true m base p true) m ⟨pa,pc,.mk kind r n at_ next⟩=some x) :
  av prog 42 [.pp 0 g 0 0 b a,aA.v b a ⟨pa,pc,.mk kind r n at_ next⟩] (m.au g b a) fun v s=>v=aJ b a x.2.1 x.2.2∧s=x.1.au g b a:=by
 have nq:=hm
 obtain⟨⟨g1,g2,g3,g4⟩,⟨g5,g6,g7⟩,g8,g9⟩:=hm
 unfold gn at hx
 rw[if_neg (by simpa using nq)]at hx
 simp only at g5 g6 g7
 simp only at hx
 have d0:decide (kind=0)=false:=decide_eq_false (by omega)
 have d1:decide (kind=1)=false:=decide_eq_false (by omega)
 have d2:decide (kind=2)=false:=decide_eq_false (by omega)
 have d3:decide (kind=3)=false:=decide_eq_false (by omega)
 have d4:decide (kind=4)=false:=decide_eq_false (by omega)
 have d5:decide (kind=5)=true:=decide_eq_true (by omega)
 rw[if_neg (by omega)]at hx
 by_cases hn:n<0∨10000000000000<n
 ·rw[if_pos hn]at hx;cases hx
 rw[if_neg hn,if_neg (by omega),if_neg (by omega),if_neg (by omega),if_neg (by omega),if_pos ho]at hx
 cases hx
 unfold aC.au aC.az
 refine aw func42 rfl ntmps42 results42 rfl 3 2098171 (by simp) (by simp) ?_
 try simp only[zX,simprocAttr,zM,aJ,aG.bt,d0,d1,d2,d3,d4,d5]
 refine aq mix [] [(0,[3],[]),(1,[3],[]),(2,[3],[]),(8,[4],[4])] (by rfl) ?_
 try simp only[zX,simprocAttr,zM,aJ]
 first
  |(refine⟨an m b a,?_⟩;simp only[zM,aJ,jw,aG.d,aE.d,Re.ae];done)
  |exact⟨an m b a,rfl⟩
  |exact an m b a
theorem I0 {k:Nat} (ih:bw k) (g b a:Nat) (m:aC) (re:Re) (pa:Int) (pc:ar) (kind n at_:Int) (next:aG) (hm:m.cn ⟨pa,pc,.mk kind (.el re) n at_ next⟩) (ho:kind=1) {x:Rs} (hx:gn (fun m base p=>bh k true m base p true) m ⟨pa,pc,.mk kind (.el re) n at_ next⟩=some x) :
  av prog 42 [.pp 0 g 0 0 b a,aA.v b a ⟨pa,pc,.mk kind (.el re) n at_ next⟩] (m.au g b a) fun v s=>v=aJ b a x.2.1 x.2.2∧s=x.1.au g b a:=by
 have nq:=hm
 obtain⟨⟨g1,g2,g3,g4⟩,⟨g5,g6,g7⟩,g8,g9⟩:=hm
 unfold gn at hx
 rw[if_neg (by simpa using nq)]at hx
 simp only at g5 g6 g7
 simp only at hx
 have d0:decide (kind=0)=false:=decide_eq_false (by omega)
 have d1:decide (kind=1)=true:=decide_eq_true (by omega)
 have d2:decide (kind=2)=false:=decide_eq_false (by omega)
 have d3:decide (kind=3)=false:=decide_eq_false (by omega)
 have d4:decide (kind=4)=false:=decide_eq_false (by omega)
 have d5:decide (kind=5)=false:=decide_eq_false (by omega)
 rw[if_neg (by omega)]at hx
 by_cases hn:n<0∨10000000000000<n
 ·rw[if_pos hn]at hx;cases hx
 rw[if_neg hn,if_pos ho]at hx
 simp only[aC.lit]at hx
 by_cases dN:1000000000<re.kids.length
 ·rw[if_pos dN]at hx;cases hx
 rw[if_neg dN]at hx
 cases hk:re.kids[n.toNat]? with
 |none=>rw[hk]at hx;cases hx
 |some kid =>
 rw[hk]at hx
 simp only at hx
 have q0:0≤n:=by omega
 have q1:n<(re.kids.length:Int):=by have:=(List.getElem?_eq_some_iff.1 hk).1;omega
 have w1:IntKind.i64.wrap (n+1)=n+1:=bU _ (by omega)
 by_cases c:n+1<(re.kids.length:Int)
 ·rw[if_pos c]at hx
  have cK:=fun ext=>bn (qM g b a m (jw ⟨pa,pc,next⟩ 1 (.el re) (n+1) 0) g3 g4) rfl rfl rfl ext
  cases hx
  generalize ss:m.push (jw ⟨pa,pc,next⟩ 1 (.el re) (n+1) 0)=m2 at *
  unfold aC.au aC.az at cK
  simp only[zM,aJ,jw,aG.d,aE.d,Re.ae]at cK
  unfold aC.au aC.az
  refine aw func42 rfl ntmps42 results42 rfl 3 2098171 (by simp) (by simp) ?_
  try simp only[zX,simprocAttr,zM,aJ,aG.bt,d0,d1,d2,d3,d4,d5]
  refine aq mix [] [(9,[0],[]),(10,[0],[]),(11,[0],[]),(12,[0],[])] (by rfl) ?_
  try simp only[zX,simprocAttr,zM,aJ,aE.d,Re.ae,w1,c]
  refine aH bM.aP ?_
  refine aq mix [] [(9,[3],[]),(10,[3],[]),(12,[6],[6]),(13,[5],[]),(14,[5],[5])] (by rfl) ?_
  try simp only[zX,simprocAttr,zM,aJ,hole,w1]
  refine aO [6] (by simp [aM,bf,aR.go,aR,bN,aG.d,aE.d,Re.ae,iD,bD]) (aj (cK _) (fun v s' hv=>?_))
  obtain⟨rfl,rfl⟩:=hv
  try simp only[zX,simprocAttr,zM,aJ,aE.d,Re.ae]
  refine aq mix [13] [(5,[0],[]),(6,[0],[]),(7,[0],[])] (by rfl) ?_
  try simp only[zX,simprocAttr,zM,aJ,hk,q0,q1,aE.d,Re.ae]
  refine bu (nE rfl ⟨rfl,rfl⟩) ?_
  try simp only[zX,simprocAttr,zM,aJ,aE.d,Re.ae]
  first
   |(refine⟨an m2 b a,?_⟩;simp only[zM,aJ,jw,aG.d,aE.d,Re.ae];done)
   |exact⟨an m2 b a,rfl⟩
   |exact an m2 b a
 ·rw[if_neg c]at hx
  cases hx
  unfold aC.au aC.az
  refine aw func42 rfl ntmps42 results42 rfl 3 2098171 (by simp) (by simp) ?_
  try simp only[zX,simprocAttr,zM,aJ,aG.bt,d0,d1,d2,d3,d4,d5]
  refine aq mix [] [(9,[0],[]),(10,[0],[]),(11,[0],[]),(12,[0],[])] (by rfl) ?_
  try simp only[zX,simprocAttr,zM,aJ,aE.d,Re.ae,w1,c]
  refine aq mix [13] [(5,[0],[]),(6,[0],[]),(7,[0],[])] (by rfl) ?_
  try simp only[zX,simprocAttr,zM,aJ,hk,q0,q1,aE.d,Re.ae]
  refine bu (nE rfl ⟨rfl,rfl⟩) ?_
  try simp only[zX,simprocAttr,zM,aJ,aE.d,Re.ae]
  first
   |(refine⟨an m b a,?_⟩;simp only[zM,aJ,jw,aG.d,aE.d,Re.ae];done)
   |exact⟨an m b a,rfl⟩
   |exact an m b a
theorem E3 {k:Nat} (ih:bw k) (g b a:Nat) (m:aC) (pa:Int) (pc:ar) (kind n at_:Int) (next:aG) (hm:m.cn ⟨pa,pc,.mk kind .root n at_ next⟩) (ho:kind=1) {x:Rs} (hx:gn (fun m base p=>bh k true m base p true) m ⟨pa,pc,.mk kind .root n at_ next⟩=some x) :
  av prog 42 [.pp 0 g 0 0 b a,aA.v b a ⟨pa,pc,.mk kind .root n at_ next⟩] (m.au g b a) fun v s=>v=aJ b a x.2.1 x.2.2∧s=x.1.au g b a:=by
 have nq:=hm
 obtain⟨⟨g1,g2,g3,g4⟩,⟨g5,g6,g7⟩,g8,g9⟩:=hm
 unfold gn at hx
 rw[if_neg (by simpa using nq)]at hx
 simp only at g5 g6 g7
 simp only at hx
 have d0:decide (kind=0)=false:=decide_eq_false (by omega)
 have d1:decide (kind=1)=true:=decide_eq_true (by omega)
 have d2:decide (kind=2)=false:=decide_eq_false (by omega)
 have d3:decide (kind=3)=false:=decide_eq_false (by omega)
 have d4:decide (kind=4)=false:=decide_eq_false (by omega)
 have d5:decide (kind=5)=false:=decide_eq_false (by omega)
 rw[if_neg (by omega)]at hx
 by_cases hn:n<0∨10000000000000<n
 ·rw[if_pos hn]at hx;cases hx
 rw[if_neg hn,if_pos ho]at hx
 simp only[aC.lit]at hx
 by_cases dN:1000000000<m.p.re.kids.length
 ·rw[if_pos dN]at hx;cases hx
 rw[if_neg dN]at hx
 cases hk:m.p.re.kids[n.toNat]? with
 |none=>rw[hk]at hx;cases hx
 |some kid =>
 rw[hk]at hx
 simp only at hx
 have q0:0≤n:=by omega
 have q1:n<(m.p.re.kids.length:Int):=by have:=(List.getElem?_eq_some_iff.1 hk).1;omega
 have w1:IntKind.i64.wrap (n+1)=n+1:=bU _ (by omega)
 by_cases c:n+1<(m.p.re.kids.length:Int)
 ·rw[if_pos c]at hx
  have cK:=fun ext=>bn (qM g b a m (jw ⟨pa,pc,next⟩ 1 .root (n+1) 0) g3 g4) rfl rfl rfl ext
  cases hx
  have L6:(m.push (jw ⟨pa,pc,next⟩ 1 .root (n+1) 0)).p=m.p:=rfl
  have Ei:=hk
  have U3:=q1
  rw[← L6]at Ei U3
  generalize ss:m.push (jw ⟨pa,pc,next⟩ 1 .root (n+1) 0)=m2 at *
  unfold aC.au aC.az at cK
  simp only[zM,aJ,jw,aG.d,aE.d,Re.ae]at cK
  unfold aC.au aC.az
  refine aw func42 rfl ntmps42 results42 rfl 3 2098171 (by simp) (by simp) ?_
  try simp only[zX,simprocAttr,zM,aJ,aG.bt,d0,d1,d2,d3,d4,d5]
  refine aq mix [] [(9,[0],[]),(10,[0],[]),(11,[0],[]),(12,[0],[])] (by rfl) ?_
  try simp only[zX,simprocAttr,zM,aJ,aE.d,Re.ae,w1,c]
  refine aH bM.aP ?_
  refine aq mix [] [(9,[3],[]),(10,[3],[]),(12,[6],[6]),(13,[5],[]),(14,[5],[5])] (by rfl) ?_
  try simp only[zX,simprocAttr,zM,aJ,hole,w1]
  refine aO [6] (by simp [aM,bf,aR.go,aR,bN,aG.d,aE.d,Re.ae,iD,bD]) (aj (cK _) (fun v s' hv=>?_))
  obtain⟨rfl,rfl⟩:=hv
  try simp only[zX,simprocAttr,zM,aJ,aE.d,Re.ae]
  refine aq mix [13] [(5,[0],[]),(6,[0],[]),(7,[0],[])] (by rfl) ?_
  try simp only[zX,simprocAttr,zM,aJ,hk,q0,q1,aE.d,Re.ae,Ei,U3]
  refine bu (nE rfl ⟨rfl,rfl⟩) ?_
  try simp only[zX,simprocAttr,zM,aJ,aE.d,Re.ae]
  first
   |(refine⟨an m2 b a,?_⟩;simp only[zM,aJ,jw,aG.d,aE.d,Re.ae];done)
   |exact⟨an m2 b a,rfl⟩
   |exact an m2 b a
 ·rw[if_neg c]at hx
  cases hx
  unfold aC.au aC.az
  refine aw func42 rfl ntmps42 results42 rfl 3 2098171 (by simp) (by simp) ?_
  try simp only[zX,simprocAttr,zM,aJ,aG.bt,d0,d1,d2,d3,d4,d5]
  refine aq mix [] [(9,[0],[]),(10,[0],[]),(11,[0],[]),(12,[0],[])] (by rfl) ?_
  try simp only[zX,simprocAttr,zM,aJ,aE.d,Re.ae,w1,c]
  refine aq mix [13] [(5,[0],[]),(6,[0],[]),(7,[0],[])] (by rfl) ?_
  try simp only[zX,simprocAttr,zM,aJ,hk,q0,q1,aE.d,Re.ae]
  refine bu (nE rfl ⟨rfl,rfl⟩) ?_
  try simp only[zX,simprocAttr,zM,aJ,aE.d,Re.ae]
  first
   |(refine⟨an m b a,?_⟩;simp only[zM,aJ,jw,aG.d,aE.d,Re.ae];done)
   |exact⟨an m b a,rfl⟩
   |exact an m b a
theorem JS {k:Nat} (ih:bw k) (g b a:Nat) (m:aC) (re:Re) (pa:Int) (pc:ar) (kind n at_:Int) (next:aG) (hm:m.cn ⟨pa,pc,.mk kind (.el re) n at_ next⟩) (ho:kind=4) {x:Rs} (hx:gn (fun m base p=>bh k true m base p true) m ⟨pa,pc,.mk kind (.el re) n at_ next⟩=some x) :
  av prog 42 [.pp 0 g 0 0 b a,aA.v b a ⟨pa,pc,.mk kind (.el re) n at_ next⟩] (m.au g b a) fun v s=>v=aJ b a x.2.1 x.2.2∧s=x.1.au g b a:=by
 have nq:=hm
 obtain⟨⟨g1,g2,g3,g4⟩,⟨g5,g6,g7⟩,g8,g9⟩:=hm
 unfold gn at hx
 rw[if_neg (by simpa using nq)]at hx
 simp only at g5 g6 g7
 simp only at hx
 have d0:decide (kind=0)=false:=decide_eq_false (by omega)
 have d1:decide (kind=1)=false:=decide_eq_false (by omega)
 have d2:decide (kind=2)=false:=decide_eq_false (by omega)
 have d3:decide (kind=3)=false:=decide_eq_false (by omega)
 have d4:decide (kind=4)=true:=decide_eq_true (by omega)
 have d5:decide (kind=5)=false:=decide_eq_false (by omega)
 rw[if_neg (by omega)]at hx
 by_cases hn:n<0∨10000000000000<n
 ·rw[if_pos hn]at hx;cases hx
 rw[if_neg hn,if_neg (by omega),if_neg (by omega),if_neg (by omega),if_pos ho]at hx
 simp only[aC.lit]at hx
 by_cases Rd:re.n<1∨(pc.length:Int)<re.n
 ·rw[if_pos Rd]at hx;cases hx
 rw[if_neg Rd]at hx
 cases hx
 have w0:IntKind.i64.wrap (re.n-1)=re.n-1:=bU _ (by omega)
 have q0:0≤re.n-1:=by omega
 have q1:re.n-1<(pc.length:Int):=by omega
 unfold aC.au aC.az
 refine aw func42 rfl ntmps42 results42 rfl 3 2098171 (by simp) (by simp) ?_
 try simp only[zX,simprocAttr,zM,aJ,aG.bt,d0,d1,d2,d3,d4,d5]
 try simp only[zX,simprocAttr,zM,aJ,bH,W1]
 refine⟨⟨WW _,by (try simp);omega,by omega⟩,?_⟩
 have hput:gg (List.replicate pc.length [V.d (D.sc (Value.int IntKind.i64 0)),V.d (D.sc (Value.int IntKind.i64 0))]) 0 (List.map (fun x=>List.map V.d x) (List.map aT pc))=pc.map pV:=by
  unfold gg
  rw[List.take_zero,WS,List.drop_of_length_le (by simp),Xk,XS]
  rfl
 try simp only[zX,simprocAttr,zM,aJ,pg,W1,XD,hput]
 refine⟨fun e he=>by obtain⟨y,hy,rfl⟩:=List.mem_map.1 he;obtain⟨c,_,rfl⟩:=List.mem_map.1 hy;rfl,⟨by omega,W4 _⟩,?_⟩
 obtain⟨y,hy⟩:∃y,pc[(re.n-1).toNat]?=some y:=⟨_,WZ (by omega)⟩
 have lW:(pc.map pV)[(re.n-1).toNat]?=some [V.d (D.sc (Value.int IntKind.i64 y.1)),V.d (D.sc (Value.int IntKind.i64 y.2))]:=by rw[Xd,hy];rfl
 have cC:(pc.map pV).set (re.n-1).toNat [V.d (D.sc (Value.int IntKind.i64 at_)),V.d (D.sc (Value.int IntKind.i64 pa))]=(pc.set (re.n-1).toNat (at_,pa)).map pV:=by rw[List.map_set];rfl
 have Pz:∀s:List VL.Obj,(List.take pc.length (List.map pV (List.set pc (re.n-1).toNat (at_,pa)))).mapM (fun e=>e.mapM (bN 7 3 s))=some ((List.set pc (re.n-1).toNat (at_,pa)).map aT):=by
  intro s
  rw[Xv (by simp)]
  exact sy 6 3 s _
 refine aq mix [] [(5,[0],[]),(6,[0],[]),(7,[0],[]),(13,[3],[]),(14,[3],[]),(16,[5],[]),(17,[5],[5])] (by rfl) ?_
 try simp only[zX,simprocAttr,zM,aJ,aE.d,Re.ae,w0,q0,q1,Xi,lW,cC,List.length_set,W4,XE,Pz]
 first
  |(refine⟨an m b a,?_⟩;simp only[zM,aJ,jw,bH,aG.d,aE.d,Re.ae];done)
  |exact⟨an m b a,rfl⟩
  |exact an m b a
theorem Fo {k:Nat} (ih:bw k) (g b a:Nat) (m:aC) (pa:Int) (pc:ar) (kind n at_:Int) (next:aG) (hm:m.cn ⟨pa,pc,.mk kind .root n at_ next⟩) (ho:kind=4) {x:Rs} (hx:gn (fun m base p=>bh k true m base p true) m ⟨pa,pc,.mk kind .root n at_ next⟩=some x) :
  av prog 42 [.pp 0 g 0 0 b a,aA.v b a ⟨pa,pc,.mk kind .root n at_ next⟩] (m.au g b a) fun v s=>v=aJ b a x.2.1 x.2.2∧s=x.1.au g b a:=by
 have nq:=hm
 obtain⟨⟨g1,g2,g3,g4⟩,⟨g5,g6,g7⟩,g8,g9⟩:=hm
 unfold gn at hx
 rw[if_neg (by simpa using nq)]at hx
 simp only at g5 g6 g7
 simp only at hx
 have d0:decide (kind=0)=false:=decide_eq_false (by omega)
 have d1:decide (kind=1)=false:=decide_eq_false (by omega)
 have d2:decide (kind=2)=false:=decide_eq_false (by omega)
 have d3:decide (kind=3)=false:=decide_eq_false (by omega)
 have d4:decide (kind=4)=true:=decide_eq_true (by omega)
 have d5:decide (kind=5)=false:=decide_eq_false (by omega)
 rw[if_neg (by omega)]at hx
 by_cases hn:n<0∨10000000000000<n
 ·rw[if_pos hn]at hx;cases hx
 rw[if_neg hn,if_neg (by omega),if_neg (by omega),if_neg (by omega),if_pos ho]at hx
 simp only[aC.lit]at hx
 by_cases Rd:m.p.re.n<1∨(pc.length:Int)<m.p.re.n
 ·rw[if_pos Rd]at hx;cases hx
 rw[if_neg Rd]at hx
 cases hx
 have w0:IntKind.i64.wrap (m.p.re.n-1)=m.p.re.n-1:=bU _ (by omega)
 have q0:0≤m.p.re.n-1:=by omega
 have q1:m.p.re.n-1<(pc.length:Int):=by omega
 unfold aC.au aC.az
 refine aw func42 rfl ntmps42 results42 rfl 3 2098171 (by simp) (by simp) ?_
 try simp only[zX,simprocAttr,zM,aJ,aG.bt,d0,d1,d2,d3,d4,d5]
 try simp only[zX,simprocAttr,zM,aJ,bH,W1]
 refine⟨⟨WW _,by (try simp);omega,by omega⟩,?_⟩
 have hput:gg (List.replicate pc.length [V.d (D.sc (Value.int IntKind.i64 0)),V.d (D.sc (Value.int IntKind.i64 0))]) 0 (List.map (fun x=>List.map V.d x) (List.map aT pc))=pc.map pV:=by
  unfold gg
  rw[List.take_zero,WS,List.drop_of_length_le (by simp),Xk,XS]
  rfl
 try simp only[zX,simprocAttr,zM,aJ,pg,W1,XD,hput]
 refine⟨fun e he=>by obtain⟨y,hy,rfl⟩:=List.mem_map.1 he;obtain⟨c,_,rfl⟩:=List.mem_map.1 hy;rfl,⟨by omega,W4 _⟩,?_⟩
 obtain⟨y,hy⟩:∃y,pc[(m.p.re.n-1).toNat]?=some y:=⟨_,WZ (by omega)⟩
 have lW:(pc.map pV)[(m.p.re.n-1).toNat]?=some [V.d (D.sc (Value.int IntKind.i64 y.1)),V.d (D.sc (Value.int IntKind.i64 y.2))]:=by rw[Xd,hy];rfl
 have cC:(pc.map pV).set (m.p.re.n-1).toNat [V.d (D.sc (Value.int IntKind.i64 at_)),V.d (D.sc (Value.int IntKind.i64 pa))]=(pc.set (m.p.re.n-1).toNat (at_,pa)).map pV:=by rw[List.map_set];rfl
 have Pz:∀s:List VL.Obj,(List.take pc.length (List.map pV (List.set pc (m.p.re.n-1).toNat (at_,pa)))).mapM (fun e=>e.mapM (bN 7 3 s))=some ((List.set pc (m.p.re.n-1).toNat (at_,pa)).map aT):=by
  intro s
  rw[Xv (by simp)]
  exact sy 6 3 s _
 refine aq mix [] [(5,[0],[]),(6,[0],[]),(7,[0],[]),(13,[3],[]),(14,[3],[]),(16,[5],[]),(17,[5],[5])] (by rfl) ?_
 try simp only[zX,simprocAttr,zM,aJ,aE.d,Re.ae,w0,q0,q1,Xi,lW,cC,List.length_set,W4,XE,Pz]
 first
  |(refine⟨an m b a,?_⟩;simp only[zM,aJ,jw,bH,aG.d,aE.d,Re.ae];done)
  |exact⟨an m b a,rfl⟩
  |exact an m b a
end Go.Proofs.YtmihcpdhcillaaaGreat
