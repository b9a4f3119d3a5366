/- A part of the proof (G34). -/
import Derived.Test.YtmihcpdhcillaaaGreatBG41
import Derived.Test.YtmihcpdhcillaaaGreatBG24
set_option linter.unusedSimpArgs false
set_option linter.unusedVariables false
set_option maxRecDepth 100000
set_option maxHeartbeats 80000000
namespace Go.Proofs.YtmihcpdhcillaaaGreat
open Go.VL Go.Proofs.Tryz
theorem yW {k:Nat} (ih:bw k) (g b a:Nat) (m:aC) (re:Re) (p:aA) (hm:m.cn p) (cC:re.set.length≤1000000000) (cz:re.kids.length≤1000000000) (ho:re.op=4) (lK:re.mode=2) {x:Rs} (hx:bq (fun m base p=>bh k true m base p true) m (.el re) p=some x) :
  av prog 72 [.pp 0 g 0 0 b a,.d ((aE.el re).d b a),p.v b a] (m.au g b a) fun v s=>v=aJ b a x.2.1 x.2.2∧s=x.1.au g b a:=by
 obtain⟨⟨g1,g2,g3,g4⟩,⟨g5,g6,g7⟩,g8,g9⟩:=hm
 unfold bq at hx
 simp only[aC.lit]at hx
 rw[if_neg (by omega)]at hx
 rw[if_pos ho,if_pos lK]at hx
 have d4:decide (re.op=4)=true:=decide_eq_true ho
 have dm:decide (re.mode=2)=true:=decide_eq_true lK
 have aW:=fun ext=>bn (qn ih g b a m p _ hx) rfl rfl rfl ext
 obtain⟨m1,y1,y2⟩:=x
 unfold aC.au aC.az at aW
 simp only[zM,aJ,aG.d,aE.d,Re.ae]at aW
 unfold aC.au aC.az
 refine aw func72 rfl ntmps72 results72 rfl 3 158456325028528677386111158247 (by simp) (by simp) ?_
 simp only[zX,simprocAttr,zM,aJ,aE.d,Re.ae,d4,dm]
 refine aO [5] (by simp [aM,bf,aR.go,aR,bN,aG.d,aE.d,Re.ae,iD,bD]) (aj (aW _) (fun v s' hv=>?_))
 obtain⟨rfl,rfl⟩:=hv
 simp only[zX,simprocAttr,zM,aJ]
 first
  |(refine⟨an m1 b a,?_⟩;simp only[zM,aJ,jw,eH,aG.d,aE.d,Re.ae];done)
  |exact⟨an m1 b a,rfl⟩
  |exact an m1 b a
theorem vM {k:Nat} (ih:bw k) (g b a:Nat) (m:aC) (p:aA) (hm:m.cn p) (cC:m.p.re.set.length≤1000000000) (cz:m.p.re.kids.length≤1000000000) (ho:m.p.re.op=4) (lK:m.p.re.mode=2) {x:Rs} (hx:bq (fun m base p=>bh k true m base p true) m .root p=some x) :
  av prog 72 [.pp 0 g 0 0 b a,.d ((aE.root).d b a),p.v b a] (m.au g b a) fun v s=>v=aJ b a x.2.1 x.2.2∧s=x.1.au g b a:=by
 obtain⟨⟨g1,g2,g3,g4⟩,⟨g5,g6,g7⟩,g8,g9⟩:=hm
 unfold bq at hx
 simp only[aC.lit]at hx
 rw[if_neg (by omega)]at hx
 rw[if_pos ho,if_pos lK]at hx
 have d4:decide (m.p.re.op=4)=true:=decide_eq_true ho
 have dm:decide (m.p.re.mode=2)=true:=decide_eq_true lK
 have aW:=fun ext=>bn (qn ih g b a m p _ hx) rfl rfl rfl ext
 obtain⟨m1,y1,y2⟩:=x
 unfold aC.au aC.az at aW
 simp only[zM,aJ,aG.d,aE.d,Re.ae]at aW
 unfold aC.au aC.az
 refine aw func72 rfl ntmps72 results72 rfl 3 158456325028528677386111158247 (by simp) (by simp) ?_
 simp only[zX,simprocAttr,zM,aJ,aE.d,Re.ae,d4,dm]
 refine aO [5] (by simp [aM,bf,aR.go,aR,bN,aG.d,aE.d,Re.ae,iD,bD]) (aj (aW _) (fun v s' hv=>?_))
 obtain⟨rfl,rfl⟩:=hv
 simp only[zX,simprocAttr,zM,aJ]
 first
  |(refine⟨an m1 b a,?_⟩;simp only[zM,aJ,jw,eH,aG.d,aE.d,Re.ae];done)
  |exact⟨an m1 b a,rfl⟩
  |exact an m1 b a
theorem Bd {k:Nat} (ih:bw k) (g b a:Nat) (m:aC) (re:Re) (p:aA) (hm:m.cn p) (cC:re.set.length≤1000000000) (cz:re.kids.length≤1000000000) (ho:re.op=4) (lK:¬re.mode=2) {x:Rs} (hx:bq (fun m base p=>bh k true m base p true) m (.el re) p=some x) :
  av prog 72 [.pp 0 g 0 0 b a,.d ((aE.el re).d b a),p.v b a] (m.au g b a) fun v s=>v=aJ b a x.2.1 x.2.2∧s=x.1.au g b a:=by
 obtain⟨⟨g1,g2,g3,g4⟩,⟨g5,g6,g7⟩,g8,g9⟩:=hm
 unfold bq at hx
 simp only[aC.lit]at hx
 rw[if_neg (by omega)]at hx
 rw[if_pos ho,if_neg lK]at hx
 have d4:decide (re.op=4)=true:=decide_eq_true ho
 have dm:decide (re.mode=2)=false:=decide_eq_false lK
 cases hx
 unfold aC.au aC.az
 refine aw func72 rfl ntmps72 results72 rfl 3 158456325028528677386111158247 (by simp) (by simp) ?_
 simp only[zX,simprocAttr,zM,aJ,aE.d,Re.ae,d4,dm]
 refine eJ rfl ?_
 simp only[zX,simprocAttr,zM,aJ,aE.d,Re.ae,d4,dm]
 first
  |(refine⟨an m b a,?_⟩;simp only[zM,aJ,jw,eH,aG.d,aE.d,Re.ae];done)
  |exact⟨an m b a,rfl⟩
  |exact an m b a
theorem yh {k:Nat} (ih:bw k) (g b a:Nat) (m:aC) (p:aA) (hm:m.cn p) (cC:m.p.re.set.length≤1000000000) (cz:m.p.re.kids.length≤1000000000) (ho:m.p.re.op=4) (lK:¬m.p.re.mode=2) {x:Rs} (hx:bq (fun m base p=>bh k true m base p true) m .root p=some x) :
  av prog 72 [.pp 0 g 0 0 b a,.d ((aE.root).d b a),p.v b a] (m.au g b a) fun v s=>v=aJ b a x.2.1 x.2.2∧s=x.1.au g b a:=by
 obtain⟨⟨g1,g2,g3,g4⟩,⟨g5,g6,g7⟩,g8,g9⟩:=hm
 unfold bq at hx
 simp only[aC.lit]at hx
 rw[if_neg (by omega)]at hx
 rw[if_pos ho,if_neg lK]at hx
 have d4:decide (m.p.re.op=4)=true:=decide_eq_true ho
 have dm:decide (m.p.re.mode=2)=false:=decide_eq_false lK
 cases hx
 unfold aC.au aC.az
 refine aw func72 rfl ntmps72 results72 rfl 3 158456325028528677386111158247 (by simp) (by simp) ?_
 simp only[zX,simprocAttr,zM,aJ,aE.d,Re.ae,d4,dm]
 refine eJ rfl ?_
 simp only[zX,simprocAttr,zM,aJ,aE.d,Re.ae,d4,dm]
 first
  |(refine⟨an m b a,?_⟩;simp only[zM,aJ,jw,eH,aG.d,aE.d,Re.ae];done)
  |exact⟨an m b a,rfl⟩
  |exact an m b a
theorem A1 {k:Nat} (ih:bw k) (g b a:Nat) (m:aC) (re:Re) (p:aA) (hm:m.cn p) (cC:re.set.length≤1000000000) (cz:re.kids.length≤1000000000) (ho:¬re.op=4) (hf:m.fuel≤m.steps) {x:Rs} (hx:bq (fun m base p=>bh k true m base p true) m (.el re) p=some x) :
  av prog 72 [.pp 0 g 0 0 b a,.d ((aE.el re).d b a),p.v b a] (m.au g b a) fun v s=>v=aJ b a x.2.1 x.2.2∧s=x.1.au g b a:=by
 obtain⟨⟨g1,g2,g3,g4⟩,⟨g5,g6,g7⟩,g8,g9⟩:=hm
 unfold bq at hx
 simp only[aC.lit]at hx
 rw[if_neg (by omega)]at hx
 rw[if_neg ho,if_pos hf]at hx
 have d4:decide (re.op=4)=false:=decide_eq_false ho
 have aW:=fun ext=>bn (cI g b a m g1 g2) rfl rfl rfl ext
 have hd:decide (m.steps<m.fuel)=false:=decide_eq_false (by omega)
 simp only[hd]at aW
 cases hx
 unfold aC.au aC.az at aW
 simp only[zM,aJ]at aW
 unfold aC.au aC.az
 refine aw func72 rfl ntmps72 results72 rfl 3 158456325028528677386111158247 (by simp) (by simp) ?_
 simp only[zX,simprocAttr,zM,aJ,aE.d,Re.ae,d4]
 refine aj (aW _) (fun v s' hv=>?_);obtain⟨rfl,rfl⟩:=hv
 simp only[zX,simprocAttr,zM,aJ,W0]
 first
  |(refine⟨an m.step b a,?_⟩;simp only[zM,aJ,jw,eH,aG.d,aE.d,Re.ae];done)
  |exact⟨an m.step b a,rfl⟩
  |exact an m.step b a
theorem xZ {k:Nat} (ih:bw k) (g b a:Nat) (m:aC) (p:aA) (hm:m.cn p) (cC:m.p.re.set.length≤1000000000) (cz:m.p.re.kids.length≤1000000000) (ho:¬m.p.re.op=4) (hf:m.fuel≤m.steps) {x:Rs} (hx:bq (fun m base p=>bh k true m base p true) m .root p=some x) :
  av prog 72 [.pp 0 g 0 0 b a,.d ((aE.root).d b a),p.v b a] (m.au g b a) fun v s=>v=aJ b a x.2.1 x.2.2∧s=x.1.au g b a:=by
 obtain⟨⟨g1,g2,g3,g4⟩,⟨g5,g6,g7⟩,g8,g9⟩:=hm
 unfold bq at hx
 simp only[aC.lit]at hx
 rw[if_neg (by omega)]at hx
 rw[if_neg ho,if_pos hf]at hx
 have d4:decide (m.p.re.op=4)=false:=decide_eq_false ho
 have aW:=fun ext=>bn (cI g b a m g1 g2) rfl rfl rfl ext
 have hd:decide (m.steps<m.fuel)=false:=decide_eq_false (by omega)
 simp only[hd]at aW
 cases hx
 unfold aC.au aC.az at aW
 simp only[zM,aJ]at aW
 unfold aC.au aC.az
 refine aw func72 rfl ntmps72 results72 rfl 3 158456325028528677386111158247 (by simp) (by simp) ?_
 simp only[zX,simprocAttr,zM,aJ,aE.d,Re.ae,d4]
 refine aj (aW _) (fun v s' hv=>?_);obtain⟨rfl,rfl⟩:=hv
 simp only[zX,simprocAttr,zM,aJ,W0]
 first
  |(refine⟨an m.step b a,?_⟩;simp only[zM,aJ,jw,eH,aG.d,aE.d,Re.ae];done)
  |exact⟨an m.step b a,rfl⟩
  |exact an m.step b a
theorem FN {k:Nat} (ih:bw k) (g b a:Nat) (m:aC) (re:Re) (p:aA) (hm:m.cn p) (cC:re.set.length≤1000000000) (cz:re.kids.length≤1000000000) (ho:re.op=1) (hf:¬m.fuel≤m.steps) {x:Rs} (hx:bq (fun m base p=>bh k true m base p true) m (.el re) p=some x) :
  av prog 72 [.pp 0 g 0 0 b a,.d ((aE.el re).d b a),p.v b a] (m.au g b a) fun v s=>v=aJ b a x.2.1 x.2.2∧s=x.1.au g b a:=by
 obtain⟨⟨g1,g2,g3,g4⟩,⟨g5,g6,g7⟩,g8,g9⟩:=hm
 unfold bq at hx
 simp only[aC.lit]at hx
 rw[if_neg (by omega)]at hx
 have d4:decide (re.op=4)=false:=decide_eq_false (by omega)
 have aW:=fun ext=>bn (cI g b a m g1 g2) rfl rfl rfl ext
 have dr:=m.eR
 have bE:=m.dI
 rw[if_neg (by omega),if_neg hf]at hx
 have hd:decide (m.steps<m.fuel)=true:=decide_eq_true (by omega)
 simp only[hd]at aW
 have t1:m.step.t.length≤1000000:=by rw[bE.t];exact g8
 have t2:p.at_≤m.step.t.length:=by rw[bE.t];exact g6
 have t3:m.step.same:=fun h=>by rw[bE.own,bE.t];exact g9 (by rw[← bE.bB];exact h)
 generalize rF:m.step=m1 at *
 obtain⟨d1,d2,d3,_,d5,d6,d7,d8,d9,d10,d11⟩:=Rb (o:=re.op) (by omega)
 rw[if_pos ho]at hx
 cases hx
 have cK:=fun ext=>bn (Gi g b a m1 (.el re) re p rfl cC g5 t1 t3) rfl rfl rfl ext
 generalize hy:jx m1.t re p=y at *
 obtain⟨y1,y2⟩:=y
 unfold aC.au aC.az at cK
 simp only[zM,aJ,aG.d,aE.d,Re.ae]at cK
 unfold aC.au aC.az at aW
 simp only[zM,aJ]at aW
 unfold aC.au aC.az
 refine aw func72 rfl ntmps72 results72 rfl 3 158456325028528677386111158247 (by simp) (by simp) ?_
 simp only[zX,simprocAttr,zM,aJ,aE.d,Re.ae,d4]
 refine aj (aW _) (fun v s' hv=>?_);obtain⟨rfl,rfl⟩:=hv
 simp only[zX,simprocAttr,zM,aJ,WY,Re.ae,d1,d2,d3,d5,d6,d7,d8,d9,d10,d11]
 refine aj (cK _) (fun v s' hv=>?_);obtain⟨rfl,rfl⟩:=hv
 simp only[zX,simprocAttr,zM,aJ]
 first
  |(refine⟨an m1 b a,?_⟩;simp only[zM,aJ,jw,eH,aG.d,aE.d,Re.ae];done)
  |exact⟨an m1 b a,rfl⟩
  |exact an m1 b a
theorem Bb {k:Nat} (ih:bw k) (g b a:Nat) (m:aC) (p:aA) (hm:m.cn p) (cC:m.p.re.set.length≤1000000000) (cz:m.p.re.kids.length≤1000000000) (ho:m.p.re.op=1) (hf:¬m.fuel≤m.steps) {x:Rs} (hx:bq (fun m base p=>bh k true m base p true) m .root p=some x) :
  av prog 72 [.pp 0 g 0 0 b a,.d ((aE.root).d b a),p.v b a] (m.au g b a) fun v s=>v=aJ b a x.2.1 x.2.2∧s=x.1.au g b a:=by
 obtain⟨⟨g1,g2,g3,g4⟩,⟨g5,g6,g7⟩,g8,g9⟩:=hm
 unfold bq at hx
 simp only[aC.lit]at hx
 rw[if_neg (by omega)]at hx
 have d4:decide (m.p.re.op=4)=false:=decide_eq_false (by omega)
 have aW:=fun ext=>bn (cI g b a m g1 g2) rfl rfl rfl ext
 have dr:=m.eR
 have bE:=m.dI
 rw[if_neg (by omega),if_neg hf]at hx
 have hd:decide (m.steps<m.fuel)=true:=decide_eq_true (by omega)
 simp only[hd]at aW
 have t1:m.step.t.length≤1000000:=by rw[bE.t];exact g8
 have t2:p.at_≤m.step.t.length:=by rw[bE.t];exact g6
 have t3:m.step.same:=fun h=>by rw[bE.own,bE.t];exact g9 (by rw[← bE.bB];exact h)
 generalize rF:m.step=m1 at *
 rw[← dr]at cC cz ho hx
 obtain⟨d1,d2,d3,_,d5,d6,d7,d8,d9,d10,d11⟩:=Rb (o:=m1.p.re.op) (by omega)
 rw[if_pos ho]at hx
 cases hx
 have cK:=fun ext=>bn (Gi g b a m1 .root m1.p.re p rfl cC g5 t1 t3) rfl rfl rfl ext
 generalize hy:jx m1.t m1.p.re p=y at *
 obtain⟨y1,y2⟩:=y
 unfold aC.au aC.az at cK
 simp only[zM,aJ,aG.d,aE.d,Re.ae]at cK
 unfold aC.au aC.az at aW
 simp only[zM,aJ]at aW
 unfold aC.au aC.az
 refine aw func72 rfl ntmps72 results72 rfl 3 158456325028528677386111158247 (by simp) (by simp) ?_
 simp only[zX,simprocAttr,zM,aJ,aE.d,Re.ae,d4]
 refine aj (aW _) (fun v s' hv=>?_);obtain⟨rfl,rfl⟩:=hv
 simp only[zX,simprocAttr,zM,aJ,WY,Re.ae,d1,d2,d3,d5,d6,d7,d8,d9,d10,d11]
 refine aj (cK _) (fun v s' hv=>?_);obtain⟨rfl,rfl⟩:=hv
 simp only[zX,simprocAttr,zM,aJ]
 first
  |(refine⟨an m1 b a,?_⟩;simp only[zM,aJ,jw,eH,aG.d,aE.d,Re.ae];done)
  |exact⟨an m1 b a,rfl⟩
  |exact an m1 b a
theorem FH {k:Nat} (ih:bw k) (g b a:Nat) (m:aC) (re:Re) (p:aA) (hm:m.cn p) (cC:re.set.length≤1000000000) (cz:re.kids.length≤1000000000) (ho:re.op=3) (hf:¬m.fuel≤m.steps) {x:Rs} (hx:bq (fun m base p=>bh k true m base p true) m (.el re) p=some x) :
  av prog 72 [.pp 0 g 0 0 b a,.d ((aE.el re).d b a),p.v b a] (m.au g b a) fun v s=>v=aJ b a x.2.1 x.2.2∧s=x.1.au g b a:=by
 obtain⟨⟨g1,g2,g3,g4⟩,⟨g5,g6,g7⟩,g8,g9⟩:=hm
 unfold bq at hx
 simp only[aC.lit]at hx
 rw[if_neg (by omega)]at hx
 have d4:decide (re.op=4)=false:=decide_eq_false (by omega)
 have aW:=fun ext=>bn (cI g b a m g1 g2) rfl rfl rfl ext
 have dr:=m.eR
 have bE:=m.dI
 rw[if_neg (by omega),if_neg hf]at hx
 have hd:decide (m.steps<m.fuel)=true:=decide_eq_true (by omega)
 simp only[hd]at aW
 have t1:m.step.t.length≤1000000:=by rw[bE.t];exact g8
 have t2:p.at_≤m.step.t.length:=by rw[bE.t];exact g6
 have t3:m.step.same:=fun h=>by rw[bE.own,bE.t];exact g9 (by rw[← bE.bB];exact h)
 generalize rF:m.step=m1 at *
 obtain⟨d1,d2,d3,_,d5,d6,d7,d8,d9,d10,d11⟩:=QZ (o:=re.op) (by omega)
 rw[if_neg (by omega),if_neg (by omega),if_pos ho]at hx
 cases hx
 unfold aC.au aC.az at aW
 simp only[zM,aJ]at aW
 unfold aC.au aC.az
 refine aw func72 rfl ntmps72 results72 rfl 3 158456325028528677386111158247 (by simp) (by simp) ?_
 simp only[zX,simprocAttr,zM,aJ,aE.d,Re.ae,d4]
 refine aj (aW _) (fun v s' hv=>?_);obtain⟨rfl,rfl⟩:=hv
 simp only[zX,simprocAttr,zM,aJ,WY,Re.ae,d1,d2,d3,d5,d6,d7,d8,d9,d10,d11]
 refine eJ rfl ?_
 simp only[zX,simprocAttr,zM,aJ,WY,Re.ae,d1,d2,d3,d5,d6,d7,d8,d9,d10,d11]
 first
  |(refine⟨an m1 b a,?_⟩;simp only[zM,aJ,jw,eH,aG.d,aE.d,Re.ae];done)
  |exact⟨an m1 b a,rfl⟩
  |exact an m1 b a
theorem A4 {k:Nat} (ih:bw k) (g b a:Nat) (m:aC) (p:aA) (hm:m.cn p) (cC:m.p.re.set.length≤1000000000) (cz:m.p.re.kids.length≤1000000000) (ho:m.p.re.op=3) (hf:¬m.fuel≤m.steps) {x:Rs} (hx:bq (fun m base p=>bh k true m base p true) m .root p=some x) :
  av prog 72 [.pp 0 g 0 0 b a,.d ((aE.root).d b a),p.v b a] (m.au g b a) fun v s=>v=aJ b a x.2.1 x.2.2∧s=x.1.au g b a:=by
 obtain⟨⟨g1,g2,g3,g4⟩,⟨g5,g6,g7⟩,g8,g9⟩:=hm
 unfold bq at hx
 simp only[aC.lit]at hx
 rw[if_neg (by omega)]at hx
 have d4:decide (m.p.re.op=4)=false:=decide_eq_false (by omega)
 have aW:=fun ext=>bn (cI g b a m g1 g2) rfl rfl rfl ext
 have dr:=m.eR
 have bE:=m.dI
 rw[if_neg (by omega),if_neg hf]at hx
 have hd:decide (m.steps<m.fuel)=true:=decide_eq_true (by omega)
 simp only[hd]at aW
 have t1:m.step.t.length≤1000000:=by rw[bE.t];exact g8
 have t2:p.at_≤m.step.t.length:=by rw[bE.t];exact g6
 have t3:m.step.same:=fun h=>by rw[bE.own,bE.t];exact g9 (by rw[← bE.bB];exact h)
 generalize rF:m.step=m1 at *
 rw[← dr]at cC cz ho hx
 obtain⟨d1,d2,d3,_,d5,d6,d7,d8,d9,d10,d11⟩:=QZ (o:=m1.p.re.op) (by omega)
 rw[if_neg (by omega),if_neg (by omega),if_pos ho]at hx
 cases hx
 unfold aC.au aC.az at aW
 simp only[zM,aJ]at aW
 unfold aC.au aC.az
 refine aw func72 rfl ntmps72 results72 rfl 3 158456325028528677386111158247 (by simp) (by simp) ?_
 simp only[zX,simprocAttr,zM,aJ,aE.d,Re.ae,d4]
 refine aj (aW _) (fun v s' hv=>?_);obtain⟨rfl,rfl⟩:=hv
 simp only[zX,simprocAttr,zM,aJ,WY,Re.ae,d1,d2,d3,d5,d6,d7,d8,d9,d10,d11]
 refine eJ rfl ?_
 simp only[zX,simprocAttr,zM,aJ,WY,Re.ae,d1,d2,d3,d5,d6,d7,d8,d9,d10,d11]
 first
  |(refine⟨an m1 b a,?_⟩;simp only[zM,aJ,jw,eH,aG.d,aE.d,Re.ae];done)
  |exact⟨an m1 b a,rfl⟩
  |exact an m1 b a
theorem EC {k:Nat} (ih:bw k) (g b a:Nat) (m:aC) (re:Re) (p:aA) (hm:m.cn p) (cC:re.set.length≤1000000000) (cz:re.kids.length≤1000000000) (ho:re.op=5) (hf:¬m.fuel≤m.steps) {x:Rs} (hx:bq (fun m base p=>bh k true m base p true) m (.el re) p=some x) :
  av prog 72 [.pp 0 g 0 0 b a,.d ((aE.el re).d b a),p.v b a] (m.au g b a) fun v s=>v=aJ b a x.2.1 x.2.2∧s=x.1.au g b a:=by
 obtain⟨⟨g1,g2,g3,g4⟩,⟨g5,g6,g7⟩,g8,g9⟩:=hm
 unfold bq at hx
 simp only[aC.lit]at hx
 rw[if_neg (by omega)]at hx
 have d4:decide (re.op=4)=false:=decide_eq_false (by omega)
 have aW:=fun ext=>bn (cI g b a m g1 g2) rfl rfl rfl ext
 have dr:=m.eR
 have bE:=m.dI
 rw[if_neg (by omega),if_neg hf]at hx
 have hd:decide (m.steps<m.fuel)=true:=decide_eq_true (by omega)
 simp only[hd]at aW
 have t1:m.step.t.length≤1000000:=by rw[bE.t];exact g8
 have t2:p.at_≤m.step.t.length:=by rw[bE.t];exact g6
 have t3:m.step.same:=fun h=>by rw[bE.own,bE.t];exact g9 (by rw[← bE.bB];exact h)
 generalize rF:m.step=m1 at *
 obtain⟨d1,d2,d3,_,d5,d6,d7,d8,d9,d10,d11⟩:=QU (o:=re.op) (by omega)
 rw[if_neg (by omega),if_neg (by omega),if_neg (by omega),if_pos ho]at hx
 obtain⟨kid,l,hl⟩:∃kid l,re.kids=kid::l:=by
  cases hh:re.kids with
  |nil=>rw[hh]at hx;cases hx
  |cons y l=>exact⟨y,l,rfl⟩
 rw[hl]at hx
 cases hx
 have hk:re.kids[0]?=some kid:=by rw[hl];rfl
 have eh:(0:Int)<(re.kids.length:Int):=by rw[hl,W3];omega
 unfold aC.au aC.az at aW
 simp only[zM,aJ]at aW
 unfold aC.au aC.az
 refine aw func72 rfl ntmps72 results72 rfl 3 158456325028528677386111158247 (by simp) (by simp) ?_
 simp only[zX,simprocAttr,zM,aJ,aE.d,Re.ae,d4]
 refine aj (aW _) (fun v s' hv=>?_);obtain⟨rfl,rfl⟩:=hv
 simp only[zX,simprocAttr,zM,aJ,WY,Re.ae,d1,d2,d3,d5,d6,d7,d8,d9,d10,d11]
 refine eJ rfl ?_
 simp only[zX,simprocAttr,zM,aJ,WY,Re.ae,d1,d2,d3,d5,d6,d7,d8,d9,d10,d11,eh,hk]
 refine eJ rfl ?_
 simp only[zX,simprocAttr,zM,aJ,WY,Re.ae,d1,d2,d3,d5,d6,d7,d8,d9,d10,d11]
 first
  |(refine⟨an m1 b a,?_⟩;simp only[zM,aJ,jw,eH,aG.d,aE.d,Re.ae];done)
  |exact⟨an m1 b a,rfl⟩
  |exact an m1 b a
theorem BF {k:Nat} (ih:bw k) (g b a:Nat) (m:aC) (p:aA) (hm:m.cn p) (cC:m.p.re.set.length≤1000000000) (cz:m.p.re.kids.length≤1000000000) (ho:m.p.re.op=5) (hf:¬m.fuel≤m.steps) {x:Rs} (hx:bq (fun m base p=>bh k true m base p true) m .root p=some x) :
  av prog 72 [.pp 0 g 0 0 b a,.d ((aE.root).d b a),p.v b a] (m.au g b a) fun v s=>v=aJ b a x.2.1 x.2.2∧s=x.1.au g b a:=by
 obtain⟨⟨g1,g2,g3,g4⟩,⟨g5,g6,g7⟩,g8,g9⟩:=hm
 unfold bq at hx
 simp only[aC.lit]at hx
 rw[if_neg (by omega)]at hx
 have d4:decide (m.p.re.op=4)=false:=decide_eq_false (by omega)
 have aW:=fun ext=>bn (cI g b a m g1 g2) rfl rfl rfl ext
 have dr:=m.eR
 have bE:=m.dI
 rw[if_neg (by omega),if_neg hf]at hx
 have hd:decide (m.steps<m.fuel)=true:=decide_eq_true (by omega)
 simp only[hd]at aW
 have t1:m.step.t.length≤1000000:=by rw[bE.t];exact g8
 have t2:p.at_≤m.step.t.length:=by rw[bE.t];exact g6
 have t3:m.step.same:=fun h=>by rw[bE.own,bE.t];exact g9 (by rw[← bE.bB];exact h)
 generalize rF:m.step=m1 at *
 rw[← dr]at cC cz ho hx
 obtain⟨d1,d2,d3,_,d5,d6,d7,d8,d9,d10,d11⟩:=QU (o:=m1.p.re.op) (by omega)
 rw[if_neg (by omega),if_neg (by omega),if_neg (by omega),if_pos ho]at hx
 obtain⟨kid,l,hl⟩:∃kid l,m1.p.re.kids=kid::l:=by
  cases hh:m1.p.re.kids with
  |nil=>rw[hh]at hx;cases hx
  |cons y l=>exact⟨y,l,rfl⟩
 rw[hl]at hx
 cases hx
 have hk:m1.p.re.kids[0]?=some kid:=by rw[hl];rfl
 have eh:(0:Int)<(m1.p.re.kids.length:Int):=by rw[hl,W3];omega
 unfold aC.au aC.az at aW
 simp only[zM,aJ]at aW
 unfold aC.au aC.az
 refine aw func72 rfl ntmps72 results72 rfl 3 158456325028528677386111158247 (by simp) (by simp) ?_
 simp only[zX,simprocAttr,zM,aJ,aE.d,Re.ae,d4]
 refine aj (aW _) (fun v s' hv=>?_);obtain⟨rfl,rfl⟩:=hv
 simp only[zX,simprocAttr,zM,aJ,WY,Re.ae,d1,d2,d3,d5,d6,d7,d8,d9,d10,d11]
 refine eJ rfl ?_
 simp only[zX,simprocAttr,zM,aJ,WY,Re.ae,d1,d2,d3,d5,d6,d7,d8,d9,d10,d11,eh,hk]
 refine eJ rfl ?_
 simp only[zX,simprocAttr,zM,aJ,WY,Re.ae,d1,d2,d3,d5,d6,d7,d8,d9,d10,d11]
 first
  |(refine⟨an m1 b a,?_⟩;simp only[zM,aJ,jw,eH,aG.d,aE.d,Re.ae];done)
  |exact⟨an m1 b a,rfl⟩
  |exact an m1 b a
theorem Fy {k:Nat} (ih:bw k) (g b a:Nat) (m:aC) (re:Re) (p:aA) (hm:m.cn p) (cC:re.set.length≤1000000000) (cz:re.kids.length≤1000000000) (ho:re.op=2) (hf:¬m.fuel≤m.steps) {x:Rs} (hx:bq (fun m base p=>bh k true m base p true) m (.el re) p=some x) :
  av prog 72 [.pp 0 g 0 0 b a,.d ((aE.el re).d b a),p.v b a] (m.au g b a) fun v s=>v=aJ b a x.2.1 x.2.2∧s=x.1.au g b a:=by
 obtain⟨⟨g1,g2,g3,g4⟩,⟨g5,g6,g7⟩,g8,g9⟩:=hm
 unfold bq at hx
 simp only[aC.lit]at hx
 rw[if_neg (by omega)]at hx
 have d4:decide (re.op=4)=false:=decide_eq_false (by omega)
 have aW:=fun ext=>bn (cI g b a m g1 g2) rfl rfl rfl ext
 have dr:=m.eR
 have bE:=m.dI
 rw[if_neg (by omega),if_neg hf]at hx
 have hd:decide (m.steps<m.fuel)=true:=decide_eq_true (by omega)
 simp only[hd]at aW
 have t1:m.step.t.length≤1000000:=by rw[bE.t];exact g8
 have t2:p.at_≤m.step.t.length:=by rw[bE.t];exact g6
 have t3:m.step.same:=fun h=>by rw[bE.own,bE.t];exact g9 (by rw[← bE.bB];exact h)
 generalize rF:m.step=m1 at *
 obtain⟨d1,d2,d3,_,d5,d6,d7,d8,d9,d10,d11⟩:=QW (o:=re.op) (by omega)
 rw[if_neg (by omega),if_pos ho]at hx
 cases hx
 unfold aC.au aC.az at aW
 simp only[zM,aJ]at aW
 unfold aC.au aC.az
 refine aw func72 rfl ntmps72 results72 rfl 3 158456325028528677386111158247 (by simp) (by simp) ?_
 simp only[zX,simprocAttr,zM,aJ,aE.d,Re.ae,d4]
 refine aj (aW _) (fun v s' hv=>?_);obtain⟨rfl,rfl⟩:=hv
 simp only[zX,simprocAttr,zM,aJ,WY,Re.ae,d1,d2,d3,d5,d6,d7,d8,d9,d10,d11]
 refine aX (fun n e s=>∃j:Nat,n=j∧j≤re.kids.length∧e 0=.pp 0 g 0 0 b a∧e 1=.d ((aE.el re).d b a)∧e 5=.rf 3 0 0 0∧e 6=.rf 4 0 0 0∧e 8=.cl (.func 94) [] [.rf 3 0 0 0]∧e 9=i64 ((j:Int)-1)∧s=m1.au g b a++[⟨0,true,3,[[.d (iD p.at_),.d (bH p.ak),.d ((eH (re.kids.drop j) p.todo).d b a)]]⟩,⟨0,true,3,[[.d (iD 0),.fu [],.d (.sc (.pointer none))]]⟩])
  ⟨_,_,_,dw.refl,re.kids.length,rfl,W4 _,rfl,?_,rfl,rfl,rfl,?_,?_⟩ ?_
 ·rw[aE.d,Re.ae];rfl
 ·rw[bU _ (by omega)];rfl
 ·rw[List.drop_length];rfl
 rintro n e s ⟨j,rfl,hj,h0,h1,h5,h6,h8,h9,rfl⟩
 simp only[aE.d,Re.ae,iD,bD]at h1
 unfold aC.au aC.az
 cases n with
 |zero =>
  rw[show ((0:Nat):Int)-1=-1 by omega]at h9
  simp only[zX,simprocAttr,zM,aJ,h0,h1,h5,h6,h8,h9,ge_iff_le,X1]
  first
    |(refine⟨an m1 b a,?_⟩;simp only[zM,aJ,jw,eH,aG.d,aE.d,Re.ae];done)
    |exact⟨an m1 b a,rfl⟩
    |exact an m1 b a
 |succ j =>
  rw[show ((j+1:Nat):Int)-1=(j:Int) by omega]at h9
  have hle:(0:Int)≤(j:Int):=by omega
  have aS:(j:Int)<(re.kids.length:Int):=by omega
  have OB:j<re.kids.length:=hj
  obtain⟨y,hy⟩:∃y,re.kids[j]?=some y:=⟨_,WZ hj⟩
  simp only[zX,simprocAttr,zM,aJ,h0,h1,h5,h6,h8,h9,ge_iff_le,hle,aS,OB,hy,Xp,Re.ae]
  refine eJ rfl ?_
  simp only[zX,simprocAttr,zM,aJ,h0,h1,h5,h6,h8,h9]
  refine⟨j,_,_,by omega,dw.refl,j,rfl,by omega,?_,?_,?_,?_,?_,?_,?_⟩ <;> (try simp only[zU,Nat.reduceBEq,Nat.reduceShiftRight,Nat.reduceMod,Nat.reduceEqDiff,reduceIte])
  ·exact h0
  ·first|exact h1|(rw[aE.d,Re.ae];exact h1)
  ·exact h5
  ·exact h6
  ·exact h8
  ·rw[bU _ (by omega)]
  ·have Q2:=tc hy
   rw[Q2]
   simp only[eH,List.foldr_cons,aG.d,aE.d,Re.ae,iD,bD]
   try rfl
theorem BA {k:Nat} (ih:bw k) (g b a:Nat) (m:aC) (p:aA) (hm:m.cn p) (cC:m.p.re.set.length≤1000000000) (cz:m.p.re.kids.length≤1000000000) (ho:m.p.re.op=2) (hf:¬m.fuel≤m.steps) {x:Rs} (hx:bq (fun m base p=>bh k true m base p true) m .root p=some x) :
  av prog 72 [.pp 0 g 0 0 b a,.d ((aE.root).d b a),p.v b a] (m.au g b a) fun v s=>v=aJ b a x.2.1 x.2.2∧s=x.1.au g b a:=by
 obtain⟨⟨g1,g2,g3,g4⟩,⟨g5,g6,g7⟩,g8,g9⟩:=hm
 unfold bq at hx
 simp only[aC.lit]at hx
 rw[if_neg (by omega)]at hx
 have d4:decide (m.p.re.op=4)=false:=decide_eq_false (by omega)
 have aW:=fun ext=>bn (cI g b a m g1 g2) rfl rfl rfl ext
 have dr:=m.eR
 have bE:=m.dI
 rw[if_neg (by omega),if_neg hf]at hx
 have hd:decide (m.steps<m.fuel)=true:=decide_eq_true (by omega)
 simp only[hd]at aW
 have t1:m.step.t.length≤1000000:=by rw[bE.t];exact g8
 have t2:p.at_≤m.step.t.length:=by rw[bE.t];exact g6
 have t3:m.step.same:=fun h=>by rw[bE.own,bE.t];exact g9 (by rw[← bE.bB];exact h)
 generalize rF:m.step=m1 at *
 rw[← dr]at cC cz ho hx
 obtain⟨d1,d2,d3,_,d5,d6,d7,d8,d9,d10,d11⟩:=QW (o:=m1.p.re.op) (by omega)
 rw[if_neg (by omega),if_pos ho]at hx
 cases hx
 unfold aC.au aC.az at aW
 simp only[zM,aJ]at aW
 unfold aC.au aC.az
 refine aw func72 rfl ntmps72 results72 rfl 3 158456325028528677386111158247 (by simp) (by simp) ?_
 simp only[zX,simprocAttr,zM,aJ,aE.d,Re.ae,d4]
 refine aj (aW _) (fun v s' hv=>?_);obtain⟨rfl,rfl⟩:=hv
 simp only[zX,simprocAttr,zM,aJ,WY,Re.ae,d1,d2,d3,d5,d6,d7,d8,d9,d10,d11]
 refine aX (fun n e s=>∃j:Nat,n=j∧j≤m1.p.re.kids.length∧e 0=.pp 0 g 0 0 b a∧e 1=.d ((aE.root).d b a)∧e 5=.rf 3 0 0 0∧e 6=.rf 4 0 0 0∧e 8=.cl (.func 94) [] [.rf 3 0 0 0]∧e 9=i64 ((j:Int)-1)∧s=m1.au g b a++[⟨0,true,3,[[.d (iD p.at_),.d (bH p.ak),.d ((eH (m1.p.re.kids.drop j) p.todo).d b a)]]⟩,⟨0,true,3,[[.d (iD 0),.fu [],.d (.sc (.pointer none))]]⟩])
  ⟨_,_,_,dw.refl,m1.p.re.kids.length,rfl,W4 _,rfl,?_,rfl,rfl,rfl,?_,?_⟩ ?_
 ·rfl
 ·rw[bU _ (by omega)];rfl
 ·rw[List.drop_length];rfl
 rintro n e s ⟨j,rfl,hj,h0,h1,h5,h6,h8,h9,rfl⟩
 simp only[aE.d,Re.ae,iD,bD]at h1
 unfold aC.au aC.az
 cases n with
 |zero =>
  rw[show ((0:Nat):Int)-1=-1 by omega]at h9
  simp only[zX,simprocAttr,zM,aJ,h0,h1,h5,h6,h8,h9,ge_iff_le,X1]
  first
    |(refine⟨an m1 b a,?_⟩;simp only[zM,aJ,jw,eH,aG.d,aE.d,Re.ae];done)
    |exact⟨an m1 b a,rfl⟩
    |exact an m1 b a
 |succ j =>
  rw[show ((j+1:Nat):Int)-1=(j:Int) by omega]at h9
  have hle:(0:Int)≤(j:Int):=by omega
  have aS:(j:Int)<(m1.p.re.kids.length:Int):=by omega
  have OB:j<m1.p.re.kids.length:=hj
  obtain⟨y,hy⟩:∃y,m1.p.re.kids[j]?=some y:=⟨_,WZ hj⟩
  simp only[zX,simprocAttr,zM,aJ,h0,h1,h5,h6,h8,h9,ge_iff_le,hle,aS,OB,hy,Xp,Re.ae]
  refine eJ rfl ?_
  simp only[zX,simprocAttr,zM,aJ,h0,h1,h5,h6,h8,h9]
  refine⟨j,_,_,by omega,dw.refl,j,rfl,by omega,?_,?_,?_,?_,?_,?_,?_⟩ <;> (try simp only[zU,Nat.reduceBEq,Nat.reduceShiftRight,Nat.reduceMod,Nat.reduceEqDiff,reduceIte])
  ·exact h0
  ·first|exact h1|(rw[aE.d,Re.ae];exact h1)
  ·exact h5
  ·exact h6
  ·exact h8
  ·rw[bU _ (by omega)]
  ·have Q2:=tc hy
   rw[Q2]
   simp only[eH,List.foldr_cons,aG.d,aE.d,Re.ae,iD,bD]
   try rfl
end Go.Proofs.YtmihcpdhcillaaaGreat
