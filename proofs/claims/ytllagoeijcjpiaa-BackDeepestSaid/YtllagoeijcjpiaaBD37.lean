/- A part of the proof (G34). -/
import Derived.Test.YtllagoeijcjpiaaBD35
import Derived.Test.YtllagoeijcjpiaaBD36
set_option linter.unusedSimpArgs false
set_option linter.unusedVariables false
set_option maxRecDepth 100000
set_option maxHeartbeats 80000000
namespace Go.Proofs.Ytllagoeijcjpiaa
open Go.VL Go.Proofs.Try
theorem yN {k:Nat} (ih:bz k) (g b a:Nat) (m:aB) (re:Re) (p:ao) (hm:m.cX p) (cC:re.set.length≤1000000000) (cJ:re.kids.length≤1000000000) (ho:re.op=4) (lW:re.mode=2) {x:Rs} (hx:bj (fun m base p=>aQ k true m base p true) m (.el re) p=some x) :
  az prog 118 [.pp 0 g 0 0 b a,.d ((aG.el re).d b a),p.v b a] (m.aF g b a) fun v s=>v=aR b a x.2.1 x.2.2∧s=x.1.aF g b a:=by
 obtain⟨⟨g1,g2,g3,g4⟩,⟨g5,g6,g7⟩,g8,g9⟩:=hm
 unfold bj at hx
 simp only[aB.lit]at hx
 rw[if_neg (by omega)]at hx
 rw[if_pos ho,if_pos lW]at hx
 have d4:decide (re.op=4)=true:=decide_eq_true ho
 have dm:decide (re.mode=2)=true:=decide_eq_true lW
 have aH:=fun ext=>br (qk ih g b a m p _ hx) rfl rfl rfl ext
 obtain⟨m1,y1,y2⟩:=x
 unfold aB.aF aB.aA at aH
 simp only[zM,aR,aI.d,aG.d,Re.ae]at aH
 unfold aB.aF aB.aA
 refine av func118 rfl ntmps118 results118 rfl 3 158456325028528677386111158247 (by simp) (by simp) ?_
 simp only[zX,simprocAttr,zM,aR,aG.d,Re.ae,d4,dm]
 refine aP [5] (by simp [bk,bA,aZ.go,aZ,bQ,aI.d,aG.d,Re.ae,iD,bD]) (aj (aH _) (fun v s' hv=>?_))
 obtain⟨rfl,rfl⟩:=hv
 simp only[zX,simprocAttr,zM,aR]
 first
  |(refine⟨ak m1 b a,?_⟩;simp only[zM,aR,iA,eo,aI.d,aG.d,Re.ae];done)
  |exact⟨ak m1 b a,rfl⟩
  |exact ak m1 b a
theorem vG {k:Nat} (ih:bz k) (g b a:Nat) (m:aB) (p:ao) (hm:m.cX p) (cC:m.p.re.set.length≤1000000000) (cJ:m.p.re.kids.length≤1000000000) (ho:m.p.re.op=4) (lW:m.p.re.mode=2) {x:Rs} (hx:bj (fun m base p=>aQ k true m base p true) m .root p=some x) :
  az prog 118 [.pp 0 g 0 0 b a,.d ((aG.root).d b a),p.v b a] (m.aF g b a) fun v s=>v=aR b a x.2.1 x.2.2∧s=x.1.aF g b a:=by
 obtain⟨⟨g1,g2,g3,g4⟩,⟨g5,g6,g7⟩,g8,g9⟩:=hm
 unfold bj at hx
 simp only[aB.lit]at hx
 rw[if_neg (by omega)]at hx
 rw[if_pos ho,if_pos lW]at hx
 have d4:decide (m.p.re.op=4)=true:=decide_eq_true ho
 have dm:decide (m.p.re.mode=2)=true:=decide_eq_true lW
 have aH:=fun ext=>br (qk ih g b a m p _ hx) rfl rfl rfl ext
 obtain⟨m1,y1,y2⟩:=x
 unfold aB.aF aB.aA at aH
 simp only[zM,aR,aI.d,aG.d,Re.ae]at aH
 unfold aB.aF aB.aA
 refine av func118 rfl ntmps118 results118 rfl 3 158456325028528677386111158247 (by simp) (by simp) ?_
 simp only[zX,simprocAttr,zM,aR,aG.d,Re.ae,d4,dm]
 refine aP [5] (by simp [bk,bA,aZ.go,aZ,bQ,aI.d,aG.d,Re.ae,iD,bD]) (aj (aH _) (fun v s' hv=>?_))
 obtain⟨rfl,rfl⟩:=hv
 simp only[zX,simprocAttr,zM,aR]
 first
  |(refine⟨ak m1 b a,?_⟩;simp only[zM,aR,iA,eo,aI.d,aG.d,Re.ae];done)
  |exact⟨ak m1 b a,rfl⟩
  |exact ak m1 b a
theorem AH {k:Nat} (ih:bz k) (g b a:Nat) (m:aB) (re:Re) (p:ao) (hm:m.cX p) (cC:re.set.length≤1000000000) (cJ:re.kids.length≤1000000000) (ho:re.op=4) (lW:¬re.mode=2) {x:Rs} (hx:bj (fun m base p=>aQ k true m base p true) m (.el re) p=some x) :
  az prog 118 [.pp 0 g 0 0 b a,.d ((aG.el re).d b a),p.v b a] (m.aF g b a) fun v s=>v=aR b a x.2.1 x.2.2∧s=x.1.aF g b a:=by
 obtain⟨⟨g1,g2,g3,g4⟩,⟨g5,g6,g7⟩,g8,g9⟩:=hm
 unfold bj at hx
 simp only[aB.lit]at hx
 rw[if_neg (by omega)]at hx
 rw[if_pos ho,if_neg lW]at hx
 have d4:decide (re.op=4)=true:=decide_eq_true ho
 have dm:decide (re.mode=2)=false:=decide_eq_false lW
 cases hx
 unfold aB.aF aB.aA
 refine av func118 rfl ntmps118 results118 rfl 3 158456325028528677386111158247 (by simp) (by simp) ?_
 simp only[zX,simprocAttr,zM,aR,aG.d,Re.ae,d4,dm]
 refine eR rfl ?_
 simp only[zX,simprocAttr,zM,aR,aG.d,Re.ae,d4,dm]
 first
  |(refine⟨ak m b a,?_⟩;simp only[zM,aR,iA,eo,aI.d,aG.d,Re.ae];done)
  |exact⟨ak m b a,rfl⟩
  |exact ak m b a
theorem xE {k:Nat} (ih:bz k) (g b a:Nat) (m:aB) (p:ao) (hm:m.cX p) (cC:m.p.re.set.length≤1000000000) (cJ:m.p.re.kids.length≤1000000000) (ho:m.p.re.op=4) (lW:¬m.p.re.mode=2) {x:Rs} (hx:bj (fun m base p=>aQ k true m base p true) m .root p=some x) :
  az prog 118 [.pp 0 g 0 0 b a,.d ((aG.root).d b a),p.v b a] (m.aF g b a) fun v s=>v=aR b a x.2.1 x.2.2∧s=x.1.aF g b a:=by
 obtain⟨⟨g1,g2,g3,g4⟩,⟨g5,g6,g7⟩,g8,g9⟩:=hm
 unfold bj at hx
 simp only[aB.lit]at hx
 rw[if_neg (by omega)]at hx
 rw[if_pos ho,if_neg lW]at hx
 have d4:decide (m.p.re.op=4)=true:=decide_eq_true ho
 have dm:decide (m.p.re.mode=2)=false:=decide_eq_false lW
 cases hx
 unfold aB.aF aB.aA
 refine av func118 rfl ntmps118 results118 rfl 3 158456325028528677386111158247 (by simp) (by simp) ?_
 simp only[zX,simprocAttr,zM,aR,aG.d,Re.ae,d4,dm]
 refine eR rfl ?_
 simp only[zX,simprocAttr,zM,aR,aG.d,Re.ae,d4,dm]
 first
  |(refine⟨ak m b a,?_⟩;simp only[zM,aR,iA,eo,aI.d,aG.d,Re.ae];done)
  |exact⟨ak m b a,rfl⟩
  |exact ak m b a
theorem AI {k:Nat} (ih:bz k) (g b a:Nat) (m:aB) (re:Re) (p:ao) (hm:m.cX p) (cC:re.set.length≤1000000000) (cJ:re.kids.length≤1000000000) (ho:¬re.op=4) (hf:m.fuel≤m.steps) {x:Rs} (hx:bj (fun m base p=>aQ k true m base p true) m (.el re) p=some x) :
  az prog 118 [.pp 0 g 0 0 b a,.d ((aG.el re).d b a),p.v b a] (m.aF g b a) fun v s=>v=aR b a x.2.1 x.2.2∧s=x.1.aF g b a:=by
 obtain⟨⟨g1,g2,g3,g4⟩,⟨g5,g6,g7⟩,g8,g9⟩:=hm
 unfold bj at hx
 simp only[aB.lit]at hx
 rw[if_neg (by omega)]at hx
 rw[if_neg ho,if_pos hf]at hx
 have d4:decide (re.op=4)=false:=decide_eq_false ho
 have aH:=fun ext=>br (cR g b a m g1 g2) rfl rfl rfl ext
 have hd:decide (m.steps<m.fuel)=false:=decide_eq_false (by omega)
 simp only[hd]at aH
 cases hx
 unfold aB.aF aB.aA at aH
 simp only[zM,aR]at aH
 unfold aB.aF aB.aA
 refine av func118 rfl ntmps118 results118 rfl 3 158456325028528677386111158247 (by simp) (by simp) ?_
 simp only[zX,simprocAttr,zM,aR,aG.d,Re.ae,d4]
 refine aj (aH _) (fun v s' hv=>?_);obtain⟨rfl,rfl⟩:=hv
 simp only[zX,simprocAttr,zM,aR,Vt]
 first
  |(refine⟨ak m.step b a,?_⟩;simp only[zM,aR,iA,eo,aI.d,aG.d,Re.ae];done)
  |exact⟨ak m.step b a,rfl⟩
  |exact ak m.step b a
theorem wI {k:Nat} (ih:bz k) (g b a:Nat) (m:aB) (p:ao) (hm:m.cX p) (cC:m.p.re.set.length≤1000000000) (cJ:m.p.re.kids.length≤1000000000) (ho:¬m.p.re.op=4) (hf:m.fuel≤m.steps) {x:Rs} (hx:bj (fun m base p=>aQ k true m base p true) m .root p=some x) :
  az prog 118 [.pp 0 g 0 0 b a,.d ((aG.root).d b a),p.v b a] (m.aF g b a) fun v s=>v=aR b a x.2.1 x.2.2∧s=x.1.aF g b a:=by
 obtain⟨⟨g1,g2,g3,g4⟩,⟨g5,g6,g7⟩,g8,g9⟩:=hm
 unfold bj at hx
 simp only[aB.lit]at hx
 rw[if_neg (by omega)]at hx
 rw[if_neg ho,if_pos hf]at hx
 have d4:decide (m.p.re.op=4)=false:=decide_eq_false ho
 have aH:=fun ext=>br (cR g b a m g1 g2) rfl rfl rfl ext
 have hd:decide (m.steps<m.fuel)=false:=decide_eq_false (by omega)
 simp only[hd]at aH
 cases hx
 unfold aB.aF aB.aA at aH
 simp only[zM,aR]at aH
 unfold aB.aF aB.aA
 refine av func118 rfl ntmps118 results118 rfl 3 158456325028528677386111158247 (by simp) (by simp) ?_
 simp only[zX,simprocAttr,zM,aR,aG.d,Re.ae,d4]
 refine aj (aH _) (fun v s' hv=>?_);obtain⟨rfl,rfl⟩:=hv
 simp only[zX,simprocAttr,zM,aR,Vt]
 first
  |(refine⟨ak m.step b a,?_⟩;simp only[zM,aR,iA,eo,aI.d,aG.d,Re.ae];done)
  |exact⟨ak m.step b a,rfl⟩
  |exact ak m.step b a
theorem FK {k:Nat} (ih:bz k) (g b a:Nat) (m:aB) (re:Re) (p:ao) (hm:m.cX p) (cC:re.set.length≤1000000000) (cJ:re.kids.length≤1000000000) (ho:re.op=1) (hf:¬m.fuel≤m.steps) {x:Rs} (hx:bj (fun m base p=>aQ k true m base p true) m (.el re) p=some x) :
  az prog 118 [.pp 0 g 0 0 b a,.d ((aG.el re).d b a),p.v b a] (m.aF g b a) fun v s=>v=aR b a x.2.1 x.2.2∧s=x.1.aF g b a:=by
 obtain⟨⟨g1,g2,g3,g4⟩,⟨g5,g6,g7⟩,g8,g9⟩:=hm
 unfold bj at hx
 simp only[aB.lit]at hx
 rw[if_neg (by omega)]at hx
 have d4:decide (re.op=4)=false:=decide_eq_false (by omega)
 have aH:=fun ext=>br (cR g b a m g1 g2) rfl rfl rfl ext
 have eD:=m.eZ
 have bC:=m.dI
 rw[if_neg (by omega),if_neg hf]at hx
 have hd:decide (m.steps<m.fuel)=true:=decide_eq_true (by omega)
 simp only[hd]at aH
 have t1:m.step.t.length≤1000000:=by rw[bC.t];exact g8
 have t2:p.at_≤m.step.t.length:=by rw[bC.t];exact g6
 have t3:m.step.same:=fun h=>by rw[bC.own,bC.t];exact g9 (by rw[← bC.bq];exact h)
 generalize ly:m.step=m1 at *
 obtain⟨d1,d2,d3,_,d5,d6,d7,d8,d9,d10,d11⟩:=P7 (o:=re.op) (by omega)
 rw[if_pos ho]at hx
 cases hx
 have cI:=fun ext=>br (GB g b a m1 (.el re) re p rfl cC g5 t1 t3) rfl rfl rfl ext
 generalize hy:iW m1.t re p=y at *
 obtain⟨y1,y2⟩:=y
 unfold aB.aF aB.aA at cI
 simp only[zM,aR,aI.d,aG.d,Re.ae]at cI
 unfold aB.aF aB.aA at aH
 simp only[zM,aR]at aH
 unfold aB.aF aB.aA
 refine av func118 rfl ntmps118 results118 rfl 3 158456325028528677386111158247 (by simp) (by simp) ?_
 simp only[zX,simprocAttr,zM,aR,aG.d,Re.ae,d4]
 refine aj (aH _) (fun v s' hv=>?_);obtain⟨rfl,rfl⟩:=hv
 simp only[zX,simprocAttr,zM,aR,Vs,Re.ae,d1,d2,d3,d5,d6,d7,d8,d9,d10,d11]
 refine aj (cI _) (fun v s' hv=>?_);obtain⟨rfl,rfl⟩:=hv
 simp only[zX,simprocAttr,zM,aR]
 first
  |(refine⟨ak m1 b a,?_⟩;simp only[zM,aR,iA,eo,aI.d,aG.d,Re.ae];done)
  |exact⟨ak m1 b a,rfl⟩
  |exact ak m1 b a
theorem Ap {k:Nat} (ih:bz k) (g b a:Nat) (m:aB) (p:ao) (hm:m.cX p) (cC:m.p.re.set.length≤1000000000) (cJ:m.p.re.kids.length≤1000000000) (ho:m.p.re.op=1) (hf:¬m.fuel≤m.steps) {x:Rs} (hx:bj (fun m base p=>aQ k true m base p true) m .root p=some x) :
  az prog 118 [.pp 0 g 0 0 b a,.d ((aG.root).d b a),p.v b a] (m.aF g b a) fun v s=>v=aR b a x.2.1 x.2.2∧s=x.1.aF g b a:=by
 obtain⟨⟨g1,g2,g3,g4⟩,⟨g5,g6,g7⟩,g8,g9⟩:=hm
 unfold bj at hx
 simp only[aB.lit]at hx
 rw[if_neg (by omega)]at hx
 have d4:decide (m.p.re.op=4)=false:=decide_eq_false (by omega)
 have aH:=fun ext=>br (cR g b a m g1 g2) rfl rfl rfl ext
 have eD:=m.eZ
 have bC:=m.dI
 rw[if_neg (by omega),if_neg hf]at hx
 have hd:decide (m.steps<m.fuel)=true:=decide_eq_true (by omega)
 simp only[hd]at aH
 have t1:m.step.t.length≤1000000:=by rw[bC.t];exact g8
 have t2:p.at_≤m.step.t.length:=by rw[bC.t];exact g6
 have t3:m.step.same:=fun h=>by rw[bC.own,bC.t];exact g9 (by rw[← bC.bq];exact h)
 generalize ly:m.step=m1 at *
 rw[← eD]at cC cJ ho hx
 obtain⟨d1,d2,d3,_,d5,d6,d7,d8,d9,d10,d11⟩:=P7 (o:=m1.p.re.op) (by omega)
 rw[if_pos ho]at hx
 cases hx
 have cI:=fun ext=>br (GB g b a m1 .root m1.p.re p rfl cC g5 t1 t3) rfl rfl rfl ext
 generalize hy:iW m1.t m1.p.re p=y at *
 obtain⟨y1,y2⟩:=y
 unfold aB.aF aB.aA at cI
 simp only[zM,aR,aI.d,aG.d,Re.ae]at cI
 unfold aB.aF aB.aA at aH
 simp only[zM,aR]at aH
 unfold aB.aF aB.aA
 refine av func118 rfl ntmps118 results118 rfl 3 158456325028528677386111158247 (by simp) (by simp) ?_
 simp only[zX,simprocAttr,zM,aR,aG.d,Re.ae,d4]
 refine aj (aH _) (fun v s' hv=>?_);obtain⟨rfl,rfl⟩:=hv
 simp only[zX,simprocAttr,zM,aR,Vs,Re.ae,d1,d2,d3,d5,d6,d7,d8,d9,d10,d11]
 refine aj (cI _) (fun v s' hv=>?_);obtain⟨rfl,rfl⟩:=hv
 simp only[zX,simprocAttr,zM,aR]
 first
  |(refine⟨ak m1 b a,?_⟩;simp only[zM,aR,iA,eo,aI.d,aG.d,Re.ae];done)
  |exact⟨ak m1 b a,rfl⟩
  |exact ak m1 b a
theorem Ez {k:Nat} (ih:bz k) (g b a:Nat) (m:aB) (re:Re) (p:ao) (hm:m.cX p) (cC:re.set.length≤1000000000) (cJ:re.kids.length≤1000000000) (ho:re.op=3) (hf:¬m.fuel≤m.steps) {x:Rs} (hx:bj (fun m base p=>aQ k true m base p true) m (.el re) p=some x) :
  az prog 118 [.pp 0 g 0 0 b a,.d ((aG.el re).d b a),p.v b a] (m.aF g b a) fun v s=>v=aR b a x.2.1 x.2.2∧s=x.1.aF g b a:=by
 obtain⟨⟨g1,g2,g3,g4⟩,⟨g5,g6,g7⟩,g8,g9⟩:=hm
 unfold bj at hx
 simp only[aB.lit]at hx
 rw[if_neg (by omega)]at hx
 have d4:decide (re.op=4)=false:=decide_eq_false (by omega)
 have aH:=fun ext=>br (cR g b a m g1 g2) rfl rfl rfl ext
 have eD:=m.eZ
 have bC:=m.dI
 rw[if_neg (by omega),if_neg hf]at hx
 have hd:decide (m.steps<m.fuel)=true:=decide_eq_true (by omega)
 simp only[hd]at aH
 have t1:m.step.t.length≤1000000:=by rw[bC.t];exact g8
 have t2:p.at_≤m.step.t.length:=by rw[bC.t];exact g6
 have t3:m.step.same:=fun h=>by rw[bC.own,bC.t];exact g9 (by rw[← bC.bq];exact h)
 generalize ly:m.step=m1 at *
 obtain⟨d1,d2,d3,_,d5,d6,d7,d8,d9,d10,d11⟩:=PX (o:=re.op) (by omega)
 rw[if_neg (by omega),if_neg (by omega),if_pos ho]at hx
 cases hx
 unfold aB.aF aB.aA at aH
 simp only[zM,aR]at aH
 unfold aB.aF aB.aA
 refine av func118 rfl ntmps118 results118 rfl 3 158456325028528677386111158247 (by simp) (by simp) ?_
 simp only[zX,simprocAttr,zM,aR,aG.d,Re.ae,d4]
 refine aj (aH _) (fun v s' hv=>?_);obtain⟨rfl,rfl⟩:=hv
 simp only[zX,simprocAttr,zM,aR,Vs,Re.ae,d1,d2,d3,d5,d6,d7,d8,d9,d10,d11]
 refine eR rfl ?_
 simp only[zX,simprocAttr,zM,aR,Vs,Re.ae,d1,d2,d3,d5,d6,d7,d8,d9,d10,d11]
 first
  |(refine⟨ak m1 b a,?_⟩;simp only[zM,aR,iA,eo,aI.d,aG.d,Re.ae];done)
  |exact⟨ak m1 b a,rfl⟩
  |exact ak m1 b a
theorem AF {k:Nat} (ih:bz k) (g b a:Nat) (m:aB) (p:ao) (hm:m.cX p) (cC:m.p.re.set.length≤1000000000) (cJ:m.p.re.kids.length≤1000000000) (ho:m.p.re.op=3) (hf:¬m.fuel≤m.steps) {x:Rs} (hx:bj (fun m base p=>aQ k true m base p true) m .root p=some x) :
  az prog 118 [.pp 0 g 0 0 b a,.d ((aG.root).d b a),p.v b a] (m.aF g b a) fun v s=>v=aR b a x.2.1 x.2.2∧s=x.1.aF g b a:=by
 obtain⟨⟨g1,g2,g3,g4⟩,⟨g5,g6,g7⟩,g8,g9⟩:=hm
 unfold bj at hx
 simp only[aB.lit]at hx
 rw[if_neg (by omega)]at hx
 have d4:decide (m.p.re.op=4)=false:=decide_eq_false (by omega)
 have aH:=fun ext=>br (cR g b a m g1 g2) rfl rfl rfl ext
 have eD:=m.eZ
 have bC:=m.dI
 rw[if_neg (by omega),if_neg hf]at hx
 have hd:decide (m.steps<m.fuel)=true:=decide_eq_true (by omega)
 simp only[hd]at aH
 have t1:m.step.t.length≤1000000:=by rw[bC.t];exact g8
 have t2:p.at_≤m.step.t.length:=by rw[bC.t];exact g6
 have t3:m.step.same:=fun h=>by rw[bC.own,bC.t];exact g9 (by rw[← bC.bq];exact h)
 generalize ly:m.step=m1 at *
 rw[← eD]at cC cJ ho hx
 obtain⟨d1,d2,d3,_,d5,d6,d7,d8,d9,d10,d11⟩:=PX (o:=m1.p.re.op) (by omega)
 rw[if_neg (by omega),if_neg (by omega),if_pos ho]at hx
 cases hx
 unfold aB.aF aB.aA at aH
 simp only[zM,aR]at aH
 unfold aB.aF aB.aA
 refine av func118 rfl ntmps118 results118 rfl 3 158456325028528677386111158247 (by simp) (by simp) ?_
 simp only[zX,simprocAttr,zM,aR,aG.d,Re.ae,d4]
 refine aj (aH _) (fun v s' hv=>?_);obtain⟨rfl,rfl⟩:=hv
 simp only[zX,simprocAttr,zM,aR,Vs,Re.ae,d1,d2,d3,d5,d6,d7,d8,d9,d10,d11]
 refine eR rfl ?_
 simp only[zX,simprocAttr,zM,aR,Vs,Re.ae,d1,d2,d3,d5,d6,d7,d8,d9,d10,d11]
 first
  |(refine⟨ak m1 b a,?_⟩;simp only[zM,aR,iA,eo,aI.d,aG.d,Re.ae];done)
  |exact⟨ak m1 b a,rfl⟩
  |exact ak m1 b a
theorem Ew {k:Nat} (ih:bz k) (g b a:Nat) (m:aB) (re:Re) (p:ao) (hm:m.cX p) (cC:re.set.length≤1000000000) (cJ:re.kids.length≤1000000000) (ho:re.op=5) (hf:¬m.fuel≤m.steps) {x:Rs} (hx:bj (fun m base p=>aQ k true m base p true) m (.el re) p=some x) :
  az prog 118 [.pp 0 g 0 0 b a,.d ((aG.el re).d b a),p.v b a] (m.aF g b a) fun v s=>v=aR b a x.2.1 x.2.2∧s=x.1.aF g b a:=by
 obtain⟨⟨g1,g2,g3,g4⟩,⟨g5,g6,g7⟩,g8,g9⟩:=hm
 unfold bj at hx
 simp only[aB.lit]at hx
 rw[if_neg (by omega)]at hx
 have d4:decide (re.op=4)=false:=decide_eq_false (by omega)
 have aH:=fun ext=>br (cR g b a m g1 g2) rfl rfl rfl ext
 have eD:=m.eZ
 have bC:=m.dI
 rw[if_neg (by omega),if_neg hf]at hx
 have hd:decide (m.steps<m.fuel)=true:=decide_eq_true (by omega)
 simp only[hd]at aH
 have t1:m.step.t.length≤1000000:=by rw[bC.t];exact g8
 have t2:p.at_≤m.step.t.length:=by rw[bC.t];exact g6
 have t3:m.step.same:=fun h=>by rw[bC.own,bC.t];exact g9 (by rw[← bC.bq];exact h)
 generalize ly:m.step=m1 at *
 obtain⟨d1,d2,d3,_,d5,d6,d7,d8,d9,d10,d11⟩:=PC (o:=re.op) (by omega)
 rw[if_neg (by omega),if_neg (by omega),if_neg (by omega),if_pos ho]at hx
 obtain⟨kid,l,hl⟩:∃kid l,re.kids=kid::l:=by
  cases hh:re.kids with
  |nil=>rw[hh]at hx;cases hx
  |cons y l=>exact⟨y,l,rfl⟩
 rw[hl]at hx
 cases hx
 have hk:re.kids[0]?=some kid:=by rw[hl];rfl
 have dg:(0:Int)<(re.kids.length:Int):=by rw[hl,VC];omega
 unfold aB.aF aB.aA at aH
 simp only[zM,aR]at aH
 unfold aB.aF aB.aA
 refine av func118 rfl ntmps118 results118 rfl 3 158456325028528677386111158247 (by simp) (by simp) ?_
 simp only[zX,simprocAttr,zM,aR,aG.d,Re.ae,d4]
 refine aj (aH _) (fun v s' hv=>?_);obtain⟨rfl,rfl⟩:=hv
 simp only[zX,simprocAttr,zM,aR,Vs,Re.ae,d1,d2,d3,d5,d6,d7,d8,d9,d10,d11]
 refine eR rfl ?_
 simp only[zX,simprocAttr,zM,aR,Vs,Re.ae,d1,d2,d3,d5,d6,d7,d8,d9,d10,d11,dg,hk]
 refine eR rfl ?_
 simp only[zX,simprocAttr,zM,aR,Vs,Re.ae,d1,d2,d3,d5,d6,d7,d8,d9,d10,d11]
 first
  |(refine⟨ak m1 b a,?_⟩;simp only[zM,aR,iA,eo,aI.d,aG.d,Re.ae];done)
  |exact⟨ak m1 b a,rfl⟩
  |exact ak m1 b a
theorem AU {k:Nat} (ih:bz k) (g b a:Nat) (m:aB) (p:ao) (hm:m.cX p) (cC:m.p.re.set.length≤1000000000) (cJ:m.p.re.kids.length≤1000000000) (ho:m.p.re.op=5) (hf:¬m.fuel≤m.steps) {x:Rs} (hx:bj (fun m base p=>aQ k true m base p true) m .root p=some x) :
  az prog 118 [.pp 0 g 0 0 b a,.d ((aG.root).d b a),p.v b a] (m.aF g b a) fun v s=>v=aR b a x.2.1 x.2.2∧s=x.1.aF g b a:=by
 obtain⟨⟨g1,g2,g3,g4⟩,⟨g5,g6,g7⟩,g8,g9⟩:=hm
 unfold bj at hx
 simp only[aB.lit]at hx
 rw[if_neg (by omega)]at hx
 have d4:decide (m.p.re.op=4)=false:=decide_eq_false (by omega)
 have aH:=fun ext=>br (cR g b a m g1 g2) rfl rfl rfl ext
 have eD:=m.eZ
 have bC:=m.dI
 rw[if_neg (by omega),if_neg hf]at hx
 have hd:decide (m.steps<m.fuel)=true:=decide_eq_true (by omega)
 simp only[hd]at aH
 have t1:m.step.t.length≤1000000:=by rw[bC.t];exact g8
 have t2:p.at_≤m.step.t.length:=by rw[bC.t];exact g6
 have t3:m.step.same:=fun h=>by rw[bC.own,bC.t];exact g9 (by rw[← bC.bq];exact h)
 generalize ly:m.step=m1 at *
 rw[← eD]at cC cJ ho hx
 obtain⟨d1,d2,d3,_,d5,d6,d7,d8,d9,d10,d11⟩:=PC (o:=m1.p.re.op) (by omega)
 rw[if_neg (by omega),if_neg (by omega),if_neg (by omega),if_pos ho]at hx
 obtain⟨kid,l,hl⟩:∃kid l,m1.p.re.kids=kid::l:=by
  cases hh:m1.p.re.kids with
  |nil=>rw[hh]at hx;cases hx
  |cons y l=>exact⟨y,l,rfl⟩
 rw[hl]at hx
 cases hx
 have hk:m1.p.re.kids[0]?=some kid:=by rw[hl];rfl
 have dg:(0:Int)<(m1.p.re.kids.length:Int):=by rw[hl,VC];omega
 unfold aB.aF aB.aA at aH
 simp only[zM,aR]at aH
 unfold aB.aF aB.aA
 refine av func118 rfl ntmps118 results118 rfl 3 158456325028528677386111158247 (by simp) (by simp) ?_
 simp only[zX,simprocAttr,zM,aR,aG.d,Re.ae,d4]
 refine aj (aH _) (fun v s' hv=>?_);obtain⟨rfl,rfl⟩:=hv
 simp only[zX,simprocAttr,zM,aR,Vs,Re.ae,d1,d2,d3,d5,d6,d7,d8,d9,d10,d11]
 refine eR rfl ?_
 simp only[zX,simprocAttr,zM,aR,Vs,Re.ae,d1,d2,d3,d5,d6,d7,d8,d9,d10,d11,dg,hk]
 refine eR rfl ?_
 simp only[zX,simprocAttr,zM,aR,Vs,Re.ae,d1,d2,d3,d5,d6,d7,d8,d9,d10,d11]
 first
  |(refine⟨ak m1 b a,?_⟩;simp only[zM,aR,iA,eo,aI.d,aG.d,Re.ae];done)
  |exact⟨ak m1 b a,rfl⟩
  |exact ak m1 b a
theorem EA {k:Nat} (ih:bz k) (g b a:Nat) (m:aB) (re:Re) (p:ao) (hm:m.cX p) (cC:re.set.length≤1000000000) (cJ:re.kids.length≤1000000000) (ho:re.op=2) (hf:¬m.fuel≤m.steps) {x:Rs} (hx:bj (fun m base p=>aQ k true m base p true) m (.el re) p=some x) :
  az prog 118 [.pp 0 g 0 0 b a,.d ((aG.el re).d b a),p.v b a] (m.aF g b a) fun v s=>v=aR b a x.2.1 x.2.2∧s=x.1.aF g b a:=by
 obtain⟨⟨g1,g2,g3,g4⟩,⟨g5,g6,g7⟩,g8,g9⟩:=hm
 unfold bj at hx
 simp only[aB.lit]at hx
 rw[if_neg (by omega)]at hx
 have d4:decide (re.op=4)=false:=decide_eq_false (by omega)
 have aH:=fun ext=>br (cR g b a m g1 g2) rfl rfl rfl ext
 have eD:=m.eZ
 have bC:=m.dI
 rw[if_neg (by omega),if_neg hf]at hx
 have hd:decide (m.steps<m.fuel)=true:=decide_eq_true (by omega)
 simp only[hd]at aH
 have t1:m.step.t.length≤1000000:=by rw[bC.t];exact g8
 have t2:p.at_≤m.step.t.length:=by rw[bC.t];exact g6
 have t3:m.step.same:=fun h=>by rw[bC.own,bC.t];exact g9 (by rw[← bC.bq];exact h)
 generalize ly:m.step=m1 at *
 obtain⟨d1,d2,d3,_,d5,d6,d7,d8,d9,d10,d11⟩:=P9 (o:=re.op) (by omega)
 rw[if_neg (by omega),if_pos ho]at hx
 cases hx
 unfold aB.aF aB.aA at aH
 simp only[zM,aR]at aH
 unfold aB.aF aB.aA
 refine av func118 rfl ntmps118 results118 rfl 3 158456325028528677386111158247 (by simp) (by simp) ?_
 simp only[zX,simprocAttr,zM,aR,aG.d,Re.ae,d4]
 refine aj (aH _) (fun v s' hv=>?_);obtain⟨rfl,rfl⟩:=hv
 simp only[zX,simprocAttr,zM,aR,Vs,Re.ae,d1,d2,d3,d5,d6,d7,d8,d9,d10,d11]
 refine aY (fun n e s=>∃j:Nat,n=j∧j≤re.kids.length∧e 0=.pp 0 g 0 0 b a∧e 1=.d ((aG.el re).d b a)∧e 5=.rf 3 0 0 0∧e 6=.rf 4 0 0 0∧e 8=.cl (.func 150) [] [.rf 3 0 0 0]∧e 9=i64 ((j:Int)-1)∧s=m1.aF g b a++[⟨0,true,3,[[.d (iD p.at_),.d (bd p.ai),.d ((eo (re.kids.drop j) p.todo).d b a)]]⟩,⟨0,true,3,[[.d (iD 0),.fu [],.d (.sc (.pointer none))]]⟩])
  ⟨_,_,_,dt.refl,re.kids.length,rfl,VA _,rfl,?_,rfl,rfl,rfl,?_,?_⟩ ?_
 ·rw[aG.d,Re.ae];rfl
 ·rw[bR _ (by omega)];rfl
 ·rw[List.drop_length];rfl
 rintro n e s ⟨j,rfl,hj,h0,h1,h5,h6,h8,h9,rfl⟩
 simp only[aG.d,Re.ae,iD,bD]at h1
 unfold aB.aF aB.aA
 cases n with
 |zero =>
  rw[show ((0:Nat):Int)-1=-1 by omega]at h9
  simp only[zX,simprocAttr,zM,aR,h0,h1,h5,h6,h8,h9,ge_iff_le,Wx]
  first
    |(refine⟨ak m1 b a,?_⟩;simp only[zM,aR,iA,eo,aI.d,aG.d,Re.ae];done)
    |exact⟨ak m1 b a,rfl⟩
    |exact ak m1 b a
 |succ j =>
  rw[show ((j+1:Nat):Int)-1=(j:Int) by omega]at h9
  have hle:(0:Int)≤(j:Int):=by omega
  have aT:(j:Int)<(re.kids.length:Int):=by omega
  have NJ:j<re.kids.length:=hj
  obtain⟨y,hy⟩:∃y,re.kids[j]?=some y:=⟨_,Vu hj⟩
  simp only[zX,simprocAttr,zM,aR,h0,h1,h5,h6,h8,h9,ge_iff_le,hle,aT,NJ,hy,VR,Re.ae]
  refine eR rfl ?_
  simp only[zX,simprocAttr,zM,aR,h0,h1,h5,h6,h8,h9]
  refine⟨j,_,_,by omega,dt.refl,j,rfl,by omega,?_,?_,?_,?_,?_,?_,?_⟩ <;> (try simp only[zU,Nat.reduceBEq,Nat.reduceShiftRight,Nat.reduceMod,Nat.reduceEqDiff,reduceIte])
  ·exact h0
  ·first|exact h1|(rw[aG.d,Re.ae];exact h1)
  ·exact h5
  ·exact h6
  ·exact h8
  ·rw[bR _ (by omega)]
  ·have Sw:=si hy
   rw[Sw]
   simp only[eo,List.foldr_cons,aI.d,aG.d,Re.ae,iD,bD]
   try rfl
theorem AY {k:Nat} (ih:bz k) (g b a:Nat) (m:aB) (p:ao) (hm:m.cX p) (cC:m.p.re.set.length≤1000000000) (cJ:m.p.re.kids.length≤1000000000) (ho:m.p.re.op=2) (hf:¬m.fuel≤m.steps) {x:Rs} (hx:bj (fun m base p=>aQ k true m base p true) m .root p=some x) :
  az prog 118 [.pp 0 g 0 0 b a,.d ((aG.root).d b a),p.v b a] (m.aF g b a) fun v s=>v=aR b a x.2.1 x.2.2∧s=x.1.aF g b a:=by
 obtain⟨⟨g1,g2,g3,g4⟩,⟨g5,g6,g7⟩,g8,g9⟩:=hm
 unfold bj at hx
 simp only[aB.lit]at hx
 rw[if_neg (by omega)]at hx
 have d4:decide (m.p.re.op=4)=false:=decide_eq_false (by omega)
 have aH:=fun ext=>br (cR g b a m g1 g2) rfl rfl rfl ext
 have eD:=m.eZ
 have bC:=m.dI
 rw[if_neg (by omega),if_neg hf]at hx
 have hd:decide (m.steps<m.fuel)=true:=decide_eq_true (by omega)
 simp only[hd]at aH
 have t1:m.step.t.length≤1000000:=by rw[bC.t];exact g8
 have t2:p.at_≤m.step.t.length:=by rw[bC.t];exact g6
 have t3:m.step.same:=fun h=>by rw[bC.own,bC.t];exact g9 (by rw[← bC.bq];exact h)
 generalize ly:m.step=m1 at *
 rw[← eD]at cC cJ ho hx
 obtain⟨d1,d2,d3,_,d5,d6,d7,d8,d9,d10,d11⟩:=P9 (o:=m1.p.re.op) (by omega)
 rw[if_neg (by omega),if_pos ho]at hx
 cases hx
 unfold aB.aF aB.aA at aH
 simp only[zM,aR]at aH
 unfold aB.aF aB.aA
 refine av func118 rfl ntmps118 results118 rfl 3 158456325028528677386111158247 (by simp) (by simp) ?_
 simp only[zX,simprocAttr,zM,aR,aG.d,Re.ae,d4]
 refine aj (aH _) (fun v s' hv=>?_);obtain⟨rfl,rfl⟩:=hv
 simp only[zX,simprocAttr,zM,aR,Vs,Re.ae,d1,d2,d3,d5,d6,d7,d8,d9,d10,d11]
 refine aY (fun n e s=>∃j:Nat,n=j∧j≤m1.p.re.kids.length∧e 0=.pp 0 g 0 0 b a∧e 1=.d ((aG.root).d b a)∧e 5=.rf 3 0 0 0∧e 6=.rf 4 0 0 0∧e 8=.cl (.func 150) [] [.rf 3 0 0 0]∧e 9=i64 ((j:Int)-1)∧s=m1.aF g b a++[⟨0,true,3,[[.d (iD p.at_),.d (bd p.ai),.d ((eo (m1.p.re.kids.drop j) p.todo).d b a)]]⟩,⟨0,true,3,[[.d (iD 0),.fu [],.d (.sc (.pointer none))]]⟩])
  ⟨_,_,_,dt.refl,m1.p.re.kids.length,rfl,VA _,rfl,?_,rfl,rfl,rfl,?_,?_⟩ ?_
 ·rfl
 ·rw[bR _ (by omega)];rfl
 ·rw[List.drop_length];rfl
 rintro n e s ⟨j,rfl,hj,h0,h1,h5,h6,h8,h9,rfl⟩
 simp only[aG.d,Re.ae,iD,bD]at h1
 unfold aB.aF aB.aA
 cases n with
 |zero =>
  rw[show ((0:Nat):Int)-1=-1 by omega]at h9
  simp only[zX,simprocAttr,zM,aR,h0,h1,h5,h6,h8,h9,ge_iff_le,Wx]
  first
    |(refine⟨ak m1 b a,?_⟩;simp only[zM,aR,iA,eo,aI.d,aG.d,Re.ae];done)
    |exact⟨ak m1 b a,rfl⟩
    |exact ak m1 b a
 |succ j =>
  rw[show ((j+1:Nat):Int)-1=(j:Int) by omega]at h9
  have hle:(0:Int)≤(j:Int):=by omega
  have aT:(j:Int)<(m1.p.re.kids.length:Int):=by omega
  have NJ:j<m1.p.re.kids.length:=hj
  obtain⟨y,hy⟩:∃y,m1.p.re.kids[j]?=some y:=⟨_,Vu hj⟩
  simp only[zX,simprocAttr,zM,aR,h0,h1,h5,h6,h8,h9,ge_iff_le,hle,aT,NJ,hy,VR,Re.ae]
  refine eR rfl ?_
  simp only[zX,simprocAttr,zM,aR,h0,h1,h5,h6,h8,h9]
  refine⟨j,_,_,by omega,dt.refl,j,rfl,by omega,?_,?_,?_,?_,?_,?_,?_⟩ <;> (try simp only[zU,Nat.reduceBEq,Nat.reduceShiftRight,Nat.reduceMod,Nat.reduceEqDiff,reduceIte])
  ·exact h0
  ·first|exact h1|(rw[aG.d,Re.ae];exact h1)
  ·exact h5
  ·exact h6
  ·exact h8
  ·rw[bR _ (by omega)]
  ·have Sw:=si hy
   rw[Sw]
   simp only[eo,List.foldr_cons,aI.d,aG.d,Re.ae,iD,bD]
   try rfl
end Go.Proofs.Ytllagoeijcjpiaa
