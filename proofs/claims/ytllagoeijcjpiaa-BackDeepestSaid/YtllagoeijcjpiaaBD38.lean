/- A part of the proof (G35). -/
import Derived.Test.YtllagoeijcjpiaaBD37
set_option linter.unusedSimpArgs false
set_option linter.unusedVariables false
set_option maxRecDepth 100000
set_option maxHeartbeats 80000000
namespace Go.Proofs.Ytllagoeijcjpiaa
open Go.VL Go.Proofs.Try
theorem vm {og:Nat}{own t:List Int}{x y:Int}{r:Bool}{s:List VL.Obj}{K:V→List VL.Obj→Prop} (h:bI prog 156 [.d (.sc (.int .i64 x)),.d (ay t),.d (.sc (.int .i64 y))] (.d (.sc (.bool r)))) (ht:own=t)
  (hs:s[2]?=some ⟨og,true,1,own.map fun x=>[V.d (.sc (.int .i64 x))]⟩) (hk:K (.d (.sc (.bool r))) s) :
  C4 prog [2] [] 156 [.d (.sc (.int .i64 x)),.so 2 og 0 t.length,.d (.sc (.int .i64 y))] s K:=by
 refine⟨_,[],rfl,fun s' hl hr=>?_,hk⟩
 have nq:s'[2]?=some ⟨og,true,1,own.map fun x=>[V.d (.sc (.int .i64 x))]⟩:=by rw[hr 2 (by simp)];exact hs
 refine fX [2] h ?_ rfl ⟨rfl,rfl⟩
 have yw:(bk s' [2])[2]?=some ⟨og,false,1,own.map fun x=>[V.d (iD x)]⟩:=by
  simp only[bk,bA,nq]
  rw[V8 (List.getElem?_eq_some_iff.1 nq).1]
  rfl
 have:=ig (cL:=(bk s' [2]).length) (own:=own) yw (show 0+t.length≤own.length by rw[ht];omega)
 rw[Wx,ht,We]at this
 simp only[aZ.go,this]
 rfl
theorem Ff {k:Nat} (ih:bz k) (g b a:Nat) (m:aB) (re:Re) (p:ao) (hm:m.cX p) (cC:re.set.length≤1000000000) (cJ:re.kids.length≤1000000000) (ho:re.op=6) (hf:¬m.fuel≤m.steps) {x:Rs} (hx:bj (fun m base p=>aQ k true m base p true) m (.el re) p=some x) :
  az prog 118 [.pp 0 g 0 0 b a,.d ((aG.el re).d b a),p.v b a] (m.aF g b a) fun v s=>v=aR b a x.2.1 x.2.2∧s=x.1.aF g b a:=by
 obtain⟨⟨g1,g2,g3,g4⟩,⟨g5,g6,g7⟩,g8,g9⟩:=hm
 unfold bj at hx
 simp only[aB.lit]at hx
 rw[if_neg (by omega)]at hx
 have d4:decide (re.op=4)=false:=decide_eq_false (by omega)
 have aH:=fun ext=>br (cR g b a m g1 g2) rfl rfl rfl ext
 have eD:=m.eZ
 have bC:=m.dI
 rw[if_neg (by omega),if_neg hf]at hx
 have hd:decide (m.steps<m.fuel)=true:=decide_eq_true (by omega)
 simp only[hd]at aH
 have t1:m.step.t.length≤1000000:=by rw[bC.t];exact g8
 have t2:p.at_≤m.step.t.length:=by rw[bC.t];exact g6
 have t3:m.step.same:=fun h=>by rw[bC.own,bC.t];exact g9 (by rw[← bC.bq];exact h)
 generalize ly:m.step=m1 at *
 obtain⟨d1,d2,d3,_,d5,d6,d7,d8,d9,d10,d11⟩:=PN (o:=re.op) (by omega)
 rw[if_neg (by omega),if_neg (by omega),if_neg (by omega),if_neg (by omega),if_pos (by omega)]at hx
 cases hr:tb m1.t re p with
 |none=>rw[hr]at hx;cases hx
 |some y =>
 rw[hr]at hx
 cases hx
 have cI:=fun ext=>br (Gs g b a m1 (.el re) re p rfl hr g7 g5 t2 t1 t3) rfl rfl rfl ext
 obtain⟨y1,y2⟩:=y
 unfold aB.aF aB.aA at cI
 simp only[zM,aR,aI.d,aG.d,Re.ae]at cI
 unfold aB.aF aB.aA at aH
 simp only[zM,aR]at aH
 unfold aB.aF aB.aA
 refine av func118 rfl ntmps118 results118 rfl 3 158456325028528677386111158247 (by simp) (by simp) ?_
 simp only[zX,simprocAttr,-Int.reduceNatCast',zM,aR,aG.d,Re.ae,d4]
 refine aj (aH _) (fun v s' hv=>?_);obtain⟨rfl,rfl⟩:=hv
 simp only[zX,simprocAttr,-Int.reduceNatCast',zM,aR,Vs,Re.ae,d1,d2,d3,d5,d6,d7,d8,d9,d10,d11]
 refine aj (cI _) (fun v s' hv=>?_);obtain⟨rfl,rfl⟩:=hv
 simp only[zX,simprocAttr,-Int.reduceNatCast',zM,aR]
 first
  |(refine⟨ak m1 b a,?_⟩;simp only[zM,aR,iA,eo,aI.d,aG.d,Re.ae];done)
  |exact⟨ak m1 b a,rfl⟩
  |exact ak m1 b a
theorem As {k:Nat} (ih:bz k) (g b a:Nat) (m:aB) (p:ao) (hm:m.cX p) (cC:m.p.re.set.length≤1000000000) (cJ:m.p.re.kids.length≤1000000000) (ho:m.p.re.op=6) (hf:¬m.fuel≤m.steps) {x:Rs} (hx:bj (fun m base p=>aQ k true m base p true) m .root p=some x) :
  az prog 118 [.pp 0 g 0 0 b a,.d ((aG.root).d b a),p.v b a] (m.aF g b a) fun v s=>v=aR b a x.2.1 x.2.2∧s=x.1.aF g b a:=by
 obtain⟨⟨g1,g2,g3,g4⟩,⟨g5,g6,g7⟩,g8,g9⟩:=hm
 unfold bj at hx
 simp only[aB.lit]at hx
 rw[if_neg (by omega)]at hx
 have d4:decide (m.p.re.op=4)=false:=decide_eq_false (by omega)
 have aH:=fun ext=>br (cR g b a m g1 g2) rfl rfl rfl ext
 have eD:=m.eZ
 have bC:=m.dI
 rw[if_neg (by omega),if_neg hf]at hx
 have hd:decide (m.steps<m.fuel)=true:=decide_eq_true (by omega)
 simp only[hd]at aH
 have t1:m.step.t.length≤1000000:=by rw[bC.t];exact g8
 have t2:p.at_≤m.step.t.length:=by rw[bC.t];exact g6
 have t3:m.step.same:=fun h=>by rw[bC.own,bC.t];exact g9 (by rw[← bC.bq];exact h)
 generalize ly:m.step=m1 at *
 rw[← eD]at cC cJ ho hx
 obtain⟨d1,d2,d3,_,d5,d6,d7,d8,d9,d10,d11⟩:=PN (o:=m1.p.re.op) (by omega)
 rw[if_neg (by omega),if_neg (by omega),if_neg (by omega),if_neg (by omega),if_pos (by omega)]at hx
 cases hr:tb m1.t m1.p.re p with
 |none=>rw[hr]at hx;cases hx
 |some y =>
 rw[hr]at hx
 cases hx
 have cI:=fun ext=>br (Gs g b a m1 .root m1.p.re p rfl hr g7 g5 t2 t1 t3) rfl rfl rfl ext
 obtain⟨y1,y2⟩:=y
 unfold aB.aF aB.aA at cI
 simp only[zM,aR,aI.d,aG.d,Re.ae]at cI
 unfold aB.aF aB.aA at aH
 simp only[zM,aR]at aH
 unfold aB.aF aB.aA
 refine av func118 rfl ntmps118 results118 rfl 3 158456325028528677386111158247 (by simp) (by simp) ?_
 simp only[zX,simprocAttr,-Int.reduceNatCast',zM,aR,aG.d,Re.ae,d4]
 refine aj (aH _) (fun v s' hv=>?_);obtain⟨rfl,rfl⟩:=hv
 simp only[zX,simprocAttr,-Int.reduceNatCast',zM,aR,Vs,Re.ae,d1,d2,d3,d5,d6,d7,d8,d9,d10,d11]
 refine aj (cI _) (fun v s' hv=>?_);obtain⟨rfl,rfl⟩:=hv
 simp only[zX,simprocAttr,-Int.reduceNatCast',zM,aR]
 first
  |(refine⟨ak m1 b a,?_⟩;simp only[zM,aR,iA,eo,aI.d,aG.d,Re.ae];done)
  |exact⟨ak m1 b a,rfl⟩
  |exact ak m1 b a
theorem Fo {k:Nat} (ih:bz k) (g b a:Nat) (m:aB) (re:Re) (p:ao) (hm:m.cX p) (cC:re.set.length≤1000000000) (cJ:re.kids.length≤1000000000) (ho:re.op=7) (hf:¬m.fuel≤m.steps) {x:Rs} (hx:bj (fun m base p=>aQ k true m base p true) m (.el re) p=some x) :
  az prog 118 [.pp 0 g 0 0 b a,.d ((aG.el re).d b a),p.v b a] (m.aF g b a) fun v s=>v=aR b a x.2.1 x.2.2∧s=x.1.aF g b a:=by
 obtain⟨⟨g1,g2,g3,g4⟩,⟨g5,g6,g7⟩,g8,g9⟩:=hm
 unfold bj at hx
 simp only[aB.lit]at hx
 rw[if_neg (by omega)]at hx
 have d4:decide (re.op=4)=false:=decide_eq_false (by omega)
 have aH:=fun ext=>br (cR g b a m g1 g2) rfl rfl rfl ext
 have eD:=m.eZ
 have bC:=m.dI
 rw[if_neg (by omega),if_neg hf]at hx
 have hd:decide (m.steps<m.fuel)=true:=decide_eq_true (by omega)
 simp only[hd]at aH
 have t1:m.step.t.length≤1000000:=by rw[bC.t];exact g8
 have t2:p.at_≤m.step.t.length:=by rw[bC.t];exact g6
 have t3:m.step.same:=fun h=>by rw[bC.own,bC.t];exact g9 (by rw[← bC.bq];exact h)
 generalize ly:m.step=m1 at *
 obtain⟨d1,d2,d3,_,d5,d6,d7,d8,d9,d10,d11⟩:=Qj (o:=re.op) (by omega)
 rw[if_neg (by omega),if_neg (by omega),if_neg (by omega),if_neg (by omega),if_neg (by omega),if_pos (by omega)]at hx
 obtain⟨kid,l,hl⟩:∃kid l,re.kids=kid::l:=by
  cases hh:re.kids with
  |nil=>rw[hh]at hx;cases hx
  |cons y l=>exact⟨y,l,rfl⟩
 rw[hl]at hx
 have cI:=fun ext=>br (Gq ih g b a m1 re p kid l hl g5 (by omega) hx) rfl rfl rfl ext
 obtain⟨m2,y1,y2⟩:=x
 unfold aB.aF aB.aA at cI
 simp only[zM,aR,aI.d,aG.d,Re.ae]at cI
 unfold aB.aF aB.aA at aH
 simp only[zM,aR]at aH
 unfold aB.aF aB.aA
 refine av func118 rfl ntmps118 results118 rfl 3 158456325028528677386111158247 (by simp) (by simp) ?_
 simp only[zX,simprocAttr,-Int.reduceNatCast',zM,aR,aG.d,Re.ae,d4]
 refine aj (aH _) (fun v s' hv=>?_);obtain⟨rfl,rfl⟩:=hv
 simp only[zX,simprocAttr,-Int.reduceNatCast',zM,aR,Vs,Re.ae,d1,d2,d3,d5,d6,d7,d8,d9,d10,d11]
 refine aj (cI _) (fun v s' hv=>?_);obtain⟨rfl,rfl⟩:=hv
 simp only[zX,simprocAttr,-Int.reduceNatCast',zM,aR]
 first
  |(refine⟨ak m2 b a,?_⟩;simp only[zM,aR,iA,eo,aI.d,aG.d,Re.ae];done)
  |exact⟨ak m2 b a,rfl⟩
  |exact ak m2 b a
theorem An {k:Nat} (ih:bz k) (g b a:Nat) (m:aB) (p:ao) (hm:m.cX p) (cC:m.p.re.set.length≤1000000000) (cJ:m.p.re.kids.length≤1000000000) (ho:m.p.re.op=7) (hf:¬m.fuel≤m.steps) {x:Rs} (hx:bj (fun m base p=>aQ k true m base p true) m .root p=some x) :
  az prog 118 [.pp 0 g 0 0 b a,.d ((aG.root).d b a),p.v b a] (m.aF g b a) fun v s=>v=aR b a x.2.1 x.2.2∧s=x.1.aF g b a:=by
 obtain⟨⟨g1,g2,g3,g4⟩,⟨g5,g6,g7⟩,g8,g9⟩:=hm
 unfold bj at hx
 simp only[aB.lit]at hx
 rw[if_neg (by omega)]at hx
 have d4:decide (m.p.re.op=4)=false:=decide_eq_false (by omega)
 have aH:=fun ext=>br (cR g b a m g1 g2) rfl rfl rfl ext
 have eD:=m.eZ
 have bC:=m.dI
 rw[if_neg (by omega),if_neg hf]at hx
 have hd:decide (m.steps<m.fuel)=true:=decide_eq_true (by omega)
 simp only[hd]at aH
 have t1:m.step.t.length≤1000000:=by rw[bC.t];exact g8
 have t2:p.at_≤m.step.t.length:=by rw[bC.t];exact g6
 have t3:m.step.same:=fun h=>by rw[bC.own,bC.t];exact g9 (by rw[← bC.bq];exact h)
 generalize ly:m.step=m1 at *
 rw[← eD]at cC cJ ho hx
 obtain⟨d1,d2,d3,_,d5,d6,d7,d8,d9,d10,d11⟩:=Qj (o:=m1.p.re.op) (by omega)
 rw[if_neg (by omega),if_neg (by omega),if_neg (by omega),if_neg (by omega),if_neg (by omega),if_pos (by omega)]at hx
 obtain⟨kid,l,hl⟩:∃kid l,m1.p.re.kids=kid::l:=by
  cases hh:m1.p.re.kids with
  |nil=>rw[hh]at hx;cases hx
  |cons y l=>exact⟨y,l,rfl⟩
 rw[hl]at hx
 have cI:=fun ext=>br (y6 ih g b a m1 p kid l hl g5 (by omega) hx) rfl rfl rfl ext
 obtain⟨m2,y1,y2⟩:=x
 unfold aB.aF aB.aA at cI
 simp only[zM,aR,aI.d,aG.d,Re.ae]at cI
 unfold aB.aF aB.aA at aH
 simp only[zM,aR]at aH
 unfold aB.aF aB.aA
 refine av func118 rfl ntmps118 results118 rfl 3 158456325028528677386111158247 (by simp) (by simp) ?_
 simp only[zX,simprocAttr,-Int.reduceNatCast',zM,aR,aG.d,Re.ae,d4]
 refine aj (aH _) (fun v s' hv=>?_);obtain⟨rfl,rfl⟩:=hv
 simp only[zX,simprocAttr,-Int.reduceNatCast',zM,aR,Vs,Re.ae,d1,d2,d3,d5,d6,d7,d8,d9,d10,d11]
 refine aj (cI _) (fun v s' hv=>?_);obtain⟨rfl,rfl⟩:=hv
 simp only[zX,simprocAttr,-Int.reduceNatCast',zM,aR]
 first
  |(refine⟨ak m2 b a,?_⟩;simp only[zM,aR,iA,eo,aI.d,aG.d,Re.ae];done)
  |exact⟨ak m2 b a,rfl⟩
  |exact ak m2 b a
theorem E3 {k:Nat} (ih:bz k) (g b a:Nat) (m:aB) (re:Re) (p:ao) (hm:m.cX p) (cC:re.set.length≤1000000000) (cJ:re.kids.length≤1000000000) (ho:re.op=8) (hf:¬m.fuel≤m.steps) {x:Rs} (hx:bj (fun m base p=>aQ k true m base p true) m (.el re) p=some x) :
  az prog 118 [.pp 0 g 0 0 b a,.d ((aG.el re).d b a),p.v b a] (m.aF g b a) fun v s=>v=aR b a x.2.1 x.2.2∧s=x.1.aF g b a:=by
 obtain⟨⟨g1,g2,g3,g4⟩,⟨g5,g6,g7⟩,g8,g9⟩:=hm
 unfold bj at hx
 simp only[aB.lit]at hx
 rw[if_neg (by omega)]at hx
 have d4:decide (re.op=4)=false:=decide_eq_false (by omega)
 have aH:=fun ext=>br (cR g b a m g1 g2) rfl rfl rfl ext
 have eD:=m.eZ
 have bC:=m.dI
 rw[if_neg (by omega),if_neg hf]at hx
 have hd:decide (m.steps<m.fuel)=true:=decide_eq_true (by omega)
 simp only[hd]at aH
 have t1:m.step.t.length≤1000000:=by rw[bC.t];exact g8
 have t2:p.at_≤m.step.t.length:=by rw[bC.t];exact g6
 have t3:m.step.same:=fun h=>by rw[bC.own,bC.t];exact g9 (by rw[← bC.bq];exact h)
 generalize ly:m.step=m1 at *
 obtain⟨d1,d2,d3,_,d5,d6,d7,d8,d9,d10,d11⟩:=P3 (o:=re.op) (by omega)
 rw[if_neg (by omega),if_neg (by omega),if_neg (by omega),if_neg (by omega),if_neg (by omega),if_pos (by omega)]at hx
 obtain⟨kid,l,hl⟩:∃kid l,re.kids=kid::l:=by
  cases hh:re.kids with
  |nil=>rw[hh]at hx;cases hx
  |cons y l=>exact⟨y,l,rfl⟩
 rw[hl]at hx
 have cI:=fun ext=>br (Gq ih g b a m1 re p kid l hl g5 (by omega) hx) rfl rfl rfl ext
 obtain⟨m2,y1,y2⟩:=x
 unfold aB.aF aB.aA at cI
 simp only[zM,aR,aI.d,aG.d,Re.ae]at cI
 unfold aB.aF aB.aA at aH
 simp only[zM,aR]at aH
 unfold aB.aF aB.aA
 refine av func118 rfl ntmps118 results118 rfl 3 158456325028528677386111158247 (by simp) (by simp) ?_
 simp only[zX,simprocAttr,-Int.reduceNatCast',zM,aR,aG.d,Re.ae,d4]
 refine aj (aH _) (fun v s' hv=>?_);obtain⟨rfl,rfl⟩:=hv
 simp only[zX,simprocAttr,-Int.reduceNatCast',zM,aR,Vs,Re.ae,d1,d2,d3,d5,d6,d7,d8,d9,d10,d11]
 refine aj (cI _) (fun v s' hv=>?_);obtain⟨rfl,rfl⟩:=hv
 simp only[zX,simprocAttr,-Int.reduceNatCast',zM,aR]
 first
  |(refine⟨ak m2 b a,?_⟩;simp only[zM,aR,iA,eo,aI.d,aG.d,Re.ae];done)
  |exact⟨ak m2 b a,rfl⟩
  |exact ak m2 b a
theorem AJ {k:Nat} (ih:bz k) (g b a:Nat) (m:aB) (p:ao) (hm:m.cX p) (cC:m.p.re.set.length≤1000000000) (cJ:m.p.re.kids.length≤1000000000) (ho:m.p.re.op=8) (hf:¬m.fuel≤m.steps) {x:Rs} (hx:bj (fun m base p=>aQ k true m base p true) m .root p=some x) :
  az prog 118 [.pp 0 g 0 0 b a,.d ((aG.root).d b a),p.v b a] (m.aF g b a) fun v s=>v=aR b a x.2.1 x.2.2∧s=x.1.aF g b a:=by
 obtain⟨⟨g1,g2,g3,g4⟩,⟨g5,g6,g7⟩,g8,g9⟩:=hm
 unfold bj at hx
 simp only[aB.lit]at hx
 rw[if_neg (by omega)]at hx
 have d4:decide (m.p.re.op=4)=false:=decide_eq_false (by omega)
 have aH:=fun ext=>br (cR g b a m g1 g2) rfl rfl rfl ext
 have eD:=m.eZ
 have bC:=m.dI
 rw[if_neg (by omega),if_neg hf]at hx
 have hd:decide (m.steps<m.fuel)=true:=decide_eq_true (by omega)
 simp only[hd]at aH
 have t1:m.step.t.length≤1000000:=by rw[bC.t];exact g8
 have t2:p.at_≤m.step.t.length:=by rw[bC.t];exact g6
 have t3:m.step.same:=fun h=>by rw[bC.own,bC.t];exact g9 (by rw[← bC.bq];exact h)
 generalize ly:m.step=m1 at *
 rw[← eD]at cC cJ ho hx
 obtain⟨d1,d2,d3,_,d5,d6,d7,d8,d9,d10,d11⟩:=P3 (o:=m1.p.re.op) (by omega)
 rw[if_neg (by omega),if_neg (by omega),if_neg (by omega),if_neg (by omega),if_neg (by omega),if_pos (by omega)]at hx
 obtain⟨kid,l,hl⟩:∃kid l,m1.p.re.kids=kid::l:=by
  cases hh:m1.p.re.kids with
  |nil=>rw[hh]at hx;cases hx
  |cons y l=>exact⟨y,l,rfl⟩
 rw[hl]at hx
 have cI:=fun ext=>br (y6 ih g b a m1 p kid l hl g5 (by omega) hx) rfl rfl rfl ext
 obtain⟨m2,y1,y2⟩:=x
 unfold aB.aF aB.aA at cI
 simp only[zM,aR,aI.d,aG.d,Re.ae]at cI
 unfold aB.aF aB.aA at aH
 simp only[zM,aR]at aH
 unfold aB.aF aB.aA
 refine av func118 rfl ntmps118 results118 rfl 3 158456325028528677386111158247 (by simp) (by simp) ?_
 simp only[zX,simprocAttr,-Int.reduceNatCast',zM,aR,aG.d,Re.ae,d4]
 refine aj (aH _) (fun v s' hv=>?_);obtain⟨rfl,rfl⟩:=hv
 simp only[zX,simprocAttr,-Int.reduceNatCast',zM,aR,Vs,Re.ae,d1,d2,d3,d5,d6,d7,d8,d9,d10,d11]
 refine aj (cI _) (fun v s' hv=>?_);obtain⟨rfl,rfl⟩:=hv
 simp only[zX,simprocAttr,-Int.reduceNatCast',zM,aR]
 first
  |(refine⟨ak m2 b a,?_⟩;simp only[zM,aR,iA,eo,aI.d,aG.d,Re.ae];done)
  |exact⟨ak m2 b a,rfl⟩
  |exact ak m2 b a
theorem EN {k:Nat} (ih:bz k) (g b a:Nat) (m:aB) (re:Re) (p:ao) (hm:m.cX p) (cC:re.set.length≤1000000000) (cJ:re.kids.length≤1000000000) (ho:re.op=9) (hf:¬m.fuel≤m.steps) {x:Rs} (hx:bj (fun m base p=>aQ k true m base p true) m (.el re) p=some x) :
  az prog 118 [.pp 0 g 0 0 b a,.d ((aG.el re).d b a),p.v b a] (m.aF g b a) fun v s=>v=aR b a x.2.1 x.2.2∧s=x.1.aF g b a:=by
 obtain⟨⟨g1,g2,g3,g4⟩,⟨g5,g6,g7⟩,g8,g9⟩:=hm
 unfold bj at hx
 simp only[aB.lit]at hx
 rw[if_neg (by omega)]at hx
 have d4:decide (re.op=4)=false:=decide_eq_false (by omega)
 have aH:=fun ext=>br (cR g b a m g1 g2) rfl rfl rfl ext
 have eD:=m.eZ
 have bC:=m.dI
 rw[if_neg (by omega),if_neg hf]at hx
 have hd:decide (m.steps<m.fuel)=true:=decide_eq_true (by omega)
 simp only[hd]at aH
 have t1:m.step.t.length≤1000000:=by rw[bC.t];exact g8
 have t2:p.at_≤m.step.t.length:=by rw[bC.t];exact g6
 have t3:m.step.same:=fun h=>by rw[bC.own,bC.t];exact g9 (by rw[← bC.bq];exact h)
 generalize ly:m.step=m1 at *
 obtain⟨d1,d2,d3,_,d5,d6,d7,d8,d9,d10,d11⟩:=P4 (o:=re.op) (by omega)
 rw[if_neg (by omega),if_neg (by omega),if_neg (by omega),if_neg (by omega),if_neg (by omega),if_neg (by omega),if_pos (by omega)]at hx
 obtain⟨kid,l,hl⟩:∃kid l,re.kids=kid::l:=by
  cases hh:re.kids with
  |nil=>rw[hh]at hx;cases hx
  |cons y l=>exact⟨y,l,rfl⟩
 rw[hl]at hx
 have hk:re.kids[0]?=some kid:=by rw[hl];rfl
 have dg:(0:Int)<(re.kids.length:Int):=by rw[hl,VC];omega
 have Ea:=fO b a (.el kid) .nil
 simp only[aI.d,aG.d,Re.ae,iD,bD]at Ea
 have cI:=fun ext=>br (qk ih g b a m1 p _ hx) rfl rfl rfl ext
 obtain⟨m2,y1,y2⟩:=x
 unfold aB.aF aB.aA at cI
 simp only[zM,aR,aI.d,aG.d,Re.ae]at cI
 unfold aB.aF aB.aA at aH
 simp only[zM,aR]at aH
 unfold aB.aF aB.aA
 refine av func118 rfl ntmps118 results118 rfl 3 158456325028528677386111158247 (by simp) (by simp) ?_
 simp only[zX,simprocAttr,-Int.reduceNatCast',zM,aR,aG.d,Re.ae,d4]
 refine aj (aH _) (fun v s' hv=>?_);obtain⟨rfl,rfl⟩:=hv
 simp only[zX,simprocAttr,-Int.reduceNatCast',zM,aR,Vs,Re.ae,d1,d2,d3,d5,d6,d7,d8,d9,d10,d11]
 refine an mix [8] [(1,[3],[]),(3,[0],[]),(4,[0],[]),(5,[0],[]),(11,[4],[4])] (by rfl) ?_
 simp only[zX,simprocAttr,-Int.reduceNatCast',zM,aR,Re.ae,dg,hk]
 refine cz Ea rfl rfl ?_
 simp only[zX,simprocAttr,-Int.reduceNatCast',zM,aR,Re.ae]
 refine bn (cI _) ?_
 simp only[zX,simprocAttr,-Int.reduceNatCast',zM,aR]
 first
  |(refine⟨ak m2 b a,?_⟩;simp only[zM,aR,iA,eo,aI.d,aG.d,Re.ae];done)
  |exact⟨ak m2 b a,rfl⟩
  |exact ak m2 b a
theorem Bd {k:Nat} (ih:bz k) (g b a:Nat) (m:aB) (p:ao) (hm:m.cX p) (cC:m.p.re.set.length≤1000000000) (cJ:m.p.re.kids.length≤1000000000) (ho:m.p.re.op=9) (hf:¬m.fuel≤m.steps) {x:Rs} (hx:bj (fun m base p=>aQ k true m base p true) m .root p=some x) :
  az prog 118 [.pp 0 g 0 0 b a,.d ((aG.root).d b a),p.v b a] (m.aF g b a) fun v s=>v=aR b a x.2.1 x.2.2∧s=x.1.aF g b a:=by
 obtain⟨⟨g1,g2,g3,g4⟩,⟨g5,g6,g7⟩,g8,g9⟩:=hm
 unfold bj at hx
 simp only[aB.lit]at hx
 rw[if_neg (by omega)]at hx
 have d4:decide (m.p.re.op=4)=false:=decide_eq_false (by omega)
 have aH:=fun ext=>br (cR g b a m g1 g2) rfl rfl rfl ext
 have eD:=m.eZ
 have bC:=m.dI
 rw[if_neg (by omega),if_neg hf]at hx
 have hd:decide (m.steps<m.fuel)=true:=decide_eq_true (by omega)
 simp only[hd]at aH
 have t1:m.step.t.length≤1000000:=by rw[bC.t];exact g8
 have t2:p.at_≤m.step.t.length:=by rw[bC.t];exact g6
 have t3:m.step.same:=fun h=>by rw[bC.own,bC.t];exact g9 (by rw[← bC.bq];exact h)
 generalize ly:m.step=m1 at *
 rw[← eD]at cC cJ ho hx
 obtain⟨d1,d2,d3,_,d5,d6,d7,d8,d9,d10,d11⟩:=P4 (o:=m1.p.re.op) (by omega)
 rw[if_neg (by omega),if_neg (by omega),if_neg (by omega),if_neg (by omega),if_neg (by omega),if_neg (by omega),if_pos (by omega)]at hx
 obtain⟨kid,l,hl⟩:∃kid l,m1.p.re.kids=kid::l:=by
  cases hh:m1.p.re.kids with
  |nil=>rw[hh]at hx;cases hx
  |cons y l=>exact⟨y,l,rfl⟩
 rw[hl]at hx
 have hk:m1.p.re.kids[0]?=some kid:=by rw[hl];rfl
 have dg:(0:Int)<(m1.p.re.kids.length:Int):=by rw[hl,VC];omega
 have Ea:=fO b a (.el kid) .nil
 simp only[aI.d,aG.d,Re.ae,iD,bD]at Ea
 have cI:=fun ext=>br (qk ih g b a m1 p _ hx) rfl rfl rfl ext
 obtain⟨m2,y1,y2⟩:=x
 unfold aB.aF aB.aA at cI
 simp only[zM,aR,aI.d,aG.d,Re.ae]at cI
 unfold aB.aF aB.aA at aH
 simp only[zM,aR]at aH
 unfold aB.aF aB.aA
 refine av func118 rfl ntmps118 results118 rfl 3 158456325028528677386111158247 (by simp) (by simp) ?_
 simp only[zX,simprocAttr,-Int.reduceNatCast',zM,aR,aG.d,Re.ae,d4]
 refine aj (aH _) (fun v s' hv=>?_);obtain⟨rfl,rfl⟩:=hv
 simp only[zX,simprocAttr,-Int.reduceNatCast',zM,aR,Vs,Re.ae,d1,d2,d3,d5,d6,d7,d8,d9,d10,d11]
 refine an mix [8] [(1,[3],[]),(3,[0],[]),(4,[0],[]),(5,[0],[]),(11,[4],[4])] (by rfl) ?_
 simp only[zX,simprocAttr,-Int.reduceNatCast',zM,aR,Re.ae,dg,hk]
 refine cz Ea rfl rfl ?_
 simp only[zX,simprocAttr,-Int.reduceNatCast',zM,aR,Re.ae]
 refine bn (cI _) ?_
 simp only[zX,simprocAttr,-Int.reduceNatCast',zM,aR]
 first
  |(refine⟨ak m2 b a,?_⟩;simp only[zM,aR,iA,eo,aI.d,aG.d,Re.ae];done)
  |exact⟨ak m2 b a,rfl⟩
  |exact ak m2 b a
theorem D3 {k:Nat} (ih:bz k) (g b a:Nat) (m:aB) (re:Re) (p:ao) (hm:m.cX p) (cC:re.set.length≤1000000000) (cJ:re.kids.length≤1000000000) (ho:re.op=10) (hf:¬m.fuel≤m.steps) {x:Rs} (hx:bj (fun m base p=>aQ k true m base p true) m (.el re) p=some x) :
  az prog 118 [.pp 0 g 0 0 b a,.d ((aG.el re).d b a),p.v b a] (m.aF g b a) fun v s=>v=aR b a x.2.1 x.2.2∧s=x.1.aF g b a:=by
 obtain⟨⟨g1,g2,g3,g4⟩,⟨g5,g6,g7⟩,g8,g9⟩:=hm
 unfold bj at hx
 simp only[aB.lit]at hx
 rw[if_neg (by omega)]at hx
 have d4:decide (re.op=4)=false:=decide_eq_false (by omega)
 have aH:=fun ext=>br (cR g b a m g1 g2) rfl rfl rfl ext
 have eD:=m.eZ
 have bC:=m.dI
 rw[if_neg (by omega),if_neg hf]at hx
 have hd:decide (m.steps<m.fuel)=true:=decide_eq_true (by omega)
 simp only[hd]at aH
 have t1:m.step.t.length≤1000000:=by rw[bC.t];exact g8
 have t2:p.at_≤m.step.t.length:=by rw[bC.t];exact g6
 have t3:m.step.same:=fun h=>by rw[bC.own,bC.t];exact g9 (by rw[← bC.bq];exact h)
 generalize ly:m.step=m1 at *
 obtain⟨d1,d2,d3,_,d5,d6,d7,d8,d9,d10,d11⟩:=My (o:=re.op) (by omega)
 rw[if_neg (by omega),if_neg (by omega),if_neg (by omega),if_neg (by omega),if_neg (by omega),if_neg (by omega),if_neg (by omega),if_pos (by omega)]at hx
 obtain⟨yes,no,l,hl⟩:∃yes no l,re.kids=yes::no::l:=by
  cases hh:re.kids with
  |nil=>rw[hh]at hx;cases hx
  |cons y l=>cases l with
   |nil=>rw[hh]at hx;cases hx
   |cons y' l=>exact⟨y,y',l,rfl⟩
 rw[hl]at hx
 simp only at hx
 have dL:re.kids[0]?=some yes:=by rw[hl];rfl
 have eO:re.kids[1]?=some no:=by rw[hl];rfl
 have dg:(0:Int)<(re.kids.length:Int):=by rw[hl,VC];omega
 have wq:(1:Int)<(re.kids.length:Int):=by rw[hl,VC,VC];omega
 by_cases hn:re.n<1∨(p.ai.length:Int)<re.n
 ·rw[if_pos hn]at hx;cases hx
 rw[if_neg hn]at hx
 obtain⟨y,gD⟩:∃y,p.ai[(re.n-1).toNat]?=some y:=⟨_,Vu (by omega)⟩
 rw[getD_some gD]at hx
 obtain⟨y1,y2⟩:=y
 simp only at hx
 have w0:IntKind.i64.wrap (re.n-1)=re.n-1:=bR _ (by omega)
 have ma:0≤re.n-1:=by omega
 have kv:re.n-1<(p.ai.length:Int):=by omega
 by_cases cx:0≤y1
 ·skip
  rw[if_pos cx]at hx
  cases hx
  unfold aB.aF aB.aA at aH
  simp only[zM,aR]at aH
  unfold aB.aF aB.aA
  refine av func118 rfl ntmps118 results118 rfl 3 158456325028528677386111158247 (by simp) (by simp) ?_
  simp only[zX,simprocAttr,-Int.reduceNatCast',zM,aR,aG.d,Re.ae,d4]
  refine aj (aH _) (fun v s' hv=>?_);obtain⟨rfl,rfl⟩:=hv
  simp only[zX,simprocAttr,-Int.reduceNatCast',zM,aR,Vs,Re.ae,d1,d2,d3,d5,d6,d7,d8,d9,d10,d11,wq,eO]
  refine an mix [] [(0,[3],[]),(1,[3],[]),(3,[0],[]),(4,[0],[]),(5,[0],[])] (by rfl) ?_
  simp only[zX,simprocAttr,-Int.reduceNatCast',zM,aR,Re.ae,w0,ma,kv,gD,bd,aM]
  refine⟨by decide,?_⟩
  simp only[zX,simprocAttr,-Int.reduceNatCast',zM,aR,Re.ae,cx,ge_iff_le,dg,dL]
  refine eR rfl ?_
  simp only[zX,simprocAttr,-Int.reduceNatCast',zM,aR]
  first
   |(refine⟨ak m1 b a,?_⟩;simp only[zM,aR,iA,eo,bd,aM,aI.d,aG.d,Re.ae];done)
   |exact⟨ak m1 b a,rfl⟩
   |exact ak m1 b a
 ·skip
  rw[if_neg cx]at hx
  cases hx
  unfold aB.aF aB.aA at aH
  simp only[zM,aR]at aH
  unfold aB.aF aB.aA
  refine av func118 rfl ntmps118 results118 rfl 3 158456325028528677386111158247 (by simp) (by simp) ?_
  simp only[zX,simprocAttr,-Int.reduceNatCast',zM,aR,aG.d,Re.ae,d4]
  refine aj (aH _) (fun v s' hv=>?_);obtain⟨rfl,rfl⟩:=hv
  simp only[zX,simprocAttr,-Int.reduceNatCast',zM,aR,Vs,Re.ae,d1,d2,d3,d5,d6,d7,d8,d9,d10,d11,wq,eO]
  refine an mix [] [(0,[3],[]),(1,[3],[]),(3,[0],[]),(4,[0],[]),(5,[0],[])] (by rfl) ?_
  simp only[zX,simprocAttr,-Int.reduceNatCast',zM,aR,Re.ae,w0,ma,kv,gD,bd,aM]
  refine⟨by decide,?_⟩
  simp only[zX,simprocAttr,-Int.reduceNatCast',zM,aR,Re.ae,cx,ge_iff_le,dg,dL]
  refine eR rfl ?_
  simp only[zX,simprocAttr,-Int.reduceNatCast',zM,aR]
  first
   |(refine⟨ak m1 b a,?_⟩;simp only[zM,aR,iA,eo,bd,aM,aI.d,aG.d,Re.ae];done)
   |exact⟨ak m1 b a,rfl⟩
   |exact ak m1 b a
theorem yA {k:Nat} (ih:bz k) (g b a:Nat) (m:aB) (p:ao) (hm:m.cX p) (cC:m.p.re.set.length≤1000000000) (cJ:m.p.re.kids.length≤1000000000) (ho:m.p.re.op=10) (hf:¬m.fuel≤m.steps) {x:Rs} (hx:bj (fun m base p=>aQ k true m base p true) m .root p=some x) :
  az prog 118 [.pp 0 g 0 0 b a,.d ((aG.root).d b a),p.v b a] (m.aF g b a) fun v s=>v=aR b a x.2.1 x.2.2∧s=x.1.aF g b a:=by
 obtain⟨⟨g1,g2,g3,g4⟩,⟨g5,g6,g7⟩,g8,g9⟩:=hm
 unfold bj at hx
 simp only[aB.lit]at hx
 rw[if_neg (by omega)]at hx
 have d4:decide (m.p.re.op=4)=false:=decide_eq_false (by omega)
 have aH:=fun ext=>br (cR g b a m g1 g2) rfl rfl rfl ext
 have eD:=m.eZ
 have bC:=m.dI
 rw[if_neg (by omega),if_neg hf]at hx
 have hd:decide (m.steps<m.fuel)=true:=decide_eq_true (by omega)
 simp only[hd]at aH
 have t1:m.step.t.length≤1000000:=by rw[bC.t];exact g8
 have t2:p.at_≤m.step.t.length:=by rw[bC.t];exact g6
 have t3:m.step.same:=fun h=>by rw[bC.own,bC.t];exact g9 (by rw[← bC.bq];exact h)
 generalize ly:m.step=m1 at *
 rw[← eD]at cC cJ ho hx
 obtain⟨d1,d2,d3,_,d5,d6,d7,d8,d9,d10,d11⟩:=My (o:=m1.p.re.op) (by omega)
 rw[if_neg (by omega),if_neg (by omega),if_neg (by omega),if_neg (by omega),if_neg (by omega),if_neg (by omega),if_neg (by omega),if_pos (by omega)]at hx
 obtain⟨yes,no,l,hl⟩:∃yes no l,m1.p.re.kids=yes::no::l:=by
  cases hh:m1.p.re.kids with
  |nil=>rw[hh]at hx;cases hx
  |cons y l=>cases l with
   |nil=>rw[hh]at hx;cases hx
   |cons y' l=>exact⟨y,y',l,rfl⟩
 rw[hl]at hx
 simp only at hx
 have dL:m1.p.re.kids[0]?=some yes:=by rw[hl];rfl
 have eO:m1.p.re.kids[1]?=some no:=by rw[hl];rfl
 have dg:(0:Int)<(m1.p.re.kids.length:Int):=by rw[hl,VC];omega
 have wq:(1:Int)<(m1.p.re.kids.length:Int):=by rw[hl,VC,VC];omega
 by_cases hn:m1.p.re.n<1∨(p.ai.length:Int)<m1.p.re.n
 ·rw[if_pos hn]at hx;cases hx
 rw[if_neg hn]at hx
 obtain⟨y,gD⟩:∃y,p.ai[(m1.p.re.n-1).toNat]?=some y:=⟨_,Vu (by omega)⟩
 rw[getD_some gD]at hx
 obtain⟨y1,y2⟩:=y
 simp only at hx
 have w0:IntKind.i64.wrap (m1.p.re.n-1)=m1.p.re.n-1:=bR _ (by omega)
 have ma:0≤m1.p.re.n-1:=by omega
 have kv:m1.p.re.n-1<(p.ai.length:Int):=by omega
 by_cases cx:0≤y1
 ·skip
  rw[if_pos cx]at hx
  cases hx
  unfold aB.aF aB.aA at aH
  simp only[zM,aR]at aH
  unfold aB.aF aB.aA
  refine av func118 rfl ntmps118 results118 rfl 3 158456325028528677386111158247 (by simp) (by simp) ?_
  simp only[zX,simprocAttr,-Int.reduceNatCast',zM,aR,aG.d,Re.ae,d4]
  refine aj (aH _) (fun v s' hv=>?_);obtain⟨rfl,rfl⟩:=hv
  simp only[zX,simprocAttr,-Int.reduceNatCast',zM,aR,Vs,Re.ae,d1,d2,d3,d5,d6,d7,d8,d9,d10,d11,wq,eO]
  refine an mix [] [(0,[3],[]),(1,[3],[]),(3,[0],[]),(4,[0],[]),(5,[0],[])] (by rfl) ?_
  simp only[zX,simprocAttr,-Int.reduceNatCast',zM,aR,Re.ae,w0,ma,kv,gD,bd,aM]
  refine⟨by decide,?_⟩
  simp only[zX,simprocAttr,-Int.reduceNatCast',zM,aR,Re.ae,cx,ge_iff_le,dg,dL]
  refine eR rfl ?_
  simp only[zX,simprocAttr,-Int.reduceNatCast',zM,aR]
  first
   |(refine⟨ak m1 b a,?_⟩;simp only[zM,aR,iA,eo,bd,aM,aI.d,aG.d,Re.ae];done)
   |exact⟨ak m1 b a,rfl⟩
   |exact ak m1 b a
 ·skip
  rw[if_neg cx]at hx
  cases hx
  unfold aB.aF aB.aA at aH
  simp only[zM,aR]at aH
  unfold aB.aF aB.aA
  refine av func118 rfl ntmps118 results118 rfl 3 158456325028528677386111158247 (by simp) (by simp) ?_
  simp only[zX,simprocAttr,-Int.reduceNatCast',zM,aR,aG.d,Re.ae,d4]
  refine aj (aH _) (fun v s' hv=>?_);obtain⟨rfl,rfl⟩:=hv
  simp only[zX,simprocAttr,-Int.reduceNatCast',zM,aR,Vs,Re.ae,d1,d2,d3,d5,d6,d7,d8,d9,d10,d11,wq,eO]
  refine an mix [] [(0,[3],[]),(1,[3],[]),(3,[0],[]),(4,[0],[]),(5,[0],[])] (by rfl) ?_
  simp only[zX,simprocAttr,-Int.reduceNatCast',zM,aR,Re.ae,w0,ma,kv,gD,bd,aM]
  refine⟨by decide,?_⟩
  simp only[zX,simprocAttr,-Int.reduceNatCast',zM,aR,Re.ae,cx,ge_iff_le,dg,dL]
  refine eR rfl ?_
  simp only[zX,simprocAttr,-Int.reduceNatCast',zM,aR]
  first
   |(refine⟨ak m1 b a,?_⟩;simp only[zM,aR,iA,eo,bd,aM,aI.d,aG.d,Re.ae];done)
   |exact⟨ak m1 b a,rfl⟩
   |exact ak m1 b a
theorem BF {k:Nat} (ih:bz k) (g b a:Nat) (m:aB) (re:Re) (p:ao) (hm:m.cX p) (cC:re.set.length≤1000000000) (cJ:re.kids.length≤1000000000) (ho:re.op=11) (hf:¬m.fuel≤m.steps) {x:Rs} (hx:bj (fun m base p=>aQ k true m base p true) m (.el re) p=some x) :
  az prog 118 [.pp 0 g 0 0 b a,.d ((aG.el re).d b a),p.v b a] (m.aF g b a) fun v s=>v=aR b a x.2.1 x.2.2∧s=x.1.aF g b a:=by
 obtain⟨⟨g1,g2,g3,g4⟩,⟨g5,g6,g7⟩,g8,g9⟩:=hm
 unfold bj at hx
 simp only[aB.lit]at hx
 rw[if_neg (by omega)]at hx
 have d4:decide (re.op=4)=false:=decide_eq_false (by omega)
 have aH:=fun ext=>br (cR g b a m g1 g2) rfl rfl rfl ext
 have eD:=m.eZ
 have bC:=m.dI
 rw[if_neg (by omega),if_neg hf]at hx
 have hd:decide (m.steps<m.fuel)=true:=decide_eq_true (by omega)
 simp only[hd]at aH
 have t1:m.step.t.length≤1000000:=by rw[bC.t];exact g8
 have t2:p.at_≤m.step.t.length:=by rw[bC.t];exact g6
 have t3:m.step.same:=fun h=>by rw[bC.own,bC.t];exact g9 (by rw[← bC.bq];exact h)
 generalize ly:m.step=m1 at *
 obtain⟨d1,d2,d3,_,d5,d6,d7,d8,d9,d10,d11⟩:=MW (o:=re.op) (by omega)
 rw[if_neg (by omega),if_neg (by omega),if_neg (by omega),if_neg (by omega),if_neg (by omega),if_neg (by omega),if_neg (by omega),if_neg (by omega),if_pos (by omega)]at hx
 by_cases hn:re.n<0∨5<re.n
 ·rw[if_pos hn]at hx;cases hx
 rw[if_neg hn]at hx
 cases hx
 have has:=Af re.n m1.t p.at_ (by omega) (by omega) t1 g5 t2
 simp only[i64,bV]at has
 cases hT:m1.bq with
 |false =>
  have hM:=cB m1 b a (.d (ay m1.t)) rfl
  rw[mT hT]at aH ⊢
  unfold aB.aF aB.aA at aH
  simp only[zM,aR]at aH
  unfold aB.aF aB.aA
  simp only[ay]at has
  refine av func118 rfl ntmps118 results118 rfl 3 158456325028528677386111158247 (by simp) (by simp) ?_
  simp only[zX,simprocAttr,-Int.reduceNatCast',zM,aR,aG.d,Re.ae,d4]
  refine aj (aH _) (fun v s' hv=>?_);obtain⟨rfl,rfl⟩:=hv
  simp only[zX,simprocAttr,-Int.reduceNatCast',zM,aR,Vs,Re.ae,d1,d2,d3,d5,d6,d7,d8,d9,d10,d11]
  refine an mix [] [(0,[3],[]),(2,[0],[]),(3,[0],[]),(4,[0],[]),(6,[0],[]),(7,[0],[]),(8,[0],[]),(9,[3],[]),(10,[3],[]),(12,[4],[4])] (by rfl) ?_
  simp only[zX,simprocAttr,-Int.reduceNatCast',zM,aR,ay,Re.ae]
  refine cz has rfl rfl ?_
  simp only[zX,simprocAttr,-Int.reduceNatCast',zM,aR]
  first|exact⟨hM,rfl⟩|exact hM
 |true =>
  have hM:=cB m1 b a (.so 2 m1.ew 0 m1.t.length) rfl
  have tZ:=t3 hT
  rw[lb hT]at aH ⊢
  unfold aB.aF aB.aA at aH
  simp only[zM,aR]at aH
  unfold aB.aF aB.aA
  refine av func118 rfl ntmps118 results118 rfl 3 158456325028528677386111158247 (by simp) (by simp) ?_
  simp only[zX,simprocAttr,-Int.reduceNatCast',zM,aR,aG.d,Re.ae,d4]
  refine aj (aH _) (fun v s' hv=>?_);obtain⟨rfl,rfl⟩:=hv
  simp only[zX,simprocAttr,-Int.reduceNatCast',zM,aR,Vs,Re.ae,d1,d2,d3,d5,d6,d7,d8,d9,d10,d11]
  refine an mix [] [(0,[3],[]),(2,[0],[]),(3,[0],[]),(4,[0],[]),(6,[0],[]),(7,[0],[]),(8,[0],[]),(9,[3],[]),(10,[3],[]),(11,[2],[]),(12,[4],[4])] (by rfl) ?_
  simp only[zX,simprocAttr,-Int.reduceNatCast',zM,aR,Re.ae]
  refine vm has tZ rfl ?_
  simp only[zX,simprocAttr,-Int.reduceNatCast',zM,aR]
  first|exact⟨hM,rfl⟩|exact hM
theorem yF {k:Nat} (ih:bz k) (g b a:Nat) (m:aB) (p:ao) (hm:m.cX p) (cC:m.p.re.set.length≤1000000000) (cJ:m.p.re.kids.length≤1000000000) (ho:m.p.re.op=11) (hf:¬m.fuel≤m.steps) {x:Rs} (hx:bj (fun m base p=>aQ k true m base p true) m .root p=some x) :
  az prog 118 [.pp 0 g 0 0 b a,.d ((aG.root).d b a),p.v b a] (m.aF g b a) fun v s=>v=aR b a x.2.1 x.2.2∧s=x.1.aF g b a:=by
 obtain⟨⟨g1,g2,g3,g4⟩,⟨g5,g6,g7⟩,g8,g9⟩:=hm
 unfold bj at hx
 simp only[aB.lit]at hx
 rw[if_neg (by omega)]at hx
 have d4:decide (m.p.re.op=4)=false:=decide_eq_false (by omega)
 have aH:=fun ext=>br (cR g b a m g1 g2) rfl rfl rfl ext
 have eD:=m.eZ
 have bC:=m.dI
 rw[if_neg (by omega),if_neg hf]at hx
 have hd:decide (m.steps<m.fuel)=true:=decide_eq_true (by omega)
 simp only[hd]at aH
 have t1:m.step.t.length≤1000000:=by rw[bC.t];exact g8
 have t2:p.at_≤m.step.t.length:=by rw[bC.t];exact g6
 have t3:m.step.same:=fun h=>by rw[bC.own,bC.t];exact g9 (by rw[← bC.bq];exact h)
 generalize ly:m.step=m1 at *
 rw[← eD]at cC cJ ho hx
 obtain⟨d1,d2,d3,_,d5,d6,d7,d8,d9,d10,d11⟩:=MW (o:=m1.p.re.op) (by omega)
 rw[if_neg (by omega),if_neg (by omega),if_neg (by omega),if_neg (by omega),if_neg (by omega),if_neg (by omega),if_neg (by omega),if_neg (by omega),if_pos (by omega)]at hx
 by_cases hn:m1.p.re.n<0∨5<m1.p.re.n
 ·rw[if_pos hn]at hx;cases hx
 rw[if_neg hn]at hx
 cases hx
 have has:=Af m1.p.re.n m1.t p.at_ (by omega) (by omega) t1 g5 t2
 simp only[i64,bV]at has
 cases hT:m1.bq with
 |false =>
  have hM:=cB m1 b a (.d (ay m1.t)) rfl
  rw[mT hT]at aH ⊢
  unfold aB.aF aB.aA at aH
  simp only[zM,aR]at aH
  unfold aB.aF aB.aA
  simp only[ay]at has
  refine av func118 rfl ntmps118 results118 rfl 3 158456325028528677386111158247 (by simp) (by simp) ?_
  simp only[zX,simprocAttr,-Int.reduceNatCast',zM,aR,aG.d,Re.ae,d4]
  refine aj (aH _) (fun v s' hv=>?_);obtain⟨rfl,rfl⟩:=hv
  simp only[zX,simprocAttr,-Int.reduceNatCast',zM,aR,Vs,Re.ae,d1,d2,d3,d5,d6,d7,d8,d9,d10,d11]
  refine an mix [] [(0,[3],[]),(2,[0],[]),(3,[0],[]),(4,[0],[]),(6,[0],[]),(7,[0],[]),(8,[0],[]),(9,[3],[]),(10,[3],[]),(12,[4],[4])] (by rfl) ?_
  simp only[zX,simprocAttr,-Int.reduceNatCast',zM,aR,ay,Re.ae]
  refine cz has rfl rfl ?_
  simp only[zX,simprocAttr,-Int.reduceNatCast',zM,aR]
  first|exact⟨hM,rfl⟩|exact hM
 |true =>
  have hM:=cB m1 b a (.so 2 m1.ew 0 m1.t.length) rfl
  have tZ:=t3 hT
  rw[lb hT]at aH ⊢
  unfold aB.aF aB.aA at aH
  simp only[zM,aR]at aH
  unfold aB.aF aB.aA
  refine av func118 rfl ntmps118 results118 rfl 3 158456325028528677386111158247 (by simp) (by simp) ?_
  simp only[zX,simprocAttr,-Int.reduceNatCast',zM,aR,aG.d,Re.ae,d4]
  refine aj (aH _) (fun v s' hv=>?_);obtain⟨rfl,rfl⟩:=hv
  simp only[zX,simprocAttr,-Int.reduceNatCast',zM,aR,Vs,Re.ae,d1,d2,d3,d5,d6,d7,d8,d9,d10,d11]
  refine an mix [] [(0,[3],[]),(2,[0],[]),(3,[0],[]),(4,[0],[]),(6,[0],[]),(7,[0],[]),(8,[0],[]),(9,[3],[]),(10,[3],[]),(11,[2],[]),(12,[4],[4])] (by rfl) ?_
  simp only[zX,simprocAttr,-Int.reduceNatCast',zM,aR,Re.ae]
  refine vm has tZ rfl ?_
  simp only[zX,simprocAttr,-Int.reduceNatCast',zM,aR]
  first|exact⟨hM,rfl⟩|exact hM
theorem Az {k:Nat} (ih:bz k) (g b a:Nat) (m:aB) (re:Re) (p:ao) (hm:m.cX p) (cC:re.set.length≤1000000000) (cJ:re.kids.length≤1000000000) (ho:re.op<1∨11<re.op) (hf:¬m.fuel≤m.steps) {x:Rs} (hx:bj (fun m base p=>aQ k true m base p true) m (.el re) p=some x) :
  az prog 118 [.pp 0 g 0 0 b a,.d ((aG.el re).d b a),p.v b a] (m.aF g b a) fun v s=>v=aR b a x.2.1 x.2.2∧s=x.1.aF g b a:=by
 obtain⟨⟨g1,g2,g3,g4⟩,⟨g5,g6,g7⟩,g8,g9⟩:=hm
 unfold bj at hx
 simp only[aB.lit]at hx
 rw[if_neg (by omega)]at hx
 have d4:decide (re.op=4)=false:=decide_eq_false (by omega)
 have aH:=fun ext=>br (cR g b a m g1 g2) rfl rfl rfl ext
 have eD:=m.eZ
 have bC:=m.dI
 rw[if_neg (by omega),if_neg hf]at hx
 have hd:decide (m.steps<m.fuel)=true:=decide_eq_true (by omega)
 simp only[hd]at aH
 have t1:m.step.t.length≤1000000:=by rw[bC.t];exact g8
 have t2:p.at_≤m.step.t.length:=by rw[bC.t];exact g6
 have t3:m.step.same:=fun h=>by rw[bC.own,bC.t];exact g9 (by rw[← bC.bq];exact h)
 generalize ly:m.step=m1 at *
 have d1:decide (re.op=1)=false:=decide_eq_false (by omega)
 have d2:decide (re.op=2)=false:=decide_eq_false (by omega)
 have d3:decide (re.op=3)=false:=decide_eq_false (by omega)
 have d5:decide (re.op=5)=false:=decide_eq_false (by omega)
 have d6:decide (re.op=6)=false:=decide_eq_false (by omega)
 have d7:decide (re.op=7)=false:=decide_eq_false (by omega)
 have d8:decide (re.op=8)=false:=decide_eq_false (by omega)
 have d9:decide (re.op=9)=false:=decide_eq_false (by omega)
 have d10:decide (re.op=10)=false:=decide_eq_false (by omega)
 have d11:decide (re.op=11)=false:=decide_eq_false (by omega)
 rw[if_neg (by omega),if_neg (by omega),if_neg (by omega),if_neg (by omega),if_neg (by omega),if_neg (by omega),if_neg (by omega),if_neg (by omega),if_neg (by omega)]at hx
 cases hx
 unfold aB.aF aB.aA at aH
 simp only[zM,aR]at aH
 unfold aB.aF aB.aA
 refine av func118 rfl ntmps118 results118 rfl 3 158456325028528677386111158247 (by simp) (by simp) ?_
 simp only[zX,simprocAttr,-Int.reduceNatCast',zM,aR,aG.d,Re.ae,d4]
 refine aj (aH _) (fun v s' hv=>?_);obtain⟨rfl,rfl⟩:=hv
 simp only[zX,simprocAttr,-Int.reduceNatCast',zM,aR,Vs,Re.ae,d1,d2,d3,d5,d6,d7,d8,d9,d10,d11]
 first
  |(refine⟨ak m1 b a,?_⟩;simp only[zM,aR,iA,eo,aI.d,aG.d,Re.ae];done)
  |exact⟨ak m1 b a,rfl⟩
  |exact ak m1 b a
theorem xD {k:Nat} (ih:bz k) (g b a:Nat) (m:aB) (p:ao) (hm:m.cX p) (cC:m.p.re.set.length≤1000000000) (cJ:m.p.re.kids.length≤1000000000) (ho:m.p.re.op<1∨11<m.p.re.op) (hf:¬m.fuel≤m.steps) {x:Rs} (hx:bj (fun m base p=>aQ k true m base p true) m .root p=some x) :
  az prog 118 [.pp 0 g 0 0 b a,.d ((aG.root).d b a),p.v b a] (m.aF g b a) fun v s=>v=aR b a x.2.1 x.2.2∧s=x.1.aF g b a:=by
 obtain⟨⟨g1,g2,g3,g4⟩,⟨g5,g6,g7⟩,g8,g9⟩:=hm
 unfold bj at hx
 simp only[aB.lit]at hx
 rw[if_neg (by omega)]at hx
 have d4:decide (m.p.re.op=4)=false:=decide_eq_false (by omega)
 have aH:=fun ext=>br (cR g b a m g1 g2) rfl rfl rfl ext
 have eD:=m.eZ
 have bC:=m.dI
 rw[if_neg (by omega),if_neg hf]at hx
 have hd:decide (m.steps<m.fuel)=true:=decide_eq_true (by omega)
 simp only[hd]at aH
 have t1:m.step.t.length≤1000000:=by rw[bC.t];exact g8
 have t2:p.at_≤m.step.t.length:=by rw[bC.t];exact g6
 have t3:m.step.same:=fun h=>by rw[bC.own,bC.t];exact g9 (by rw[← bC.bq];exact h)
 generalize ly:m.step=m1 at *
 rw[← eD]at cC cJ ho hx
 have d1:decide (m1.p.re.op=1)=false:=decide_eq_false (by omega)
 have d2:decide (m1.p.re.op=2)=false:=decide_eq_false (by omega)
 have d3:decide (m1.p.re.op=3)=false:=decide_eq_false (by omega)
 have d5:decide (m1.p.re.op=5)=false:=decide_eq_false (by omega)
 have d6:decide (m1.p.re.op=6)=false:=decide_eq_false (by omega)
 have d7:decide (m1.p.re.op=7)=false:=decide_eq_false (by omega)
 have d8:decide (m1.p.re.op=8)=false:=decide_eq_false (by omega)
 have d9:decide (m1.p.re.op=9)=false:=decide_eq_false (by omega)
 have d10:decide (m1.p.re.op=10)=false:=decide_eq_false (by omega)
 have d11:decide (m1.p.re.op=11)=false:=decide_eq_false (by omega)
 rw[if_neg (by omega),if_neg (by omega),if_neg (by omega),if_neg (by omega),if_neg (by omega),if_neg (by omega),if_neg (by omega),if_neg (by omega),if_neg (by omega)]at hx
 cases hx
 unfold aB.aF aB.aA at aH
 simp only[zM,aR]at aH
 unfold aB.aF aB.aA
 refine av func118 rfl ntmps118 results118 rfl 3 158456325028528677386111158247 (by simp) (by simp) ?_
 simp only[zX,simprocAttr,-Int.reduceNatCast',zM,aR,aG.d,Re.ae,d4]
 refine aj (aH _) (fun v s' hv=>?_);obtain⟨rfl,rfl⟩:=hv
 simp only[zX,simprocAttr,-Int.reduceNatCast',zM,aR,Vs,Re.ae,d1,d2,d3,d5,d6,d7,d8,d9,d10,d11]
 first
  |(refine⟨ak m1 b a,?_⟩;simp only[zM,aR,iA,eo,aI.d,aG.d,Re.ae];done)
  |exact⟨ak m1 b a,rfl⟩
  |exact ak m1 b a
end Go.Proofs.Ytllagoeijcjpiaa
