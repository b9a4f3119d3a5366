/- A part of the proof (G35). -/
import Derived.Test.YtmihcpdhcillaaaGreatBG42
set_option linter.unusedSimpArgs false
set_option linter.unusedVariables false
set_option maxRecDepth 100000
set_option maxHeartbeats 80000000
namespace Go.Proofs.YtmihcpdhcillaaaGreat
open Go.VL Go.Proofs.Tryz
theorem vC {og:Nat}{own t:List Int}{x y:Int}{r:Bool}{s:List VL.Obj}{K:V→List VL.Obj→Prop} (h:br prog 93 [.d (.sc (.int .i64 x)),.d (aB t),.d (.sc (.int .i64 y))] (.d (.sc (.bool r)))) (ht:own=t)
  (hs:s[2]?=some ⟨og,true,1,own.map fun x=>[V.d (.sc (.int .i64 x))]⟩) (hk:K (.d (.sc (.bool r))) s) :
  mq prog [2] [] 93 [.d (.sc (.int .i64 x)),.so 2 og 0 t.length,.d (.sc (.int .i64 y))] s K:=by
 refine⟨_,[],rfl,fun s' hl hr=>?_,hk⟩
 have ra:s'[2]?=some ⟨og,true,1,own.map fun x=>[V.d (.sc (.int .i64 x))]⟩:=by rw[hr 2 (by simp)];exact hs
 refine fK [2] h ?_ rfl ⟨rfl,rfl⟩
 have od:(aM s' [2])[2]?=some ⟨og,false,1,own.map fun x=>[V.d (iD x)]⟩:=by
  simp only[aM,bf,ra]
  rw[XK (List.getElem?_eq_some_iff.1 ra).1]
  rfl
 have:=gU (cE:=(aM s' [2]).length) (own:=own) od (show 0+t.length≤own.length by rw[ht];omega)
 rw[X1,ht,XA]at this
 simp only[aR.go,this]
 rfl
theorem Fu {k:Nat} (ih:bw k) (g b a:Nat) (m:aC) (re:Re) (p:aA) (hm:m.cn p) (cC:re.set.length≤1000000000) (cz:re.kids.length≤1000000000) (ho:re.op=6) (hf:¬m.fuel≤m.steps) {x:Rs} (hx:bq (fun m base p=>bh k true m base p true) m (.el re) p=some x) :
  av prog 72 [.pp 0 g 0 0 b a,.d ((aE.el re).d b a),p.v b a] (m.au g b a) fun v s=>v=aJ b a x.2.1 x.2.2∧s=x.1.au g b a:=by
 obtain⟨⟨g1,g2,g3,g4⟩,⟨g5,g6,g7⟩,g8,g9⟩:=hm
 unfold bq at hx
 simp only[aC.lit]at hx
 rw[if_neg (by omega)]at hx
 have d4:decide (re.op=4)=false:=decide_eq_false (by omega)
 have aW:=fun ext=>bn (cI g b a m g1 g2) rfl rfl rfl ext
 have dr:=m.eR
 have bE:=m.dI
 rw[if_neg (by omega),if_neg hf]at hx
 have hd:decide (m.steps<m.fuel)=true:=decide_eq_true (by omega)
 simp only[hd]at aW
 have t1:m.step.t.length≤1000000:=by rw[bE.t];exact g8
 have t2:p.at_≤m.step.t.length:=by rw[bE.t];exact g6
 have t3:m.step.same:=fun h=>by rw[bE.own,bE.t];exact g9 (by rw[← bE.bB];exact h)
 generalize rF:m.step=m1 at *
 obtain⟨d1,d2,d3,_,d5,d6,d7,d8,d9,d10,d11⟩:=P3 (o:=re.op) (by omega)
 rw[if_neg (by omega),if_neg (by omega),if_neg (by omega),if_neg (by omega),if_pos (by omega)]at hx
 cases hr:CL m1.t re p with
 |none=>rw[hr]at hx;cases hx
 |some y =>
 rw[hr]at hx
 cases hx
 have cK:=fun ext=>bn (F9 g b a m1 (.el re) re p rfl hr g7 g5 t2 t1 t3) rfl rfl rfl ext
 obtain⟨y1,y2⟩:=y
 unfold aC.au aC.az at cK
 simp only[zM,aJ,aG.d,aE.d,Re.ae]at cK
 unfold aC.au aC.az at aW
 simp only[zM,aJ]at aW
 unfold aC.au aC.az
 refine aw func72 rfl ntmps72 results72 rfl 3 158456325028528677386111158247 (by simp) (by simp) ?_
 simp only[zX,simprocAttr,-Int.reduceNatCast',zM,aJ,aE.d,Re.ae,d4]
 refine aj (aW _) (fun v s' hv=>?_);obtain⟨rfl,rfl⟩:=hv
 simp only[zX,simprocAttr,-Int.reduceNatCast',zM,aJ,WY,Re.ae,d1,d2,d3,d5,d6,d7,d8,d9,d10,d11]
 refine aj (cK _) (fun v s' hv=>?_);obtain⟨rfl,rfl⟩:=hv
 simp only[zX,simprocAttr,-Int.reduceNatCast',zM,aJ]
 first
  |(refine⟨an m1 b a,?_⟩;simp only[zM,aJ,jw,eH,aG.d,aE.d,Re.ae];done)
  |exact⟨an m1 b a,rfl⟩
  |exact an m1 b a
theorem A0 {k:Nat} (ih:bw k) (g b a:Nat) (m:aC) (p:aA) (hm:m.cn p) (cC:m.p.re.set.length≤1000000000) (cz:m.p.re.kids.length≤1000000000) (ho:m.p.re.op=6) (hf:¬m.fuel≤m.steps) {x:Rs} (hx:bq (fun m base p=>bh k true m base p true) m .root p=some x) :
  av prog 72 [.pp 0 g 0 0 b a,.d ((aE.root).d b a),p.v b a] (m.au g b a) fun v s=>v=aJ b a x.2.1 x.2.2∧s=x.1.au g b a:=by
 obtain⟨⟨g1,g2,g3,g4⟩,⟨g5,g6,g7⟩,g8,g9⟩:=hm
 unfold bq at hx
 simp only[aC.lit]at hx
 rw[if_neg (by omega)]at hx
 have d4:decide (m.p.re.op=4)=false:=decide_eq_false (by omega)
 have aW:=fun ext=>bn (cI g b a m g1 g2) rfl rfl rfl ext
 have dr:=m.eR
 have bE:=m.dI
 rw[if_neg (by omega),if_neg hf]at hx
 have hd:decide (m.steps<m.fuel)=true:=decide_eq_true (by omega)
 simp only[hd]at aW
 have t1:m.step.t.length≤1000000:=by rw[bE.t];exact g8
 have t2:p.at_≤m.step.t.length:=by rw[bE.t];exact g6
 have t3:m.step.same:=fun h=>by rw[bE.own,bE.t];exact g9 (by rw[← bE.bB];exact h)
 generalize rF:m.step=m1 at *
 rw[← dr]at cC cz ho hx
 obtain⟨d1,d2,d3,_,d5,d6,d7,d8,d9,d10,d11⟩:=P3 (o:=m1.p.re.op) (by omega)
 rw[if_neg (by omega),if_neg (by omega),if_neg (by omega),if_neg (by omega),if_pos (by omega)]at hx
 cases hr:CL m1.t m1.p.re p with
 |none=>rw[hr]at hx;cases hx
 |some y =>
 rw[hr]at hx
 cases hx
 have cK:=fun ext=>bn (F9 g b a m1 .root m1.p.re p rfl hr g7 g5 t2 t1 t3) rfl rfl rfl ext
 obtain⟨y1,y2⟩:=y
 unfold aC.au aC.az at cK
 simp only[zM,aJ,aG.d,aE.d,Re.ae]at cK
 unfold aC.au aC.az at aW
 simp only[zM,aJ]at aW
 unfold aC.au aC.az
 refine aw func72 rfl ntmps72 results72 rfl 3 158456325028528677386111158247 (by simp) (by simp) ?_
 simp only[zX,simprocAttr,-Int.reduceNatCast',zM,aJ,aE.d,Re.ae,d4]
 refine aj (aW _) (fun v s' hv=>?_);obtain⟨rfl,rfl⟩:=hv
 simp only[zX,simprocAttr,-Int.reduceNatCast',zM,aJ,WY,Re.ae,d1,d2,d3,d5,d6,d7,d8,d9,d10,d11]
 refine aj (cK _) (fun v s' hv=>?_);obtain⟨rfl,rfl⟩:=hv
 simp only[zX,simprocAttr,-Int.reduceNatCast',zM,aJ]
 first
  |(refine⟨an m1 b a,?_⟩;simp only[zM,aJ,jw,eH,aG.d,aE.d,Re.ae];done)
  |exact⟨an m1 b a,rfl⟩
  |exact an m1 b a
theorem Fk {k:Nat} (ih:bw k) (g b a:Nat) (m:aC) (re:Re) (p:aA) (hm:m.cn p) (cC:re.set.length≤1000000000) (cz:re.kids.length≤1000000000) (ho:re.op=7) (hf:¬m.fuel≤m.steps) {x:Rs} (hx:bq (fun m base p=>bh k true m base p true) m (.el re) p=some x) :
  av prog 72 [.pp 0 g 0 0 b a,.d ((aE.el re).d b a),p.v b a] (m.au g b a) fun v s=>v=aJ b a x.2.1 x.2.2∧s=x.1.au g b a:=by
 obtain⟨⟨g1,g2,g3,g4⟩,⟨g5,g6,g7⟩,g8,g9⟩:=hm
 unfold bq at hx
 simp only[aC.lit]at hx
 rw[if_neg (by omega)]at hx
 have d4:decide (re.op=4)=false:=decide_eq_false (by omega)
 have aW:=fun ext=>bn (cI g b a m g1 g2) rfl rfl rfl ext
 have dr:=m.eR
 have bE:=m.dI
 rw[if_neg (by omega),if_neg hf]at hx
 have hd:decide (m.steps<m.fuel)=true:=decide_eq_true (by omega)
 simp only[hd]at aW
 have t1:m.step.t.length≤1000000:=by rw[bE.t];exact g8
 have t2:p.at_≤m.step.t.length:=by rw[bE.t];exact g6
 have t3:m.step.same:=fun h=>by rw[bE.own,bE.t];exact g9 (by rw[← bE.bB];exact h)
 generalize rF:m.step=m1 at *
 obtain⟨d1,d2,d3,_,d5,d6,d7,d8,d9,d10,d11⟩:=Qy (o:=re.op) (by omega)
 rw[if_neg (by omega),if_neg (by omega),if_neg (by omega),if_neg (by omega),if_neg (by omega),if_pos (by omega)]at hx
 obtain⟨kid,l,hl⟩:∃kid l,re.kids=kid::l:=by
  cases hh:re.kids with
  |nil=>rw[hh]at hx;cases hx
  |cons y l=>exact⟨y,l,rfl⟩
 rw[hl]at hx
 have cK:=fun ext=>bn (GO ih g b a m1 re p kid l hl g5 (by omega) hx) rfl rfl rfl ext
 obtain⟨m2,y1,y2⟩:=x
 unfold aC.au aC.az at cK
 simp only[zM,aJ,aG.d,aE.d,Re.ae]at cK
 unfold aC.au aC.az at aW
 simp only[zM,aJ]at aW
 unfold aC.au aC.az
 refine aw func72 rfl ntmps72 results72 rfl 3 158456325028528677386111158247 (by simp) (by simp) ?_
 simp only[zX,simprocAttr,-Int.reduceNatCast',zM,aJ,aE.d,Re.ae,d4]
 refine aj (aW _) (fun v s' hv=>?_);obtain⟨rfl,rfl⟩:=hv
 simp only[zX,simprocAttr,-Int.reduceNatCast',zM,aJ,WY,Re.ae,d1,d2,d3,d5,d6,d7,d8,d9,d10,d11]
 refine aj (cK _) (fun v s' hv=>?_);obtain⟨rfl,rfl⟩:=hv
 simp only[zX,simprocAttr,-Int.reduceNatCast',zM,aJ]
 first
  |(refine⟨an m2 b a,?_⟩;simp only[zM,aJ,jw,eH,aG.d,aE.d,Re.ae];done)
  |exact⟨an m2 b a,rfl⟩
  |exact an m2 b a
theorem BB {k:Nat} (ih:bw k) (g b a:Nat) (m:aC) (p:aA) (hm:m.cn p) (cC:m.p.re.set.length≤1000000000) (cz:m.p.re.kids.length≤1000000000) (ho:m.p.re.op=7) (hf:¬m.fuel≤m.steps) {x:Rs} (hx:bq (fun m base p=>bh k true m base p true) m .root p=some x) :
  av prog 72 [.pp 0 g 0 0 b a,.d ((aE.root).d b a),p.v b a] (m.au g b a) fun v s=>v=aJ b a x.2.1 x.2.2∧s=x.1.au g b a:=by
 obtain⟨⟨g1,g2,g3,g4⟩,⟨g5,g6,g7⟩,g8,g9⟩:=hm
 unfold bq at hx
 simp only[aC.lit]at hx
 rw[if_neg (by omega)]at hx
 have d4:decide (m.p.re.op=4)=false:=decide_eq_false (by omega)
 have aW:=fun ext=>bn (cI g b a m g1 g2) rfl rfl rfl ext
 have dr:=m.eR
 have bE:=m.dI
 rw[if_neg (by omega),if_neg hf]at hx
 have hd:decide (m.steps<m.fuel)=true:=decide_eq_true (by omega)
 simp only[hd]at aW
 have t1:m.step.t.length≤1000000:=by rw[bE.t];exact g8
 have t2:p.at_≤m.step.t.length:=by rw[bE.t];exact g6
 have t3:m.step.same:=fun h=>by rw[bE.own,bE.t];exact g9 (by rw[← bE.bB];exact h)
 generalize rF:m.step=m1 at *
 rw[← dr]at cC cz ho hx
 obtain⟨d1,d2,d3,_,d5,d6,d7,d8,d9,d10,d11⟩:=Qy (o:=m1.p.re.op) (by omega)
 rw[if_neg (by omega),if_neg (by omega),if_neg (by omega),if_neg (by omega),if_neg (by omega),if_pos (by omega)]at hx
 obtain⟨kid,l,hl⟩:∃kid l,m1.p.re.kids=kid::l:=by
  cases hh:m1.p.re.kids with
  |nil=>rw[hh]at hx;cases hx
  |cons y l=>exact⟨y,l,rfl⟩
 rw[hl]at hx
 have cK:=fun ext=>bn (AF ih g b a m1 p kid l hl g5 (by omega) hx) rfl rfl rfl ext
 obtain⟨m2,y1,y2⟩:=x
 unfold aC.au aC.az at cK
 simp only[zM,aJ,aG.d,aE.d,Re.ae]at cK
 unfold aC.au aC.az at aW
 simp only[zM,aJ]at aW
 unfold aC.au aC.az
 refine aw func72 rfl ntmps72 results72 rfl 3 158456325028528677386111158247 (by simp) (by simp) ?_
 simp only[zX,simprocAttr,-Int.reduceNatCast',zM,aJ,aE.d,Re.ae,d4]
 refine aj (aW _) (fun v s' hv=>?_);obtain⟨rfl,rfl⟩:=hv
 simp only[zX,simprocAttr,-Int.reduceNatCast',zM,aJ,WY,Re.ae,d1,d2,d3,d5,d6,d7,d8,d9,d10,d11]
 refine aj (cK _) (fun v s' hv=>?_);obtain⟨rfl,rfl⟩:=hv
 simp only[zX,simprocAttr,-Int.reduceNatCast',zM,aJ]
 first
  |(refine⟨an m2 b a,?_⟩;simp only[zM,aJ,jw,eH,aG.d,aE.d,Re.ae];done)
  |exact⟨an m2 b a,rfl⟩
  |exact an m2 b a
theorem Ej {k:Nat} (ih:bw k) (g b a:Nat) (m:aC) (re:Re) (p:aA) (hm:m.cn p) (cC:re.set.length≤1000000000) (cz:re.kids.length≤1000000000) (ho:re.op=8) (hf:¬m.fuel≤m.steps) {x:Rs} (hx:bq (fun m base p=>bh k true m base p true) m (.el re) p=some x) :
  av prog 72 [.pp 0 g 0 0 b a,.d ((aE.el re).d b a),p.v b a] (m.au g b a) fun v s=>v=aJ b a x.2.1 x.2.2∧s=x.1.au g b a:=by
 obtain⟨⟨g1,g2,g3,g4⟩,⟨g5,g6,g7⟩,g8,g9⟩:=hm
 unfold bq at hx
 simp only[aC.lit]at hx
 rw[if_neg (by omega)]at hx
 have d4:decide (re.op=4)=false:=decide_eq_false (by omega)
 have aW:=fun ext=>bn (cI g b a m g1 g2) rfl rfl rfl ext
 have dr:=m.eR
 have bE:=m.dI
 rw[if_neg (by omega),if_neg hf]at hx
 have hd:decide (m.steps<m.fuel)=true:=decide_eq_true (by omega)
 simp only[hd]at aW
 have t1:m.step.t.length≤1000000:=by rw[bE.t];exact g8
 have t2:p.at_≤m.step.t.length:=by rw[bE.t];exact g6
 have t3:m.step.same:=fun h=>by rw[bE.own,bE.t];exact g9 (by rw[← bE.bB];exact h)
 generalize rF:m.step=m1 at *
 obtain⟨d1,d2,d3,_,d5,d6,d7,d8,d9,d10,d11⟩:=Ql (o:=re.op) (by omega)
 rw[if_neg (by omega),if_neg (by omega),if_neg (by omega),if_neg (by omega),if_neg (by omega),if_pos (by omega)]at hx
 obtain⟨kid,l,hl⟩:∃kid l,re.kids=kid::l:=by
  cases hh:re.kids with
  |nil=>rw[hh]at hx;cases hx
  |cons y l=>exact⟨y,l,rfl⟩
 rw[hl]at hx
 have cK:=fun ext=>bn (GO ih g b a m1 re p kid l hl g5 (by omega) hx) rfl rfl rfl ext
 obtain⟨m2,y1,y2⟩:=x
 unfold aC.au aC.az at cK
 simp only[zM,aJ,aG.d,aE.d,Re.ae]at cK
 unfold aC.au aC.az at aW
 simp only[zM,aJ]at aW
 unfold aC.au aC.az
 refine aw func72 rfl ntmps72 results72 rfl 3 158456325028528677386111158247 (by simp) (by simp) ?_
 simp only[zX,simprocAttr,-Int.reduceNatCast',zM,aJ,aE.d,Re.ae,d4]
 refine aj (aW _) (fun v s' hv=>?_);obtain⟨rfl,rfl⟩:=hv
 simp only[zX,simprocAttr,-Int.reduceNatCast',zM,aJ,WY,Re.ae,d1,d2,d3,d5,d6,d7,d8,d9,d10,d11]
 refine aj (cK _) (fun v s' hv=>?_);obtain⟨rfl,rfl⟩:=hv
 simp only[zX,simprocAttr,-Int.reduceNatCast',zM,aJ]
 first
  |(refine⟨an m2 b a,?_⟩;simp only[zM,aJ,jw,eH,aG.d,aE.d,Re.ae];done)
  |exact⟨an m2 b a,rfl⟩
  |exact an m2 b a
theorem A9 {k:Nat} (ih:bw k) (g b a:Nat) (m:aC) (p:aA) (hm:m.cn p) (cC:m.p.re.set.length≤1000000000) (cz:m.p.re.kids.length≤1000000000) (ho:m.p.re.op=8) (hf:¬m.fuel≤m.steps) {x:Rs} (hx:bq (fun m base p=>bh k true m base p true) m .root p=some x) :
  av prog 72 [.pp 0 g 0 0 b a,.d ((aE.root).d b a),p.v b a] (m.au g b a) fun v s=>v=aJ b a x.2.1 x.2.2∧s=x.1.au g b a:=by
 obtain⟨⟨g1,g2,g3,g4⟩,⟨g5,g6,g7⟩,g8,g9⟩:=hm
 unfold bq at hx
 simp only[aC.lit]at hx
 rw[if_neg (by omega)]at hx
 have d4:decide (m.p.re.op=4)=false:=decide_eq_false (by omega)
 have aW:=fun ext=>bn (cI g b a m g1 g2) rfl rfl rfl ext
 have dr:=m.eR
 have bE:=m.dI
 rw[if_neg (by omega),if_neg hf]at hx
 have hd:decide (m.steps<m.fuel)=true:=decide_eq_true (by omega)
 simp only[hd]at aW
 have t1:m.step.t.length≤1000000:=by rw[bE.t];exact g8
 have t2:p.at_≤m.step.t.length:=by rw[bE.t];exact g6
 have t3:m.step.same:=fun h=>by rw[bE.own,bE.t];exact g9 (by rw[← bE.bB];exact h)
 generalize rF:m.step=m1 at *
 rw[← dr]at cC cz ho hx
 obtain⟨d1,d2,d3,_,d5,d6,d7,d8,d9,d10,d11⟩:=Ql (o:=m1.p.re.op) (by omega)
 rw[if_neg (by omega),if_neg (by omega),if_neg (by omega),if_neg (by omega),if_neg (by omega),if_pos (by omega)]at hx
 obtain⟨kid,l,hl⟩:∃kid l,m1.p.re.kids=kid::l:=by
  cases hh:m1.p.re.kids with
  |nil=>rw[hh]at hx;cases hx
  |cons y l=>exact⟨y,l,rfl⟩
 rw[hl]at hx
 have cK:=fun ext=>bn (AF ih g b a m1 p kid l hl g5 (by omega) hx) rfl rfl rfl ext
 obtain⟨m2,y1,y2⟩:=x
 unfold aC.au aC.az at cK
 simp only[zM,aJ,aG.d,aE.d,Re.ae]at cK
 unfold aC.au aC.az at aW
 simp only[zM,aJ]at aW
 unfold aC.au aC.az
 refine aw func72 rfl ntmps72 results72 rfl 3 158456325028528677386111158247 (by simp) (by simp) ?_
 simp only[zX,simprocAttr,-Int.reduceNatCast',zM,aJ,aE.d,Re.ae,d4]
 refine aj (aW _) (fun v s' hv=>?_);obtain⟨rfl,rfl⟩:=hv
 simp only[zX,simprocAttr,-Int.reduceNatCast',zM,aJ,WY,Re.ae,d1,d2,d3,d5,d6,d7,d8,d9,d10,d11]
 refine aj (cK _) (fun v s' hv=>?_);obtain⟨rfl,rfl⟩:=hv
 simp only[zX,simprocAttr,-Int.reduceNatCast',zM,aJ]
 first
  |(refine⟨an m2 b a,?_⟩;simp only[zM,aJ,jw,eH,aG.d,aE.d,Re.ae];done)
  |exact⟨an m2 b a,rfl⟩
  |exact an m2 b a
theorem EB {k:Nat} (ih:bw k) (g b a:Nat) (m:aC) (re:Re) (p:aA) (hm:m.cn p) (cC:re.set.length≤1000000000) (cz:re.kids.length≤1000000000) (ho:re.op=9) (hf:¬m.fuel≤m.steps) {x:Rs} (hx:bq (fun m base p=>bh k true m base p true) m (.el re) p=some x) :
  av prog 72 [.pp 0 g 0 0 b a,.d ((aE.el re).d b a),p.v b a] (m.au g b a) fun v s=>v=aJ b a x.2.1 x.2.2∧s=x.1.au g b a:=by
 obtain⟨⟨g1,g2,g3,g4⟩,⟨g5,g6,g7⟩,g8,g9⟩:=hm
 unfold bq at hx
 simp only[aC.lit]at hx
 rw[if_neg (by omega)]at hx
 have d4:decide (re.op=4)=false:=decide_eq_false (by omega)
 have aW:=fun ext=>bn (cI g b a m g1 g2) rfl rfl rfl ext
 have dr:=m.eR
 have bE:=m.dI
 rw[if_neg (by omega),if_neg hf]at hx
 have hd:decide (m.steps<m.fuel)=true:=decide_eq_true (by omega)
 simp only[hd]at aW
 have t1:m.step.t.length≤1000000:=by rw[bE.t];exact g8
 have t2:p.at_≤m.step.t.length:=by rw[bE.t];exact g6
 have t3:m.step.same:=fun h=>by rw[bE.own,bE.t];exact g9 (by rw[← bE.bB];exact h)
 generalize rF:m.step=m1 at *
 obtain⟨d1,d2,d3,_,d5,d6,d7,d8,d9,d10,d11⟩:=P1 (o:=re.op) (by omega)
 rw[if_neg (by omega),if_neg (by omega),if_neg (by omega),if_neg (by omega),if_neg (by omega),if_neg (by omega),if_pos (by omega)]at hx
 obtain⟨kid,l,hl⟩:∃kid l,re.kids=kid::l:=by
  cases hh:re.kids with
  |nil=>rw[hh]at hx;cases hx
  |cons y l=>exact⟨y,l,rfl⟩
 rw[hl]at hx
 have hk:re.kids[0]?=some kid:=by rw[hl];rfl
 have eh:(0:Int)<(re.kids.length:Int):=by rw[hl,W3];omega
 have yT:=fJ b a (.el kid) .nil
 simp only[aG.d,aE.d,Re.ae,iD,bD]at yT
 have cK:=fun ext=>bn (qn ih g b a m1 p _ hx) rfl rfl rfl ext
 obtain⟨m2,y1,y2⟩:=x
 unfold aC.au aC.az at cK
 simp only[zM,aJ,aG.d,aE.d,Re.ae]at cK
 unfold aC.au aC.az at aW
 simp only[zM,aJ]at aW
 unfold aC.au aC.az
 refine aw func72 rfl ntmps72 results72 rfl 3 158456325028528677386111158247 (by simp) (by simp) ?_
 simp only[zX,simprocAttr,-Int.reduceNatCast',zM,aJ,aE.d,Re.ae,d4]
 refine aj (aW _) (fun v s' hv=>?_);obtain⟨rfl,rfl⟩:=hv
 simp only[zX,simprocAttr,-Int.reduceNatCast',zM,aJ,WY,Re.ae,d1,d2,d3,d5,d6,d7,d8,d9,d10,d11]
 refine aq mix [8] [(1,[3],[]),(3,[0],[]),(4,[0],[]),(5,[0],[]),(11,[4],[4])] (by rfl) ?_
 simp only[zX,simprocAttr,-Int.reduceNatCast',zM,aJ,Re.ae,eh,hk]
 refine cP yT rfl rfl ?_
 simp only[zX,simprocAttr,-Int.reduceNatCast',zM,aJ,Re.ae]
 refine bu (cK _) ?_
 simp only[zX,simprocAttr,-Int.reduceNatCast',zM,aJ]
 first
  |(refine⟨an m2 b a,?_⟩;simp only[zM,aJ,jw,eH,aG.d,aE.d,Re.ae];done)
  |exact⟨an m2 b a,rfl⟩
  |exact an m2 b a
theorem A8 {k:Nat} (ih:bw k) (g b a:Nat) (m:aC) (p:aA) (hm:m.cn p) (cC:m.p.re.set.length≤1000000000) (cz:m.p.re.kids.length≤1000000000) (ho:m.p.re.op=9) (hf:¬m.fuel≤m.steps) {x:Rs} (hx:bq (fun m base p=>bh k true m base p true) m .root p=some x) :
  av prog 72 [.pp 0 g 0 0 b a,.d ((aE.root).d b a),p.v b a] (m.au g b a) fun v s=>v=aJ b a x.2.1 x.2.2∧s=x.1.au g b a:=by
 obtain⟨⟨g1,g2,g3,g4⟩,⟨g5,g6,g7⟩,g8,g9⟩:=hm
 unfold bq at hx
 simp only[aC.lit]at hx
 rw[if_neg (by omega)]at hx
 have d4:decide (m.p.re.op=4)=false:=decide_eq_false (by omega)
 have aW:=fun ext=>bn (cI g b a m g1 g2) rfl rfl rfl ext
 have dr:=m.eR
 have bE:=m.dI
 rw[if_neg (by omega),if_neg hf]at hx
 have hd:decide (m.steps<m.fuel)=true:=decide_eq_true (by omega)
 simp only[hd]at aW
 have t1:m.step.t.length≤1000000:=by rw[bE.t];exact g8
 have t2:p.at_≤m.step.t.length:=by rw[bE.t];exact g6
 have t3:m.step.same:=fun h=>by rw[bE.own,bE.t];exact g9 (by rw[← bE.bB];exact h)
 generalize rF:m.step=m1 at *
 rw[← dr]at cC cz ho hx
 obtain⟨d1,d2,d3,_,d5,d6,d7,d8,d9,d10,d11⟩:=P1 (o:=m1.p.re.op) (by omega)
 rw[if_neg (by omega),if_neg (by omega),if_neg (by omega),if_neg (by omega),if_neg (by omega),if_neg (by omega),if_pos (by omega)]at hx
 obtain⟨kid,l,hl⟩:∃kid l,m1.p.re.kids=kid::l:=by
  cases hh:m1.p.re.kids with
  |nil=>rw[hh]at hx;cases hx
  |cons y l=>exact⟨y,l,rfl⟩
 rw[hl]at hx
 have hk:m1.p.re.kids[0]?=some kid:=by rw[hl];rfl
 have eh:(0:Int)<(m1.p.re.kids.length:Int):=by rw[hl,W3];omega
 have yT:=fJ b a (.el kid) .nil
 simp only[aG.d,aE.d,Re.ae,iD,bD]at yT
 have cK:=fun ext=>bn (qn ih g b a m1 p _ hx) rfl rfl rfl ext
 obtain⟨m2,y1,y2⟩:=x
 unfold aC.au aC.az at cK
 simp only[zM,aJ,aG.d,aE.d,Re.ae]at cK
 unfold aC.au aC.az at aW
 simp only[zM,aJ]at aW
 unfold aC.au aC.az
 refine aw func72 rfl ntmps72 results72 rfl 3 158456325028528677386111158247 (by simp) (by simp) ?_
 simp only[zX,simprocAttr,-Int.reduceNatCast',zM,aJ,aE.d,Re.ae,d4]
 refine aj (aW _) (fun v s' hv=>?_);obtain⟨rfl,rfl⟩:=hv
 simp only[zX,simprocAttr,-Int.reduceNatCast',zM,aJ,WY,Re.ae,d1,d2,d3,d5,d6,d7,d8,d9,d10,d11]
 refine aq mix [8] [(1,[3],[]),(3,[0],[]),(4,[0],[]),(5,[0],[]),(11,[4],[4])] (by rfl) ?_
 simp only[zX,simprocAttr,-Int.reduceNatCast',zM,aJ,Re.ae,eh,hk]
 refine cP yT rfl rfl ?_
 simp only[zX,simprocAttr,-Int.reduceNatCast',zM,aJ,Re.ae]
 refine bu (cK _) ?_
 simp only[zX,simprocAttr,-Int.reduceNatCast',zM,aJ]
 first
  |(refine⟨an m2 b a,?_⟩;simp only[zM,aJ,jw,eH,aG.d,aE.d,Re.ae];done)
  |exact⟨an m2 b a,rfl⟩
  |exact an m2 b a
theorem Dt {k:Nat} (ih:bw k) (g b a:Nat) (m:aC) (re:Re) (p:aA) (hm:m.cn p) (cC:re.set.length≤1000000000) (cz:re.kids.length≤1000000000) (ho:re.op=10) (hf:¬m.fuel≤m.steps) {x:Rs} (hx:bq (fun m base p=>bh k true m base p true) m (.el re) p=some x) :
  av prog 72 [.pp 0 g 0 0 b a,.d ((aE.el re).d b a),p.v b a] (m.au g b a) fun v s=>v=aJ b a x.2.1 x.2.2∧s=x.1.au g b a:=by
 obtain⟨⟨g1,g2,g3,g4⟩,⟨g5,g6,g7⟩,g8,g9⟩:=hm
 unfold bq at hx
 simp only[aC.lit]at hx
 rw[if_neg (by omega)]at hx
 have d4:decide (re.op=4)=false:=decide_eq_false (by omega)
 have aW:=fun ext=>bn (cI g b a m g1 g2) rfl rfl rfl ext
 have dr:=m.eR
 have bE:=m.dI
 rw[if_neg (by omega),if_neg hf]at hx
 have hd:decide (m.steps<m.fuel)=true:=decide_eq_true (by omega)
 simp only[hd]at aW
 have t1:m.step.t.length≤1000000:=by rw[bE.t];exact g8
 have t2:p.at_≤m.step.t.length:=by rw[bE.t];exact g6
 have t3:m.step.same:=fun h=>by rw[bE.own,bE.t];exact g9 (by rw[← bE.bB];exact h)
 generalize rF:m.step=m1 at *
 obtain⟨d1,d2,d3,_,d5,d6,d7,d8,d9,d10,d11⟩:=NM (o:=re.op) (by omega)
 rw[if_neg (by omega),if_neg (by omega),if_neg (by omega),if_neg (by omega),if_neg (by omega),if_neg (by omega),if_neg (by omega),if_pos (by omega)]at hx
 obtain⟨yes,no,l,hl⟩:∃yes no l,re.kids=yes::no::l:=by
  cases hh:re.kids with
  |nil=>rw[hh]at hx;cases hx
  |cons y l=>cases l with
   |nil=>rw[hh]at hx;cases hx
   |cons y' l=>exact⟨y,y',l,rfl⟩
 rw[hl]at hx
 simp only at hx
 have hk0:re.kids[0]?=some yes:=by rw[hl];rfl
 have jT:re.kids[1]?=some no:=by rw[hl];rfl
 have eh:(0:Int)<(re.kids.length:Int):=by rw[hl,W3];omega
 have Bf:(1:Int)<(re.kids.length:Int):=by rw[hl,W3,W3];omega
 by_cases hn:re.n<1∨(p.ak.length:Int)<re.n
 ·rw[if_pos hn]at hx;cases hx
 rw[if_neg hn]at hx
 obtain⟨y,fC⟩:∃y,p.ak[(re.n-1).toNat]?=some y:=⟨_,WZ (by omega)⟩
 rw[getD_some fC]at hx
 obtain⟨y1,y2⟩:=y
 simp only at hx
 have w0:IntKind.i64.wrap (re.n-1)=re.n-1:=bU _ (by omega)
 have nj:0≤re.n-1:=by omega
 have fY:re.n-1<(p.ak.length:Int):=by omega
 by_cases cx:0≤y1
 ·skip
  rw[if_pos cx]at hx
  cases hx
  unfold aC.au aC.az at aW
  simp only[zM,aJ]at aW
  unfold aC.au aC.az
  refine aw func72 rfl ntmps72 results72 rfl 3 158456325028528677386111158247 (by simp) (by simp) ?_
  simp only[zX,simprocAttr,-Int.reduceNatCast',zM,aJ,aE.d,Re.ae,d4]
  refine aj (aW _) (fun v s' hv=>?_);obtain⟨rfl,rfl⟩:=hv
  simp only[zX,simprocAttr,-Int.reduceNatCast',zM,aJ,WY,Re.ae,d1,d2,d3,d5,d6,d7,d8,d9,d10,d11,Bf,jT]
  refine aq mix [] [(0,[3],[]),(1,[3],[]),(3,[0],[]),(4,[0],[]),(5,[0],[])] (by rfl) ?_
  simp only[zX,simprocAttr,-Int.reduceNatCast',zM,aJ,Re.ae,w0,nj,fY,fC,bH,aT]
  refine⟨by decide,?_⟩
  simp only[zX,simprocAttr,-Int.reduceNatCast',zM,aJ,Re.ae,cx,ge_iff_le,eh,hk0]
  refine eJ rfl ?_
  simp only[zX,simprocAttr,-Int.reduceNatCast',zM,aJ]
  first
   |(refine⟨an m1 b a,?_⟩;simp only[zM,aJ,jw,eH,bH,aT,aG.d,aE.d,Re.ae];done)
   |exact⟨an m1 b a,rfl⟩
   |exact an m1 b a
 ·skip
  rw[if_neg cx]at hx
  cases hx
  unfold aC.au aC.az at aW
  simp only[zM,aJ]at aW
  unfold aC.au aC.az
  refine aw func72 rfl ntmps72 results72 rfl 3 158456325028528677386111158247 (by simp) (by simp) ?_
  simp only[zX,simprocAttr,-Int.reduceNatCast',zM,aJ,aE.d,Re.ae,d4]
  refine aj (aW _) (fun v s' hv=>?_);obtain⟨rfl,rfl⟩:=hv
  simp only[zX,simprocAttr,-Int.reduceNatCast',zM,aJ,WY,Re.ae,d1,d2,d3,d5,d6,d7,d8,d9,d10,d11,Bf,jT]
  refine aq mix [] [(0,[3],[]),(1,[3],[]),(3,[0],[]),(4,[0],[]),(5,[0],[])] (by rfl) ?_
  simp only[zX,simprocAttr,-Int.reduceNatCast',zM,aJ,Re.ae,w0,nj,fY,fC,bH,aT]
  refine⟨by decide,?_⟩
  simp only[zX,simprocAttr,-Int.reduceNatCast',zM,aJ,Re.ae,cx,ge_iff_le,eh,hk0]
  refine eJ rfl ?_
  simp only[zX,simprocAttr,-Int.reduceNatCast',zM,aJ]
  first
   |(refine⟨an m1 b a,?_⟩;simp only[zM,aJ,jw,eH,bH,aT,aG.d,aE.d,Re.ae];done)
   |exact⟨an m1 b a,rfl⟩
   |exact an m1 b a
theorem y9 {k:Nat} (ih:bw k) (g b a:Nat) (m:aC) (p:aA) (hm:m.cn p) (cC:m.p.re.set.length≤1000000000) (cz:m.p.re.kids.length≤1000000000) (ho:m.p.re.op=10) (hf:¬m.fuel≤m.steps) {x:Rs} (hx:bq (fun m base p=>bh k true m base p true) m .root p=some x) :
  av prog 72 [.pp 0 g 0 0 b a,.d ((aE.root).d b a),p.v b a] (m.au g b a) fun v s=>v=aJ b a x.2.1 x.2.2∧s=x.1.au g b a:=by
 obtain⟨⟨g1,g2,g3,g4⟩,⟨g5,g6,g7⟩,g8,g9⟩:=hm
 unfold bq at hx
 simp only[aC.lit]at hx
 rw[if_neg (by omega)]at hx
 have d4:decide (m.p.re.op=4)=false:=decide_eq_false (by omega)
 have aW:=fun ext=>bn (cI g b a m g1 g2) rfl rfl rfl ext
 have dr:=m.eR
 have bE:=m.dI
 rw[if_neg (by omega),if_neg hf]at hx
 have hd:decide (m.steps<m.fuel)=true:=decide_eq_true (by omega)
 simp only[hd]at aW
 have t1:m.step.t.length≤1000000:=by rw[bE.t];exact g8
 have t2:p.at_≤m.step.t.length:=by rw[bE.t];exact g6
 have t3:m.step.same:=fun h=>by rw[bE.own,bE.t];exact g9 (by rw[← bE.bB];exact h)
 generalize rF:m.step=m1 at *
 rw[← dr]at cC cz ho hx
 obtain⟨d1,d2,d3,_,d5,d6,d7,d8,d9,d10,d11⟩:=NM (o:=m1.p.re.op) (by omega)
 rw[if_neg (by omega),if_neg (by omega),if_neg (by omega),if_neg (by omega),if_neg (by omega),if_neg (by omega),if_neg (by omega),if_pos (by omega)]at hx
 obtain⟨yes,no,l,hl⟩:∃yes no l,m1.p.re.kids=yes::no::l:=by
  cases hh:m1.p.re.kids with
  |nil=>rw[hh]at hx;cases hx
  |cons y l=>cases l with
   |nil=>rw[hh]at hx;cases hx
   |cons y' l=>exact⟨y,y',l,rfl⟩
 rw[hl]at hx
 simp only at hx
 have hk0:m1.p.re.kids[0]?=some yes:=by rw[hl];rfl
 have jT:m1.p.re.kids[1]?=some no:=by rw[hl];rfl
 have eh:(0:Int)<(m1.p.re.kids.length:Int):=by rw[hl,W3];omega
 have Bf:(1:Int)<(m1.p.re.kids.length:Int):=by rw[hl,W3,W3];omega
 by_cases hn:m1.p.re.n<1∨(p.ak.length:Int)<m1.p.re.n
 ·rw[if_pos hn]at hx;cases hx
 rw[if_neg hn]at hx
 obtain⟨y,fC⟩:∃y,p.ak[(m1.p.re.n-1).toNat]?=some y:=⟨_,WZ (by omega)⟩
 rw[getD_some fC]at hx
 obtain⟨y1,y2⟩:=y
 simp only at hx
 have w0:IntKind.i64.wrap (m1.p.re.n-1)=m1.p.re.n-1:=bU _ (by omega)
 have nj:0≤m1.p.re.n-1:=by omega
 have fY:m1.p.re.n-1<(p.ak.length:Int):=by omega
 by_cases cx:0≤y1
 ·skip
  rw[if_pos cx]at hx
  cases hx
  unfold aC.au aC.az at aW
  simp only[zM,aJ]at aW
  unfold aC.au aC.az
  refine aw func72 rfl ntmps72 results72 rfl 3 158456325028528677386111158247 (by simp) (by simp) ?_
  simp only[zX,simprocAttr,-Int.reduceNatCast',zM,aJ,aE.d,Re.ae,d4]
  refine aj (aW _) (fun v s' hv=>?_);obtain⟨rfl,rfl⟩:=hv
  simp only[zX,simprocAttr,-Int.reduceNatCast',zM,aJ,WY,Re.ae,d1,d2,d3,d5,d6,d7,d8,d9,d10,d11,Bf,jT]
  refine aq mix [] [(0,[3],[]),(1,[3],[]),(3,[0],[]),(4,[0],[]),(5,[0],[])] (by rfl) ?_
  simp only[zX,simprocAttr,-Int.reduceNatCast',zM,aJ,Re.ae,w0,nj,fY,fC,bH,aT]
  refine⟨by decide,?_⟩
  simp only[zX,simprocAttr,-Int.reduceNatCast',zM,aJ,Re.ae,cx,ge_iff_le,eh,hk0]
  refine eJ rfl ?_
  simp only[zX,simprocAttr,-Int.reduceNatCast',zM,aJ]
  first
   |(refine⟨an m1 b a,?_⟩;simp only[zM,aJ,jw,eH,bH,aT,aG.d,aE.d,Re.ae];done)
   |exact⟨an m1 b a,rfl⟩
   |exact an m1 b a
 ·skip
  rw[if_neg cx]at hx
  cases hx
  unfold aC.au aC.az at aW
  simp only[zM,aJ]at aW
  unfold aC.au aC.az
  refine aw func72 rfl ntmps72 results72 rfl 3 158456325028528677386111158247 (by simp) (by simp) ?_
  simp only[zX,simprocAttr,-Int.reduceNatCast',zM,aJ,aE.d,Re.ae,d4]
  refine aj (aW _) (fun v s' hv=>?_);obtain⟨rfl,rfl⟩:=hv
  simp only[zX,simprocAttr,-Int.reduceNatCast',zM,aJ,WY,Re.ae,d1,d2,d3,d5,d6,d7,d8,d9,d10,d11,Bf,jT]
  refine aq mix [] [(0,[3],[]),(1,[3],[]),(3,[0],[]),(4,[0],[]),(5,[0],[])] (by rfl) ?_
  simp only[zX,simprocAttr,-Int.reduceNatCast',zM,aJ,Re.ae,w0,nj,fY,fC,bH,aT]
  refine⟨by decide,?_⟩
  simp only[zX,simprocAttr,-Int.reduceNatCast',zM,aJ,Re.ae,cx,ge_iff_le,eh,hk0]
  refine eJ rfl ?_
  simp only[zX,simprocAttr,-Int.reduceNatCast',zM,aJ]
  first
   |(refine⟨an m1 b a,?_⟩;simp only[zM,aJ,jw,eH,bH,aT,aG.d,aE.d,Re.ae];done)
   |exact⟨an m1 b a,rfl⟩
   |exact an m1 b a
theorem DD {k:Nat} (ih:bw k) (g b a:Nat) (m:aC) (re:Re) (p:aA) (hm:m.cn p) (cC:re.set.length≤1000000000) (cz:re.kids.length≤1000000000) (ho:re.op=11) (hf:¬m.fuel≤m.steps) {x:Rs} (hx:bq (fun m base p=>bh k true m base p true) m (.el re) p=some x) :
  av prog 72 [.pp 0 g 0 0 b a,.d ((aE.el re).d b a),p.v b a] (m.au g b a) fun v s=>v=aJ b a x.2.1 x.2.2∧s=x.1.au g b a:=by
 obtain⟨⟨g1,g2,g3,g4⟩,⟨g5,g6,g7⟩,g8,g9⟩:=hm
 unfold bq at hx
 simp only[aC.lit]at hx
 rw[if_neg (by omega)]at hx
 have d4:decide (re.op=4)=false:=decide_eq_false (by omega)
 have aW:=fun ext=>bn (cI g b a m g1 g2) rfl rfl rfl ext
 have dr:=m.eR
 have bE:=m.dI
 rw[if_neg (by omega),if_neg hf]at hx
 have hd:decide (m.steps<m.fuel)=true:=decide_eq_true (by omega)
 simp only[hd]at aW
 have t1:m.step.t.length≤1000000:=by rw[bE.t];exact g8
 have t2:p.at_≤m.step.t.length:=by rw[bE.t];exact g6
 have t3:m.step.same:=fun h=>by rw[bE.own,bE.t];exact g9 (by rw[← bE.bB];exact h)
 generalize rF:m.step=m1 at *
 obtain⟨d1,d2,d3,_,d5,d6,d7,d8,d9,d10,d11⟩:=Nv (o:=re.op) (by omega)
 rw[if_neg (by omega),if_neg (by omega),if_neg (by omega),if_neg (by omega),if_neg (by omega),if_neg (by omega),if_neg (by omega),if_neg (by omega),if_pos (by omega)]at hx
 by_cases hn:re.n<0∨5<re.n
 ·rw[if_pos hn]at hx;cases hx
 rw[if_neg hn]at hx
 cases hx
 have has:=uz re.n m1.t p.at_ (by omega) (by omega) t1 g5 t2
 simp only[i64,bV]at has
 cases hT:m1.bB with
 |false =>
  have hM:=cy m1 b a (.d (aB m1.t)) rfl
  rw[nk hT]at aW ⊢
  unfold aC.au aC.az at aW
  simp only[zM,aJ]at aW
  unfold aC.au aC.az
  simp only[aB]at has
  refine aw func72 rfl ntmps72 results72 rfl 3 158456325028528677386111158247 (by simp) (by simp) ?_
  simp only[zX,simprocAttr,-Int.reduceNatCast',zM,aJ,aE.d,Re.ae,d4]
  refine aj (aW _) (fun v s' hv=>?_);obtain⟨rfl,rfl⟩:=hv
  simp only[zX,simprocAttr,-Int.reduceNatCast',zM,aJ,WY,Re.ae,d1,d2,d3,d5,d6,d7,d8,d9,d10,d11]
  refine aq mix [] [(0,[3],[]),(2,[0],[]),(3,[0],[]),(4,[0],[]),(6,[0],[]),(7,[0],[]),(8,[0],[]),(9,[3],[]),(10,[3],[]),(12,[4],[4])] (by rfl) ?_
  simp only[zX,simprocAttr,-Int.reduceNatCast',zM,aJ,aB,Re.ae]
  refine cP has rfl rfl ?_
  simp only[zX,simprocAttr,-Int.reduceNatCast',zM,aJ]
  first|exact⟨hM,rfl⟩|exact hM
 |true =>
  have hM:=cy m1 b a (.so 2 m1.eP 0 m1.t.length) rfl
  have uA:=t3 hT
  rw[kZ hT]at aW ⊢
  unfold aC.au aC.az at aW
  simp only[zM,aJ]at aW
  unfold aC.au aC.az
  refine aw func72 rfl ntmps72 results72 rfl 3 158456325028528677386111158247 (by simp) (by simp) ?_
  simp only[zX,simprocAttr,-Int.reduceNatCast',zM,aJ,aE.d,Re.ae,d4]
  refine aj (aW _) (fun v s' hv=>?_);obtain⟨rfl,rfl⟩:=hv
  simp only[zX,simprocAttr,-Int.reduceNatCast',zM,aJ,WY,Re.ae,d1,d2,d3,d5,d6,d7,d8,d9,d10,d11]
  refine aq mix [] [(0,[3],[]),(2,[0],[]),(3,[0],[]),(4,[0],[]),(6,[0],[]),(7,[0],[]),(8,[0],[]),(9,[3],[]),(10,[3],[]),(11,[2],[]),(12,[4],[4])] (by rfl) ?_
  simp only[zX,simprocAttr,-Int.reduceNatCast',zM,aJ,Re.ae]
  refine vC has uA rfl ?_
  simp only[zX,simprocAttr,-Int.reduceNatCast',zM,aJ]
  first|exact⟨hM,rfl⟩|exact hM
theorem y4 {k:Nat} (ih:bw k) (g b a:Nat) (m:aC) (p:aA) (hm:m.cn p) (cC:m.p.re.set.length≤1000000000) (cz:m.p.re.kids.length≤1000000000) (ho:m.p.re.op=11) (hf:¬m.fuel≤m.steps) {x:Rs} (hx:bq (fun m base p=>bh k true m base p true) m .root p=some x) :
  av prog 72 [.pp 0 g 0 0 b a,.d ((aE.root).d b a),p.v b a] (m.au g b a) fun v s=>v=aJ b a x.2.1 x.2.2∧s=x.1.au g b a:=by
 obtain⟨⟨g1,g2,g3,g4⟩,⟨g5,g6,g7⟩,g8,g9⟩:=hm
 unfold bq at hx
 simp only[aC.lit]at hx
 rw[if_neg (by omega)]at hx
 have d4:decide (m.p.re.op=4)=false:=decide_eq_false (by omega)
 have aW:=fun ext=>bn (cI g b a m g1 g2) rfl rfl rfl ext
 have dr:=m.eR
 have bE:=m.dI
 rw[if_neg (by omega),if_neg hf]at hx
 have hd:decide (m.steps<m.fuel)=true:=decide_eq_true (by omega)
 simp only[hd]at aW
 have t1:m.step.t.length≤1000000:=by rw[bE.t];exact g8
 have t2:p.at_≤m.step.t.length:=by rw[bE.t];exact g6
 have t3:m.step.same:=fun h=>by rw[bE.own,bE.t];exact g9 (by rw[← bE.bB];exact h)
 generalize rF:m.step=m1 at *
 rw[← dr]at cC cz ho hx
 obtain⟨d1,d2,d3,_,d5,d6,d7,d8,d9,d10,d11⟩:=Nv (o:=m1.p.re.op) (by omega)
 rw[if_neg (by omega),if_neg (by omega),if_neg (by omega),if_neg (by omega),if_neg (by omega),if_neg (by omega),if_neg (by omega),if_neg (by omega),if_pos (by omega)]at hx
 by_cases hn:m1.p.re.n<0∨5<m1.p.re.n
 ·rw[if_pos hn]at hx;cases hx
 rw[if_neg hn]at hx
 cases hx
 have has:=uz m1.p.re.n m1.t p.at_ (by omega) (by omega) t1 g5 t2
 simp only[i64,bV]at has
 cases hT:m1.bB with
 |false =>
  have hM:=cy m1 b a (.d (aB m1.t)) rfl
  rw[nk hT]at aW ⊢
  unfold aC.au aC.az at aW
  simp only[zM,aJ]at aW
  unfold aC.au aC.az
  simp only[aB]at has
  refine aw func72 rfl ntmps72 results72 rfl 3 158456325028528677386111158247 (by simp) (by simp) ?_
  simp only[zX,simprocAttr,-Int.reduceNatCast',zM,aJ,aE.d,Re.ae,d4]
  refine aj (aW _) (fun v s' hv=>?_);obtain⟨rfl,rfl⟩:=hv
  simp only[zX,simprocAttr,-Int.reduceNatCast',zM,aJ,WY,Re.ae,d1,d2,d3,d5,d6,d7,d8,d9,d10,d11]
  refine aq mix [] [(0,[3],[]),(2,[0],[]),(3,[0],[]),(4,[0],[]),(6,[0],[]),(7,[0],[]),(8,[0],[]),(9,[3],[]),(10,[3],[]),(12,[4],[4])] (by rfl) ?_
  simp only[zX,simprocAttr,-Int.reduceNatCast',zM,aJ,aB,Re.ae]
  refine cP has rfl rfl ?_
  simp only[zX,simprocAttr,-Int.reduceNatCast',zM,aJ]
  first|exact⟨hM,rfl⟩|exact hM
 |true =>
  have hM:=cy m1 b a (.so 2 m1.eP 0 m1.t.length) rfl
  have uA:=t3 hT
  rw[kZ hT]at aW ⊢
  unfold aC.au aC.az at aW
  simp only[zM,aJ]at aW
  unfold aC.au aC.az
  refine aw func72 rfl ntmps72 results72 rfl 3 158456325028528677386111158247 (by simp) (by simp) ?_
  simp only[zX,simprocAttr,-Int.reduceNatCast',zM,aJ,aE.d,Re.ae,d4]
  refine aj (aW _) (fun v s' hv=>?_);obtain⟨rfl,rfl⟩:=hv
  simp only[zX,simprocAttr,-Int.reduceNatCast',zM,aJ,WY,Re.ae,d1,d2,d3,d5,d6,d7,d8,d9,d10,d11]
  refine aq mix [] [(0,[3],[]),(2,[0],[]),(3,[0],[]),(4,[0],[]),(6,[0],[]),(7,[0],[]),(8,[0],[]),(9,[3],[]),(10,[3],[]),(11,[2],[]),(12,[4],[4])] (by rfl) ?_
  simp only[zX,simprocAttr,-Int.reduceNatCast',zM,aJ,Re.ae]
  refine vC has uA rfl ?_
  simp only[zX,simprocAttr,-Int.reduceNatCast',zM,aJ]
  first|exact⟨hM,rfl⟩|exact hM
theorem AN {k:Nat} (ih:bw k) (g b a:Nat) (m:aC) (re:Re) (p:aA) (hm:m.cn p) (cC:re.set.length≤1000000000) (cz:re.kids.length≤1000000000) (ho:re.op<1∨11<re.op) (hf:¬m.fuel≤m.steps) {x:Rs} (hx:bq (fun m base p=>bh k true m base p true) m (.el re) p=some x) :
  av prog 72 [.pp 0 g 0 0 b a,.d ((aE.el re).d b a),p.v b a] (m.au g b a) fun v s=>v=aJ b a x.2.1 x.2.2∧s=x.1.au g b a:=by
 obtain⟨⟨g1,g2,g3,g4⟩,⟨g5,g6,g7⟩,g8,g9⟩:=hm
 unfold bq at hx
 simp only[aC.lit]at hx
 rw[if_neg (by omega)]at hx
 have d4:decide (re.op=4)=false:=decide_eq_false (by omega)
 have aW:=fun ext=>bn (cI g b a m g1 g2) rfl rfl rfl ext
 have dr:=m.eR
 have bE:=m.dI
 rw[if_neg (by omega),if_neg hf]at hx
 have hd:decide (m.steps<m.fuel)=true:=decide_eq_true (by omega)
 simp only[hd]at aW
 have t1:m.step.t.length≤1000000:=by rw[bE.t];exact g8
 have t2:p.at_≤m.step.t.length:=by rw[bE.t];exact g6
 have t3:m.step.same:=fun h=>by rw[bE.own,bE.t];exact g9 (by rw[← bE.bB];exact h)
 generalize rF:m.step=m1 at *
 have d1:decide (re.op=1)=false:=decide_eq_false (by omega)
 have d2:decide (re.op=2)=false:=decide_eq_false (by omega)
 have d3:decide (re.op=3)=false:=decide_eq_false (by omega)
 have d5:decide (re.op=5)=false:=decide_eq_false (by omega)
 have d6:decide (re.op=6)=false:=decide_eq_false (by omega)
 have d7:decide (re.op=7)=false:=decide_eq_false (by omega)
 have d8:decide (re.op=8)=false:=decide_eq_false (by omega)
 have d9:decide (re.op=9)=false:=decide_eq_false (by omega)
 have d10:decide (re.op=10)=false:=decide_eq_false (by omega)
 have d11:decide (re.op=11)=false:=decide_eq_false (by omega)
 rw[if_neg (by omega),if_neg (by omega),if_neg (by omega),if_neg (by omega),if_neg (by omega),if_neg (by omega),if_neg (by omega),if_neg (by omega),if_neg (by omega)]at hx
 cases hx
 unfold aC.au aC.az at aW
 simp only[zM,aJ]at aW
 unfold aC.au aC.az
 refine aw func72 rfl ntmps72 results72 rfl 3 158456325028528677386111158247 (by simp) (by simp) ?_
 simp only[zX,simprocAttr,-Int.reduceNatCast',zM,aJ,aE.d,Re.ae,d4]
 refine aj (aW _) (fun v s' hv=>?_);obtain⟨rfl,rfl⟩:=hv
 simp only[zX,simprocAttr,-Int.reduceNatCast',zM,aJ,WY,Re.ae,d1,d2,d3,d5,d6,d7,d8,d9,d10,d11]
 first
  |(refine⟨an m1 b a,?_⟩;simp only[zM,aJ,jw,eH,aG.d,aE.d,Re.ae];done)
  |exact⟨an m1 b a,rfl⟩
  |exact an m1 b a
theorem xS {k:Nat} (ih:bw k) (g b a:Nat) (m:aC) (p:aA) (hm:m.cn p) (cC:m.p.re.set.length≤1000000000) (cz:m.p.re.kids.length≤1000000000) (ho:m.p.re.op<1∨11<m.p.re.op) (hf:¬m.fuel≤m.steps) {x:Rs} (hx:bq (fun m base p=>bh k true m base p true) m .root p=some x) :
  av prog 72 [.pp 0 g 0 0 b a,.d ((aE.root).d b a),p.v b a] (m.au g b a) fun v s=>v=aJ b a x.2.1 x.2.2∧s=x.1.au g b a:=by
 obtain⟨⟨g1,g2,g3,g4⟩,⟨g5,g6,g7⟩,g8,g9⟩:=hm
 unfold bq at hx
 simp only[aC.lit]at hx
 rw[if_neg (by omega)]at hx
 have d4:decide (m.p.re.op=4)=false:=decide_eq_false (by omega)
 have aW:=fun ext=>bn (cI g b a m g1 g2) rfl rfl rfl ext
 have dr:=m.eR
 have bE:=m.dI
 rw[if_neg (by omega),if_neg hf]at hx
 have hd:decide (m.steps<m.fuel)=true:=decide_eq_true (by omega)
 simp only[hd]at aW
 have t1:m.step.t.length≤1000000:=by rw[bE.t];exact g8
 have t2:p.at_≤m.step.t.length:=by rw[bE.t];exact g6
 have t3:m.step.same:=fun h=>by rw[bE.own,bE.t];exact g9 (by rw[← bE.bB];exact h)
 generalize rF:m.step=m1 at *
 rw[← dr]at cC cz ho hx
 have d1:decide (m1.p.re.op=1)=false:=decide_eq_false (by omega)
 have d2:decide (m1.p.re.op=2)=false:=decide_eq_false (by omega)
 have d3:decide (m1.p.re.op=3)=false:=decide_eq_false (by omega)
 have d5:decide (m1.p.re.op=5)=false:=decide_eq_false (by omega)
 have d6:decide (m1.p.re.op=6)=false:=decide_eq_false (by omega)
 have d7:decide (m1.p.re.op=7)=false:=decide_eq_false (by omega)
 have d8:decide (m1.p.re.op=8)=false:=decide_eq_false (by omega)
 have d9:decide (m1.p.re.op=9)=false:=decide_eq_false (by omega)
 have d10:decide (m1.p.re.op=10)=false:=decide_eq_false (by omega)
 have d11:decide (m1.p.re.op=11)=false:=decide_eq_false (by omega)
 rw[if_neg (by omega),if_neg (by omega),if_neg (by omega),if_neg (by omega),if_neg (by omega),if_neg (by omega),if_neg (by omega),if_neg (by omega),if_neg (by omega)]at hx
 cases hx
 unfold aC.au aC.az at aW
 simp only[zM,aJ]at aW
 unfold aC.au aC.az
 refine aw func72 rfl ntmps72 results72 rfl 3 158456325028528677386111158247 (by simp) (by simp) ?_
 simp only[zX,simprocAttr,-Int.reduceNatCast',zM,aJ,aE.d,Re.ae,d4]
 refine aj (aW _) (fun v s' hv=>?_);obtain⟨rfl,rfl⟩:=hv
 simp only[zX,simprocAttr,-Int.reduceNatCast',zM,aJ,WY,Re.ae,d1,d2,d3,d5,d6,d7,d8,d9,d10,d11]
 first
  |(refine⟨an m1 b a,?_⟩;simp only[zM,aJ,jw,eH,aG.d,aE.d,Re.ae];done)
  |exact⟨an m1 b a,rfl⟩
  |exact an m1 b a
end Go.Proofs.YtmihcpdhcillaaaGreat
