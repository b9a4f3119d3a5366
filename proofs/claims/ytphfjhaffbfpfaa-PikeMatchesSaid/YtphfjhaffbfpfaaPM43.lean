/- A part of the proof (G35). -/
import Derived.Test.YtphfjhaffbfpfaaPM42
set_option linter.all false
set_option maxRecDepth 100000
set_option maxHeartbeats 80000000
namespace Go.Proofs.Ytphfjhaffbfpfaa
open Go.VL Go.Proofs.Try
variable{k:Nat}{x:Rs}
theorem xF {og:Nat}{own t:List Int}{x y:Int}{r:Bool}{s:List VL.Obj}{K:V->List VL.Obj->Prop} (h:ba prog 60 [.d (.sc (.int .i64 x)),.d (av t),.d (.sc (.int .i64 y))] (.d (.sc (.bool r)))) (ht:own=t)
  (hs:s[2]?=some ⟨og,true,1,own.map λx=>[V.d (.sc (.int .i64 x))]⟩) (hk:K (.d (.sc (.bool r))) s) :
  JJ prog [2] [] 60 [.d (.sc (.int .i64 x)),.so 2 og 0 t.length,.d (.sc (.int .i64 y))] s K:=by
 refine⟨_,[],rfl,λs' hl hr=>?_,hk⟩;have ng:s'[2]?=some ⟨og,true,1,own.map λx=>[V.d (.sc (.int .i64 x))]⟩:=by rw[hr 2 (by simp)];exact hs
 refine eP [2] h ?_ rfl ⟨rfl,rfl⟩;have AT:(bg s' [2])[2]?=some ⟨og,false,1,own.map λx=>[V.d (iD x)]⟩:=by simp only[bg,bT,ng];rw[List.getElem?_set_self (List.getElem?_eq_some_iff.1 ng).1];rfl
 have:=iH (ck:=(bg s' [2]).length) (own:=own) AT (show 0+t.length<=own.length by rw[ht];omega);rw[List.drop_zero,ht,adZ]at this;simp only[bf.go,this];rfl
theorem IG (ih:bw k) (g b a:Nat) (m:aA) (re:Re) (p:aw) (hm:m.bW p) (cC:re.set.length<=1000000000) (cI:re.kids.length<=1000000000) (ho:re.op=6) (hf:¬m.fuel<=m.steps) (hx:bq (λm base p=>bn k true m base p true) m (.el re) p=some x) :
  au prog 63 [.pp 0 g 0 0 b a,.d ((aD.el re).d b a),p.v b a] (m.aB g b a) λv s=>v=aO b a x.2.1 x.2.2/\s=x.1.aB g b a:=by
 obtain⟨⟨g1,g2,g3,g4⟩,⟨g5,g6,g7⟩,g8,g9⟩:=hm;unfold bq at hx;simp only[aA.lit]at hx;rw[am (by omega)]at hx;have d4:decide (re.op=4)=false:=adl (by omega);have aU:=λext=>bt (cX g b a m g1 g2) rfl rfl rfl ext;have du:=m.e9;have bE:=m.dP;rw[am (by omega),am hf]at hx;have hd:decide (m.steps<m.fuel)=true:=adu (by omega);simp only[hd]at aU;have t1:m.step.t.length<=1000000:=by rw[bE.t];exact g8
 have t2:p.at_<=m.step.t.length:=by rw[bE.t];exact g6
 have t3:m.step.same:=λh=>by rw[bE.own,bE.t];exact g9 (by rw[<- bE.bC];exact h)
 generalize oa:m.step=m1 at *;obtain⟨d1,d2,d3,_,d5,d6,d7,d8,d9,d10,d11⟩:=Wr (o:=re.op) (by omega);rw[am (by omega),am (by omega),am (by omega),am (by omega),ap (by omega)]at hx;cases hr:FY m1.t re p with
 |none=>rw[hr]at hx;cases hx
 |some y =>
 rw[hr]at hx;cases hx;have cZ:=λext=>bt (J4 g b a m1 (.el re) re p rfl hr g7 g5 t2 t1 t3) rfl rfl rfl ext;obtain⟨y1,y2⟩:=y;unfold aA.aB aA.ay at cZ;simp only[zM,aO,aF.d,aD.d,Re.ae]at cZ;unfold aA.aB aA.ay at aU;simp only[zM,aO]at aU;unfold aA.aB aA.ay;refine ar func63 rfl ntmps63 results63 rfl 3 158456325028528677386111158247 (by simp) (by simp) ?_;simp only[zX,simprocAttr,-Int.reduceNatCast',zM,aO,aD.d,Re.ae,d4];refine aj (aU _) (λv s' hv=>?_);obtain⟨rfl,rfl⟩:=hv;simp only[zX,simprocAttr,-Int.reduceNatCast',zM,aO,ads,Re.ae,d1,d2,d3,d5,d6,d7,d8,d9,d10,d11];refine aj (cZ _) (λv s' hv=>?_);obtain⟨rfl,rfl⟩:=hv;simp only[zX,simprocAttr,-Int.reduceNatCast',zM,aO];first
  |(refine⟨an m1 b a,?_⟩;simp only[zM,aO,kq,eJ,aF.d,aD.d,Re.ae];done)
  |exact⟨an m1 b a,rfl⟩
  |exact an m1 b a
theorem Dr (ih:bw k) (g b a:Nat) (m:aA) (p:aw) (hm:m.bW p) (cC:m.p.re.set.length<=1000000000) (cI:m.p.re.kids.length<=1000000000) (ho:m.p.re.op=6) (hf:¬m.fuel<=m.steps) (hx:bq (λm base p=>bn k true m base p true) m .root p=some x) :
  au prog 63 [.pp 0 g 0 0 b a,.d ((aD.root).d b a),p.v b a] (m.aB g b a) λv s=>v=aO b a x.2.1 x.2.2/\s=x.1.aB g b a:=by
 obtain⟨⟨g1,g2,g3,g4⟩,⟨g5,g6,g7⟩,g8,g9⟩:=hm;unfold bq at hx;simp only[aA.lit]at hx;rw[am (by omega)]at hx;have d4:decide (m.p.re.op=4)=false:=adl (by omega);have aU:=λext=>bt (cX g b a m g1 g2) rfl rfl rfl ext;have du:=m.e9;have bE:=m.dP;rw[am (by omega),am hf]at hx;have hd:decide (m.steps<m.fuel)=true:=adu (by omega);simp only[hd]at aU;have t1:m.step.t.length<=1000000:=by rw[bE.t];exact g8
 have t2:p.at_<=m.step.t.length:=by rw[bE.t];exact g6
 have t3:m.step.same:=λh=>by rw[bE.own,bE.t];exact g9 (by rw[<- bE.bC];exact h)
 generalize oa:m.step=m1 at *;rw[<- du]at cC cI ho hx;obtain⟨d1,d2,d3,_,d5,d6,d7,d8,d9,d10,d11⟩:=Wr (o:=m1.p.re.op) (by omega);rw[am (by omega),am (by omega),am (by omega),am (by omega),ap (by omega)]at hx;cases hr:FY m1.t m1.p.re p with
 |none=>rw[hr]at hx;cases hx
 |some y =>
 rw[hr]at hx;cases hx;have cZ:=λext=>bt (J4 g b a m1 .root m1.p.re p rfl hr g7 g5 t2 t1 t3) rfl rfl rfl ext;obtain⟨y1,y2⟩:=y;unfold aA.aB aA.ay at cZ;simp only[zM,aO,aF.d,aD.d,Re.ae]at cZ;unfold aA.aB aA.ay at aU;simp only[zM,aO]at aU;unfold aA.aB aA.ay;refine ar func63 rfl ntmps63 results63 rfl 3 158456325028528677386111158247 (by simp) (by simp) ?_;simp only[zX,simprocAttr,-Int.reduceNatCast',zM,aO,aD.d,Re.ae,d4];refine aj (aU _) (λv s' hv=>?_);obtain⟨rfl,rfl⟩:=hv;simp only[zX,simprocAttr,-Int.reduceNatCast',zM,aO,ads,Re.ae,d1,d2,d3,d5,d6,d7,d8,d9,d10,d11];refine aj (cZ _) (λv s' hv=>?_);obtain⟨rfl,rfl⟩:=hv;simp only[zX,simprocAttr,-Int.reduceNatCast',zM,aO];first
  |(refine⟨an m1 b a,?_⟩;simp only[zM,aO,kq,eJ,aF.d,aD.d,Re.ae];done)
  |exact⟨an m1 b a,rfl⟩
  |exact an m1 b a
theorem I1 (ih:bw k) (g b a:Nat) (m:aA) (re:Re) (p:aw) (hm:m.bW p) (cC:re.set.length<=1000000000) (cI:re.kids.length<=1000000000) (ho:re.op=7) (hf:¬m.fuel<=m.steps) (hx:bq (λm base p=>bn k true m base p true) m (.el re) p=some x) :
  au prog 63 [.pp 0 g 0 0 b a,.d ((aD.el re).d b a),p.v b a] (m.aB g b a) λv s=>v=aO b a x.2.1 x.2.2/\s=x.1.aB g b a:=by
 obtain⟨⟨g1,g2,g3,g4⟩,⟨g5,g6,g7⟩,g8,g9⟩:=hm;unfold bq at hx;simp only[aA.lit]at hx;rw[am (by omega)]at hx;have d4:decide (re.op=4)=false:=adl (by omega);have aU:=λext=>bt (cX g b a m g1 g2) rfl rfl rfl ext;have du:=m.e9;have bE:=m.dP;rw[am (by omega),am hf]at hx;have hd:decide (m.steps<m.fuel)=true:=adu (by omega);simp only[hd]at aU;have t1:m.step.t.length<=1000000:=by rw[bE.t];exact g8
 have t2:p.at_<=m.step.t.length:=by rw[bE.t];exact g6
 have t3:m.step.same:=λh=>by rw[bE.own,bE.t];exact g9 (by rw[<- bE.bC];exact h)
 generalize oa:m.step=m1 at *;obtain⟨d1,d2,d3,_,d5,d6,d7,d8,d9,d10,d11⟩:=V5 (o:=re.op) (by omega);rw[am (by omega),am (by omega),am (by omega),am (by omega),am (by omega),ap (by omega)]at hx;obtain⟨aL,l,hl⟩:∃aL l,re.kids=aL::l:=by
  cases hh:re.kids with
  |nil=>rw[hh]at hx;cases hx
  |cons y l=>exact⟨y,l,rfl⟩
 rw[hl]at hx;have cZ:=λext=>bt (KR ih g b a m1 re p aL l hl g5 (by omega) hx) rfl rfl rfl ext;obtain⟨m2,y1,y2⟩:=x;unfold aA.aB aA.ay at cZ;simp only[zM,aO,aF.d,aD.d,Re.ae]at cZ;unfold aA.aB aA.ay at aU;simp only[zM,aO]at aU;unfold aA.aB aA.ay;refine ar func63 rfl ntmps63 results63 rfl 3 158456325028528677386111158247 (by simp) (by simp) ?_;simp only[zX,simprocAttr,-Int.reduceNatCast',zM,aO,aD.d,Re.ae,d4];refine aj (aU _) (λv s' hv=>?_);obtain⟨rfl,rfl⟩:=hv;simp only[zX,simprocAttr,-Int.reduceNatCast',zM,aO,ads,Re.ae,d1,d2,d3,d5,d6,d7,d8,d9,d10,d11];refine aj (cZ _) (λv s' hv=>?_);obtain⟨rfl,rfl⟩:=hv;simp only[zX,simprocAttr,-Int.reduceNatCast',zM,aO];first
  |(refine⟨an m2 b a,?_⟩;simp only[zM,aO,kq,eJ,aF.d,aD.d,Re.ae];done)
  |exact⟨an m2 b a,rfl⟩
  |exact an m2 b a
theorem DY (ih:bw k) (g b a:Nat) (m:aA) (p:aw) (hm:m.bW p) (cC:m.p.re.set.length<=1000000000) (cI:m.p.re.kids.length<=1000000000) (ho:m.p.re.op=7) (hf:¬m.fuel<=m.steps) (hx:bq (λm base p=>bn k true m base p true) m .root p=some x) :
  au prog 63 [.pp 0 g 0 0 b a,.d ((aD.root).d b a),p.v b a] (m.aB g b a) λv s=>v=aO b a x.2.1 x.2.2/\s=x.1.aB g b a:=by
 obtain⟨⟨g1,g2,g3,g4⟩,⟨g5,g6,g7⟩,g8,g9⟩:=hm;unfold bq at hx;simp only[aA.lit]at hx;rw[am (by omega)]at hx;have d4:decide (m.p.re.op=4)=false:=adl (by omega);have aU:=λext=>bt (cX g b a m g1 g2) rfl rfl rfl ext;have du:=m.e9;have bE:=m.dP;rw[am (by omega),am hf]at hx;have hd:decide (m.steps<m.fuel)=true:=adu (by omega);simp only[hd]at aU;have t1:m.step.t.length<=1000000:=by rw[bE.t];exact g8
 have t2:p.at_<=m.step.t.length:=by rw[bE.t];exact g6
 have t3:m.step.same:=λh=>by rw[bE.own,bE.t];exact g9 (by rw[<- bE.bC];exact h)
 generalize oa:m.step=m1 at *;rw[<- du]at cC cI ho hx;obtain⟨d1,d2,d3,_,d5,d6,d7,d8,d9,d10,d11⟩:=V5 (o:=m1.p.re.op) (by omega);rw[am (by omega),am (by omega),am (by omega),am (by omega),am (by omega),ap (by omega)]at hx;obtain⟨aL,l,hl⟩:∃aL l,m1.p.re.kids=aL::l:=by
  cases hh:m1.p.re.kids with
  |nil=>rw[hh]at hx;cases hx
  |cons y l=>exact⟨y,l,rfl⟩
 rw[hl]at hx;have cZ:=λext=>bt (BD ih g b a m1 p aL l hl g5 (by omega) hx) rfl rfl rfl ext;obtain⟨m2,y1,y2⟩:=x;unfold aA.aB aA.ay at cZ;simp only[zM,aO,aF.d,aD.d,Re.ae]at cZ;unfold aA.aB aA.ay at aU;simp only[zM,aO]at aU;unfold aA.aB aA.ay;refine ar func63 rfl ntmps63 results63 rfl 3 158456325028528677386111158247 (by simp) (by simp) ?_;simp only[zX,simprocAttr,-Int.reduceNatCast',zM,aO,aD.d,Re.ae,d4];refine aj (aU _) (λv s' hv=>?_);obtain⟨rfl,rfl⟩:=hv;simp only[zX,simprocAttr,-Int.reduceNatCast',zM,aO,ads,Re.ae,d1,d2,d3,d5,d6,d7,d8,d9,d10,d11];refine aj (cZ _) (λv s' hv=>?_);obtain⟨rfl,rfl⟩:=hv;simp only[zX,simprocAttr,-Int.reduceNatCast',zM,aO];first
  |(refine⟨an m2 b a,?_⟩;simp only[zM,aO,kq,eJ,aF.d,aD.d,Re.ae];done)
  |exact⟨an m2 b a,rfl⟩
  |exact an m2 b a
theorem I0 (ih:bw k) (g b a:Nat) (m:aA) (re:Re) (p:aw) (hm:m.bW p) (cC:re.set.length<=1000000000) (cI:re.kids.length<=1000000000) (ho:re.op=8) (hf:¬m.fuel<=m.steps) (hx:bq (λm base p=>bn k true m base p true) m (.el re) p=some x) :
  au prog 63 [.pp 0 g 0 0 b a,.d ((aD.el re).d b a),p.v b a] (m.aB g b a) λv s=>v=aO b a x.2.1 x.2.2/\s=x.1.aB g b a:=by
 obtain⟨⟨g1,g2,g3,g4⟩,⟨g5,g6,g7⟩,g8,g9⟩:=hm;unfold bq at hx;simp only[aA.lit]at hx;rw[am (by omega)]at hx;have d4:decide (re.op=4)=false:=adl (by omega);have aU:=λext=>bt (cX g b a m g1 g2) rfl rfl rfl ext;have du:=m.e9;have bE:=m.dP;rw[am (by omega),am hf]at hx;have hd:decide (m.steps<m.fuel)=true:=adu (by omega);simp only[hd]at aU;have t1:m.step.t.length<=1000000:=by rw[bE.t];exact g8
 have t2:p.at_<=m.step.t.length:=by rw[bE.t];exact g6
 have t3:m.step.same:=λh=>by rw[bE.own,bE.t];exact g9 (by rw[<- bE.bC];exact h)
 generalize oa:m.step=m1 at *;obtain⟨d1,d2,d3,_,d5,d6,d7,d8,d9,d10,d11⟩:=Wt (o:=re.op) (by omega);rw[am (by omega),am (by omega),am (by omega),am (by omega),am (by omega),ap (by omega)]at hx;obtain⟨aL,l,hl⟩:∃aL l,re.kids=aL::l:=by
  cases hh:re.kids with
  |nil=>rw[hh]at hx;cases hx
  |cons y l=>exact⟨y,l,rfl⟩
 rw[hl]at hx;have cZ:=λext=>bt (KR ih g b a m1 re p aL l hl g5 (by omega) hx) rfl rfl rfl ext;obtain⟨m2,y1,y2⟩:=x;unfold aA.aB aA.ay at cZ;simp only[zM,aO,aF.d,aD.d,Re.ae]at cZ;unfold aA.aB aA.ay at aU;simp only[zM,aO]at aU;unfold aA.aB aA.ay;refine ar func63 rfl ntmps63 results63 rfl 3 158456325028528677386111158247 (by simp) (by simp) ?_;simp only[zX,simprocAttr,-Int.reduceNatCast',zM,aO,aD.d,Re.ae,d4];refine aj (aU _) (λv s' hv=>?_);obtain⟨rfl,rfl⟩:=hv;simp only[zX,simprocAttr,-Int.reduceNatCast',zM,aO,ads,Re.ae,d1,d2,d3,d5,d6,d7,d8,d9,d10,d11];refine aj (cZ _) (λv s' hv=>?_);obtain⟨rfl,rfl⟩:=hv;simp only[zX,simprocAttr,-Int.reduceNatCast',zM,aO];first
  |(refine⟨an m2 b a,?_⟩;simp only[zM,aO,kq,eJ,aF.d,aD.d,Re.ae];done)
  |exact⟨an m2 b a,rfl⟩
  |exact an m2 b a
theorem Dx (ih:bw k) (g b a:Nat) (m:aA) (p:aw) (hm:m.bW p) (cC:m.p.re.set.length<=1000000000) (cI:m.p.re.kids.length<=1000000000) (ho:m.p.re.op=8) (hf:¬m.fuel<=m.steps) (hx:bq (λm base p=>bn k true m base p true) m .root p=some x) :
  au prog 63 [.pp 0 g 0 0 b a,.d ((aD.root).d b a),p.v b a] (m.aB g b a) λv s=>v=aO b a x.2.1 x.2.2/\s=x.1.aB g b a:=by
 obtain⟨⟨g1,g2,g3,g4⟩,⟨g5,g6,g7⟩,g8,g9⟩:=hm;unfold bq at hx;simp only[aA.lit]at hx;rw[am (by omega)]at hx;have d4:decide (m.p.re.op=4)=false:=adl (by omega);have aU:=λext=>bt (cX g b a m g1 g2) rfl rfl rfl ext;have du:=m.e9;have bE:=m.dP;rw[am (by omega),am hf]at hx;have hd:decide (m.steps<m.fuel)=true:=adu (by omega);simp only[hd]at aU;have t1:m.step.t.length<=1000000:=by rw[bE.t];exact g8
 have t2:p.at_<=m.step.t.length:=by rw[bE.t];exact g6
 have t3:m.step.same:=λh=>by rw[bE.own,bE.t];exact g9 (by rw[<- bE.bC];exact h)
 generalize oa:m.step=m1 at *;rw[<- du]at cC cI ho hx;obtain⟨d1,d2,d3,_,d5,d6,d7,d8,d9,d10,d11⟩:=Wt (o:=m1.p.re.op) (by omega);rw[am (by omega),am (by omega),am (by omega),am (by omega),am (by omega),ap (by omega)]at hx;obtain⟨aL,l,hl⟩:∃aL l,m1.p.re.kids=aL::l:=by
  cases hh:m1.p.re.kids with
  |nil=>rw[hh]at hx;cases hx
  |cons y l=>exact⟨y,l,rfl⟩
 rw[hl]at hx;have cZ:=λext=>bt (BD ih g b a m1 p aL l hl g5 (by omega) hx) rfl rfl rfl ext;obtain⟨m2,y1,y2⟩:=x;unfold aA.aB aA.ay at cZ;simp only[zM,aO,aF.d,aD.d,Re.ae]at cZ;unfold aA.aB aA.ay at aU;simp only[zM,aO]at aU;unfold aA.aB aA.ay;refine ar func63 rfl ntmps63 results63 rfl 3 158456325028528677386111158247 (by simp) (by simp) ?_;simp only[zX,simprocAttr,-Int.reduceNatCast',zM,aO,aD.d,Re.ae,d4];refine aj (aU _) (λv s' hv=>?_);obtain⟨rfl,rfl⟩:=hv;simp only[zX,simprocAttr,-Int.reduceNatCast',zM,aO,ads,Re.ae,d1,d2,d3,d5,d6,d7,d8,d9,d10,d11];refine aj (cZ _) (λv s' hv=>?_);obtain⟨rfl,rfl⟩:=hv;simp only[zX,simprocAttr,-Int.reduceNatCast',zM,aO];first
  |(refine⟨an m2 b a,?_⟩;simp only[zM,aO,kq,eJ,aF.d,aD.d,Re.ae];done)
  |exact⟨an m2 b a,rfl⟩
  |exact an m2 b a
theorem IP (ih:bw k) (g b a:Nat) (m:aA) (re:Re) (p:aw) (hm:m.bW p) (cC:re.set.length<=1000000000) (cI:re.kids.length<=1000000000) (ho:re.op=9) (hf:¬m.fuel<=m.steps) (hx:bq (λm base p=>bn k true m base p true) m (.el re) p=some x) :
  au prog 63 [.pp 0 g 0 0 b a,.d ((aD.el re).d b a),p.v b a] (m.aB g b a) λv s=>v=aO b a x.2.1 x.2.2/\s=x.1.aB g b a:=by
 obtain⟨⟨g1,g2,g3,g4⟩,⟨g5,g6,g7⟩,g8,g9⟩:=hm;unfold bq at hx;simp only[aA.lit]at hx;rw[am (by omega)]at hx;have d4:decide (re.op=4)=false:=adl (by omega);have aU:=λext=>bt (cX g b a m g1 g2) rfl rfl rfl ext;have du:=m.e9;have bE:=m.dP;rw[am (by omega),am hf]at hx;have hd:decide (m.steps<m.fuel)=true:=adu (by omega);simp only[hd]at aU;have t1:m.step.t.length<=1000000:=by rw[bE.t];exact g8
 have t2:p.at_<=m.step.t.length:=by rw[bE.t];exact g6
 have t3:m.step.same:=λh=>by rw[bE.own,bE.t];exact g9 (by rw[<- bE.bC];exact h)
 generalize oa:m.step=m1 at *;obtain⟨d1,d2,d3,_,d5,d6,d7,d8,d9,d10,d11⟩:=VM (o:=re.op) (by omega);rw[am (by omega),am (by omega),am (by omega),am (by omega),am (by omega),am (by omega),ap (by omega)]at hx;obtain⟨aL,l,hl⟩:∃aL l,re.kids=aL::l:=by
  cases hh:re.kids with
  |nil=>rw[hh]at hx;cases hx
  |cons y l=>exact⟨y,l,rfl⟩
 rw[hl]at hx;have hk:re.kids[0]?=some aL:=by rw[hl];rfl
 have ek:(0:Int)<(re.kids.length:Int):=by rw[hl,adA];omega
 have HN:=gm b a (.el aL) .nil;simp only[aF.d,aD.d,Re.ae,iD,bD]at HN;have cZ:=λext=>bt (rZ ih g b a m1 p _ hx) rfl rfl rfl ext;obtain⟨m2,y1,y2⟩:=x;unfold aA.aB aA.ay at cZ;simp only[zM,aO,aF.d,aD.d,Re.ae]at cZ;unfold aA.aB aA.ay at aU;simp only[zM,aO]at aU;unfold aA.aB aA.ay;refine ar func63 rfl ntmps63 results63 rfl 3 158456325028528677386111158247 (by simp) (by simp) ?_;simp only[zX,simprocAttr,-Int.reduceNatCast',zM,aO,aD.d,Re.ae,d4];refine aj (aU _) (λv s' hv=>?_);obtain⟨rfl,rfl⟩:=hv;simp only[zX,simprocAttr,-Int.reduceNatCast',zM,aO,ads,Re.ae,d1,d2,d3,d5,d6,d7,d8,d9,d10,d11];refine ao mix [8] [(1,[3],[]),(3,[0],[]),(4,[0],[]),(5,[0],[]),(11,[4],[4])] (by rfl) ?_;simp only[zX,simprocAttr,-Int.reduceNatCast',zM,aO,Re.ae,ek,hk];refine bY HN rfl rfl ?_;simp only[zX,simprocAttr,-Int.reduceNatCast',zM,aO,Re.ae];refine bj (cZ _) ?_;simp only[zX,simprocAttr,-Int.reduceNatCast',zM,aO];first
  |(refine⟨an m2 b a,?_⟩;simp only[zM,aO,kq,eJ,aF.d,aD.d,Re.ae];done)
  |exact⟨an m2 b a,rfl⟩
  |exact an m2 b a
theorem DZ (ih:bw k) (g b a:Nat) (m:aA) (p:aw) (hm:m.bW p) (cC:m.p.re.set.length<=1000000000) (cI:m.p.re.kids.length<=1000000000) (ho:m.p.re.op=9) (hf:¬m.fuel<=m.steps) (hx:bq (λm base p=>bn k true m base p true) m .root p=some x) :
  au prog 63 [.pp 0 g 0 0 b a,.d ((aD.root).d b a),p.v b a] (m.aB g b a) λv s=>v=aO b a x.2.1 x.2.2/\s=x.1.aB g b a:=by
 obtain⟨⟨g1,g2,g3,g4⟩,⟨g5,g6,g7⟩,g8,g9⟩:=hm;unfold bq at hx;simp only[aA.lit]at hx;rw[am (by omega)]at hx;have d4:decide (m.p.re.op=4)=false:=adl (by omega);have aU:=λext=>bt (cX g b a m g1 g2) rfl rfl rfl ext;have du:=m.e9;have bE:=m.dP;rw[am (by omega),am hf]at hx;have hd:decide (m.steps<m.fuel)=true:=adu (by omega);simp only[hd]at aU;have t1:m.step.t.length<=1000000:=by rw[bE.t];exact g8
 have t2:p.at_<=m.step.t.length:=by rw[bE.t];exact g6
 have t3:m.step.same:=λh=>by rw[bE.own,bE.t];exact g9 (by rw[<- bE.bC];exact h)
 generalize oa:m.step=m1 at *;rw[<- du]at cC cI ho hx;obtain⟨d1,d2,d3,_,d5,d6,d7,d8,d9,d10,d11⟩:=VM (o:=m1.p.re.op) (by omega);rw[am (by omega),am (by omega),am (by omega),am (by omega),am (by omega),am (by omega),ap (by omega)]at hx;obtain⟨aL,l,hl⟩:∃aL l,m1.p.re.kids=aL::l:=by
  cases hh:m1.p.re.kids with
  |nil=>rw[hh]at hx;cases hx
  |cons y l=>exact⟨y,l,rfl⟩
 rw[hl]at hx;have hk:m1.p.re.kids[0]?=some aL:=by rw[hl];rfl
 have ek:(0:Int)<(m1.p.re.kids.length:Int):=by rw[hl,adA];omega
 have HN:=gm b a (.el aL) .nil;simp only[aF.d,aD.d,Re.ae,iD,bD]at HN;have cZ:=λext=>bt (rZ ih g b a m1 p _ hx) rfl rfl rfl ext;obtain⟨m2,y1,y2⟩:=x;unfold aA.aB aA.ay at cZ;simp only[zM,aO,aF.d,aD.d,Re.ae]at cZ;unfold aA.aB aA.ay at aU;simp only[zM,aO]at aU;unfold aA.aB aA.ay;refine ar func63 rfl ntmps63 results63 rfl 3 158456325028528677386111158247 (by simp) (by simp) ?_;simp only[zX,simprocAttr,-Int.reduceNatCast',zM,aO,aD.d,Re.ae,d4];refine aj (aU _) (λv s' hv=>?_);obtain⟨rfl,rfl⟩:=hv;simp only[zX,simprocAttr,-Int.reduceNatCast',zM,aO,ads,Re.ae,d1,d2,d3,d5,d6,d7,d8,d9,d10,d11];refine ao mix [8] [(1,[3],[]),(3,[0],[]),(4,[0],[]),(5,[0],[]),(11,[4],[4])] (by rfl) ?_;simp only[zX,simprocAttr,-Int.reduceNatCast',zM,aO,Re.ae,ek,hk];refine bY HN rfl rfl ?_;simp only[zX,simprocAttr,-Int.reduceNatCast',zM,aO,Re.ae];refine bj (cZ _) ?_;simp only[zX,simprocAttr,-Int.reduceNatCast',zM,aO];first
  |(refine⟨an m2 b a,?_⟩;simp only[zM,aO,kq,eJ,aF.d,aD.d,Re.ae];done)
  |exact⟨an m2 b a,rfl⟩
  |exact an m2 b a
theorem E5 (ih:bw k) (g b a:Nat) (m:aA) (re:Re) (p:aw) (hm:m.bW p) (cC:re.set.length<=1000000000) (cI:re.kids.length<=1000000000) (ho:re.op=10) (hf:¬m.fuel<=m.steps) (hx:bq (λm base p=>bn k true m base p true) m (.el re) p=some x) :
  au prog 63 [.pp 0 g 0 0 b a,.d ((aD.el re).d b a),p.v b a] (m.aB g b a) λv s=>v=aO b a x.2.1 x.2.2/\s=x.1.aB g b a:=by
 obtain⟨⟨g1,g2,g3,g4⟩,⟨g5,g6,g7⟩,g8,g9⟩:=hm;unfold bq at hx;simp only[aA.lit]at hx;rw[am (by omega)]at hx;have d4:decide (re.op=4)=false:=adl (by omega);have aU:=λext=>bt (cX g b a m g1 g2) rfl rfl rfl ext;have du:=m.e9;have bE:=m.dP;rw[am (by omega),am hf]at hx;have hd:decide (m.steps<m.fuel)=true:=adu (by omega);simp only[hd]at aU;have t1:m.step.t.length<=1000000:=by rw[bE.t];exact g8
 have t2:p.at_<=m.step.t.length:=by rw[bE.t];exact g6
 have t3:m.step.same:=λh=>by rw[bE.own,bE.t];exact g9 (by rw[<- bE.bC];exact h)
 generalize oa:m.step=m1 at *;obtain⟨d1,d2,d3,_,d5,d6,d7,d8,d9,d10,d11⟩:=RZ (o:=re.op) (by omega);rw[am (by omega),am (by omega),am (by omega),am (by omega),am (by omega),am (by omega),am (by omega),ap (by omega)]at hx;obtain⟨yes,no,l,hl⟩:∃yes no l,re.kids=yes::no::l:=by
  cases hh:re.kids with
  |nil=>rw[hh]at hx;cases hx
  |cons y l=>cases l with
   |nil=>rw[hh]at hx;cases hx
   |cons y' l=>exact⟨y,y',l,rfl⟩
 rw[hl]at hx;simp only at hx;have hk0:re.kids[0]?=some yes:=by rw[hl];rfl
 have oG:re.kids[1]?=some no:=by rw[hl];rfl
 have ek:(0:Int)<(re.kids.length:Int):=by rw[hl,adA];omega
 have oV:(1:Int)<(re.kids.length:Int):=by rw[hl,adA,adA];omega
 by_cases hn:re.n<1\/(p.ah.length:Int)<re.n
 ·rw[ap hn]at hx;cases hx
 rw[am hn]at hx;obtain⟨y,fS⟩:∃y,p.ah[(re.n-1).toNat]?=some y:=⟨_,adn (by omega)⟩
 rw[getD_some fS]at hx;obtain⟨y1,y2⟩:=y;simp only at hx;have w0:IntKind.i64.wrap (re.n-1)=re.n-1:=bM _ (by omega);have nq:0<=re.n-1:=by omega
 have lX:re.n-1<(p.ah.length:Int):=by omega
 by_cases cx:0<=y1
 ·skip
  rw[ap cx]at hx;cases hx;unfold aA.aB aA.ay at aU;simp only[zM,aO]at aU;unfold aA.aB aA.ay;refine ar func63 rfl ntmps63 results63 rfl 3 158456325028528677386111158247 (by simp) (by simp) ?_;simp only[zX,simprocAttr,-Int.reduceNatCast',zM,aO,aD.d,Re.ae,d4];refine aj (aU _) (λv s' hv=>?_);obtain⟨rfl,rfl⟩:=hv;simp only[zX,simprocAttr,-Int.reduceNatCast',zM,aO,ads,Re.ae,d1,d2,d3,d5,d6,d7,d8,d9,d10,d11,oV,oG];refine ao mix [] [(0,[3],[]),(1,[3],[]),(3,[0],[]),(4,[0],[]),(5,[0],[])] (by rfl) ?_;simp only[zX,simprocAttr,-Int.reduceNatCast',zM,aO,Re.ae,w0,nq,lX,fS,bQ,aN];refine⟨by decide,?_⟩;simp only[zX,simprocAttr,-Int.reduceNatCast',zM,aO,Re.ae,cx,ge_iff_le,ek,hk0];refine eO rfl ?_;simp only[zX,simprocAttr,-Int.reduceNatCast',zM,aO];first
   |(refine⟨an m1 b a,?_⟩;simp only[zM,aO,kq,eJ,bQ,aN,aF.d,aD.d,Re.ae];done)
   |exact⟨an m1 b a,rfl⟩
   |exact an m1 b a
 ·skip
  rw[am cx]at hx;cases hx;unfold aA.aB aA.ay at aU;simp only[zM,aO]at aU;unfold aA.aB aA.ay;refine ar func63 rfl ntmps63 results63 rfl 3 158456325028528677386111158247 (by simp) (by simp) ?_;simp only[zX,simprocAttr,-Int.reduceNatCast',zM,aO,aD.d,Re.ae,d4];refine aj (aU _) (λv s' hv=>?_);obtain⟨rfl,rfl⟩:=hv;simp only[zX,simprocAttr,-Int.reduceNatCast',zM,aO,ads,Re.ae,d1,d2,d3,d5,d6,d7,d8,d9,d10,d11,oV,oG];refine ao mix [] [(0,[3],[]),(1,[3],[]),(3,[0],[]),(4,[0],[]),(5,[0],[])] (by rfl) ?_;simp only[zX,simprocAttr,-Int.reduceNatCast',zM,aO,Re.ae,w0,nq,lX,fS,bQ,aN];refine⟨by decide,?_⟩;simp only[zX,simprocAttr,-Int.reduceNatCast',zM,aO,Re.ae,cx,ge_iff_le,ek,hk0];refine eO rfl ?_;simp only[zX,simprocAttr,-Int.reduceNatCast',zM,aO];first
   |(refine⟨an m1 b a,?_⟩;simp only[zM,aO,kq,eJ,bQ,aN,aF.d,aD.d,Re.ae];done)
   |exact⟨an m1 b a,rfl⟩
   |exact an m1 b a
theorem Bp (ih:bw k) (g b a:Nat) (m:aA) (p:aw) (hm:m.bW p) (cC:m.p.re.set.length<=1000000000) (cI:m.p.re.kids.length<=1000000000) (ho:m.p.re.op=10) (hf:¬m.fuel<=m.steps) (hx:bq (λm base p=>bn k true m base p true) m .root p=some x) :
  au prog 63 [.pp 0 g 0 0 b a,.d ((aD.root).d b a),p.v b a] (m.aB g b a) λv s=>v=aO b a x.2.1 x.2.2/\s=x.1.aB g b a:=by
 obtain⟨⟨g1,g2,g3,g4⟩,⟨g5,g6,g7⟩,g8,g9⟩:=hm;unfold bq at hx;simp only[aA.lit]at hx;rw[am (by omega)]at hx;have d4:decide (m.p.re.op=4)=false:=adl (by omega);have aU:=λext=>bt (cX g b a m g1 g2) rfl rfl rfl ext;have du:=m.e9;have bE:=m.dP;rw[am (by omega),am hf]at hx;have hd:decide (m.steps<m.fuel)=true:=adu (by omega);simp only[hd]at aU;have t1:m.step.t.length<=1000000:=by rw[bE.t];exact g8
 have t2:p.at_<=m.step.t.length:=by rw[bE.t];exact g6
 have t3:m.step.same:=λh=>by rw[bE.own,bE.t];exact g9 (by rw[<- bE.bC];exact h)
 generalize oa:m.step=m1 at *;rw[<- du]at cC cI ho hx;obtain⟨d1,d2,d3,_,d5,d6,d7,d8,d9,d10,d11⟩:=RZ (o:=m1.p.re.op) (by omega);rw[am (by omega),am (by omega),am (by omega),am (by omega),am (by omega),am (by omega),am (by omega),ap (by omega)]at hx;obtain⟨yes,no,l,hl⟩:∃yes no l,m1.p.re.kids=yes::no::l:=by
  cases hh:m1.p.re.kids with
  |nil=>rw[hh]at hx;cases hx
  |cons y l=>cases l with
   |nil=>rw[hh]at hx;cases hx
   |cons y' l=>exact⟨y,y',l,rfl⟩
 rw[hl]at hx;simp only at hx;have hk0:m1.p.re.kids[0]?=some yes:=by rw[hl];rfl
 have oG:m1.p.re.kids[1]?=some no:=by rw[hl];rfl
 have ek:(0:Int)<(m1.p.re.kids.length:Int):=by rw[hl,adA];omega
 have oV:(1:Int)<(m1.p.re.kids.length:Int):=by rw[hl,adA,adA];omega
 by_cases hn:m1.p.re.n<1\/(p.ah.length:Int)<m1.p.re.n
 ·rw[ap hn]at hx;cases hx
 rw[am hn]at hx;obtain⟨y,fS⟩:∃y,p.ah[(m1.p.re.n-1).toNat]?=some y:=⟨_,adn (by omega)⟩
 rw[getD_some fS]at hx;obtain⟨y1,y2⟩:=y;simp only at hx;have w0:IntKind.i64.wrap (m1.p.re.n-1)=m1.p.re.n-1:=bM _ (by omega);have nq:0<=m1.p.re.n-1:=by omega
 have lX:m1.p.re.n-1<(p.ah.length:Int):=by omega
 by_cases cx:0<=y1
 ·skip
  rw[ap cx]at hx;cases hx;unfold aA.aB aA.ay at aU;simp only[zM,aO]at aU;unfold aA.aB aA.ay;refine ar func63 rfl ntmps63 results63 rfl 3 158456325028528677386111158247 (by simp) (by simp) ?_;simp only[zX,simprocAttr,-Int.reduceNatCast',zM,aO,aD.d,Re.ae,d4];refine aj (aU _) (λv s' hv=>?_);obtain⟨rfl,rfl⟩:=hv;simp only[zX,simprocAttr,-Int.reduceNatCast',zM,aO,ads,Re.ae,d1,d2,d3,d5,d6,d7,d8,d9,d10,d11,oV,oG];refine ao mix [] [(0,[3],[]),(1,[3],[]),(3,[0],[]),(4,[0],[]),(5,[0],[])] (by rfl) ?_;simp only[zX,simprocAttr,-Int.reduceNatCast',zM,aO,Re.ae,w0,nq,lX,fS,bQ,aN];refine⟨by decide,?_⟩;simp only[zX,simprocAttr,-Int.reduceNatCast',zM,aO,Re.ae,cx,ge_iff_le,ek,hk0];refine eO rfl ?_;simp only[zX,simprocAttr,-Int.reduceNatCast',zM,aO];first
   |(refine⟨an m1 b a,?_⟩;simp only[zM,aO,kq,eJ,bQ,aN,aF.d,aD.d,Re.ae];done)
   |exact⟨an m1 b a,rfl⟩
   |exact an m1 b a
 ·skip
  rw[am cx]at hx;cases hx;unfold aA.aB aA.ay at aU;simp only[zM,aO]at aU;unfold aA.aB aA.ay;refine ar func63 rfl ntmps63 results63 rfl 3 158456325028528677386111158247 (by simp) (by simp) ?_;simp only[zX,simprocAttr,-Int.reduceNatCast',zM,aO,aD.d,Re.ae,d4];refine aj (aU _) (λv s' hv=>?_);obtain⟨rfl,rfl⟩:=hv;simp only[zX,simprocAttr,-Int.reduceNatCast',zM,aO,ads,Re.ae,d1,d2,d3,d5,d6,d7,d8,d9,d10,d11,oV,oG];refine ao mix [] [(0,[3],[]),(1,[3],[]),(3,[0],[]),(4,[0],[]),(5,[0],[])] (by rfl) ?_;simp only[zX,simprocAttr,-Int.reduceNatCast',zM,aO,Re.ae,w0,nq,lX,fS,bQ,aN];refine⟨by decide,?_⟩;simp only[zX,simprocAttr,-Int.reduceNatCast',zM,aO,Re.ae,cx,ge_iff_le,ek,hk0];refine eO rfl ?_;simp only[zX,simprocAttr,-Int.reduceNatCast',zM,aO];first
   |(refine⟨an m1 b a,?_⟩;simp only[zM,aO,kq,eJ,bQ,aN,aF.d,aD.d,Re.ae];done)
   |exact⟨an m1 b a,rfl⟩
   |exact an m1 b a
theorem FJ (ih:bw k) (g b a:Nat) (m:aA) (re:Re) (p:aw) (hm:m.bW p) (cC:re.set.length<=1000000000) (cI:re.kids.length<=1000000000) (ho:re.op=11) (hf:¬m.fuel<=m.steps) (hx:bq (λm base p=>bn k true m base p true) m (.el re) p=some x) :
  au prog 63 [.pp 0 g 0 0 b a,.d ((aD.el re).d b a),p.v b a] (m.aB g b a) λv s=>v=aO b a x.2.1 x.2.2/\s=x.1.aB g b a:=by
 obtain⟨⟨g1,g2,g3,g4⟩,⟨g5,g6,g7⟩,g8,g9⟩:=hm;unfold bq at hx;simp only[aA.lit]at hx;rw[am (by omega)]at hx;have d4:decide (re.op=4)=false:=adl (by omega);have aU:=λext=>bt (cX g b a m g1 g2) rfl rfl rfl ext;have du:=m.e9;have bE:=m.dP;rw[am (by omega),am hf]at hx;have hd:decide (m.steps<m.fuel)=true:=adu (by omega);simp only[hd]at aU;have t1:m.step.t.length<=1000000:=by rw[bE.t];exact g8
 have t2:p.at_<=m.step.t.length:=by rw[bE.t];exact g6
 have t3:m.step.same:=λh=>by rw[bE.own,bE.t];exact g9 (by rw[<- bE.bC];exact h)
 generalize oa:m.step=m1 at *;obtain⟨d1,d2,d3,_,d5,d6,d7,d8,d9,d10,d11⟩:=RQ (o:=re.op) (by omega);rw[am (by omega),am (by omega),am (by omega),am (by omega),am (by omega),am (by omega),am (by omega),am (by omega),ap (by omega)]at hx;by_cases hn:re.n<0\/5<re.n
 ·rw[ap hn]at hx;cases hx
 rw[am hn]at hx;cases hx;have has:=wF re.n m1.t p.at_ (by omega) (by omega) t1 g5 t2;simp only[i64,bV]at has;cases hT:m1.bC with
 |false =>
  have hM:=cT m1 b a (.d (av m1.t)) rfl;rw[oe hT]at aU ⊢;unfold aA.aB aA.ay at aU;simp only[zM,aO]at aU;unfold aA.aB aA.ay;simp only[av]at has;refine ar func63 rfl ntmps63 results63 rfl 3 158456325028528677386111158247 (by simp) (by simp) ?_;simp only[zX,simprocAttr,-Int.reduceNatCast',zM,aO,aD.d,Re.ae,d4];refine aj (aU _) (λv s' hv=>?_);obtain⟨rfl,rfl⟩:=hv;simp only[zX,simprocAttr,-Int.reduceNatCast',zM,aO,ads,Re.ae,d1,d2,d3,d5,d6,d7,d8,d9,d10,d11];refine ao mix [] [(0,[3],[]),(2,[0],[]),(3,[0],[]),(4,[0],[]),(6,[0],[]),(7,[0],[]),(8,[0],[]),(9,[3],[]),(10,[3],[]),(12,[4],[4])] (by rfl) ?_;simp only[zX,simprocAttr,-Int.reduceNatCast',zM,aO,av,Re.ae];refine bY has rfl rfl ?_;simp only[zX,simprocAttr,-Int.reduceNatCast',zM,aO];first|exact⟨hM,rfl⟩|exact hM
 |true =>
  have hM:=cT m1 b a (.so 2 m1.eV 0 m1.t.length) rfl;have xb:=t3 hT;rw[mh hT]at aU ⊢;unfold aA.aB aA.ay at aU;simp only[zM,aO]at aU;unfold aA.aB aA.ay;refine ar func63 rfl ntmps63 results63 rfl 3 158456325028528677386111158247 (by simp) (by simp) ?_;simp only[zX,simprocAttr,-Int.reduceNatCast',zM,aO,aD.d,Re.ae,d4];refine aj (aU _) (λv s' hv=>?_);obtain⟨rfl,rfl⟩:=hv;simp only[zX,simprocAttr,-Int.reduceNatCast',zM,aO,ads,Re.ae,d1,d2,d3,d5,d6,d7,d8,d9,d10,d11];refine ao mix [] [(0,[3],[]),(2,[0],[]),(3,[0],[]),(4,[0],[]),(6,[0],[]),(7,[0],[]),(8,[0],[]),(9,[3],[]),(10,[3],[]),(11,[2],[]),(12,[4],[4])] (by rfl) ?_;simp only[zX,simprocAttr,-Int.reduceNatCast',zM,aO,Re.ae];refine xF has xb rfl ?_;simp only[zX,simprocAttr,-Int.reduceNatCast',zM,aO];first|exact⟨hM,rfl⟩|exact hM
theorem Bc (ih:bw k) (g b a:Nat) (m:aA) (p:aw) (hm:m.bW p) (cC:m.p.re.set.length<=1000000000) (cI:m.p.re.kids.length<=1000000000) (ho:m.p.re.op=11) (hf:¬m.fuel<=m.steps) (hx:bq (λm base p=>bn k true m base p true) m .root p=some x) :
  au prog 63 [.pp 0 g 0 0 b a,.d ((aD.root).d b a),p.v b a] (m.aB g b a) λv s=>v=aO b a x.2.1 x.2.2/\s=x.1.aB g b a:=by
 obtain⟨⟨g1,g2,g3,g4⟩,⟨g5,g6,g7⟩,g8,g9⟩:=hm;unfold bq at hx;simp only[aA.lit]at hx;rw[am (by omega)]at hx;have d4:decide (m.p.re.op=4)=false:=adl (by omega);have aU:=λext=>bt (cX g b a m g1 g2) rfl rfl rfl ext;have du:=m.e9;have bE:=m.dP;rw[am (by omega),am hf]at hx;have hd:decide (m.steps<m.fuel)=true:=adu (by omega);simp only[hd]at aU;have t1:m.step.t.length<=1000000:=by rw[bE.t];exact g8
 have t2:p.at_<=m.step.t.length:=by rw[bE.t];exact g6
 have t3:m.step.same:=λh=>by rw[bE.own,bE.t];exact g9 (by rw[<- bE.bC];exact h)
 generalize oa:m.step=m1 at *;rw[<- du]at cC cI ho hx;obtain⟨d1,d2,d3,_,d5,d6,d7,d8,d9,d10,d11⟩:=RQ (o:=m1.p.re.op) (by omega);rw[am (by omega),am (by omega),am (by omega),am (by omega),am (by omega),am (by omega),am (by omega),am (by omega),ap (by omega)]at hx;by_cases hn:m1.p.re.n<0\/5<m1.p.re.n
 ·rw[ap hn]at hx;cases hx
 rw[am hn]at hx;cases hx;have has:=wF m1.p.re.n m1.t p.at_ (by omega) (by omega) t1 g5 t2;simp only[i64,bV]at has;cases hT:m1.bC with
 |false =>
  have hM:=cT m1 b a (.d (av m1.t)) rfl;rw[oe hT]at aU ⊢;unfold aA.aB aA.ay at aU;simp only[zM,aO]at aU;unfold aA.aB aA.ay;simp only[av]at has;refine ar func63 rfl ntmps63 results63 rfl 3 158456325028528677386111158247 (by simp) (by simp) ?_;simp only[zX,simprocAttr,-Int.reduceNatCast',zM,aO,aD.d,Re.ae,d4];refine aj (aU _) (λv s' hv=>?_);obtain⟨rfl,rfl⟩:=hv;simp only[zX,simprocAttr,-Int.reduceNatCast',zM,aO,ads,Re.ae,d1,d2,d3,d5,d6,d7,d8,d9,d10,d11];refine ao mix [] [(0,[3],[]),(2,[0],[]),(3,[0],[]),(4,[0],[]),(6,[0],[]),(7,[0],[]),(8,[0],[]),(9,[3],[]),(10,[3],[]),(12,[4],[4])] (by rfl) ?_;simp only[zX,simprocAttr,-Int.reduceNatCast',zM,aO,av,Re.ae];refine bY has rfl rfl ?_;simp only[zX,simprocAttr,-Int.reduceNatCast',zM,aO];first|exact⟨hM,rfl⟩|exact hM
 |true =>
  have hM:=cT m1 b a (.so 2 m1.eV 0 m1.t.length) rfl;have xb:=t3 hT;rw[mh hT]at aU ⊢;unfold aA.aB aA.ay at aU;simp only[zM,aO]at aU;unfold aA.aB aA.ay;refine ar func63 rfl ntmps63 results63 rfl 3 158456325028528677386111158247 (by simp) (by simp) ?_;simp only[zX,simprocAttr,-Int.reduceNatCast',zM,aO,aD.d,Re.ae,d4];refine aj (aU _) (λv s' hv=>?_);obtain⟨rfl,rfl⟩:=hv;simp only[zX,simprocAttr,-Int.reduceNatCast',zM,aO,ads,Re.ae,d1,d2,d3,d5,d6,d7,d8,d9,d10,d11];refine ao mix [] [(0,[3],[]),(2,[0],[]),(3,[0],[]),(4,[0],[]),(6,[0],[]),(7,[0],[]),(8,[0],[]),(9,[3],[]),(10,[3],[]),(11,[2],[]),(12,[4],[4])] (by rfl) ?_;simp only[zX,simprocAttr,-Int.reduceNatCast',zM,aO,Re.ae];refine xF has xb rfl ?_;simp only[zX,simprocAttr,-Int.reduceNatCast',zM,aO];first|exact⟨hM,rfl⟩|exact hM
theorem CJ (ih:bw k) (g b a:Nat) (m:aA) (re:Re) (p:aw) (hm:m.bW p) (cC:re.set.length<=1000000000) (cI:re.kids.length<=1000000000) (ho:re.op<1\/11<re.op) (hf:¬m.fuel<=m.steps) (hx:bq (λm base p=>bn k true m base p true) m (.el re) p=some x) :
  au prog 63 [.pp 0 g 0 0 b a,.d ((aD.el re).d b a),p.v b a] (m.aB g b a) λv s=>v=aO b a x.2.1 x.2.2/\s=x.1.aB g b a:=by
 obtain⟨⟨g1,g2,g3,g4⟩,⟨g5,g6,g7⟩,g8,g9⟩:=hm;unfold bq at hx;simp only[aA.lit]at hx;rw[am (by omega)]at hx;have d4:decide (re.op=4)=false:=adl (by omega);have aU:=λext=>bt (cX g b a m g1 g2) rfl rfl rfl ext;have du:=m.e9;have bE:=m.dP;rw[am (by omega),am hf]at hx;have hd:decide (m.steps<m.fuel)=true:=adu (by omega);simp only[hd]at aU;have t1:m.step.t.length<=1000000:=by rw[bE.t];exact g8
 have t2:p.at_<=m.step.t.length:=by rw[bE.t];exact g6
 have t3:m.step.same:=λh=>by rw[bE.own,bE.t];exact g9 (by rw[<- bE.bC];exact h)
 generalize oa:m.step=m1 at *;have d1:decide (re.op=1)=false:=adl (by omega);have d2:decide (re.op=2)=false:=adl (by omega);have d3:decide (re.op=3)=false:=adl (by omega);have d5:decide (re.op=5)=false:=adl (by omega);have d6:decide (re.op=6)=false:=adl (by omega);have d7:decide (re.op=7)=false:=adl (by omega);have d8:decide (re.op=8)=false:=adl (by omega);have d9:decide (re.op=9)=false:=adl (by omega);have d10:decide (re.op=10)=false:=adl (by omega);have d11:decide (re.op=11)=false:=adl (by omega);rw[am (by omega),am (by omega),am (by omega),am (by omega),am (by omega),am (by omega),am (by omega),am (by omega),am (by omega)]at hx;cases hx;unfold aA.aB aA.ay at aU;simp only[zM,aO]at aU;unfold aA.aB aA.ay;refine ar func63 rfl ntmps63 results63 rfl 3 158456325028528677386111158247 (by simp) (by simp) ?_;simp only[zX,simprocAttr,-Int.reduceNatCast',zM,aO,aD.d,Re.ae,d4];refine aj (aU _) (λv s' hv=>?_);obtain⟨rfl,rfl⟩:=hv;simp only[zX,simprocAttr,-Int.reduceNatCast',zM,aO,ads,Re.ae,d1,d2,d3,d5,d6,d7,d8,d9,d10,d11];first
  |(refine⟨an m1 b a,?_⟩;simp only[zM,aO,kq,eJ,aF.d,aD.d,Re.ae];done)
  |exact⟨an m1 b a,rfl⟩
  |exact an m1 b a
theorem zg (ih:bw k) (g b a:Nat) (m:aA) (p:aw) (hm:m.bW p) (cC:m.p.re.set.length<=1000000000) (cI:m.p.re.kids.length<=1000000000) (ho:m.p.re.op<1\/11<m.p.re.op) (hf:¬m.fuel<=m.steps) (hx:bq (λm base p=>bn k true m base p true) m .root p=some x) :
  au prog 63 [.pp 0 g 0 0 b a,.d ((aD.root).d b a),p.v b a] (m.aB g b a) λv s=>v=aO b a x.2.1 x.2.2/\s=x.1.aB g b a:=by
 obtain⟨⟨g1,g2,g3,g4⟩,⟨g5,g6,g7⟩,g8,g9⟩:=hm;unfold bq at hx;simp only[aA.lit]at hx;rw[am (by omega)]at hx;have d4:decide (m.p.re.op=4)=false:=adl (by omega);have aU:=λext=>bt (cX g b a m g1 g2) rfl rfl rfl ext;have du:=m.e9;have bE:=m.dP;rw[am (by omega),am hf]at hx;have hd:decide (m.steps<m.fuel)=true:=adu (by omega);simp only[hd]at aU;have t1:m.step.t.length<=1000000:=by rw[bE.t];exact g8
 have t2:p.at_<=m.step.t.length:=by rw[bE.t];exact g6
 have t3:m.step.same:=λh=>by rw[bE.own,bE.t];exact g9 (by rw[<- bE.bC];exact h)
 generalize oa:m.step=m1 at *;rw[<- du]at cC cI ho hx;have d1:decide (m1.p.re.op=1)=false:=adl (by omega);have d2:decide (m1.p.re.op=2)=false:=adl (by omega);have d3:decide (m1.p.re.op=3)=false:=adl (by omega);have d5:decide (m1.p.re.op=5)=false:=adl (by omega);have d6:decide (m1.p.re.op=6)=false:=adl (by omega);have d7:decide (m1.p.re.op=7)=false:=adl (by omega);have d8:decide (m1.p.re.op=8)=false:=adl (by omega);have d9:decide (m1.p.re.op=9)=false:=adl (by omega);have d10:decide (m1.p.re.op=10)=false:=adl (by omega);have d11:decide (m1.p.re.op=11)=false:=adl (by omega);rw[am (by omega),am (by omega),am (by omega),am (by omega),am (by omega),am (by omega),am (by omega),am (by omega),am (by omega)]at hx;cases hx;unfold aA.aB aA.ay at aU;simp only[zM,aO]at aU;unfold aA.aB aA.ay;refine ar func63 rfl ntmps63 results63 rfl 3 158456325028528677386111158247 (by simp) (by simp) ?_;simp only[zX,simprocAttr,-Int.reduceNatCast',zM,aO,aD.d,Re.ae,d4];refine aj (aU _) (λv s' hv=>?_);obtain⟨rfl,rfl⟩:=hv;simp only[zX,simprocAttr,-Int.reduceNatCast',zM,aO,ads,Re.ae,d1,d2,d3,d5,d6,d7,d8,d9,d10,d11];first
  |(refine⟨an m1 b a,?_⟩;simp only[zM,aO,kq,eJ,aF.d,aD.d,Re.ae];done)
  |exact⟨an m1 b a,rfl⟩
  |exact an m1 b a
end Go.Proofs.Ytphfjhaffbfpfaa
