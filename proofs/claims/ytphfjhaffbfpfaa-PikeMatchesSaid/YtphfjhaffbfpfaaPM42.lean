/- A part of the proof (G34). -/
import Derived.Test.YtphfjhaffbfpfaaPM41
import Derived.Test.YtphfjhaffbfpfaaPM18
set_option linter.all false
set_option maxRecDepth 100000
set_option maxHeartbeats 80000000
namespace Go.Proofs.Ytphfjhaffbfpfaa
open Go.VL Go.Proofs.Try
variable{k:Nat}{x:Rs}
theorem AW (ih:bw k) (g b a:Nat) (m:aA) (re:Re) (p:aw) (hm:m.bW p) (cC:re.set.length<=1000000000) (cI:re.kids.length<=1000000000) (ho:re.op=4) (mN:re.mode=2) (hx:bq (λm base p=>bn k true m base p true) m (.el re) p=some x) :
  au prog 63 [.pp 0 g 0 0 b a,.d ((aD.el re).d b a),p.v b a] (m.aB g b a) λv s=>v=aO b a x.2.1 x.2.2/\s=x.1.aB g b a:=by
 obtain⟨⟨g1,g2,g3,g4⟩,⟨g5,g6,g7⟩,g8,g9⟩:=hm;unfold bq at hx;simp only[aA.lit]at hx;rw[am (by omega)]at hx;rw[ap ho,ap mN]at hx;have d4:decide (re.op=4)=true:=adu ho;have dm:decide (re.mode=2)=true:=adu mN;have aU:=λext=>bt (rZ ih g b a m p _ hx) rfl rfl rfl ext;obtain⟨m1,y1,y2⟩:=x;unfold aA.aB aA.ay at aU;simp only[zM,aO,aF.d,aD.d,Re.ae]at aU;unfold aA.aB aA.ay;refine ar func63 rfl ntmps63 results63 rfl 3 158456325028528677386111158247 (by simp) (by simp) ?_;simp only[zX,simprocAttr,zM,aO,aD.d,Re.ae,d4,dm];refine aY [5] (by simp [bg,bT,bf.go,bf,cE,aF.d,aD.d,Re.ae,iD,bD]) (aj (aU _) (λv s' hv=>?_));obtain⟨rfl,rfl⟩:=hv;simp only[zX,simprocAttr,zM,aO];first
  |(refine⟨an m1 b a,?_⟩;simp only[zM,aO,kq,eJ,aF.d,aD.d,Re.ae];done)
  |exact⟨an m1 b a,rfl⟩
  |exact an m1 b a
theorem xY (ih:bw k) (g b a:Nat) (m:aA) (p:aw) (hm:m.bW p) (cC:m.p.re.set.length<=1000000000) (cI:m.p.re.kids.length<=1000000000) (ho:m.p.re.op=4) (mN:m.p.re.mode=2) (hx:bq (λm base p=>bn k true m base p true) m .root p=some x) :
  au prog 63 [.pp 0 g 0 0 b a,.d ((aD.root).d b a),p.v b a] (m.aB g b a) λv s=>v=aO b a x.2.1 x.2.2/\s=x.1.aB g b a:=by
 obtain⟨⟨g1,g2,g3,g4⟩,⟨g5,g6,g7⟩,g8,g9⟩:=hm;unfold bq at hx;simp only[aA.lit]at hx;rw[am (by omega)]at hx;rw[ap ho,ap mN]at hx;have d4:decide (m.p.re.op=4)=true:=adu ho;have dm:decide (m.p.re.mode=2)=true:=adu mN;have aU:=λext=>bt (rZ ih g b a m p _ hx) rfl rfl rfl ext;obtain⟨m1,y1,y2⟩:=x;unfold aA.aB aA.ay at aU;simp only[zM,aO,aF.d,aD.d,Re.ae]at aU;unfold aA.aB aA.ay;refine ar func63 rfl ntmps63 results63 rfl 3 158456325028528677386111158247 (by simp) (by simp) ?_;simp only[zX,simprocAttr,zM,aO,aD.d,Re.ae,d4,dm];refine aY [5] (by simp [bg,bT,bf.go,bf,cE,aF.d,aD.d,Re.ae,iD,bD]) (aj (aU _) (λv s' hv=>?_));obtain⟨rfl,rfl⟩:=hv;simp only[zX,simprocAttr,zM,aO];first
  |(refine⟨an m1 b a,?_⟩;simp only[zM,aO,kq,eJ,aF.d,aD.d,Re.ae];done)
  |exact⟨an m1 b a,rfl⟩
  |exact an m1 b a
theorem Dn (ih:bw k) (g b a:Nat) (m:aA) (re:Re) (p:aw) (hm:m.bW p) (cC:re.set.length<=1000000000) (cI:re.kids.length<=1000000000) (ho:re.op=4) (mN:¬re.mode=2) (hx:bq (λm base p=>bn k true m base p true) m (.el re) p=some x) :
  au prog 63 [.pp 0 g 0 0 b a,.d ((aD.el re).d b a),p.v b a] (m.aB g b a) λv s=>v=aO b a x.2.1 x.2.2/\s=x.1.aB g b a:=by
 obtain⟨⟨g1,g2,g3,g4⟩,⟨g5,g6,g7⟩,g8,g9⟩:=hm;unfold bq at hx;simp only[aA.lit]at hx;rw[am (by omega)]at hx;rw[ap ho,am mN]at hx;have d4:decide (re.op=4)=true:=adu ho;have dm:decide (re.mode=2)=false:=adl mN;cases hx;unfold aA.aB aA.ay;refine ar func63 rfl ntmps63 results63 rfl 3 158456325028528677386111158247 (by simp) (by simp) ?_;simp only[zX,simprocAttr,zM,aO,aD.d,Re.ae,d4,dm];refine eO rfl ?_;simp only[zX,simprocAttr,zM,aO,aD.d,Re.ae,d4,dm];first
  |(refine⟨an m b a,?_⟩;simp only[zM,aO,kq,eJ,aF.d,aD.d,Re.ae];done)
  |exact⟨an m b a,rfl⟩
  |exact an m b a
theorem ze (ih:bw k) (g b a:Nat) (m:aA) (p:aw) (hm:m.bW p) (cC:m.p.re.set.length<=1000000000) (cI:m.p.re.kids.length<=1000000000) (ho:m.p.re.op=4) (mN:¬m.p.re.mode=2) (hx:bq (λm base p=>bn k true m base p true) m .root p=some x) :
  au prog 63 [.pp 0 g 0 0 b a,.d ((aD.root).d b a),p.v b a] (m.aB g b a) λv s=>v=aO b a x.2.1 x.2.2/\s=x.1.aB g b a:=by
 obtain⟨⟨g1,g2,g3,g4⟩,⟨g5,g6,g7⟩,g8,g9⟩:=hm;unfold bq at hx;simp only[aA.lit]at hx;rw[am (by omega)]at hx;rw[ap ho,am mN]at hx;have d4:decide (m.p.re.op=4)=true:=adu ho;have dm:decide (m.p.re.mode=2)=false:=adl mN;cases hx;unfold aA.aB aA.ay;refine ar func63 rfl ntmps63 results63 rfl 3 158456325028528677386111158247 (by simp) (by simp) ?_;simp only[zX,simprocAttr,zM,aO,aD.d,Re.ae,d4,dm];refine eO rfl ?_;simp only[zX,simprocAttr,zM,aO,aD.d,Re.ae,d4,dm];first
  |(refine⟨an m b a,?_⟩;simp only[zM,aO,kq,eJ,aF.d,aD.d,Re.ae];done)
  |exact⟨an m b a,rfl⟩
  |exact an m b a
theorem DV (ih:bw k) (g b a:Nat) (m:aA) (re:Re) (p:aw) (hm:m.bW p) (cC:re.set.length<=1000000000) (cI:re.kids.length<=1000000000) (ho:¬re.op=4) (hf:m.fuel<=m.steps) (hx:bq (λm base p=>bn k true m base p true) m (.el re) p=some x) :
  au prog 63 [.pp 0 g 0 0 b a,.d ((aD.el re).d b a),p.v b a] (m.aB g b a) λv s=>v=aO b a x.2.1 x.2.2/\s=x.1.aB g b a:=by
 obtain⟨⟨g1,g2,g3,g4⟩,⟨g5,g6,g7⟩,g8,g9⟩:=hm;unfold bq at hx;simp only[aA.lit]at hx;rw[am (by omega)]at hx;rw[am ho,ap hf]at hx;have d4:decide (re.op=4)=false:=adl ho;have aU:=λext=>bt (cX g b a m g1 g2) rfl rfl rfl ext;have hd:decide (m.steps<m.fuel)=false:=adl (by omega);simp only[hd]at aU;cases hx;unfold aA.aB aA.ay at aU;simp only[zM,aO]at aU;unfold aA.aB aA.ay;refine ar func63 rfl ntmps63 results63 rfl 3 158456325028528677386111158247 (by simp) (by simp) ?_;simp only[zX,simprocAttr,zM,aO,aD.d,Re.ae,d4];refine aj (aU _) (λv s' hv=>?_);obtain⟨rfl,rfl⟩:=hv;simp only[zX,simprocAttr,zM,aO,adz];first
  |(refine⟨an m.step b a,?_⟩;simp only[zM,aO,kq,eJ,aF.d,aD.d,Re.ae];done)
  |exact⟨an m.step b a,rfl⟩
  |exact an m.step b a
theorem zp (ih:bw k) (g b a:Nat) (m:aA) (p:aw) (hm:m.bW p) (cC:m.p.re.set.length<=1000000000) (cI:m.p.re.kids.length<=1000000000) (ho:¬m.p.re.op=4) (hf:m.fuel<=m.steps) (hx:bq (λm base p=>bn k true m base p true) m .root p=some x) :
  au prog 63 [.pp 0 g 0 0 b a,.d ((aD.root).d b a),p.v b a] (m.aB g b a) λv s=>v=aO b a x.2.1 x.2.2/\s=x.1.aB g b a:=by
 obtain⟨⟨g1,g2,g3,g4⟩,⟨g5,g6,g7⟩,g8,g9⟩:=hm;unfold bq at hx;simp only[aA.lit]at hx;rw[am (by omega)]at hx;rw[am ho,ap hf]at hx;have d4:decide (m.p.re.op=4)=false:=adl ho;have aU:=λext=>bt (cX g b a m g1 g2) rfl rfl rfl ext;have hd:decide (m.steps<m.fuel)=false:=adl (by omega);simp only[hd]at aU;cases hx;unfold aA.aB aA.ay at aU;simp only[zM,aO]at aU;unfold aA.aB aA.ay;refine ar func63 rfl ntmps63 results63 rfl 3 158456325028528677386111158247 (by simp) (by simp) ?_;simp only[zX,simprocAttr,zM,aO,aD.d,Re.ae,d4];refine aj (aU _) (λv s' hv=>?_);obtain⟨rfl,rfl⟩:=hv;simp only[zX,simprocAttr,zM,aO,adz];first
  |(refine⟨an m.step b a,?_⟩;simp only[zM,aO,kq,eJ,aF.d,aD.d,Re.ae];done)
  |exact⟨an m.step b a,rfl⟩
  |exact an m.step b a
theorem Ih (ih:bw k) (g b a:Nat) (m:aA) (re:Re) (p:aw) (hm:m.bW p) (cC:re.set.length<=1000000000) (cI:re.kids.length<=1000000000) (ho:re.op=1) (hf:¬m.fuel<=m.steps) (hx:bq (λm base p=>bn k true m base p true) m (.el re) p=some x) :
  au prog 63 [.pp 0 g 0 0 b a,.d ((aD.el re).d b a),p.v b a] (m.aB g b a) λv s=>v=aO b a x.2.1 x.2.2/\s=x.1.aB g b a:=by
 obtain⟨⟨g1,g2,g3,g4⟩,⟨g5,g6,g7⟩,g8,g9⟩:=hm;unfold bq at hx;simp only[aA.lit]at hx;rw[am (by omega)]at hx;have d4:decide (re.op=4)=false:=adl (by omega);have aU:=λext=>bt (cX g b a m g1 g2) rfl rfl rfl ext;have du:=m.e9;have bE:=m.dP;rw[am (by omega),am hf]at hx;have hd:decide (m.steps<m.fuel)=true:=adu (by omega);simp only[hd]at aU;have t1:m.step.t.length<=1000000:=by rw[bE.t];exact g8
 have t2:p.at_<=m.step.t.length:=by rw[bE.t];exact g6
 have t3:m.step.same:=λh=>by rw[bE.own,bE.t];exact g9 (by rw[<- bE.bC];exact h)
 generalize oa:m.step=m1 at *;obtain⟨d1,d2,d3,_,d5,d6,d7,d8,d9,d10,d11⟩:=Vp (o:=re.op) (by omega);rw[ap ho]at hx;cases hx;have cZ:=λext=>bt (Kf g b a m1 (.el re) re p rfl cC g5 t1 t3) rfl rfl rfl ext;generalize hy:kr m1.t re p=y at *;obtain⟨y1,y2⟩:=y;unfold aA.aB aA.ay at cZ;simp only[zM,aO,aF.d,aD.d,Re.ae]at cZ;unfold aA.aB aA.ay at aU;simp only[zM,aO]at aU;unfold aA.aB aA.ay;refine ar func63 rfl ntmps63 results63 rfl 3 158456325028528677386111158247 (by simp) (by simp) ?_;simp only[zX,simprocAttr,zM,aO,aD.d,Re.ae,d4];refine aj (aU _) (λv s' hv=>?_);obtain⟨rfl,rfl⟩:=hv;simp only[zX,simprocAttr,zM,aO,ads,Re.ae,d1,d2,d3,d5,d6,d7,d8,d9,d10,d11];refine aj (cZ _) (λv s' hv=>?_);obtain⟨rfl,rfl⟩:=hv;simp only[zX,simprocAttr,zM,aO];first
  |(refine⟨an m1 b a,?_⟩;simp only[zM,aO,kq,eJ,aF.d,aD.d,Re.ae];done)
  |exact⟨an m1 b a,rfl⟩
  |exact an m1 b a
theorem D4 (ih:bw k) (g b a:Nat) (m:aA) (p:aw) (hm:m.bW p) (cC:m.p.re.set.length<=1000000000) (cI:m.p.re.kids.length<=1000000000) (ho:m.p.re.op=1) (hf:¬m.fuel<=m.steps) (hx:bq (λm base p=>bn k true m base p true) m .root p=some x) :
  au prog 63 [.pp 0 g 0 0 b a,.d ((aD.root).d b a),p.v b a] (m.aB g b a) λv s=>v=aO b a x.2.1 x.2.2/\s=x.1.aB g b a:=by
 obtain⟨⟨g1,g2,g3,g4⟩,⟨g5,g6,g7⟩,g8,g9⟩:=hm;unfold bq at hx;simp only[aA.lit]at hx;rw[am (by omega)]at hx;have d4:decide (m.p.re.op=4)=false:=adl (by omega);have aU:=λext=>bt (cX g b a m g1 g2) rfl rfl rfl ext;have du:=m.e9;have bE:=m.dP;rw[am (by omega),am hf]at hx;have hd:decide (m.steps<m.fuel)=true:=adu (by omega);simp only[hd]at aU;have t1:m.step.t.length<=1000000:=by rw[bE.t];exact g8
 have t2:p.at_<=m.step.t.length:=by rw[bE.t];exact g6
 have t3:m.step.same:=λh=>by rw[bE.own,bE.t];exact g9 (by rw[<- bE.bC];exact h)
 generalize oa:m.step=m1 at *;rw[<- du]at cC cI ho hx;obtain⟨d1,d2,d3,_,d5,d6,d7,d8,d9,d10,d11⟩:=Vp (o:=m1.p.re.op) (by omega);rw[ap ho]at hx;cases hx;have cZ:=λext=>bt (Kf g b a m1 .root m1.p.re p rfl cC g5 t1 t3) rfl rfl rfl ext;generalize hy:kr m1.t m1.p.re p=y at *;obtain⟨y1,y2⟩:=y;unfold aA.aB aA.ay at cZ;simp only[zM,aO,aF.d,aD.d,Re.ae]at cZ;unfold aA.aB aA.ay at aU;simp only[zM,aO]at aU;unfold aA.aB aA.ay;refine ar func63 rfl ntmps63 results63 rfl 3 158456325028528677386111158247 (by simp) (by simp) ?_;simp only[zX,simprocAttr,zM,aO,aD.d,Re.ae,d4];refine aj (aU _) (λv s' hv=>?_);obtain⟨rfl,rfl⟩:=hv;simp only[zX,simprocAttr,zM,aO,ads,Re.ae,d1,d2,d3,d5,d6,d7,d8,d9,d10,d11];refine aj (cZ _) (λv s' hv=>?_);obtain⟨rfl,rfl⟩:=hv;simp only[zX,simprocAttr,zM,aO];first
  |(refine⟨an m1 b a,?_⟩;simp only[zM,aO,kq,eJ,aF.d,aD.d,Re.ae];done)
  |exact⟨an m1 b a,rfl⟩
  |exact an m1 b a
theorem H0 (ih:bw k) (g b a:Nat) (m:aA) (re:Re) (p:aw) (hm:m.bW p) (cC:re.set.length<=1000000000) (cI:re.kids.length<=1000000000) (ho:re.op=3) (hf:¬m.fuel<=m.steps) (hx:bq (λm base p=>bn k true m base p true) m (.el re) p=some x) :
  au prog 63 [.pp 0 g 0 0 b a,.d ((aD.el re).d b a),p.v b a] (m.aB g b a) λv s=>v=aO b a x.2.1 x.2.2/\s=x.1.aB g b a:=by
 obtain⟨⟨g1,g2,g3,g4⟩,⟨g5,g6,g7⟩,g8,g9⟩:=hm;unfold bq at hx;simp only[aA.lit]at hx;rw[am (by omega)]at hx;have d4:decide (re.op=4)=false:=adl (by omega);have aU:=λext=>bt (cX g b a m g1 g2) rfl rfl rfl ext;have du:=m.e9;have bE:=m.dP;rw[am (by omega),am hf]at hx;have hd:decide (m.steps<m.fuel)=true:=adu (by omega);simp only[hd]at aU;have t1:m.step.t.length<=1000000:=by rw[bE.t];exact g8
 have t2:p.at_<=m.step.t.length:=by rw[bE.t];exact g6
 have t3:m.step.same:=λh=>by rw[bE.own,bE.t];exact g9 (by rw[<- bE.bC];exact h)
 generalize oa:m.step=m1 at *;obtain⟨d1,d2,d3,_,d5,d6,d7,d8,d9,d10,d11⟩:=Wj (o:=re.op) (by omega);rw[am (by omega),am (by omega),ap ho]at hx;cases hx;unfold aA.aB aA.ay at aU;simp only[zM,aO]at aU;unfold aA.aB aA.ay;refine ar func63 rfl ntmps63 results63 rfl 3 158456325028528677386111158247 (by simp) (by simp) ?_;simp only[zX,simprocAttr,zM,aO,aD.d,Re.ae,d4];refine aj (aU _) (λv s' hv=>?_);obtain⟨rfl,rfl⟩:=hv;simp only[zX,simprocAttr,zM,aO,ads,Re.ae,d1,d2,d3,d5,d6,d7,d8,d9,d10,d11];refine eO rfl ?_;simp only[zX,simprocAttr,zM,aO,ads,Re.ae,d1,d2,d3,d5,d6,d7,d8,d9,d10,d11];first
  |(refine⟨an m1 b a,?_⟩;simp only[zM,aO,kq,eJ,aF.d,aD.d,Re.ae];done)
  |exact⟨an m1 b a,rfl⟩
  |exact an m1 b a
theorem DO (ih:bw k) (g b a:Nat) (m:aA) (p:aw) (hm:m.bW p) (cC:m.p.re.set.length<=1000000000) (cI:m.p.re.kids.length<=1000000000) (ho:m.p.re.op=3) (hf:¬m.fuel<=m.steps) (hx:bq (λm base p=>bn k true m base p true) m .root p=some x) :
  au prog 63 [.pp 0 g 0 0 b a,.d ((aD.root).d b a),p.v b a] (m.aB g b a) λv s=>v=aO b a x.2.1 x.2.2/\s=x.1.aB g b a:=by
 obtain⟨⟨g1,g2,g3,g4⟩,⟨g5,g6,g7⟩,g8,g9⟩:=hm;unfold bq at hx;simp only[aA.lit]at hx;rw[am (by omega)]at hx;have d4:decide (m.p.re.op=4)=false:=adl (by omega);have aU:=λext=>bt (cX g b a m g1 g2) rfl rfl rfl ext;have du:=m.e9;have bE:=m.dP;rw[am (by omega),am hf]at hx;have hd:decide (m.steps<m.fuel)=true:=adu (by omega);simp only[hd]at aU;have t1:m.step.t.length<=1000000:=by rw[bE.t];exact g8
 have t2:p.at_<=m.step.t.length:=by rw[bE.t];exact g6
 have t3:m.step.same:=λh=>by rw[bE.own,bE.t];exact g9 (by rw[<- bE.bC];exact h)
 generalize oa:m.step=m1 at *;rw[<- du]at cC cI ho hx;obtain⟨d1,d2,d3,_,d5,d6,d7,d8,d9,d10,d11⟩:=Wj (o:=m1.p.re.op) (by omega);rw[am (by omega),am (by omega),ap ho]at hx;cases hx;unfold aA.aB aA.ay at aU;simp only[zM,aO]at aU;unfold aA.aB aA.ay;refine ar func63 rfl ntmps63 results63 rfl 3 158456325028528677386111158247 (by simp) (by simp) ?_;simp only[zX,simprocAttr,zM,aO,aD.d,Re.ae,d4];refine aj (aU _) (λv s' hv=>?_);obtain⟨rfl,rfl⟩:=hv;simp only[zX,simprocAttr,zM,aO,ads,Re.ae,d1,d2,d3,d5,d6,d7,d8,d9,d10,d11];refine eO rfl ?_;simp only[zX,simprocAttr,zM,aO,ads,Re.ae,d1,d2,d3,d5,d6,d7,d8,d9,d10,d11];first
  |(refine⟨an m1 b a,?_⟩;simp only[zM,aO,kq,eJ,aF.d,aD.d,Re.ae];done)
  |exact⟨an m1 b a,rfl⟩
  |exact an m1 b a
theorem Iy (ih:bw k) (g b a:Nat) (m:aA) (re:Re) (p:aw) (hm:m.bW p) (cC:re.set.length<=1000000000) (cI:re.kids.length<=1000000000) (ho:re.op=5) (hf:¬m.fuel<=m.steps) (hx:bq (λm base p=>bn k true m base p true) m (.el re) p=some x) :
  au prog 63 [.pp 0 g 0 0 b a,.d ((aD.el re).d b a),p.v b a] (m.aB g b a) λv s=>v=aO b a x.2.1 x.2.2/\s=x.1.aB g b a:=by
 obtain⟨⟨g1,g2,g3,g4⟩,⟨g5,g6,g7⟩,g8,g9⟩:=hm;unfold bq at hx;simp only[aA.lit]at hx;rw[am (by omega)]at hx;have d4:decide (re.op=4)=false:=adl (by omega);have aU:=λext=>bt (cX g b a m g1 g2) rfl rfl rfl ext;have du:=m.e9;have bE:=m.dP;rw[am (by omega),am hf]at hx;have hd:decide (m.steps<m.fuel)=true:=adu (by omega);simp only[hd]at aU;have t1:m.step.t.length<=1000000:=by rw[bE.t];exact g8
 have t2:p.at_<=m.step.t.length:=by rw[bE.t];exact g6
 have t3:m.step.same:=λh=>by rw[bE.own,bE.t];exact g9 (by rw[<- bE.bC];exact h)
 generalize oa:m.step=m1 at *;obtain⟨d1,d2,d3,_,d5,d6,d7,d8,d9,d10,d11⟩:=Wy (o:=re.op) (by omega);rw[am (by omega),am (by omega),am (by omega),ap ho]at hx;obtain⟨aL,l,hl⟩:∃aL l,re.kids=aL::l:=by
  cases hh:re.kids with
  |nil=>rw[hh]at hx;cases hx
  |cons y l=>exact⟨y,l,rfl⟩
 rw[hl]at hx;cases hx;have hk:re.kids[0]?=some aL:=by rw[hl];rfl
 have ek:(0:Int)<(re.kids.length:Int):=by rw[hl,adA];omega
 unfold aA.aB aA.ay at aU;simp only[zM,aO]at aU;unfold aA.aB aA.ay;refine ar func63 rfl ntmps63 results63 rfl 3 158456325028528677386111158247 (by simp) (by simp) ?_;simp only[zX,simprocAttr,zM,aO,aD.d,Re.ae,d4];refine aj (aU _) (λv s' hv=>?_);obtain⟨rfl,rfl⟩:=hv;simp only[zX,simprocAttr,zM,aO,ads,Re.ae,d1,d2,d3,d5,d6,d7,d8,d9,d10,d11];refine eO rfl ?_;simp only[zX,simprocAttr,zM,aO,ads,Re.ae,d1,d2,d3,d5,d6,d7,d8,d9,d10,d11,ek,hk];refine eO rfl ?_;simp only[zX,simprocAttr,zM,aO,ads,Re.ae,d1,d2,d3,d5,d6,d7,d8,d9,d10,d11];first
  |(refine⟨an m1 b a,?_⟩;simp only[zM,aO,kq,eJ,aF.d,aD.d,Re.ae];done)
  |exact⟨an m1 b a,rfl⟩
  |exact an m1 b a
theorem DA (ih:bw k) (g b a:Nat) (m:aA) (p:aw) (hm:m.bW p) (cC:m.p.re.set.length<=1000000000) (cI:m.p.re.kids.length<=1000000000) (ho:m.p.re.op=5) (hf:¬m.fuel<=m.steps) (hx:bq (λm base p=>bn k true m base p true) m .root p=some x) :
  au prog 63 [.pp 0 g 0 0 b a,.d ((aD.root).d b a),p.v b a] (m.aB g b a) λv s=>v=aO b a x.2.1 x.2.2/\s=x.1.aB g b a:=by
 obtain⟨⟨g1,g2,g3,g4⟩,⟨g5,g6,g7⟩,g8,g9⟩:=hm;unfold bq at hx;simp only[aA.lit]at hx;rw[am (by omega)]at hx;have d4:decide (m.p.re.op=4)=false:=adl (by omega);have aU:=λext=>bt (cX g b a m g1 g2) rfl rfl rfl ext;have du:=m.e9;have bE:=m.dP;rw[am (by omega),am hf]at hx;have hd:decide (m.steps<m.fuel)=true:=adu (by omega);simp only[hd]at aU;have t1:m.step.t.length<=1000000:=by rw[bE.t];exact g8
 have t2:p.at_<=m.step.t.length:=by rw[bE.t];exact g6
 have t3:m.step.same:=λh=>by rw[bE.own,bE.t];exact g9 (by rw[<- bE.bC];exact h)
 generalize oa:m.step=m1 at *;rw[<- du]at cC cI ho hx;obtain⟨d1,d2,d3,_,d5,d6,d7,d8,d9,d10,d11⟩:=Wy (o:=m1.p.re.op) (by omega);rw[am (by omega),am (by omega),am (by omega),ap ho]at hx;obtain⟨aL,l,hl⟩:∃aL l,m1.p.re.kids=aL::l:=by
  cases hh:m1.p.re.kids with
  |nil=>rw[hh]at hx;cases hx
  |cons y l=>exact⟨y,l,rfl⟩
 rw[hl]at hx;cases hx;have hk:m1.p.re.kids[0]?=some aL:=by rw[hl];rfl
 have ek:(0:Int)<(m1.p.re.kids.length:Int):=by rw[hl,adA];omega
 unfold aA.aB aA.ay at aU;simp only[zM,aO]at aU;unfold aA.aB aA.ay;refine ar func63 rfl ntmps63 results63 rfl 3 158456325028528677386111158247 (by simp) (by simp) ?_;simp only[zX,simprocAttr,zM,aO,aD.d,Re.ae,d4];refine aj (aU _) (λv s' hv=>?_);obtain⟨rfl,rfl⟩:=hv;simp only[zX,simprocAttr,zM,aO,ads,Re.ae,d1,d2,d3,d5,d6,d7,d8,d9,d10,d11];refine eO rfl ?_;simp only[zX,simprocAttr,zM,aO,ads,Re.ae,d1,d2,d3,d5,d6,d7,d8,d9,d10,d11,ek,hk];refine eO rfl ?_;simp only[zX,simprocAttr,zM,aO,ads,Re.ae,d1,d2,d3,d5,d6,d7,d8,d9,d10,d11];first
  |(refine⟨an m1 b a,?_⟩;simp only[zM,aO,kq,eJ,aF.d,aD.d,Re.ae];done)
  |exact⟨an m1 b a,rfl⟩
  |exact an m1 b a
theorem Ia (ih:bw k) (g b a:Nat) (m:aA) (re:Re) (p:aw) (hm:m.bW p) (cC:re.set.length<=1000000000) (cI:re.kids.length<=1000000000) (ho:re.op=2) (hf:¬m.fuel<=m.steps) (hx:bq (λm base p=>bn k true m base p true) m (.el re) p=some x) :
  au prog 63 [.pp 0 g 0 0 b a,.d ((aD.el re).d b a),p.v b a] (m.aB g b a) λv s=>v=aO b a x.2.1 x.2.2/\s=x.1.aB g b a:=by
 obtain⟨⟨g1,g2,g3,g4⟩,⟨g5,g6,g7⟩,g8,g9⟩:=hm;unfold bq at hx;simp only[aA.lit]at hx;rw[am (by omega)]at hx;have d4:decide (re.op=4)=false:=adl (by omega);have aU:=λext=>bt (cX g b a m g1 g2) rfl rfl rfl ext;have du:=m.e9;have bE:=m.dP;rw[am (by omega),am hf]at hx;have hd:decide (m.steps<m.fuel)=true:=adu (by omega);simp only[hd]at aU;have t1:m.step.t.length<=1000000:=by rw[bE.t];exact g8
 have t2:p.at_<=m.step.t.length:=by rw[bE.t];exact g6
 have t3:m.step.same:=λh=>by rw[bE.own,bE.t];exact g9 (by rw[<- bE.bC];exact h)
 generalize oa:m.step=m1 at *;obtain⟨d1,d2,d3,_,d5,d6,d7,d8,d9,d10,d11⟩:=WY (o:=re.op) (by omega);rw[am (by omega),ap ho]at hx;cases hx;unfold aA.aB aA.ay at aU;simp only[zM,aO]at aU;unfold aA.aB aA.ay;refine ar func63 rfl ntmps63 results63 rfl 3 158456325028528677386111158247 (by simp) (by simp) ?_;simp only[zX,simprocAttr,zM,aO,aD.d,Re.ae,d4];refine aj (aU _) (λv s' hv=>?_);obtain⟨rfl,rfl⟩:=hv;simp only[zX,simprocAttr,zM,aO,ads,Re.ae,d1,d2,d3,d5,d6,d7,d8,d9,d10,d11];refine aJ (λn e s=>∃j:Nat,n=j/\j<=re.kids.length/\e 0=.pp 0 g 0 0 b a/\e 1=.d ((aD.el re).d b a)/\e 5=.rf 3 0 0 0/\e 6=.rf 4 0 0 0/\e 8=.cl (.func 79) [] [.rf 3 0 0 0]/\e 9=i64 ((j:Int)-1)/\s=m1.aB g b a++[⟨0,true,3,[[.d (iD p.at_),.d (bQ p.ah),.d ((eJ (re.kids.drop j) p.todo).d b a)]]⟩,⟨0,true,3,[[.d (iD 0),.fu [],.d (.sc (.pointer none))]]⟩])
  ⟨_,_,_,cU.refl,re.kids.length,rfl,adB _,rfl,?_,rfl,rfl,rfl,?_,?_⟩ ?_
 ·rw[aD.d,Re.ae];rfl
 ·rw[bM _ (by omega)];rfl
 ·rw[List.drop_length];rfl
 rintro n e s ⟨j,rfl,hj,h0,h1,h5,h6,h8,h9,rfl⟩;simp only[aD.d,Re.ae,iD,bD]at h1;unfold aA.aB aA.ay;cases n with
 |zero =>
  rw[show ((0:Nat):Int)-1=-1 by omega]at h9;simp only[zX,simprocAttr,zM,aO,h0,h1,h5,h6,h8,h9,ge_iff_le,List.drop_zero];first
    |(refine⟨an m1 b a,?_⟩;simp only[zM,aO,kq,eJ,aF.d,aD.d,Re.ae];done)
    |exact⟨an m1 b a,rfl⟩
    |exact an m1 b a
 |succ j =>
  rw[show ((j+1:Nat):Int)-1=(j:Int) by omega]at h9;have hle:(0:Int)<=(j:Int):=by omega
  have aH:(j:Int)<(re.kids.length:Int):=by omega
  have Ui:j<re.kids.length:=hj;obtain⟨y,hy⟩:∃y,re.kids[j]?=some y:=⟨_,adn hj⟩
  simp only[zX,simprocAttr,zM,aO,h0,h1,h5,h6,h8,h9,ge_iff_le,hle,aH,Ui,hy,adR,Re.ae];refine eO rfl ?_;simp only[zX,simprocAttr,zM,aO,h0,h1,h5,h6,h8,h9];refine⟨j,_,_,by omega,cU.refl,j,rfl,by omega,?_,?_,?_,?_,?_,?_,?_⟩ <;> (try simp only[zU,Nat.reduceBEq,Nat.reduceShiftRight,Nat.reduceMod,Nat.reduceEqDiff,reduceIte])
  ·exact h0
  ·first|exact h1|(rw[aD.d,Re.ae];exact h1)
  ·exact h5
  ·exact h6
  ·exact h8
  ·rw[bM _ (by omega)]
  ·have Zs:=vp hy;rw[Zs];simp only[eJ,List.foldr_cons,aF.d,aD.d,Re.ae,iD,bD];try rfl
theorem Da (ih:bw k) (g b a:Nat) (m:aA) (p:aw) (hm:m.bW p) (cC:m.p.re.set.length<=1000000000) (cI:m.p.re.kids.length<=1000000000) (ho:m.p.re.op=2) (hf:¬m.fuel<=m.steps) (hx:bq (λm base p=>bn k true m base p true) m .root p=some x) :
  au prog 63 [.pp 0 g 0 0 b a,.d ((aD.root).d b a),p.v b a] (m.aB g b a) λv s=>v=aO b a x.2.1 x.2.2/\s=x.1.aB g b a:=by
 obtain⟨⟨g1,g2,g3,g4⟩,⟨g5,g6,g7⟩,g8,g9⟩:=hm;unfold bq at hx;simp only[aA.lit]at hx;rw[am (by omega)]at hx;have d4:decide (m.p.re.op=4)=false:=adl (by omega);have aU:=λext=>bt (cX g b a m g1 g2) rfl rfl rfl ext;have du:=m.e9;have bE:=m.dP;rw[am (by omega),am hf]at hx;have hd:decide (m.steps<m.fuel)=true:=adu (by omega);simp only[hd]at aU;have t1:m.step.t.length<=1000000:=by rw[bE.t];exact g8
 have t2:p.at_<=m.step.t.length:=by rw[bE.t];exact g6
 have t3:m.step.same:=λh=>by rw[bE.own,bE.t];exact g9 (by rw[<- bE.bC];exact h)
 generalize oa:m.step=m1 at *;rw[<- du]at cC cI ho hx;obtain⟨d1,d2,d3,_,d5,d6,d7,d8,d9,d10,d11⟩:=WY (o:=m1.p.re.op) (by omega);rw[am (by omega),ap ho]at hx;cases hx;unfold aA.aB aA.ay at aU;simp only[zM,aO]at aU;unfold aA.aB aA.ay;refine ar func63 rfl ntmps63 results63 rfl 3 158456325028528677386111158247 (by simp) (by simp) ?_;simp only[zX,simprocAttr,zM,aO,aD.d,Re.ae,d4];refine aj (aU _) (λv s' hv=>?_);obtain⟨rfl,rfl⟩:=hv;simp only[zX,simprocAttr,zM,aO,ads,Re.ae,d1,d2,d3,d5,d6,d7,d8,d9,d10,d11];refine aJ (λn e s=>∃j:Nat,n=j/\j<=m1.p.re.kids.length/\e 0=.pp 0 g 0 0 b a/\e 1=.d ((aD.root).d b a)/\e 5=.rf 3 0 0 0/\e 6=.rf 4 0 0 0/\e 8=.cl (.func 79) [] [.rf 3 0 0 0]/\e 9=i64 ((j:Int)-1)/\s=m1.aB g b a++[⟨0,true,3,[[.d (iD p.at_),.d (bQ p.ah),.d ((eJ (m1.p.re.kids.drop j) p.todo).d b a)]]⟩,⟨0,true,3,[[.d (iD 0),.fu [],.d (.sc (.pointer none))]]⟩])
  ⟨_,_,_,cU.refl,m1.p.re.kids.length,rfl,adB _,rfl,?_,rfl,rfl,rfl,?_,?_⟩ ?_
 ·rfl
 ·rw[bM _ (by omega)];rfl
 ·rw[List.drop_length];rfl
 rintro n e s ⟨j,rfl,hj,h0,h1,h5,h6,h8,h9,rfl⟩;simp only[aD.d,Re.ae,iD,bD]at h1;unfold aA.aB aA.ay;cases n with
 |zero =>
  rw[show ((0:Nat):Int)-1=-1 by omega]at h9;simp only[zX,simprocAttr,zM,aO,h0,h1,h5,h6,h8,h9,ge_iff_le,List.drop_zero];first
    |(refine⟨an m1 b a,?_⟩;simp only[zM,aO,kq,eJ,aF.d,aD.d,Re.ae];done)
    |exact⟨an m1 b a,rfl⟩
    |exact an m1 b a
 |succ j =>
  rw[show ((j+1:Nat):Int)-1=(j:Int) by omega]at h9;have hle:(0:Int)<=(j:Int):=by omega
  have aH:(j:Int)<(m1.p.re.kids.length:Int):=by omega
  have Ui:j<m1.p.re.kids.length:=hj;obtain⟨y,hy⟩:∃y,m1.p.re.kids[j]?=some y:=⟨_,adn hj⟩
  simp only[zX,simprocAttr,zM,aO,h0,h1,h5,h6,h8,h9,ge_iff_le,hle,aH,Ui,hy,adR,Re.ae];refine eO rfl ?_;simp only[zX,simprocAttr,zM,aO,h0,h1,h5,h6,h8,h9];refine⟨j,_,_,by omega,cU.refl,j,rfl,by omega,?_,?_,?_,?_,?_,?_,?_⟩ <;> (try simp only[zU,Nat.reduceBEq,Nat.reduceShiftRight,Nat.reduceMod,Nat.reduceEqDiff,reduceIte])
  ·exact h0
  ·first|exact h1|(rw[aD.d,Re.ae];exact h1)
  ·exact h5
  ·exact h6
  ·exact h8
  ·rw[bM _ (by omega)]
  ·have Zs:=vp hy;rw[Zs];simp only[eJ,List.foldr_cons,aF.d,aD.d,Re.ae,iD,bD];try rfl
end Go.Proofs.Ytphfjhaffbfpfaa
