/- A part of the proof (G36). -/
import Derived.Test.YtphfjhaffbfpfaaPM43
set_option linter.all false
set_option maxRecDepth 100000
set_option maxHeartbeats 80000000
namespace Go.Proofs.Ytphfjhaffbfpfaa
open Go.VL Go.Proofs.Try
variable{k:Nat}{x:Rs}
theorem LP (ih:bw k) (g b a:Nat) (m:aA) (r:aD) (p:aw) (hm:m.bW p) (hx:bq (λm base p=>bn k true m base p true) m r p=some x) :
  au prog 63 [.pp 0 g 0 0 b a,.d (r.d b a),p.v b a] (m.aB g b a) λv s=>v=aO b a x.2.1 x.2.2/\s=x.1.aB g b a:=by
 have key:∀re,m.lit r=some re->(re.set.length<=1000000000/\re.kids.length<=1000000000):=by
  intro re PM;unfold bq at hx;rw[PM]at hx;simp only at hx;by_cases c:1000000000<re.set.length\/1000000000<re.kids.length
  ·rw[ap c]at hx;cases hx
  ·omega
 cases r with
 |nil=>cases hx
 |root =>
  obtain⟨k1,k2⟩:=key m.p.re rfl;by_cases o4:m.p.re.op=4
  ·by_cases om:m.p.re.mode=2
   ·exact xY ih g b a m p hm k1 k2 o4 om hx
   ·exact ze ih g b a m p hm k1 k2 o4 om hx
  by_cases hf:m.fuel<=m.steps
  ·exact zp ih g b a m p hm k1 k2 o4 hf hx
  by_cases o1:m.p.re.op=1
  ·exact D4 ih g b a m p hm k1 k2 o1 hf hx
  by_cases o2:m.p.re.op=2
  ·exact Da ih g b a m p hm k1 k2 o2 hf hx
  by_cases o3:m.p.re.op=3
  ·exact DO ih g b a m p hm k1 k2 o3 hf hx
  by_cases o5:m.p.re.op=5
  ·exact DA ih g b a m p hm k1 k2 o5 hf hx
  by_cases o6:m.p.re.op=6
  ·exact Dr ih g b a m p hm k1 k2 o6 hf hx
  by_cases o7:m.p.re.op=7
  ·exact DY ih g b a m p hm k1 k2 o7 hf hx
  by_cases o8:m.p.re.op=8
  ·exact Dx ih g b a m p hm k1 k2 o8 hf hx
  by_cases o9:m.p.re.op=9
  ·exact DZ ih g b a m p hm k1 k2 o9 hf hx
  by_cases rF:m.p.re.op=10
  ·exact Bp ih g b a m p hm k1 k2 rF hf hx
  by_cases nb:m.p.re.op=11
  ·exact Bc ih g b a m p hm k1 k2 nb hf hx
  exact zg ih g b a m p hm k1 k2 (by omega) hf hx
 |el re =>
  obtain⟨k1,k2⟩:=key re rfl;by_cases o4:re.op=4
  ·by_cases om:re.mode=2
   ·exact AW ih g b a m re p hm k1 k2 o4 om hx
   ·exact Dn ih g b a m re p hm k1 k2 o4 om hx
  by_cases hf:m.fuel<=m.steps
  ·exact DV ih g b a m re p hm k1 k2 o4 hf hx
  by_cases o1:re.op=1
  ·exact Ih ih g b a m re p hm k1 k2 o1 hf hx
  by_cases o2:re.op=2
  ·exact Ia ih g b a m re p hm k1 k2 o2 hf hx
  by_cases o3:re.op=3
  ·exact H0 ih g b a m re p hm k1 k2 o3 hf hx
  by_cases o5:re.op=5
  ·exact Iy ih g b a m re p hm k1 k2 o5 hf hx
  by_cases o6:re.op=6
  ·exact IG ih g b a m re p hm k1 k2 o6 hf hx
  by_cases o7:re.op=7
  ·exact I1 ih g b a m re p hm k1 k2 o7 hf hx
  by_cases o8:re.op=8
  ·exact I0 ih g b a m re p hm k1 k2 o8 hf hx
  by_cases o9:re.op=9
  ·exact IP ih g b a m re p hm k1 k2 o9 hf hx
  by_cases rF:re.op=10
  ·exact E5 ih g b a m re p hm k1 k2 rF hf hx
  by_cases nb:re.op=11
  ·exact FJ ih g b a m re p hm k1 k2 nb hf hx
  exact CJ ih g b a m re p hm k1 k2 (by omega) hf hx
theorem LG (g b a:Nat) (m:aA) (r:aD) (n at_:Int) (nx:aF) (p:aw) (hm:m.bW p) (nq:0<=n) (lX:n<=10000000000000) (hx:ka m r n p=some x) :
  au prog 65 [.pp 0 g 0 0 b a,.d ((aF.mk 2 r n at_ nx).d b a),p.v b a] (m.aB g b a) λv s=>v=aO b a x.2.1 x.2.2/\s=x.1.aB g b a:=by
 cases r with
 |nil=>cases hx
 |root =>
  have:∃aL,m.p.re.kids[0]?=some aL:=by
   unfold ka at hx;simp only[aA.lit]at hx;cases hh:m.p.re.kids with
   |nil=>rw[hh]at hx;cases hx
   |cons y l=>exact⟨y,rfl⟩
  obtain⟨aL,hk⟩:=this;exact Is g b a m n at_ nx p aL hk hm nq lX hx
 |el re =>
  have:∃aL,re.kids[0]?=some aL:=by
   unfold ka at hx;simp only[aA.lit]at hx;cases hh:re.kids with
   |nil=>rw[hh]at hx;cases hx
   |cons y l=>exact⟨y,rfl⟩
  obtain⟨aL,hk⟩:=this;exact N1 g b a m re n at_ nx p aL hk hm nq lX hx
def qO (c:Int×Int):List V:=[.d (iD c.1),.d (iD c.2)]
theorem vP (k ck:Nat) (s:List VL.Obj):∀L:aC,((L.map qO).mapM λ(e:List V)=>e.mapM (cE (k+1) ck s))=some (L.map aN)
 |[]=>rfl
 |x::L=>by rw[adG,List.mapM_cons,vP k ck s L];rfl
theorem Vr (ih:bw k) (g b a:Nat) (m:aA) (r:aD) (pa:Int) (pc:aC) (kind n at_:Int) (next:aF) (hm:m.bW ⟨pa,pc,.mk kind r n at_ next⟩) (ho:kind=0) (hx:gX (λm base p=>bn k true m base p true) m ⟨pa,pc,.mk kind r n at_ next⟩=some x) :
  au prog 47 [.pp 0 g 0 0 b a,aw.v b a ⟨pa,pc,.mk kind r n at_ next⟩] (m.aB g b a) λv s=>v=aO b a x.2.1 x.2.2/\s=x.1.aB g b a:=by
 have mr:=hm;obtain⟨⟨g1,g2,g3,g4⟩,⟨g5,g6,g7⟩,g8,g9⟩:=hm;unfold gX at hx;rw[am (by simpa using mr)]at hx;simp only at g5 g6 g7;simp only at hx;have d0:decide (kind=0)=true:=adu (by omega);have d1:decide (kind=1)=false:=adl (by omega);have d2:decide (kind=2)=false:=adl (by omega);have d3:decide (kind=3)=false:=adl (by omega);have d4:decide (kind=4)=false:=adl (by omega);have d5:decide (kind=5)=false:=adl (by omega);rw[ap ho]at hx;have cZ:=λext=>bt (LP ih g b a m r ⟨pa,pc,next⟩ mr hx) rfl rfl rfl ext;obtain⟨m2,y1,y2⟩:=x;unfold aA.aB aA.ay at cZ;simp only[zM,aO]at cZ;unfold aA.aB aA.ay;refine ar func47 rfl ntmps47 results47 rfl 3 2098171 (by simp) (by simp) ?_;try simp only[zX,simprocAttr,zM,aO,aF.bu,d0,d1,d2,d3,d4,d5]
 refine ao mix [6] [(5,[3],[]),(9,[4],[4])] (by rfl) ?_;try simp only[zX,simprocAttr,zM,aO]
 refine bj (cZ _) ?_;try simp only[zX,simprocAttr,zM,aO]
 first
  |(refine⟨an m2 b a,?_⟩;simp only[zM,aO,kq,aF.d,aD.d,Re.ae];done)
  |exact⟨an m2 b a,rfl⟩
  |exact an m2 b a
theorem VT (ih:bw k) (g b a:Nat) (m:aA) (r:aD) (pa:Int) (pc:aC) (kind n at_:Int) (next:aF) (hm:m.bW ⟨pa,pc,.mk kind r n at_ next⟩) (ho:kind=2) (hx:gX (λm base p=>bn k true m base p true) m ⟨pa,pc,.mk kind r n at_ next⟩=some x) :
  au prog 47 [.pp 0 g 0 0 b a,aw.v b a ⟨pa,pc,.mk kind r n at_ next⟩] (m.aB g b a) λv s=>v=aO b a x.2.1 x.2.2/\s=x.1.aB g b a:=by
 have mr:=hm;obtain⟨⟨g1,g2,g3,g4⟩,⟨g5,g6,g7⟩,g8,g9⟩:=hm;unfold gX at hx;rw[am (by simpa using mr)]at hx;simp only at g5 g6 g7;simp only at hx;have d0:decide (kind=0)=false:=adl (by omega);have d1:decide (kind=1)=false:=adl (by omega);have d2:decide (kind=2)=true:=adu (by omega);have d3:decide (kind=3)=false:=adl (by omega);have d4:decide (kind=4)=false:=adl (by omega);have d5:decide (kind=5)=false:=adl (by omega);rw[am (by omega)]at hx;by_cases hn:n<0\/10000000000000<n
 ·rw[ap hn]at hx;cases hx
 rw[am hn,am (by omega),ap ho]at hx;have cZ:=λext=>bt (LG g b a m r n at_ next ⟨pa,pc,next⟩ mr (by omega) (by omega) hx) rfl rfl rfl ext;obtain⟨m2,y1,y2⟩:=x;unfold aA.aB aA.ay at cZ;simp only[zM,aO,aF.bu]at cZ;subst ho;unfold aA.aB aA.ay;refine ar func47 rfl ntmps47 results47 rfl 3 2098171 (by simp) (by simp) ?_;try simp only[zX,simprocAttr,zM,aO,aF.bu,d0,d1,d2,d3,d4,d5]
 refine aj (cZ _) (λv s' hv=>?_);obtain⟨rfl,rfl⟩:=hv;try simp only[zX,simprocAttr,zM,aO]
 first
  |(refine⟨an m2 b a,?_⟩;simp only[zM,aO,kq,aF.d,aD.d,Re.ae];done)
  |exact⟨an m2 b a,rfl⟩
  |exact an m2 b a
theorem WM (ih:bw k) (g b a:Nat) (m:aA) (r:aD) (pa:Int) (pc:aC) (kind n at_:Int) (next:aF) (hm:m.bW ⟨pa,pc,.mk kind r n at_ next⟩) (ho:kind=3) (hx:gX (λm base p=>bn k true m base p true) m ⟨pa,pc,.mk kind r n at_ next⟩=some x) :
  au prog 47 [.pp 0 g 0 0 b a,aw.v b a ⟨pa,pc,.mk kind r n at_ next⟩] (m.aB g b a) λv s=>v=aO b a x.2.1 x.2.2/\s=x.1.aB g b a:=by
 have mr:=hm;obtain⟨⟨g1,g2,g3,g4⟩,⟨g5,g6,g7⟩,g8,g9⟩:=hm;unfold gX at hx;rw[am (by simpa using mr)]at hx;simp only at g5 g6 g7;simp only at hx;have d0:decide (kind=0)=false:=adl (by omega);have d1:decide (kind=1)=false:=adl (by omega);have d2:decide (kind=2)=false:=adl (by omega);have d3:decide (kind=3)=true:=adu (by omega);have d4:decide (kind=4)=false:=adl (by omega);have d5:decide (kind=5)=false:=adl (by omega);rw[am (by omega)]at hx;by_cases hn:n<0\/10000000000000<n
 ·rw[ap hn]at hx;cases hx
 rw[am hn,am (by omega),am (by omega),ap ho]at hx;by_cases c:pa=at_
 ·rw[ap c]at hx;cases hx;have dc:decide (pa=at_)=true:=adu c;unfold aA.aB aA.ay;refine ar func47 rfl ntmps47 results47 rfl 3 2098171 (by simp) (by simp) ?_;try simp only[zX,simprocAttr,zM,aO,aF.bu,d0,d1,d2,d3,d4,d5]
  refine ao mix [] [(0,[3],[]),(1,[3],[])] (by rfl) ?_;try simp only[zX,simprocAttr,zM,aO,dc]
  first
   |(refine⟨an m b a,?_⟩;simp only[zM,aO,kq,aF.d,aD.d,Re.ae];done)
   |exact⟨an m b a,rfl⟩
   |exact an m b a
 ·rw[am c]at hx;cases hx;have dc:decide (pa=at_)=false:=adl c;unfold aA.aB aA.ay;refine ar func47 rfl ntmps47 results47 rfl 3 2098171 (by simp) (by simp) ?_;try simp only[zX,simprocAttr,zM,aO,aF.bu,d0,d1,d2,d3,d4,d5]
  refine ao mix [] [(0,[3],[]),(1,[3],[])] (by rfl) ?_;try simp only[zX,simprocAttr,zM,aO,dc]
  refine ao mix [9] [] (by rfl) ?_;try simp only[zX,simprocAttr,zM,aO]
  refine bj (oB rfl ⟨rfl,rfl⟩) ?_;try simp only[zX,simprocAttr,zM,aO]
  first
   |(refine⟨an m b a,?_⟩;simp only[zM,aO,kq,aF.d,aD.d,Re.ae];done)
   |exact⟨an m b a,rfl⟩
   |exact an m b a
theorem Wq (ih:bw k) (g b a:Nat) (m:aA) (r:aD) (pa:Int) (pc:aC) (kind n at_:Int) (next:aF) (hm:m.bW ⟨pa,pc,.mk kind r n at_ next⟩) (ho:kind=5) (hx:gX (λm base p=>bn k true m base p true) m ⟨pa,pc,.mk kind r n at_ next⟩=some x) :
  au prog 47 [.pp 0 g 0 0 b a,aw.v b a ⟨pa,pc,.mk kind r n at_ next⟩] (m.aB g b a) λv s=>v=aO b a x.2.1 x.2.2/\s=x.1.aB g b a:=by
 have mr:=hm;obtain⟨⟨g1,g2,g3,g4⟩,⟨g5,g6,g7⟩,g8,g9⟩:=hm;unfold gX at hx;rw[am (by simpa using mr)]at hx;simp only at g5 g6 g7;simp only at hx;have d0:decide (kind=0)=false:=adl (by omega);have d1:decide (kind=1)=false:=adl (by omega);have d2:decide (kind=2)=false:=adl (by omega);have d3:decide (kind=3)=false:=adl (by omega);have d4:decide (kind=4)=false:=adl (by omega);have d5:decide (kind=5)=true:=adu (by omega);rw[am (by omega)]at hx;by_cases hn:n<0\/10000000000000<n
 ·rw[ap hn]at hx;cases hx
 rw[am hn,am (by omega),am (by omega),am (by omega),am (by omega),ap ho]at hx;cases hx;unfold aA.aB aA.ay;refine ar func47 rfl ntmps47 results47 rfl 3 2098171 (by simp) (by simp) ?_;try simp only[zX,simprocAttr,zM,aO,aF.bu,d0,d1,d2,d3,d4,d5]
 refine ao mix [] [(0,[3],[]),(1,[3],[]),(2,[3],[]),(8,[4],[4])] (by rfl) ?_;try simp only[zX,simprocAttr,zM,aO]
 first
  |(refine⟨an m b a,?_⟩;simp only[zM,aO,kq,aF.d,aD.d,Re.ae];done)
  |exact⟨an m b a,rfl⟩
  |exact an m b a
theorem Pw (ih:bw k) (g b a:Nat) (m:aA) (re:Re) (pa:Int) (pc:aC) (kind n at_:Int) (next:aF) (hm:m.bW ⟨pa,pc,.mk kind (.el re) n at_ next⟩) (ho:kind=1) (hx:gX (λm base p=>bn k true m base p true) m ⟨pa,pc,.mk kind (.el re) n at_ next⟩=some x) :
  au prog 47 [.pp 0 g 0 0 b a,aw.v b a ⟨pa,pc,.mk kind (.el re) n at_ next⟩] (m.aB g b a) λv s=>v=aO b a x.2.1 x.2.2/\s=x.1.aB g b a:=by
 have mr:=hm;obtain⟨⟨g1,g2,g3,g4⟩,⟨g5,g6,g7⟩,g8,g9⟩:=hm;unfold gX at hx;rw[am (by simpa using mr)]at hx;simp only at g5 g6 g7;simp only at hx;have d0:decide (kind=0)=false:=adl (by omega);have d1:decide (kind=1)=true:=adu (by omega);have d2:decide (kind=2)=false:=adl (by omega);have d3:decide (kind=3)=false:=adl (by omega);have d4:decide (kind=4)=false:=adl (by omega);have d5:decide (kind=5)=false:=adl (by omega);rw[am (by omega)]at hx;by_cases hn:n<0\/10000000000000<n
 ·rw[ap hn]at hx;cases hx
 rw[am hn,ap ho]at hx;simp only[aA.lit]at hx;by_cases iZ:1000000000<re.kids.length
 ·rw[ap iZ]at hx;cases hx
 rw[am iZ]at hx;cases hk:re.kids[n.toNat]? with
 |none=>rw[hk]at hx;cases hx
 |some aL =>
 rw[hk]at hx;simp only at hx;have q0:0<=n:=by omega
 have q1:n<(re.kids.length:Int):=by have:=(List.getElem?_eq_some_iff.1 hk).1;omega
 have w1:IntKind.i64.wrap (n+1)=n+1:=bM _ (by omega);by_cases c:n+1<(re.kids.length:Int)
 ·rw[ap c]at hx;have cZ:=λext=>bt (rQ g b a m (kq ⟨pa,pc,next⟩ 1 (.el re) (n+1) 0) g3 g4) rfl rfl rfl ext;cases hx;generalize A0:m.push (kq ⟨pa,pc,next⟩ 1 (.el re) (n+1) 0)=m2 at *;unfold aA.aB aA.ay at cZ;simp only[zM,aO,kq,aF.d,aD.d,Re.ae]at cZ;unfold aA.aB aA.ay;refine ar func47 rfl ntmps47 results47 rfl 3 2098171 (by simp) (by simp) ?_;try simp only[zX,simprocAttr,zM,aO,aF.bu,d0,d1,d2,d3,d4,d5]
  refine ao mix [] [(9,[0],[]),(10,[0],[]),(11,[0],[]),(12,[0],[])] (by rfl) ?_;try simp only[zX,simprocAttr,zM,aO,aD.d,Re.ae,w1,c]
  refine aS ca.bh ?_;refine ao mix [] [(9,[3],[]),(10,[3],[]),(12,[6],[6]),(13,[5],[]),(14,[5],[5])] (by rfl) ?_;try simp only[zX,simprocAttr,zM,aO,hole,w1]
  refine aY [6] (by simp [bg,bT,bf.go,bf,cE,aF.d,aD.d,Re.ae,iD,bD]) (aj (cZ _) (λv s' hv=>?_));obtain⟨rfl,rfl⟩:=hv;try simp only[zX,simprocAttr,zM,aO,aD.d,Re.ae]
  refine ao mix [13] [(5,[0],[]),(6,[0],[]),(7,[0],[])] (by rfl) ?_;try simp only[zX,simprocAttr,zM,aO,hk,q0,q1,aD.d,Re.ae]
  refine bj (oB rfl ⟨rfl,rfl⟩) ?_;try simp only[zX,simprocAttr,zM,aO,aD.d,Re.ae]
  first
   |(refine⟨an m2 b a,?_⟩;simp only[zM,aO,kq,aF.d,aD.d,Re.ae];done)
   |exact⟨an m2 b a,rfl⟩
   |exact an m2 b a
 ·rw[am c]at hx;cases hx;unfold aA.aB aA.ay;refine ar func47 rfl ntmps47 results47 rfl 3 2098171 (by simp) (by simp) ?_;try simp only[zX,simprocAttr,zM,aO,aF.bu,d0,d1,d2,d3,d4,d5]
  refine ao mix [] [(9,[0],[]),(10,[0],[]),(11,[0],[]),(12,[0],[])] (by rfl) ?_;try simp only[zX,simprocAttr,zM,aO,aD.d,Re.ae,w1,c]
  refine ao mix [13] [(5,[0],[]),(6,[0],[]),(7,[0],[])] (by rfl) ?_;try simp only[zX,simprocAttr,zM,aO,hk,q0,q1,aD.d,Re.ae]
  refine bj (oB rfl ⟨rfl,rfl⟩) ?_;try simp only[zX,simprocAttr,zM,aO,aD.d,Re.ae]
  first
   |(refine⟨an m b a,?_⟩;simp only[zM,aO,kq,aF.d,aD.d,Re.ae];done)
   |exact⟨an m b a,rfl⟩
   |exact an m b a
theorem H4 (ih:bw k) (g b a:Nat) (m:aA) (pa:Int) (pc:aC) (kind n at_:Int) (next:aF) (hm:m.bW ⟨pa,pc,.mk kind .root n at_ next⟩) (ho:kind=1) (hx:gX (λm base p=>bn k true m base p true) m ⟨pa,pc,.mk kind .root n at_ next⟩=some x) :
  au prog 47 [.pp 0 g 0 0 b a,aw.v b a ⟨pa,pc,.mk kind .root n at_ next⟩] (m.aB g b a) λv s=>v=aO b a x.2.1 x.2.2/\s=x.1.aB g b a:=by
 have mr:=hm;obtain⟨⟨g1,g2,g3,g4⟩,⟨g5,g6,g7⟩,g8,g9⟩:=hm;unfold gX at hx;rw[am (by simpa using mr)]at hx;simp only at g5 g6 g7;simp only at hx;have d0:decide (kind=0)=false:=adl (by omega);have d1:decide (kind=1)=true:=adu (by omega);have d2:decide (kind=2)=false:=adl (by omega);have d3:decide (kind=3)=false:=adl (by omega);have d4:decide (kind=4)=false:=adl (by omega);have d5:decide (kind=5)=false:=adl (by omega);rw[am (by omega)]at hx;by_cases hn:n<0\/10000000000000<n
 ·rw[ap hn]at hx;cases hx
 rw[am hn,ap ho]at hx;simp only[aA.lit]at hx;by_cases iZ:1000000000<m.p.re.kids.length
 ·rw[ap iZ]at hx;cases hx
 rw[am iZ]at hx;cases hk:m.p.re.kids[n.toNat]? with
 |none=>rw[hk]at hx;cases hx
 |some aL =>
 rw[hk]at hx;simp only at hx;have q0:0<=n:=by omega
 have q1:n<(m.p.re.kids.length:Int):=by have:=(List.getElem?_eq_some_iff.1 hk).1;omega
 have w1:IntKind.i64.wrap (n+1)=n+1:=bM _ (by omega);by_cases c:n+1<(m.p.re.kids.length:Int)
 ·rw[ap c]at hx;have cZ:=λext=>bt (rQ g b a m (kq ⟨pa,pc,next⟩ 1 .root (n+1) 0) g3 g4) rfl rfl rfl ext;cases hx;have hmp:(m.push (kq ⟨pa,pc,next⟩ 1 .root (n+1) 0)).p=m.p:=rfl;have hkm:=hk;have ZW:=q1;rw[<- hmp]at hkm ZW;generalize A0:m.push (kq ⟨pa,pc,next⟩ 1 .root (n+1) 0)=m2 at *;unfold aA.aB aA.ay at cZ;simp only[zM,aO,kq,aF.d,aD.d,Re.ae]at cZ;unfold aA.aB aA.ay;refine ar func47 rfl ntmps47 results47 rfl 3 2098171 (by simp) (by simp) ?_;try simp only[zX,simprocAttr,zM,aO,aF.bu,d0,d1,d2,d3,d4,d5]
  refine ao mix [] [(9,[0],[]),(10,[0],[]),(11,[0],[]),(12,[0],[])] (by rfl) ?_;try simp only[zX,simprocAttr,zM,aO,aD.d,Re.ae,w1,c]
  refine aS ca.bh ?_;refine ao mix [] [(9,[3],[]),(10,[3],[]),(12,[6],[6]),(13,[5],[]),(14,[5],[5])] (by rfl) ?_;try simp only[zX,simprocAttr,zM,aO,hole,w1]
  refine aY [6] (by simp [bg,bT,bf.go,bf,cE,aF.d,aD.d,Re.ae,iD,bD]) (aj (cZ _) (λv s' hv=>?_));obtain⟨rfl,rfl⟩:=hv;try simp only[zX,simprocAttr,zM,aO,aD.d,Re.ae]
  refine ao mix [13] [(5,[0],[]),(6,[0],[]),(7,[0],[])] (by rfl) ?_;try simp only[zX,simprocAttr,zM,aO,hk,q0,q1,aD.d,Re.ae,hkm,ZW]
  refine bj (oB rfl ⟨rfl,rfl⟩) ?_;try simp only[zX,simprocAttr,zM,aO,aD.d,Re.ae]
  first
   |(refine⟨an m2 b a,?_⟩;simp only[zM,aO,kq,aF.d,aD.d,Re.ae];done)
   |exact⟨an m2 b a,rfl⟩
   |exact an m2 b a
 ·rw[am c]at hx;cases hx;unfold aA.aB aA.ay;refine ar func47 rfl ntmps47 results47 rfl 3 2098171 (by simp) (by simp) ?_;try simp only[zX,simprocAttr,zM,aO,aF.bu,d0,d1,d2,d3,d4,d5]
  refine ao mix [] [(9,[0],[]),(10,[0],[]),(11,[0],[]),(12,[0],[])] (by rfl) ?_;try simp only[zX,simprocAttr,zM,aO,aD.d,Re.ae,w1,c]
  refine ao mix [13] [(5,[0],[]),(6,[0],[]),(7,[0],[])] (by rfl) ?_;try simp only[zX,simprocAttr,zM,aO,hk,q0,q1,aD.d,Re.ae]
  refine bj (oB rfl ⟨rfl,rfl⟩) ?_;try simp only[zX,simprocAttr,zM,aO,aD.d,Re.ae]
  first
   |(refine⟨an m b a,?_⟩;simp only[zM,aO,kq,aF.d,aD.d,Re.ae];done)
   |exact⟨an m b a,rfl⟩
   |exact an m b a
theorem N4 (ih:bw k) (g b a:Nat) (m:aA) (re:Re) (pa:Int) (pc:aC) (kind n at_:Int) (next:aF) (hm:m.bW ⟨pa,pc,.mk kind (.el re) n at_ next⟩) (ho:kind=4) (hx:gX (λm base p=>bn k true m base p true) m ⟨pa,pc,.mk kind (.el re) n at_ next⟩=some x) :
  au prog 47 [.pp 0 g 0 0 b a,aw.v b a ⟨pa,pc,.mk kind (.el re) n at_ next⟩] (m.aB g b a) λv s=>v=aO b a x.2.1 x.2.2/\s=x.1.aB g b a:=by
 have mr:=hm;obtain⟨⟨g1,g2,g3,g4⟩,⟨g5,g6,g7⟩,g8,g9⟩:=hm;unfold gX at hx;rw[am (by simpa using mr)]at hx;simp only at g5 g6 g7;simp only at hx;have d0:decide (kind=0)=false:=adl (by omega);have d1:decide (kind=1)=false:=adl (by omega);have d2:decide (kind=2)=false:=adl (by omega);have d3:decide (kind=3)=false:=adl (by omega);have d4:decide (kind=4)=true:=adu (by omega);have d5:decide (kind=5)=false:=adl (by omega);rw[am (by omega)]at hx;by_cases hn:n<0\/10000000000000<n
 ·rw[ap hn]at hx;cases hx
 rw[am hn,am (by omega),am (by omega),am (by omega),ap ho]at hx;simp only[aA.lit]at hx;by_cases Tf:re.n<1\/(pc.length:Int)<re.n
 ·rw[ap Tf]at hx;cases hx
 rw[am Tf]at hx;cases hx;have w0:IntKind.i64.wrap (re.n-1)=re.n-1:=bM _ (by omega);have q0:0<=re.n-1:=by omega
 have q1:re.n-1<(pc.length:Int):=by omega
 unfold aA.aB aA.ay;refine ar func47 rfl ntmps47 results47 rfl 3 2098171 (by simp) (by simp) ?_;try simp only[zX,simprocAttr,zM,aO,aF.bu,d0,d1,d2,d3,d4,d5]
 try simp only[zX,simprocAttr,zM,aO,bQ,ado]
 refine⟨⟨ady _,by (try simp);omega,by omega⟩,?_⟩;have TD:fX (List.replicate pc.length [V.d (D.sc (Value.int IntKind.i64 0)),V.d (D.sc (Value.int IntKind.i64 0))]) 0 (List.map (λx=>List.map V.d x) (List.map aN pc))=pc.map qO:=by unfold fX;rw[List.take_zero,adt,List.drop_of_length_le (by simp),adS,List.map_map];rfl
 try simp only[zX,simprocAttr,zM,aO,rD,ado,List.length_replicate,TD]
 refine⟨λe he=>by obtain⟨y,hy,rfl⟩:=List.mem_map.1 he;obtain⟨c,_,rfl⟩:=List.mem_map.1 hy;rfl,⟨by omega,adB _⟩,?_⟩;obtain⟨y,hy⟩:∃y,pc[(re.n-1).toNat]?=some y:=⟨_,adn (by omega)⟩
 have iP:(pc.map qO)[(re.n-1).toNat]?=some [V.d (D.sc (Value.int IntKind.i64 y.1)),V.d (D.sc (Value.int IntKind.i64 y.2))]:=by rw[adL,hy];rfl
 have cC:(pc.map qO).set (re.n-1).toNat [V.d (D.sc (Value.int IntKind.i64 at_)),V.d (D.sc (Value.int IntKind.i64 pa))]=(pc.set (re.n-1).toNat (at_,pa)).map qO:=by rw[List.map_set];rfl
 have RD:∀s:List VL.Obj,(List.take pc.length (List.map qO (List.set pc (re.n-1).toNat (at_,pa)))).mapM (λe=>e.mapM (cE 7 3 s))=some ((List.set pc (re.n-1).toNat (at_,pa)).map aN):=by intro s;rw[adT (by simp)];exact vP 6 3 s _
 refine ao mix [] [(5,[0],[]),(6,[0],[]),(7,[0],[]),(13,[3],[]),(14,[3],[]),(16,[5],[]),(17,[5],[5])] (by rfl) ?_;try simp only[zX,simprocAttr,zM,aO,aD.d,Re.ae,w0,q0,q1,adI,iP,cC,List.length_set,adB,ad9,RD]
 first
  |(refine⟨an m b a,?_⟩;simp only[zM,aO,kq,bQ,aF.d,aD.d,Re.ae];done)
  |exact⟨an m b a,rfl⟩
  |exact an m b a
theorem H9 (ih:bw k) (g b a:Nat) (m:aA) (pa:Int) (pc:aC) (kind n at_:Int) (next:aF) (hm:m.bW ⟨pa,pc,.mk kind .root n at_ next⟩) (ho:kind=4) (hx:gX (λm base p=>bn k true m base p true) m ⟨pa,pc,.mk kind .root n at_ next⟩=some x) :
  au prog 47 [.pp 0 g 0 0 b a,aw.v b a ⟨pa,pc,.mk kind .root n at_ next⟩] (m.aB g b a) λv s=>v=aO b a x.2.1 x.2.2/\s=x.1.aB g b a:=by
 have mr:=hm;obtain⟨⟨g1,g2,g3,g4⟩,⟨g5,g6,g7⟩,g8,g9⟩:=hm;unfold gX at hx;rw[am (by simpa using mr)]at hx;simp only at g5 g6 g7;simp only at hx;have d0:decide (kind=0)=false:=adl (by omega);have d1:decide (kind=1)=false:=adl (by omega);have d2:decide (kind=2)=false:=adl (by omega);have d3:decide (kind=3)=false:=adl (by omega);have d4:decide (kind=4)=true:=adu (by omega);have d5:decide (kind=5)=false:=adl (by omega);rw[am (by omega)]at hx;by_cases hn:n<0\/10000000000000<n
 ·rw[ap hn]at hx;cases hx
 rw[am hn,am (by omega),am (by omega),am (by omega),ap ho]at hx;simp only[aA.lit]at hx;by_cases Tf:m.p.re.n<1\/(pc.length:Int)<m.p.re.n
 ·rw[ap Tf]at hx;cases hx
 rw[am Tf]at hx;cases hx;have w0:IntKind.i64.wrap (m.p.re.n-1)=m.p.re.n-1:=bM _ (by omega);have q0:0<=m.p.re.n-1:=by omega
 have q1:m.p.re.n-1<(pc.length:Int):=by omega
 unfold aA.aB aA.ay;refine ar func47 rfl ntmps47 results47 rfl 3 2098171 (by simp) (by simp) ?_;try simp only[zX,simprocAttr,zM,aO,aF.bu,d0,d1,d2,d3,d4,d5]
 try simp only[zX,simprocAttr,zM,aO,bQ,ado]
 refine⟨⟨ady _,by (try simp);omega,by omega⟩,?_⟩;have TD:fX (List.replicate pc.length [V.d (D.sc (Value.int IntKind.i64 0)),V.d (D.sc (Value.int IntKind.i64 0))]) 0 (List.map (λx=>List.map V.d x) (List.map aN pc))=pc.map qO:=by unfold fX;rw[List.take_zero,adt,List.drop_of_length_le (by simp),adS,List.map_map];rfl
 try simp only[zX,simprocAttr,zM,aO,rD,ado,List.length_replicate,TD]
 refine⟨λe he=>by obtain⟨y,hy,rfl⟩:=List.mem_map.1 he;obtain⟨c,_,rfl⟩:=List.mem_map.1 hy;rfl,⟨by omega,adB _⟩,?_⟩;obtain⟨y,hy⟩:∃y,pc[(m.p.re.n-1).toNat]?=some y:=⟨_,adn (by omega)⟩
 have iP:(pc.map qO)[(m.p.re.n-1).toNat]?=some [V.d (D.sc (Value.int IntKind.i64 y.1)),V.d (D.sc (Value.int IntKind.i64 y.2))]:=by rw[adL,hy];rfl
 have cC:(pc.map qO).set (m.p.re.n-1).toNat [V.d (D.sc (Value.int IntKind.i64 at_)),V.d (D.sc (Value.int IntKind.i64 pa))]=(pc.set (m.p.re.n-1).toNat (at_,pa)).map qO:=by rw[List.map_set];rfl
 have RD:∀s:List VL.Obj,(List.take pc.length (List.map qO (List.set pc (m.p.re.n-1).toNat (at_,pa)))).mapM (λe=>e.mapM (cE 7 3 s))=some ((List.set pc (m.p.re.n-1).toNat (at_,pa)).map aN):=by intro s;rw[adT (by simp)];exact vP 6 3 s _
 refine ao mix [] [(5,[0],[]),(6,[0],[]),(7,[0],[]),(13,[3],[]),(14,[3],[]),(16,[5],[]),(17,[5],[5])] (by rfl) ?_;try simp only[zX,simprocAttr,zM,aO,aD.d,Re.ae,w0,q0,q1,adI,iP,cC,List.length_set,adB,ad9,RD]
 first
  |(refine⟨an m b a,?_⟩;simp only[zM,aO,kq,bQ,aF.d,aD.d,Re.ae];done)
  |exact⟨an m b a,rfl⟩
  |exact an m b a
end Go.Proofs.Ytphfjhaffbfpfaa
