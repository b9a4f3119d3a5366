/- A part of the proof (G11 G12). -/
import Derived.Test.YtfmdmlfhigocaaaON18
set_option linter.unusedSimpArgs false
set_option linter.unusedVariables false
set_option maxRecDepth 100000
set_option maxHeartbeats 80000000
namespace Go.Proofs.Ytfmdmlfhigocaaa
open Go.VL Go.Proofs.Try
variable{st:bJ}{g0:Nat}{kind:Int}{s1:bJ}{st':bJ}{F:Int}{most:Int}{b:Bool}{fw:Int}{re:Re}{k:Int}{c:aK}{n:Nat}{i:Int}{next:Goal}{t:List Int}
theorem U7 (ih:kA t F n) (ht:t.length<=1000000) (o:re.op=9)
  (hi0:0<=i) (oN:i<=t.length) (fx:re.set.length<=1000000000) (mY:re.kids.length<=1000000000) (fK:c.length<=1000000000) (he:s1.empty=false) (cI:eQ t F g0 most st s1)
  (hr:fL t (gT t F n) most re next i c s1=some (b,st')) :
  aq prog 82 [.rf 0 g0 0 0,.d (Goal.mk kind re k fw next).d,i64 i,.d (cM c)] (bS g0 t most F st) λv s=>v=bV b/\s=bS g0 t most F st':=by
 unfold eQ bS dt at cI;simp only[i64,bV,iD,afQ,afS]at cI;have d4:decide (re.op=4)=false:=b6 (by omega);have d1:decide (re.op=1)=false:=b6 (by omega);have d2:decide (re.op=2)=false:=b6 (by omega);have d3:decide (re.op=3)=false:=b6 (by omega);have d5:decide (re.op=5)=false:=b6 (by omega);have d6:decide (re.op=6)=false:=b6 (by omega);have d7:decide (re.op=7)=false:=b6 (by omega);have d8:decide (re.op=8)=false:=b6 (by omega);have d9:decide (re.op=9)=true:=bi o;unfold fL at hr;rw[ap (by omega),ap (by omega),ap (by omega),ap (by omega),ap (by omega),ap (by omega),be o]at hr;have DE:Goal.nil.d=.sc (.pointer none):=rfl;cases hk:re.kids with
 |nil=>rw[hk]at hr;cases hr
 |cons kid l =>
  rw[hk]at hr;have eL:re.kids[0]?=some kid:=by rw[hk];rfl
  have rT:(0:Int)<(re.kids.length:Int):=by rw[hk,afZ];omega
  clear hk;simp only at hr;cases hx:gu (gT t F n) (.mk 0 kid 0 0 .nil) i c s1 with
  |none=>rw[hx]at hr;cases hr
  |some x =>
   obtain⟨r1,s2⟩:=x;rw[hx]at hr;simp only at hr;have hf:=λext=>zj (g0:=g0) (most:=most) ih hx ext;unfold bS dt at hf;simp only[Goal.bW,DE,i64,iD,bD,bV,afQ,afS,he]at hf;by_cases e2:s2.empty=true
   ·rw[be e2]at hr;simp only[afY,agx]at hr;obtain⟨rfl,rfl⟩:=hr;cases r1 with
    |none =>
     unfold bS dt;refine an func82 rfl ntmps82 results82 rfl 3 26328072917139296674479506920917608079723773850137295405767982863 (by simp) (by simp) ?_;simp only[zX,simprocAttr,i64,bV,Goal.bW,iD,bD,d4,d1,d2,d3,d5,d6,d7,d8,d9];refine ao (cI _) (λv s' hv=>?_);obtain⟨rfl,rfl⟩:=hv;simp only[zX,simprocAttr,i64,bV,iD,bD,he,af4,aga,d4,d1,d2,d3,d5,d6,d7,d8,d9];simp only[zX,simprocAttr,i64,iD,bD,eL,rT,ai kid,Re.ae kid];refine bc [4] (by simp [bE,bM,ba.go,ba,cj]) (ao (hf _) (λv s' hv=>?_));obtain⟨rfl,rfl⟩:=hv;simp only[zX,simprocAttr,i64,bV,iD,bD,lg,e2];first|exact aQ _ _|exact⟨aQ _ _,rfl⟩
    |some p =>
     obtain⟨e1,d⟩:=p;unfold bS dt;refine an func82 rfl ntmps82 results82 rfl 3 26328072917139296674479506920917608079723773850137295405767982863 (by simp) (by simp) ?_;simp only[zX,simprocAttr,i64,bV,Goal.bW,iD,bD,d4,d1,d2,d3,d5,d6,d7,d8,d9];refine ao (cI _) (λv s' hv=>?_);obtain⟨rfl,rfl⟩:=hv;simp only[zX,simprocAttr,i64,bV,iD,bD,he,af4,aga,d4,d1,d2,d3,d5,d6,d7,d8,d9];simp only[zX,simprocAttr,i64,iD,bD,eL,rT,ai kid,Re.ae kid];refine bc [4] (by simp [bE,bM,ba.go,ba,cj]) (ao (hf _) (λv s' hv=>?_));obtain⟨rfl,rfl⟩:=hv;simp only[zX,simprocAttr,i64,bV,iD,bD,lg,e2];first|exact aQ _ _|exact⟨aQ _ _,rfl⟩
   ·rw[ap e2]at hr;have e2:s2.empty=false:=by simpa using e2
    cases r1 with
    |none =>
     simp only[afY,agx]at hr;obtain⟨rfl,rfl⟩:=hr;unfold bS dt;refine an func82 rfl ntmps82 results82 rfl 3 26328072917139296674479506920917608079723773850137295405767982863 (by simp) (by simp) ?_;simp only[zX,simprocAttr,i64,bV,Goal.bW,iD,bD,d4,d1,d2,d3,d5,d6,d7,d8,d9];refine ao (cI _) (λv s' hv=>?_);obtain⟨rfl,rfl⟩:=hv;simp only[zX,simprocAttr,i64,bV,iD,bD,he,af4,aga,d4,d1,d2,d3,d5,d6,d7,d8,d9];simp only[zX,simprocAttr,i64,iD,bD,eL,rT,ai kid,Re.ae kid];refine bc [4] (by simp [bE,bM,ba.go,ba,cj]) (ao (hf _) (λv s' hv=>?_));obtain⟨rfl,rfl⟩:=hv;simp only[zX,simprocAttr,i64,bV,iD,bD,lg,e2];first|exact aQ _ _|exact⟨aQ _ _,rfl⟩
    |some p =>
     obtain⟨e1,d⟩:=p;simp only at hr;have hc:=λext=>fM (ih g0 _ _ _ _ _ hr) ext;unfold fl eB bS dt at hc;simp only[Goal.bW,i64,iD,bD,bV,afQ,afS]at hc;simp only[e2]at hc;unfold bS dt;refine an func82 rfl ntmps82 results82 rfl 3 26328072917139296674479506920917608079723773850137295405767982863 (by simp) (by simp) ?_;simp only[zX,simprocAttr,i64,bV,Goal.bW,iD,bD,d4,d1,d2,d3,d5,d6,d7,d8,d9];refine ao (cI _) (λv s' hv=>?_);obtain⟨rfl,rfl⟩:=hv;simp only[zX,simprocAttr,i64,bV,iD,bD,he,af4,aga,d4,d1,d2,d3,d5,d6,d7,d8,d9];simp only[zX,simprocAttr,i64,iD,bD,eL,rT,ai kid,Re.ae kid];refine bc [4] (by simp [bE,bM,ba.go,ba,cj]) (ao (hf _) (λv s' hv=>?_));obtain⟨rfl,rfl⟩:=hv;simp only[zX,simprocAttr,i64,bV,iD,bD,lg,e2]
     (refine ao (hc _) (λv s' hv=>?_);obtain⟨rfl,rfl⟩:=hv)
     simp only[zX,simprocAttr,i64,bV,iD,bD];first|exact aQ _ _|exact⟨aQ _ _,rfl⟩
theorem Vt (ih:kA t F n) (ht:t.length<=1000000) (o:re.op=7)
  (hi0:0<=i) (oN:i<=t.length) (fx:re.set.length<=1000000000) (mY:re.kids.length<=1000000000) (fK:c.length<=1000000000) (he:s1.empty=false) (cI:eQ t F g0 most st s1)
  (hr:fL t (gT t F n) most re next i c s1=some (b,st')) :
  aq prog 82 [.rf 0 g0 0 0,.d (Goal.mk kind re k fw next).d,i64 i,.d (cM c)] (bS g0 t most F st) λv s=>v=bV b/\s=bS g0 t most F st':=by
 unfold eQ bS dt at cI;simp only[i64,bV,iD,afQ,afS]at cI;have d4:decide (re.op=4)=false:=b6 (by omega);have d1:decide (re.op=1)=false:=b6 (by omega);have d2:decide (re.op=2)=false:=b6 (by omega);have d3:decide (re.op=3)=false:=b6 (by omega);have d5:decide (re.op=5)=false:=b6 (by omega);have d6:decide (re.op=6)=false:=b6 (by omega);have d7:decide (re.op=7)=true:=bi o;unfold fL at hr;rw[ap (by omega),ap (by omega),ap (by omega),ap (by omega),ap (by omega),be (by omega)]at hr;cases hk:re.kids with
 |nil=>rw[hk]at hr;cases hr
 |cons kid l =>
  rw[hk]at hr;have eL:re.kids[0]?=some kid:=by rw[hk];rfl
  have rT:(0:Int)<(re.kids.length:Int):=by rw[hk,afZ];omega
  simp only at hr;cases hx:rI (gT t F n) re.op kid i c s1 with
  |none=>rw[hx]at hr;cases hr
  |some x =>
   obtain⟨r1,s2⟩:=x;rw[hx]at hr;simp only at hr;have hf:=λext=>JE (g0:=g0) (most:=most) ih hk hi0 (by omega) hx ext;clear hk;unfold bS dt at hf;simp only[ai re,i64,iD,bD,bV,afQ,afS,he]at hf;by_cases e2:s2.empty=true
   ·rw[be e2]at hr;simp only[afY,agx]at hr;obtain⟨rfl,rfl⟩:=hr;cases r1 with
    |none =>
     unfold bS dt;refine an func82 rfl ntmps82 results82 rfl 3 26328072917139296674479506920917608079723773850137295405767982863 (by simp) (by simp) ?_;simp only[zX,simprocAttr,i64,bV,Goal.bW,iD,bD,d4,d1,d2,d3,d5,d6,d7];refine ao (cI _) (λv s' hv=>?_);obtain⟨rfl,rfl⟩:=hv;simp only[zX,simprocAttr,i64,bV,iD,bD,he,af4,aga,d4,d1,d2,d3,d5,d6,d7]
     (refine ao (hf _) (λv s' hv=>?_);obtain⟨rfl,rfl⟩:=hv)
     simp only[zX,simprocAttr,i64,bV,iD,bD,m6,e2];first|exact aQ _ _|exact⟨aQ _ _,rfl⟩
    |some d =>
     unfold bS dt;refine an func82 rfl ntmps82 results82 rfl 3 26328072917139296674479506920917608079723773850137295405767982863 (by simp) (by simp) ?_;simp only[zX,simprocAttr,i64,bV,Goal.bW,iD,bD,d4,d1,d2,d3,d5,d6,d7];refine ao (cI _) (λv s' hv=>?_);obtain⟨rfl,rfl⟩:=hv;simp only[zX,simprocAttr,i64,bV,iD,bD,he,af4,aga,d4,d1,d2,d3,d5,d6,d7]
     (refine ao (hf _) (λv s' hv=>?_);obtain⟨rfl,rfl⟩:=hv)
     simp only[zX,simprocAttr,i64,bV,iD,bD,m6,e2];first|exact aQ _ _|exact⟨aQ _ _,rfl⟩
   ·rw[ap e2]at hr;have e2:s2.empty=false:=by simpa using e2
    cases hn:re.neg with
    |true =>
     rw[be hn]at hr;cases r1 with
     |none =>
      simp only at hr;have hc:=λext=>fM (ih g0 _ _ _ _ _ hr) ext;unfold fl eB bS dt at hc;simp only[Goal.bW,i64,iD,bD,bV,afQ,afS]at hc;simp only[e2]at hc;unfold bS dt;refine an func82 rfl ntmps82 results82 rfl 3 26328072917139296674479506920917608079723773850137295405767982863 (by simp) (by simp) ?_;simp only[zX,simprocAttr,i64,bV,Goal.bW,iD,bD,d4,d1,d2,d3,d5,d6,d7];refine ao (cI _) (λv s' hv=>?_);obtain⟨rfl,rfl⟩:=hv;simp only[zX,simprocAttr,i64,bV,iD,bD,he,af4,aga,d4,d1,d2,d3,d5,d6,d7]
      (refine ao (hf _) (λv s' hv=>?_);obtain⟨rfl,rfl⟩:=hv)
      simp only[zX,simprocAttr,i64,bV,iD,bD,m6,e2,hn]
      (refine ao (hc _) (λv s' hv=>?_);obtain⟨rfl,rfl⟩:=hv)
      simp only[zX,simprocAttr,i64,bV,iD,bD];first|exact aQ _ _|exact⟨aQ _ _,rfl⟩
     |some d =>
      simp only[afY,agx]at hr;obtain⟨rfl,rfl⟩:=hr;unfold bS dt;refine an func82 rfl ntmps82 results82 rfl 3 26328072917139296674479506920917608079723773850137295405767982863 (by simp) (by simp) ?_;simp only[zX,simprocAttr,i64,bV,Goal.bW,iD,bD,d4,d1,d2,d3,d5,d6,d7];refine ao (cI _) (λv s' hv=>?_);obtain⟨rfl,rfl⟩:=hv;simp only[zX,simprocAttr,i64,bV,iD,bD,he,af4,aga,d4,d1,d2,d3,d5,d6,d7]
      (refine ao (hf _) (λv s' hv=>?_);obtain⟨rfl,rfl⟩:=hv)
      simp only[zX,simprocAttr,i64,bV,iD,bD,m6,e2,hn];first|exact aQ _ _|exact⟨aQ _ _,rfl⟩
    |false =>
     rw[ap (by rw[hn];decide)]at hr;cases r1 with
     |none =>
      simp only[afY,agx]at hr;obtain⟨rfl,rfl⟩:=hr;unfold bS dt;refine an func82 rfl ntmps82 results82 rfl 3 26328072917139296674479506920917608079723773850137295405767982863 (by simp) (by simp) ?_;simp only[zX,simprocAttr,i64,bV,Goal.bW,iD,bD,d4,d1,d2,d3,d5,d6,d7];refine ao (cI _) (λv s' hv=>?_);obtain⟨rfl,rfl⟩:=hv;simp only[zX,simprocAttr,i64,bV,iD,bD,he,af4,aga,d4,d1,d2,d3,d5,d6,d7]
      (refine ao (hf _) (λv s' hv=>?_);obtain⟨rfl,rfl⟩:=hv)
      simp only[zX,simprocAttr,i64,bV,iD,bD,m6,e2,hn];first|exact aQ _ _|exact⟨aQ _ _,rfl⟩
     |some d =>
      simp only at hr;have hc:=λext=>fM (ih g0 _ _ _ _ _ hr) ext;unfold fl eB bS dt at hc;simp only[Goal.bW,i64,iD,bD,bV,afQ,afS]at hc;simp only[e2]at hc;unfold bS dt;refine an func82 rfl ntmps82 results82 rfl 3 26328072917139296674479506920917608079723773850137295405767982863 (by simp) (by simp) ?_;simp only[zX,simprocAttr,i64,bV,Goal.bW,iD,bD,d4,d1,d2,d3,d5,d6,d7];refine ao (cI _) (λv s' hv=>?_);obtain⟨rfl,rfl⟩:=hv;simp only[zX,simprocAttr,i64,bV,iD,bD,he,af4,aga,d4,d1,d2,d3,d5,d6,d7]
      (refine ao (hf _) (λv s' hv=>?_);obtain⟨rfl,rfl⟩:=hv)
      simp only[zX,simprocAttr,i64,bV,iD,bD,m6,e2,hn]
      (refine ao (hc _) (λv s' hv=>?_);obtain⟨rfl,rfl⟩:=hv)
      simp only[zX,simprocAttr,i64,bV,iD,bD];first|exact aQ _ _|exact⟨aQ _ _,rfl⟩
theorem VU (ih:kA t F n) (ht:t.length<=1000000) (o:re.op=8)
  (hi0:0<=i) (oN:i<=t.length) (fx:re.set.length<=1000000000) (mY:re.kids.length<=1000000000) (fK:c.length<=1000000000) (he:s1.empty=false) (cI:eQ t F g0 most st s1)
  (hr:fL t (gT t F n) most re next i c s1=some (b,st')) :
  aq prog 82 [.rf 0 g0 0 0,.d (Goal.mk kind re k fw next).d,i64 i,.d (cM c)] (bS g0 t most F st) λv s=>v=bV b/\s=bS g0 t most F st':=by
 unfold eQ bS dt at cI;simp only[i64,bV,iD,afQ,afS]at cI;have d4:decide (re.op=4)=false:=b6 (by omega);have d1:decide (re.op=1)=false:=b6 (by omega);have d2:decide (re.op=2)=false:=b6 (by omega);have d3:decide (re.op=3)=false:=b6 (by omega);have d5:decide (re.op=5)=false:=b6 (by omega);have d6:decide (re.op=6)=false:=b6 (by omega);have d7:decide (re.op=7)=false:=b6 (by omega);have d8:decide (re.op=8)=true:=bi o;unfold fL at hr;rw[ap (by omega),ap (by omega),ap (by omega),ap (by omega),ap (by omega),be (by omega)]at hr;cases hk:re.kids with
 |nil=>rw[hk]at hr;cases hr
 |cons kid l =>
  rw[hk]at hr;have eL:re.kids[0]?=some kid:=by rw[hk];rfl
  have rT:(0:Int)<(re.kids.length:Int):=by rw[hk,afZ];omega
  simp only at hr;cases hx:rI (gT t F n) re.op kid i c s1 with
  |none=>rw[hx]at hr;cases hr
  |some x =>
   obtain⟨r1,s2⟩:=x;rw[hx]at hr;simp only at hr;have hf:=λext=>JE (g0:=g0) (most:=most) ih hk hi0 (by omega) hx ext;clear hk;unfold bS dt at hf;simp only[ai re,i64,iD,bD,bV,afQ,afS,he]at hf;by_cases e2:s2.empty=true
   ·rw[be e2]at hr;simp only[afY,agx]at hr;obtain⟨rfl,rfl⟩:=hr;cases r1 with
    |none =>
     unfold bS dt;refine an func82 rfl ntmps82 results82 rfl 3 26328072917139296674479506920917608079723773850137295405767982863 (by simp) (by simp) ?_;simp only[zX,simprocAttr,i64,bV,Goal.bW,iD,bD,d4,d1,d2,d3,d5,d6,d7,d8];refine ao (cI _) (λv s' hv=>?_);obtain⟨rfl,rfl⟩:=hv;simp only[zX,simprocAttr,i64,bV,iD,bD,he,af4,aga,d4,d1,d2,d3,d5,d6,d7,d8]
     (refine ao (hf _) (λv s' hv=>?_);obtain⟨rfl,rfl⟩:=hv)
     simp only[zX,simprocAttr,i64,bV,iD,bD,m6,e2];first|exact aQ _ _|exact⟨aQ _ _,rfl⟩
    |some d =>
     unfold bS dt;refine an func82 rfl ntmps82 results82 rfl 3 26328072917139296674479506920917608079723773850137295405767982863 (by simp) (by simp) ?_;simp only[zX,simprocAttr,i64,bV,Goal.bW,iD,bD,d4,d1,d2,d3,d5,d6,d7,d8];refine ao (cI _) (λv s' hv=>?_);obtain⟨rfl,rfl⟩:=hv;simp only[zX,simprocAttr,i64,bV,iD,bD,he,af4,aga,d4,d1,d2,d3,d5,d6,d7,d8]
     (refine ao (hf _) (λv s' hv=>?_);obtain⟨rfl,rfl⟩:=hv)
     simp only[zX,simprocAttr,i64,bV,iD,bD,m6,e2];first|exact aQ _ _|exact⟨aQ _ _,rfl⟩
   ·rw[ap e2]at hr;have e2:s2.empty=false:=by simpa using e2
    cases hn:re.neg with
    |true =>
     rw[be hn]at hr;cases r1 with
     |none =>
      simp only at hr;have hc:=λext=>fM (ih g0 _ _ _ _ _ hr) ext;unfold fl eB bS dt at hc;simp only[Goal.bW,i64,iD,bD,bV,afQ,afS]at hc;simp only[e2]at hc;unfold bS dt;refine an func82 rfl ntmps82 results82 rfl 3 26328072917139296674479506920917608079723773850137295405767982863 (by simp) (by simp) ?_;simp only[zX,simprocAttr,i64,bV,Goal.bW,iD,bD,d4,d1,d2,d3,d5,d6,d7,d8];refine ao (cI _) (λv s' hv=>?_);obtain⟨rfl,rfl⟩:=hv;simp only[zX,simprocAttr,i64,bV,iD,bD,he,af4,aga,d4,d1,d2,d3,d5,d6,d7,d8]
      (refine ao (hf _) (λv s' hv=>?_);obtain⟨rfl,rfl⟩:=hv)
      simp only[zX,simprocAttr,i64,bV,iD,bD,m6,e2,hn]
      (refine ao (hc _) (λv s' hv=>?_);obtain⟨rfl,rfl⟩:=hv)
      simp only[zX,simprocAttr,i64,bV,iD,bD];first|exact aQ _ _|exact⟨aQ _ _,rfl⟩
     |some d =>
      simp only[afY,agx]at hr;obtain⟨rfl,rfl⟩:=hr;unfold bS dt;refine an func82 rfl ntmps82 results82 rfl 3 26328072917139296674479506920917608079723773850137295405767982863 (by simp) (by simp) ?_;simp only[zX,simprocAttr,i64,bV,Goal.bW,iD,bD,d4,d1,d2,d3,d5,d6,d7,d8];refine ao (cI _) (λv s' hv=>?_);obtain⟨rfl,rfl⟩:=hv;simp only[zX,simprocAttr,i64,bV,iD,bD,he,af4,aga,d4,d1,d2,d3,d5,d6,d7,d8]
      (refine ao (hf _) (λv s' hv=>?_);obtain⟨rfl,rfl⟩:=hv)
      simp only[zX,simprocAttr,i64,bV,iD,bD,m6,e2,hn];first|exact aQ _ _|exact⟨aQ _ _,rfl⟩
    |false =>
     rw[ap (by rw[hn];decide)]at hr;cases r1 with
     |none =>
      simp only[afY,agx]at hr;obtain⟨rfl,rfl⟩:=hr;unfold bS dt;refine an func82 rfl ntmps82 results82 rfl 3 26328072917139296674479506920917608079723773850137295405767982863 (by simp) (by simp) ?_;simp only[zX,simprocAttr,i64,bV,Goal.bW,iD,bD,d4,d1,d2,d3,d5,d6,d7,d8];refine ao (cI _) (λv s' hv=>?_);obtain⟨rfl,rfl⟩:=hv;simp only[zX,simprocAttr,i64,bV,iD,bD,he,af4,aga,d4,d1,d2,d3,d5,d6,d7,d8]
      (refine ao (hf _) (λv s' hv=>?_);obtain⟨rfl,rfl⟩:=hv)
      simp only[zX,simprocAttr,i64,bV,iD,bD,m6,e2,hn];first|exact aQ _ _|exact⟨aQ _ _,rfl⟩
     |some d =>
      simp only at hr;have hc:=λext=>fM (ih g0 _ _ _ _ _ hr) ext;unfold fl eB bS dt at hc;simp only[Goal.bW,i64,iD,bD,bV,afQ,afS]at hc;simp only[e2]at hc;unfold bS dt;refine an func82 rfl ntmps82 results82 rfl 3 26328072917139296674479506920917608079723773850137295405767982863 (by simp) (by simp) ?_;simp only[zX,simprocAttr,i64,bV,Goal.bW,iD,bD,d4,d1,d2,d3,d5,d6,d7,d8];refine ao (cI _) (λv s' hv=>?_);obtain⟨rfl,rfl⟩:=hv;simp only[zX,simprocAttr,i64,bV,iD,bD,he,af4,aga,d4,d1,d2,d3,d5,d6,d7,d8]
      (refine ao (hf _) (λv s' hv=>?_);obtain⟨rfl,rfl⟩:=hv)
      simp only[zX,simprocAttr,i64,bV,iD,bD,m6,e2,hn]
      (refine ao (hc _) (λv s' hv=>?_);obtain⟨rfl,rfl⟩:=hv)
      simp only[zX,simprocAttr,i64,bV,iD,bD];first|exact aQ _ _|exact⟨aQ _ _,rfl⟩
theorem RU (ih:kA t F n) (ht:t.length<=1000000) (o:re.op=10)
  (hi0:0<=i) (oN:i<=t.length) (fx:re.set.length<=1000000000) (mY:re.kids.length<=1000000000) (fK:c.length<=1000000000) (he:s1.empty=false) (cI:eQ t F g0 most st s1)
  (hr:fL t (gT t F n) most re next i c s1=some (b,st')) :
  aq prog 82 [.rf 0 g0 0 0,.d (Goal.mk kind re k fw next).d,i64 i,.d (cM c)] (bS g0 t most F st) λv s=>v=bV b/\s=bS g0 t most F st':=by
 unfold eQ bS dt at cI;simp only[i64,bV,iD,afQ,afS]at cI;have d4:decide (re.op=4)=false:=b6 (by omega);have d1:decide (re.op=1)=false:=b6 (by omega);have d2:decide (re.op=2)=false:=b6 (by omega);have d3:decide (re.op=3)=false:=b6 (by omega);have d5:decide (re.op=5)=false:=b6 (by omega);have d6:decide (re.op=6)=false:=b6 (by omega);have d7:decide (re.op=7)=false:=b6 (by omega);have d8:decide (re.op=8)=false:=b6 (by omega);have d9:decide (re.op=9)=false:=b6 (by omega);have d10:decide (re.op=10)=true:=bi o;unfold fL at hr;rw[ap (by omega),ap (by omega),ap (by omega),ap (by omega),ap (by omega),ap (by omega),ap (by omega),be o]at hr;have oz:=Mf c re.n fK;simp only[i64]at oz
 match hk:re.kids with
 |[]=>rw[hk]at hr;cases hr
 |[_]=>rw[hk]at hr;cases hr
 |yes::no::l =>
  rw[hk]at hr;have eL:re.kids[0]?=some yes:=by rw[hk];rfl
  have Cd:re.kids[1]?=some no:=by rw[hk];rfl
  have rT:(0:Int)<(re.kids.length:Int):=by rw[hk,afZ];omega
  have vu:(1:Int)<(re.kids.length:Int):=by rw[hk,afZ,afZ];omega
  clear hk;simp only at hr;by_cases q:0<=(cE c re.n).1
  ·rw[be q]at hr;have hc:=λext=>fM (ih g0 _ _ _ _ _ hr) ext;unfold fl eB bS dt at hc;simp only[Goal.bW,i64,iD,bD,bV,afQ,afS]at hc;simp only[he]at hc;unfold bS dt;refine an func82 rfl ntmps82 results82 rfl 3 26328072917139296674479506920917608079723773850137295405767982863 (by simp) (by simp) ?_;simp only[zX,simprocAttr,-Int.reduceNatCast',i64,bV,Goal.bW,iD,bD,d4,d1,d2,d3,d5,d6,d7,d8,d9,d10];refine ao (cI _) (λv s' hv=>?_);obtain⟨rfl,rfl⟩:=hv;simp only[zX,simprocAttr,-Int.reduceNatCast',i64,bV,iD,bD,he,af4,aga,d4,d1,d2,d3,d5,d6,d7,d8,d9,d10];refine aj oz rfl rfl ?_;simp only[zX,simprocAttr,-Int.reduceNatCast',i64,iD,bD,eL,rT,Cd,vu,ai yes,Re.ae yes,ai no,Re.ae no,q,ge_iff_le];refine⟨by decide,?_⟩;refine aS bO.bf ?_;refine ar mix [10] [(7,[6],[6])] (by rfl) ?_;simp only[zX,simprocAttr,-Int.reduceNatCast',i64,bV,iD,bD,hole];refine e8 (bc [6] (by simp [bE,bM,ba.go,ba,cj]) (hc _)) ?_;simp only[zX,simprocAttr,-Int.reduceNatCast',i64,bV,iD,bD];first|exact aQ _ _|exact⟨aQ _ _,rfl⟩
  ·rw[ap q]at hr;have hc:=λext=>fM (ih g0 _ _ _ _ _ hr) ext;unfold fl eB bS dt at hc;simp only[Goal.bW,i64,iD,bD,bV,afQ,afS]at hc;simp only[he]at hc;unfold bS dt;refine an func82 rfl ntmps82 results82 rfl 3 26328072917139296674479506920917608079723773850137295405767982863 (by simp) (by simp) ?_;simp only[zX,simprocAttr,-Int.reduceNatCast',i64,bV,Goal.bW,iD,bD,d4,d1,d2,d3,d5,d6,d7,d8,d9,d10];refine ao (cI _) (λv s' hv=>?_);obtain⟨rfl,rfl⟩:=hv;simp only[zX,simprocAttr,-Int.reduceNatCast',i64,bV,iD,bD,he,af4,aga,d4,d1,d2,d3,d5,d6,d7,d8,d9,d10];refine aj oz rfl rfl ?_;simp only[zX,simprocAttr,-Int.reduceNatCast',i64,iD,bD,eL,rT,Cd,vu,ai yes,Re.ae yes,ai no,Re.ae no,q,ge_iff_le];refine⟨by decide,?_⟩;refine aS bO.bf ?_;refine ar mix [10] [(7,[6],[6])] (by rfl) ?_;simp only[zX,simprocAttr,-Int.reduceNatCast',i64,bV,iD,bD,hole];refine e8 (bc [6] (by simp [bE,bM,ba.go,ba,cj]) (hc _)) ?_;simp only[zX,simprocAttr,-Int.reduceNatCast',i64,bV,iD,bD];first|exact aQ _ _|exact⟨aQ _ _,rfl⟩
def MM (re:Re):VL.Obj:=⟨0,true,8,[[i64 re.op,.d (.sl (re.set.map aV)),.d (.sl (re.kids.map Re.cells)),i64 re.mn,i64 re.mx,i64 re.mode,i64 re.n,bV re.neg]]⟩
theorem Rp (g0:Nat) (t:List Int) (most F:Int) (st:bJ) (n:Nat) (hn:3<=n):(bS g0 t most F st).all (aG n)=true:=by unfold bS dt;simp only[agq,agA,aG,af5];rw[sY st.ends iD n,sY st.ak cM n];have h1:decide (1<n)=true:=bi (by omega);have h2:decide (2<n)=true:=bi (by omega);simp [ah,i64,bV,h1,h2]
theorem G7 {α:Type}{l:List α}{j:Nat}{x:α} (h:l[j]?=some x):l.drop j=x::l.drop (j+1):=by obtain⟨h1,h2⟩:=List.getElem?_eq_some_iff.1 h;rw[<- h2];exact List.drop_eq_getElem_cons h1
theorem Vr (ih:kA t F n) (ht:t.length<=1000000) (o:re.op=3)
  (hi0:0<=i) (oN:i<=t.length) (fx:re.set.length<=1000000000) (mY:re.kids.length<=1000000000) (fK:c.length<=1000000000) (he:s1.empty=false) (cI:eQ t F g0 most st s1)
  (hr:fL t (gT t F n) most re next i c s1=some (b,st')) :
  aq prog 82 [.rf 0 g0 0 0,.d (Goal.mk kind re k fw next).d,i64 i,.d (cM c)] (bS g0 t most F st) λv s=>v=bV b/\s=bS g0 t most F st':=by
 unfold eQ bS dt at cI;simp only[i64,bV,iD,afQ,afS]at cI;have d4:decide (re.op=4)=false:=b6 (by omega);have d1:decide (re.op=1)=false:=b6 (by omega);have d2:decide (re.op=2)=false:=b6 (by omega);have d3:decide (re.op=3)=true:=bi o;unfold fL at hr;rw[ap (by omega),ap (by omega),be o]at hr;unfold bS dt;refine an func82 rfl ntmps82 results82 rfl 3 26328072917139296674479506920917608079723773850137295405767982863 (by simp) (by simp) ?_;simp only[zX,simprocAttr,-Int.reduceNatCast',i64,bV,Goal.bW,iD,bD,d4,d1,d2,d3];refine ao (cI _) (λv s' hv=>?_);obtain⟨rfl,rfl⟩:=hv;simp only[zX,simprocAttr,-Int.reduceNatCast',i64,bV,iD,bD,he,af4,aga,d4,d1,d2,d3];refine au (λm e s=>∃(j:Nat) (s2:bJ),m=re.kids.length-j/\j<=re.kids.length/\e 0=.rf 0 g0 0 0/\e 1=.d (Goal.mk kind re k fw next).d/\e 2=i64 i/\e 3=.d (cM c)/\e 9=.rf 3 0 0 0/\e 12=i64 j/\s=bS g0 t most F s2++[MM re] /\
   Bv (λk st=>gT t F n most (.run (.mk 0 k 0 0 next) i c) st) (re.kids.drop j) s2=some (b,st'))
  ⟨_,_,_,br.refl,0,s1,rfl,by omega,rfl,?_,rfl,rfl,rfl,rfl,?_,by simpa using hr⟩ ?_
 ·rw[Goal.bW];rfl
 ·unfold bS dt MM;simp only[he];rfl
 clear hr;rintro m e s ⟨j,s2,rfl,hj,h0,h1,h2,h3,h9,jn,rfl,hb⟩;rw[Goal.bW]at h1;rcases agi j re.kids.length with az|fI
 ·obtain⟨x,hx⟩:∃x,re.kids[j]?=some x:=⟨_,afP az⟩
  rw[G7 hx]at hb;simp only[Bv]at hb;cases Xx:gT t F n most (.run (.mk 0 x 0 0 next) i c) s2 with
  |none=>rw[Xx]at hb;cases hb
  |some y =>
   obtain⟨b1,s3⟩:=y;rw[Xx]at hb;have hc:=λext=>fM (ih g0 _ _ _ _ _ Xx) ext;unfold fl eB bS dt at hc;simp only[Goal.bW,i64,iD,bD,bV,afQ,afS]at hc;unfold bS dt MM;simp only[zX,simprocAttr,-Int.reduceNatCast',i64,bV,iD,bD,afQ,afS,h0,h1,h2,h3,h9,jn,az,hx];refine aS bO.bf ?_;refine ar mix [14] [(11,[4],[4])] (by rfl) ?_;simp only[zX,simprocAttr,-Int.reduceNatCast',i64,bV,iD,bD,hole,h0,h1,h2,h3,h9,jn,az,hx,ai x,Re.ae x];refine e8 (bc [4] (by simp [bE,bM,ba.go,ba,cj]) (hc _)) ?_;cases b1 with
   |true =>
    simp only[J6,afY,agx]at hb;obtain⟨rfl,rfl⟩:=hb;simp only[zX,simprocAttr,-Int.reduceNatCast',i64,bV,iD,bD];first|exact aQ _ _|exact⟨aQ _ _,rfl⟩
   |false =>
    simp only[J6]at hb;simp only[zX,simprocAttr,-Int.reduceNatCast',i64,bV,iD,bD,h0,h1,h2,h3,h9,jn];refine⟨re.kids.length-(j+1),_,_,by omega,br.cut (s':=bS g0 t most F s3++[MM re]) 4 (by omega) rfl ?_ [0,1,2,3,9,12] ?_,j+1,s3,rfl,az,?_,?_,?_,?_,?_,?_,rfl,hb⟩
    ·have:=Rp g0 t most F s3 4 (by omega);rw[ahf,this];rfl
    ·simp [bz,aH,ah,i64,h0,h1,h2,h3,h9,jn]
    ·simpa [nV,bz,aH,i64]using h0
    ·rw[Goal.bW];simpa [nV,bz,aH,i64]using h1
    ·simpa [nV,bz,aH,i64]using h2
    ·simpa [nV,bz,aH,i64]using h3
    ·simpa [nV,bz,aH,i64]using h9
    ·simp only[nV,bz,List.contains_cons,List.contains_nil,Nat.reduceBEq,ag7,agr,agz,Bool.or_true,if_true,age,if_false,reduceIte,Nat.reduceEqDiff];rw[bd _ (by omega)];rfl
 ·have KR:j=re.kids.length:=by omega
  subst KR;rw[List.drop_length]at hb;simp only[Bv,afY,agx]at hb;obtain⟨rfl,rfl⟩:=hb;unfold bS dt MM;simp only[zX,simprocAttr,-Int.reduceNatCast',i64,bV,iD,bD,afQ,afS,h0,h1,h2,h3,h9,jn,agK];first|exact aQ _ _|exact⟨aQ _ _,rfl⟩
end Go.Proofs.Ytfmdmlfhigocaaa
