/- A part of the proof (G11 G12). -/
import Derived.Test.YtfmdmlfhigocaaaOR18
set_option linter.unusedSimpArgs false
set_option linter.unusedVariables false
open Int renaming reduceNatCast' → kd
set_option maxRecDepth 100000
set_option maxHeartbeats 80000000
namespace Go.Proofs.Ytfmdmlfhigocaaa
open Go.VL Go.Proofs.Try
variable{c:aD}{g0:Nat}{kind:Int}{next:Goal}{st':bh}{F:Int}{most:Int}{b:Bool}{st:bh}{re:Re}{k:Int}{s1:bh}{n:Nat}{i:Int}{fH:Int}{t:List Int}
theorem Yd (ih:lH t F n) (ht:t.length<=1000000) (o:re.op=9)
  (hi0:0<=i) (ql:i<=t.length) (gD:re.set.length<=1000000000) (kB:re.kids.length<=1000000000) (iy:c.length<=1000000000) (he:s1.empty=false) (ck:fz t F g0 most st s1)
  (hr:dI t (fV t F n) most re next i c s1=some (b,st')) :
  az prog 82 [.rf 0 g0 0 0,.d (Goal.mk kind re k fH next).d,i64 i,.d (df c)] (cb g0 t most F st) λv s=>v=bV b/\s=cb g0 t most F st':=by
 unfold fz cb dL at ck;simp only[i64,bV,iD,aiX,ai0]at ck;have d4:decide (re.op=4)=false:=ce ae;have d1:decide (re.op=1)=false:=ce ae;have d2:decide (re.op=2)=false:=ce ae;have d3:decide (re.op=3)=false:=ce ae;have d5:decide (re.op=5)=false:=ce ae;have d6:decide (re.op=6)=false:=ce ae;have d7:decide (re.op=7)=false:=ce ae;have d8:decide (re.op=8)=false:=ce ae;have d9:decide (re.op=9)=true:=bi o;unfold dI at hr;rw[bd,bd,bd,bd,bd,bd,be o]at hr;have F9:Goal.nil.d=.sc (.pointer none):=rfl;cases hk:re.kids with
 |nil=>rw[hk]at hr;cases hr
 |cons aP l =>
  rw[hk]at hr;have hk0:re.kids[0]?=some aP:=by rw[hk];rfl
  have tL:(0:Int)<(re.kids.length:Int):=by rw[hk,ai8];omega
  clear hk;simp only at hr;cases hx:cF (fV t F n) (.mk 0 aP 0 0 .nil) i c s1 with
  |none=>rw[hx]at hr;cases hr
  |some x =>
   obtain⟨r1,s2⟩:=x;rw[hx]at hr;simp only at hr;have hf:=λext=>Bl (g0:=g0) (most:=most) ih hx ext;unfold cb dL at hf;simp only[Goal.cj,F9,i64,iD,bD,bV,aiX,ai0,he]at hf;by_cases e2:s2.empty=true
   ·rw[be e2]at hr;simp only[ai5,ajE]at hr;obtain⟨rfl,rfl⟩:=hr;cases r1 with
    |none =>
     unfold cb dL;refine bk func82 ntmps82 results82 3 26328072917139296674479506920917608079723773850137295405767982863 ?_;simp only[zI,simprocAttr,bV,Goal.cj,iD,bD,d4,d1,d2,d3,d5,d6,d7,d8,d9];refine ar (ck _) (λv s' hv=>?_);obtain⟨rfl,rfl⟩:=hv;simp only[zQ,simprocAttr,he,ajd,aje,d4,d1,d2,d3,d5,d6,d7,d8,d9];simp only[zI,simprocAttr,iD,bD,hk0,tL,aq aP,Re.ah aP];refine bL [4] (by simp [bA,bP,bm.go,bm,cR]) (ar (hf _) (λv s' hv=>?_));obtain⟨rfl,rfl⟩:=hv;simp only[zQ,simprocAttr,mg,e2];first|exact aR _ _|exact⟨aR _ _,rfl⟩
    |some p =>
     obtain⟨e1,d⟩:=p;unfold cb dL;refine bk func82 ntmps82 results82 3 26328072917139296674479506920917608079723773850137295405767982863 ?_;simp only[zI,simprocAttr,bV,Goal.cj,iD,bD,d4,d1,d2,d3,d5,d6,d7,d8,d9];refine ar (ck _) (λv s' hv=>?_);obtain⟨rfl,rfl⟩:=hv;simp only[zQ,simprocAttr,he,ajd,aje,d4,d1,d2,d3,d5,d6,d7,d8,d9];simp only[zI,simprocAttr,iD,bD,hk0,tL,aq aP,Re.ah aP];refine bL [4] (by simp [bA,bP,bm.go,bm,cR]) (ar (hf _) (λv s' hv=>?_));obtain⟨rfl,rfl⟩:=hv;simp only[zQ,simprocAttr,mg,e2];first|exact aR _ _|exact⟨aR _ _,rfl⟩
   ·rw[ap e2]at hr;have e2:s2.empty=false:=by simpa using e2
    cases r1 with
    |none =>
     simp only[ai5,ajE]at hr;obtain⟨rfl,rfl⟩:=hr;unfold cb dL;refine bk func82 ntmps82 results82 3 26328072917139296674479506920917608079723773850137295405767982863 ?_;simp only[zI,simprocAttr,bV,Goal.cj,iD,bD,d4,d1,d2,d3,d5,d6,d7,d8,d9];refine ar (ck _) (λv s' hv=>?_);obtain⟨rfl,rfl⟩:=hv;simp only[zQ,simprocAttr,he,ajd,aje,d4,d1,d2,d3,d5,d6,d7,d8,d9];simp only[zI,simprocAttr,iD,bD,hk0,tL,aq aP,Re.ah aP];refine bL [4] (by simp [bA,bP,bm.go,bm,cR]) (ar (hf _) (λv s' hv=>?_));obtain⟨rfl,rfl⟩:=hv;simp only[zQ,simprocAttr,mg,e2];first|exact aR _ _|exact⟨aR _ _,rfl⟩
    |some p =>
     obtain⟨e1,d⟩:=p;simp only at hr;have hc:=λext=>gE (ih g0 _ _ _ _ _ hr) ext;unfold fS ff cb dL at hc;simp only[Goal.cj,i64,iD,bD,bV,aiX,ai0]at hc;simp only[e2]at hc;unfold cb dL;refine bk func82 ntmps82 results82 3 26328072917139296674479506920917608079723773850137295405767982863 ?_;simp only[zI,simprocAttr,bV,Goal.cj,iD,bD,d4,d1,d2,d3,d5,d6,d7,d8,d9];refine ar (ck _) (λv s' hv=>?_);obtain⟨rfl,rfl⟩:=hv;simp only[zQ,simprocAttr,he,ajd,aje,d4,d1,d2,d3,d5,d6,d7,d8,d9];simp only[zI,simprocAttr,iD,bD,hk0,tL,aq aP,Re.ah aP];refine bL [4] (by simp [bA,bP,bm.go,bm,cR]) (ar (hf _) (λv s' hv=>?_));obtain⟨rfl,rfl⟩:=hv;simp only[zQ,simprocAttr,mg,e2]
     (refine ar (hc _) (λv s' hv=>?_);obtain⟨rfl,rfl⟩:=hv)
     simp only[zQ,simprocAttr];first|exact aR _ _|exact⟨aR _ _,rfl⟩
theorem Yy (ih:lH t F n) (ht:t.length<=1000000) (o:re.op=7)
  (hi0:0<=i) (ql:i<=t.length) (gD:re.set.length<=1000000000) (kB:re.kids.length<=1000000000) (iy:c.length<=1000000000) (he:s1.empty=false) (ck:fz t F g0 most st s1)
  (hr:dI t (fV t F n) most re next i c s1=some (b,st')) :
  az prog 82 [.rf 0 g0 0 0,.d (Goal.mk kind re k fH next).d,i64 i,.d (df c)] (cb g0 t most F st) λv s=>v=bV b/\s=cb g0 t most F st':=by
 unfold fz cb dL at ck;simp only[i64,bV,iD,aiX,ai0]at ck;have d4:decide (re.op=4)=false:=ce ae;have d1:decide (re.op=1)=false:=ce ae;have d2:decide (re.op=2)=false:=ce ae;have d3:decide (re.op=3)=false:=ce ae;have d5:decide (re.op=5)=false:=ce ae;have d6:decide (re.op=6)=false:=ce ae;have d7:decide (re.op=7)=true:=bi o;unfold dI at hr;rw[bd,bd,bd,bd,bd,tK]at hr;cases hk:re.kids with
 |nil=>rw[hk]at hr;cases hr
 |cons aP l =>
  rw[hk]at hr;have hk0:re.kids[0]?=some aP:=by rw[hk];rfl
  have tL:(0:Int)<(re.kids.length:Int):=by rw[hk,ai8];omega
  simp only at hr;cases hx:lG (fV t F n) re.op aP i c s1 with
  |none=>rw[hx]at hr;cases hr
  |some x =>
   obtain⟨r1,s2⟩:=x;rw[hx]at hr;simp only at hr;have hf:=λext=>Mr (g0:=g0) (most:=most) ih hk hi0 ae hx ext;clear hk;unfold cb dL at hf;simp only[aq re,i64,iD,bD,bV,aiX,ai0,he]at hf;by_cases e2:s2.empty=true
   ·rw[be e2]at hr;simp only[ai5,ajE]at hr;obtain⟨rfl,rfl⟩:=hr;cases r1 with
    |none =>
     unfold cb dL;refine bk func82 ntmps82 results82 3 26328072917139296674479506920917608079723773850137295405767982863 ?_;simp only[zI,simprocAttr,bV,Goal.cj,iD,bD,d4,d1,d2,d3,d5,d6,d7];refine ar (ck _) (λv s' hv=>?_);obtain⟨rfl,rfl⟩:=hv;simp only[zQ,simprocAttr,he,ajd,aje,d4,d1,d2,d3,d5,d6,d7]
     (refine ar (hf _) (λv s' hv=>?_);obtain⟨rfl,rfl⟩:=hv)
     simp only[zQ,simprocAttr,ot,e2];first|exact aR _ _|exact⟨aR _ _,rfl⟩
    |some d =>
     unfold cb dL;refine bk func82 ntmps82 results82 3 26328072917139296674479506920917608079723773850137295405767982863 ?_;simp only[zI,simprocAttr,bV,Goal.cj,iD,bD,d4,d1,d2,d3,d5,d6,d7];refine ar (ck _) (λv s' hv=>?_);obtain⟨rfl,rfl⟩:=hv;simp only[zQ,simprocAttr,he,ajd,aje,d4,d1,d2,d3,d5,d6,d7]
     (refine ar (hf _) (λv s' hv=>?_);obtain⟨rfl,rfl⟩:=hv)
     simp only[zQ,simprocAttr,ot,e2];first|exact aR _ _|exact⟨aR _ _,rfl⟩
   ·rw[ap e2]at hr;have e2:s2.empty=false:=by simpa using e2
    cases hn:re.neg with
    |true =>
     rw[be hn]at hr;cases r1 with
     |none =>
      simp only at hr;have hc:=λext=>gE (ih g0 _ _ _ _ _ hr) ext;unfold fS ff cb dL at hc;simp only[Goal.cj,i64,iD,bD,bV,aiX,ai0]at hc;simp only[e2]at hc;unfold cb dL;refine bk func82 ntmps82 results82 3 26328072917139296674479506920917608079723773850137295405767982863 ?_;simp only[zI,simprocAttr,bV,Goal.cj,iD,bD,d4,d1,d2,d3,d5,d6,d7];refine ar (ck _) (λv s' hv=>?_);obtain⟨rfl,rfl⟩:=hv;simp only[zQ,simprocAttr,he,ajd,aje,d4,d1,d2,d3,d5,d6,d7]
      (refine ar (hf _) (λv s' hv=>?_);obtain⟨rfl,rfl⟩:=hv)
      simp only[zQ,simprocAttr,ot,e2,hn]
      (refine ar (hc _) (λv s' hv=>?_);obtain⟨rfl,rfl⟩:=hv)
      simp only[zQ,simprocAttr];first|exact aR _ _|exact⟨aR _ _,rfl⟩
     |some d =>
      simp only[ai5,ajE]at hr;obtain⟨rfl,rfl⟩:=hr;unfold cb dL;refine bk func82 ntmps82 results82 3 26328072917139296674479506920917608079723773850137295405767982863 ?_;simp only[zI,simprocAttr,bV,Goal.cj,iD,bD,d4,d1,d2,d3,d5,d6,d7];refine ar (ck _) (λv s' hv=>?_);obtain⟨rfl,rfl⟩:=hv;simp only[zQ,simprocAttr,he,ajd,aje,d4,d1,d2,d3,d5,d6,d7]
      (refine ar (hf _) (λv s' hv=>?_);obtain⟨rfl,rfl⟩:=hv)
      simp only[zQ,simprocAttr,ot,e2,hn];first|exact aR _ _|exact⟨aR _ _,rfl⟩
    |false =>
     rw[ap (by rw[hn];decide)]at hr;cases r1 with
     |none =>
      simp only[ai5,ajE]at hr;obtain⟨rfl,rfl⟩:=hr;unfold cb dL;refine bk func82 ntmps82 results82 3 26328072917139296674479506920917608079723773850137295405767982863 ?_;simp only[zI,simprocAttr,bV,Goal.cj,iD,bD,d4,d1,d2,d3,d5,d6,d7];refine ar (ck _) (λv s' hv=>?_);obtain⟨rfl,rfl⟩:=hv;simp only[zQ,simprocAttr,he,ajd,aje,d4,d1,d2,d3,d5,d6,d7]
      (refine ar (hf _) (λv s' hv=>?_);obtain⟨rfl,rfl⟩:=hv)
      simp only[zQ,simprocAttr,ot,e2,hn];first|exact aR _ _|exact⟨aR _ _,rfl⟩
     |some d =>
      simp only at hr;have hc:=λext=>gE (ih g0 _ _ _ _ _ hr) ext;unfold fS ff cb dL at hc;simp only[Goal.cj,i64,iD,bD,bV,aiX,ai0]at hc;simp only[e2]at hc;unfold cb dL;refine bk func82 ntmps82 results82 3 26328072917139296674479506920917608079723773850137295405767982863 ?_;simp only[zI,simprocAttr,bV,Goal.cj,iD,bD,d4,d1,d2,d3,d5,d6,d7];refine ar (ck _) (λv s' hv=>?_);obtain⟨rfl,rfl⟩:=hv;simp only[zQ,simprocAttr,he,ajd,aje,d4,d1,d2,d3,d5,d6,d7]
      (refine ar (hf _) (λv s' hv=>?_);obtain⟨rfl,rfl⟩:=hv)
      simp only[zQ,simprocAttr,ot,e2,hn]
      (refine ar (hc _) (λv s' hv=>?_);obtain⟨rfl,rfl⟩:=hv)
      simp only[zQ,simprocAttr];first|exact aR _ _|exact⟨aR _ _,rfl⟩
theorem Y1 (ih:lH t F n) (ht:t.length<=1000000) (o:re.op=8)
  (hi0:0<=i) (ql:i<=t.length) (gD:re.set.length<=1000000000) (kB:re.kids.length<=1000000000) (iy:c.length<=1000000000) (he:s1.empty=false) (ck:fz t F g0 most st s1)
  (hr:dI t (fV t F n) most re next i c s1=some (b,st')) :
  az prog 82 [.rf 0 g0 0 0,.d (Goal.mk kind re k fH next).d,i64 i,.d (df c)] (cb g0 t most F st) λv s=>v=bV b/\s=cb g0 t most F st':=by
 unfold fz cb dL at ck;simp only[i64,bV,iD,aiX,ai0]at ck;have d4:decide (re.op=4)=false:=ce ae;have d1:decide (re.op=1)=false:=ce ae;have d2:decide (re.op=2)=false:=ce ae;have d3:decide (re.op=3)=false:=ce ae;have d5:decide (re.op=5)=false:=ce ae;have d6:decide (re.op=6)=false:=ce ae;have d7:decide (re.op=7)=false:=ce ae;have d8:decide (re.op=8)=true:=bi o;unfold dI at hr;rw[bd,bd,bd,bd,bd,tK]at hr;cases hk:re.kids with
 |nil=>rw[hk]at hr;cases hr
 |cons aP l =>
  rw[hk]at hr;have hk0:re.kids[0]?=some aP:=by rw[hk];rfl
  have tL:(0:Int)<(re.kids.length:Int):=by rw[hk,ai8];omega
  simp only at hr;cases hx:lG (fV t F n) re.op aP i c s1 with
  |none=>rw[hx]at hr;cases hr
  |some x =>
   obtain⟨r1,s2⟩:=x;rw[hx]at hr;simp only at hr;have hf:=λext=>Mr (g0:=g0) (most:=most) ih hk hi0 ae hx ext;clear hk;unfold cb dL at hf;simp only[aq re,i64,iD,bD,bV,aiX,ai0,he]at hf;by_cases e2:s2.empty=true
   ·rw[be e2]at hr;simp only[ai5,ajE]at hr;obtain⟨rfl,rfl⟩:=hr;cases r1 with
    |none =>
     unfold cb dL;refine bk func82 ntmps82 results82 3 26328072917139296674479506920917608079723773850137295405767982863 ?_;simp only[zI,simprocAttr,bV,Goal.cj,iD,bD,d4,d1,d2,d3,d5,d6,d7,d8];refine ar (ck _) (λv s' hv=>?_);obtain⟨rfl,rfl⟩:=hv;simp only[zQ,simprocAttr,he,ajd,aje,d4,d1,d2,d3,d5,d6,d7,d8]
     (refine ar (hf _) (λv s' hv=>?_);obtain⟨rfl,rfl⟩:=hv)
     simp only[zQ,simprocAttr,ot,e2];first|exact aR _ _|exact⟨aR _ _,rfl⟩
    |some d =>
     unfold cb dL;refine bk func82 ntmps82 results82 3 26328072917139296674479506920917608079723773850137295405767982863 ?_;simp only[zI,simprocAttr,bV,Goal.cj,iD,bD,d4,d1,d2,d3,d5,d6,d7,d8];refine ar (ck _) (λv s' hv=>?_);obtain⟨rfl,rfl⟩:=hv;simp only[zQ,simprocAttr,he,ajd,aje,d4,d1,d2,d3,d5,d6,d7,d8]
     (refine ar (hf _) (λv s' hv=>?_);obtain⟨rfl,rfl⟩:=hv)
     simp only[zQ,simprocAttr,ot,e2];first|exact aR _ _|exact⟨aR _ _,rfl⟩
   ·rw[ap e2]at hr;have e2:s2.empty=false:=by simpa using e2
    cases hn:re.neg with
    |true =>
     rw[be hn]at hr;cases r1 with
     |none =>
      simp only at hr;have hc:=λext=>gE (ih g0 _ _ _ _ _ hr) ext;unfold fS ff cb dL at hc;simp only[Goal.cj,i64,iD,bD,bV,aiX,ai0]at hc;simp only[e2]at hc;unfold cb dL;refine bk func82 ntmps82 results82 3 26328072917139296674479506920917608079723773850137295405767982863 ?_;simp only[zI,simprocAttr,bV,Goal.cj,iD,bD,d4,d1,d2,d3,d5,d6,d7,d8];refine ar (ck _) (λv s' hv=>?_);obtain⟨rfl,rfl⟩:=hv;simp only[zQ,simprocAttr,he,ajd,aje,d4,d1,d2,d3,d5,d6,d7,d8]
      (refine ar (hf _) (λv s' hv=>?_);obtain⟨rfl,rfl⟩:=hv)
      simp only[zQ,simprocAttr,ot,e2,hn]
      (refine ar (hc _) (λv s' hv=>?_);obtain⟨rfl,rfl⟩:=hv)
      simp only[zQ,simprocAttr];first|exact aR _ _|exact⟨aR _ _,rfl⟩
     |some d =>
      simp only[ai5,ajE]at hr;obtain⟨rfl,rfl⟩:=hr;unfold cb dL;refine bk func82 ntmps82 results82 3 26328072917139296674479506920917608079723773850137295405767982863 ?_;simp only[zI,simprocAttr,bV,Goal.cj,iD,bD,d4,d1,d2,d3,d5,d6,d7,d8];refine ar (ck _) (λv s' hv=>?_);obtain⟨rfl,rfl⟩:=hv;simp only[zQ,simprocAttr,he,ajd,aje,d4,d1,d2,d3,d5,d6,d7,d8]
      (refine ar (hf _) (λv s' hv=>?_);obtain⟨rfl,rfl⟩:=hv)
      simp only[zQ,simprocAttr,ot,e2,hn];first|exact aR _ _|exact⟨aR _ _,rfl⟩
    |false =>
     rw[ap (by rw[hn];decide)]at hr;cases r1 with
     |none =>
      simp only[ai5,ajE]at hr;obtain⟨rfl,rfl⟩:=hr;unfold cb dL;refine bk func82 ntmps82 results82 3 26328072917139296674479506920917608079723773850137295405767982863 ?_;simp only[zI,simprocAttr,bV,Goal.cj,iD,bD,d4,d1,d2,d3,d5,d6,d7,d8];refine ar (ck _) (λv s' hv=>?_);obtain⟨rfl,rfl⟩:=hv;simp only[zQ,simprocAttr,he,ajd,aje,d4,d1,d2,d3,d5,d6,d7,d8]
      (refine ar (hf _) (λv s' hv=>?_);obtain⟨rfl,rfl⟩:=hv)
      simp only[zQ,simprocAttr,ot,e2,hn];first|exact aR _ _|exact⟨aR _ _,rfl⟩
     |some d =>
      simp only at hr;have hc:=λext=>gE (ih g0 _ _ _ _ _ hr) ext;unfold fS ff cb dL at hc;simp only[Goal.cj,i64,iD,bD,bV,aiX,ai0]at hc;simp only[e2]at hc;unfold cb dL;refine bk func82 ntmps82 results82 3 26328072917139296674479506920917608079723773850137295405767982863 ?_;simp only[zI,simprocAttr,bV,Goal.cj,iD,bD,d4,d1,d2,d3,d5,d6,d7,d8];refine ar (ck _) (λv s' hv=>?_);obtain⟨rfl,rfl⟩:=hv;simp only[zQ,simprocAttr,he,ajd,aje,d4,d1,d2,d3,d5,d6,d7,d8]
      (refine ar (hf _) (λv s' hv=>?_);obtain⟨rfl,rfl⟩:=hv)
      simp only[zQ,simprocAttr,ot,e2,hn]
      (refine ar (hc _) (λv s' hv=>?_);obtain⟨rfl,rfl⟩:=hv)
      simp only[zQ,simprocAttr];first|exact aR _ _|exact⟨aR _ _,rfl⟩
theorem UZ (ih:lH t F n) (ht:t.length<=1000000) (o:re.op=10)
  (hi0:0<=i) (ql:i<=t.length) (gD:re.set.length<=1000000000) (kB:re.kids.length<=1000000000) (iy:c.length<=1000000000) (he:s1.empty=false) (ck:fz t F g0 most st s1)
  (hr:dI t (fV t F n) most re next i c s1=some (b,st')) :
  az prog 82 [.rf 0 g0 0 0,.d (Goal.mk kind re k fH next).d,i64 i,.d (df c)] (cb g0 t most F st) λv s=>v=bV b/\s=cb g0 t most F st':=by
 unfold fz cb dL at ck;simp only[i64,bV,iD,aiX,ai0]at ck;have d4:decide (re.op=4)=false:=ce ae;have d1:decide (re.op=1)=false:=ce ae;have d2:decide (re.op=2)=false:=ce ae;have d3:decide (re.op=3)=false:=ce ae;have d5:decide (re.op=5)=false:=ce ae;have d6:decide (re.op=6)=false:=ce ae;have d7:decide (re.op=7)=false:=ce ae;have d8:decide (re.op=8)=false:=ce ae;have d9:decide (re.op=9)=false:=ce ae;have d10:decide (re.op=10)=true:=bi o;unfold dI at hr;rw[bd,bd,bd,bd,bd,bd,bd,be o]at hr;have pZ:=Pm c re.n iy;simp only[i64]at pZ
 match hk:re.kids with
 |[]=>rw[hk]at hr;cases hr
 |[_]=>rw[hk]at hr;cases hr
 |yes::no::l =>
  rw[hk]at hr;have hk0:re.kids[0]?=some yes:=by rw[hk];rfl
  have AX:re.kids[1]?=some no:=by rw[hk];rfl
  have tL:(0:Int)<(re.kids.length:Int):=by rw[hk,ai8];omega
  have tN:(1:Int)<(re.kids.length:Int):=by rw[hk,ai8,ai8];omega
  clear hk;simp only at hr;by_cases q:0<=(bG c re.n).1
  ·rw[be q]at hr;have hc:=λext=>gE (ih g0 _ _ _ _ _ hr) ext;unfold fS ff cb dL at hc;simp only[Goal.cj,i64,iD,bD,bV,aiX,ai0]at hc;simp only[he]at hc;unfold cb dL;refine bk func82 ntmps82 results82 3 26328072917139296674479506920917608079723773850137295405767982863 ?_;simp only[zI,simprocAttr,-kd,bV,Goal.cj,iD,bD,d4,d1,d2,d3,d5,d6,d7,d8,d9,d10];refine ar (ck _) (λv s' hv=>?_);obtain⟨rfl,rfl⟩:=hv;simp only[zQ,simprocAttr,-kd,he,ajd,aje,d4,d1,d2,d3,d5,d6,d7,d8,d9,d10];refine bO pZ ?_;simp only[zI,simprocAttr,-kd,iD,bD,hk0,tL,AX,tN,aq yes,Re.ah yes,aq no,Re.ah no,q,ge_iff_le];refine⟨aJ,?_⟩;refine aX ct.bt ?_;refine aA mix [10] [(7,[6],[6])] aN ?_;simp only[zQ,simprocAttr,-kd,hole];refine fG (bL [6] (by simp [bA,bP,bm.go,bm,cR]) (hc _)) ?_;simp only[zQ,simprocAttr,-kd];first|exact aR _ _|exact⟨aR _ _,rfl⟩
  ·rw[ap q]at hr;have hc:=λext=>gE (ih g0 _ _ _ _ _ hr) ext;unfold fS ff cb dL at hc;simp only[Goal.cj,i64,iD,bD,bV,aiX,ai0]at hc;simp only[he]at hc;unfold cb dL;refine bk func82 ntmps82 results82 3 26328072917139296674479506920917608079723773850137295405767982863 ?_;simp only[zI,simprocAttr,-kd,bV,Goal.cj,iD,bD,d4,d1,d2,d3,d5,d6,d7,d8,d9,d10];refine ar (ck _) (λv s' hv=>?_);obtain⟨rfl,rfl⟩:=hv;simp only[zQ,simprocAttr,-kd,he,ajd,aje,d4,d1,d2,d3,d5,d6,d7,d8,d9,d10];refine bO pZ ?_;simp only[zI,simprocAttr,-kd,iD,bD,hk0,tL,AX,tN,aq yes,Re.ah yes,aq no,Re.ah no,q,ge_iff_le];refine⟨aJ,?_⟩;refine aX ct.bt ?_;refine aA mix [10] [(7,[6],[6])] aN ?_;simp only[zQ,simprocAttr,-kd,hole];refine fG (bL [6] (by simp [bA,bP,bm.go,bm,cR]) (hc _)) ?_;simp only[zQ,simprocAttr,-kd];first|exact aR _ _|exact⟨aR _ _,rfl⟩
def PZ (re:Re):VL.Obj:=⟨0,true,8,[[i64 re.op,.d (.sl (re.set.map aU)),.d (.sl (re.kids.map Re.cells)),i64 re.mn,i64 re.mx,i64 re.mode,i64 re.n,bV re.neg]]⟩
theorem Ul (g0:Nat) (t:List Int) (most F:Int) (st:bh) (n:Nat) (hn:3<=n):(cb g0 t most F st).all (bc n)=true:=by unfold cb dL;simp only[ajS,ajV,bc,ajk];rw[u6 st.ends iD n,u6 st.ai df n];have h1:decide (1<n)=true:=bi ae;have h2:decide (2<n)=true:=bi ae;simp [ak,i64,bV,h1,h2]
theorem JI {α:Type}{l:List α}{j:Nat}{x:α} (h:l[j]?=some x):l.drop j=x::l.drop (j+1):=by obtain⟨h1,h2⟩:=List.getElem?_eq_some_iff.1 h;rw[<- h2];exact List.drop_eq_getElem_cons h1
theorem Yw (ih:lH t F n) (ht:t.length<=1000000) (o:re.op=3)
  (hi0:0<=i) (ql:i<=t.length) (gD:re.set.length<=1000000000) (kB:re.kids.length<=1000000000) (iy:c.length<=1000000000) (he:s1.empty=false) (ck:fz t F g0 most st s1)
  (hr:dI t (fV t F n) most re next i c s1=some (b,st')) :
  az prog 82 [.rf 0 g0 0 0,.d (Goal.mk kind re k fH next).d,i64 i,.d (df c)] (cb g0 t most F st) λv s=>v=bV b/\s=cb g0 t most F st':=by
 unfold fz cb dL at ck;simp only[i64,bV,iD,aiX,ai0]at ck;have d4:decide (re.op=4)=false:=ce ae;have d1:decide (re.op=1)=false:=ce ae;have d2:decide (re.op=2)=false:=ce ae;have d3:decide (re.op=3)=true:=bi o;unfold dI at hr;rw[bd,bd,be o]at hr;unfold cb dL;refine bk func82 ntmps82 results82 3 26328072917139296674479506920917608079723773850137295405767982863 ?_;simp only[zI,simprocAttr,-kd,bV,Goal.cj,iD,bD,d4,d1,d2,d3];refine ar (ck _) (λv s' hv=>?_);obtain⟨rfl,rfl⟩:=hv;simp only[zQ,simprocAttr,-kd,he,ajd,aje,d4,d1,d2,d3];refine ay (λm e s=>∃(j:Nat) (s2:bh),m=re.kids.length-j/\j<=re.kids.length/\e 0=.rf 0 g0 0 0/\e 1=.d (Goal.mk kind re k fH next).d/\e 2=i64 i/\e 3=.d (df c)/\e 9=.rf 3 0 0 0/\e 12=i64 j/\s=cb g0 t most F s2++[PZ re] /\
   po (λk st=>fV t F n most (.run (.mk 0 k 0 0 next) i c) st) (re.kids.drop j) s2=some (b,st'))
  ⟨_,_,_,bJ.refl,0,s1,rfl,ae,rfl,?_,rfl,rfl,rfl,rfl,?_,by simpa using hr⟩ ?_
 ·rw[Goal.cj];rfl
 ·unfold cb dL PZ;simp only[he];rfl
 clear hr;rintro m e s ⟨j,s2,rfl,hj,h0,h1,h2,h3,h9,kz,rfl,hb⟩;rw[Goal.cj]at h1;rcases ajr j re.kids.length with aB|iA
 ·obtain⟨x,hx⟩:∃x,re.kids[j]?=some x:=bZ aB;rw[JI hx]at hb;simp only[po]at hb;cases hxx:fV t F n most (.run (.mk 0 x 0 0 next) i c) s2 with
  |none=>rw[hxx]at hb;cases hb
  |some y =>
   obtain⟨b1,s3⟩:=y;rw[hxx]at hb;have hc:=λext=>gE (ih g0 _ _ _ _ _ hxx) ext;unfold fS ff cb dL at hc;simp only[Goal.cj,i64,iD,bD,bV,aiX,ai0]at hc;unfold cb dL PZ;simp only[zQ,simprocAttr,-kd,aiX,ai0,h0,h1,h2,h3,h9,kz,aB,hx];refine aX ct.bt ?_;refine aA mix [14] [(11,[4],[4])] aN ?_;simp only[zQ,simprocAttr,-kd,hole,h0,h1,h2,h3,h9,kz,aB,hx,aq x,Re.ah x];refine fG (bL [4] (by simp [bA,bP,bm.go,bm,cR]) (hc _)) ?_;cases b1 with
   |true =>
    simp only[rS,ai5,ajE]at hb;obtain⟨rfl,rfl⟩:=hb;simp only[zQ,simprocAttr,-kd];first|exact aR _ _|exact⟨aR _ _,rfl⟩
   |false =>
    simp only[rS]at hb;simp only[zQ,simprocAttr,-kd,h0,h1,h2,h3,h9,kz];refine⟨re.kids.length-(j+1),_,_,ae,bJ.cut (s':=cb g0 t most F s3++[PZ re]) 4 ae rfl ?_ [0,1,2,3,9,12] ?_,j+1,s3,rfl,aB,?_,?_,?_,?_,?_,?_,rfl,hb⟩
    ·have:=Ul g0 t most F s3 4 ae;rw[akm,this];rfl
    ·simp [bX,aY,ak,i64,h0,h1,h2,h3,h9,kz]
    ·simpa [pC,bX,aY,i64]using h0
    ·rw[Goal.cj];simpa [pC,bX,aY,i64]using h1
    ·simpa [pC,bX,aY,i64]using h2
    ·simpa [pC,bX,aY,i64]using h3
    ·simpa [pC,bX,aY,i64]using h9
    ·simp only[pC,bX,List.contains_cons,List.contains_nil,Nat.reduceBEq,akq,ajx,ajC,Bool.or_true,if_true,ajf,if_false,reduceIte,Nat.reduceEqDiff];rw[bF _ ae];rfl
 ·have NI:j=re.kids.length:=by omega
  subst NI;rw[List.drop_length]at hb;simp only[po,ai5,ajE]at hb;obtain⟨rfl,rfl⟩:=hb;unfold cb dL PZ;simp only[zQ,simprocAttr,-kd,aiX,ai0,h0,h1,h2,h3,h9,kz,aj7];first|exact aR _ _|exact⟨aR _ _,rfl⟩
end Go.Proofs.Ytfmdmlfhigocaaa
