/- A part of the proof (G11 G12). -/
import Derived.Test.YtjjfioalgbecmaaGreatOQ18
set_option linter.unusedSimpArgs false
set_option linter.unusedVariables false
open Int renaming reduceNatCast' → D7
set_option maxRecDepth 100000
set_option maxHeartbeats 80000000
namespace Go.Proofs.YtjjfioalgbecmaaGreat
open Go.VL Go.Proofs.Tryz
variable{st:bO}{g0:Nat}{kind:Int}{c:aH}{bZ:Int}{s1:bO}{F:Int}{most:Int}{st':bO}{b:Bool}{re:Re}{k:Int}{n:Nat}{i:Int}{next:Goal}{t:List Int}
theorem YA (ih:kK t F n) (ht:t.length<=1000000) (o:re.op=9)
  (hi0:0<=i) (n7:i<=t.length) (eO:re.set.length<=1000000000) (qq:re.kids.length<=1000000000) (ia:c.length<=1000000000) (he:s1.empty=false) (bH:eY t F g0 most st s1)
  (hr:fG t (iw t F n) most re next i c s1=some (b,st')) :
  ar prog 116 [.rf 0 g0 0 0,.d (Goal.mk kind re k bZ next).d,i64 i,.d (cQ c)] (bY g0 t most F st) λv s=>v=bV b/\s=bY g0 t most F st':=by
 unfold eY bY dB at bH;simp only[i64,bV,iD,ajN,ajO]at bH;have d4:decide (re.op=4)=false:=ce ae;have d1:decide (re.op=1)=false:=ce ae;have d2:decide (re.op=2)=false:=ce ae;have d3:decide (re.op=3)=false:=ce ae;have d5:decide (re.op=5)=false:=ce ae;have d6:decide (re.op=6)=false:=ce ae;have d7:decide (re.op=7)=false:=ce ae;have d8:decide (re.op=8)=false:=ce ae;have d9:decide (re.op=9)=true:=bi o;unfold fG at hr;rw[bd,bd,bd,bd,bd,bd,be o]at hr;have By:Goal.nil.d=.sc (.pointer none):=rfl;cases hk:re.kids with
 |nil=>rw[hk]at hr;cases hr
 |cons kid l =>
  rw[hk]at hr;have m7:re.kids[0]?=some kid:=by rw[hk];rfl
  have pU:(0:Int)<(re.kids.length:Int):=by rw[hk,ajW];omega
  clear hk;simp only at hr;cases hx:gv (iw t F n) (.mk 0 kid 0 0 .nil) i c s1 with
  |none=>rw[hx]at hr;cases hr
  |some x =>
   obtain⟨r1,s2⟩:=x;rw[hx]at hr;simp only at hr;have hf:=λext=>Am (g0:=g0) (most:=most) ih hx ext;unfold bY dB at hf;simp only[Goal.b9,By,i64,iD,bD,bV,ajN,ajO,he]at hf;by_cases e2:s2.empty=true
   ·rw[be e2]at hr;simp only[ajU,akn]at hr;obtain⟨rfl,rfl⟩:=hr;cases r1 with
    |none =>
     unfold bY dB;refine bo func116 ntmps116 results116 3 26328072917139296674479506920917608079723773850137295405767982863 ?_;simp only[zI,simprocAttr,bV,Goal.b9,iD,bD,d4,d1,d2,d3,d5,d6,d7,d8,d9];refine an (bH _) (λv s' hv=>?_);obtain⟨rfl,rfl⟩:=hv;simp only[zQ,simprocAttr,he,aj2,aj0,d4,d1,d2,d3,d5,d6,d7,d8,d9];simp only[zI,simprocAttr,iD,bD,m7,pU,av kid,Re.ah kid];refine bE [4] (by simp [br,ck,bc.go,bc,cT]) (an (hf _) (λv s' hv=>?_));obtain⟨rfl,rfl⟩:=hv;simp only[zQ,simprocAttr,lC,e2];first|exact aP _ _|exact⟨aP _ _,rfl⟩
    |some p =>
     obtain⟨e1,d⟩:=p;unfold bY dB;refine bo func116 ntmps116 results116 3 26328072917139296674479506920917608079723773850137295405767982863 ?_;simp only[zI,simprocAttr,bV,Goal.b9,iD,bD,d4,d1,d2,d3,d5,d6,d7,d8,d9];refine an (bH _) (λv s' hv=>?_);obtain⟨rfl,rfl⟩:=hv;simp only[zQ,simprocAttr,he,aj2,aj0,d4,d1,d2,d3,d5,d6,d7,d8,d9];simp only[zI,simprocAttr,iD,bD,m7,pU,av kid,Re.ah kid];refine bE [4] (by simp [br,ck,bc.go,bc,cT]) (an (hf _) (λv s' hv=>?_));obtain⟨rfl,rfl⟩:=hv;simp only[zQ,simprocAttr,lC,e2];first|exact aP _ _|exact⟨aP _ _,rfl⟩
   ·rw[ap e2]at hr;have e2:s2.empty=false:=by simpa using e2
    cases r1 with
    |none =>
     simp only[ajU,akn]at hr;obtain⟨rfl,rfl⟩:=hr;unfold bY dB;refine bo func116 ntmps116 results116 3 26328072917139296674479506920917608079723773850137295405767982863 ?_;simp only[zI,simprocAttr,bV,Goal.b9,iD,bD,d4,d1,d2,d3,d5,d6,d7,d8,d9];refine an (bH _) (λv s' hv=>?_);obtain⟨rfl,rfl⟩:=hv;simp only[zQ,simprocAttr,he,aj2,aj0,d4,d1,d2,d3,d5,d6,d7,d8,d9];simp only[zI,simprocAttr,iD,bD,m7,pU,av kid,Re.ah kid];refine bE [4] (by simp [br,ck,bc.go,bc,cT]) (an (hf _) (λv s' hv=>?_));obtain⟨rfl,rfl⟩:=hv;simp only[zQ,simprocAttr,lC,e2];first|exact aP _ _|exact⟨aP _ _,rfl⟩
    |some p =>
     obtain⟨e1,d⟩:=p;simp only at hr;have hc:=λext=>fI (ih g0 _ _ _ _ _ hr) ext;unfold fv eP bY dB at hc;simp only[Goal.b9,i64,iD,bD,bV,ajN,ajO]at hc;simp only[e2]at hc;unfold bY dB;refine bo func116 ntmps116 results116 3 26328072917139296674479506920917608079723773850137295405767982863 ?_;simp only[zI,simprocAttr,bV,Goal.b9,iD,bD,d4,d1,d2,d3,d5,d6,d7,d8,d9];refine an (bH _) (λv s' hv=>?_);obtain⟨rfl,rfl⟩:=hv;simp only[zQ,simprocAttr,he,aj2,aj0,d4,d1,d2,d3,d5,d6,d7,d8,d9];simp only[zI,simprocAttr,iD,bD,m7,pU,av kid,Re.ah kid];refine bE [4] (by simp [br,ck,bc.go,bc,cT]) (an (hf _) (λv s' hv=>?_));obtain⟨rfl,rfl⟩:=hv;simp only[zQ,simprocAttr,lC,e2]
     (refine an (hc _) (λv s' hv=>?_);obtain⟨rfl,rfl⟩:=hv)
     simp only[zQ,simprocAttr];first|exact aP _ _|exact⟨aP _ _,rfl⟩
theorem YP (ih:kK t F n) (ht:t.length<=1000000) (o:re.op=7)
  (hi0:0<=i) (n7:i<=t.length) (eO:re.set.length<=1000000000) (qq:re.kids.length<=1000000000) (ia:c.length<=1000000000) (he:s1.empty=false) (bH:eY t F g0 most st s1)
  (hr:fG t (iw t F n) most re next i c s1=some (b,st')) :
  ar prog 116 [.rf 0 g0 0 0,.d (Goal.mk kind re k bZ next).d,i64 i,.d (cQ c)] (bY g0 t most F st) λv s=>v=bV b/\s=bY g0 t most F st':=by
 unfold eY bY dB at bH;simp only[i64,bV,iD,ajN,ajO]at bH;have d4:decide (re.op=4)=false:=ce ae;have d1:decide (re.op=1)=false:=ce ae;have d2:decide (re.op=2)=false:=ce ae;have d3:decide (re.op=3)=false:=ce ae;have d5:decide (re.op=5)=false:=ce ae;have d6:decide (re.op=6)=false:=ce ae;have d7:decide (re.op=7)=true:=bi o;unfold fG at hr;rw[bd,bd,bd,bd,bd,sP]at hr;cases hk:re.kids with
 |nil=>rw[hk]at hr;cases hr
 |cons kid l =>
  rw[hk]at hr;have m7:re.kids[0]?=some kid:=by rw[hk];rfl
  have pU:(0:Int)<(re.kids.length:Int):=by rw[hk,ajW];omega
  simp only at hr;cases hx:su (iw t F n) re.op kid i c s1 with
  |none=>rw[hx]at hr;cases hr
  |some x =>
   obtain⟨r1,s2⟩:=x;rw[hx]at hr;simp only at hr;have hf:=λext=>LL (g0:=g0) (most:=most) ih hk hi0 ae hx ext;clear hk;unfold bY dB at hf;simp only[av re,i64,iD,bD,bV,ajN,ajO,he]at hf;by_cases e2:s2.empty=true
   ·rw[be e2]at hr;simp only[ajU,akn]at hr;obtain⟨rfl,rfl⟩:=hr;cases r1 with
    |none =>
     unfold bY dB;refine bo func116 ntmps116 results116 3 26328072917139296674479506920917608079723773850137295405767982863 ?_;simp only[zI,simprocAttr,bV,Goal.b9,iD,bD,d4,d1,d2,d3,d5,d6,d7];refine an (bH _) (λv s' hv=>?_);obtain⟨rfl,rfl⟩:=hv;simp only[zQ,simprocAttr,he,aj2,aj0,d4,d1,d2,d3,d5,d6,d7]
     (refine an (hf _) (λv s' hv=>?_);obtain⟨rfl,rfl⟩:=hv)
     simp only[zQ,simprocAttr,ni,e2];first|exact aP _ _|exact⟨aP _ _,rfl⟩
    |some d =>
     unfold bY dB;refine bo func116 ntmps116 results116 3 26328072917139296674479506920917608079723773850137295405767982863 ?_;simp only[zI,simprocAttr,bV,Goal.b9,iD,bD,d4,d1,d2,d3,d5,d6,d7];refine an (bH _) (λv s' hv=>?_);obtain⟨rfl,rfl⟩:=hv;simp only[zQ,simprocAttr,he,aj2,aj0,d4,d1,d2,d3,d5,d6,d7]
     (refine an (hf _) (λv s' hv=>?_);obtain⟨rfl,rfl⟩:=hv)
     simp only[zQ,simprocAttr,ni,e2];first|exact aP _ _|exact⟨aP _ _,rfl⟩
   ·rw[ap e2]at hr;have e2:s2.empty=false:=by simpa using e2
    cases hn:re.neg with
    |true =>
     rw[be hn]at hr;cases r1 with
     |none =>
      simp only at hr;have hc:=λext=>fI (ih g0 _ _ _ _ _ hr) ext;unfold fv eP bY dB at hc;simp only[Goal.b9,i64,iD,bD,bV,ajN,ajO]at hc;simp only[e2]at hc;unfold bY dB;refine bo func116 ntmps116 results116 3 26328072917139296674479506920917608079723773850137295405767982863 ?_;simp only[zI,simprocAttr,bV,Goal.b9,iD,bD,d4,d1,d2,d3,d5,d6,d7];refine an (bH _) (λv s' hv=>?_);obtain⟨rfl,rfl⟩:=hv;simp only[zQ,simprocAttr,he,aj2,aj0,d4,d1,d2,d3,d5,d6,d7]
      (refine an (hf _) (λv s' hv=>?_);obtain⟨rfl,rfl⟩:=hv)
      simp only[zQ,simprocAttr,ni,e2,hn]
      (refine an (hc _) (λv s' hv=>?_);obtain⟨rfl,rfl⟩:=hv)
      simp only[zQ,simprocAttr];first|exact aP _ _|exact⟨aP _ _,rfl⟩
     |some d =>
      simp only[ajU,akn]at hr;obtain⟨rfl,rfl⟩:=hr;unfold bY dB;refine bo func116 ntmps116 results116 3 26328072917139296674479506920917608079723773850137295405767982863 ?_;simp only[zI,simprocAttr,bV,Goal.b9,iD,bD,d4,d1,d2,d3,d5,d6,d7];refine an (bH _) (λv s' hv=>?_);obtain⟨rfl,rfl⟩:=hv;simp only[zQ,simprocAttr,he,aj2,aj0,d4,d1,d2,d3,d5,d6,d7]
      (refine an (hf _) (λv s' hv=>?_);obtain⟨rfl,rfl⟩:=hv)
      simp only[zQ,simprocAttr,ni,e2,hn];first|exact aP _ _|exact⟨aP _ _,rfl⟩
    |false =>
     rw[ap (by rw[hn];decide)]at hr;cases r1 with
     |none =>
      simp only[ajU,akn]at hr;obtain⟨rfl,rfl⟩:=hr;unfold bY dB;refine bo func116 ntmps116 results116 3 26328072917139296674479506920917608079723773850137295405767982863 ?_;simp only[zI,simprocAttr,bV,Goal.b9,iD,bD,d4,d1,d2,d3,d5,d6,d7];refine an (bH _) (λv s' hv=>?_);obtain⟨rfl,rfl⟩:=hv;simp only[zQ,simprocAttr,he,aj2,aj0,d4,d1,d2,d3,d5,d6,d7]
      (refine an (hf _) (λv s' hv=>?_);obtain⟨rfl,rfl⟩:=hv)
      simp only[zQ,simprocAttr,ni,e2,hn];first|exact aP _ _|exact⟨aP _ _,rfl⟩
     |some d =>
      simp only at hr;have hc:=λext=>fI (ih g0 _ _ _ _ _ hr) ext;unfold fv eP bY dB at hc;simp only[Goal.b9,i64,iD,bD,bV,ajN,ajO]at hc;simp only[e2]at hc;unfold bY dB;refine bo func116 ntmps116 results116 3 26328072917139296674479506920917608079723773850137295405767982863 ?_;simp only[zI,simprocAttr,bV,Goal.b9,iD,bD,d4,d1,d2,d3,d5,d6,d7];refine an (bH _) (λv s' hv=>?_);obtain⟨rfl,rfl⟩:=hv;simp only[zQ,simprocAttr,he,aj2,aj0,d4,d1,d2,d3,d5,d6,d7]
      (refine an (hf _) (λv s' hv=>?_);obtain⟨rfl,rfl⟩:=hv)
      simp only[zQ,simprocAttr,ni,e2,hn]
      (refine an (hc _) (λv s' hv=>?_);obtain⟨rfl,rfl⟩:=hv)
      simp only[zQ,simprocAttr];first|exact aP _ _|exact⟨aP _ _,rfl⟩
theorem Zj (ih:kK t F n) (ht:t.length<=1000000) (o:re.op=8)
  (hi0:0<=i) (n7:i<=t.length) (eO:re.set.length<=1000000000) (qq:re.kids.length<=1000000000) (ia:c.length<=1000000000) (he:s1.empty=false) (bH:eY t F g0 most st s1)
  (hr:fG t (iw t F n) most re next i c s1=some (b,st')) :
  ar prog 116 [.rf 0 g0 0 0,.d (Goal.mk kind re k bZ next).d,i64 i,.d (cQ c)] (bY g0 t most F st) λv s=>v=bV b/\s=bY g0 t most F st':=by
 unfold eY bY dB at bH;simp only[i64,bV,iD,ajN,ajO]at bH;have d4:decide (re.op=4)=false:=ce ae;have d1:decide (re.op=1)=false:=ce ae;have d2:decide (re.op=2)=false:=ce ae;have d3:decide (re.op=3)=false:=ce ae;have d5:decide (re.op=5)=false:=ce ae;have d6:decide (re.op=6)=false:=ce ae;have d7:decide (re.op=7)=false:=ce ae;have d8:decide (re.op=8)=true:=bi o;unfold fG at hr;rw[bd,bd,bd,bd,bd,sP]at hr;cases hk:re.kids with
 |nil=>rw[hk]at hr;cases hr
 |cons kid l =>
  rw[hk]at hr;have m7:re.kids[0]?=some kid:=by rw[hk];rfl
  have pU:(0:Int)<(re.kids.length:Int):=by rw[hk,ajW];omega
  simp only at hr;cases hx:su (iw t F n) re.op kid i c s1 with
  |none=>rw[hx]at hr;cases hr
  |some x =>
   obtain⟨r1,s2⟩:=x;rw[hx]at hr;simp only at hr;have hf:=λext=>LL (g0:=g0) (most:=most) ih hk hi0 ae hx ext;clear hk;unfold bY dB at hf;simp only[av re,i64,iD,bD,bV,ajN,ajO,he]at hf;by_cases e2:s2.empty=true
   ·rw[be e2]at hr;simp only[ajU,akn]at hr;obtain⟨rfl,rfl⟩:=hr;cases r1 with
    |none =>
     unfold bY dB;refine bo func116 ntmps116 results116 3 26328072917139296674479506920917608079723773850137295405767982863 ?_;simp only[zI,simprocAttr,bV,Goal.b9,iD,bD,d4,d1,d2,d3,d5,d6,d7,d8];refine an (bH _) (λv s' hv=>?_);obtain⟨rfl,rfl⟩:=hv;simp only[zQ,simprocAttr,he,aj2,aj0,d4,d1,d2,d3,d5,d6,d7,d8]
     (refine an (hf _) (λv s' hv=>?_);obtain⟨rfl,rfl⟩:=hv)
     simp only[zQ,simprocAttr,ni,e2];first|exact aP _ _|exact⟨aP _ _,rfl⟩
    |some d =>
     unfold bY dB;refine bo func116 ntmps116 results116 3 26328072917139296674479506920917608079723773850137295405767982863 ?_;simp only[zI,simprocAttr,bV,Goal.b9,iD,bD,d4,d1,d2,d3,d5,d6,d7,d8];refine an (bH _) (λv s' hv=>?_);obtain⟨rfl,rfl⟩:=hv;simp only[zQ,simprocAttr,he,aj2,aj0,d4,d1,d2,d3,d5,d6,d7,d8]
     (refine an (hf _) (λv s' hv=>?_);obtain⟨rfl,rfl⟩:=hv)
     simp only[zQ,simprocAttr,ni,e2];first|exact aP _ _|exact⟨aP _ _,rfl⟩
   ·rw[ap e2]at hr;have e2:s2.empty=false:=by simpa using e2
    cases hn:re.neg with
    |true =>
     rw[be hn]at hr;cases r1 with
     |none =>
      simp only at hr;have hc:=λext=>fI (ih g0 _ _ _ _ _ hr) ext;unfold fv eP bY dB at hc;simp only[Goal.b9,i64,iD,bD,bV,ajN,ajO]at hc;simp only[e2]at hc;unfold bY dB;refine bo func116 ntmps116 results116 3 26328072917139296674479506920917608079723773850137295405767982863 ?_;simp only[zI,simprocAttr,bV,Goal.b9,iD,bD,d4,d1,d2,d3,d5,d6,d7,d8];refine an (bH _) (λv s' hv=>?_);obtain⟨rfl,rfl⟩:=hv;simp only[zQ,simprocAttr,he,aj2,aj0,d4,d1,d2,d3,d5,d6,d7,d8]
      (refine an (hf _) (λv s' hv=>?_);obtain⟨rfl,rfl⟩:=hv)
      simp only[zQ,simprocAttr,ni,e2,hn]
      (refine an (hc _) (λv s' hv=>?_);obtain⟨rfl,rfl⟩:=hv)
      simp only[zQ,simprocAttr];first|exact aP _ _|exact⟨aP _ _,rfl⟩
     |some d =>
      simp only[ajU,akn]at hr;obtain⟨rfl,rfl⟩:=hr;unfold bY dB;refine bo func116 ntmps116 results116 3 26328072917139296674479506920917608079723773850137295405767982863 ?_;simp only[zI,simprocAttr,bV,Goal.b9,iD,bD,d4,d1,d2,d3,d5,d6,d7,d8];refine an (bH _) (λv s' hv=>?_);obtain⟨rfl,rfl⟩:=hv;simp only[zQ,simprocAttr,he,aj2,aj0,d4,d1,d2,d3,d5,d6,d7,d8]
      (refine an (hf _) (λv s' hv=>?_);obtain⟨rfl,rfl⟩:=hv)
      simp only[zQ,simprocAttr,ni,e2,hn];first|exact aP _ _|exact⟨aP _ _,rfl⟩
    |false =>
     rw[ap (by rw[hn];decide)]at hr;cases r1 with
     |none =>
      simp only[ajU,akn]at hr;obtain⟨rfl,rfl⟩:=hr;unfold bY dB;refine bo func116 ntmps116 results116 3 26328072917139296674479506920917608079723773850137295405767982863 ?_;simp only[zI,simprocAttr,bV,Goal.b9,iD,bD,d4,d1,d2,d3,d5,d6,d7,d8];refine an (bH _) (λv s' hv=>?_);obtain⟨rfl,rfl⟩:=hv;simp only[zQ,simprocAttr,he,aj2,aj0,d4,d1,d2,d3,d5,d6,d7,d8]
      (refine an (hf _) (λv s' hv=>?_);obtain⟨rfl,rfl⟩:=hv)
      simp only[zQ,simprocAttr,ni,e2,hn];first|exact aP _ _|exact⟨aP _ _,rfl⟩
     |some d =>
      simp only at hr;have hc:=λext=>fI (ih g0 _ _ _ _ _ hr) ext;unfold fv eP bY dB at hc;simp only[Goal.b9,i64,iD,bD,bV,ajN,ajO]at hc;simp only[e2]at hc;unfold bY dB;refine bo func116 ntmps116 results116 3 26328072917139296674479506920917608079723773850137295405767982863 ?_;simp only[zI,simprocAttr,bV,Goal.b9,iD,bD,d4,d1,d2,d3,d5,d6,d7,d8];refine an (bH _) (λv s' hv=>?_);obtain⟨rfl,rfl⟩:=hv;simp only[zQ,simprocAttr,he,aj2,aj0,d4,d1,d2,d3,d5,d6,d7,d8]
      (refine an (hf _) (λv s' hv=>?_);obtain⟨rfl,rfl⟩:=hv)
      simp only[zQ,simprocAttr,ni,e2,hn]
      (refine an (hc _) (λv s' hv=>?_);obtain⟨rfl,rfl⟩:=hv)
      simp only[zQ,simprocAttr];first|exact aP _ _|exact⟨aP _ _,rfl⟩
theorem U7 (ih:kK t F n) (ht:t.length<=1000000) (o:re.op=10)
  (hi0:0<=i) (n7:i<=t.length) (eO:re.set.length<=1000000000) (qq:re.kids.length<=1000000000) (ia:c.length<=1000000000) (he:s1.empty=false) (bH:eY t F g0 most st s1)
  (hr:fG t (iw t F n) most re next i c s1=some (b,st')) :
  ar prog 116 [.rf 0 g0 0 0,.d (Goal.mk kind re k bZ next).d,i64 i,.d (cQ c)] (bY g0 t most F st) λv s=>v=bV b/\s=bY g0 t most F st':=by
 unfold eY bY dB at bH;simp only[i64,bV,iD,ajN,ajO]at bH;have d4:decide (re.op=4)=false:=ce ae;have d1:decide (re.op=1)=false:=ce ae;have d2:decide (re.op=2)=false:=ce ae;have d3:decide (re.op=3)=false:=ce ae;have d5:decide (re.op=5)=false:=ce ae;have d6:decide (re.op=6)=false:=ce ae;have d7:decide (re.op=7)=false:=ce ae;have d8:decide (re.op=8)=false:=ce ae;have d9:decide (re.op=9)=false:=ce ae;have d10:decide (re.op=10)=true:=bi o;unfold fG at hr;rw[bd,bd,bd,bd,bd,bd,bd,be o]at hr;have jO:=OF c re.n ia;simp only[i64]at jO
 match hk:re.kids with
 |[]=>rw[hk]at hr;cases hr
 |[_]=>rw[hk]at hr;cases hr
 |yes::no::l =>
  rw[hk]at hr;have m7:re.kids[0]?=some yes:=by rw[hk];rfl
  have vd:re.kids[1]?=some no:=by rw[hk];rfl
  have pU:(0:Int)<(re.kids.length:Int):=by rw[hk,ajW];omega
  have oT:(1:Int)<(re.kids.length:Int):=by rw[hk,ajW,ajW];omega
  clear hk;simp only at hr;by_cases q:0<=(cK c re.n).1
  ·rw[be q]at hr;have hc:=λext=>fI (ih g0 _ _ _ _ _ hr) ext;unfold fv eP bY dB at hc;simp only[Goal.b9,i64,iD,bD,bV,ajN,ajO]at hc;simp only[he]at hc;unfold bY dB;refine bo func116 ntmps116 results116 3 26328072917139296674479506920917608079723773850137295405767982863 ?_;simp only[zI,simprocAttr,-D7,bV,Goal.b9,iD,bD,d4,d1,d2,d3,d5,d6,d7,d8,d9,d10];refine an (bH _) (λv s' hv=>?_);obtain⟨rfl,rfl⟩:=hv;simp only[zQ,simprocAttr,-D7,he,aj2,aj0,d4,d1,d2,d3,d5,d6,d7,d8,d9,d10];refine dY jO ?_;simp only[zI,simprocAttr,-D7,iD,bD,m7,pU,vd,oT,av yes,Re.ah yes,av no,Re.ah no,q,ge_iff_le];refine⟨aU,?_⟩;refine aX bW.bn ?_;refine cu mix [10] [(7,[6],[6])] ?_;simp only[zQ,simprocAttr,-D7,hole];refine ct (bE [6] (by simp [br,ck,bc.go,bc,cT]) (hc _)) ?_;simp only[zQ,simprocAttr,-D7];first|exact aP _ _|exact⟨aP _ _,rfl⟩
  ·rw[ap q]at hr;have hc:=λext=>fI (ih g0 _ _ _ _ _ hr) ext;unfold fv eP bY dB at hc;simp only[Goal.b9,i64,iD,bD,bV,ajN,ajO]at hc;simp only[he]at hc;unfold bY dB;refine bo func116 ntmps116 results116 3 26328072917139296674479506920917608079723773850137295405767982863 ?_;simp only[zI,simprocAttr,-D7,bV,Goal.b9,iD,bD,d4,d1,d2,d3,d5,d6,d7,d8,d9,d10];refine an (bH _) (λv s' hv=>?_);obtain⟨rfl,rfl⟩:=hv;simp only[zQ,simprocAttr,-D7,he,aj2,aj0,d4,d1,d2,d3,d5,d6,d7,d8,d9,d10];refine dY jO ?_;simp only[zI,simprocAttr,-D7,iD,bD,m7,pU,vd,oT,av yes,Re.ah yes,av no,Re.ah no,q,ge_iff_le];refine⟨aU,?_⟩;refine aX bW.bn ?_;refine cu mix [10] [(7,[6],[6])] ?_;simp only[zQ,simprocAttr,-D7,hole];refine ct (bE [6] (by simp [br,ck,bc.go,bc,cT]) (hc _)) ?_;simp only[zQ,simprocAttr,-D7];first|exact aP _ _|exact⟨aP _ _,rfl⟩
def Pk (re:Re):VL.Obj:=⟨0,true,8,[[i64 re.op,.d (.sl (re.set.map aT)),.d (.sl (re.kids.map Re.cells)),i64 re.mn,i64 re.mx,i64 re.mode,i64 re.n,bV re.neg]]⟩
theorem Up (g0:Nat) (t:List Int) (most F:Int) (st:bO) (n:Nat) (hn:3<=n):(bY g0 t most F st).all (aK n)=true:=by unfold bY dB;simp only[aks,akB,aK,aj4];rw[tM st.ends iD n,tM st.ai cQ n];have h1:decide (1<n)=true:=bi ae;have h2:decide (2<n)=true:=bi ae;simp [aj,i64,bV,h1,h2]
theorem I6 {α:Type}{l:List α}{j:Nat}{x:α} (h:l[j]?=some x):l.drop j=x::l.drop (j+1):=by obtain⟨h1,h2⟩:=List.getElem?_eq_some_iff.1 h;rw[<- h2];exact alc h1
theorem YN (ih:kK t F n) (ht:t.length<=1000000) (o:re.op=3)
  (hi0:0<=i) (n7:i<=t.length) (eO:re.set.length<=1000000000) (qq:re.kids.length<=1000000000) (ia:c.length<=1000000000) (he:s1.empty=false) (bH:eY t F g0 most st s1)
  (hr:fG t (iw t F n) most re next i c s1=some (b,st')) :
  ar prog 116 [.rf 0 g0 0 0,.d (Goal.mk kind re k bZ next).d,i64 i,.d (cQ c)] (bY g0 t most F st) λv s=>v=bV b/\s=bY g0 t most F st':=by
 unfold eY bY dB at bH;simp only[i64,bV,iD,ajN,ajO]at bH;have d4:decide (re.op=4)=false:=ce ae;have d1:decide (re.op=1)=false:=ce ae;have d2:decide (re.op=2)=false:=ce ae;have d3:decide (re.op=3)=true:=bi o;unfold fG at hr;rw[bd,bd,be o]at hr;unfold bY dB;refine bo func116 ntmps116 results116 3 26328072917139296674479506920917608079723773850137295405767982863 ?_;simp only[zI,simprocAttr,-D7,bV,Goal.b9,iD,bD,d4,d1,d2,d3];refine an (bH _) (λv s' hv=>?_);obtain⟨rfl,rfl⟩:=hv;simp only[zQ,simprocAttr,-D7,he,aj2,aj0,d4,d1,d2,d3];refine aw (λm e s=>∃(j:Nat) (s2:bO),m=re.kids.length-j/\j<=re.kids.length/\e 0=.rf 0 g0 0 0/\e 1=.d (Goal.mk kind re k bZ next).d/\e 2=i64 i/\e 3=.d (cQ c)/\e 9=.rf 3 0 0 0/\e 12=i64 j/\s=bY g0 t most F s2++[Pk re] /\
   Cv (λk st=>iw t F n most (.run (.mk 0 k 0 0 next) i c) st) (re.kids.drop j) s2=some (b,st'))
  ⟨_,_,_,bA.refl,0,s1,rfl,ae,rfl,?_,rfl,rfl,rfl,rfl,?_,by simpa using hr⟩ ?_
 ·rw[Goal.b9];rfl
 ·unfold bY dB Pk;simp only[he];rfl
 clear hr;rintro m e s ⟨j,s2,rfl,hj,h0,h1,h2,h3,h9,dV,rfl,hb⟩;rw[Goal.b9]at h1;rcases akd j re.kids.length with az|gx
 ·obtain⟨x,hx⟩:∃x,re.kids[j]?=some x:=cc az;rw[I6 hx]at hb;simp only[Cv]at hb;cases Xo:iw t F n most (.run (.mk 0 x 0 0 next) i c) s2 with
  |none=>rw[Xo]at hb;cases hb
  |some y =>
   obtain⟨b1,s3⟩:=y;rw[Xo]at hb;have hc:=λext=>fI (ih g0 _ _ _ _ _ Xo) ext;unfold fv eP bY dB at hc;simp only[Goal.b9,i64,iD,bD,bV,ajN,ajO]at hc;unfold bY dB Pk;simp only[zQ,simprocAttr,-D7,ajN,ajO,h0,h1,h2,h3,h9,dV,az,hx];refine aX bW.bn ?_;refine cu mix [14] [(11,[4],[4])] ?_;simp only[zQ,simprocAttr,-D7,hole,h0,h1,h2,h3,h9,dV,az,hx,av x,Re.ah x];refine ct (bE [4] (by simp [br,ck,bc.go,bc,cT]) (hc _)) ?_;cases b1 with
   |true =>
    simp only[Ma,ajU,akn]at hb;obtain⟨rfl,rfl⟩:=hb;simp only[zQ,simprocAttr,-D7];first|exact aP _ _|exact⟨aP _ _,rfl⟩
   |false =>
    simp only[Ma]at hb;simp only[zQ,simprocAttr,-D7,h0,h1,h2,h3,h9,dV];refine⟨re.kids.length-(j+1),_,_,ae,bA.cut (s':=bY g0 t most F s3++[Pk re]) 4 ae rfl ?_ [0,1,2,3,9,12] ?_,j+1,s3,rfl,az,?_,?_,?_,?_,?_,?_,rfl,hb⟩
    ·have:=Up g0 t most F s3 4 ae;rw[akZ,this];rfl
    ·simp [bK,aS,aj,i64,h0,h1,h2,h3,h9,dV]
    ·simpa [od,bK,aS,i64]using h0
    ·rw[Goal.b9];simpa [od,bK,aS,i64]using h1
    ·simpa [od,bK,aS,i64]using h2
    ·simpa [od,bK,aS,i64]using h3
    ·simpa [od,bK,aS,i64]using h9
    ·simp only[od,bK,akr,akt,Nat.reduceBEq,akw,akl,ako,Bool.or_true,if_true,ajY,if_false,reduceIte,Nat.reduceEqDiff];rw[bG _ ae];rfl
 ·have Ks:j=re.kids.length:=by omega
  subst Ks;rw[List.drop_length]at hb;simp only[Cv,ajU,akn]at hb;obtain⟨rfl,rfl⟩:=hb;unfold bY dB Pk;simp only[zQ,simprocAttr,-D7,ajN,ajO,h0,h1,h2,h3,h9,dV,ak9];first|exact aP _ _|exact⟨aP _ _,rfl⟩
end Go.Proofs.YtjjfioalgbecmaaGreat
