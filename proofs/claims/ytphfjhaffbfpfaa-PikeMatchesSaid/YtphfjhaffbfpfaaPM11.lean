/- A part of the proof (G11 G12 G13 G14). -/
import Derived.Test.YtphfjhaffbfpfaaPM8
import Derived.Test.YtphfjhaffbfpfaaPM9
import Derived.Test.YtphfjhaffbfpfaaPM10
set_option linter.all false
set_option maxRecDepth 100000
set_option maxHeartbeats 80000000
namespace Go.Proofs.Ytphfjhaffbfpfaa
open Go.VL Go.Proofs.Try
variable{st:bd}{t:List Int}{next:Goal}{c:aC}{g0:Nat}{kind:Int}{s1:bd}{F:Int}{k:Int}{st':bd}{re:Re}{ai:Int}{cq:Int}{n:Nat}{b:Bool}{i:Int}{j:Nat}
theorem Tj (ih:jE t F n) (ht:t.length<=1000000) (o:re.op=9)
  (hi0:0<=i) (fD:i<=t.length) (cC:re.set.length<=1000000000) (cI:re.kids.length<=1000000000) (cZ:c.length<=1000000000) (he:s1.empty=false) (aU:eS t F g0 ai st s1)
  (hr:dw t (dO t F n) ai re next i c s1=some (b,st')) :
  au prog 75 [.rf 0 g0 0 0,.d (Goal.mk kind re k cq next).d,i64 i,.d (bQ c)] (cc g0 t ai F st) λv s=>v=bV b/\s=cc g0 t ai F st':=by
 unfold eS cc dE at aU;simp only[i64,bV,iD,adr,adt]at aU;have d4:decide (re.op=4)=false:=adl (by omega);have d1:decide (re.op=1)=false:=adl (by omega);have d2:decide (re.op=2)=false:=adl (by omega);have d3:decide (re.op=3)=false:=adl (by omega);have d5:decide (re.op=5)=false:=adl (by omega);have d6:decide (re.op=6)=false:=adl (by omega);have d7:decide (re.op=7)=false:=adl (by omega);have d8:decide (re.op=8)=false:=adl (by omega);have d9:decide (re.op=9)=true:=adu o;unfold dw at hr;rw[am (by omega),am (by omega),am (by omega),am (by omega),am (by omega),am (by omega),ap o]at hr;have ED:Goal.nil.d=.sc (.pointer none):=rfl;cases hk:re.kids with
 |nil=>rw[hk]at hr;cases hr
 |cons aL l =>
  rw[hk]at hr;have hk0:re.kids[0]?=some aL:=by rw[hk];rfl
  have ek:(0:Int)<(re.kids.length:Int):=by rw[hk,adA];omega
  clear hk;simp only at hr;cases hx:bS (dO t F n) (.mk 0 aL 0 0 .nil) i c s1 with
  |none=>rw[hx]at hr;cases hr
  |some x =>
   obtain⟨r1,s2⟩:=x;rw[hx]at hr;simp only at hr;have hf:=λext=>wW (g0:=g0) (ai:=ai) ih hx ext;unfold cc dE at hf;simp only[Goal.bu,ED,i64,iD,bD,bV,adr,adt,he]at hf;by_cases e2:s2.empty=true
   ·rw[ap e2]at hr;simp only[adp,ad3]at hr;obtain⟨rfl,rfl⟩:=hr;cases r1 with
    |none =>
     unfold cc dE;refine ar func75 rfl ntmps75 results75 rfl 3 26328072917139296674479506920917608079723773850137295405767982863 (by simp) (by simp) ?_;simp only[zX,simprocAttr,i64,bV,Goal.bu,iD,bD,d4,d1,d2,d3,d5,d6,d7,d8,d9];refine aj (aU _) (λv s' hv=>?_);obtain⟨rfl,rfl⟩:=hv;simp only[zX,simprocAttr,i64,bV,iD,bD,he,adz,ads,d4,d1,d2,d3,d5,d6,d7,d8,d9];simp only[zX,simprocAttr,i64,iD,bD,hk0,ek,aq aL,Re.ae aL];refine aY [4] (by simp [bg,bT,bf.go,bf,cE]) (aj (hf _) (λv s' hv=>?_));obtain⟨rfl,rfl⟩:=hv;simp only[zX,simprocAttr,i64,bV,iD,bD,jS,e2];first|exact aV _ _|exact⟨aV _ _,rfl⟩
    |some p =>
     obtain⟨e1,d⟩:=p;unfold cc dE;refine ar func75 rfl ntmps75 results75 rfl 3 26328072917139296674479506920917608079723773850137295405767982863 (by simp) (by simp) ?_;simp only[zX,simprocAttr,i64,bV,Goal.bu,iD,bD,d4,d1,d2,d3,d5,d6,d7,d8,d9];refine aj (aU _) (λv s' hv=>?_);obtain⟨rfl,rfl⟩:=hv;simp only[zX,simprocAttr,i64,bV,iD,bD,he,adz,ads,d4,d1,d2,d3,d5,d6,d7,d8,d9];simp only[zX,simprocAttr,i64,iD,bD,hk0,ek,aq aL,Re.ae aL];refine aY [4] (by simp [bg,bT,bf.go,bf,cE]) (aj (hf _) (λv s' hv=>?_));obtain⟨rfl,rfl⟩:=hv;simp only[zX,simprocAttr,i64,bV,iD,bD,jS,e2];first|exact aV _ _|exact⟨aV _ _,rfl⟩
   ·rw[am e2]at hr;have e2:s2.empty=false:=by simpa using e2
    cases r1 with
    |none =>
     simp only[adp,ad3]at hr;obtain⟨rfl,rfl⟩:=hr;unfold cc dE;refine ar func75 rfl ntmps75 results75 rfl 3 26328072917139296674479506920917608079723773850137295405767982863 (by simp) (by simp) ?_;simp only[zX,simprocAttr,i64,bV,Goal.bu,iD,bD,d4,d1,d2,d3,d5,d6,d7,d8,d9];refine aj (aU _) (λv s' hv=>?_);obtain⟨rfl,rfl⟩:=hv;simp only[zX,simprocAttr,i64,bV,iD,bD,he,adz,ads,d4,d1,d2,d3,d5,d6,d7,d8,d9];simp only[zX,simprocAttr,i64,iD,bD,hk0,ek,aq aL,Re.ae aL];refine aY [4] (by simp [bg,bT,bf.go,bf,cE]) (aj (hf _) (λv s' hv=>?_));obtain⟨rfl,rfl⟩:=hv;simp only[zX,simprocAttr,i64,bV,iD,bD,jS,e2];first|exact aV _ _|exact⟨aV _ _,rfl⟩
    |some p =>
     obtain⟨e1,d⟩:=p;simp only at hr;have hc:=λext=>fA (ih g0 _ _ _ _ _ hr) ext;unfold fg eH cc dE at hc;simp only[Goal.bu,i64,iD,bD,bV,adr,adt]at hc;simp only[e2]at hc;unfold cc dE;refine ar func75 rfl ntmps75 results75 rfl 3 26328072917139296674479506920917608079723773850137295405767982863 (by simp) (by simp) ?_;simp only[zX,simprocAttr,i64,bV,Goal.bu,iD,bD,d4,d1,d2,d3,d5,d6,d7,d8,d9];refine aj (aU _) (λv s' hv=>?_);obtain⟨rfl,rfl⟩:=hv;simp only[zX,simprocAttr,i64,bV,iD,bD,he,adz,ads,d4,d1,d2,d3,d5,d6,d7,d8,d9];simp only[zX,simprocAttr,i64,iD,bD,hk0,ek,aq aL,Re.ae aL];refine aY [4] (by simp [bg,bT,bf.go,bf,cE]) (aj (hf _) (λv s' hv=>?_));obtain⟨rfl,rfl⟩:=hv;simp only[zX,simprocAttr,i64,bV,iD,bD,jS,e2]
     (refine aj (hc _) (λv s' hv=>?_);obtain⟨rfl,rfl⟩:=hv)
     simp only[zX,simprocAttr,i64,bV,iD,bD];first|exact aV _ _|exact⟨aV _ _,rfl⟩
theorem UA (ih:jE t F n) (ht:t.length<=1000000) (o:re.op=7)
  (hi0:0<=i) (fD:i<=t.length) (cC:re.set.length<=1000000000) (cI:re.kids.length<=1000000000) (cZ:c.length<=1000000000) (he:s1.empty=false) (aU:eS t F g0 ai st s1)
  (hr:dw t (dO t F n) ai re next i c s1=some (b,st')) :
  au prog 75 [.rf 0 g0 0 0,.d (Goal.mk kind re k cq next).d,i64 i,.d (bQ c)] (cc g0 t ai F st) λv s=>v=bV b/\s=cc g0 t ai F st':=by
 unfold eS cc dE at aU;simp only[i64,bV,iD,adr,adt]at aU;have d4:decide (re.op=4)=false:=adl (by omega);have d1:decide (re.op=1)=false:=adl (by omega);have d2:decide (re.op=2)=false:=adl (by omega);have d3:decide (re.op=3)=false:=adl (by omega);have d5:decide (re.op=5)=false:=adl (by omega);have d6:decide (re.op=6)=false:=adl (by omega);have d7:decide (re.op=7)=true:=adu o;unfold dw at hr;rw[am (by omega),am (by omega),am (by omega),am (by omega),am (by omega),ap (by omega)]at hr;cases hk:re.kids with
 |nil=>rw[hk]at hr;cases hr
 |cons aL l =>
  rw[hk]at hr;have hk0:re.kids[0]?=some aL:=by rw[hk];rfl
  have ek:(0:Int)<(re.kids.length:Int):=by rw[hk,adA];omega
  simp only at hr;cases hx:iR (dO t F n) re.op aL i c s1 with
  |none=>rw[hx]at hr;cases hr
  |some x =>
   obtain⟨r1,s2⟩:=x;rw[hx]at hr;simp only at hr;have hf:=λext=>Hn (g0:=g0) (ai:=ai) ih hk hi0 (by omega) hx ext;clear hk;unfold cc dE at hf;simp only[aq re,i64,iD,bD,bV,adr,adt,he]at hf;by_cases e2:s2.empty=true
   ·rw[ap e2]at hr;simp only[adp,ad3]at hr;obtain⟨rfl,rfl⟩:=hr;cases r1 with
    |none =>
     unfold cc dE;refine ar func75 rfl ntmps75 results75 rfl 3 26328072917139296674479506920917608079723773850137295405767982863 (by simp) (by simp) ?_;simp only[zX,simprocAttr,i64,bV,Goal.bu,iD,bD,d4,d1,d2,d3,d5,d6,d7];refine aj (aU _) (λv s' hv=>?_);obtain⟨rfl,rfl⟩:=hv;simp only[zX,simprocAttr,i64,bV,iD,bD,he,adz,ads,d4,d1,d2,d3,d5,d6,d7]
     (refine aj (hf _) (λv s' hv=>?_);obtain⟨rfl,rfl⟩:=hv)
     simp only[zX,simprocAttr,i64,bV,iD,bD,lY,e2];first|exact aV _ _|exact⟨aV _ _,rfl⟩
    |some d =>
     unfold cc dE;refine ar func75 rfl ntmps75 results75 rfl 3 26328072917139296674479506920917608079723773850137295405767982863 (by simp) (by simp) ?_;simp only[zX,simprocAttr,i64,bV,Goal.bu,iD,bD,d4,d1,d2,d3,d5,d6,d7];refine aj (aU _) (λv s' hv=>?_);obtain⟨rfl,rfl⟩:=hv;simp only[zX,simprocAttr,i64,bV,iD,bD,he,adz,ads,d4,d1,d2,d3,d5,d6,d7]
     (refine aj (hf _) (λv s' hv=>?_);obtain⟨rfl,rfl⟩:=hv)
     simp only[zX,simprocAttr,i64,bV,iD,bD,lY,e2];first|exact aV _ _|exact⟨aV _ _,rfl⟩
   ·rw[am e2]at hr;have e2:s2.empty=false:=by simpa using e2
    cases hn:re.neg with
    |true =>
     rw[ap hn]at hr;cases r1 with
     |none =>
      simp only at hr;have hc:=λext=>fA (ih g0 _ _ _ _ _ hr) ext;unfold fg eH cc dE at hc;simp only[Goal.bu,i64,iD,bD,bV,adr,adt]at hc;simp only[e2]at hc;unfold cc dE;refine ar func75 rfl ntmps75 results75 rfl 3 26328072917139296674479506920917608079723773850137295405767982863 (by simp) (by simp) ?_;simp only[zX,simprocAttr,i64,bV,Goal.bu,iD,bD,d4,d1,d2,d3,d5,d6,d7];refine aj (aU _) (λv s' hv=>?_);obtain⟨rfl,rfl⟩:=hv;simp only[zX,simprocAttr,i64,bV,iD,bD,he,adz,ads,d4,d1,d2,d3,d5,d6,d7]
      (refine aj (hf _) (λv s' hv=>?_);obtain⟨rfl,rfl⟩:=hv)
      simp only[zX,simprocAttr,i64,bV,iD,bD,lY,e2,hn]
      (refine aj (hc _) (λv s' hv=>?_);obtain⟨rfl,rfl⟩:=hv)
      simp only[zX,simprocAttr,i64,bV,iD,bD];first|exact aV _ _|exact⟨aV _ _,rfl⟩
     |some d =>
      simp only[adp,ad3]at hr;obtain⟨rfl,rfl⟩:=hr;unfold cc dE;refine ar func75 rfl ntmps75 results75 rfl 3 26328072917139296674479506920917608079723773850137295405767982863 (by simp) (by simp) ?_;simp only[zX,simprocAttr,i64,bV,Goal.bu,iD,bD,d4,d1,d2,d3,d5,d6,d7];refine aj (aU _) (λv s' hv=>?_);obtain⟨rfl,rfl⟩:=hv;simp only[zX,simprocAttr,i64,bV,iD,bD,he,adz,ads,d4,d1,d2,d3,d5,d6,d7]
      (refine aj (hf _) (λv s' hv=>?_);obtain⟨rfl,rfl⟩:=hv)
      simp only[zX,simprocAttr,i64,bV,iD,bD,lY,e2,hn];first|exact aV _ _|exact⟨aV _ _,rfl⟩
    |false =>
     rw[am (by rw[hn];decide)]at hr;cases r1 with
     |none =>
      simp only[adp,ad3]at hr;obtain⟨rfl,rfl⟩:=hr;unfold cc dE;refine ar func75 rfl ntmps75 results75 rfl 3 26328072917139296674479506920917608079723773850137295405767982863 (by simp) (by simp) ?_;simp only[zX,simprocAttr,i64,bV,Goal.bu,iD,bD,d4,d1,d2,d3,d5,d6,d7];refine aj (aU _) (λv s' hv=>?_);obtain⟨rfl,rfl⟩:=hv;simp only[zX,simprocAttr,i64,bV,iD,bD,he,adz,ads,d4,d1,d2,d3,d5,d6,d7]
      (refine aj (hf _) (λv s' hv=>?_);obtain⟨rfl,rfl⟩:=hv)
      simp only[zX,simprocAttr,i64,bV,iD,bD,lY,e2,hn];first|exact aV _ _|exact⟨aV _ _,rfl⟩
     |some d =>
      simp only at hr;have hc:=λext=>fA (ih g0 _ _ _ _ _ hr) ext;unfold fg eH cc dE at hc;simp only[Goal.bu,i64,iD,bD,bV,adr,adt]at hc;simp only[e2]at hc;unfold cc dE;refine ar func75 rfl ntmps75 results75 rfl 3 26328072917139296674479506920917608079723773850137295405767982863 (by simp) (by simp) ?_;simp only[zX,simprocAttr,i64,bV,Goal.bu,iD,bD,d4,d1,d2,d3,d5,d6,d7];refine aj (aU _) (λv s' hv=>?_);obtain⟨rfl,rfl⟩:=hv;simp only[zX,simprocAttr,i64,bV,iD,bD,he,adz,ads,d4,d1,d2,d3,d5,d6,d7]
      (refine aj (hf _) (λv s' hv=>?_);obtain⟨rfl,rfl⟩:=hv)
      simp only[zX,simprocAttr,i64,bV,iD,bD,lY,e2,hn]
      (refine aj (hc _) (λv s' hv=>?_);obtain⟨rfl,rfl⟩:=hv)
      simp only[zX,simprocAttr,i64,bV,iD,bD];first|exact aV _ _|exact⟨aV _ _,rfl⟩
theorem Ty (ih:jE t F n) (ht:t.length<=1000000) (o:re.op=8)
  (hi0:0<=i) (fD:i<=t.length) (cC:re.set.length<=1000000000) (cI:re.kids.length<=1000000000) (cZ:c.length<=1000000000) (he:s1.empty=false) (aU:eS t F g0 ai st s1)
  (hr:dw t (dO t F n) ai re next i c s1=some (b,st')) :
  au prog 75 [.rf 0 g0 0 0,.d (Goal.mk kind re k cq next).d,i64 i,.d (bQ c)] (cc g0 t ai F st) λv s=>v=bV b/\s=cc g0 t ai F st':=by
 unfold eS cc dE at aU;simp only[i64,bV,iD,adr,adt]at aU;have d4:decide (re.op=4)=false:=adl (by omega);have d1:decide (re.op=1)=false:=adl (by omega);have d2:decide (re.op=2)=false:=adl (by omega);have d3:decide (re.op=3)=false:=adl (by omega);have d5:decide (re.op=5)=false:=adl (by omega);have d6:decide (re.op=6)=false:=adl (by omega);have d7:decide (re.op=7)=false:=adl (by omega);have d8:decide (re.op=8)=true:=adu o;unfold dw at hr;rw[am (by omega),am (by omega),am (by omega),am (by omega),am (by omega),ap (by omega)]at hr;cases hk:re.kids with
 |nil=>rw[hk]at hr;cases hr
 |cons aL l =>
  rw[hk]at hr;have hk0:re.kids[0]?=some aL:=by rw[hk];rfl
  have ek:(0:Int)<(re.kids.length:Int):=by rw[hk,adA];omega
  simp only at hr;cases hx:iR (dO t F n) re.op aL i c s1 with
  |none=>rw[hx]at hr;cases hr
  |some x =>
   obtain⟨r1,s2⟩:=x;rw[hx]at hr;simp only at hr;have hf:=λext=>Hn (g0:=g0) (ai:=ai) ih hk hi0 (by omega) hx ext;clear hk;unfold cc dE at hf;simp only[aq re,i64,iD,bD,bV,adr,adt,he]at hf;by_cases e2:s2.empty=true
   ·rw[ap e2]at hr;simp only[adp,ad3]at hr;obtain⟨rfl,rfl⟩:=hr;cases r1 with
    |none =>
     unfold cc dE;refine ar func75 rfl ntmps75 results75 rfl 3 26328072917139296674479506920917608079723773850137295405767982863 (by simp) (by simp) ?_;simp only[zX,simprocAttr,i64,bV,Goal.bu,iD,bD,d4,d1,d2,d3,d5,d6,d7,d8];refine aj (aU _) (λv s' hv=>?_);obtain⟨rfl,rfl⟩:=hv;simp only[zX,simprocAttr,i64,bV,iD,bD,he,adz,ads,d4,d1,d2,d3,d5,d6,d7,d8]
     (refine aj (hf _) (λv s' hv=>?_);obtain⟨rfl,rfl⟩:=hv)
     simp only[zX,simprocAttr,i64,bV,iD,bD,lY,e2];first|exact aV _ _|exact⟨aV _ _,rfl⟩
    |some d =>
     unfold cc dE;refine ar func75 rfl ntmps75 results75 rfl 3 26328072917139296674479506920917608079723773850137295405767982863 (by simp) (by simp) ?_;simp only[zX,simprocAttr,i64,bV,Goal.bu,iD,bD,d4,d1,d2,d3,d5,d6,d7,d8];refine aj (aU _) (λv s' hv=>?_);obtain⟨rfl,rfl⟩:=hv;simp only[zX,simprocAttr,i64,bV,iD,bD,he,adz,ads,d4,d1,d2,d3,d5,d6,d7,d8]
     (refine aj (hf _) (λv s' hv=>?_);obtain⟨rfl,rfl⟩:=hv)
     simp only[zX,simprocAttr,i64,bV,iD,bD,lY,e2];first|exact aV _ _|exact⟨aV _ _,rfl⟩
   ·rw[am e2]at hr;have e2:s2.empty=false:=by simpa using e2
    cases hn:re.neg with
    |true =>
     rw[ap hn]at hr;cases r1 with
     |none =>
      simp only at hr;have hc:=λext=>fA (ih g0 _ _ _ _ _ hr) ext;unfold fg eH cc dE at hc;simp only[Goal.bu,i64,iD,bD,bV,adr,adt]at hc;simp only[e2]at hc;unfold cc dE;refine ar func75 rfl ntmps75 results75 rfl 3 26328072917139296674479506920917608079723773850137295405767982863 (by simp) (by simp) ?_;simp only[zX,simprocAttr,i64,bV,Goal.bu,iD,bD,d4,d1,d2,d3,d5,d6,d7,d8];refine aj (aU _) (λv s' hv=>?_);obtain⟨rfl,rfl⟩:=hv;simp only[zX,simprocAttr,i64,bV,iD,bD,he,adz,ads,d4,d1,d2,d3,d5,d6,d7,d8]
      (refine aj (hf _) (λv s' hv=>?_);obtain⟨rfl,rfl⟩:=hv)
      simp only[zX,simprocAttr,i64,bV,iD,bD,lY,e2,hn]
      (refine aj (hc _) (λv s' hv=>?_);obtain⟨rfl,rfl⟩:=hv)
      simp only[zX,simprocAttr,i64,bV,iD,bD];first|exact aV _ _|exact⟨aV _ _,rfl⟩
     |some d =>
      simp only[adp,ad3]at hr;obtain⟨rfl,rfl⟩:=hr;unfold cc dE;refine ar func75 rfl ntmps75 results75 rfl 3 26328072917139296674479506920917608079723773850137295405767982863 (by simp) (by simp) ?_;simp only[zX,simprocAttr,i64,bV,Goal.bu,iD,bD,d4,d1,d2,d3,d5,d6,d7,d8];refine aj (aU _) (λv s' hv=>?_);obtain⟨rfl,rfl⟩:=hv;simp only[zX,simprocAttr,i64,bV,iD,bD,he,adz,ads,d4,d1,d2,d3,d5,d6,d7,d8]
      (refine aj (hf _) (λv s' hv=>?_);obtain⟨rfl,rfl⟩:=hv)
      simp only[zX,simprocAttr,i64,bV,iD,bD,lY,e2,hn];first|exact aV _ _|exact⟨aV _ _,rfl⟩
    |false =>
     rw[am (by rw[hn];decide)]at hr;cases r1 with
     |none =>
      simp only[adp,ad3]at hr;obtain⟨rfl,rfl⟩:=hr;unfold cc dE;refine ar func75 rfl ntmps75 results75 rfl 3 26328072917139296674479506920917608079723773850137295405767982863 (by simp) (by simp) ?_;simp only[zX,simprocAttr,i64,bV,Goal.bu,iD,bD,d4,d1,d2,d3,d5,d6,d7,d8];refine aj (aU _) (λv s' hv=>?_);obtain⟨rfl,rfl⟩:=hv;simp only[zX,simprocAttr,i64,bV,iD,bD,he,adz,ads,d4,d1,d2,d3,d5,d6,d7,d8]
      (refine aj (hf _) (λv s' hv=>?_);obtain⟨rfl,rfl⟩:=hv)
      simp only[zX,simprocAttr,i64,bV,iD,bD,lY,e2,hn];first|exact aV _ _|exact⟨aV _ _,rfl⟩
     |some d =>
      simp only at hr;have hc:=λext=>fA (ih g0 _ _ _ _ _ hr) ext;unfold fg eH cc dE at hc;simp only[Goal.bu,i64,iD,bD,bV,adr,adt]at hc;simp only[e2]at hc;unfold cc dE;refine ar func75 rfl ntmps75 results75 rfl 3 26328072917139296674479506920917608079723773850137295405767982863 (by simp) (by simp) ?_;simp only[zX,simprocAttr,i64,bV,Goal.bu,iD,bD,d4,d1,d2,d3,d5,d6,d7,d8];refine aj (aU _) (λv s' hv=>?_);obtain⟨rfl,rfl⟩:=hv;simp only[zX,simprocAttr,i64,bV,iD,bD,he,adz,ads,d4,d1,d2,d3,d5,d6,d7,d8]
      (refine aj (hf _) (λv s' hv=>?_);obtain⟨rfl,rfl⟩:=hv)
      simp only[zX,simprocAttr,i64,bV,iD,bD,lY,e2,hn]
      (refine aj (hc _) (λv s' hv=>?_);obtain⟨rfl,rfl⟩:=hv)
      simp only[zX,simprocAttr,i64,bV,iD,bD];first|exact aV _ _|exact⟨aV _ _,rfl⟩
theorem QY (ih:jE t F n) (ht:t.length<=1000000) (o:re.op=10)
  (hi0:0<=i) (fD:i<=t.length) (cC:re.set.length<=1000000000) (cI:re.kids.length<=1000000000) (cZ:c.length<=1000000000) (he:s1.empty=false) (aU:eS t F g0 ai st s1)
  (hr:dw t (dO t F n) ai re next i c s1=some (b,st')) :
  au prog 75 [.rf 0 g0 0 0,.d (Goal.mk kind re k cq next).d,i64 i,.d (bQ c)] (cc g0 t ai F st) λv s=>v=bV b/\s=cc g0 t ai F st':=by
 unfold eS cc dE at aU;simp only[i64,bV,iD,adr,adt]at aU;have d4:decide (re.op=4)=false:=adl (by omega);have d1:decide (re.op=1)=false:=adl (by omega);have d2:decide (re.op=2)=false:=adl (by omega);have d3:decide (re.op=3)=false:=adl (by omega);have d5:decide (re.op=5)=false:=adl (by omega);have d6:decide (re.op=6)=false:=adl (by omega);have d7:decide (re.op=7)=false:=adl (by omega);have d8:decide (re.op=8)=false:=adl (by omega);have d9:decide (re.op=9)=false:=adl (by omega);have d10:decide (re.op=10)=true:=adu o;unfold dw at hr;rw[am (by omega),am (by omega),am (by omega),am (by omega),am (by omega),am (by omega),am (by omega),ap o]at hr;have du:=KU c re.n cZ;simp only[i64]at du
 match hk:re.kids with
 |[]=>rw[hk]at hr;cases hr
 |[_]=>rw[hk]at hr;cases hr
 |yes::no::l =>
  rw[hk]at hr;have hk0:re.kids[0]?=some yes:=by rw[hk];rfl
  have oG:re.kids[1]?=some no:=by rw[hk];rfl
  have ek:(0:Int)<(re.kids.length:Int):=by rw[hk,adA];omega
  have oV:(1:Int)<(re.kids.length:Int):=by rw[hk,adA,adA];omega
  clear hk;simp only at hr;by_cases q:0<=(bH c re.n).1
  ·rw[ap q]at hr;have hc:=λext=>fA (ih g0 _ _ _ _ _ hr) ext;unfold fg eH cc dE at hc;simp only[Goal.bu,i64,iD,bD,bV,adr,adt]at hc;simp only[he]at hc;unfold cc dE;refine ar func75 rfl ntmps75 results75 rfl 3 26328072917139296674479506920917608079723773850137295405767982863 (by simp) (by simp) ?_;simp only[zX,simprocAttr,-Int.reduceNatCast',i64,bV,Goal.bu,iD,bD,d4,d1,d2,d3,d5,d6,d7,d8,d9,d10];refine aj (aU _) (λv s' hv=>?_);obtain⟨rfl,rfl⟩:=hv;simp only[zX,simprocAttr,-Int.reduceNatCast',i64,bV,iD,bD,he,adz,ads,d4,d1,d2,d3,d5,d6,d7,d8,d9,d10];refine az du rfl rfl ?_;simp only[zX,simprocAttr,-Int.reduceNatCast',i64,iD,bD,hk0,ek,oG,oV,aq yes,Re.ae yes,aq no,Re.ae no,q,ge_iff_le];refine⟨by decide,?_⟩;refine aS ca.bh ?_;refine ao mix [10] [(7,[6],[6])] (by rfl) ?_;simp only[zX,simprocAttr,-Int.reduceNatCast',i64,bV,iD,bD,hole];refine bj (aY [6] (by simp [bg,bT,bf.go,bf,cE]) (hc _)) ?_;simp only[zX,simprocAttr,-Int.reduceNatCast',i64,bV,iD,bD];first|exact aV _ _|exact⟨aV _ _,rfl⟩
  ·rw[am q]at hr;have hc:=λext=>fA (ih g0 _ _ _ _ _ hr) ext;unfold fg eH cc dE at hc;simp only[Goal.bu,i64,iD,bD,bV,adr,adt]at hc;simp only[he]at hc;unfold cc dE;refine ar func75 rfl ntmps75 results75 rfl 3 26328072917139296674479506920917608079723773850137295405767982863 (by simp) (by simp) ?_;simp only[zX,simprocAttr,-Int.reduceNatCast',i64,bV,Goal.bu,iD,bD,d4,d1,d2,d3,d5,d6,d7,d8,d9,d10];refine aj (aU _) (λv s' hv=>?_);obtain⟨rfl,rfl⟩:=hv;simp only[zX,simprocAttr,-Int.reduceNatCast',i64,bV,iD,bD,he,adz,ads,d4,d1,d2,d3,d5,d6,d7,d8,d9,d10];refine az du rfl rfl ?_;simp only[zX,simprocAttr,-Int.reduceNatCast',i64,iD,bD,hk0,ek,oG,oV,aq yes,Re.ae yes,aq no,Re.ae no,q,ge_iff_le];refine⟨by decide,?_⟩;refine aS ca.bh ?_;refine ao mix [10] [(7,[6],[6])] (by rfl) ?_;simp only[zX,simprocAttr,-Int.reduceNatCast',i64,bV,iD,bD,hole];refine bj (aY [6] (by simp [bg,bT,bf.go,bf,cE]) (hc _)) ?_;simp only[zX,simprocAttr,-Int.reduceNatCast',i64,bV,iD,bD];first|exact aV _ _|exact⟨aV _ _,rfl⟩
def Kr (re:Re):VL.Obj:=⟨0,true,8,[[i64 re.op,.d (.sl (re.set.map aN)),.d (.sl (re.kids.map Re.cells)),i64 re.mn,i64 re.mx,i64 re.mode,i64 re.n,bV re.neg]]⟩
theorem Og (g0:Nat) (t:List Int) (ai F:Int) (st:bd) (n:Nat) (hn:3<=n):(cc g0 t ai F st).all (bJ n)=true:=by unfold cc dE;simp only[List.all_cons,List.all_nil,bJ,Bool.and_true];rw[oy st.ends iD n,oy st.ah bQ n];have h1:decide (1<n)=true:=adu (by omega);have h2:decide (2<n)=true:=adu (by omega);simp [ak,i64,bV,h1,h2]
theorem vp {α:Type}{l:List α}{x:α} (h:l[j]?=some x):l.drop j=x::l.drop (j+1):=by obtain⟨h1,h2⟩:=List.getElem?_eq_some_iff.1 h;rw[<- h2];exact List.drop_eq_getElem_cons h1
theorem SY (ih:jE t F n) (ht:t.length<=1000000) (o:re.op=3)
  (hi0:0<=i) (fD:i<=t.length) (cC:re.set.length<=1000000000) (cI:re.kids.length<=1000000000) (cZ:c.length<=1000000000) (he:s1.empty=false) (aU:eS t F g0 ai st s1)
  (hr:dw t (dO t F n) ai re next i c s1=some (b,st')) :
  au prog 75 [.rf 0 g0 0 0,.d (Goal.mk kind re k cq next).d,i64 i,.d (bQ c)] (cc g0 t ai F st) λv s=>v=bV b/\s=cc g0 t ai F st':=by
 unfold eS cc dE at aU;simp only[i64,bV,iD,adr,adt]at aU;have d4:decide (re.op=4)=false:=adl (by omega);have d1:decide (re.op=1)=false:=adl (by omega);have d2:decide (re.op=2)=false:=adl (by omega);have d3:decide (re.op=3)=true:=adu o;unfold dw at hr;rw[am (by omega),am (by omega),ap o]at hr;unfold cc dE;refine ar func75 rfl ntmps75 results75 rfl 3 26328072917139296674479506920917608079723773850137295405767982863 (by simp) (by simp) ?_;simp only[zX,simprocAttr,-Int.reduceNatCast',i64,bV,Goal.bu,iD,bD,d4,d1,d2,d3];refine aj (aU _) (λv s' hv=>?_);obtain⟨rfl,rfl⟩:=hv;simp only[zX,simprocAttr,-Int.reduceNatCast',i64,bV,iD,bD,he,adz,ads,d4,d1,d2,d3];refine aJ (λm e s=>∃(j:Nat) (s2:bd),m=re.kids.length-j/\j<=re.kids.length/\e 0=.rf 0 g0 0 0/\e 1=.d (Goal.mk kind re k cq next).d/\e 2=i64 i/\e 3=.d (bQ c)/\e 9=.rf 3 0 0 0/\e 12=i64 j/\s=cc g0 t ai F s2++[Kr re] /\
   lL (λk st=>dO t F n ai (.run (.mk 0 k 0 0 next) i c) st) (re.kids.drop j) s2=some (b,st'))
  ⟨_,_,_,cU.refl,0,s1,rfl,by omega,rfl,?_,rfl,rfl,rfl,rfl,?_,by simpa using hr⟩ ?_
 ·rw[Goal.bu];rfl
 ·unfold cc dE Kr;simp only[he];rfl
 clear hr;rintro m e s ⟨j,s2,rfl,hj,h0,h1,h2,h3,h9,dZ,rfl,hb⟩;rw[Goal.bu]at h1;rcases adV j re.kids.length with aH|iP
 ·obtain⟨x,hx⟩:∃x,re.kids[j]?=some x:=⟨_,adn aH⟩
  rw[vp hx]at hb;simp only[lL]at hb;cases V6:dO t F n ai (.run (.mk 0 x 0 0 next) i c) s2 with
  |none=>rw[V6]at hb;cases hb
  |some y =>
   obtain⟨b1,s3⟩:=y;rw[V6]at hb;have hc:=λext=>fA (ih g0 _ _ _ _ _ V6) ext;unfold fg eH cc dE at hc;simp only[Goal.bu,i64,iD,bD,bV,adr,adt]at hc;unfold cc dE Kr;simp only[zX,simprocAttr,-Int.reduceNatCast',i64,bV,iD,bD,adr,adt,h0,h1,h2,h3,h9,dZ,aH,hx];refine aS ca.bh ?_;refine ao mix [14] [(11,[4],[4])] (by rfl) ?_;simp only[zX,simprocAttr,-Int.reduceNatCast',i64,bV,iD,bD,hole,h0,h1,h2,h3,h9,dZ,aH,hx,aq x,Re.ae x];refine bj (aY [4] (by simp [bg,bT,bf.go,bf,cE]) (hc _)) ?_;cases b1 with
   |true =>
    simp only[mz,adp,ad3]at hb;obtain⟨rfl,rfl⟩:=hb;simp only[zX,simprocAttr,-Int.reduceNatCast',i64,bV,iD,bD];first|exact aV _ _|exact⟨aV _ _,rfl⟩
   |false =>
    simp only[mz]at hb;simp only[zX,simprocAttr,-Int.reduceNatCast',i64,bV,iD,bD,h0,h1,h2,h3,h9,dZ];refine⟨re.kids.length-(j+1),_,_,by omega,cU.cut (s':=cc g0 t ai F s3++[Kr re]) 4 (by omega) rfl ?_ [0,1,2,3,9,12] ?_,j+1,s3,rfl,aH,?_,?_,?_,?_,?_,?_,rfl,hb⟩
    ·have:=Og g0 t ai F s3 4 (by omega);rw[List.all_append,this];rfl
    ·simp [cB,br,ak,i64,h0,h1,h2,h3,h9,dZ]
    ·simpa [mc,cB,br,i64]using h0
    ·rw[Goal.bu];simpa [mc,cB,br,i64]using h1
    ·simpa [mc,cB,br,i64]using h2
    ·simpa [mc,cB,br,i64]using h3
    ·simpa [mc,cB,br,i64]using h9
    ·simp only[mc,cB,ad7,ad8,Nat.reduceBEq,aea,adY,ad4,Bool.or_true,if_true,adq,if_false,reduceIte,Nat.reduceEqDiff];rw[bM _ (by omega)];rfl
 ·have Nx:j=re.kids.length:=by omega
  subst Nx;rw[List.drop_length]at hb;simp only[lL,adp,ad3]at hb;obtain⟨rfl,rfl⟩:=hb;unfold cc dE Kr;simp only[zX,simprocAttr,-Int.reduceNatCast',i64,bV,iD,bD,adr,adt,h0,h1,h2,h3,h9,dZ,Nat.lt_irrefl];first|exact aV _ _|exact⟨aV _ _,rfl⟩
theorem Ti (ih:jE t F n) (ht:t.length<=1000000) (o:re.op=2)
  (hi0:0<=i) (fD:i<=t.length) (cC:re.set.length<=1000000000) (cI:re.kids.length<=1000000000) (cZ:c.length<=1000000000) (he:s1.empty=false) (aU:eS t F g0 ai st s1)
  (hr:dw t (dO t F n) ai re next i c s1=some (b,st')) :
  au prog 75 [.rf 0 g0 0 0,.d (Goal.mk kind re k cq next).d,i64 i,.d (bQ c)] (cc g0 t ai F st) λv s=>v=bV b/\s=cc g0 t ai F st':=by
 unfold eS cc dE at aU;simp only[i64,bV,iD,adr,adt]at aU;have d4:decide (re.op=4)=false:=adl (by omega);have d1:decide (re.op=1)=false:=adl (by omega);have d2:decide (re.op=2)=true:=adu o;unfold dw at hr;rw[am (by omega),ap o]at hr;have wl:IntKind.i64.wrap ((re.kids.length:Int)-1)=(re.kids.length:Int)-1:=bM _ (by omega);unfold cc dE;refine ar func75 rfl ntmps75 results75 rfl 3 26328072917139296674479506920917608079723773850137295405767982863 (by simp) (by simp) ?_;simp only[zX,simprocAttr,-Int.reduceNatCast',i64,bV,Goal.bu,iD,bD,d4,d1,d2];refine aj (aU _) (λv s' hv=>?_);obtain⟨rfl,rfl⟩:=hv;simp only[zX,simprocAttr,-Int.reduceNatCast',i64,bV,iD,bD,he,adz,ads,d4,d1,d2];refine aJ (λm e s=>∃(j:Nat),m=j/\j<=re.kids.length/\e 0=.rf 0 g0 0 0/\e 2=i64 i/\e 3=.d (bQ c)/\e 9=.rf 3 0 0 0/\e 10=.d (ft (re.kids.drop j) next).d/\e 11=i64 ((j:Int)-1)/\s=cc g0 t ai F s1++[Kr re])
  ⟨_,_,_,cU.refl,re.kids.length,rfl,by omega,rfl,rfl,rfl,rfl,?_,?_,?_⟩ ?_
 ·rw[List.drop_length];rfl
 ·simp [cB,wl,i64]
 ·unfold cc dE Kr;simp only[he];rfl
 rintro m e s ⟨j,rfl,hj,h0,h2,h3,h9,eh,fm,rfl⟩;cases m with
 |zero =>
  rw[show ((0:Nat):Int)-1=-1 from rfl]at fm;rw[List.drop_zero]at eh;have hc:=λext=>fA (ih g0 _ _ _ _ _ hr) ext;unfold fg eH cc dE at hc;simp only[Goal.bu,i64,iD,bD,bV,adr,adt]at hc;simp only[he]at hc;unfold cc dE Kr;simp only[zX,simprocAttr,-Int.reduceNatCast',i64,bV,iD,bD,adr,adt,h0,h2,h3,h9,eh,fm,ge_iff_le,he]
  (refine aj (hc _) (λv s' hv=>?_);obtain⟨rfl,rfl⟩:=hv)
  simp only[zX,simprocAttr,-Int.reduceNatCast',i64,bV,iD,bD];first|exact aV _ _|exact⟨aV _ _,rfl⟩
 |succ j =>
  rw[show ((j+1:Nat):Int)-1=j by omega]at fm;have TL:(0:Int)<=(j:Int):=by omega
  have aH:j<re.kids.length:=by omega
  have bo:(j:Int)<(re.kids.length:Int):=by omega
  obtain⟨x,hx⟩:∃x,re.kids[j]?=some x:=⟨_,adn aH⟩
  have tk:ft (re.kids.drop j) next=.mk 0 x 0 0 (ft (re.kids.drop (j+1)) next):=by rw[vp hx];rfl
  generalize ft (re.kids.drop (j+1)) next=G at *
  have w1:IntKind.i64.wrap ((j:Int)-1)=(j:Int)-1:=bM _ (by omega);unfold cc dE Kr;simp only[zX,simprocAttr,-Int.reduceNatCast',i64,bV,iD,bD,adr,adt,h0,h2,h3,h9,eh,fm,ge_iff_le,TL,aH,bo,hx,aq x,Re.ae x,w1];refine⟨j,_,_,by omega,(cU.freeze [4] [10]).trans (cU.cut (s':=cc g0 t ai F s1++[Kr re]) 4 (by omega) rfl ?_ [0,2,3,9,10,11] ?_),j,rfl,by omega,?_,?_,?_,?_,?_,?_,rfl⟩
  ·have:=Og g0 t ai F s1 4 (by omega);rw[List.all_append,this];rfl
  ·simp [iI,cB,br,ak,i64,h0,h2,h3,h9,eh,fm];rfl
  ·simpa [mc,iI,cB,br]using h0
  ·simpa [mc,iI,cB,br,i64]using h2
  ·simpa [mc,iI,cB,br]using h3
  ·simpa [mc,iI,cB,br]using h9
  ·rw[tk,Goal.bu];rfl
  ·rfl
def Xq (x1 x2:Int):VL.Obj:=⟨0,true,2,[[i64 x1,i64 x2]]⟩
theorem yY{a:Int}:dI t a i (j+1)=(dI t a i j&&(gQ t (a+j) == gQ t (i+j))):=by unfold dI;rw[List.range_succ,List.all_append];simp
theorem Px{a:Int} (hj:j<n) (h:¬gQ t (a+j)=gQ t (i+j)):dI t a i n=false:=by rw[aee];intro hs;unfold dI at hs;rw[adE]at hs;have:=hs j (List.mem_range.2 hj);simp only[beq_iff_eq]at this;exact h this
theorem TH (ih:jE t F n) (ht:t.length<=1000000) (o:re.op=6)
  (hi0:0<=i) (fD:i<=t.length) (cC:re.set.length<=1000000000) (cI:re.kids.length<=1000000000) (cZ:c.length<=1000000000) (he:s1.empty=false) (aU:eS t F g0 ai st s1)
  (hr:dw t (dO t F n) ai re next i c s1=some (b,st')) :
  au prog 75 [.rf 0 g0 0 0,.d (Goal.mk kind re k cq next).d,i64 i,.d (bQ c)] (cc g0 t ai F st) λv s=>v=bV b/\s=cc g0 t ai F st':=by
 unfold eS cc dE at aU;simp only[i64,bV,iD,adr,adt]at aU;have d4:decide (re.op=4)=false:=adl (by omega);have d1:decide (re.op=1)=false:=adl (by omega);have d2:decide (re.op=2)=false:=adl (by omega);have d3:decide (re.op=3)=false:=adl (by omega);have d5:decide (re.op=5)=false:=adl (by omega);have d6:decide (re.op=6)=true:=adu o;unfold dw at hr;rw[am (by omega),am (by omega),am (by omega),am (by omega),ap o]at hr;have du:=KU c re.n cZ;generalize bH c re.n=x at *;obtain⟨x1,x2⟩:=x;simp only[i64]at du;simp only at hr;by_cases q1:x1<0
 ·rw[ap q1]at hr;simp only[adp,ad3]at hr;obtain⟨rfl,rfl⟩:=hr;unfold cc dE;refine ar func75 rfl ntmps75 results75 rfl 3 26328072917139296674479506920917608079723773850137295405767982863 (by simp) (by simp) ?_;simp only[zX,simprocAttr,-Int.reduceNatCast',i64,bV,Goal.bu,iD,bD,d4,d1,d2,d3,d5,d6];refine aj (aU _) (λv s' hv=>?_);obtain⟨rfl,rfl⟩:=hv;simp only[zX,simprocAttr,-Int.reduceNatCast',i64,bV,iD,bD,he,adz,ads,d4,d1,d2,d3,d5,d6];refine az du rfl rfl ?_;simp only[zX,simprocAttr,-Int.reduceNatCast',i64,iD,bD];refine ao mix [] [] (by rfl) ?_;simp only[zX,simprocAttr,-Int.reduceNatCast',i64,bV,iD,bD,q1];exact⟨by decide,aV _ _⟩
 rw[am q1]at hr;by_cases q2:x2<x1\/(t.length:Int)<x2
 ·rw[ap q2]at hr;cases hr
 rw[am q2]at hr;have wa:IntKind.i64.wrap (i+x2)=i+x2:=bM _ (by omega);have wb:IntKind.i64.wrap (i+x2-x1)=i+x2-x1:=bM _ (by omega);by_cases q3:t.length<i+x2-x1
 ·rw[ap q3]at hr;simp only[adp,ad3]at hr;obtain⟨rfl,rfl⟩:=hr;unfold cc dE;refine ar func75 rfl ntmps75 results75 rfl 3 26328072917139296674479506920917608079723773850137295405767982863 (by simp) (by simp) ?_;simp only[zX,simprocAttr,-Int.reduceNatCast',i64,bV,Goal.bu,iD,bD,d4,d1,d2,d3,d5,d6];refine aj (aU _) (λv s' hv=>?_);obtain⟨rfl,rfl⟩:=hv;simp only[zX,simprocAttr,-Int.reduceNatCast',i64,bV,iD,bD,he,adz,ads,d4,d1,d2,d3,d5,d6];refine az du rfl rfl ?_;simp only[zX,simprocAttr,-Int.reduceNatCast',i64,iD,bD];refine ao mix [] [] (by rfl) ?_;simp only[zX,simprocAttr,-Int.reduceNatCast',i64,bV,iD,bD,q1,wa,wb,q3,gt_iff_lt];exact⟨by decide,by decide,by decide,aV _ _⟩
 rw[am q3]at hr;unfold cc dE;refine ar func75 rfl ntmps75 results75 rfl 3 26328072917139296674479506920917608079723773850137295405767982863 (by simp) (by simp) ?_;simp only[zX,simprocAttr,-Int.reduceNatCast',i64,bV,Goal.bu,iD,bD,d4,d1,d2,d3,d5,d6];refine aj (aU _) (λv s' hv=>?_);obtain⟨rfl,rfl⟩:=hv;simp only[zX,simprocAttr,-Int.reduceNatCast',i64,bV,iD,bD,he,adz,ads,d4,d1,d2,d3,d5,d6];refine az du rfl rfl ?_;simp only[zX,simprocAttr,-Int.reduceNatCast',i64,iD,bD];refine ao mix [] [] (by rfl) ?_;simp only[zX,simprocAttr,-Int.reduceNatCast',i64,bV,iD,bD,q1,wa,wb,q3,gt_iff_lt];refine⟨by decide,by decide,by decide,by decide,?_⟩;obtain⟨N,hN⟩:∃N:Nat,(N:Int)=x2-x1:=⟨(x2-x1).toNat,by omega⟩
 have hN':(x2-x1).toNat=N:=by omega
 rw[hN']at hr;refine aJ (λm e s=>∃(j:Nat),m=N-j/\j<=N/\e 0=.rf 0 g0 0 0/\e 1=.d (Goal.mk kind re k cq next).d/\e 2=i64 i/\e 3=.d (bQ c)/\e 13=.rf 4 0 0 0/\e 14=i64 (x1+j)/\s=cc g0 t ai F s1++[Kr re,Xq x1 x2]/\dI t x1 i j=true)
  ⟨_,_,_,cU.refl,0,rfl,by omega,rfl,?_,rfl,rfl,rfl,?_,?_,rfl⟩ ?_
 ·rw[Goal.bu];rfl
 ·simp [cB,i64]
 ·unfold cc dE Kr Xq;simp only[he];rfl
 rintro m e s ⟨j,rfl,hj,h0,h1,h2,h3,eB,e7,rfl,zS⟩;rw[Goal.bu]at h1;rcases adV j N with aH|iP
 ·have l0:x1+(j:Int)<x2:=by omega
  have l1:0<=x1+(j:Int):=by omega
  have l2:x1+(j:Int)<(t.length:Int):=by omega
  have l3:0<=i+(j:Int):=by omega
  have l4:i+(j:Int)<(t.length:Int):=by omega
  have g1:=ju l1 l2;have g2:=ju l3 l4;have wc:IntKind.i64.wrap (i+(x1+(j:Int)))=i+(x1+(j:Int)):=bM _ (by omega);have wd:IntKind.i64.wrap (i+(x1+(j:Int))-x1)=i+(j:Int):=by rw[bM _ (by omega)];omega
  have we:IntKind.i64.wrap (x1+(j:Int)+1)=x1+((j+1:Nat):Int):=by rw[bM _ (by omega)];omega
  unfold cc dE Kr Xq;simp only[zX,simprocAttr,-Int.reduceNatCast',i64,bV,iD,bD,adr,adt,h0,h1,h2,h3,eB,e7,l0];refine⟨by decide,?_⟩;refine ao mix [] [] (by rfl) ?_;by_cases hq:gQ t (x1+(j:Int))=gQ t (i+(j:Int))
  ·have dq:decide (gQ t (x1+(j:Int))=gQ t (i+(j:Int)))=true:=adu hq;simp only[zX,simprocAttr,-Int.reduceNatCast',i64,bV,iD,bD,av,h0,h1,h2,h3,eB,e7,l1,l2,l3,l4,g1,g2,wc,wd,we,dq];refine⟨by decide,N-(j+1),_,_,by omega,cU.refl,j+1,rfl,aH,?_,?_,?_,?_,?_,?_,rfl,by rw[yY,zS,hq];simp⟩ <;> (try simp only[zU,Nat.reduceBEq,Nat.reduceShiftRight,Nat.reduceMod,Nat.reduceEqDiff,reduceIte])
   ·exact h0
   ·rw[Goal.bu];exact h1
   ·exact h2
   ·exact h3
   ·exact eB
  ·have dq:decide (gQ t (x1+(j:Int))=gQ t (i+(j:Int)))=false:=adl hq;have ov:dI t x1 i N=false:=Px aH hq;rw[am (by rw[ov];decide)]at hr;simp only[adp,ad3]at hr;obtain⟨rfl,rfl⟩:=hr;simp only[zX,simprocAttr,-Int.reduceNatCast',i64,bV,iD,bD,av,h0,h1,h2,h3,eB,e7,l1,l2,l3,l4,g1,g2,wc,wd,we,dq];exact⟨by decide,aV _ _⟩
 ·have Nx:j=N:=by omega
  subst Nx;rw[ap zS]at hr;have hc:=λext=>fA (ih g0 _ _ _ _ _ hr) ext;unfold fg eH cc dE at hc;simp only[Goal.bu,i64,iD,bD,bV,adr,adt]at hc;simp only[he]at hc;have l0:¬x1+(j:Int)<x2:=by omega
  unfold cc dE Kr Xq;simp only[zX,simprocAttr,-Int.reduceNatCast',i64,bV,iD,bD,adr,adt,h0,h1,h2,h3,eB,e7,l0];refine⟨by decide,?_⟩;refine ao mix [13] [] (by rfl) ?_;simp only[zX,simprocAttr,-Int.reduceNatCast',i64,bV,iD,bD,h0,h1,h2,h3,eB,e7,wa,wb,he];refine⟨by decide,by decide,bj (hc _) ?_⟩;simp only[zX,simprocAttr,-Int.reduceNatCast',i64,bV,iD,bD];first|exact aV _ _|exact⟨aV _ _,rfl⟩
theorem UB (ih:jE t F n) (o:re.op=4)
  (hr:dO t F n ai (.rep (.mk 1 re 0 0 next) i c) st=some (b,st')) :
  au prog 75 [.rf 0 g0 0 0,.d (Goal.mk kind re k cq next).d,i64 i,.d (bQ c)] (cc g0 t ai F st) λv s=>v=bV b/\s=cc g0 t ai F st':=by
 have hc:=λext=>fA (ih g0 _ _ _ _ _ hr) ext;unfold fg eH cc dE at hc;simp only[Goal.bu,i64,iD,bD,bV,adr,adt]at hc;have d4:decide (re.op=4)=true:=adu o;unfold cc dE;refine ar func75 rfl ntmps75 results75 rfl 3 26328072917139296674479506920917608079723773850137295405767982863 (by simp) (by simp) ?_;simp only[zX,simprocAttr,-Int.reduceNatCast',i64,bV,Goal.bu,iD,bD,d4];refine aS ca.bh ?_;refine ao mix [10] [(7,[4],[4])] (by rfl) ?_;simp only[zX,simprocAttr,-Int.reduceNatCast',i64,bV,iD,bD,hole];refine bj (aY [4] (by simp [bg,bT,bf.go,bf,cE]) (hc _)) ?_;simp only[zX,simprocAttr,-Int.reduceNatCast',i64,bV,iD,bD];exact aV _ _
theorem Nu (aU:eS t F g0 ai st s1) (he:s1.empty=true) (o:re.op≠4) :
  au prog 75 [.rf 0 g0 0 0,.d (Goal.mk kind re k cq next).d,i64 i,.d (bQ c)] (cc g0 t ai F st) λv s=>v=bV true/\s=cc g0 t ai F s1:=by
 unfold eS cc dE at aU;simp only[i64,bV,iD,adr,adt]at aU;have d4:decide (re.op=4)=false:=adl o;unfold cc dE;refine ar func75 rfl ntmps75 results75 rfl 3 26328072917139296674479506920917608079723773850137295405767982863 (by simp) (by simp) ?_;simp only[zX,simprocAttr,-Int.reduceNatCast',i64,bV,Goal.bu,iD,bD,d4];refine aj (aU _) (λv s' hv=>?_);obtain⟨rfl,rfl⟩:=hv;simp only[zX,simprocAttr,-Int.reduceNatCast',i64,bV,iD,bD,he,adz,ads];exact aV _ _
theorem Kn {t:List Int} (ht:t.length<=1000000) (F:Int):∀n,jE t F n
 |0=>λ_ _ _ _ _ _ h=>by cases h
 |n+1=>λg0 ai task st b st' h=>by
  have ih:=Kn ht F n;have h:bL t F (dO t F n) ai task st=some (b,st'):=h;cases task with
  |run g i c =>
   cases g with
   |nil =>
    simp only[bL]at h;by_cases hi:i<0\/(t.length:Int)<i
    ·rw[ap hi]at h;cases h
    rw[am hi]at h;by_cases he:st.ends.length<2000000000000/\st.ah.length=st.ends.length
    ·rw[ap he]at h;simp only[adp,ad3]at h;obtain⟨rfl,rfl⟩:=h;exact QR he.1 he.2
    ·rw[am he]at h;cases h
   |mk kind re k cq next=>exact run_mk ih h
  |rep g i c =>
   simp only[bL]at h;by_cases hi:i<0\/(t.length:Int)<i
   ·rw[ap hi]at h;cases h
   rw[am hi]at h;cases g with
   |nil=>cases h
   |mk kind re k cq next =>
    by_cases hm:re.mode=2
    ·exact PK ih hm h
    ·exact M6 ih hm h
  |node g i c =>
   simp only[bL]at h;by_cases hi:i<0\/(t.length:Int)<i
   ·rw[ap hi]at h;cases h
   rw[am hi]at h;cases g with
   |nil=>cases h
   |mk kind re k cq next =>
    simp only at h;by_cases o4:re.op=4
    ·rw[ap o4]at h;exact UB ih o4 h
    rw[am o4]at h;by_cases c0:1000000000<re.set.length\/1000000000<re.kids.length\/1000000000<c.length
    ·rw[ap c0]at h;cases h
    rw[am c0]at h;by_cases c1:st.steps<0\/10000000000000<st.steps
    ·rw[ap c1]at h;cases h
    rw[am c1]at h;have aU:eS t F g0 ai st (st.step F):=λext=>F6 g0 t ai F st (by omega) (by omega) ext;by_cases he:(st.step F).empty=true
    ·rw[ap he]at h;simp only[adp,ad3]at h;obtain⟨rfl,rfl⟩:=h;exact Nu aU he o4
    ·rw[am he]at h;have he:(st.step F).empty=false:=by simpa using he
     have a1:0<=i:=by omega
     have a2:i<=t.length:=by omega
     have a3:re.set.length<=1000000000:=by omega
     have a4:re.kids.length<=1000000000:=by omega
     have a5:c.length<=1000000000:=by omega
     by_cases o1:re.op=1
     ·exact UL ih ht o1 a1 a2 a3 a4 a5 he aU h
     by_cases o2:re.op=2
     ·exact Ti ih ht o2 a1 a2 a3 a4 a5 he aU h
     by_cases o3:re.op=3
     ·exact SY ih ht o3 a1 a2 a3 a4 a5 he aU h
     by_cases o5:re.op=5
     ·exact Tz ih ht o5 a1 a2 a3 a4 a5 he aU h
     by_cases o6:re.op=6
     ·exact TH ih ht o6 a1 a2 a3 a4 a5 he aU h
     by_cases o7:re.op=7
     ·exact UA ih ht o7 a1 a2 a3 a4 a5 he aU h
     by_cases o8:re.op=8
     ·exact Ty ih ht o8 a1 a2 a3 a4 a5 he aU h
     by_cases o9:re.op=9
     ·exact Tj ih ht o9 a1 a2 a3 a4 a5 he aU h
     by_cases rF:re.op=10
     ·exact QY ih ht rF a1 a2 a3 a4 a5 he aU h
     by_cases nb:re.op=11
     ·exact Qg ih ht nb a1 a2 a3 a4 a5 he aU h
     exact Ja ih ht ⟨o1,o2,o3,o4,o5,o6,o7,o8,o9,rF,nb⟩ a1 a2 a3 a4 a5 he aU h
end Go.Proofs.Ytphfjhaffbfpfaa
