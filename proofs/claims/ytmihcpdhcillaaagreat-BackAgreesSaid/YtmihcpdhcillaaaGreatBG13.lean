/- A part of the proof (G11). -/
import Derived.Test.YtmihcpdhcillaaaGreatBG12
set_option linter.unusedSimpArgs false
set_option linter.unusedVariables false
set_option maxRecDepth 100000
set_option maxHeartbeats 80000000
namespace Go.Proofs.YtmihcpdhcillaaaGreat
open Go.VL Go.Proofs.Tryz
theorem OW {t:List Int}{F:Int}{n:Nat} (ih:iM t F n) (ht:t.length≤1000000) {g0:Nat}{ah:Int}{kind:Int}{re:Re}{k cT:Int}{next:Goal}{i:Int}{c:ar}{st s1 st':aQ}{b:Bool} (o:re.op=9)
  (hi0:0≤i) (e7:i≤t.length) (cC:re.set.length≤1000000000) (cz:re.kids.length≤1000000000) (cK:c.length≤1000000000) (he:s1.empty=false) (aW:eL t F g0 ah st s1)
  (hr:cQ t (dA t F n) ah re next i c s1=some (b,st')) :
  av prog 52 [.rf 0 g0 0 0,.d (Goal.mk kind re k cT next).d,i64 i,.d (bH c)] (b6 g0 t ah F st) fun v s=>v=bV b∧s=b6 g0 t ah F st':=by
 unfold eL b6 dE at aW
 simp only[i64,bV,iD,WR,WS]at aW
 have d4:decide (re.op=4)=false:=decide_eq_false (by omega)
 have d1:decide (re.op=1)=false:=decide_eq_false (by omega)
 have d2:decide (re.op=2)=false:=decide_eq_false (by omega)
 have d3:decide (re.op=3)=false:=decide_eq_false (by omega)
 have d5:decide (re.op=5)=false:=decide_eq_false (by omega)
 have d6:decide (re.op=6)=false:=decide_eq_false (by omega)
 have d7:decide (re.op=7)=false:=decide_eq_false (by omega)
 have d8:decide (re.op=8)=false:=decide_eq_false (by omega)
 have d9:decide (re.op=9)=true:=decide_eq_true o
 unfold cQ at hr
 rw[if_neg (by omega),if_neg (by omega),if_neg (by omega),if_neg (by omega),if_neg (by omega),if_neg (by omega),if_pos o]at hr
 have zm:Goal.nil.d=.sc (.pointer none):=rfl
 cases hk:re.kids with
 |nil=>rw[hk]at hr;cases hr
 |cons kid l =>
  rw[hk]at hr
  have hk0:re.kids[0]?=some kid:=by rw[hk];rfl
  have eh:(0:Int)<(re.kids.length:Int):=by rw[hk,W3];omega
  clear hk
  simp only at hr
  cases hx:bJ (dA t F n) (.mk 0 kid 0 0 .nil) i c s1 with
  |none=>rw[hx]at hr;cases hr
  |some x =>
   obtain⟨r1,s2⟩:=x
   rw[hx]at hr
   simp only at hr
   have hf:=fun ext=>uO (g0:=g0) (ah:=ah) ih hx ext
   unfold b6 dE at hf
   simp only[Goal.bt,zm,i64,iD,bD,bV,WR,WS,he]at hf
   by_cases e2:s2.empty=true
   ·rw[if_pos e2]at hr
    simp only[WX,Xs]at hr
    obtain⟨rfl,rfl⟩:=hr
    cases r1 with
    |none =>
     unfold b6 dE
     refine aw func52 rfl ntmps52 results52 rfl 3 26328072917139296674479506920917608079723773850137295405767982863 (by simp) (by simp) ?_
     simp only[zX,simprocAttr,i64,bV,Goal.bt,iD,bD,d4,d1,d2,d3,d5,d6,d7,d8,d9]
     refine aj (aW _) (fun v s' hv=>?_)
     obtain⟨rfl,rfl⟩:=hv
     simp only[zX,simprocAttr,i64,bV,iD,bD,he,W0,WY,d4,d1,d2,d3,d5,d6,d7,d8,d9]
     simp only[zX,simprocAttr,i64,iD,bD,hk0,eh,ay kid,Re.ae kid]
     refine aO [4] (by simp [aM,bf,aR.go,aR,bN]) (aj (hf _) (fun v s' hv=>?_))
     obtain⟨rfl,rfl⟩:=hv
     simp only[zX,simprocAttr,i64,bV,iD,bD,ja,e2]
     first|exact aU _ _|exact⟨aU _ _,rfl⟩
    |some p =>
     obtain⟨e1,d⟩:=p
     unfold b6 dE
     refine aw func52 rfl ntmps52 results52 rfl 3 26328072917139296674479506920917608079723773850137295405767982863 (by simp) (by simp) ?_
     simp only[zX,simprocAttr,i64,bV,Goal.bt,iD,bD,d4,d1,d2,d3,d5,d6,d7,d8,d9]
     refine aj (aW _) (fun v s' hv=>?_)
     obtain⟨rfl,rfl⟩:=hv
     simp only[zX,simprocAttr,i64,bV,iD,bD,he,W0,WY,d4,d1,d2,d3,d5,d6,d7,d8,d9]
     simp only[zX,simprocAttr,i64,iD,bD,hk0,eh,ay kid,Re.ae kid]
     refine aO [4] (by simp [aM,bf,aR.go,aR,bN]) (aj (hf _) (fun v s' hv=>?_))
     obtain⟨rfl,rfl⟩:=hv
     simp only[zX,simprocAttr,i64,bV,iD,bD,ja,e2]
     first|exact aU _ _|exact⟨aU _ _,rfl⟩
   ·rw[if_neg e2]at hr
    have e2:s2.empty=false:=by simpa using e2
    cases r1 with
    |none =>
     simp only[WX,Xs]at hr
     obtain⟨rfl,rfl⟩:=hr
     unfold b6 dE
     refine aw func52 rfl ntmps52 results52 rfl 3 26328072917139296674479506920917608079723773850137295405767982863 (by simp) (by simp) ?_
     simp only[zX,simprocAttr,i64,bV,Goal.bt,iD,bD,d4,d1,d2,d3,d5,d6,d7,d8,d9]
     refine aj (aW _) (fun v s' hv=>?_)
     obtain⟨rfl,rfl⟩:=hv
     simp only[zX,simprocAttr,i64,bV,iD,bD,he,W0,WY,d4,d1,d2,d3,d5,d6,d7,d8,d9]
     simp only[zX,simprocAttr,i64,iD,bD,hk0,eh,ay kid,Re.ae kid]
     refine aO [4] (by simp [aM,bf,aR.go,aR,bN]) (aj (hf _) (fun v s' hv=>?_))
     obtain⟨rfl,rfl⟩:=hv
     simp only[zX,simprocAttr,i64,bV,iD,bD,ja,e2]
     first|exact aU _ _|exact⟨aU _ _,rfl⟩
    |some p =>
     obtain⟨e1,d⟩:=p
     simp only at hr
     have hc:=fun ext=>fl (ih g0 _ _ _ _ _ hr) ext
     unfold eW eB b6 dE at hc;simp only[Goal.bt,i64,iD,bD,bV,WR,WS]at hc
     simp only[e2]at hc
     unfold b6 dE
     refine aw func52 rfl ntmps52 results52 rfl 3 26328072917139296674479506920917608079723773850137295405767982863 (by simp) (by simp) ?_
     simp only[zX,simprocAttr,i64,bV,Goal.bt,iD,bD,d4,d1,d2,d3,d5,d6,d7,d8,d9]
     refine aj (aW _) (fun v s' hv=>?_)
     obtain⟨rfl,rfl⟩:=hv
     simp only[zX,simprocAttr,i64,bV,iD,bD,he,W0,WY,d4,d1,d2,d3,d5,d6,d7,d8,d9]
     simp only[zX,simprocAttr,i64,iD,bD,hk0,eh,ay kid,Re.ae kid]
     refine aO [4] (by simp [aM,bf,aR.go,aR,bN]) (aj (hf _) (fun v s' hv=>?_))
     obtain⟨rfl,rfl⟩:=hv
     simp only[zX,simprocAttr,i64,bV,iD,bD,ja,e2]
     (refine aj (hc _) (fun v s' hv=>?_);obtain⟨rfl,rfl⟩:=hv)
     simp only[zX,simprocAttr,i64,bV,iD,bD]
     first|exact aU _ _|exact⟨aU _ _,rfl⟩
theorem Oj {t:List Int}{F:Int}{n:Nat} (ih:iM t F n) (ht:t.length≤1000000) {g0:Nat}{ah:Int}{kind:Int}{re:Re}{k cT:Int}{next:Goal}{i:Int}{c:ar}{st s1 st':aQ}{b:Bool} (o:re.op=7)
  (hi0:0≤i) (e7:i≤t.length) (cC:re.set.length≤1000000000) (cz:re.kids.length≤1000000000) (cK:c.length≤1000000000) (he:s1.empty=false) (aW:eL t F g0 ah st s1)
  (hr:cQ t (dA t F n) ah re next i c s1=some (b,st')) :
  av prog 52 [.rf 0 g0 0 0,.d (Goal.mk kind re k cT next).d,i64 i,.d (bH c)] (b6 g0 t ah F st) fun v s=>v=bV b∧s=b6 g0 t ah F st':=by
 unfold eL b6 dE at aW
 simp only[i64,bV,iD,WR,WS]at aW
 have d4:decide (re.op=4)=false:=decide_eq_false (by omega)
 have d1:decide (re.op=1)=false:=decide_eq_false (by omega)
 have d2:decide (re.op=2)=false:=decide_eq_false (by omega)
 have d3:decide (re.op=3)=false:=decide_eq_false (by omega)
 have d5:decide (re.op=5)=false:=decide_eq_false (by omega)
 have d6:decide (re.op=6)=false:=decide_eq_false (by omega)
 have d7:decide (re.op=7)=true:=decide_eq_true o
 unfold cQ at hr
 rw[if_neg (by omega),if_neg (by omega),if_neg (by omega),if_neg (by omega),if_neg (by omega),if_pos (by omega)]at hr
 cases hk:re.kids with
 |nil=>rw[hk]at hr;cases hr
 |cons kid l =>
  rw[hk]at hr
  have hk0:re.kids[0]?=some kid:=by rw[hk];rfl
  have eh:(0:Int)<(re.kids.length:Int):=by rw[hk,W3];omega
  simp only at hr
  cases hx:fS (dA t F n) re.op kid i c s1 with
  |none=>rw[hx]at hr;cases hr
  |some x =>
   obtain⟨r1,s2⟩:=x
   rw[hx]at hr
   simp only at hr
   have hf:=fun ext=>C7 (g0:=g0) (ah:=ah) ih hk hi0 (by omega) hx ext
   clear hk
   unfold b6 dE at hf
   simp only[ay re,i64,iD,bD,bV,WR,WS,he]at hf
   by_cases e2:s2.empty=true
   ·rw[if_pos e2]at hr
    simp only[WX,Xs]at hr
    obtain⟨rfl,rfl⟩:=hr
    cases r1 with
    |none =>
     unfold b6 dE
     refine aw func52 rfl ntmps52 results52 rfl 3 26328072917139296674479506920917608079723773850137295405767982863 (by simp) (by simp) ?_
     simp only[zX,simprocAttr,i64,bV,Goal.bt,iD,bD,d4,d1,d2,d3,d5,d6,d7]
     refine aj (aW _) (fun v s' hv=>?_)
     obtain⟨rfl,rfl⟩:=hv
     simp only[zX,simprocAttr,i64,bV,iD,bD,he,W0,WY,d4,d1,d2,d3,d5,d6,d7]
     (refine aj (hf _) (fun v s' hv=>?_);obtain⟨rfl,rfl⟩:=hv)
     simp only[zX,simprocAttr,i64,bV,iD,bD,kJ,e2]
     first|exact aU _ _|exact⟨aU _ _,rfl⟩
    |some d =>
     unfold b6 dE
     refine aw func52 rfl ntmps52 results52 rfl 3 26328072917139296674479506920917608079723773850137295405767982863 (by simp) (by simp) ?_
     simp only[zX,simprocAttr,i64,bV,Goal.bt,iD,bD,d4,d1,d2,d3,d5,d6,d7]
     refine aj (aW _) (fun v s' hv=>?_)
     obtain⟨rfl,rfl⟩:=hv
     simp only[zX,simprocAttr,i64,bV,iD,bD,he,W0,WY,d4,d1,d2,d3,d5,d6,d7]
     (refine aj (hf _) (fun v s' hv=>?_);obtain⟨rfl,rfl⟩:=hv)
     simp only[zX,simprocAttr,i64,bV,iD,bD,kJ,e2]
     first|exact aU _ _|exact⟨aU _ _,rfl⟩
   ·rw[if_neg e2]at hr
    have e2:s2.empty=false:=by simpa using e2
    cases hn:re.neg with
    |true =>
     rw[if_pos hn]at hr
     cases r1 with
     |none =>
      simp only at hr
      have hc:=fun ext=>fl (ih g0 _ _ _ _ _ hr) ext
      unfold eW eB b6 dE at hc;simp only[Goal.bt,i64,iD,bD,bV,WR,WS]at hc
      simp only[e2]at hc
      unfold b6 dE
      refine aw func52 rfl ntmps52 results52 rfl 3 26328072917139296674479506920917608079723773850137295405767982863 (by simp) (by simp) ?_
      simp only[zX,simprocAttr,i64,bV,Goal.bt,iD,bD,d4,d1,d2,d3,d5,d6,d7]
      refine aj (aW _) (fun v s' hv=>?_)
      obtain⟨rfl,rfl⟩:=hv
      simp only[zX,simprocAttr,i64,bV,iD,bD,he,W0,WY,d4,d1,d2,d3,d5,d6,d7]
      (refine aj (hf _) (fun v s' hv=>?_);obtain⟨rfl,rfl⟩:=hv)
      simp only[zX,simprocAttr,i64,bV,iD,bD,kJ,e2,hn]
      (refine aj (hc _) (fun v s' hv=>?_);obtain⟨rfl,rfl⟩:=hv)
      simp only[zX,simprocAttr,i64,bV,iD,bD]
      first|exact aU _ _|exact⟨aU _ _,rfl⟩
     |some d =>
      simp only[WX,Xs]at hr
      obtain⟨rfl,rfl⟩:=hr
      unfold b6 dE
      refine aw func52 rfl ntmps52 results52 rfl 3 26328072917139296674479506920917608079723773850137295405767982863 (by simp) (by simp) ?_
      simp only[zX,simprocAttr,i64,bV,Goal.bt,iD,bD,d4,d1,d2,d3,d5,d6,d7]
      refine aj (aW _) (fun v s' hv=>?_)
      obtain⟨rfl,rfl⟩:=hv
      simp only[zX,simprocAttr,i64,bV,iD,bD,he,W0,WY,d4,d1,d2,d3,d5,d6,d7]
      (refine aj (hf _) (fun v s' hv=>?_);obtain⟨rfl,rfl⟩:=hv)
      simp only[zX,simprocAttr,i64,bV,iD,bD,kJ,e2,hn]
      first|exact aU _ _|exact⟨aU _ _,rfl⟩
    |false =>
     rw[if_neg (by rw[hn];decide)]at hr
     cases r1 with
     |none =>
      simp only[WX,Xs]at hr
      obtain⟨rfl,rfl⟩:=hr
      unfold b6 dE
      refine aw func52 rfl ntmps52 results52 rfl 3 26328072917139296674479506920917608079723773850137295405767982863 (by simp) (by simp) ?_
      simp only[zX,simprocAttr,i64,bV,Goal.bt,iD,bD,d4,d1,d2,d3,d5,d6,d7]
      refine aj (aW _) (fun v s' hv=>?_)
      obtain⟨rfl,rfl⟩:=hv
      simp only[zX,simprocAttr,i64,bV,iD,bD,he,W0,WY,d4,d1,d2,d3,d5,d6,d7]
      (refine aj (hf _) (fun v s' hv=>?_);obtain⟨rfl,rfl⟩:=hv)
      simp only[zX,simprocAttr,i64,bV,iD,bD,kJ,e2,hn]
      first|exact aU _ _|exact⟨aU _ _,rfl⟩
     |some d =>
      simp only at hr
      have hc:=fun ext=>fl (ih g0 _ _ _ _ _ hr) ext
      unfold eW eB b6 dE at hc;simp only[Goal.bt,i64,iD,bD,bV,WR,WS]at hc
      simp only[e2]at hc
      unfold b6 dE
      refine aw func52 rfl ntmps52 results52 rfl 3 26328072917139296674479506920917608079723773850137295405767982863 (by simp) (by simp) ?_
      simp only[zX,simprocAttr,i64,bV,Goal.bt,iD,bD,d4,d1,d2,d3,d5,d6,d7]
      refine aj (aW _) (fun v s' hv=>?_)
      obtain⟨rfl,rfl⟩:=hv
      simp only[zX,simprocAttr,i64,bV,iD,bD,he,W0,WY,d4,d1,d2,d3,d5,d6,d7]
      (refine aj (hf _) (fun v s' hv=>?_);obtain⟨rfl,rfl⟩:=hv)
      simp only[zX,simprocAttr,i64,bV,iD,bD,kJ,e2,hn]
      (refine aj (hc _) (fun v s' hv=>?_);obtain⟨rfl,rfl⟩:=hv)
      simp only[zX,simprocAttr,i64,bV,iD,bD]
      first|exact aU _ _|exact⟨aU _ _,rfl⟩
theorem O5 {t:List Int}{F:Int}{n:Nat} (ih:iM t F n) (ht:t.length≤1000000) {g0:Nat}{ah:Int}{kind:Int}{re:Re}{k cT:Int}{next:Goal}{i:Int}{c:ar}{st s1 st':aQ}{b:Bool} (o:re.op=8)
  (hi0:0≤i) (e7:i≤t.length) (cC:re.set.length≤1000000000) (cz:re.kids.length≤1000000000) (cK:c.length≤1000000000) (he:s1.empty=false) (aW:eL t F g0 ah st s1)
  (hr:cQ t (dA t F n) ah re next i c s1=some (b,st')) :
  av prog 52 [.rf 0 g0 0 0,.d (Goal.mk kind re k cT next).d,i64 i,.d (bH c)] (b6 g0 t ah F st) fun v s=>v=bV b∧s=b6 g0 t ah F st':=by
 unfold eL b6 dE at aW
 simp only[i64,bV,iD,WR,WS]at aW
 have d4:decide (re.op=4)=false:=decide_eq_false (by omega)
 have d1:decide (re.op=1)=false:=decide_eq_false (by omega)
 have d2:decide (re.op=2)=false:=decide_eq_false (by omega)
 have d3:decide (re.op=3)=false:=decide_eq_false (by omega)
 have d5:decide (re.op=5)=false:=decide_eq_false (by omega)
 have d6:decide (re.op=6)=false:=decide_eq_false (by omega)
 have d7:decide (re.op=7)=false:=decide_eq_false (by omega)
 have d8:decide (re.op=8)=true:=decide_eq_true o
 unfold cQ at hr
 rw[if_neg (by omega),if_neg (by omega),if_neg (by omega),if_neg (by omega),if_neg (by omega),if_pos (by omega)]at hr
 cases hk:re.kids with
 |nil=>rw[hk]at hr;cases hr
 |cons kid l =>
  rw[hk]at hr
  have hk0:re.kids[0]?=some kid:=by rw[hk];rfl
  have eh:(0:Int)<(re.kids.length:Int):=by rw[hk,W3];omega
  simp only at hr
  cases hx:fS (dA t F n) re.op kid i c s1 with
  |none=>rw[hx]at hr;cases hr
  |some x =>
   obtain⟨r1,s2⟩:=x
   rw[hx]at hr
   simp only at hr
   have hf:=fun ext=>C7 (g0:=g0) (ah:=ah) ih hk hi0 (by omega) hx ext
   clear hk
   unfold b6 dE at hf
   simp only[ay re,i64,iD,bD,bV,WR,WS,he]at hf
   by_cases e2:s2.empty=true
   ·rw[if_pos e2]at hr
    simp only[WX,Xs]at hr
    obtain⟨rfl,rfl⟩:=hr
    cases r1 with
    |none =>
     unfold b6 dE
     refine aw func52 rfl ntmps52 results52 rfl 3 26328072917139296674479506920917608079723773850137295405767982863 (by simp) (by simp) ?_
     simp only[zX,simprocAttr,i64,bV,Goal.bt,iD,bD,d4,d1,d2,d3,d5,d6,d7,d8]
     refine aj (aW _) (fun v s' hv=>?_)
     obtain⟨rfl,rfl⟩:=hv
     simp only[zX,simprocAttr,i64,bV,iD,bD,he,W0,WY,d4,d1,d2,d3,d5,d6,d7,d8]
     (refine aj (hf _) (fun v s' hv=>?_);obtain⟨rfl,rfl⟩:=hv)
     simp only[zX,simprocAttr,i64,bV,iD,bD,kJ,e2]
     first|exact aU _ _|exact⟨aU _ _,rfl⟩
    |some d =>
     unfold b6 dE
     refine aw func52 rfl ntmps52 results52 rfl 3 26328072917139296674479506920917608079723773850137295405767982863 (by simp) (by simp) ?_
     simp only[zX,simprocAttr,i64,bV,Goal.bt,iD,bD,d4,d1,d2,d3,d5,d6,d7,d8]
     refine aj (aW _) (fun v s' hv=>?_)
     obtain⟨rfl,rfl⟩:=hv
     simp only[zX,simprocAttr,i64,bV,iD,bD,he,W0,WY,d4,d1,d2,d3,d5,d6,d7,d8]
     (refine aj (hf _) (fun v s' hv=>?_);obtain⟨rfl,rfl⟩:=hv)
     simp only[zX,simprocAttr,i64,bV,iD,bD,kJ,e2]
     first|exact aU _ _|exact⟨aU _ _,rfl⟩
   ·rw[if_neg e2]at hr
    have e2:s2.empty=false:=by simpa using e2
    cases hn:re.neg with
    |true =>
     rw[if_pos hn]at hr
     cases r1 with
     |none =>
      simp only at hr
      have hc:=fun ext=>fl (ih g0 _ _ _ _ _ hr) ext
      unfold eW eB b6 dE at hc;simp only[Goal.bt,i64,iD,bD,bV,WR,WS]at hc
      simp only[e2]at hc
      unfold b6 dE
      refine aw func52 rfl ntmps52 results52 rfl 3 26328072917139296674479506920917608079723773850137295405767982863 (by simp) (by simp) ?_
      simp only[zX,simprocAttr,i64,bV,Goal.bt,iD,bD,d4,d1,d2,d3,d5,d6,d7,d8]
      refine aj (aW _) (fun v s' hv=>?_)
      obtain⟨rfl,rfl⟩:=hv
      simp only[zX,simprocAttr,i64,bV,iD,bD,he,W0,WY,d4,d1,d2,d3,d5,d6,d7,d8]
      (refine aj (hf _) (fun v s' hv=>?_);obtain⟨rfl,rfl⟩:=hv)
      simp only[zX,simprocAttr,i64,bV,iD,bD,kJ,e2,hn]
      (refine aj (hc _) (fun v s' hv=>?_);obtain⟨rfl,rfl⟩:=hv)
      simp only[zX,simprocAttr,i64,bV,iD,bD]
      first|exact aU _ _|exact⟨aU _ _,rfl⟩
     |some d =>
      simp only[WX,Xs]at hr
      obtain⟨rfl,rfl⟩:=hr
      unfold b6 dE
      refine aw func52 rfl ntmps52 results52 rfl 3 26328072917139296674479506920917608079723773850137295405767982863 (by simp) (by simp) ?_
      simp only[zX,simprocAttr,i64,bV,Goal.bt,iD,bD,d4,d1,d2,d3,d5,d6,d7,d8]
      refine aj (aW _) (fun v s' hv=>?_)
      obtain⟨rfl,rfl⟩:=hv
      simp only[zX,simprocAttr,i64,bV,iD,bD,he,W0,WY,d4,d1,d2,d3,d5,d6,d7,d8]
      (refine aj (hf _) (fun v s' hv=>?_);obtain⟨rfl,rfl⟩:=hv)
      simp only[zX,simprocAttr,i64,bV,iD,bD,kJ,e2,hn]
      first|exact aU _ _|exact⟨aU _ _,rfl⟩
    |false =>
     rw[if_neg (by rw[hn];decide)]at hr
     cases r1 with
     |none =>
      simp only[WX,Xs]at hr
      obtain⟨rfl,rfl⟩:=hr
      unfold b6 dE
      refine aw func52 rfl ntmps52 results52 rfl 3 26328072917139296674479506920917608079723773850137295405767982863 (by simp) (by simp) ?_
      simp only[zX,simprocAttr,i64,bV,Goal.bt,iD,bD,d4,d1,d2,d3,d5,d6,d7,d8]
      refine aj (aW _) (fun v s' hv=>?_)
      obtain⟨rfl,rfl⟩:=hv
      simp only[zX,simprocAttr,i64,bV,iD,bD,he,W0,WY,d4,d1,d2,d3,d5,d6,d7,d8]
      (refine aj (hf _) (fun v s' hv=>?_);obtain⟨rfl,rfl⟩:=hv)
      simp only[zX,simprocAttr,i64,bV,iD,bD,kJ,e2,hn]
      first|exact aU _ _|exact⟨aU _ _,rfl⟩
     |some d =>
      simp only at hr
      have hc:=fun ext=>fl (ih g0 _ _ _ _ _ hr) ext
      unfold eW eB b6 dE at hc;simp only[Goal.bt,i64,iD,bD,bV,WR,WS]at hc
      simp only[e2]at hc
      unfold b6 dE
      refine aw func52 rfl ntmps52 results52 rfl 3 26328072917139296674479506920917608079723773850137295405767982863 (by simp) (by simp) ?_
      simp only[zX,simprocAttr,i64,bV,Goal.bt,iD,bD,d4,d1,d2,d3,d5,d6,d7,d8]
      refine aj (aW _) (fun v s' hv=>?_)
      obtain⟨rfl,rfl⟩:=hv
      simp only[zX,simprocAttr,i64,bV,iD,bD,he,W0,WY,d4,d1,d2,d3,d5,d6,d7,d8]
      (refine aj (hf _) (fun v s' hv=>?_);obtain⟨rfl,rfl⟩:=hv)
      simp only[zX,simprocAttr,i64,bV,iD,bD,kJ,e2,hn]
      (refine aj (hc _) (fun v s' hv=>?_);obtain⟨rfl,rfl⟩:=hv)
      simp only[zX,simprocAttr,i64,bV,iD,bD]
      first|exact aU _ _|exact⟨aU _ _,rfl⟩
end Go.Proofs.YtmihcpdhcillaaaGreat
