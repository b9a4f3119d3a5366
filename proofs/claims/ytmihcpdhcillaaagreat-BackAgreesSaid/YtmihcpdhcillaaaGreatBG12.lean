/- A part of the proof (G9 G10). -/
import Derived.Test.YtmihcpdhcillaaaGreatBG8
set_option linter.unusedSimpArgs false
set_option linter.unusedVariables false
set_option maxRecDepth 100000
set_option maxHeartbeats 80000000
namespace Go.Proofs.YtmihcpdhcillaaaGreat
open Go.VL Go.Proofs.Tryz
def kJ:Option ar→V
 |none=>.tu [.d (.sl []),bV false]
 |some d=>.tu [.d (bH d),bV true]
theorem Jr (r:Option ar):bF [0,1,2] (kJ r)=kJ r:=by cases r <;> rfl
theorem look_ok {t:List Int}{F:Int}{n:Nat} (ih:iM t F n) {g0:Nat}{ah:Int}{re kid:Re}{l:List Re} (hk:re.kids=kid::l) {i:Int} (hi0:0≤i) (e7:i≤1000000) {c:ar}{st st':aQ}{r:Option ar}
  (hr:fS (dA t F n) re.op kid i c st=some (r,st')) :
  av prog 83 [.rf 0 g0 0 0,lk re,i64 i,.d (bH c)] (b6 g0 t ah F st) fun v s=>v=kJ r∧s=b6 g0 t ah F st':=by
 have hk0:re.kids[0]?=some kid:=by rw[hk];rfl
 have eh:(0:Int)<(re.kids.length:Int):=by rw[hk,W3];omega
 clear hk
 have zm:Goal.nil.d=.sc (.pointer none):=rfl
 unfold fS at hr
 by_cases o7:re.op=7
 ·have d7:decide (re.op=7)=true:=decide_eq_true o7
  rw[if_pos o7]at hr
  cases hx:bJ (dA t F n) (.mk 0 kid 0 0 .nil) i c st with
  |none=>rw[hx]at hr;cases hr
  |some x =>
   obtain⟨r1,s1⟩:=x
   rw[hx]at hr
   simp only[WX,Xs]at hr
   obtain⟨rfl,rfl⟩:=hr
   have hf:=fun ext=>uO (g0:=g0) (ah:=ah) ih hx ext
   unfold b6 dE at hf
   simp only[Goal.bt,zm,i64,iD,bD,bV,WR,WS]at hf
   unfold b6 dE
   refine aw func83 rfl ntmps83 results83 rfl 3 227119 (by simp) (by simp) ?_
   simp only[zX,simprocAttr,i64,bV,ay re,ay kid,Re.ae kid,iD,bD,hk0,eh,d7]
   refine aO [4] (by simp [aM,bf,aR.go,aR,bN]) (aj (hf _) (fun v s' hv=>?_))
   obtain⟨rfl,rfl⟩:=hv
   cases r1 with
   |none =>
    simp only[zX,simprocAttr,i64,bV,iD,bD,ja]
    exact⟨aU _ _,rfl⟩
   |some p =>
    obtain⟨e,d⟩:=p
    simp only[zX,simprocAttr,i64,bV,iD,bD,ja]
    exact⟨aU _ _,rfl⟩
 ·have d7:decide (re.op=7)=false:=decide_eq_false o7
  rw[if_neg o7]at hr
  have tX:(Goal.mk 0 kid 0 0 (.mk 4 (.mk 0 [] [] 0 0 0 0 false) 0 i .nil)).d=.el [iD 0,iD kid.op,.sl (kid.set.map aT),.sl (kid.kids.map Re.cells),iD kid.mn,iD kid.mx,iD kid.mode,iD kid.n,bD kid.neg,iD 0,iD 0,
    .el [iD 4,iD 0,.sl [],.sl [],iD 0,iD 0,iD 0,iD 0,bD false,iD 0,iD i,.sc (.pointer none)]]:=by
   rw[Goal.bt,Goal.bt];rfl
  unfold b6 dE
  refine aw func83 rfl ntmps83 results83 rfl 3 227119 (by simp) (by simp) ?_
  simp only[zX,simprocAttr,i64,bV,ay re,ay kid,Re.ae kid,iD,bD,hk0,eh,d7]
  refine aX (fun m e s=>∃(k:Nat) (s1:aQ),m=k∧k≤i.toNat+1∧e 0=.rf 0 g0 0 0∧e 3=.d (bH c)∧e 10=.d (Goal.mk 0 kid 0 0 (.mk 4 (.mk 0 [] [] 0 0 0 0 false) 0 i .nil)).d∧e 14=i64 ((k:Int)-1)∧s=b6 g0 t ah F s1 ∧
    bQ (fun k st=>bJ (dA t F n) (.mk 0 kid 0 0 (.mk 4 (.mk 0 [] [] 0 0 0 0 false) 0 i .nil)) k c st) k s1=some (r,st'))
   ⟨_,_,_,(dw.freeze [4,5] [10]).trans (dw.cut 3 (by omega) rfl ?_ [0,3,10,14] ?_),i.toNat+1,st,rfl,W4 _,?_,?_,?_,?_,?_,hr⟩ ?_
  ·simp only[aM,bf,W9,Xy,Xl,Xh,List.take,List.all_cons,List.all_nil,cU]
   simp only[XT]
   rw[W7]
   exact⟨rfl,aU _ _⟩
  ·rfl
  ·rfl
  ·rfl
  ·rw[tX];rfl
  ·simp only[lR,fq,bW,List.contains_cons,List.contains_nil,Nat.reduceBEq,X7,Xj,Xq,Bool.or_true,if_true,W2,if_false,reduceIte,Nat.reduceEqDiff,i64]
   congr 3
   omega
  ·rfl
  generalize hG:Goal.mk 0 kid 0 0 (.mk 4 (.mk 0 [] [] 0 0 0 0 false) 0 i .nil)=G at *
  rintro m e s ⟨k,s1,rfl,hk,h0,h3,gu,eV,rfl,hb⟩
  cases m with
  |zero =>
   simp only[bQ,WX,Xs]at hb
   obtain⟨rfl,rfl⟩:=hb
   rw[show ((0:Nat):Int)-1=-1 from rfl]at eV
   unfold b6 dE
   simp only[zX,simprocAttr,i64,bV,iD,bD,h0,h3,gu,eV,ge_iff_le]
   exact⟨aU _ _,rfl⟩
  |succ k =>
   rw[show ((k+1:Nat):Int)-1=k by omega]at eV
   have hk0:(0:Int)≤(k:Int):=by omega
   simp only[bQ]at hb
   by_cases he:s1.empty=true
   ·rw[if_pos he]at hb
    simp only[WX,Xs]at hb
    obtain⟨rfl,rfl⟩:=hb
    unfold b6 dE
    simp only[zX,simprocAttr,i64,bV,iD,bD,h0,h3,gu,eV,ge_iff_le,hk0,he]
    exact⟨aU _ _,rfl⟩
   ·rw[if_neg he]at hb
    have he:s1.empty=false:=by simpa using he
    cases hx:bJ (dA t F n) G k c s1 with
    |none=>rw[hx]at hb;cases hb
    |some x =>
     obtain⟨r1,s2⟩:=x
     rw[hx]at hb
     have hf:=B5 (g0:=g0) (ah:=ah) ih hx
     unfold b6 dE at hf
     simp only[i64,bV,iD,he]at hf
     have w1:IntKind.i64.wrap ((k:Int)-1)=(k:Int)-1:=bU _ (by omega)
     cases r1 with
     |none =>
      unfold b6 dE
      simp only[zX,simprocAttr,i64,bV,iD,bD,h0,h3,gu,eV,ge_iff_le,hk0,he]
      refine aj hf (fun v s' hv=>?_)
      obtain⟨rfl,rfl⟩:=hv
      simp only[zX,simprocAttr,i64,bV,iD,bD,ja,h0,h3,gu,eV,w1]
      refine⟨k,_,_,by omega,dw.refl,k,s2,rfl,by omega,?_,?_,?_,?_,rfl,hb⟩ <;> (try simp only[zU,Nat.reduceBEq,Nat.reduceShiftRight,Nat.reduceMod,Nat.reduceEqDiff,reduceIte])
      ·exact h0
      ·exact h3
      ·exact gu
     |some p =>
      obtain⟨e1,d⟩:=p
      simp only[WX,Xs]at hb
      obtain⟨rfl,rfl⟩:=hb
      unfold b6 dE
      simp only[zX,simprocAttr,i64,bV,iD,bD,h0,h3,gu,eV,ge_iff_le,hk0,he]
      refine aj hf (fun v s' hv=>?_)
      obtain⟨rfl,rfl⟩:=hv
      simp only[zX,simprocAttr,i64,bV,iD,bD,ja,h0,h3,gu,eV,w1]
      exact⟨aU _ _,rfl⟩
theorem C7 {t:List Int}{F:Int}{n:Nat} (ih:iM t F n) {g0:Nat}{ah:Int}{re kid:Re}{l:List Re} (hk:re.kids=kid::l) {i:Int} (hi0:0≤i) (e7:i≤1000000) {c:ar}{st st':aQ}{r:Option ar}
  (hr:fS (dA t F n) re.op kid i c st=some (r,st')) (ext:List VL.Obj) :
  av prog 83 [.rf 0 g0 0 0,lk re,i64 i,.d (bH c)] (b6 g0 t ah F st++ext) fun v s=>v=kJ r∧s=b6 g0 t ah F st'++ext :=
 sK (look_ok ih hk hi0 e7 hr) (by simp only[WU,WV,bK];rfl) (by simp only[ao.go,HY];rfl) (Jr r) ⟨rfl,rfl⟩
def eL (t:List Int) (F:Int) (g0:Nat) (ah:Int) (st s1:aQ):Prop:=∀ext,av prog 80 [.rf 0 g0 0 0] (b6 g0 t ah F st++ext) fun v s=>v=bV (!s1.empty)∧s=b6 g0 t ah F s1++ext
theorem Fw {t:List Int}{F:Int}{n:Nat} (ih:iM t F n) (ht:t.length≤1000000) {g0:Nat}{ah:Int}{kind:Int}{re:Re}{k cT:Int}{next:Goal}{i:Int}{c:ar}{st s1 st':aQ}{b:Bool} (o:re.op≠1∧re.op≠2∧re.op≠3∧re.op≠4∧re.op≠5∧re.op≠6∧re.op≠7∧re.op≠8∧re.op≠9∧re.op≠10∧re.op≠11)
  (hi0:0≤i) (e7:i≤t.length) (cC:re.set.length≤1000000000) (cz:re.kids.length≤1000000000) (cK:c.length≤1000000000) (he:s1.empty=false) (aW:eL t F g0 ah st s1)
  (hr:cQ t (dA t F n) ah re next i c s1=some (b,st')) :
  av prog 52 [.rf 0 g0 0 0,.d (Goal.mk kind re k cT next).d,i64 i,.d (bH c)] (b6 g0 t ah F st) fun v s=>v=bV b∧s=b6 g0 t ah F st':=by
 unfold eL b6 dE at aW
 simp only[i64,bV,iD,WR,WS]at aW
 have d4:decide (re.op=4)=false:=decide_eq_false (by omega)
 have d1:decide (re.op=1)=false:=decide_eq_false (by omega)
 have d2:decide (re.op=2)=false:=decide_eq_false (by omega)
 have d3:decide (re.op=3)=false:=decide_eq_false (by omega)
 have d5:decide (re.op=5)=false:=decide_eq_false (by omega)
 have d6:decide (re.op=6)=false:=decide_eq_false (by omega)
 have d7:decide (re.op=7)=false:=decide_eq_false (by omega)
 have d8:decide (re.op=8)=false:=decide_eq_false (by omega)
 have d9:decide (re.op=9)=false:=decide_eq_false (by omega)
 have d10:decide (re.op=10)=false:=decide_eq_false (by omega)
 have d11:decide (re.op=11)=false:=decide_eq_false (by omega)
 unfold cQ at hr
 rw[if_neg (by omega),if_neg (by omega),if_neg (by omega),if_neg (by omega),if_neg (by omega),if_neg (by omega),if_neg (by omega),if_neg (by omega),if_neg (by omega)]at hr
 have hc:=fun ext=>fl (ih g0 _ _ _ _ _ hr) ext
 unfold eW eB b6 dE at hc;simp only[Goal.bt,i64,iD,bD,bV,WR,WS]at hc
 simp only[he]at hc
 unfold b6 dE
 refine aw func52 rfl ntmps52 results52 rfl 3 26328072917139296674479506920917608079723773850137295405767982863 (by simp) (by simp) ?_
 simp only[zX,simprocAttr,i64,bV,Goal.bt,iD,bD,d4,d1,d2,d3,d5,d6,d7,d8,d9,d10,d11]
 refine aj (aW _) (fun v s' hv=>?_)
 obtain⟨rfl,rfl⟩:=hv
 simp only[zX,simprocAttr,i64,bV,iD,bD,he,W0,WY,d4,d1,d2,d3,d5,d6,d7,d8,d9,d10,d11]
 (refine aj (hc _) (fun v s' hv=>?_);obtain⟨rfl,rfl⟩:=hv)
 simp only[zX,simprocAttr,i64,bV,iD,bD]
 first|exact aU _ _|exact⟨aU _ _,rfl⟩
theorem L5 {t:List Int}{F:Int}{n:Nat} (ih:iM t F n) (ht:t.length≤1000000) {g0:Nat}{ah:Int}{kind:Int}{re:Re}{k cT:Int}{next:Goal}{i:Int}{c:ar}{st s1 st':aQ}{b:Bool} (o:re.op=11)
  (hi0:0≤i) (e7:i≤t.length) (cC:re.set.length≤1000000000) (cz:re.kids.length≤1000000000) (cK:c.length≤1000000000) (he:s1.empty=false) (aW:eL t F g0 ah st s1)
  (hr:cQ t (dA t F n) ah re next i c s1=some (b,st')) :
  av prog 52 [.rf 0 g0 0 0,.d (Goal.mk kind re k cT next).d,i64 i,.d (bH c)] (b6 g0 t ah F st) fun v s=>v=bV b∧s=b6 g0 t ah F st':=by
 unfold eL b6 dE at aW
 simp only[i64,bV,iD,WR,WS]at aW
 have d4:decide (re.op=4)=false:=decide_eq_false (by omega)
 have d1:decide (re.op=1)=false:=decide_eq_false (by omega)
 have d2:decide (re.op=2)=false:=decide_eq_false (by omega)
 have d3:decide (re.op=3)=false:=decide_eq_false (by omega)
 have d5:decide (re.op=5)=false:=decide_eq_false (by omega)
 have d6:decide (re.op=6)=false:=decide_eq_false (by omega)
 have d7:decide (re.op=7)=false:=decide_eq_false (by omega)
 have d8:decide (re.op=8)=false:=decide_eq_false (by omega)
 have d9:decide (re.op=9)=false:=decide_eq_false (by omega)
 have d10:decide (re.op=10)=false:=decide_eq_false (by omega)
 have d11:decide (re.op=11)=true:=decide_eq_true o
 unfold cQ at hr
 rw[if_neg (by omega),if_neg (by omega),if_neg (by omega),if_neg (by omega),if_neg (by omega),if_neg (by omega),if_neg (by omega),if_neg (by omega),if_pos o]at hr
 have hh:=K2 re.n t i ht hi0 e7
 simp only[i64,bV]at hh
 cases hb:bO re.n t i with
 |true =>
  rw[if_pos hb]at hr
  rw[hb]at hh
  have hc:=fun ext=>fl (ih g0 _ _ _ _ _ hr) ext
  unfold eW eB b6 dE at hc;simp only[Goal.bt,i64,iD,bD,bV,WR,WS]at hc
  simp only[he]at hc
  unfold b6 dE
  refine aw func52 rfl ntmps52 results52 rfl 3 26328072917139296674479506920917608079723773850137295405767982863 (by simp) (by simp) ?_
  simp only[zX,simprocAttr,i64,bV,Goal.bt,iD,bD,d4,d1,d2,d3,d5,d6,d7,d8,d9,d10,d11]
  refine aj (aW _) (fun v s' hv=>?_)
  obtain⟨rfl,rfl⟩:=hv
  simp only[zX,simprocAttr,i64,bV,iD,bD,he,W0,WY,d4,d1,d2,d3,d5,d6,d7,d8,d9,d10,d11]
  refine aq mix [16] [] (by rfl) ?_
  simp only[zX,simprocAttr,i64,bV,iD,bD]
  refine cP hh rfl rfl ?_
  simp only[zX,simprocAttr,i64,bV,iD,bD]
  refine bu (hc _) ?_
  simp only[zX,simprocAttr,i64,bV,iD,bD]
  first|exact aU _ _|exact⟨aU _ _,rfl⟩
 |false =>
  rw[if_neg (by rw[hb];decide)]at hr
  rw[hb]at hh
  simp only[WX,Xs]at hr
  obtain⟨rfl,rfl⟩:=hr
  unfold b6 dE
  refine aw func52 rfl ntmps52 results52 rfl 3 26328072917139296674479506920917608079723773850137295405767982863 (by simp) (by simp) ?_
  simp only[zX,simprocAttr,i64,bV,Goal.bt,iD,bD,d4,d1,d2,d3,d5,d6,d7,d8,d9,d10,d11]
  refine aj (aW _) (fun v s' hv=>?_)
  obtain⟨rfl,rfl⟩:=hv
  simp only[zX,simprocAttr,i64,bV,iD,bD,he,W0,WY,d4,d1,d2,d3,d5,d6,d7,d8,d9,d10,d11]
  refine aq mix [16] [] (by rfl) ?_
  simp only[zX,simprocAttr,i64,bV,iD,bD]
  refine cP hh rfl rfl ?_
  simp only[zX,simprocAttr,i64,bV,iD,bD]
  first|exact aU _ _|exact⟨aU _ _,rfl⟩
theorem Pk {t:List Int}{F:Int}{n:Nat} (ih:iM t F n) (ht:t.length≤1000000) {g0:Nat}{ah:Int}{kind:Int}{re:Re}{k cT:Int}{next:Goal}{i:Int}{c:ar}{st s1 st':aQ}{b:Bool} (o:re.op=1)
  (hi0:0≤i) (e7:i≤t.length) (cC:re.set.length≤1000000000) (cz:re.kids.length≤1000000000) (cK:c.length≤1000000000) (he:s1.empty=false) (aW:eL t F g0 ah st s1)
  (hr:cQ t (dA t F n) ah re next i c s1=some (b,st')) :
  av prog 52 [.rf 0 g0 0 0,.d (Goal.mk kind re k cT next).d,i64 i,.d (bH c)] (b6 g0 t ah F st) fun v s=>v=bV b∧s=b6 g0 t ah F st':=by
 unfold eL b6 dE at aW
 simp only[i64,bV,iD,WR,WS]at aW
 have d4:decide (re.op=4)=false:=decide_eq_false (by omega)
 have d1:decide (re.op=1)=true:=decide_eq_true o
 unfold cQ at hr
 rw[if_pos o]at hr
 have hh:=Qt re.set (fX t i) cC
 simp only[i64,bV]at hh
 have w1:IntKind.i64.wrap (i+1)=i+1:=bU _ (by omega)
 by_cases q:i<(t.length:Int)
 ·have hg:=iA hi0 q
  cases hb:nn re.set (fX t i) with
  |true =>
   rw[if_pos ⟨q,hb⟩]at hr
   rw[hb]at hh
   have hc:=fun ext=>fl (ih g0 _ _ _ _ _ hr) ext
   unfold eW eB b6 dE at hc;simp only[Goal.bt,i64,iD,bD,bV,WR,WS]at hc
   simp only[he]at hc
   unfold b6 dE
   refine aw func52 rfl ntmps52 results52 rfl 3 26328072917139296674479506920917608079723773850137295405767982863 (by simp) (by simp) ?_
   simp only[zX,simprocAttr,i64,bV,Goal.bt,iD,bD,d4,d1]
   refine aj (aW _) (fun v s' hv=>?_)
   obtain⟨rfl,rfl⟩:=hv
   simp only[zX,simprocAttr,i64,bV,iD,bD,he,W0,WY,d4,d1]
   refine aq mix [28] [] (by rfl) ?_
   simp only[zX,simprocAttr,i64,bV,iD,bD,q,hi0,hg,aB]
   refine cP hh rfl rfl ?_
   simp only[zX,simprocAttr,i64,bV,iD,bD,w1]
   refine bu (hc _) ?_
   simp only[zX,simprocAttr,i64,bV,iD,bD]
   first|exact aU _ _|exact⟨aU _ _,rfl⟩
  |false =>
   rw[if_neg (by rw[hb];simp)]at hr
   rw[hb]at hh
   simp only[WX,Xs]at hr
   obtain⟨rfl,rfl⟩:=hr
   unfold b6 dE
   refine aw func52 rfl ntmps52 results52 rfl 3 26328072917139296674479506920917608079723773850137295405767982863 (by simp) (by simp) ?_
   simp only[zX,simprocAttr,i64,bV,Goal.bt,iD,bD,d4,d1]
   refine aj (aW _) (fun v s' hv=>?_)
   obtain⟨rfl,rfl⟩:=hv
   simp only[zX,simprocAttr,i64,bV,iD,bD,he,W0,WY,d4,d1]
   refine aq mix [28] [] (by rfl) ?_
   simp only[zX,simprocAttr,i64,bV,iD,bD,q,hi0,hg,aB]
   refine cP hh rfl rfl ?_
   simp only[zX,simprocAttr,i64,bV,iD,bD]
   first|exact aU _ _|exact⟨aU _ _,rfl⟩
 ·rw[if_neg (fun h=>q h.1)]at hr
  simp only[WX,Xs]at hr
  obtain⟨rfl,rfl⟩:=hr
  unfold b6 dE
  refine aw func52 rfl ntmps52 results52 rfl 3 26328072917139296674479506920917608079723773850137295405767982863 (by simp) (by simp) ?_
  simp only[zX,simprocAttr,i64,bV,Goal.bt,iD,bD,d4,d1]
  refine aj (aW _) (fun v s' hv=>?_)
  obtain⟨rfl,rfl⟩:=hv
  simp only[zX,simprocAttr,i64,bV,iD,bD,he,W0,WY,d4,d1]
  refine aq mix [28] [] (by rfl) ?_
  simp only[zX,simprocAttr,i64,bV,iD,bD,q,hi0,aB]
  first|exact aU _ _|exact⟨aU _ _,rfl⟩
theorem OL {t:List Int}{F:Int}{n:Nat} (ih:iM t F n) (ht:t.length≤1000000) {g0:Nat}{ah:Int}{kind:Int}{re:Re}{k cT:Int}{next:Goal}{i:Int}{c:ar}{st s1 st':aQ}{b:Bool} (o:re.op=5)
  (hi0:0≤i) (e7:i≤t.length) (cC:re.set.length≤1000000000) (cz:re.kids.length≤1000000000) (cK:c.length≤1000000000) (he:s1.empty=false) (aW:eL t F g0 ah st s1)
  (hr:cQ t (dA t F n) ah re next i c s1=some (b,st')) :
  av prog 52 [.rf 0 g0 0 0,.d (Goal.mk kind re k cT next).d,i64 i,.d (bH c)] (b6 g0 t ah F st) fun v s=>v=bV b∧s=b6 g0 t ah F st':=by
 unfold eL b6 dE at aW
 simp only[i64,bV,iD,WR,WS]at aW
 have d4:decide (re.op=4)=false:=decide_eq_false (by omega)
 have d1:decide (re.op=1)=false:=decide_eq_false (by omega)
 have d2:decide (re.op=2)=false:=decide_eq_false (by omega)
 have d3:decide (re.op=3)=false:=decide_eq_false (by omega)
 have d5:decide (re.op=5)=true:=decide_eq_true o
 unfold cQ at hr
 rw[if_neg (by omega),if_neg (by omega),if_neg (by omega),if_pos o]at hr
 cases hk:re.kids with
 |nil=>rw[hk]at hr;cases hr
 |cons kid l =>
  rw[hk]at hr
  have hk0:re.kids[0]?=some kid:=by rw[hk];rfl
  have eh:(0:Int)<(re.kids.length:Int):=by rw[hk,W3];omega
  clear hk
  simp only at hr
  have hc:=fun ext=>fl (ih g0 _ _ _ _ _ hr) ext
  unfold eW eB b6 dE at hc;simp only[Goal.bt,i64,iD,bD,bV,WR,WS]at hc
  simp only[he]at hc
  unfold b6 dE
  refine aw func52 rfl ntmps52 results52 rfl 3 26328072917139296674479506920917608079723773850137295405767982863 (by simp) (by simp) ?_
  simp only[zX,simprocAttr,i64,bV,Goal.bt,iD,bD,d4,d1,d2,d3,d5]
  refine aj (aW _) (fun v s' hv=>?_)
  obtain⟨rfl,rfl⟩:=hv
  simp only[zX,simprocAttr,i64,bV,iD,bD,he,W0,WY,d4,d1,d2,d3,d5]
  refine aH (bM.trans bM.aP bM.aP) ?_
  refine aq mix [17] [(12,[4],[4]),(14,[5],[5])] (by rfl) ?_
  simp only[zX,simprocAttr,i64,bV,iD,bD,hole,hk0,eh,ay kid,Re.ae kid]
  refine bu (aO [4,5] (by simp [aM,bf,aR.go,aR,bN]) (hc _)) ?_
  simp only[zX,simprocAttr,i64,bV,iD,bD]
  first|exact aU _ _|exact⟨aU _ _,rfl⟩
end Go.Proofs.YtmihcpdhcillaaaGreat
