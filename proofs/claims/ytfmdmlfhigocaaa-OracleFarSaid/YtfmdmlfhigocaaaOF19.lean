/- A part of the proof (G9 G10). -/
import Derived.Test.YtfmdmlfhigocaaaOF17
set_option linter.unusedSimpArgs false
set_option linter.unusedVariables false
set_option maxRecDepth 100000
set_option maxHeartbeats 80000000
namespace Go.Proofs.Ytfmdmlfhigocaaa
open Go.VL Go.Proofs.Try
def kZ:Option aE->V
 |none=>.tu [.d (.sl []),bV false]
 |some d=>.tu [.d (cy d),bV true]
theorem Ls (r:Option aE):aJ [0,1,2] (kZ r)=kZ r:=by cases r <;> rfl
theorem look_ok {t:List Int}{F:Int}{n:Nat} (ih:ja t F n) {g0:Nat}{most:Int}{re kid:Re}{l:List Re} (hk:re.kids=kid::l) {i:Int} (hi0:0<=i) (mE:i<=1000000) {c:aE}{st st':bq}{r:Option aE}
  (hr:oZ (fG t F n) re.op kid i c st=some (r,st')) :
  aq prog 104 [.rf 0 g0 0 0,jW re,i64 i,.d (cy c)] (bF g0 t most F st) fun v s=>v=kZ r/\s=bF g0 t most F st':=by
 have nT:re.kids[0]?=some kid:=by rw[hk];rfl
 have ph:(0:Int)<(re.kids.length:Int):=by rw[hk,List.length_cons];omega
 clear hk
 have G0:Goal.nil.d=.sc (.pointer none):=rfl
 unfold oZ at hr
 by_cases o7:re.op=7
 ·have d7:decide (re.op=7)=true:=decide_eq_true o7
  rw[if_pos o7]at hr
  cases hx:ff (fG t F n) (.mk 0 kid 0 0 .nil) i c st with
  |none=>rw[hx]at hr;cases hr
  |some x =>
   obtain⟨r1,s1⟩:=x
   rw[hx]at hr
   simp only[Option.some.injEq,Prod.mk.injEq]at hr
   obtain⟨rfl,rfl⟩:=hr
   have hf:=fun ext=>wh (g0:=g0) (most:=most) ih hx ext
   unfold bF cW at hf
   simp only[Goal.bN,G0,i64,iD,bD,bV,List.cons_append,List.nil_append]at hf
   unfold bF cW
   refine an func104 rfl ntmps104 results104 rfl 3 227119 (by simp) (by simp) ?_
   simp only[zX,simprocAttr,i64,bV,aj re,aj kid,Re.ae kid,iD,bD,nT,ph,d7]
   refine bA [4] (by simp [ca,bS,bh.go,bh,cA]) (ak (hf _) (fun v s' hv=>?_))
   obtain⟨rfl,rfl⟩:=hv
   cases r1 with
   |none =>
    simp only[zX,simprocAttr,i64,bV,iD,bD,jz]
    exact⟨aI _ _,rfl⟩
   |some p =>
    obtain⟨e,d⟩:=p
    simp only[zX,simprocAttr,i64,bV,iD,bD,jz]
    exact⟨aI _ _,rfl⟩
 ·have d7:decide (re.op=7)=false:=decide_eq_false o7
  rw[if_neg o7]at hr
  have Mz:(Goal.mk 0 kid 0 0 (.mk 4 (.mk 0 [] [] 0 0 0 0 false) 0 i .nil)).d=.el [iD 0,iD kid.op,.sl (kid.set.map aV),.sl (kid.kids.map Re.cells),iD kid.mn,iD kid.mx,iD kid.mode,iD kid.n,bD kid.neg,iD 0,iD 0,
    .el [iD 4,iD 0,.sl [],.sl [],iD 0,iD 0,iD 0,iD 0,bD false,iD 0,iD i,.sc (.pointer none)]]:=by
   rw[Goal.bN,Goal.bN];rfl
  unfold bF cW
  refine an func104 rfl ntmps104 results104 rfl 3 227119 (by simp) (by simp) ?_
  simp only[zX,simprocAttr,i64,bV,aj re,aj kid,Re.ae kid,iD,bD,nT,ph,d7]
  refine ay (fun m e s=>∃(k:Nat) (s1:bq),m=k/\k<=i.toNat+1/\e 0=.rf 0 g0 0 0/\e 3=.d (cy c)/\e 10=.d (Goal.mk 0 kid 0 0 (.mk 4 (.mk 0 [] [] 0 0 0 0 false) 0 i .nil)).d/\e 14=i64 ((k:Int)-1)/\s=bF g0 t most F s1 /\
    iH (fun k st=>ff (fG t F n) (.mk 0 kid 0 0 (.mk 4 (.mk 0 [] [] 0 0 0 0 false) 0 i .nil)) k c st) k s1=some (r,st'))
   ⟨_,_,_,(bI.freeze [4,5] [10]).trans (bI.cut 3 (by omega) rfl ?_ [0,3,10,14] ?_),i.toNat+1,st,rfl,Nat.le_refl _,?_,?_,?_,?_,?_,hr⟩ ?_
  ·simp only[ca,bS,List.getElem?_cons_zero,List.getElem?_cons_succ,List.set_cons_succ,List.set_cons_zero,List.take,List.all_cons,List.all_nil,aQ]
   simp only[Bool.and_true]
   rw[Bool.and_eq_true]
   exact⟨rfl,aI _ _⟩
  ·rfl
  ·rfl
  ·rfl
  ·rw[Mz];rfl
  ·simp only[mJ,lp,bB,List.contains_cons,List.contains_nil,Nat.reduceBEq,Bool.or_false,Bool.false_or,Bool.true_or,Bool.or_true,if_true,Bool.false_eq_true,if_false,reduceIte,Nat.reduceEqDiff,i64]
   congr 3
   omega
  ·rfl
  generalize hG:Goal.mk 0 kid 0 0 (.mk 4 (.mk 0 [] [] 0 0 0 0 false) 0 i .nil)=G at *
  rintro m e s ⟨k,s1,rfl,hk,h0,h3,dC,fQ,rfl,hb⟩
  cases m with
  |zero =>
   simp only[iH,Option.some.injEq,Prod.mk.injEq]at hb
   obtain⟨rfl,rfl⟩:=hb
   rw[show ((0:Nat):Int)-1=-1 from rfl]at fQ
   unfold bF cW
   simp only[zX,simprocAttr,i64,bV,iD,bD,h0,h3,dC,fQ,ge_iff_le]
   exact⟨aI _ _,rfl⟩
  |succ k =>
   rw[show ((k+1:Nat):Int)-1=k by omega]at fQ
   have nT:(0:Int)<=(k:Int):=by omega
   simp only[iH]at hb
   by_cases he:s1.empty=true
   ·rw[if_pos he]at hb
    simp only[Option.some.injEq,Prod.mk.injEq]at hb
    obtain⟨rfl,rfl⟩:=hb
    unfold bF cW
    simp only[zX,simprocAttr,i64,bV,iD,bD,h0,h3,dC,fQ,ge_iff_le,nT,he]
    exact⟨aI _ _,rfl⟩
   ·rw[if_neg he]at hb
    have he:s1.empty=false:=by simpa using he
    cases hx:ff (fG t F n) G k c s1 with
    |none=>rw[hx]at hb;cases hb
    |some x =>
     obtain⟨r1,s2⟩:=x
     rw[hx]at hb
     have hf:=DU (g0:=g0) (most:=most) ih hx
     unfold bF cW at hf
     simp only[i64,bV,iD,he]at hf
     have w1:IntKind.i64.wrap ((k:Int)-1)=(k:Int)-1:=br _ (by omega)
     cases r1 with
     |none =>
      unfold bF cW
      simp only[zX,simprocAttr,i64,bV,iD,bD,h0,h3,dC,fQ,ge_iff_le,nT,he]
      refine ak hf (fun v s' hv=>?_)
      obtain⟨rfl,rfl⟩:=hv
      simp only[zX,simprocAttr,i64,bV,iD,bD,jz,h0,h3,dC,fQ,w1]
      refine⟨k,_,_,by omega,bI.refl,k,s2,rfl,by omega,?_,?_,?_,?_,rfl,hb⟩ <;> (try simp only[zU,Nat.reduceBEq,Nat.reduceShiftRight,Nat.reduceMod,Nat.reduceEqDiff,reduceIte])
      ·exact h0
      ·exact h3
      ·exact dC
     |some p =>
      obtain⟨e1,d⟩:=p
      simp only[Option.some.injEq,Prod.mk.injEq]at hb
      obtain⟨rfl,rfl⟩:=hb
      unfold bF cW
      simp only[zX,simprocAttr,i64,bV,iD,bD,h0,h3,dC,fQ,ge_iff_le,nT,he]
      refine ak hf (fun v s' hv=>?_)
      obtain⟨rfl,rfl⟩:=hv
      simp only[zX,simprocAttr,i64,bV,iD,bD,jz,h0,h3,dC,fQ,w1]
      exact⟨aI _ _,rfl⟩
theorem Fi {t:List Int}{F:Int}{n:Nat} (ih:ja t F n) {g0:Nat}{most:Int}{re kid:Re}{l:List Re} (hk:re.kids=kid::l) {i:Int} (hi0:0<=i) (mE:i<=1000000) {c:aE}{st st':bq}{r:Option aE}
  (hr:oZ (fG t F n) re.op kid i c st=some (r,st')) (ext:List VL.Obj) :
  aq prog 104 [.rf 0 g0 0 0,jW re,i64 i,.d (cy c)] (bF g0 t most F st++ext) fun v s=>v=kZ r/\s=bF g0 t most F st'++ext :=
 uS (look_ok ih hk hi0 mE hr) (by simp only[List.map_cons,List.map_nil,bj];rfl) (by simp only[ah.go,Io];rfl) (Ls r) ⟨rfl,rfl⟩
def dY (t:List Int) (F:Int) (g0:Nat) (most:Int) (st s1:bq):Prop:=∀ext,aq prog 101 [.rf 0 g0 0 0] (bF g0 t most F st++ext) fun v s=>v=bV (!s1.empty)/\s=bF g0 t most F s1++ext
theorem GI {t:List Int}{F:Int}{n:Nat} (ih:ja t F n) (ht:t.length<=1000000) {g0:Nat}{most:Int}{kind:Int}{re:Re}{k eA:Int}{next:Goal}{i:Int}{c:aE}{st s1 st':bq}{b:Bool} (o:re.op≠1/\re.op≠2/\re.op≠3/\re.op≠4/\re.op≠5/\re.op≠6/\re.op≠7/\re.op≠8/\re.op≠9/\re.op≠10/\re.op≠11)
  (hi0:0<=i) (mE:i<=t.length) (eO:re.set.length<=1000000000) (rX:re.kids.length<=1000000000) (iJ:c.length<=1000000000) (he:s1.empty=false) (ct:dY t F g0 most st s1)
  (hr:eE t (fG t F n) most re next i c s1=some (b,st')) :
  aq prog 82 [.rf 0 g0 0 0,.d (Goal.mk kind re k eA next).d,i64 i,.d (cy c)] (bF g0 t most F st) fun v s=>v=bV b/\s=bF g0 t most F st':=by
 unfold dY bF cW at ct
 simp only[i64,bV,iD,List.cons_append,List.nil_append]at ct
 have d4:decide (re.op=4)=false:=decide_eq_false (by omega)
 have d1:decide (re.op=1)=false:=decide_eq_false (by omega)
 have d2:decide (re.op=2)=false:=decide_eq_false (by omega)
 have d3:decide (re.op=3)=false:=decide_eq_false (by omega)
 have d5:decide (re.op=5)=false:=decide_eq_false (by omega)
 have d6:decide (re.op=6)=false:=decide_eq_false (by omega)
 have d7:decide (re.op=7)=false:=decide_eq_false (by omega)
 have d8:decide (re.op=8)=false:=decide_eq_false (by omega)
 have d9:decide (re.op=9)=false:=decide_eq_false (by omega)
 have d10:decide (re.op=10)=false:=decide_eq_false (by omega)
 have d11:decide (re.op=11)=false:=decide_eq_false (by omega)
 unfold eE at hr
 rw[if_neg (by omega),if_neg (by omega),if_neg (by omega),if_neg (by omega),if_neg (by omega),if_neg (by omega),if_neg (by omega),if_neg (by omega),if_neg (by omega)]at hr
 have hc:=fun ext=>eG (ih g0 _ _ _ _ _ hr) ext
 unfold ey dL bF cW at hc;simp only[Goal.bN,i64,iD,bD,bV,List.cons_append,List.nil_append]at hc
 simp only[he]at hc
 unfold bF cW
 refine an func82 rfl ntmps82 results82 rfl 3 26328072917139296674479506920917608079723773850137295405767982863 (by simp) (by simp) ?_
 simp only[zX,simprocAttr,i64,bV,Goal.bN,iD,bD,d4,d1,d2,d3,d5,d6,d7,d8,d9,d10,d11]
 refine ak (ct _) (fun v s' hv=>?_)
 obtain⟨rfl,rfl⟩:=hv
 simp only[zX,simprocAttr,i64,bV,iD,bD,he,Bool.not_false,Bool.not_true,d4,d1,d2,d3,d5,d6,d7,d8,d9,d10,d11]
 (refine ak (hc _) (fun v s' hv=>?_);obtain⟨rfl,rfl⟩:=hv)
 simp only[zX,simprocAttr,i64,bV,iD,bD]
 first|exact aI _ _|exact⟨aI _ _,rfl⟩
theorem NS {t:List Int}{F:Int}{n:Nat} (ih:ja t F n) (ht:t.length<=1000000) {g0:Nat}{most:Int}{kind:Int}{re:Re}{k eA:Int}{next:Goal}{i:Int}{c:aE}{st s1 st':bq}{b:Bool} (o:re.op=11)
  (hi0:0<=i) (mE:i<=t.length) (eO:re.set.length<=1000000000) (rX:re.kids.length<=1000000000) (iJ:c.length<=1000000000) (he:s1.empty=false) (ct:dY t F g0 most st s1)
  (hr:eE t (fG t F n) most re next i c s1=some (b,st')) :
  aq prog 82 [.rf 0 g0 0 0,.d (Goal.mk kind re k eA next).d,i64 i,.d (cy c)] (bF g0 t most F st) fun v s=>v=bV b/\s=bF g0 t most F st':=by
 unfold dY bF cW at ct
 simp only[i64,bV,iD,List.cons_append,List.nil_append]at ct
 have d4:decide (re.op=4)=false:=decide_eq_false (by omega)
 have d1:decide (re.op=1)=false:=decide_eq_false (by omega)
 have d2:decide (re.op=2)=false:=decide_eq_false (by omega)
 have d3:decide (re.op=3)=false:=decide_eq_false (by omega)
 have d5:decide (re.op=5)=false:=decide_eq_false (by omega)
 have d6:decide (re.op=6)=false:=decide_eq_false (by omega)
 have d7:decide (re.op=7)=false:=decide_eq_false (by omega)
 have d8:decide (re.op=8)=false:=decide_eq_false (by omega)
 have d9:decide (re.op=9)=false:=decide_eq_false (by omega)
 have d10:decide (re.op=10)=false:=decide_eq_false (by omega)
 have d11:decide (re.op=11)=true:=decide_eq_true o
 unfold eE at hr
 rw[if_neg (by omega),if_neg (by omega),if_neg (by omega),if_neg (by omega),if_neg (by omega),if_neg (by omega),if_neg (by omega),if_neg (by omega),if_pos o]at hr
 have hh:=KV re.n t i ht hi0 mE
 simp only[i64,bV]at hh
 cases hb:bP re.n t i with
 |true =>
  rw[if_pos hb]at hr
  rw[hb]at hh
  have hc:=fun ext=>eG (ih g0 _ _ _ _ _ hr) ext
  unfold ey dL bF cW at hc;simp only[Goal.bN,i64,iD,bD,bV,List.cons_append,List.nil_append]at hc
  simp only[he]at hc
  unfold bF cW
  refine an func82 rfl ntmps82 results82 rfl 3 26328072917139296674479506920917608079723773850137295405767982863 (by simp) (by simp) ?_
  simp only[zX,simprocAttr,i64,bV,Goal.bN,iD,bD,d4,d1,d2,d3,d5,d6,d7,d8,d9,d10,d11]
  refine ak (ct _) (fun v s' hv=>?_)
  obtain⟨rfl,rfl⟩:=hv
  simp only[zX,simprocAttr,i64,bV,iD,bD,he,Bool.not_false,Bool.not_true,d4,d1,d2,d3,d5,d6,d7,d8,d9,d10,d11]
  refine ar mix [16] [] (by rfl) ?_
  simp only[zX,simprocAttr,i64,bV,iD,bD]
  refine fg hh rfl rfl ?_
  simp only[zX,simprocAttr,i64,bV,iD,bD]
  refine eh (hc _) ?_
  simp only[zX,simprocAttr,i64,bV,iD,bD]
  first|exact aI _ _|exact⟨aI _ _,rfl⟩
 |false =>
  rw[if_neg (by rw[hb];decide)]at hr
  rw[hb]at hh
  simp only[Option.some.injEq,Prod.mk.injEq]at hr
  obtain⟨rfl,rfl⟩:=hr
  unfold bF cW
  refine an func82 rfl ntmps82 results82 rfl 3 26328072917139296674479506920917608079723773850137295405767982863 (by simp) (by simp) ?_
  simp only[zX,simprocAttr,i64,bV,Goal.bN,iD,bD,d4,d1,d2,d3,d5,d6,d7,d8,d9,d10,d11]
  refine ak (ct _) (fun v s' hv=>?_)
  obtain⟨rfl,rfl⟩:=hv
  simp only[zX,simprocAttr,i64,bV,iD,bD,he,Bool.not_false,Bool.not_true,d4,d1,d2,d3,d5,d6,d7,d8,d9,d10,d11]
  refine ar mix [16] [] (by rfl) ?_
  simp only[zX,simprocAttr,i64,bV,iD,bD]
  refine fg hh rfl rfl ?_
  simp only[zX,simprocAttr,i64,bV,iD,bD]
  first|exact aI _ _|exact⟨aI _ _,rfl⟩
theorem Qe {t:List Int}{F:Int}{n:Nat} (ih:ja t F n) (ht:t.length<=1000000) {g0:Nat}{most:Int}{kind:Int}{re:Re}{k eA:Int}{next:Goal}{i:Int}{c:aE}{st s1 st':bq}{b:Bool} (o:re.op=1)
  (hi0:0<=i) (mE:i<=t.length) (eO:re.set.length<=1000000000) (rX:re.kids.length<=1000000000) (iJ:c.length<=1000000000) (he:s1.empty=false) (ct:dY t F g0 most st s1)
  (hr:eE t (fG t F n) most re next i c s1=some (b,st')) :
  aq prog 82 [.rf 0 g0 0 0,.d (Goal.mk kind re k eA next).d,i64 i,.d (cy c)] (bF g0 t most F st) fun v s=>v=bV b/\s=bF g0 t most F st':=by
 unfold dY bF cW at ct
 simp only[i64,bV,iD,List.cons_append,List.nil_append]at ct
 have d4:decide (re.op=4)=false:=decide_eq_false (by omega)
 have d1:decide (re.op=1)=true:=decide_eq_true o
 unfold eE at hr
 rw[if_pos o]at hr
 have hh:=R5 re.set (kW t i) eO
 simp only[i64,bV]at hh
 have w1:IntKind.i64.wrap (i+1)=i+1:=br _ (by omega)
 by_cases q:i<(t.length:Int)
 ·have hg:=lF hi0 q
  cases hb:Ba re.set (kW t i) with
  |true =>
   rw[if_pos ⟨q,hb⟩]at hr
   rw[hb]at hh
   have hc:=fun ext=>eG (ih g0 _ _ _ _ _ hr) ext
   unfold ey dL bF cW at hc;simp only[Goal.bN,i64,iD,bD,bV,List.cons_append,List.nil_append]at hc
   simp only[he]at hc
   unfold bF cW
   refine an func82 rfl ntmps82 results82 rfl 3 26328072917139296674479506920917608079723773850137295405767982863 (by simp) (by simp) ?_
   simp only[zX,simprocAttr,i64,bV,Goal.bN,iD,bD,d4,d1]
   refine ak (ct _) (fun v s' hv=>?_)
   obtain⟨rfl,rfl⟩:=hv
   simp only[zX,simprocAttr,i64,bV,iD,bD,he,Bool.not_false,Bool.not_true,d4,d1]
   refine ar mix [28] [] (by rfl) ?_
   simp only[zX,simprocAttr,i64,bV,iD,bD,q,hi0,hg,ao]
   refine fg hh rfl rfl ?_
   simp only[zX,simprocAttr,i64,bV,iD,bD,w1]
   refine eh (hc _) ?_
   simp only[zX,simprocAttr,i64,bV,iD,bD]
   first|exact aI _ _|exact⟨aI _ _,rfl⟩
  |false =>
   rw[if_neg (by rw[hb];simp)]at hr
   rw[hb]at hh
   simp only[Option.some.injEq,Prod.mk.injEq]at hr
   obtain⟨rfl,rfl⟩:=hr
   unfold bF cW
   refine an func82 rfl ntmps82 results82 rfl 3 26328072917139296674479506920917608079723773850137295405767982863 (by simp) (by simp) ?_
   simp only[zX,simprocAttr,i64,bV,Goal.bN,iD,bD,d4,d1]
   refine ak (ct _) (fun v s' hv=>?_)
   obtain⟨rfl,rfl⟩:=hv
   simp only[zX,simprocAttr,i64,bV,iD,bD,he,Bool.not_false,Bool.not_true,d4,d1]
   refine ar mix [28] [] (by rfl) ?_
   simp only[zX,simprocAttr,i64,bV,iD,bD,q,hi0,hg,ao]
   refine fg hh rfl rfl ?_
   simp only[zX,simprocAttr,i64,bV,iD,bD]
   first|exact aI _ _|exact⟨aI _ _,rfl⟩
 ·rw[if_neg (fun h=>q h.1)]at hr
  simp only[Option.some.injEq,Prod.mk.injEq]at hr
  obtain⟨rfl,rfl⟩:=hr
  unfold bF cW
  refine an func82 rfl ntmps82 results82 rfl 3 26328072917139296674479506920917608079723773850137295405767982863 (by simp) (by simp) ?_
  simp only[zX,simprocAttr,i64,bV,Goal.bN,iD,bD,d4,d1]
  refine ak (ct _) (fun v s' hv=>?_)
  obtain⟨rfl,rfl⟩:=hv
  simp only[zX,simprocAttr,i64,bV,iD,bD,he,Bool.not_false,Bool.not_true,d4,d1]
  refine ar mix [28] [] (by rfl) ?_
  simp only[zX,simprocAttr,i64,bV,iD,bD,q,hi0,ao]
  first|exact aI _ _|exact⟨aI _ _,rfl⟩
theorem Pm {t:List Int}{F:Int}{n:Nat} (ih:ja t F n) (ht:t.length<=1000000) {g0:Nat}{most:Int}{kind:Int}{re:Re}{k eA:Int}{next:Goal}{i:Int}{c:aE}{st s1 st':bq}{b:Bool} (o:re.op=5)
  (hi0:0<=i) (mE:i<=t.length) (eO:re.set.length<=1000000000) (rX:re.kids.length<=1000000000) (iJ:c.length<=1000000000) (he:s1.empty=false) (ct:dY t F g0 most st s1)
  (hr:eE t (fG t F n) most re next i c s1=some (b,st')) :
  aq prog 82 [.rf 0 g0 0 0,.d (Goal.mk kind re k eA next).d,i64 i,.d (cy c)] (bF g0 t most F st) fun v s=>v=bV b/\s=bF g0 t most F st':=by
 unfold dY bF cW at ct
 simp only[i64,bV,iD,List.cons_append,List.nil_append]at ct
 have d4:decide (re.op=4)=false:=decide_eq_false (by omega)
 have d1:decide (re.op=1)=false:=decide_eq_false (by omega)
 have d2:decide (re.op=2)=false:=decide_eq_false (by omega)
 have d3:decide (re.op=3)=false:=decide_eq_false (by omega)
 have d5:decide (re.op=5)=true:=decide_eq_true o
 unfold eE at hr
 rw[if_neg (by omega),if_neg (by omega),if_neg (by omega),if_pos o]at hr
 cases hk:re.kids with
 |nil=>rw[hk]at hr;cases hr
 |cons kid l =>
  rw[hk]at hr
  have nT:re.kids[0]?=some kid:=by rw[hk];rfl
  have ph:(0:Int)<(re.kids.length:Int):=by rw[hk,List.length_cons];omega
  clear hk
  simp only at hr
  have hc:=fun ext=>eG (ih g0 _ _ _ _ _ hr) ext
  unfold ey dL bF cW at hc;simp only[Goal.bN,i64,iD,bD,bV,List.cons_append,List.nil_append]at hc
  simp only[he]at hc
  unfold bF cW
  refine an func82 rfl ntmps82 results82 rfl 3 26328072917139296674479506920917608079723773850137295405767982863 (by simp) (by simp) ?_
  simp only[zX,simprocAttr,i64,bV,Goal.bN,iD,bD,d4,d1,d2,d3,d5]
  refine ak (ct _) (fun v s' hv=>?_)
  obtain⟨rfl,rfl⟩:=hv
  simp only[zX,simprocAttr,i64,bV,iD,bD,he,Bool.not_false,Bool.not_true,d4,d1,d2,d3,d5]
  refine aT (bZ.trans bZ.bk bZ.bk) ?_
  refine ar mix [17] [(12,[4],[4]),(14,[5],[5])] (by rfl) ?_
  simp only[zX,simprocAttr,i64,bV,iD,bD,hole,nT,ph,aj kid,Re.ae kid]
  refine eh (bA [4,5] (by simp [ca,bS,bh.go,bh,cA]) (hc _)) ?_
  simp only[zX,simprocAttr,i64,bV,iD,bD]
  first|exact aI _ _|exact⟨aI _ _,rfl⟩
end Go.Proofs.Ytfmdmlfhigocaaa
