/- A part of the proof (G9 G10). -/
import Derived.Test.YtphfjhaffbfpfaaPM8
set_option linter.all false
set_option maxRecDepth 100000
set_option maxHeartbeats 80000000
namespace Go.Proofs.Ytphfjhaffbfpfaa
open Go.VL Go.Proofs.Try
variable{st:bd}{t:List Int}{c:aC}{g0:Nat}{F:Int}{st':bd}{re:Re}{ai:Int}{n:Nat}{l:List Re}{r:Option aC}{i:Int}{next:Goal}{kind:Int}{s1:bd}{k:Int}{cq:Int}{b:Bool}
def lY:Option aC->V
 |none=>.tu [.d (.sl []),bV false]
 |some d=>.tu [.d (bQ d),bV true]
theorem OW (r:Option aC):aX [0,1,2] (lY r)=lY r:=by cases r <;> rfl
theorem look_ok (ih:jE t F n){aL:Re} (hk:re.kids=aL::l) (hi0:0<=i) (fD:i<=1000000)
  (hr:iR (dO t F n) re.op aL i c st=some (r,st')) :
  au prog 92 [.rf 0 g0 0 0,lQ re,i64 i,.d (bQ c)] (cc g0 t ai F st) λv s=>v=lY r/\s=cc g0 t ai F st':=by
 have hk0:re.kids[0]?=some aL:=by rw[hk];rfl
 have ek:(0:Int)<(re.kids.length:Int):=by rw[hk,adA];omega
 clear hk;have ED:Goal.nil.d=.sc (.pointer none):=rfl;unfold iR at hr;by_cases o7:re.op=7
 ·have d7:decide (re.op=7)=true:=adu o7;rw[ap o7]at hr;cases hx:bS (dO t F n) (.mk 0 aL 0 0 .nil) i c st with
  |none=>rw[hx]at hr;cases hr
  |some x =>
   obtain⟨r1,s1⟩:=x;rw[hx]at hr;simp only[adp,ad3]at hr;obtain⟨rfl,rfl⟩:=hr;have hf:=λext=>wW (g0:=g0) (ai:=ai) ih hx ext;unfold cc dE at hf;simp only[Goal.bu,ED,i64,iD,bD,bV,adr,adt]at hf;unfold cc dE;refine ar func92 rfl ntmps92 results92 rfl 3 227119 (by simp) (by simp) ?_;simp only[zX,simprocAttr,i64,bV,aq re,aq aL,Re.ae aL,iD,bD,hk0,ek,d7];refine aY [4] (by simp [bg,bT,bf.go,bf,cE]) (aj (hf _) (λv s' hv=>?_));obtain⟨rfl,rfl⟩:=hv;cases r1 with
   |none =>
    simp only[zX,simprocAttr,i64,bV,iD,bD,jS];exact⟨aV _ _,rfl⟩
   |some p =>
    obtain⟨e,d⟩:=p;simp only[zX,simprocAttr,i64,bV,iD,bD,jS];exact⟨aV _ _,rfl⟩
 ·have d7:decide (re.op=7)=false:=adl o7;rw[am o7]at hr;have Jd:(Goal.mk 0 aL 0 0 (.mk 4 (.mk 0 [] [] 0 0 0 0 false) 0 i .nil)).d=.el [iD 0,iD aL.op,.sl (aL.set.map aN),.sl (aL.kids.map Re.cells),iD aL.mn,iD aL.mx,iD aL.mode,iD aL.n,bD aL.neg,iD 0,iD 0,
    .el [iD 4,iD 0,.sl [],.sl [],iD 0,iD 0,iD 0,iD 0,bD false,iD 0,iD i,.sc (.pointer none)]]:=by
   rw[Goal.bu,Goal.bu];rfl
  unfold cc dE;refine ar func92 rfl ntmps92 results92 rfl 3 227119 (by simp) (by simp) ?_;simp only[zX,simprocAttr,i64,bV,aq re,aq aL,Re.ae aL,iD,bD,hk0,ek,d7];refine aJ (λm e s=>∃(k:Nat) (s1:bd),m=k/\k<=i.toNat+1/\e 0=.rf 0 g0 0 0/\e 3=.d (bQ c)/\e 10=.d (Goal.mk 0 aL 0 0 (.mk 4 (.mk 0 [] [] 0 0 0 0 false) 0 i .nil)).d/\e 14=i64 ((k:Int)-1)/\s=cc g0 t ai F s1 /\
    cz (λk st=>bS (dO t F n) (.mk 0 aL 0 0 (.mk 4 (.mk 0 [] [] 0 0 0 0 false) 0 i .nil)) k c st) k s1=some (r,st'))
   ⟨_,_,_,(cU.freeze [4,5] [10]).trans (cU.cut 3 (by omega) rfl ?_ [0,3,10,14] ?_),i.toNat+1,st,rfl,adB _,?_,?_,?_,?_,?_,hr⟩ ?_
  ·simp only[bg,bT,adU,List.getElem?_cons_succ,ad6,ad0,List.take,List.all_cons,List.all_nil,bJ];simp only[Bool.and_true];rw[adD];exact⟨rfl,aV _ _⟩
  ·rfl
  ·rfl
  ·rfl
  ·rw[Jd];rfl
  ·simp only[mc,iI,cB,ad7,ad8,Nat.reduceBEq,aea,adY,ad4,Bool.or_true,if_true,adq,if_false,reduceIte,Nat.reduceEqDiff,i64];congr 3;omega
  ·rfl
  generalize hG:Goal.mk 0 aL 0 0 (.mk 4 (.mk 0 [] [] 0 0 0 0 false) 0 i .nil)=G at *;rintro m e s ⟨k,s1,rfl,hk,h0,h3,eh,e7,rfl,hb⟩;cases m with
  |zero =>
   simp only[cz,adp,ad3]at hb;obtain⟨rfl,rfl⟩:=hb;rw[show ((0:Nat):Int)-1=-1 from rfl]at e7;unfold cc dE;simp only[zX,simprocAttr,i64,bV,iD,bD,h0,h3,eh,e7,ge_iff_le];exact⟨aV _ _,rfl⟩
  |succ k =>
   rw[show ((k+1:Nat):Int)-1=k by omega]at e7;have hk0:(0:Int)<=(k:Int):=by omega
   simp only[cz]at hb;by_cases he:s1.empty=true
   ·rw[ap he]at hb;simp only[adp,ad3]at hb;obtain⟨rfl,rfl⟩:=hb;unfold cc dE;simp only[zX,simprocAttr,i64,bV,iD,bD,h0,h3,eh,e7,ge_iff_le,hk0,he];exact⟨aV _ _,rfl⟩
   ·rw[am he]at hb;have he:s1.empty=false:=by simpa using he
    cases hx:bS (dO t F n) G k c s1 with
    |none=>rw[hx]at hb;cases hb
    |some x =>
     obtain⟨r1,s2⟩:=x;rw[hx]at hb;have hf:=HB (g0:=g0) (ai:=ai) ih hx;unfold cc dE at hf;simp only[i64,bV,iD,he]at hf;have w1:IntKind.i64.wrap ((k:Int)-1)=(k:Int)-1:=bM _ (by omega);cases r1 with
     |none =>
      unfold cc dE;simp only[zX,simprocAttr,i64,bV,iD,bD,h0,h3,eh,e7,ge_iff_le,hk0,he];refine aj hf (λv s' hv=>?_);obtain⟨rfl,rfl⟩:=hv;simp only[zX,simprocAttr,i64,bV,iD,bD,jS,h0,h3,eh,e7,w1];refine⟨k,_,_,by omega,cU.refl,k,s2,rfl,by omega,?_,?_,?_,?_,rfl,hb⟩ <;> (try simp only[zU,Nat.reduceBEq,Nat.reduceShiftRight,Nat.reduceMod,Nat.reduceEqDiff,reduceIte])
      ·exact h0
      ·exact h3
      ·exact eh
     |some p =>
      obtain⟨e1,d⟩:=p;simp only[adp,ad3]at hb;obtain⟨rfl,rfl⟩:=hb;unfold cc dE;simp only[zX,simprocAttr,i64,bV,iD,bD,h0,h3,eh,e7,ge_iff_le,hk0,he];refine aj hf (λv s' hv=>?_);obtain⟨rfl,rfl⟩:=hv;simp only[zX,simprocAttr,i64,bV,iD,bD,jS,h0,h3,eh,e7,w1];exact⟨aV _ _,rfl⟩
theorem Hn (ih:jE t F n){aL:Re} (hk:re.kids=aL::l) (hi0:0<=i) (fD:i<=1000000)
  (hr:iR (dO t F n) re.op aL i c st=some (r,st')) (ext:List VL.Obj) :
  au prog 92 [.rf 0 g0 0 0,lQ re,i64 i,.d (bQ c)] (cc g0 t ai F st++ext) λv s=>v=lY r/\s=cc g0 t ai F st'++ext :=
 vo (look_ok ih hk hi0 fD hr) (by simp only[adG,adP,bG];rfl) (by simp only[ak.go,Mr];rfl) (OW r) ⟨rfl,rfl⟩
def eS (t:List Int) (F:Int) (g0:Nat) (ai:Int) (st s1:bd):Prop:=∀ext,au prog 89 [.rf 0 g0 0 0] (cc g0 t ai F st++ext) λv s=>v=bV (!s1.empty)/\s=cc g0 t ai F s1++ext
theorem Ja (ih:jE t F n) (ht:t.length<=1000000) (o:re.op≠1/\re.op≠2/\re.op≠3/\re.op≠4/\re.op≠5/\re.op≠6/\re.op≠7/\re.op≠8/\re.op≠9/\re.op≠10/\re.op≠11)
  (hi0:0<=i) (fD:i<=t.length) (cC:re.set.length<=1000000000) (cI:re.kids.length<=1000000000) (cZ:c.length<=1000000000) (he:s1.empty=false) (aU:eS t F g0 ai st s1)
  (hr:dw t (dO t F n) ai re next i c s1=some (b,st')) :
  au prog 75 [.rf 0 g0 0 0,.d (Goal.mk kind re k cq next).d,i64 i,.d (bQ c)] (cc g0 t ai F st) λv s=>v=bV b/\s=cc g0 t ai F st':=by
 unfold eS cc dE at aU;simp only[i64,bV,iD,adr,adt]at aU;have d4:decide (re.op=4)=false:=adl (by omega);have d1:decide (re.op=1)=false:=adl (by omega);have d2:decide (re.op=2)=false:=adl (by omega);have d3:decide (re.op=3)=false:=adl (by omega);have d5:decide (re.op=5)=false:=adl (by omega);have d6:decide (re.op=6)=false:=adl (by omega);have d7:decide (re.op=7)=false:=adl (by omega);have d8:decide (re.op=8)=false:=adl (by omega);have d9:decide (re.op=9)=false:=adl (by omega);have d10:decide (re.op=10)=false:=adl (by omega);have d11:decide (re.op=11)=false:=adl (by omega);unfold dw at hr;rw[am (by omega),am (by omega),am (by omega),am (by omega),am (by omega),am (by omega),am (by omega),am (by omega),am (by omega)]at hr;have hc:=λext=>fA (ih g0 _ _ _ _ _ hr) ext;unfold fg eH cc dE at hc;simp only[Goal.bu,i64,iD,bD,bV,adr,adt]at hc;simp only[he]at hc;unfold cc dE;refine ar func75 rfl ntmps75 results75 rfl 3 26328072917139296674479506920917608079723773850137295405767982863 (by simp) (by simp) ?_;simp only[zX,simprocAttr,i64,bV,Goal.bu,iD,bD,d4,d1,d2,d3,d5,d6,d7,d8,d9,d10,d11];refine aj (aU _) (λv s' hv=>?_);obtain⟨rfl,rfl⟩:=hv;simp only[zX,simprocAttr,i64,bV,iD,bD,he,adz,ads,d4,d1,d2,d3,d5,d6,d7,d8,d9,d10,d11]
 (refine aj (hc _) (λv s' hv=>?_);obtain⟨rfl,rfl⟩:=hv)
 simp only[zX,simprocAttr,i64,bV,iD,bD];first|exact aV _ _|exact⟨aV _ _,rfl⟩
theorem Qg (ih:jE t F n) (ht:t.length<=1000000) (o:re.op=11)
  (hi0:0<=i) (fD:i<=t.length) (cC:re.set.length<=1000000000) (cI:re.kids.length<=1000000000) (cZ:c.length<=1000000000) (he:s1.empty=false) (aU:eS t F g0 ai st s1)
  (hr:dw t (dO t F n) ai re next i c s1=some (b,st')) :
  au prog 75 [.rf 0 g0 0 0,.d (Goal.mk kind re k cq next).d,i64 i,.d (bQ c)] (cc g0 t ai F st) λv s=>v=bV b/\s=cc g0 t ai F st':=by
 unfold eS cc dE at aU;simp only[i64,bV,iD,adr,adt]at aU;have d4:decide (re.op=4)=false:=adl (by omega);have d1:decide (re.op=1)=false:=adl (by omega);have d2:decide (re.op=2)=false:=adl (by omega);have d3:decide (re.op=3)=false:=adl (by omega);have d5:decide (re.op=5)=false:=adl (by omega);have d6:decide (re.op=6)=false:=adl (by omega);have d7:decide (re.op=7)=false:=adl (by omega);have d8:decide (re.op=8)=false:=adl (by omega);have d9:decide (re.op=9)=false:=adl (by omega);have d10:decide (re.op=10)=false:=adl (by omega);have d11:decide (re.op=11)=true:=adu o;unfold dw at hr;rw[am (by omega),am (by omega),am (by omega),am (by omega),am (by omega),am (by omega),am (by omega),am (by omega),ap o]at hr;have hh:=OY re.n t i ht hi0 fD;simp only[i64,bV]at hh;cases hb:bN re.n t i with
 |true =>
  rw[ap hb]at hr;rw[hb]at hh;have hc:=λext=>fA (ih g0 _ _ _ _ _ hr) ext;unfold fg eH cc dE at hc;simp only[Goal.bu,i64,iD,bD,bV,adr,adt]at hc;simp only[he]at hc;unfold cc dE;refine ar func75 rfl ntmps75 results75 rfl 3 26328072917139296674479506920917608079723773850137295405767982863 (by simp) (by simp) ?_;simp only[zX,simprocAttr,i64,bV,Goal.bu,iD,bD,d4,d1,d2,d3,d5,d6,d7,d8,d9,d10,d11];refine aj (aU _) (λv s' hv=>?_);obtain⟨rfl,rfl⟩:=hv;simp only[zX,simprocAttr,i64,bV,iD,bD,he,adz,ads,d4,d1,d2,d3,d5,d6,d7,d8,d9,d10,d11];refine ao mix [16] [] (by rfl) ?_;simp only[zX,simprocAttr,i64,bV,iD,bD];refine bY hh rfl rfl ?_;simp only[zX,simprocAttr,i64,bV,iD,bD];refine bj (hc _) ?_;simp only[zX,simprocAttr,i64,bV,iD,bD];first|exact aV _ _|exact⟨aV _ _,rfl⟩
 |false =>
  rw[am (by rw[hb];decide)]at hr;rw[hb]at hh;simp only[adp,ad3]at hr;obtain⟨rfl,rfl⟩:=hr;unfold cc dE;refine ar func75 rfl ntmps75 results75 rfl 3 26328072917139296674479506920917608079723773850137295405767982863 (by simp) (by simp) ?_;simp only[zX,simprocAttr,i64,bV,Goal.bu,iD,bD,d4,d1,d2,d3,d5,d6,d7,d8,d9,d10,d11];refine aj (aU _) (λv s' hv=>?_);obtain⟨rfl,rfl⟩:=hv;simp only[zX,simprocAttr,i64,bV,iD,bD,he,adz,ads,d4,d1,d2,d3,d5,d6,d7,d8,d9,d10,d11];refine ao mix [16] [] (by rfl) ?_;simp only[zX,simprocAttr,i64,bV,iD,bD];refine bY hh rfl rfl ?_;simp only[zX,simprocAttr,i64,bV,iD,bD];first|exact aV _ _|exact⟨aV _ _,rfl⟩
theorem UL (ih:jE t F n) (ht:t.length<=1000000) (o:re.op=1)
  (hi0:0<=i) (fD:i<=t.length) (cC:re.set.length<=1000000000) (cI:re.kids.length<=1000000000) (cZ:c.length<=1000000000) (he:s1.empty=false) (aU:eS t F g0 ai st s1)
  (hr:dw t (dO t F n) ai re next i c s1=some (b,st')) :
  au prog 75 [.rf 0 g0 0 0,.d (Goal.mk kind re k cq next).d,i64 i,.d (bQ c)] (cc g0 t ai F st) λv s=>v=bV b/\s=cc g0 t ai F st':=by
 unfold eS cc dE at aU;simp only[i64,bV,iD,adr,adt]at aU;have d4:decide (re.op=4)=false:=adl (by omega);have d1:decide (re.op=1)=true:=adu o;unfold dw at hr;rw[ap o]at hr;have hh:=WX re.set (gQ t i) cC;simp only[i64,bV]at hh;have w1:IntKind.i64.wrap (i+1)=i+1:=bM _ (by omega);by_cases q:i<(t.length:Int)
 ·have hg:=ju hi0 q;cases hb:tv re.set (gQ t i) with
  |true =>
   rw[ap ⟨q,hb⟩]at hr;rw[hb]at hh;have hc:=λext=>fA (ih g0 _ _ _ _ _ hr) ext;unfold fg eH cc dE at hc;simp only[Goal.bu,i64,iD,bD,bV,adr,adt]at hc;simp only[he]at hc;unfold cc dE;refine ar func75 rfl ntmps75 results75 rfl 3 26328072917139296674479506920917608079723773850137295405767982863 (by simp) (by simp) ?_;simp only[zX,simprocAttr,i64,bV,Goal.bu,iD,bD,d4,d1];refine aj (aU _) (λv s' hv=>?_);obtain⟨rfl,rfl⟩:=hv;simp only[zX,simprocAttr,i64,bV,iD,bD,he,adz,ads,d4,d1];refine ao mix [28] [] (by rfl) ?_;simp only[zX,simprocAttr,i64,bV,iD,bD,q,hi0,hg,av];refine bY hh rfl rfl ?_;simp only[zX,simprocAttr,i64,bV,iD,bD,w1];refine bj (hc _) ?_;simp only[zX,simprocAttr,i64,bV,iD,bD];first|exact aV _ _|exact⟨aV _ _,rfl⟩
  |false =>
   rw[am (by rw[hb];simp)]at hr;rw[hb]at hh;simp only[adp,ad3]at hr;obtain⟨rfl,rfl⟩:=hr;unfold cc dE;refine ar func75 rfl ntmps75 results75 rfl 3 26328072917139296674479506920917608079723773850137295405767982863 (by simp) (by simp) ?_;simp only[zX,simprocAttr,i64,bV,Goal.bu,iD,bD,d4,d1];refine aj (aU _) (λv s' hv=>?_);obtain⟨rfl,rfl⟩:=hv;simp only[zX,simprocAttr,i64,bV,iD,bD,he,adz,ads,d4,d1];refine ao mix [28] [] (by rfl) ?_;simp only[zX,simprocAttr,i64,bV,iD,bD,q,hi0,hg,av];refine bY hh rfl rfl ?_;simp only[zX,simprocAttr,i64,bV,iD,bD];first|exact aV _ _|exact⟨aV _ _,rfl⟩
 ·rw[am (λh=>q h.1)]at hr;simp only[adp,ad3]at hr;obtain⟨rfl,rfl⟩:=hr;unfold cc dE;refine ar func75 rfl ntmps75 results75 rfl 3 26328072917139296674479506920917608079723773850137295405767982863 (by simp) (by simp) ?_;simp only[zX,simprocAttr,i64,bV,Goal.bu,iD,bD,d4,d1];refine aj (aU _) (λv s' hv=>?_);obtain⟨rfl,rfl⟩:=hv;simp only[zX,simprocAttr,i64,bV,iD,bD,he,adz,ads,d4,d1];refine ao mix [28] [] (by rfl) ?_;simp only[zX,simprocAttr,i64,bV,iD,bD,q,hi0,av];first|exact aV _ _|exact⟨aV _ _,rfl⟩
theorem Tz (ih:jE t F n) (ht:t.length<=1000000) (o:re.op=5)
  (hi0:0<=i) (fD:i<=t.length) (cC:re.set.length<=1000000000) (cI:re.kids.length<=1000000000) (cZ:c.length<=1000000000) (he:s1.empty=false) (aU:eS t F g0 ai st s1)
  (hr:dw t (dO t F n) ai re next i c s1=some (b,st')) :
  au prog 75 [.rf 0 g0 0 0,.d (Goal.mk kind re k cq next).d,i64 i,.d (bQ c)] (cc g0 t ai F st) λv s=>v=bV b/\s=cc g0 t ai F st':=by
 unfold eS cc dE at aU;simp only[i64,bV,iD,adr,adt]at aU;have d4:decide (re.op=4)=false:=adl (by omega);have d1:decide (re.op=1)=false:=adl (by omega);have d2:decide (re.op=2)=false:=adl (by omega);have d3:decide (re.op=3)=false:=adl (by omega);have d5:decide (re.op=5)=true:=adu o;unfold dw at hr;rw[am (by omega),am (by omega),am (by omega),ap o]at hr;cases hk:re.kids with
 |nil=>rw[hk]at hr;cases hr
 |cons aL l =>
  rw[hk]at hr;have hk0:re.kids[0]?=some aL:=by rw[hk];rfl
  have ek:(0:Int)<(re.kids.length:Int):=by rw[hk,adA];omega
  clear hk;simp only at hr;have hc:=λext=>fA (ih g0 _ _ _ _ _ hr) ext;unfold fg eH cc dE at hc;simp only[Goal.bu,i64,iD,bD,bV,adr,adt]at hc;simp only[he]at hc;unfold cc dE;refine ar func75 rfl ntmps75 results75 rfl 3 26328072917139296674479506920917608079723773850137295405767982863 (by simp) (by simp) ?_;simp only[zX,simprocAttr,i64,bV,Goal.bu,iD,bD,d4,d1,d2,d3,d5];refine aj (aU _) (λv s' hv=>?_);obtain⟨rfl,rfl⟩:=hv;simp only[zX,simprocAttr,i64,bV,iD,bD,he,adz,ads,d4,d1,d2,d3,d5];refine aS (ca.trans ca.bh ca.bh) ?_;refine ao mix [17] [(12,[4],[4]),(14,[5],[5])] (by rfl) ?_;simp only[zX,simprocAttr,i64,bV,iD,bD,hole,hk0,ek,aq aL,Re.ae aL];refine bj (aY [4,5] (by simp [bg,bT,bf.go,bf,cE]) (hc _)) ?_;simp only[zX,simprocAttr,i64,bV,iD,bD];first|exact aV _ _|exact⟨aV _ _,rfl⟩
end Go.Proofs.Ytphfjhaffbfpfaa
