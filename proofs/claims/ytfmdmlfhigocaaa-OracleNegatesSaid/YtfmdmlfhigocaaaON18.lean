/- A part of the proof (G9 G10). -/
import Derived.Test.YtfmdmlfhigocaaaON17
set_option linter.unusedSimpArgs false
set_option linter.unusedVariables false
open Nat renaming reduceEqDiff → eI, reduceBEq → gj
set_option maxRecDepth 100000
set_option maxHeartbeats 80000000
namespace Go.Proofs.Ytfmdmlfhigocaaa
open Go.VL Go.Proofs.Try
variable{st:bJ}{g0:Nat}{r:Option aK}{st':bJ}{F:Int}{most:Int}{re:Re}{c:aK}{n:Nat}{i:Int}{kid:Re}{l:List Re}{t:List Int}{kind:Int}{s1:bJ}{b:Bool}{fw:Int}{k:Int}{next:Goal}
def m6:Option aK->V
 |none=>.tu [.d (.sl []),bV false]
 |some d=>.tu [.d (cM d),bV true]
theorem Qx (r:Option aK):aL [0,1,2] (m6 r)=m6 r:=by cases r <;> rfl
theorem look_ok (ih:kA t F n) (hk:re.kids=kid::l) (hi0:0<=i) (oN:i<=1000000)
  (hr:rI (gT t F n) re.op kid i c st=some (r,st')) :
  aq prog 104 [.rf 0 g0 0 0,fv re,i64 i,.d (cM c)] (bS g0 t most F st) λv s=>v=m6 r/\s=bS g0 t most F st':=by
 have eL:re.kids[0]?=some kid:=by rw[hk];rfl
 have rT:(0:Int)<(re.kids.length:Int):=by rw[hk,afZ];omega
 clear hk;have DE:Goal.nil.d=.sc (.pointer none):=rfl;unfold rI at hr;by_cases o7:re.op=7
 ·have d7:decide (re.op=7)=true:=bi o7;rw[be o7]at hr;cases hx:gu (gT t F n) (.mk 0 kid 0 0 .nil) i c st with
  |none=>rw[hx]at hr;cases hr
  |some x =>
   obtain⟨r1,s1⟩:=x;rw[hx]at hr;simp only[afY,agx]at hr;obtain⟨rfl,rfl⟩:=hr;have hf:=λext=>zj (g0:=g0) (most:=most) ih hx ext;unfold bS dt at hf;simp only[Goal.bW,DE,i64,iD,bD,bV,afQ,afS]at hf;unfold bS dt;refine an func104 rfl ntmps104 results104 rfl 3 227119 (by simp) (by simp) ?_;simp only[zX,simprocAttr,i64,bV,ai re,ai kid,Re.ae kid,iD,bD,eL,rT,d7];refine bc [4] (by simp [bE,bM,ba.go,ba,cj]) (ao (hf _) (λv s' hv=>?_));obtain⟨rfl,rfl⟩:=hv;cases r1 with
   |none =>
    simp only[zX,simprocAttr,i64,bV,iD,bD,lg];exact⟨aQ _ _,rfl⟩
   |some p =>
    obtain⟨e,d⟩:=p;simp only[zX,simprocAttr,i64,bV,iD,bD,lg];exact⟨aQ _ _,rfl⟩
 ·have d7:decide (re.op=7)=false:=b6 o7;rw[ap o7]at hr;have RM:(Goal.mk 0 kid 0 0 (.mk 4 (.mk 0 [] [] 0 0 0 0 false) 0 i .nil)).d=.el [iD 0,iD kid.op,.sl (kid.set.map aV),.sl (kid.kids.map Re.cells),iD kid.mn,iD kid.mx,iD kid.mode,iD kid.n,bD kid.neg,iD 0,iD 0,
    .el [iD 4,iD 0,.sl [],.sl [],iD 0,iD 0,iD 0,iD 0,bD false,iD 0,iD i,.sc (.pointer none)]]:=by
   rw[Goal.bW,Goal.bW];rfl
  unfold bS dt;refine an func104 rfl ntmps104 results104 rfl 3 227119 (by simp) (by simp) ?_;simp only[zX,simprocAttr,i64,bV,ai re,ai kid,Re.ae kid,iD,bD,eL,rT,d7];refine au (λm e s=>∃(k:Nat) (s1:bJ),m=k/\k<=i.toNat+1/\e 0=.rf 0 g0 0 0/\e 3=.d (cM c)/\e 10=.d (Goal.mk 0 kid 0 0 (.mk 4 (.mk 0 [] [] 0 0 0 0 false) 0 i .nil)).d/\e 14=i64 ((k:Int)-1)/\s=bS g0 t most F s1 /\
    jX (λk st=>gu (gT t F n) (.mk 0 kid 0 0 (.mk 4 (.mk 0 [] [] 0 0 0 0 false) 0 i .nil)) k c st) k s1=some (r,st'))
   ⟨_,_,_,(br.freeze [4,5] [10]).trans (br.cut 3 (by omega) rfl ?_ [0,3,10,14] ?_),i.toNat+1,st,rfl,af3 _,?_,?_,?_,?_,?_,hr⟩ ?_
  ·simp only[bE,bM,agm,agF,agf,agd,List.take,agq,agA,aG];simp only[af5];rw[agb];exact⟨rfl,aQ _ _⟩
  ·rfl
  ·rfl
  ·rfl
  ·rw[RM];rfl
  ·simp only[nV,kY,bz,List.contains_cons,List.contains_nil,gj,ag7,agr,agz,Bool.or_true,if_true,age,if_false,reduceIte,eI,i64];congr 3;omega
  ·rfl
  generalize hG:Goal.mk 0 kid 0 0 (.mk 4 (.mk 0 [] [] 0 0 0 0 false) 0 i .nil)=G at *;rintro m e s ⟨k,s1,rfl,hk,h0,h3,du,cP,rfl,hb⟩;cases m with
  |zero =>
   simp only[jX,afY,agx]at hb;obtain⟨rfl,rfl⟩:=hb;rw[show ((0:Nat):Int)-1=-1 from rfl]at cP;unfold bS dt;simp only[zX,simprocAttr,i64,bV,iD,bD,h0,h3,du,cP,ge_iff_le];exact⟨aQ _ _,rfl⟩
  |succ k =>
   rw[show ((k+1:Nat):Int)-1=k by omega]at cP;have eL:(0:Int)<=(k:Int):=by omega
   simp only[jX]at hb;by_cases he:s1.empty=true
   ·rw[be he]at hb;simp only[afY,agx]at hb;obtain⟨rfl,rfl⟩:=hb;unfold bS dt;simp only[zX,simprocAttr,i64,bV,iD,bD,h0,h3,du,cP,ge_iff_le,eL,he];exact⟨aQ _ _,rfl⟩
   ·rw[ap he]at hb;have he:s1.empty=false:=by simpa using he
    cases hx:gu (gT t F n) G k c s1 with
    |none=>rw[hx]at hb;cases hb
    |some x =>
     obtain⟨r1,s2⟩:=x;rw[hx]at hb;have hf:=H9 (g0:=g0) (most:=most) ih hx;unfold bS dt at hf;simp only[i64,bV,iD,he]at hf;have w1:IntKind.i64.wrap ((k:Int)-1)=(k:Int)-1:=bd _ (by omega);cases r1 with
     |none =>
      unfold bS dt;simp only[zX,simprocAttr,i64,bV,iD,bD,h0,h3,du,cP,ge_iff_le,eL,he];refine ao hf (λv s' hv=>?_);obtain⟨rfl,rfl⟩:=hv;simp only[zX,simprocAttr,i64,bV,iD,bD,lg,h0,h3,du,cP,w1];refine⟨k,_,_,by omega,br.refl,k,s2,rfl,by omega,?_,?_,?_,?_,rfl,hb⟩ <;> (try simp only[zU,gj,Nat.reduceShiftRight,Nat.reduceMod,eI,reduceIte])
      ·exact h0
      ·exact h3
      ·exact du
     |some p =>
      obtain⟨e1,d⟩:=p;simp only[afY,agx]at hb;obtain⟨rfl,rfl⟩:=hb;unfold bS dt;simp only[zX,simprocAttr,i64,bV,iD,bD,h0,h3,du,cP,ge_iff_le,eL,he];refine ao hf (λv s' hv=>?_);obtain⟨rfl,rfl⟩:=hv;simp only[zX,simprocAttr,i64,bV,iD,bD,lg,h0,h3,du,cP,w1];exact⟨aQ _ _,rfl⟩
theorem JE (ih:kA t F n) (hk:re.kids=kid::l) (hi0:0<=i) (oN:i<=1000000)
  (hr:rI (gT t F n) re.op kid i c st=some (r,st')) (ext:List VL.Obj) :
  aq prog 104 [.rf 0 g0 0 0,fv re,i64 i,.d (cM c)] (bS g0 t most F st++ext) λv s=>v=m6 r/\s=bS g0 t most F st'++ext :=
 yd (look_ok ih hk hi0 oN hr) (by simp only[afR,afU,bm];rfl) (by simp only[ah.go,nC];rfl) (Qx r) ⟨rfl,rfl⟩
def eQ (t:List Int) (F:Int) (g0:Nat) (most:Int) (st s1:bJ):Prop:=∀ext,aq prog 101 [.rf 0 g0 0 0] (bS g0 t most F st++ext) λv s=>v=bV (!s1.empty)/\s=bS g0 t most F s1++ext
theorem KY (ih:kA t F n) (ht:t.length<=1000000) (o:re.op≠1/\re.op≠2/\re.op≠3/\re.op≠4/\re.op≠5/\re.op≠6/\re.op≠7/\re.op≠8/\re.op≠9/\re.op≠10/\re.op≠11)
  (hi0:0<=i) (oN:i<=t.length) (fx:re.set.length<=1000000000) (mY:re.kids.length<=1000000000) (fK:c.length<=1000000000) (he:s1.empty=false) (cI:eQ t F g0 most st s1)
  (hr:fL t (gT t F n) most re next i c s1=some (b,st')) :
  aq prog 82 [.rf 0 g0 0 0,.d (Goal.mk kind re k fw next).d,i64 i,.d (cM c)] (bS g0 t most F st) λv s=>v=bV b/\s=bS g0 t most F st':=by
 unfold eQ bS dt at cI;simp only[i64,bV,iD,afQ,afS]at cI;have d4:decide (re.op=4)=false:=b6 (by omega);have d1:decide (re.op=1)=false:=b6 (by omega);have d2:decide (re.op=2)=false:=b6 (by omega);have d3:decide (re.op=3)=false:=b6 (by omega);have d5:decide (re.op=5)=false:=b6 (by omega);have d6:decide (re.op=6)=false:=b6 (by omega);have d7:decide (re.op=7)=false:=b6 (by omega);have d8:decide (re.op=8)=false:=b6 (by omega);have d9:decide (re.op=9)=false:=b6 (by omega);have d10:decide (re.op=10)=false:=b6 (by omega);have d11:decide (re.op=11)=false:=b6 (by omega);unfold fL at hr;rw[ap (by omega),ap (by omega),ap (by omega),ap (by omega),ap (by omega),ap (by omega),ap (by omega),ap (by omega),ap (by omega)]at hr;have hc:=λext=>fM (ih g0 _ _ _ _ _ hr) ext;unfold fl eB bS dt at hc;simp only[Goal.bW,i64,iD,bD,bV,afQ,afS]at hc;simp only[he]at hc;unfold bS dt;refine an func82 rfl ntmps82 results82 rfl 3 26328072917139296674479506920917608079723773850137295405767982863 (by simp) (by simp) ?_;simp only[zX,simprocAttr,i64,bV,Goal.bW,iD,bD,d4,d1,d2,d3,d5,d6,d7,d8,d9,d10,d11];refine ao (cI _) (λv s' hv=>?_);obtain⟨rfl,rfl⟩:=hv;simp only[zX,simprocAttr,i64,bV,iD,bD,he,af4,aga,d4,d1,d2,d3,d5,d6,d7,d8,d9,d10,d11]
 (refine ao (hc _) (λv s' hv=>?_);obtain⟨rfl,rfl⟩:=hv)
 simp only[zX,simprocAttr,i64,bV,iD,bD];first|exact aQ _ _|exact⟨aQ _ _,rfl⟩
theorem To (ih:kA t F n) (ht:t.length<=1000000) (o:re.op=11)
  (hi0:0<=i) (oN:i<=t.length) (fx:re.set.length<=1000000000) (mY:re.kids.length<=1000000000) (fK:c.length<=1000000000) (he:s1.empty=false) (cI:eQ t F g0 most st s1)
  (hr:fL t (gT t F n) most re next i c s1=some (b,st')) :
  aq prog 82 [.rf 0 g0 0 0,.d (Goal.mk kind re k fw next).d,i64 i,.d (cM c)] (bS g0 t most F st) λv s=>v=bV b/\s=bS g0 t most F st':=by
 unfold eQ bS dt at cI;simp only[i64,bV,iD,afQ,afS]at cI;have d4:decide (re.op=4)=false:=b6 (by omega);have d1:decide (re.op=1)=false:=b6 (by omega);have d2:decide (re.op=2)=false:=b6 (by omega);have d3:decide (re.op=3)=false:=b6 (by omega);have d5:decide (re.op=5)=false:=b6 (by omega);have d6:decide (re.op=6)=false:=b6 (by omega);have d7:decide (re.op=7)=false:=b6 (by omega);have d8:decide (re.op=8)=false:=b6 (by omega);have d9:decide (re.op=9)=false:=b6 (by omega);have d10:decide (re.op=10)=false:=b6 (by omega);have d11:decide (re.op=11)=true:=bi o;unfold fL at hr;rw[ap (by omega),ap (by omega),ap (by omega),ap (by omega),ap (by omega),ap (by omega),ap (by omega),ap (by omega),be o]at hr;have hh:=PS re.n t i ht hi0 oN;simp only[i64,bV]at hh;cases hb:bX re.n t i with
 |true =>
  rw[be hb]at hr;rw[hb]at hh;have hc:=λext=>fM (ih g0 _ _ _ _ _ hr) ext;unfold fl eB bS dt at hc;simp only[Goal.bW,i64,iD,bD,bV,afQ,afS]at hc;simp only[he]at hc;unfold bS dt;refine an func82 rfl ntmps82 results82 rfl 3 26328072917139296674479506920917608079723773850137295405767982863 (by simp) (by simp) ?_;simp only[zX,simprocAttr,i64,bV,Goal.bW,iD,bD,d4,d1,d2,d3,d5,d6,d7,d8,d9,d10,d11];refine ao (cI _) (λv s' hv=>?_);obtain⟨rfl,rfl⟩:=hv;simp only[zX,simprocAttr,i64,bV,iD,bD,he,af4,aga,d4,d1,d2,d3,d5,d6,d7,d8,d9,d10,d11];refine ar mix [16] [] (by rfl) ?_;simp only[zX,simprocAttr,i64,bV,iD,bD];refine bp hh rfl rfl ?_;simp only[zX,simprocAttr,i64,bV,iD,bD];refine e8 (hc _) ?_;simp only[zX,simprocAttr,i64,bV,iD,bD];first|exact aQ _ _|exact⟨aQ _ _,rfl⟩
 |false =>
  rw[ap (by rw[hb];decide)]at hr;rw[hb]at hh;simp only[afY,agx]at hr;obtain⟨rfl,rfl⟩:=hr;unfold bS dt;refine an func82 rfl ntmps82 results82 rfl 3 26328072917139296674479506920917608079723773850137295405767982863 (by simp) (by simp) ?_;simp only[zX,simprocAttr,i64,bV,Goal.bW,iD,bD,d4,d1,d2,d3,d5,d6,d7,d8,d9,d10,d11];refine ao (cI _) (λv s' hv=>?_);obtain⟨rfl,rfl⟩:=hv;simp only[zX,simprocAttr,i64,bV,iD,bD,he,af4,aga,d4,d1,d2,d3,d5,d6,d7,d8,d9,d10,d11];refine ar mix [16] [] (by rfl) ?_;simp only[zX,simprocAttr,i64,bV,iD,bD];refine bp hh rfl rfl ?_;simp only[zX,simprocAttr,i64,bV,iD,bD];first|exact aQ _ _|exact⟨aQ _ _,rfl⟩
theorem VG (ih:kA t F n) (ht:t.length<=1000000) (o:re.op=1)
  (hi0:0<=i) (oN:i<=t.length) (fx:re.set.length<=1000000000) (mY:re.kids.length<=1000000000) (fK:c.length<=1000000000) (he:s1.empty=false) (cI:eQ t F g0 most st s1)
  (hr:fL t (gT t F n) most re next i c s1=some (b,st')) :
  aq prog 82 [.rf 0 g0 0 0,.d (Goal.mk kind re k fw next).d,i64 i,.d (cM c)] (bS g0 t most F st) λv s=>v=bV b/\s=bS g0 t most F st':=by
 unfold eQ bS dt at cI;simp only[i64,bV,iD,afQ,afS]at cI;have d4:decide (re.op=4)=false:=b6 (by omega);have d1:decide (re.op=1)=true:=bi o;unfold fL at hr;rw[be o]at hr;have hh:=Xy re.set (n7 t i) fx;simp only[i64,bV]at hh;have w1:IntKind.i64.wrap (i+1)=i+1:=bd _ (by omega);by_cases q:i<(t.length:Int)
 ·have hg:=rp hi0 q;cases hb:E3 re.set (n7 t i) with
  |true =>
   rw[be ⟨q,hb⟩]at hr;rw[hb]at hh;have hc:=λext=>fM (ih g0 _ _ _ _ _ hr) ext;unfold fl eB bS dt at hc;simp only[Goal.bW,i64,iD,bD,bV,afQ,afS]at hc;simp only[he]at hc;unfold bS dt;refine an func82 rfl ntmps82 results82 rfl 3 26328072917139296674479506920917608079723773850137295405767982863 (by simp) (by simp) ?_;simp only[zX,simprocAttr,i64,bV,Goal.bW,iD,bD,d4,d1];refine ao (cI _) (λv s' hv=>?_);obtain⟨rfl,rfl⟩:=hv;simp only[zX,simprocAttr,i64,bV,iD,bD,he,af4,aga,d4,d1];refine ar mix [28] [] (by rfl) ?_;simp only[zX,simprocAttr,i64,bV,iD,bD,q,hi0,hg,al];refine bp hh rfl rfl ?_;simp only[zX,simprocAttr,i64,bV,iD,bD,w1];refine e8 (hc _) ?_;simp only[zX,simprocAttr,i64,bV,iD,bD];first|exact aQ _ _|exact⟨aQ _ _,rfl⟩
  |false =>
   rw[ap (by rw[hb];simp)]at hr;rw[hb]at hh;simp only[afY,agx]at hr;obtain⟨rfl,rfl⟩:=hr;unfold bS dt;refine an func82 rfl ntmps82 results82 rfl 3 26328072917139296674479506920917608079723773850137295405767982863 (by simp) (by simp) ?_;simp only[zX,simprocAttr,i64,bV,Goal.bW,iD,bD,d4,d1];refine ao (cI _) (λv s' hv=>?_);obtain⟨rfl,rfl⟩:=hv;simp only[zX,simprocAttr,i64,bV,iD,bD,he,af4,aga,d4,d1];refine ar mix [28] [] (by rfl) ?_;simp only[zX,simprocAttr,i64,bV,iD,bD,q,hi0,hg,al];refine bp hh rfl rfl ?_;simp only[zX,simprocAttr,i64,bV,iD,bD];first|exact aQ _ _|exact⟨aQ _ _,rfl⟩
 ·rw[ap (λh=>q h.1)]at hr;simp only[afY,agx]at hr;obtain⟨rfl,rfl⟩:=hr;unfold bS dt;refine an func82 rfl ntmps82 results82 rfl 3 26328072917139296674479506920917608079723773850137295405767982863 (by simp) (by simp) ?_;simp only[zX,simprocAttr,i64,bV,Goal.bW,iD,bD,d4,d1];refine ao (cI _) (λv s' hv=>?_);obtain⟨rfl,rfl⟩:=hv;simp only[zX,simprocAttr,i64,bV,iD,bD,he,af4,aga,d4,d1];refine ar mix [28] [] (by rfl) ?_;simp only[zX,simprocAttr,i64,bV,iD,bD,q,hi0,al];first|exact aQ _ _|exact⟨aQ _ _,rfl⟩
theorem UM (ih:kA t F n) (ht:t.length<=1000000) (o:re.op=5)
  (hi0:0<=i) (oN:i<=t.length) (fx:re.set.length<=1000000000) (mY:re.kids.length<=1000000000) (fK:c.length<=1000000000) (he:s1.empty=false) (cI:eQ t F g0 most st s1)
  (hr:fL t (gT t F n) most re next i c s1=some (b,st')) :
  aq prog 82 [.rf 0 g0 0 0,.d (Goal.mk kind re k fw next).d,i64 i,.d (cM c)] (bS g0 t most F st) λv s=>v=bV b/\s=bS g0 t most F st':=by
 unfold eQ bS dt at cI;simp only[i64,bV,iD,afQ,afS]at cI;have d4:decide (re.op=4)=false:=b6 (by omega);have d1:decide (re.op=1)=false:=b6 (by omega);have d2:decide (re.op=2)=false:=b6 (by omega);have d3:decide (re.op=3)=false:=b6 (by omega);have d5:decide (re.op=5)=true:=bi o;unfold fL at hr;rw[ap (by omega),ap (by omega),ap (by omega),be o]at hr;cases hk:re.kids with
 |nil=>rw[hk]at hr;cases hr
 |cons kid l =>
  rw[hk]at hr;have eL:re.kids[0]?=some kid:=by rw[hk];rfl
  have rT:(0:Int)<(re.kids.length:Int):=by rw[hk,afZ];omega
  clear hk;simp only at hr;have hc:=λext=>fM (ih g0 _ _ _ _ _ hr) ext;unfold fl eB bS dt at hc;simp only[Goal.bW,i64,iD,bD,bV,afQ,afS]at hc;simp only[he]at hc;unfold bS dt;refine an func82 rfl ntmps82 results82 rfl 3 26328072917139296674479506920917608079723773850137295405767982863 (by simp) (by simp) ?_;simp only[zX,simprocAttr,i64,bV,Goal.bW,iD,bD,d4,d1,d2,d3,d5];refine ao (cI _) (λv s' hv=>?_);obtain⟨rfl,rfl⟩:=hv;simp only[zX,simprocAttr,i64,bV,iD,bD,he,af4,aga,d4,d1,d2,d3,d5];refine aS (bO.trans bO.bf bO.bf) ?_;refine ar mix [17] [(12,[4],[4]),(14,[5],[5])] (by rfl) ?_;simp only[zX,simprocAttr,i64,bV,iD,bD,hole,eL,rT,ai kid,Re.ae kid];refine e8 (bc [4,5] (by simp [bE,bM,ba.go,ba,cj]) (hc _)) ?_;simp only[zX,simprocAttr,i64,bV,iD,bD];first|exact aQ _ _|exact⟨aQ _ _,rfl⟩
end Go.Proofs.Ytfmdmlfhigocaaa
