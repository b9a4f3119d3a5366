/- A part of the proof (G9 G10). -/
import Derived.Test.YtfmdmlfhigocaaaOR17
set_option linter.unusedSimpArgs false
set_option linter.unusedVariables false
open Nat renaming reduceEqDiff → dV, reduceBEq → gV
set_option maxRecDepth 100000
set_option maxHeartbeats 80000000
namespace Go.Proofs.Ytfmdmlfhigocaaa
open Go.VL Go.Proofs.Try
variable{g0:Nat}{st':bh}{F:Int}{most:Int}{st:bh}{re:Re}{n:Nat}{r:Option aD}{i:Int}{c:aD}{l:List Re}{t:List Int}{kind:Int}{next:Goal}{b:Bool}{k:Int}{s1:bh}{fH:Int}
def ot:Option aD->V
 |none=>.tu [.d (.sl []),bV false]
 |some d=>.tu [.d (df d),bV true]
theorem TC (r:Option aD):aS [0,1,2] (ot r)=ot r:=by cases r <;> rfl
theorem look_ok (ih:lH t F n){aP:Re} (hk:re.kids=aP::l) (hi0:0<=i) (ql:i<=1000000)
  (hr:lG (fV t F n) re.op aP i c st=some (r,st')) :
  az prog 104 [.rf 0 g0 0 0,kj re,i64 i,.d (df c)] (cb g0 t most F st) λv s=>v=ot r/\s=cb g0 t most F st':=by
 have hk0:re.kids[0]?=some aP:=by rw[hk];rfl
 have tL:(0:Int)<(re.kids.length:Int):=by rw[hk,ai8];omega
 clear hk;have F9:Goal.nil.d=.sc (.pointer none):=rfl;unfold lG at hr;by_cases o7:re.op=7
 ·have d7:decide (re.op=7)=true:=bi o7;rw[be o7]at hr;cases hx:cF (fV t F n) (.mk 0 aP 0 0 .nil) i c st with
  |none=>rw[hx]at hr;cases hr
  |some x =>
   obtain⟨r1,s1⟩:=x;rw[hx]at hr;simp only[ai5,ajE]at hr;obtain⟨rfl,rfl⟩:=hr;have hf:=λext=>Bl (g0:=g0) (most:=most) ih hx ext;unfold cb dL at hf;simp only[Goal.cj,F9,i64,iD,bD,bV,aiX,ai0]at hf;unfold cb dL;refine bk func104 ntmps104 results104 3 227119 ?_;simp only[zI,simprocAttr,bV,aq re,aq aP,Re.ah aP,iD,bD,hk0,tL,d7];refine bL [4] (by simp [bA,bP,bm.go,bm,cR]) (ar (hf _) (λv s' hv=>?_));obtain⟨rfl,rfl⟩:=hv;cases r1 with
   |none =>
    simp only[zQ,simprocAttr,mg];exact⟨aR _ _,rfl⟩
   |some p =>
    obtain⟨e,d⟩:=p;simp only[zQ,simprocAttr,mg];exact⟨aR _ _,rfl⟩
 ·have d7:decide (re.op=7)=false:=ce o7;rw[ap o7]at hr;have UJ:(Goal.mk 0 aP 0 0 (.mk 4 (.mk 0 [] [] 0 0 0 0 false) 0 i .nil)).d=.el [iD 0,iD aP.op,.sl (aP.set.map aU),.sl (aP.kids.map Re.cells),iD aP.mn,iD aP.mx,iD aP.mode,iD aP.n,bD aP.neg,iD 0,iD 0,
    .el [iD 4,iD 0,.sl [],.sl [],iD 0,iD 0,iD 0,iD 0,bD false,iD 0,iD i,.sc (.pointer none)]]:=by
   rw[Goal.cj,Goal.cj];rfl
  unfold cb dL;refine bk func104 ntmps104 results104 3 227119 ?_;simp only[zI,simprocAttr,bV,aq re,aq aP,Re.ah aP,iD,bD,hk0,tL,d7];refine ay (λm e s=>∃(k:Nat) (s1:bh),m=k/\k<=i.toNat+1/\e 0=.rf 0 g0 0 0/\e 3=.d (df c)/\e 10=.d (Goal.mk 0 aP 0 0 (.mk 4 (.mk 0 [] [] 0 0 0 0 false) 0 i .nil)).d/\e 14=i64 ((k:Int)-1)/\s=cb g0 t most F s1 /\
    dh (λk st=>cF (fV t F n) (.mk 0 aP 0 0 (.mk 4 (.mk 0 [] [] 0 0 0 0 false) 0 i .nil)) k c st) k s1=some (r,st'))
   ⟨_,_,_,(bJ.freeze [4,5] [10]).trans (bJ.cut 3 ae rfl ?_ [0,3,10,14] ?_),i.toNat+1,st,rfl,ajc _,?_,?_,?_,?_,?_,hr⟩ ?_
  ·simp only[bA,bP,ajv,ajJ,ajw,aju,List.take,ajS,ajV,bc];simp only[ajk];rw[aji];exact⟨rfl,aR _ _⟩
  ·rfl
  ·rfl
  ·rfl
  ·rw[UJ];rfl
  ·simp only[pC,me,bX,List.contains_cons,List.contains_nil,gV,akq,ajx,ajC,Bool.or_true,if_true,ajf,if_false,reduceIte,dV,i64];congr 3;omega
  ·rfl
  generalize hG:Goal.mk 0 aP 0 0 (.mk 4 (.mk 0 [] [] 0 0 0 0 false) 0 i .nil)=G at *;rintro m e s ⟨k,s1,rfl,hk,h0,h3,dX,jl,rfl,hb⟩;cases m with
  |zero =>
   simp only[dh,ai5,ajE]at hb;obtain⟨rfl,rfl⟩:=hb;rw[show ((0:Nat):Int)-1=-1 from rfl]at jl;unfold cb dL;simp only[zQ,simprocAttr,h0,h3,dX,jl,ge_iff_le];exact⟨aR _ _,rfl⟩
  |succ k =>
   rw[show ((k+1:Nat):Int)-1=k by omega]at jl;have hk0:(0:Int)<=(k:Int):=ae;simp only[dh]at hb;by_cases he:s1.empty=true
   ·rw[be he]at hb;simp only[ai5,ajE]at hb;obtain⟨rfl,rfl⟩:=hb;unfold cb dL;simp only[zQ,simprocAttr,h0,h3,dX,jl,ge_iff_le,hk0,he];exact⟨aR _ _,rfl⟩
   ·rw[ap he]at hb;have he:s1.empty=false:=by simpa using he
    cases hx:cF (fV t F n) G k c s1 with
    |none=>rw[hx]at hb;cases hb
    |some x =>
     obtain⟨r1,s2⟩:=x;rw[hx]at hb;have hf:=KM (g0:=g0) (most:=most) ih hx;unfold cb dL at hf;simp only[i64,bV,iD,he]at hf;have w1:IntKind.i64.wrap ((k:Int)-1)=(k:Int)-1:=bF _ ae;cases r1 with
     |none =>
      unfold cb dL;simp only[zQ,simprocAttr,h0,h3,dX,jl,ge_iff_le,hk0,he];refine ar hf (λv s' hv=>?_);obtain⟨rfl,rfl⟩:=hv;simp only[zQ,simprocAttr,mg,h0,h3,dX,jl,w1];refine⟨k,_,_,ae,bJ.refl,k,s2,rfl,ae,?_,?_,?_,?_,rfl,hb⟩ <;> (try simp only[zU,gV,Nat.reduceShiftRight,Nat.reduceMod,dV,reduceIte])
      ·exact h0
      ·exact h3
      ·exact dX
     |some p =>
      obtain⟨e1,d⟩:=p;simp only[ai5,ajE]at hb;obtain⟨rfl,rfl⟩:=hb;unfold cb dL;simp only[zQ,simprocAttr,h0,h3,dX,jl,ge_iff_le,hk0,he];refine ar hf (λv s' hv=>?_);obtain⟨rfl,rfl⟩:=hv;simp only[zQ,simprocAttr,mg,h0,h3,dX,jl,w1];exact⟨aR _ _,rfl⟩
theorem Mr (ih:lH t F n){aP:Re} (hk:re.kids=aP::l) (hi0:0<=i) (ql:i<=1000000)
  (hr:lG (fV t F n) re.op aP i c st=some (r,st')) (ext:List VL.Obj) :
  az prog 104 [.rf 0 g0 0 0,kj re,i64 i,.d (df c)] (cb g0 t most F st++ext) λv s=>v=ot r/\s=cb g0 t most F st'++ext :=
 Ac (look_ok ih hk hi0 ql hr) (by simp only[aiZ,ai2,ca];rfl) (by simp only[ak.go,P7];rfl) (TC r) ⟨rfl,rfl⟩
def fz (t:List Int) (F:Int) (g0:Nat) (most:Int) (st s1:bh):Prop:=∀ext,az prog 101 [.rf 0 g0 0 0] (cb g0 t most F st++ext) λv s=>v=bV (!s1.empty)/\s=cb g0 t most F s1++ext
theorem NV (ih:lH t F n) (ht:t.length<=1000000) (o:re.op≠1/\re.op≠2/\re.op≠3/\re.op≠4/\re.op≠5/\re.op≠6/\re.op≠7/\re.op≠8/\re.op≠9/\re.op≠10/\re.op≠11)
  (hi0:0<=i) (ql:i<=t.length) (gD:re.set.length<=1000000000) (kB:re.kids.length<=1000000000) (iy:c.length<=1000000000) (he:s1.empty=false) (ck:fz t F g0 most st s1)
  (hr:dI t (fV t F n) most re next i c s1=some (b,st')) :
  az prog 82 [.rf 0 g0 0 0,.d (Goal.mk kind re k fH next).d,i64 i,.d (df c)] (cb g0 t most F st) λv s=>v=bV b/\s=cb g0 t most F st':=by
 unfold fz cb dL at ck;simp only[i64,bV,iD,aiX,ai0]at ck;have d4:decide (re.op=4)=false:=ce ae;have d1:decide (re.op=1)=false:=ce ae;have d2:decide (re.op=2)=false:=ce ae;have d3:decide (re.op=3)=false:=ce ae;have d5:decide (re.op=5)=false:=ce ae;have d6:decide (re.op=6)=false:=ce ae;have d7:decide (re.op=7)=false:=ce ae;have d8:decide (re.op=8)=false:=ce ae;have d9:decide (re.op=9)=false:=ce ae;have d10:decide (re.op=10)=false:=ce ae;have d11:decide (re.op=11)=false:=ce ae;unfold dI at hr;rw[bd,bd,bd,bd,bd,bd,bd,bd,bd]at hr;have hc:=λext=>gE (ih g0 _ _ _ _ _ hr) ext;unfold fS ff cb dL at hc;simp only[Goal.cj,i64,iD,bD,bV,aiX,ai0]at hc;simp only[he]at hc;unfold cb dL;refine bk func82 ntmps82 results82 3 26328072917139296674479506920917608079723773850137295405767982863 ?_;simp only[zI,simprocAttr,bV,Goal.cj,iD,bD,d4,d1,d2,d3,d5,d6,d7,d8,d9,d10,d11];refine ar (ck _) (λv s' hv=>?_);obtain⟨rfl,rfl⟩:=hv;simp only[zQ,simprocAttr,he,ajd,aje,d4,d1,d2,d3,d5,d6,d7,d8,d9,d10,d11]
 (refine ar (hc _) (λv s' hv=>?_);obtain⟨rfl,rfl⟩:=hv)
 simp only[zQ,simprocAttr];first|exact aR _ _|exact⟨aR _ _,rfl⟩
theorem Wo (ih:lH t F n) (ht:t.length<=1000000) (o:re.op=11)
  (hi0:0<=i) (ql:i<=t.length) (gD:re.set.length<=1000000000) (kB:re.kids.length<=1000000000) (iy:c.length<=1000000000) (he:s1.empty=false) (ck:fz t F g0 most st s1)
  (hr:dI t (fV t F n) most re next i c s1=some (b,st')) :
  az prog 82 [.rf 0 g0 0 0,.d (Goal.mk kind re k fH next).d,i64 i,.d (df c)] (cb g0 t most F st) λv s=>v=bV b/\s=cb g0 t most F st':=by
 unfold fz cb dL at ck;simp only[i64,bV,iD,aiX,ai0]at ck;have d4:decide (re.op=4)=false:=ce ae;have d1:decide (re.op=1)=false:=ce ae;have d2:decide (re.op=2)=false:=ce ae;have d3:decide (re.op=3)=false:=ce ae;have d5:decide (re.op=5)=false:=ce ae;have d6:decide (re.op=6)=false:=ce ae;have d7:decide (re.op=7)=false:=ce ae;have d8:decide (re.op=8)=false:=ce ae;have d9:decide (re.op=9)=false:=ce ae;have d10:decide (re.op=10)=false:=ce ae;have d11:decide (re.op=11)=true:=bi o;unfold dI at hr;rw[bd,bd,bd,bd,bd,bd,bd,bd,be o]at hr;have hh:=S1 re.n t i ht hi0 ql;simp only[i64,bV]at hh;cases hb:bY re.n t i with
 |true =>
  rw[be hb]at hr;rw[hb]at hh;have hc:=λext=>gE (ih g0 _ _ _ _ _ hr) ext;unfold fS ff cb dL at hc;simp only[Goal.cj,i64,iD,bD,bV,aiX,ai0]at hc;simp only[he]at hc;unfold cb dL;refine bk func82 ntmps82 results82 3 26328072917139296674479506920917608079723773850137295405767982863 ?_;simp only[zI,simprocAttr,bV,Goal.cj,iD,bD,d4,d1,d2,d3,d5,d6,d7,d8,d9,d10,d11];refine ar (ck _) (λv s' hv=>?_);obtain⟨rfl,rfl⟩:=hv;simp only[zQ,simprocAttr,he,ajd,aje,d4,d1,d2,d3,d5,d6,d7,d8,d9,d10,d11];refine aA mix [16] [] aN ?_;simp only[zQ,simprocAttr];refine bR hh rfl rfl ?_;simp only[zQ,simprocAttr];refine fG (hc _) ?_;simp only[zQ,simprocAttr];first|exact aR _ _|exact⟨aR _ _,rfl⟩
 |false =>
  rw[ap (by rw[hb];decide)]at hr;rw[hb]at hh;simp only[ai5,ajE]at hr;obtain⟨rfl,rfl⟩:=hr;unfold cb dL;refine bk func82 ntmps82 results82 3 26328072917139296674479506920917608079723773850137295405767982863 ?_;simp only[zI,simprocAttr,bV,Goal.cj,iD,bD,d4,d1,d2,d3,d5,d6,d7,d8,d9,d10,d11];refine ar (ck _) (λv s' hv=>?_);obtain⟨rfl,rfl⟩:=hv;simp only[zQ,simprocAttr,he,ajd,aje,d4,d1,d2,d3,d5,d6,d7,d8,d9,d10,d11];refine aA mix [16] [] aN ?_;simp only[zQ,simprocAttr];refine bR hh rfl rfl ?_;simp only[zQ,simprocAttr];first|exact aR _ _|exact⟨aR _ _,rfl⟩
theorem YM (ih:lH t F n) (ht:t.length<=1000000) (o:re.op=1)
  (hi0:0<=i) (ql:i<=t.length) (gD:re.set.length<=1000000000) (kB:re.kids.length<=1000000000) (iy:c.length<=1000000000) (he:s1.empty=false) (ck:fz t F g0 most st s1)
  (hr:dI t (fV t F n) most re next i c s1=some (b,st')) :
  az prog 82 [.rf 0 g0 0 0,.d (Goal.mk kind re k fH next).d,i64 i,.d (df c)] (cb g0 t most F st) λv s=>v=bV b/\s=cb g0 t most F st':=by
 unfold fz cb dL at ck;simp only[i64,bV,iD,aiX,ai0]at ck;have d4:decide (re.op=4)=false:=ce ae;have d1:decide (re.op=1)=true:=bi o;unfold dI at hr;rw[be o]at hr;have hh:=aaF re.set (oo t i) gD;simp only[i64,bV]at hh;have w1:IntKind.i64.wrap (i+1)=i+1:=bF _ ae;by_cases q:i<(t.length:Int)
 ·have hg:=tb hi0 q;cases hb:E7 re.set (oo t i) with
  |true =>
   rw[be ⟨q,hb⟩]at hr;rw[hb]at hh;have hc:=λext=>gE (ih g0 _ _ _ _ _ hr) ext;unfold fS ff cb dL at hc;simp only[Goal.cj,i64,iD,bD,bV,aiX,ai0]at hc;simp only[he]at hc;unfold cb dL;refine bk func82 ntmps82 results82 3 26328072917139296674479506920917608079723773850137295405767982863 ?_;simp only[zI,simprocAttr,bV,Goal.cj,iD,bD,d4,d1];refine ar (ck _) (λv s' hv=>?_);obtain⟨rfl,rfl⟩:=hv;simp only[zQ,simprocAttr,he,ajd,aje,d4,d1];refine aA mix [28] [] aN ?_;simp only[zQ,simprocAttr,q,hi0,hg,an];refine bR hh rfl rfl ?_;simp only[zQ,simprocAttr,w1];refine fG (hc _) ?_;simp only[zQ,simprocAttr];first|exact aR _ _|exact⟨aR _ _,rfl⟩
  |false =>
   rw[ap (by rw[hb];simp)]at hr;rw[hb]at hh;simp only[ai5,ajE]at hr;obtain⟨rfl,rfl⟩:=hr;unfold cb dL;refine bk func82 ntmps82 results82 3 26328072917139296674479506920917608079723773850137295405767982863 ?_;simp only[zI,simprocAttr,bV,Goal.cj,iD,bD,d4,d1];refine ar (ck _) (λv s' hv=>?_);obtain⟨rfl,rfl⟩:=hv;simp only[zQ,simprocAttr,he,ajd,aje,d4,d1];refine aA mix [28] [] aN ?_;simp only[zQ,simprocAttr,q,hi0,hg,an];refine bR hh rfl rfl ?_;simp only[zQ,simprocAttr];first|exact aR _ _|exact⟨aR _ _,rfl⟩
 ·rw[ap (λh=>q h.1)]at hr;simp only[ai5,ajE]at hr;obtain⟨rfl,rfl⟩:=hr;unfold cb dL;refine bk func82 ntmps82 results82 3 26328072917139296674479506920917608079723773850137295405767982863 ?_;simp only[zI,simprocAttr,bV,Goal.cj,iD,bD,d4,d1];refine ar (ck _) (λv s' hv=>?_);obtain⟨rfl,rfl⟩:=hv;simp only[zQ,simprocAttr,he,ajd,aje,d4,d1];refine aA mix [28] [] aN ?_;simp only[zQ,simprocAttr,q,hi0,an];first|exact aR _ _|exact⟨aR _ _,rfl⟩
theorem XW (ih:lH t F n) (ht:t.length<=1000000) (o:re.op=5)
  (hi0:0<=i) (ql:i<=t.length) (gD:re.set.length<=1000000000) (kB:re.kids.length<=1000000000) (iy:c.length<=1000000000) (he:s1.empty=false) (ck:fz t F g0 most st s1)
  (hr:dI t (fV t F n) most re next i c s1=some (b,st')) :
  az prog 82 [.rf 0 g0 0 0,.d (Goal.mk kind re k fH next).d,i64 i,.d (df c)] (cb g0 t most F st) λv s=>v=bV b/\s=cb g0 t most F st':=by
 unfold fz cb dL at ck;simp only[i64,bV,iD,aiX,ai0]at ck;have d4:decide (re.op=4)=false:=ce ae;have d1:decide (re.op=1)=false:=ce ae;have d2:decide (re.op=2)=false:=ce ae;have d3:decide (re.op=3)=false:=ce ae;have d5:decide (re.op=5)=true:=bi o;unfold dI at hr;rw[bd,bd,bd,be o]at hr;cases hk:re.kids with
 |nil=>rw[hk]at hr;cases hr
 |cons aP l =>
  rw[hk]at hr;have hk0:re.kids[0]?=some aP:=by rw[hk];rfl
  have tL:(0:Int)<(re.kids.length:Int):=by rw[hk,ai8];omega
  clear hk;simp only at hr;have hc:=λext=>gE (ih g0 _ _ _ _ _ hr) ext;unfold fS ff cb dL at hc;simp only[Goal.cj,i64,iD,bD,bV,aiX,ai0]at hc;simp only[he]at hc;unfold cb dL;refine bk func82 ntmps82 results82 3 26328072917139296674479506920917608079723773850137295405767982863 ?_;simp only[zI,simprocAttr,bV,Goal.cj,iD,bD,d4,d1,d2,d3,d5];refine ar (ck _) (λv s' hv=>?_);obtain⟨rfl,rfl⟩:=hv;simp only[zQ,simprocAttr,he,ajd,aje,d4,d1,d2,d3,d5];refine aX (ct.trans ct.bt ct.bt) ?_;refine aA mix [17] [(12,[4],[4]),(14,[5],[5])] aN ?_;simp only[zQ,simprocAttr,hole,hk0,tL,aq aP,Re.ah aP];refine fG (bL [4,5] (by simp [bA,bP,bm.go,bm,cR]) (hc _)) ?_;simp only[zQ,simprocAttr];first|exact aR _ _|exact⟨aR _ _,rfl⟩
end Go.Proofs.Ytfmdmlfhigocaaa
