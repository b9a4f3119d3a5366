/- A part of the proof (G9 G10). -/
import Derived.Test.YtjjfioalgbecmaaGreatOQ17
set_option linter.unusedSimpArgs false
set_option linter.unusedVariables false
open Nat renaming reduceEqDiff → oV, reduceBEq → pZ
set_option maxRecDepth 100000
set_option maxHeartbeats 80000000
namespace Go.Proofs.YtjjfioalgbecmaaGreat
open Go.VL Go.Proofs.Tryz
variable{r:Option aH}{st:bO}{g0:Nat}{c:aH}{F:Int}{most:Int}{st':bO}{re:Re}{n:Nat}{i:Int}{kid:Re}{l:List Re}{t:List Int}{kind:Int}{bZ:Int}{s1:bO}{b:Bool}{k:Int}{next:Goal}
def ni:Option aH->V
 |none=>.tu [.d (.sl []),bV false]
 |some d=>.tu [.d (cQ d),bV true]
theorem Tr (r:Option aH):aE [0,1,2] (ni r)=ni r:=by cases r <;> rfl
theorem look_ok (ih:kK t F n) (hk:re.kids=kid::l) (hi0:0<=i) (n7:i<=1000000)
  (hr:su (iw t F n) re.op kid i c st=some (r,st')) :
  ar prog 131 [.rf 0 g0 0 0,sN re,i64 i,.d (cQ c)] (bY g0 t most F st) λv s=>v=ni r/\s=bY g0 t most F st':=by
 have m7:re.kids[0]?=some kid:=by rw[hk];rfl
 have pU:(0:Int)<(re.kids.length:Int):=by rw[hk,ajW];omega
 clear hk;have By:Goal.nil.d=.sc (.pointer none):=rfl;unfold su at hr;by_cases o7:re.op=7
 ·have d7:decide (re.op=7)=true:=bi o7;rw[be o7]at hr;cases hx:gv (iw t F n) (.mk 0 kid 0 0 .nil) i c st with
  |none=>rw[hx]at hr;cases hr
  |some x =>
   obtain⟨r1,s1⟩:=x;rw[hx]at hr;simp only[ajU,akn]at hr;obtain⟨rfl,rfl⟩:=hr;have hf:=λext=>Am (g0:=g0) (most:=most) ih hx ext;unfold bY dB at hf;simp only[Goal.b9,By,i64,iD,bD,bV,ajN,ajO]at hf;unfold bY dB;refine bo func131 ntmps131 results131 3 227119 ?_;simp only[zI,simprocAttr,bV,av re,av kid,Re.ah kid,iD,bD,m7,pU,d7];refine bE [4] (by simp [br,ck,bc.go,bc,cT]) (an (hf _) (λv s' hv=>?_));obtain⟨rfl,rfl⟩:=hv;cases r1 with
   |none =>
    simp only[zQ,simprocAttr,lC];exact⟨aP _ _,rfl⟩
   |some p =>
    obtain⟨e,d⟩:=p;simp only[zQ,simprocAttr,lC];exact⟨aP _ _,rfl⟩
 ·have d7:decide (re.op=7)=false:=ce o7;rw[ap o7]at hr;have UR:(Goal.mk 0 kid 0 0 (.mk 4 (.mk 0 [] [] 0 0 0 0 false) 0 i .nil)).d=.el [iD 0,iD kid.op,.sl (kid.set.map aT),.sl (kid.kids.map Re.cells),iD kid.mn,iD kid.mx,iD kid.mode,iD kid.n,bD kid.neg,iD 0,iD 0,
    .el [iD 4,iD 0,.sl [],.sl [],iD 0,iD 0,iD 0,iD 0,bD false,iD 0,iD i,.sc (.pointer none)]]:=by
   rw[Goal.b9,Goal.b9];rfl
  unfold bY dB;refine bo func131 ntmps131 results131 3 227119 ?_;simp only[zI,simprocAttr,bV,av re,av kid,Re.ah kid,iD,bD,m7,pU,d7];refine aw (λm e s=>∃(k:Nat) (s1:bO),m=k/\k<=i.toNat+1/\e 0=.rf 0 g0 0 0/\e 3=.d (cQ c)/\e 10=.d (Goal.mk 0 kid 0 0 (.mk 4 (.mk 0 [] [] 0 0 0 0 false) 0 i .nil)).d/\e 14=i64 ((k:Int)-1)/\s=bY g0 t most F s1 /\
    kk (λk st=>gv (iw t F n) (.mk 0 kid 0 0 (.mk 4 (.mk 0 [] [] 0 0 0 0 false) 0 i .nil)) k c st) k s1=some (r,st'))
   ⟨_,_,_,(bA.freeze [4,5] [10]).trans (bA.cut 3 ae rfl ?_ [0,3,10,14] ?_),i.toNat+1,st,rfl,ajZ _,?_,?_,?_,?_,?_,hr⟩ ?_
  ·simp only[br,ck,List.getElem?_cons_zero,List.getElem?_cons_succ,akf,aj9,List.take,aks,akB,aK];simp only[aj4];rw[aj5];exact⟨rfl,aP _ _⟩
  ·rfl
  ·rfl
  ·rfl
  ·rw[UR];rfl
  ·simp only[od,jE,bK,akr,akt,pZ,akw,akl,ako,Bool.or_true,if_true,ajY,if_false,reduceIte,oV,i64];congr 3;omega
  ·rfl
  generalize hG:Goal.mk 0 kid 0 0 (.mk 4 (.mk 0 [] [] 0 0 0 0 false) 0 i .nil)=G at *;rintro m e s ⟨k,s1,rfl,hk,h0,h3,cA,dA,rfl,hb⟩;cases m with
  |zero =>
   simp only[kk,ajU,akn]at hb;obtain⟨rfl,rfl⟩:=hb;rw[show ((0:Nat):Int)-1=-1 from rfl]at dA;unfold bY dB;simp only[zQ,simprocAttr,h0,h3,cA,dA,ge_iff_le];exact⟨aP _ _,rfl⟩
  |succ k =>
   rw[show ((k+1:Nat):Int)-1=k by omega]at dA;have m7:(0:Int)<=(k:Int):=ae;simp only[kk]at hb;by_cases he:s1.empty=true
   ·rw[be he]at hb;simp only[ajU,akn]at hb;obtain⟨rfl,rfl⟩:=hb;unfold bY dB;simp only[zQ,simprocAttr,h0,h3,cA,dA,ge_iff_le,m7,he];exact⟨aP _ _,rfl⟩
   ·rw[ap he]at hb;have he:s1.empty=false:=by simpa using he
    cases hx:gv (iw t F n) G k c s1 with
    |none=>rw[hx]at hb;cases hb
    |some x =>
     obtain⟨r1,s2⟩:=x;rw[hx]at hb;have hf:=J6 (g0:=g0) (most:=most) ih hx;unfold bY dB at hf;simp only[i64,bV,iD,he]at hf;have w1:IntKind.i64.wrap ((k:Int)-1)=(k:Int)-1:=bG _ ae;cases r1 with
     |none =>
      unfold bY dB;simp only[zQ,simprocAttr,h0,h3,cA,dA,ge_iff_le,m7,he];refine an hf (λv s' hv=>?_);obtain⟨rfl,rfl⟩:=hv;simp only[zQ,simprocAttr,lC,h0,h3,cA,dA,w1];refine⟨k,_,_,ae,bA.refl,k,s2,rfl,ae,?_,?_,?_,?_,rfl,hb⟩ <;> (try simp only[zU,pZ,Nat.reduceShiftRight,Nat.reduceMod,oV,reduceIte])
      ·exact h0
      ·exact h3
      ·exact cA
     |some p =>
      obtain⟨e1,d⟩:=p;simp only[ajU,akn]at hb;obtain⟨rfl,rfl⟩:=hb;unfold bY dB;simp only[zQ,simprocAttr,h0,h3,cA,dA,ge_iff_le,m7,he];refine an hf (λv s' hv=>?_);obtain⟨rfl,rfl⟩:=hv;simp only[zQ,simprocAttr,lC,h0,h3,cA,dA,w1];exact⟨aP _ _,rfl⟩
theorem LL (ih:kK t F n) (hk:re.kids=kid::l) (hi0:0<=i) (n7:i<=1000000)
  (hr:su (iw t F n) re.op kid i c st=some (r,st')) (ext:List VL.Obj) :
  ar prog 131 [.rf 0 g0 0 0,sN re,i64 i,.d (cQ c)] (bY g0 t most F st++ext) λv s=>v=ni r/\s=bY g0 t most F st'++ext :=
 yK (look_ok ih hk hi0 n7 hr) (by simp only[ajR,ajV,yj];rfl) (by simp only[aj.go,Pq];rfl) (Tr r) ⟨rfl,rfl⟩
def eY (t:List Int) (F:Int) (g0:Nat) (most:Int) (st s1:bO):Prop:=∀ext,ar prog 128 [.rf 0 g0 0 0] (bY g0 t most F st++ext) λv s=>v=bV (!s1.empty)/\s=bY g0 t most F s1++ext
theorem M8 (ih:kK t F n) (ht:t.length<=1000000) (o:re.op≠1/\re.op≠2/\re.op≠3/\re.op≠4/\re.op≠5/\re.op≠6/\re.op≠7/\re.op≠8/\re.op≠9/\re.op≠10/\re.op≠11)
  (hi0:0<=i) (n7:i<=t.length) (eO:re.set.length<=1000000000) (qq:re.kids.length<=1000000000) (ia:c.length<=1000000000) (he:s1.empty=false) (bH:eY t F g0 most st s1)
  (hr:fG t (iw t F n) most re next i c s1=some (b,st')) :
  ar prog 116 [.rf 0 g0 0 0,.d (Goal.mk kind re k bZ next).d,i64 i,.d (cQ c)] (bY g0 t most F st) λv s=>v=bV b/\s=bY g0 t most F st':=by
 unfold eY bY dB at bH;simp only[i64,bV,iD,ajN,ajO]at bH;have d4:decide (re.op=4)=false:=ce ae;have d1:decide (re.op=1)=false:=ce ae;have d2:decide (re.op=2)=false:=ce ae;have d3:decide (re.op=3)=false:=ce ae;have d5:decide (re.op=5)=false:=ce ae;have d6:decide (re.op=6)=false:=ce ae;have d7:decide (re.op=7)=false:=ce ae;have d8:decide (re.op=8)=false:=ce ae;have d9:decide (re.op=9)=false:=ce ae;have d10:decide (re.op=10)=false:=ce ae;have d11:decide (re.op=11)=false:=ce ae;unfold fG at hr;rw[bd,bd,bd,bd,bd,bd,bd,bd,bd]at hr;have hc:=λext=>fI (ih g0 _ _ _ _ _ hr) ext;unfold fv eP bY dB at hc;simp only[Goal.b9,i64,iD,bD,bV,ajN,ajO]at hc;simp only[he]at hc;unfold bY dB;refine bo func116 ntmps116 results116 3 26328072917139296674479506920917608079723773850137295405767982863 ?_;simp only[zI,simprocAttr,bV,Goal.b9,iD,bD,d4,d1,d2,d3,d5,d6,d7,d8,d9,d10,d11];refine an (bH _) (λv s' hv=>?_);obtain⟨rfl,rfl⟩:=hv;simp only[zQ,simprocAttr,he,aj2,aj0,d4,d1,d2,d3,d5,d6,d7,d8,d9,d10,d11]
 (refine an (hc _) (λv s' hv=>?_);obtain⟨rfl,rfl⟩:=hv)
 simp only[zQ,simprocAttr];first|exact aP _ _|exact⟨aP _ _,rfl⟩
theorem WJ (ih:kK t F n) (ht:t.length<=1000000) (o:re.op=11)
  (hi0:0<=i) (n7:i<=t.length) (eO:re.set.length<=1000000000) (qq:re.kids.length<=1000000000) (ia:c.length<=1000000000) (he:s1.empty=false) (bH:eY t F g0 most st s1)
  (hr:fG t (iw t F n) most re next i c s1=some (b,st')) :
  ar prog 116 [.rf 0 g0 0 0,.d (Goal.mk kind re k bZ next).d,i64 i,.d (cQ c)] (bY g0 t most F st) λv s=>v=bV b/\s=bY g0 t most F st':=by
 unfold eY bY dB at bH;simp only[i64,bV,iD,ajN,ajO]at bH;have d4:decide (re.op=4)=false:=ce ae;have d1:decide (re.op=1)=false:=ce ae;have d2:decide (re.op=2)=false:=ce ae;have d3:decide (re.op=3)=false:=ce ae;have d5:decide (re.op=5)=false:=ce ae;have d6:decide (re.op=6)=false:=ce ae;have d7:decide (re.op=7)=false:=ce ae;have d8:decide (re.op=8)=false:=ce ae;have d9:decide (re.op=9)=false:=ce ae;have d10:decide (re.op=10)=false:=ce ae;have d11:decide (re.op=11)=true:=bi o;unfold fG at hr;rw[bd,bd,bd,bd,bd,bd,bd,bd,be o]at hr;have hh:=SM re.n t i ht hi0 n7;simp only[i64,bV]at hh;cases hb:bL re.n t i with
 |true =>
  rw[be hb]at hr;rw[hb]at hh;have hc:=λext=>fI (ih g0 _ _ _ _ _ hr) ext;unfold fv eP bY dB at hc;simp only[Goal.b9,i64,iD,bD,bV,ajN,ajO]at hc;simp only[he]at hc;unfold bY dB;refine bo func116 ntmps116 results116 3 26328072917139296674479506920917608079723773850137295405767982863 ?_;simp only[zI,simprocAttr,bV,Goal.b9,iD,bD,d4,d1,d2,d3,d5,d6,d7,d8,d9,d10,d11];refine an (bH _) (λv s' hv=>?_);obtain⟨rfl,rfl⟩:=hv;simp only[zQ,simprocAttr,he,aj2,aj0,d4,d1,d2,d3,d5,d6,d7,d8,d9,d10,d11];refine cu mix [16] [] ?_;simp only[zQ,simprocAttr];refine Fk hh ?_;simp only[zQ,simprocAttr];refine ct (hc _) ?_;simp only[zQ,simprocAttr];first|exact aP _ _|exact⟨aP _ _,rfl⟩
 |false =>
  rw[ap (by rw[hb];decide)]at hr;rw[hb]at hh;simp only[ajU,akn]at hr;obtain⟨rfl,rfl⟩:=hr;unfold bY dB;refine bo func116 ntmps116 results116 3 26328072917139296674479506920917608079723773850137295405767982863 ?_;simp only[zI,simprocAttr,bV,Goal.b9,iD,bD,d4,d1,d2,d3,d5,d6,d7,d8,d9,d10,d11];refine an (bH _) (λv s' hv=>?_);obtain⟨rfl,rfl⟩:=hv;simp only[zQ,simprocAttr,he,aj2,aj0,d4,d1,d2,d3,d5,d6,d7,d8,d9,d10,d11];refine cu mix [16] [] ?_;simp only[zQ,simprocAttr];refine Fk hh ?_;simp only[zQ,simprocAttr];first|exact aP _ _|exact⟨aP _ _,rfl⟩
theorem Y5 (ih:kK t F n) (ht:t.length<=1000000) (o:re.op=1)
  (hi0:0<=i) (n7:i<=t.length) (eO:re.set.length<=1000000000) (qq:re.kids.length<=1000000000) (ia:c.length<=1000000000) (he:s1.empty=false) (bH:eY t F g0 most st s1)
  (hr:fG t (iw t F n) most re next i c s1=some (b,st')) :
  ar prog 116 [.rf 0 g0 0 0,.d (Goal.mk kind re k bZ next).d,i64 i,.d (cQ c)] (bY g0 t most F st) λv s=>v=bV b/\s=bY g0 t most F st':=by
 unfold eY bY dB at bH;simp only[i64,bV,iD,ajN,ajO]at bH;have d4:decide (re.op=4)=false:=ce ae;have d1:decide (re.op=1)=true:=bi o;unfold fG at hr;rw[be o]at hr;have hh:=aa7 re.set (mG t i) eO;simp only[i64,bV]at hh;have w1:IntKind.i64.wrap (i+1)=i+1:=bG _ ae;by_cases q:i<(t.length:Int)
 ·have hg:=pM hi0 q;cases hb:ED re.set (mG t i) with
  |true =>
   rw[be ⟨q,hb⟩]at hr;rw[hb]at hh;have hc:=λext=>fI (ih g0 _ _ _ _ _ hr) ext;unfold fv eP bY dB at hc;simp only[Goal.b9,i64,iD,bD,bV,ajN,ajO]at hc;simp only[he]at hc;unfold bY dB;refine bo func116 ntmps116 results116 3 26328072917139296674479506920917608079723773850137295405767982863 ?_;simp only[zI,simprocAttr,bV,Goal.b9,iD,bD,d4,d1];refine an (bH _) (λv s' hv=>?_);obtain⟨rfl,rfl⟩:=hv;simp only[zQ,simprocAttr,he,aj2,aj0,d4,d1];refine cu mix [28] [] ?_;simp only[zQ,simprocAttr,q,hi0,hg,ao];refine Fk hh ?_;simp only[zQ,simprocAttr,w1];refine ct (hc _) ?_;simp only[zQ,simprocAttr];first|exact aP _ _|exact⟨aP _ _,rfl⟩
  |false =>
   rw[ap (by rw[hb];simp)]at hr;rw[hb]at hh;simp only[ajU,akn]at hr;obtain⟨rfl,rfl⟩:=hr;unfold bY dB;refine bo func116 ntmps116 results116 3 26328072917139296674479506920917608079723773850137295405767982863 ?_;simp only[zI,simprocAttr,bV,Goal.b9,iD,bD,d4,d1];refine an (bH _) (λv s' hv=>?_);obtain⟨rfl,rfl⟩:=hv;simp only[zQ,simprocAttr,he,aj2,aj0,d4,d1];refine cu mix [28] [] ?_;simp only[zQ,simprocAttr,q,hi0,hg,ao];refine Fk hh ?_;simp only[zQ,simprocAttr];first|exact aP _ _|exact⟨aP _ _,rfl⟩
 ·rw[ap (λh=>q h.1)]at hr;simp only[ajU,akn]at hr;obtain⟨rfl,rfl⟩:=hr;unfold bY dB;refine bo func116 ntmps116 results116 3 26328072917139296674479506920917608079723773850137295405767982863 ?_;simp only[zI,simprocAttr,bV,Goal.b9,iD,bD,d4,d1];refine an (bH _) (λv s' hv=>?_);obtain⟨rfl,rfl⟩:=hv;simp only[zQ,simprocAttr,he,aj2,aj0,d4,d1];refine cu mix [28] [] ?_;simp only[zQ,simprocAttr,q,hi0,ao];first|exact aP _ _|exact⟨aP _ _,rfl⟩
theorem Yg (ih:kK t F n) (ht:t.length<=1000000) (o:re.op=5)
  (hi0:0<=i) (n7:i<=t.length) (eO:re.set.length<=1000000000) (qq:re.kids.length<=1000000000) (ia:c.length<=1000000000) (he:s1.empty=false) (bH:eY t F g0 most st s1)
  (hr:fG t (iw t F n) most re next i c s1=some (b,st')) :
  ar prog 116 [.rf 0 g0 0 0,.d (Goal.mk kind re k bZ next).d,i64 i,.d (cQ c)] (bY g0 t most F st) λv s=>v=bV b/\s=bY g0 t most F st':=by
 unfold eY bY dB at bH;simp only[i64,bV,iD,ajN,ajO]at bH;have d4:decide (re.op=4)=false:=ce ae;have d1:decide (re.op=1)=false:=ce ae;have d2:decide (re.op=2)=false:=ce ae;have d3:decide (re.op=3)=false:=ce ae;have d5:decide (re.op=5)=true:=bi o;unfold fG at hr;rw[bd,bd,bd,be o]at hr;cases hk:re.kids with
 |nil=>rw[hk]at hr;cases hr
 |cons kid l =>
  rw[hk]at hr;have m7:re.kids[0]?=some kid:=by rw[hk];rfl
  have pU:(0:Int)<(re.kids.length:Int):=by rw[hk,ajW];omega
  clear hk;simp only at hr;have hc:=λext=>fI (ih g0 _ _ _ _ _ hr) ext;unfold fv eP bY dB at hc;simp only[Goal.b9,i64,iD,bD,bV,ajN,ajO]at hc;simp only[he]at hc;unfold bY dB;refine bo func116 ntmps116 results116 3 26328072917139296674479506920917608079723773850137295405767982863 ?_;simp only[zI,simprocAttr,bV,Goal.b9,iD,bD,d4,d1,d2,d3,d5];refine an (bH _) (λv s' hv=>?_);obtain⟨rfl,rfl⟩:=hv;simp only[zQ,simprocAttr,he,aj2,aj0,d4,d1,d2,d3,d5];refine aX (bW.trans bW.bn bW.bn) ?_;refine cu mix [17] [(12,[4],[4]),(14,[5],[5])] ?_;simp only[zQ,simprocAttr,hole,m7,pU,av kid,Re.ah kid];refine ct (bE [4,5] (by simp [br,ck,bc.go,bc,cT]) (hc _)) ?_;simp only[zQ,simprocAttr];first|exact aP _ _|exact⟨aP _ _,rfl⟩
end Go.Proofs.YtjjfioalgbecmaaGreat
