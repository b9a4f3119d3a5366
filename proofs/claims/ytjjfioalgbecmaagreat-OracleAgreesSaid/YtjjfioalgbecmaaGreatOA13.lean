/- A part of the proof. -/
import Derived.Test.YtjjfioalgbecmaaGreatOA12
set_option linter.unusedSimpArgs false
set_option linter.unusedVariables false
open Nat renaming reduceEqDiff → Fp, reduceBEq → Ft
open Int renaming reduceNatCast' → FF
set_option maxRecDepth 100000
set_option maxHeartbeats 80000000
namespace Go.Proofs.YtjjfioalgbecmaaGreat
open Go.VL Go.Proofs.Tryz
variable{g0:Nat}{r:Option aC}{ai:Int}{c:aC}{F:Int}{st:bE}{st':bE}{re:Re}{n:Nat}{i:Int}{l:List Re}{t:List Int}{fi:Int}{kind:Int}{s1:bE}{b:Bool}{k:Int}{next:Goal}
def ou:Option aC->V
 |none=>.tu [.d (.sl []),bV false]
 |some d=>.tu [.d (bS d),bV true]
theorem UI (r:Option aC):aI [0,1,2] (ou r)=ou r:=by cases r <;> rfl
theorem look_ok (ih:lp t F n){aJ:Re} (hk:re.kids=aJ::l) (hi0:0<=i) (ic:i<=1000000)
  (hr:oq (eK t F n) re.op aJ i c st=some (r,st')) :
  av prog 131 [.rf 0 g0 0 0,lI re,i64 i,.d (bS c)] (cu g0 t ai F st) λv s=>v=ou r/\s=cu g0 t ai F st':=by
 have jX:re.kids[0]?=some aJ:=by rw[hk];rfl
 have mY:(0:Int)<(re.kids.length:Int):=by rw[hk,alg];omega
 clear hk;have GA:Goal.nil.d=.sc (.pointer none):=rfl;unfold oq at hr;by_cases o7:re.op=7
 ·have d7:decide (re.op=7)=true:=bi o7;rw[be o7]at hr;cases hx:cY (eK t F n) (.mk 0 aJ 0 0 .nil) i c st with
  |none=>rw[hx]at hr;cases hr
  |some x =>
   obtain⟨r1,s1⟩:=x;rw[hx]at hr;simp only[alb,alG]at hr;obtain⟨rfl,rfl⟩:=hr;have hf:=λext=>Br (g0:=g0) (ai:=ai) ih hx ext;unfold cu dW at hf;simp only[Goal.bP,GA,i64,iD,bD,bV,ak5,ak6]at hf;unfold cu dW;refine br func131 ntmps131 results131 3 227119 ?_;simp only[zI,simprocAttr,bV,au re,au aJ,Re.ah aJ,iD,bD,jX,mY,d7];refine bC [4] (by simp [bI,bU,bq.go,bq,cJ]) (an (hf _) (λv s' hv=>?_));obtain⟨rfl,rfl⟩:=hv;cases r1 with
   |none =>
    simp only[zQ,simprocAttr,mc];exact⟨aX _ _,rfl⟩
   |some p =>
    obtain⟨e,d⟩:=p;simp only[zQ,simprocAttr,mc];exact⟨aX _ _,rfl⟩
 ·have d7:decide (re.op=7)=false:=ce o7;rw[ap o7]at hr;have VX:(Goal.mk 0 aJ 0 0 (.mk 4 (.mk 0 [] [] 0 0 0 0 false) 0 i .nil)).d=.el [iD 0,iD aJ.op,.sl (aJ.set.map aU),.sl (aJ.kids.map Re.cells),iD aJ.mn,iD aJ.mx,iD aJ.mode,iD aJ.n,bD aJ.neg,iD 0,iD 0,
    .el [iD 4,iD 0,.sl [],.sl [],iD 0,iD 0,iD 0,iD 0,bD false,iD 0,iD i,.sc (.pointer none)]]:=by
   rw[Goal.bP,Goal.bP];rfl
  unfold cu dW;refine br func131 ntmps131 results131 3 227119 ?_;simp only[zI,simprocAttr,bV,au re,au aJ,Re.ah aJ,iD,bD,jX,mY,d7];refine ay (λm e s=>∃(k:Nat) (s1:bE),m=k/\k<=i.toNat+1/\e 0=.rf 0 g0 0 0/\e 3=.d (bS c)/\e 10=.d (Goal.mk 0 aJ 0 0 (.mk 4 (.mk 0 [] [] 0 0 0 0 false) 0 i .nil)).d/\e 14=i64 ((k:Int)-1)/\s=cu g0 t ai F s1 /\
    dT (λk st=>cY (eK t F n) (.mk 0 aJ 0 0 (.mk 4 (.mk 0 [] [] 0 0 0 0 false) 0 i .nil)) k c st) k s1=some (r,st'))
   ⟨_,_,_,(bO.freeze [4,5] [10]).trans (bO.cut 3 ae rfl ?_ [0,3,10,14] ?_),i.toNat+1,st,rfl,ale _,?_,?_,?_,?_,?_,hr⟩ ?_
  ·simp only[bI,bU,List.getElem?_cons_zero,List.getElem?_cons_succ,alD,alA,List.take,alR,alW,aY];simp only[alp];rw[alo];exact⟨rfl,aX _ _⟩
  ·rfl
  ·rfl
  ·rfl
  ·rw[VX];rfl
  ·simp only[ot,l9,ca,List.contains_cons,List.contains_nil,Ft,amo,alB,alE,Bool.or_true,if_true,alk,if_false,reduceIte,Fp,i64];congr 3;omega
  ·rfl
  generalize hG:Goal.mk 0 aJ 0 0 (.mk 4 (.mk 0 [] [] 0 0 0 0 false) 0 i .nil)=G at *;rintro m e s ⟨k,s1,rfl,hk,h0,h3,ek,gP,rfl,hb⟩;cases m with
  |zero =>
   simp only[dT,alb,alG]at hb;obtain⟨rfl,rfl⟩:=hb;rw[show ((0:Nat):Int)-1=-1 from rfl]at gP;unfold cu dW;simp only[zQ,simprocAttr,h0,h3,ek,gP,ge_iff_le];exact⟨aX _ _,rfl⟩
  |succ k =>
   rw[show ((k+1:Nat):Int)-1=k by omega]at gP;have jX:(0:Int)<=(k:Int):=ae;simp only[dT]at hb;by_cases he:s1.empty=true
   ·rw[be he]at hb;simp only[alb,alG]at hb;obtain⟨rfl,rfl⟩:=hb;unfold cu dW;simp only[zQ,simprocAttr,h0,h3,ek,gP,ge_iff_le,jX,he];exact⟨aX _ _,rfl⟩
   ·rw[ap he]at hb;have he:s1.empty=false:=by simpa using he
    cases hx:cY (eK t F n) G k c s1 with
    |none=>rw[hx]at hb;cases hb
    |some x =>
     obtain⟨r1,s2⟩:=x;rw[hx]at hb;have hf:=K8 (g0:=g0) (ai:=ai) ih hx;unfold cu dW at hf;simp only[i64,bV,iD,he]at hf;have w1:IntKind.i64.wrap ((k:Int)-1)=(k:Int)-1:=bK _ ae;cases r1 with
     |none =>
      unfold cu dW;simp only[zQ,simprocAttr,h0,h3,ek,gP,ge_iff_le,jX,he];refine an hf (λv s' hv=>?_);obtain⟨rfl,rfl⟩:=hv;simp only[zQ,simprocAttr,mc,h0,h3,ek,gP,w1];refine⟨k,_,_,ae,bO.refl,k,s2,rfl,ae,?_,?_,?_,?_,rfl,hb⟩ <;> (try simp only[zU,Ft,Nat.reduceShiftRight,Nat.reduceMod,Fp,reduceIte])
      ·exact h0
      ·exact h3
      ·exact ek
     |some p =>
      obtain⟨e1,d⟩:=p;simp only[alb,alG]at hb;obtain⟨rfl,rfl⟩:=hb;unfold cu dW;simp only[zQ,simprocAttr,h0,h3,ek,gP,ge_iff_le,jX,he];refine an hf (λv s' hv=>?_);obtain⟨rfl,rfl⟩:=hv;simp only[zQ,simprocAttr,mc,h0,h3,ek,gP,w1];exact⟨aX _ _,rfl⟩
theorem MO (ih:lp t F n){aJ:Re} (hk:re.kids=aJ::l) (hi0:0<=i) (ic:i<=1000000)
  (hr:oq (eK t F n) re.op aJ i c st=some (r,st')) (ext:List VL.Obj) :
  av prog 131 [.rf 0 g0 0 0,lI re,i64 i,.d (bS c)] (cu g0 t ai F st++ext) λv s=>v=ou r/\s=cu g0 t ai F st'++ext :=
 Ai (look_ok ih hk hi0 ic hr) (by simp only[ak8,ak9,zE];rfl) (by simp only[ak.go,Qq];rfl) (UI r) ⟨rfl,rfl⟩
def fD (t:List Int) (F:Int) (g0:Nat) (ai:Int) (st s1:bE):Prop:=∀ext,av prog 128 [.rf 0 g0 0 0] (cu g0 t ai F st++ext) λv s=>v=bV (!s1.empty)/\s=cu g0 t ai F s1++ext
theorem Oc (ih:lp t F n) (ht:t.length<=1000000) (o:re.op≠1/\re.op≠2/\re.op≠3/\re.op≠4/\re.op≠5/\re.op≠6/\re.op≠7/\re.op≠8/\re.op≠9/\re.op≠10/\re.op≠11)
  (hi0:0<=i) (ic:i<=t.length) (fB:re.set.length<=1000000000) (iw:re.kids.length<=1000000000) (cQ:c.length<=1000000000) (he:s1.empty=false) (bL:fD t F g0 ai st s1)
  (hr:fA t (eK t F n) ai re next i c s1=some (b,st')) :
  av prog 116 [.rf 0 g0 0 0,.d (Goal.mk kind re k fi next).d,i64 i,.d (bS c)] (cu g0 t ai F st) λv s=>v=bV b/\s=cu g0 t ai F st':=by
 unfold fD cu dW at bL;simp only[i64,bV,iD,ak5,ak6]at bL;have d4:decide (re.op=4)=false:=ce ae;have d1:decide (re.op=1)=false:=ce ae;have d2:decide (re.op=2)=false:=ce ae;have d3:decide (re.op=3)=false:=ce ae;have d5:decide (re.op=5)=false:=ce ae;have d6:decide (re.op=6)=false:=ce ae;have d7:decide (re.op=7)=false:=ce ae;have d8:decide (re.op=8)=false:=ce ae;have d9:decide (re.op=9)=false:=ce ae;have d10:decide (re.op=10)=false:=ce ae;have d11:decide (re.op=11)=false:=ce ae;unfold fA at hr;rw[bm,bm,bm,bm,bm,bm,bm,bm,bm]at hr;have hc:=λext=>gz (ih g0 _ _ _ _ _ hr) ext;unfold fV fk cu dW at hc;simp only[Goal.bP,i64,iD,bD,bV,ak5,ak6]at hc;simp only[he]at hc;unfold cu dW;refine br func116 ntmps116 results116 3 26328072917139296674479506920917608079723773850137295405767982863 ?_;simp only[zI,simprocAttr,bV,Goal.bP,iD,bD,d4,d1,d2,d3,d5,d6,d7,d8,d9,d10,d11];refine an (bL _) (λv s' hv=>?_);obtain⟨rfl,rfl⟩:=hv;simp only[zQ,simprocAttr,he,ali,alh,d4,d1,d2,d3,d5,d6,d7,d8,d9,d10,d11]
 (refine an (hc _) (λv s' hv=>?_);obtain⟨rfl,rfl⟩:=hv)
 exact Zed
theorem XQ (ih:lp t F n) (ht:t.length<=1000000) (o:re.op=11)
  (hi0:0<=i) (ic:i<=t.length) (fB:re.set.length<=1000000000) (iw:re.kids.length<=1000000000) (cQ:c.length<=1000000000) (he:s1.empty=false) (bL:fD t F g0 ai st s1)
  (hr:fA t (eK t F n) ai re next i c s1=some (b,st')) :
  av prog 116 [.rf 0 g0 0 0,.d (Goal.mk kind re k fi next).d,i64 i,.d (bS c)] (cu g0 t ai F st) λv s=>v=bV b/\s=cu g0 t ai F st':=by
 unfold fD cu dW at bL;simp only[i64,bV,iD,ak5,ak6]at bL;have d4:decide (re.op=4)=false:=ce ae;have d1:decide (re.op=1)=false:=ce ae;have d2:decide (re.op=2)=false:=ce ae;have d3:decide (re.op=3)=false:=ce ae;have d5:decide (re.op=5)=false:=ce ae;have d6:decide (re.op=6)=false:=ce ae;have d7:decide (re.op=7)=false:=ce ae;have d8:decide (re.op=8)=false:=ce ae;have d9:decide (re.op=9)=false:=ce ae;have d10:decide (re.op=10)=false:=ce ae;have d11:decide (re.op=11)=true:=bi o;unfold fA at hr;rw[bm,bm,bm,bm,bm,bm,bm,bm,be o]at hr;have hh:=TQ re.n t i ht hi0 ic;simp only[i64,bV]at hh;cases hb:bY re.n t i with
 |true =>
  rw[be hb]at hr;rw[hb]at hh;have hc:=λext=>gz (ih g0 _ _ _ _ _ hr) ext;unfold fV fk cu dW at hc;simp only[Goal.bP,i64,iD,bD,bV,ak5,ak6]at hc;simp only[he]at hc;unfold cu dW;refine br func116 ntmps116 results116 3 26328072917139296674479506920917608079723773850137295405767982863 ?_;simp only[zI,simprocAttr,bV,Goal.bP,iD,bD,d4,d1,d2,d3,d5,d6,d7,d8,d9,d10,d11];refine an (bL _) (λv s' hv=>?_);obtain⟨rfl,rfl⟩:=hv;simp only[zQ,simprocAttr,he,ali,alh,d4,d1,d2,d3,d5,d6,d7,d8,d9,d10,d11];refine cP mix [16] [] ?_;simp only[zQ,simprocAttr];refine HD hh ?_;simp only[zQ,simprocAttr];refine cU (hc _) ?_;simp only[zQ,simprocAttr];first|exact aX _ _|exact⟨aX _ _,rfl⟩
 |false =>
  rw[ap (by rw[hb];decide)]at hr;rw[hb]at hh;simp only[alb,alG]at hr;obtain⟨rfl,rfl⟩:=hr;unfold cu dW;refine br func116 ntmps116 results116 3 26328072917139296674479506920917608079723773850137295405767982863 ?_;simp only[zI,simprocAttr,bV,Goal.bP,iD,bD,d4,d1,d2,d3,d5,d6,d7,d8,d9,d10,d11];refine an (bL _) (λv s' hv=>?_);obtain⟨rfl,rfl⟩:=hv;simp only[zQ,simprocAttr,he,ali,alh,d4,d1,d2,d3,d5,d6,d7,d8,d9,d10,d11];refine cP mix [16] [] ?_;simp only[zQ,simprocAttr];refine HD hh ?_;exact Zed
theorem aaG (ih:lp t F n) (ht:t.length<=1000000) (o:re.op=1)
  (hi0:0<=i) (ic:i<=t.length) (fB:re.set.length<=1000000000) (iw:re.kids.length<=1000000000) (cQ:c.length<=1000000000) (he:s1.empty=false) (bL:fD t F g0 ai st s1)
  (hr:fA t (eK t F n) ai re next i c s1=some (b,st')) :
  av prog 116 [.rf 0 g0 0 0,.d (Goal.mk kind re k fi next).d,i64 i,.d (bS c)] (cu g0 t ai F st) λv s=>v=bV b/\s=cu g0 t ai F st':=by
 unfold fD cu dW at bL;simp only[i64,bV,iD,ak5,ak6]at bL;have d4:decide (re.op=4)=false:=ce ae;have d1:decide (re.op=1)=true:=bi o;unfold fA at hr;rw[be o]at hr;have hh:=acM re.set (lK t i) fB;simp only[i64,bV]at hh;have w1:IntKind.i64.wrap (i+1)=i+1:=bK _ ae;by_cases q:i<(t.length:Int)
 ·have hg:=nK hi0 q;cases hb:yP re.set (lK t i) with
  |true =>
   rw[be ⟨q,hb⟩]at hr;rw[hb]at hh;have hc:=λext=>gz (ih g0 _ _ _ _ _ hr) ext;unfold fV fk cu dW at hc;simp only[Goal.bP,i64,iD,bD,bV,ak5,ak6]at hc;simp only[he]at hc;unfold cu dW;refine br func116 ntmps116 results116 3 26328072917139296674479506920917608079723773850137295405767982863 ?_;simp only[zI,simprocAttr,bV,Goal.bP,iD,bD,d4,d1];refine an (bL _) (λv s' hv=>?_);obtain⟨rfl,rfl⟩:=hv;simp only[zQ,simprocAttr,he,ali,alh,d4,d1];refine cP mix [28] [] ?_;simp only[zQ,simprocAttr,q,hi0,hg,ar];refine HD hh ?_;simp only[zQ,simprocAttr,w1];refine cU (hc _) ?_;simp only[zQ,simprocAttr];first|exact aX _ _|exact⟨aX _ _,rfl⟩
  |false =>
   rw[ap (by rw[hb];simp)]at hr;rw[hb]at hh;simp only[alb,alG]at hr;obtain⟨rfl,rfl⟩:=hr;unfold cu dW;refine br func116 ntmps116 results116 3 26328072917139296674479506920917608079723773850137295405767982863 ?_;simp only[zI,simprocAttr,bV,Goal.bP,iD,bD,d4,d1];refine an (bL _) (λv s' hv=>?_);obtain⟨rfl,rfl⟩:=hv;simp only[zQ,simprocAttr,he,ali,alh,d4,d1];refine cP mix [28] [] ?_;simp only[zQ,simprocAttr,q,hi0,hg,ar];refine HD hh ?_;exact Zed
 ·rw[ap (λh=>q h.1)]at hr;simp only[alb,alG]at hr;obtain⟨rfl,rfl⟩:=hr;unfold cu dW;refine br func116 ntmps116 results116 3 26328072917139296674479506920917608079723773850137295405767982863 ?_;simp only[zI,simprocAttr,bV,Goal.bP,iD,bD,d4,d1];refine an (bL _) (λv s' hv=>?_);obtain⟨rfl,rfl⟩:=hv;simp only[zQ,simprocAttr,he,ali,alh,d4,d1];refine cP mix [28] [] ?_;simp only[zQ,simprocAttr,q,hi0,ar];exact ZaB
theorem ZE (ih:lp t F n) (ht:t.length<=1000000) (o:re.op=5)
  (hi0:0<=i) (ic:i<=t.length) (fB:re.set.length<=1000000000) (iw:re.kids.length<=1000000000) (cQ:c.length<=1000000000) (he:s1.empty=false) (bL:fD t F g0 ai st s1)
  (hr:fA t (eK t F n) ai re next i c s1=some (b,st')) :
  av prog 116 [.rf 0 g0 0 0,.d (Goal.mk kind re k fi next).d,i64 i,.d (bS c)] (cu g0 t ai F st) λv s=>v=bV b/\s=cu g0 t ai F st':=by
 unfold fD cu dW at bL;simp only[i64,bV,iD,ak5,ak6]at bL;have d4:decide (re.op=4)=false:=ce ae;have d1:decide (re.op=1)=false:=ce ae;have d2:decide (re.op=2)=false:=ce ae;have d3:decide (re.op=3)=false:=ce ae;have d5:decide (re.op=5)=true:=bi o;unfold fA at hr;rw[bm,bm,bm,be o]at hr;cases hk:re.kids with
 |nil=>rw[hk]at hr;cases hr
 |cons aJ l =>
  rw[hk]at hr;have jX:re.kids[0]?=some aJ:=by rw[hk];rfl
  have mY:(0:Int)<(re.kids.length:Int):=by rw[hk,alg];omega
  clear hk;simp only at hr;have hc:=λext=>gz (ih g0 _ _ _ _ _ hr) ext;unfold fV fk cu dW at hc;simp only[Goal.bP,i64,iD,bD,bV,ak5,ak6]at hc;simp only[he]at hc;unfold cu dW;refine br func116 ntmps116 results116 3 26328072917139296674479506920917608079723773850137295405767982863 ?_;simp only[zI,simprocAttr,bV,Goal.bP,iD,bD,d4,d1,d2,d3,d5];refine an (bL _) (λv s' hv=>?_);obtain⟨rfl,rfl⟩:=hv;simp only[zQ,simprocAttr,he,ali,alh,d4,d1,d2,d3,d5];refine aW (cr.trans cr.bu cr.bu) ?_;refine cP mix [17] [(12,[4],[4]),(14,[5],[5])] ?_;simp only[zQ,simprocAttr,hole,jX,mY,au aJ,Re.ah aJ];refine cU (bC [4,5] (by simp [bI,bU,bq.go,bq,cJ]) (hc _)) ?_;simp only[zQ,simprocAttr];first|exact aX _ _|exact⟨aX _ _,rfl⟩
theorem Z0 (ih:lp t F n) (ht:t.length<=1000000) (o:re.op=9)
  (hi0:0<=i) (ic:i<=t.length) (fB:re.set.length<=1000000000) (iw:re.kids.length<=1000000000) (cQ:c.length<=1000000000) (he:s1.empty=false) (bL:fD t F g0 ai st s1)
  (hr:fA t (eK t F n) ai re next i c s1=some (b,st')) :
  av prog 116 [.rf 0 g0 0 0,.d (Goal.mk kind re k fi next).d,i64 i,.d (bS c)] (cu g0 t ai F st) λv s=>v=bV b/\s=cu g0 t ai F st':=by
 unfold fD cu dW at bL;simp only[i64,bV,iD,ak5,ak6]at bL;have d4:decide (re.op=4)=false:=ce ae;have d1:decide (re.op=1)=false:=ce ae;have d2:decide (re.op=2)=false:=ce ae;have d3:decide (re.op=3)=false:=ce ae;have d5:decide (re.op=5)=false:=ce ae;have d6:decide (re.op=6)=false:=ce ae;have d7:decide (re.op=7)=false:=ce ae;have d8:decide (re.op=8)=false:=ce ae;have d9:decide (re.op=9)=true:=bi o;unfold fA at hr;rw[bm,bm,bm,bm,bm,bm,be o]at hr;have GA:Goal.nil.d=.sc (.pointer none):=rfl;cases hk:re.kids with
 |nil=>rw[hk]at hr;cases hr
 |cons aJ l =>
  rw[hk]at hr;have jX:re.kids[0]?=some aJ:=by rw[hk];rfl
  have mY:(0:Int)<(re.kids.length:Int):=by rw[hk,alg];omega
  clear hk;simp only at hr;cases hx:cY (eK t F n) (.mk 0 aJ 0 0 .nil) i c s1 with
  |none=>rw[hx]at hr;cases hr
  |some x =>
   obtain⟨r1,s2⟩:=x;rw[hx]at hr;simp only at hr;have hf:=λext=>Br (g0:=g0) (ai:=ai) ih hx ext;unfold cu dW at hf;simp only[Goal.bP,GA,i64,iD,bD,bV,ak5,ak6,he]at hf;by_cases e2:s2.empty=true
   ·rw[be e2]at hr;simp only[alb,alG]at hr;obtain⟨rfl,rfl⟩:=hr;cases r1 with
    |none =>
     exact Zam
    |some p =>
     obtain⟨e1,d⟩:=p;exact Zam
   ·rw[ap e2]at hr;have e2:s2.empty=false:=by simpa using e2
    cases r1 with
    |none =>
     simp only[alb,alG]at hr;obtain⟨rfl,rfl⟩:=hr;exact Zam
    |some p =>
     obtain⟨e1,d⟩:=p;simp only at hr;have hc:=λext=>gz (ih g0 _ _ _ _ _ hr) ext;unfold fV fk cu dW at hc;simp only[Goal.bP,i64,iD,bD,bV,ak5,ak6]at hc;simp only[e2]at hc;unfold cu dW;refine br func116 ntmps116 results116 3 26328072917139296674479506920917608079723773850137295405767982863 ?_;simp only[zI,simprocAttr,bV,Goal.bP,iD,bD,d4,d1,d2,d3,d5,d6,d7,d8,d9];refine an (bL _) (λv s' hv=>?_);obtain⟨rfl,rfl⟩:=hv;simp only[zQ,simprocAttr,he,ali,alh,d4,d1,d2,d3,d5,d6,d7,d8,d9];simp only[zI,simprocAttr,iD,bD,jX,mY,au aJ,Re.ah aJ];refine bC [4] (by simp [bI,bU,bq.go,bq,cJ]) (an (hf _) (λv s' hv=>?_));obtain⟨rfl,rfl⟩:=hv;simp only[zQ,simprocAttr,mc,e2]
     (refine an (hc _) (λv s' hv=>?_);obtain⟨rfl,rfl⟩:=hv)
     exact Zed
theorem aap (ih:lp t F n) (ht:t.length<=1000000) (o:re.op=7)
  (hi0:0<=i) (ic:i<=t.length) (fB:re.set.length<=1000000000) (iw:re.kids.length<=1000000000) (cQ:c.length<=1000000000) (he:s1.empty=false) (bL:fD t F g0 ai st s1)
  (hr:fA t (eK t F n) ai re next i c s1=some (b,st')) :
  av prog 116 [.rf 0 g0 0 0,.d (Goal.mk kind re k fi next).d,i64 i,.d (bS c)] (cu g0 t ai F st) λv s=>v=bV b/\s=cu g0 t ai F st':=by
 unfold fD cu dW at bL;simp only[i64,bV,iD,ak5,ak6]at bL;have d4:decide (re.op=4)=false:=ce ae;have d1:decide (re.op=1)=false:=ce ae;have d2:decide (re.op=2)=false:=ce ae;have d3:decide (re.op=3)=false:=ce ae;have d5:decide (re.op=5)=false:=ce ae;have d6:decide (re.op=6)=false:=ce ae;have d7:decide (re.op=7)=true:=bi o;unfold fA at hr;rw[bm,bm,bm,bm,bm,rY]at hr;cases hk:re.kids with
 |nil=>rw[hk]at hr;cases hr
 |cons aJ l =>
  rw[hk]at hr;have jX:re.kids[0]?=some aJ:=by rw[hk];rfl
  have mY:(0:Int)<(re.kids.length:Int):=by rw[hk,alg];omega
  simp only at hr;cases hx:oq (eK t F n) re.op aJ i c s1 with
  |none=>rw[hx]at hr;cases hr
  |some x =>
   obtain⟨r1,s2⟩:=x;rw[hx]at hr;simp only at hr;have hf:=λext=>MO (g0:=g0) (ai:=ai) ih hk hi0 ae hx ext;clear hk;unfold cu dW at hf;simp only[au re,i64,iD,bD,bV,ak5,ak6,he]at hf;by_cases e2:s2.empty=true
   ·rw[be e2]at hr;simp only[alb,alG]at hr;obtain⟨rfl,rfl⟩:=hr;cases r1 with
    |none =>
     exact ZdO
    |some d =>
     exact ZdO
   ·rw[ap e2]at hr;have e2:s2.empty=false:=by simpa using e2
    cases hn:re.neg with
    |true =>
     rw[be hn]at hr;cases r1 with
     |none =>
      exact Zax
     |some d =>
      exact ZdM
    |false =>
     rw[ap (by rw[hn];decide)]at hr;cases r1 with
     |none =>
      exact ZdM
     |some d =>
      exact Zax
theorem aaX (ih:lp t F n) (ht:t.length<=1000000) (o:re.op=8)
  (hi0:0<=i) (ic:i<=t.length) (fB:re.set.length<=1000000000) (iw:re.kids.length<=1000000000) (cQ:c.length<=1000000000) (he:s1.empty=false) (bL:fD t F g0 ai st s1)
  (hr:fA t (eK t F n) ai re next i c s1=some (b,st')) :
  av prog 116 [.rf 0 g0 0 0,.d (Goal.mk kind re k fi next).d,i64 i,.d (bS c)] (cu g0 t ai F st) λv s=>v=bV b/\s=cu g0 t ai F st':=by
 unfold fD cu dW at bL;simp only[i64,bV,iD,ak5,ak6]at bL;have d4:decide (re.op=4)=false:=ce ae;have d1:decide (re.op=1)=false:=ce ae;have d2:decide (re.op=2)=false:=ce ae;have d3:decide (re.op=3)=false:=ce ae;have d5:decide (re.op=5)=false:=ce ae;have d6:decide (re.op=6)=false:=ce ae;have d7:decide (re.op=7)=false:=ce ae;have d8:decide (re.op=8)=true:=bi o;unfold fA at hr;rw[bm,bm,bm,bm,bm,rY]at hr;cases hk:re.kids with
 |nil=>rw[hk]at hr;cases hr
 |cons aJ l =>
  rw[hk]at hr;have jX:re.kids[0]?=some aJ:=by rw[hk];rfl
  have mY:(0:Int)<(re.kids.length:Int):=by rw[hk,alg];omega
  simp only at hr;cases hx:oq (eK t F n) re.op aJ i c s1 with
  |none=>rw[hx]at hr;cases hr
  |some x =>
   obtain⟨r1,s2⟩:=x;rw[hx]at hr;simp only at hr;have hf:=λext=>MO (g0:=g0) (ai:=ai) ih hk hi0 ae hx ext;clear hk;unfold cu dW at hf;simp only[au re,i64,iD,bD,bV,ak5,ak6,he]at hf;by_cases e2:s2.empty=true
   ·rw[be e2]at hr;simp only[alb,alG]at hr;obtain⟨rfl,rfl⟩:=hr;cases r1 with
    |none =>
     exact ZdN
    |some d =>
     exact ZdN
   ·rw[ap e2]at hr;have e2:s2.empty=false:=by simpa using e2
    cases hn:re.neg with
    |true =>
     rw[be hn]at hr;cases r1 with
     |none =>
      exact Zaw
     |some d =>
      exact ZdL
    |false =>
     rw[ap (by rw[hn];decide)]at hr;cases r1 with
     |none =>
      exact ZdL
     |some d =>
      exact Zaw
theorem V8 (ih:lp t F n) (ht:t.length<=1000000) (o:re.op=10)
  (hi0:0<=i) (ic:i<=t.length) (fB:re.set.length<=1000000000) (iw:re.kids.length<=1000000000) (cQ:c.length<=1000000000) (he:s1.empty=false) (bL:fD t F g0 ai st s1)
  (hr:fA t (eK t F n) ai re next i c s1=some (b,st')) :
  av prog 116 [.rf 0 g0 0 0,.d (Goal.mk kind re k fi next).d,i64 i,.d (bS c)] (cu g0 t ai F st) λv s=>v=bV b/\s=cu g0 t ai F st':=by
 unfold fD cu dW at bL;simp only[i64,bV,iD,ak5,ak6]at bL;have d4:decide (re.op=4)=false:=ce ae;have d1:decide (re.op=1)=false:=ce ae;have d2:decide (re.op=2)=false:=ce ae;have d3:decide (re.op=3)=false:=ce ae;have d5:decide (re.op=5)=false:=ce ae;have d6:decide (re.op=6)=false:=ce ae;have d7:decide (re.op=7)=false:=ce ae;have d8:decide (re.op=8)=false:=ce ae;have d9:decide (re.op=9)=false:=ce ae;have d10:decide (re.op=10)=true:=bi o;unfold fA at hr;rw[bm,bm,bm,bm,bm,bm,bm,be o]at hr;have lQ:=PK c re.n cQ;simp only[i64]at lQ
 match hk:re.kids with
 |[]=>rw[hk]at hr;cases hr
 |[_]=>rw[hk]at hr;cases hr
 |yes::no::l =>
  rw[hk]at hr;have jX:re.kids[0]?=some yes:=by rw[hk];rfl
  have sY:re.kids[1]?=some no:=by rw[hk];rfl
  have mY:(0:Int)<(re.kids.length:Int):=by rw[hk,alg];omega
  have tc:(1:Int)<(re.kids.length:Int):=by rw[hk,alg,alg];omega
  clear hk;simp only at hr;by_cases q:0<=(ct c re.n).1
  ·rw[be q]at hr;exact Zau
  ·rw[ap q]at hr;exact Zau
def Qh (re:Re):VL.Obj:=⟨0,true,8,[[i64 re.op,.d (.sl (re.set.map aU)),.d (.sl (re.kids.map Re.cells)),i64 re.mn,i64 re.mx,i64 re.mode,i64 re.n,bV re.neg]]⟩
theorem Vy (g0:Nat) (t:List Int) (ai F:Int) (st:bE) (n:Nat) (hn:3<=n):(cu g0 t ai F st).all (aY n)=true:=by unfold cu dW;simp only[alR,alW,aY,alp];rw[rb st.ends iD n,rb st.aj bS n];have h1:decide (1<n)=true:=bi ae;have h2:decide (2<n)=true:=bi ae;simp [ak,i64,bV,h1,h2]
theorem yT {α:Type}{l:List α}{j:Nat}{x:α} (h:l[j]?=some x):l.drop j=x::l.drop (j+1):=by obtain⟨h1,h2⟩:=List.getElem?_eq_some_iff.1 h;rw[<- h2];exact List.drop_eq_getElem_cons h1
theorem aan (ih:lp t F n) (ht:t.length<=1000000) (o:re.op=3)
  (hi0:0<=i) (ic:i<=t.length) (fB:re.set.length<=1000000000) (iw:re.kids.length<=1000000000) (cQ:c.length<=1000000000) (he:s1.empty=false) (bL:fD t F g0 ai st s1)
  (hr:fA t (eK t F n) ai re next i c s1=some (b,st')) :
  av prog 116 [.rf 0 g0 0 0,.d (Goal.mk kind re k fi next).d,i64 i,.d (bS c)] (cu g0 t ai F st) λv s=>v=bV b/\s=cu g0 t ai F st':=by
 unfold fD cu dW at bL;simp only[i64,bV,iD,ak5,ak6]at bL;have d4:decide (re.op=4)=false:=ce ae;have d1:decide (re.op=1)=false:=ce ae;have d2:decide (re.op=2)=false:=ce ae;have d3:decide (re.op=3)=true:=bi o;unfold fA at hr;rw[bm,bm,be o]at hr;unfold cu dW;refine br func116 ntmps116 results116 3 26328072917139296674479506920917608079723773850137295405767982863 ?_;simp only[zI,simprocAttr,-FF,bV,Goal.bP,iD,bD,d4,d1,d2,d3];refine an (bL _) (λv s' hv=>?_);obtain⟨rfl,rfl⟩:=hv;simp only[zQ,simprocAttr,-FF,he,ali,alh,d4,d1,d2,d3];refine ay (λm e s=>∃(j:Nat) (s2:bE),m=re.kids.length-j/\j<=re.kids.length/\e 0=.rf 0 g0 0 0/\e 1=.d (Goal.mk kind re k fi next).d/\e 2=i64 i/\e 3=.d (bS c)/\e 9=.rf 3 0 0 0/\e 12=i64 j/\s=cu g0 t ai F s2++[Qh re] /\
   uD (λk st=>eK t F n ai (.run (.mk 0 k 0 0 next) i c) st) (re.kids.drop j) s2=some (b,st'))
  ⟨_,_,_,bO.refl,0,s1,rfl,ae,rfl,?_,rfl,rfl,rfl,rfl,?_,by simpa using hr⟩ ?_
 ·rw[Goal.bP];rfl
 ·unfold cu dW Qh;simp only[he];rfl
 clear hr;rintro m e s ⟨j,s2,rfl,hj,h0,h1,h2,h3,h9,jk,rfl,hb⟩;rw[Goal.bP]at h1;rcases alw j re.kids.length with aE|gE
 ·obtain⟨x,hx⟩:∃x,re.kids[j]?=some x:=cb aE;rw[yT hx]at hb;simp only[uD]at hb;cases hxx:eK t F n ai (.run (.mk 0 x 0 0 next) i c) s2 with
  |none=>rw[hxx]at hb;cases hb
  |some y =>
   obtain⟨b1,s3⟩:=y;rw[hxx]at hb;have hc:=λext=>gz (ih g0 _ _ _ _ _ hxx) ext;unfold fV fk cu dW at hc;simp only[Goal.bP,i64,iD,bD,bV,ak5,ak6]at hc;unfold cu dW Qh;simp only[zQ,simprocAttr,-FF,ak5,ak6,h0,h1,h2,h3,h9,jk,aE,hx];refine aW cr.bu ?_;refine cP mix [14] [(11,[4],[4])] ?_;simp only[zQ,simprocAttr,-FF,hole,h0,h1,h2,h3,h9,jk,aE,hx,au x,Re.ah x];refine cU (bC [4] (by simp [bI,bU,bq.go,bq,cJ]) (hc _)) ?_;cases b1 with
   |true =>
    simp only[xc,alb,alG]at hb;obtain⟨rfl,rfl⟩:=hb;simp only[zQ,simprocAttr,-FF];exact ZaB
   |false =>
    simp only[xc]at hb;simp only[zQ,simprocAttr,-FF,h0,h1,h2,h3,h9,jk];refine⟨re.kids.length-(j+1),_,_,ae,bO.cut (s':=cu g0 t ai F s3++[Qh re]) 4 ae rfl ?_ [0,1,2,3,9,12] ?_,j+1,s3,rfl,aE,?_,?_,?_,?_,?_,?_,rfl,hb⟩
    ·have:=Vy g0 t ai F s3 4 ae;rw[amm,this];rfl
    ·simp [ca,aZ,ak,i64,h0,h1,h2,h3,h9,jk]
    ·simpa [ot,ca,aZ,i64]using h0
    ·rw[Goal.bP];simpa [ot,ca,aZ,i64]using h1
    ·simpa [ot,ca,aZ,i64]using h2
    ·simpa [ot,ca,aZ,i64]using h3
    ·simpa [ot,ca,aZ,i64]using h9
    ·simp only[ot,ca,List.contains_cons,List.contains_nil,Ft,amo,alB,alE,Bool.or_true,if_true,alk,if_false,reduceIte,Fp];rw[bK _ ae];rfl
 ·have Rj:j=re.kids.length:=by omega
  subst Rj;rw[List.drop_length]at hb;simp only[uD,alb,alG]at hb;obtain⟨rfl,rfl⟩:=hb;unfold cu dW Qh;simp only[zQ,simprocAttr,-FF,ak5,ak6,h0,h1,h2,h3,h9,jk,al5];exact ZaB
end Go.Proofs.YtjjfioalgbecmaaGreat
