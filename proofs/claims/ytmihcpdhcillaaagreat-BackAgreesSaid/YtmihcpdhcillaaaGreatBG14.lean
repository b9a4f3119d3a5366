/- A part of the proof (G12 G13 G14). -/
import Derived.Test.YtmihcpdhcillaaaGreatBG8
import Derived.Test.YtmihcpdhcillaaaGreatBG11
import Derived.Test.YtmihcpdhcillaaaGreatBG12
import Derived.Test.YtmihcpdhcillaaaGreatBG13
set_option linter.unusedSimpArgs false
set_option linter.unusedVariables false
set_option maxRecDepth 100000
set_option maxHeartbeats 80000000
namespace Go.Proofs.YtmihcpdhcillaaaGreat
open Go.VL Go.Proofs.Tryz
theorem Mr {t:List Int}{F:Int}{n:Nat} (ih:iM t F n) (ht:t.length≤1000000) {g0:Nat}{ah:Int}{kind:Int}{re:Re}{k cT:Int}{next:Goal}{i:Int}{c:ar}{st s1 st':aQ}{b:Bool} (o:re.op=10)
  (hi0:0≤i) (e7:i≤t.length) (cC:re.set.length≤1000000000) (cz:re.kids.length≤1000000000) (cK:c.length≤1000000000) (he:s1.empty=false) (aW:eL t F g0 ah st s1)
  (hr:cQ t (dA t F n) ah re next i c s1=some (b,st')) :
  av prog 52 [.rf 0 g0 0 0,.d (Goal.mk kind re k cT next).d,i64 i,.d (bH c)] (b6 g0 t ah F st) fun v s=>v=bV b∧s=b6 g0 t ah F st':=by
 unfold eL b6 dE at aW
 simp only[i64,bV,iD,WR,WS]at aW
 have d4:decide (re.op=4)=false:=decide_eq_false (by omega)
 have d1:decide (re.op=1)=false:=decide_eq_false (by omega)
 have d2:decide (re.op=2)=false:=decide_eq_false (by omega)
 have d3:decide (re.op=3)=false:=decide_eq_false (by omega)
 have d5:decide (re.op=5)=false:=decide_eq_false (by omega)
 have d6:decide (re.op=6)=false:=decide_eq_false (by omega)
 have d7:decide (re.op=7)=false:=decide_eq_false (by omega)
 have d8:decide (re.op=8)=false:=decide_eq_false (by omega)
 have d9:decide (re.op=9)=false:=decide_eq_false (by omega)
 have d10:decide (re.op=10)=true:=decide_eq_true o
 unfold cQ at hr
 rw[if_neg (by omega),if_neg (by omega),if_neg (by omega),if_neg (by omega),if_neg (by omega),if_neg (by omega),if_neg (by omega),if_pos o]at hr
 have dr:=GY c re.n cK
 simp only[i64]at dr
 match hk:re.kids with
 |[]=>rw[hk]at hr;cases hr
 |[_]=>rw[hk]at hr;cases hr
 |yes::no::l =>
  rw[hk]at hr
  have hk0:re.kids[0]?=some yes:=by rw[hk];rfl
  have jT:re.kids[1]?=some no:=by rw[hk];rfl
  have eh:(0:Int)<(re.kids.length:Int):=by rw[hk,W3];omega
  have Bf:(1:Int)<(re.kids.length:Int):=by rw[hk,W3,W3];omega
  clear hk
  simp only at hr
  by_cases q:0≤(bm c re.n).1
  ·rw[if_pos q]at hr
   have hc:=fun ext=>fl (ih g0 _ _ _ _ _ hr) ext
   unfold eW eB b6 dE at hc;simp only[Goal.bt,i64,iD,bD,bV,WR,WS]at hc
   simp only[he]at hc
   unfold b6 dE
   refine aw func52 rfl ntmps52 results52 rfl 3 26328072917139296674479506920917608079723773850137295405767982863 (by simp) (by simp) ?_
   simp only[zX,simprocAttr,-Int.reduceNatCast',i64,bV,Goal.bt,iD,bD,d4,d1,d2,d3,d5,d6,d7,d8,d9,d10]
   refine aj (aW _) (fun v s' hv=>?_)
   obtain⟨rfl,rfl⟩:=hv
   simp only[zX,simprocAttr,-Int.reduceNatCast',i64,bV,iD,bD,he,W0,WY,d4,d1,d2,d3,d5,d6,d7,d8,d9,d10]
   refine aD dr rfl rfl ?_
   simp only[zX,simprocAttr,-Int.reduceNatCast',i64,iD,bD,hk0,eh,jT,Bf,ay yes,Re.ae yes,ay no,Re.ae no,q,ge_iff_le]
   refine⟨by decide,?_⟩
   refine aH bM.aP ?_
   refine aq mix [10] [(7,[6],[6])] (by rfl) ?_
   simp only[zX,simprocAttr,-Int.reduceNatCast',i64,bV,iD,bD,hole]
   refine bu (aO [6] (by simp [aM,bf,aR.go,aR,bN]) (hc _)) ?_
   simp only[zX,simprocAttr,-Int.reduceNatCast',i64,bV,iD,bD]
   first|exact aU _ _|exact⟨aU _ _,rfl⟩
  ·rw[if_neg q]at hr
   have hc:=fun ext=>fl (ih g0 _ _ _ _ _ hr) ext
   unfold eW eB b6 dE at hc;simp only[Goal.bt,i64,iD,bD,bV,WR,WS]at hc
   simp only[he]at hc
   unfold b6 dE
   refine aw func52 rfl ntmps52 results52 rfl 3 26328072917139296674479506920917608079723773850137295405767982863 (by simp) (by simp) ?_
   simp only[zX,simprocAttr,-Int.reduceNatCast',i64,bV,Goal.bt,iD,bD,d4,d1,d2,d3,d5,d6,d7,d8,d9,d10]
   refine aj (aW _) (fun v s' hv=>?_)
   obtain⟨rfl,rfl⟩:=hv
   simp only[zX,simprocAttr,-Int.reduceNatCast',i64,bV,iD,bD,he,W0,WY,d4,d1,d2,d3,d5,d6,d7,d8,d9,d10]
   refine aD dr rfl rfl ?_
   simp only[zX,simprocAttr,-Int.reduceNatCast',i64,iD,bD,hk0,eh,jT,Bf,ay yes,Re.ae yes,ay no,Re.ae no,q,ge_iff_le]
   refine⟨by decide,?_⟩
   refine aH bM.aP ?_
   refine aq mix [10] [(7,[6],[6])] (by rfl) ?_
   simp only[zX,simprocAttr,-Int.reduceNatCast',i64,bV,iD,bD,hole]
   refine bu (aO [6] (by simp [aM,bf,aR.go,aR,bN]) (hc _)) ?_
   simp only[zX,simprocAttr,-Int.reduceNatCast',i64,bV,iD,bD]
   first|exact aU _ _|exact⟨aU _ _,rfl⟩
def GJ (re:Re):VL.Obj:=⟨0,true,8,[[i64 re.op,.d (.sl (re.set.map aT)),.d (.sl (re.kids.map Re.cells)),i64 re.mn,i64 re.mx,i64 re.mode,i64 re.n,bV re.neg]]⟩
theorem J9 (g0:Nat) (t:List Int) (ah F:Int) (st:aQ) (n:Nat) (hn:3≤n):(b6 g0 t ah F st).all (cU n)=true:=by
 unfold b6 dE
 simp only[List.all_cons,List.all_nil,cU,XT]
 rw[nD st.ends iD n,nD st.ak bH n]
 have h1:decide (1<n)=true:=decide_eq_true (by omega)
 have h2:decide (2<n)=true:=decide_eq_true (by omega)
 simp [ao,i64,bV,h1,h2]
theorem tc {α:Type}{l:List α}{j:Nat}{x:α} (h:l[j]?=some x):l.drop j=x::l.drop (j+1):=by
 obtain⟨h1,h2⟩:=List.getElem?_eq_some_iff.1 h
 rw[← h2];exact XV h1
theorem Ps {t:List Int}{F:Int}{n:Nat} (ih:iM t F n) (ht:t.length≤1000000) {g0:Nat}{ah:Int}{kind:Int}{re:Re}{k cT:Int}{next:Goal}{i:Int}{c:ar}{st s1 st':aQ}{b:Bool} (o:re.op=3)
  (hi0:0≤i) (e7:i≤t.length) (cC:re.set.length≤1000000000) (cz:re.kids.length≤1000000000) (cK:c.length≤1000000000) (he:s1.empty=false) (aW:eL t F g0 ah st s1)
  (hr:cQ t (dA t F n) ah re next i c s1=some (b,st')) :
  av prog 52 [.rf 0 g0 0 0,.d (Goal.mk kind re k cT next).d,i64 i,.d (bH c)] (b6 g0 t ah F st) fun v s=>v=bV b∧s=b6 g0 t ah F st':=by
 unfold eL b6 dE at aW
 simp only[i64,bV,iD,WR,WS]at aW
 have d4:decide (re.op=4)=false:=decide_eq_false (by omega)
 have d1:decide (re.op=1)=false:=decide_eq_false (by omega)
 have d2:decide (re.op=2)=false:=decide_eq_false (by omega)
 have d3:decide (re.op=3)=true:=decide_eq_true o
 unfold cQ at hr
 rw[if_neg (by omega),if_neg (by omega),if_pos o]at hr
 unfold b6 dE
 refine aw func52 rfl ntmps52 results52 rfl 3 26328072917139296674479506920917608079723773850137295405767982863 (by simp) (by simp) ?_
 simp only[zX,simprocAttr,-Int.reduceNatCast',i64,bV,Goal.bt,iD,bD,d4,d1,d2,d3]
 refine aj (aW _) (fun v s' hv=>?_)
 obtain⟨rfl,rfl⟩:=hv
 simp only[zX,simprocAttr,-Int.reduceNatCast',i64,bV,iD,bD,he,W0,WY,d4,d1,d2,d3]
 refine aX (fun m e s=>∃(j:Nat) (s2:aQ),m=re.kids.length-j∧j≤re.kids.length∧e 0=.rf 0 g0 0 0∧e 1=.d (Goal.mk kind re k cT next).d∧e 2=i64 i∧e 3=.d (bH c)∧e 9=.rf 3 0 0 0∧e 12=i64 j∧s=b6 g0 t ah F s2++[GJ re] ∧
   iT (fun k st=>dA t F n ah (.run (.mk 0 k 0 0 next) i c) st) (re.kids.drop j) s2=some (b,st'))
  ⟨_,_,_,dw.refl,0,s1,rfl,by omega,rfl,?_,rfl,rfl,rfl,rfl,?_,by simpa using hr⟩ ?_
 ·rw[Goal.bt];rfl
 ·unfold b6 dE GJ;simp only[he];rfl
 clear hr
 rintro m e s ⟨j,s2,rfl,hj,h0,h1,h2,h3,h9,eU,rfl,hb⟩
 rw[Goal.bt]at h1
 rcases Xw j re.kids.length with aS|lW
 ·obtain⟨x,hx⟩:∃x,re.kids[j]?=some x:=⟨_,WZ aS⟩
  rw[tc hx]at hb
  simp only[iT]at hb
  cases Qr:dA t F n ah (.run (.mk 0 x 0 0 next) i c) s2 with
  |none=>rw[Qr]at hb;cases hb
  |some y =>
   obtain⟨b1,s3⟩:=y
   rw[Qr]at hb
   have hc:=fun ext=>fl (ih g0 _ _ _ _ _ Qr) ext
   unfold eW eB b6 dE at hc;simp only[Goal.bt,i64,iD,bD,bV,WR,WS]at hc
   unfold b6 dE GJ
   simp only[zX,simprocAttr,-Int.reduceNatCast',i64,bV,iD,bD,WR,WS,h0,h1,h2,h3,h9,eU,aS,hx]
   refine aH bM.aP ?_
   refine aq mix [14] [(11,[4],[4])] (by rfl) ?_
   simp only[zX,simprocAttr,-Int.reduceNatCast',i64,bV,iD,bD,hole,h0,h1,h2,h3,h9,eU,aS,hx,ay x,Re.ae x]
   refine bu (aO [4] (by simp [aM,bf,aR.go,aR,bN]) (hc _)) ?_
   cases b1 with
   |true =>
    simp only[jP,WX,Xs]at hb
    obtain⟨rfl,rfl⟩:=hb
    simp only[zX,simprocAttr,-Int.reduceNatCast',i64,bV,iD,bD]
    first|exact aU _ _|exact⟨aU _ _,rfl⟩
   |false =>
    simp only[jP]at hb
    simp only[zX,simprocAttr,-Int.reduceNatCast',i64,bV,iD,bD,h0,h1,h2,h3,h9,eU]
    refine⟨re.kids.length-(j+1),_,_,by omega,dw.cut (s':=b6 g0 t ah F s3++[GJ re]) 4 (by omega) rfl ?_ [0,1,2,3,9,12] ?_,j+1,s3,rfl,aS,?_,?_,?_,?_,?_,?_,rfl,hb⟩
    ·have:=J9 g0 t ah F s3 4 (by omega)
     rw[XI,this];rfl
    ·simp [bW,ba,ao,i64,h0,h1,h2,h3,h9,eU]
    ·simpa [lR,bW,ba,i64]using h0
    ·rw[Goal.bt];simpa [lR,bW,ba,i64]using h1
    ·simpa [lR,bW,ba,i64]using h2
    ·simpa [lR,bW,ba,i64]using h3
    ·simpa [lR,bW,ba,i64]using h9
    ·simp only[lR,bW,List.contains_cons,List.contains_nil,Nat.reduceBEq,X7,Xj,Xq,Bool.or_true,if_true,W2,if_false,reduceIte,Nat.reduceEqDiff]
     rw[bU _ (by omega)];rfl
 ·have TU:j=re.kids.length:=by omega
  subst TU
  rw[List.drop_length]at hb
  simp only[iT,WX,Xs]at hb
  obtain⟨rfl,rfl⟩:=hb
  unfold b6 dE GJ
  simp only[zX,simprocAttr,-Int.reduceNatCast',i64,bV,iD,bD,WR,WS,h0,h1,h2,h3,h9,eU,XP]
  first|exact aU _ _|exact⟨aU _ _,rfl⟩
theorem O7 {t:List Int}{F:Int}{n:Nat} (ih:iM t F n) (ht:t.length≤1000000) {g0:Nat}{ah:Int}{kind:Int}{re:Re}{k cT:Int}{next:Goal}{i:Int}{c:ar}{st s1 st':aQ}{b:Bool} (o:re.op=2)
  (hi0:0≤i) (e7:i≤t.length) (cC:re.set.length≤1000000000) (cz:re.kids.length≤1000000000) (cK:c.length≤1000000000) (he:s1.empty=false) (aW:eL t F g0 ah st s1)
  (hr:cQ t (dA t F n) ah re next i c s1=some (b,st')) :
  av prog 52 [.rf 0 g0 0 0,.d (Goal.mk kind re k cT next).d,i64 i,.d (bH c)] (b6 g0 t ah F st) fun v s=>v=bV b∧s=b6 g0 t ah F st':=by
 unfold eL b6 dE at aW
 simp only[i64,bV,iD,WR,WS]at aW
 have d4:decide (re.op=4)=false:=decide_eq_false (by omega)
 have d1:decide (re.op=1)=false:=decide_eq_false (by omega)
 have d2:decide (re.op=2)=true:=decide_eq_true o
 unfold cQ at hr
 rw[if_neg (by omega),if_pos o]at hr
 have wl:IntKind.i64.wrap ((re.kids.length:Int)-1)=(re.kids.length:Int)-1:=bU _ (by omega)
 unfold b6 dE
 refine aw func52 rfl ntmps52 results52 rfl 3 26328072917139296674479506920917608079723773850137295405767982863 (by simp) (by simp) ?_
 simp only[zX,simprocAttr,-Int.reduceNatCast',i64,bV,Goal.bt,iD,bD,d4,d1,d2]
 refine aj (aW _) (fun v s' hv=>?_)
 obtain⟨rfl,rfl⟩:=hv
 simp only[zX,simprocAttr,-Int.reduceNatCast',i64,bV,iD,bD,he,W0,WY,d4,d1,d2]
 refine aX (fun m e s=>∃(j:Nat),m=j∧j≤re.kids.length∧e 0=.rf 0 g0 0 0∧e 2=i64 i∧e 3=.d (bH c)∧e 9=.rf 3 0 0 0∧e 10=.d (iZ (re.kids.drop j) next).d∧e 11=i64 ((j:Int)-1)∧s=b6 g0 t ah F s1++[GJ re])
  ⟨_,_,_,dw.refl,re.kids.length,rfl,by omega,rfl,rfl,rfl,rfl,?_,?_,?_⟩ ?_
 ·rw[List.drop_length];rfl
 ·simp [bW,wl,i64]
 ·unfold b6 dE GJ;simp only[he];rfl
 rintro m e s ⟨j,rfl,hj,h0,h2,h3,h9,gu,kV,rfl⟩
 cases m with
 |zero =>
  rw[show ((0:Nat):Int)-1=-1 from rfl]at kV
  rw[X1]at gu
  have hc:=fun ext=>fl (ih g0 _ _ _ _ _ hr) ext
  unfold eW eB b6 dE at hc;simp only[Goal.bt,i64,iD,bD,bV,WR,WS]at hc
  simp only[he]at hc
  unfold b6 dE GJ
  simp only[zX,simprocAttr,-Int.reduceNatCast',i64,bV,iD,bD,WR,WS,h0,h2,h3,h9,gu,kV,ge_iff_le,he]
  (refine aj (hc _) (fun v s' hv=>?_);obtain⟨rfl,rfl⟩:=hv)
  simp only[zX,simprocAttr,-Int.reduceNatCast',i64,bV,iD,bD]
  first|exact aU _ _|exact⟨aU _ _,rfl⟩
 |succ j =>
  rw[show ((j+1:Nat):Int)-1=j by omega]at kV
  have Va:(0:Int)≤(j:Int):=by omega
  have aS:j<re.kids.length:=by omega
  have cG:(j:Int)<(re.kids.length:Int):=by omega
  obtain⟨x,hx⟩:∃x,re.kids[j]?=some x:=⟨_,WZ aS⟩
  have pG:iZ (re.kids.drop j) next=.mk 0 x 0 0 (iZ (re.kids.drop (j+1)) next):=by rw[tc hx];rfl
  generalize iZ (re.kids.drop (j+1)) next=G at *
  have w1:IntKind.i64.wrap ((j:Int)-1)=(j:Int)-1:=bU _ (by omega)
  unfold b6 dE GJ
  simp only[zX,simprocAttr,-Int.reduceNatCast',i64,bV,iD,bD,WR,WS,h0,h2,h3,h9,gu,kV,ge_iff_le,Va,aS,cG,hx,ay x,Re.ae x,w1]
  refine⟨j,_,_,by omega,(dw.freeze [4] [10]).trans (dw.cut (s':=b6 g0 t ah F s1++[GJ re]) 4 (by omega) rfl ?_ [0,2,3,9,10,11] ?_),j,rfl,by omega,?_,?_,?_,?_,?_,?_,rfl⟩
  ·have:=J9 g0 t ah F s1 4 (by omega)
   rw[XI,this];rfl
  ·simp [fq,bW,ba,ao,i64,h0,h2,h3,h9,gu,kV]
   rfl
  ·simpa [lR,fq,bW,ba]using h0
  ·simpa [lR,fq,bW,ba,i64]using h2
  ·simpa [lR,fq,bW,ba]using h3
  ·simpa [lR,fq,bW,ba]using h9
  ·rw[pG,Goal.bt];rfl
  ·rfl
def RV (x1 x2:Int):VL.Obj:=⟨0,true,2,[[i64 x1,i64 x2]]⟩
theorem xv {t:List Int}{a i:Int}{j:Nat}:cW t a i (j+1)=(cW t a i j&&(fX t (a+j) == fX t (i+j))):=by
 unfold cW
 rw[List.range_succ,XI]
 simp
theorem Jj {t:List Int}{a i:Int}{n j:Nat} (hj:j<n) (h:¬fX t (a+j)=fX t (i+j)):cW t a i n=false:=by
 rw[Xz]
 intro hs
 unfold cW at hs
 rw[Xn]at hs
 have:=hs j (List.mem_range.2 hj)
 simp only[beq_iff_eq]at this
 exact h this
theorem Om {t:List Int}{F:Int}{n:Nat} (ih:iM t F n) (ht:t.length≤1000000) {g0:Nat}{ah:Int}{kind:Int}{re:Re}{k cT:Int}{next:Goal}{i:Int}{c:ar}{st s1 st':aQ}{b:Bool} (o:re.op=6)
  (hi0:0≤i) (e7:i≤t.length) (cC:re.set.length≤1000000000) (cz:re.kids.length≤1000000000) (cK:c.length≤1000000000) (he:s1.empty=false) (aW:eL t F g0 ah st s1)
  (hr:cQ t (dA t F n) ah re next i c s1=some (b,st')) :
  av prog 52 [.rf 0 g0 0 0,.d (Goal.mk kind re k cT next).d,i64 i,.d (bH c)] (b6 g0 t ah F st) fun v s=>v=bV b∧s=b6 g0 t ah F st':=by
 unfold eL b6 dE at aW
 simp only[i64,bV,iD,WR,WS]at aW
 have d4:decide (re.op=4)=false:=decide_eq_false (by omega)
 have d1:decide (re.op=1)=false:=decide_eq_false (by omega)
 have d2:decide (re.op=2)=false:=decide_eq_false (by omega)
 have d3:decide (re.op=3)=false:=decide_eq_false (by omega)
 have d5:decide (re.op=5)=false:=decide_eq_false (by omega)
 have d6:decide (re.op=6)=true:=decide_eq_true o
 unfold cQ at hr
 rw[if_neg (by omega),if_neg (by omega),if_neg (by omega),if_neg (by omega),if_pos o]at hr
 have dr:=GY c re.n cK
 generalize bm c re.n=x at *
 obtain⟨x1,x2⟩:=x
 simp only[i64]at dr
 simp only at hr
 by_cases q1:x1<0
 ·rw[if_pos q1]at hr
  simp only[WX,Xs]at hr
  obtain⟨rfl,rfl⟩:=hr
  unfold b6 dE
  refine aw func52 rfl ntmps52 results52 rfl 3 26328072917139296674479506920917608079723773850137295405767982863 (by simp) (by simp) ?_
  simp only[zX,simprocAttr,-Int.reduceNatCast',i64,bV,Goal.bt,iD,bD,d4,d1,d2,d3,d5,d6]
  refine aj (aW _) (fun v s' hv=>?_)
  obtain⟨rfl,rfl⟩:=hv
  simp only[zX,simprocAttr,-Int.reduceNatCast',i64,bV,iD,bD,he,W0,WY,d4,d1,d2,d3,d5,d6]
  refine aD dr rfl rfl ?_
  simp only[zX,simprocAttr,-Int.reduceNatCast',i64,iD,bD]
  refine aq mix [] [] (by rfl) ?_
  simp only[zX,simprocAttr,-Int.reduceNatCast',i64,bV,iD,bD,q1]
  exact⟨by decide,aU _ _⟩
 rw[if_neg q1]at hr
 by_cases q2:x2<x1∨(t.length:Int)<x2
 ·rw[if_pos q2]at hr;cases hr
 rw[if_neg q2]at hr
 have wa:IntKind.i64.wrap (i+x2)=i+x2:=bU _ (by omega)
 have wb:IntKind.i64.wrap (i+x2-x1)=i+x2-x1:=bU _ (by omega)
 by_cases q3:t.length<i+x2-x1
 ·rw[if_pos q3]at hr
  simp only[WX,Xs]at hr
  obtain⟨rfl,rfl⟩:=hr
  unfold b6 dE
  refine aw func52 rfl ntmps52 results52 rfl 3 26328072917139296674479506920917608079723773850137295405767982863 (by simp) (by simp) ?_
  simp only[zX,simprocAttr,-Int.reduceNatCast',i64,bV,Goal.bt,iD,bD,d4,d1,d2,d3,d5,d6]
  refine aj (aW _) (fun v s' hv=>?_)
  obtain⟨rfl,rfl⟩:=hv
  simp only[zX,simprocAttr,-Int.reduceNatCast',i64,bV,iD,bD,he,W0,WY,d4,d1,d2,d3,d5,d6]
  refine aD dr rfl rfl ?_
  simp only[zX,simprocAttr,-Int.reduceNatCast',i64,iD,bD]
  refine aq mix [] [] (by rfl) ?_
  simp only[zX,simprocAttr,-Int.reduceNatCast',i64,bV,iD,bD,q1,wa,wb,q3,gt_iff_lt]
  exact⟨by decide,by decide,by decide,aU _ _⟩
 rw[if_neg q3]at hr
 unfold b6 dE
 refine aw func52 rfl ntmps52 results52 rfl 3 26328072917139296674479506920917608079723773850137295405767982863 (by simp) (by simp) ?_
 simp only[zX,simprocAttr,-Int.reduceNatCast',i64,bV,Goal.bt,iD,bD,d4,d1,d2,d3,d5,d6]
 refine aj (aW _) (fun v s' hv=>?_)
 obtain⟨rfl,rfl⟩:=hv
 simp only[zX,simprocAttr,-Int.reduceNatCast',i64,bV,iD,bD,he,W0,WY,d4,d1,d2,d3,d5,d6]
 refine aD dr rfl rfl ?_
 simp only[zX,simprocAttr,-Int.reduceNatCast',i64,iD,bD]
 refine aq mix [] [] (by rfl) ?_
 simp only[zX,simprocAttr,-Int.reduceNatCast',i64,bV,iD,bD,q1,wa,wb,q3,gt_iff_lt]
 refine⟨by decide,by decide,by decide,by decide,?_⟩
 obtain⟨N,hN⟩:∃N:Nat,(N:Int)=x2-x1:=⟨(x2-x1).toNat,by omega⟩
 have Vf:(x2-x1).toNat=N:=by omega
 rw[Vf]at hr
 refine aX (fun m e s=>∃(j:Nat),m=N-j∧j≤N∧e 0=.rf 0 g0 0 0∧e 1=.d (Goal.mk kind re k cT next).d∧e 2=i64 i∧e 3=.d (bH c)∧e 13=.rf 4 0 0 0∧e 14=i64 (x1+j)∧s=b6 g0 t ah F s1++[GJ re,RV x1 x2]∧cW t x1 i j=true)
  ⟨_,_,_,dw.refl,0,rfl,by omega,rfl,?_,rfl,rfl,rfl,?_,?_,rfl⟩ ?_
 ·rw[Goal.bt];rfl
 ·simp [bW,i64]
 ·unfold b6 dE GJ RV;simp only[he];rfl
 rintro m e s ⟨j,rfl,hj,h0,h1,h2,h3,fh,eV,rfl,x4⟩
 rw[Goal.bt]at h1
 rcases Xw j N with aS|lW
 ·have l0:x1+(j:Int)<x2:=by omega
  have l1:0≤x1+(j:Int):=by omega
  have l2:x1+(j:Int)<(t.length:Int):=by omega
  have l3:0≤i+(j:Int):=by omega
  have l4:i+(j:Int)<(t.length:Int):=by omega
  have g1:=iA l1 l2
  have g2:=iA l3 l4
  have wc:IntKind.i64.wrap (i+(x1+(j:Int)))=i+(x1+(j:Int)):=bU _ (by omega)
  have wd:IntKind.i64.wrap (i+(x1+(j:Int))-x1)=i+(j:Int):=by rw[bU _ (by omega)];omega
  have we:IntKind.i64.wrap (x1+(j:Int)+1)=x1+((j+1:Nat):Int):=by rw[bU _ (by omega)];omega
  unfold b6 dE GJ RV
  simp only[zX,simprocAttr,-Int.reduceNatCast',i64,bV,iD,bD,WR,WS,h0,h1,h2,h3,fh,eV,l0]
  refine⟨by decide,?_⟩
  refine aq mix [] [] (by rfl) ?_
  by_cases hq:fX t (x1+(j:Int))=fX t (i+(j:Int))
  ·have dq:decide (fX t (x1+(j:Int))=fX t (i+(j:Int)))=true:=decide_eq_true hq
   simp only[zX,simprocAttr,-Int.reduceNatCast',i64,bV,iD,bD,aB,h0,h1,h2,h3,fh,eV,l1,l2,l3,l4,g1,g2,wc,wd,we,dq]
   refine⟨by decide,N-(j+1),_,_,by omega,dw.refl,j+1,rfl,aS,?_,?_,?_,?_,?_,?_,rfl,by rw[xv,x4,hq];simp⟩ <;> (try simp only[zU,Nat.reduceBEq,Nat.reduceShiftRight,Nat.reduceMod,Nat.reduceEqDiff,reduceIte])
   ·exact h0
   ·rw[Goal.bt];exact h1
   ·exact h2
   ·exact h3
   ·exact fh
  ·have dq:decide (fX t (x1+(j:Int))=fX t (i+(j:Int)))=false:=decide_eq_false hq
   have jk:cW t x1 i N=false:=Jj aS hq
   rw[if_neg (by rw[jk];decide)]at hr
   simp only[WX,Xs]at hr
   obtain⟨rfl,rfl⟩:=hr
   simp only[zX,simprocAttr,-Int.reduceNatCast',i64,bV,iD,bD,aB,h0,h1,h2,h3,fh,eV,l1,l2,l3,l4,g1,g2,wc,wd,we,dq]
   exact⟨by decide,aU _ _⟩
 ·have TU:j=N:=by omega
  subst TU
  rw[if_pos x4]at hr
  have hc:=fun ext=>fl (ih g0 _ _ _ _ _ hr) ext
  unfold eW eB b6 dE at hc;simp only[Goal.bt,i64,iD,bD,bV,WR,WS]at hc
  simp only[he]at hc
  have l0:¬x1+(j:Int)<x2:=by omega
  unfold b6 dE GJ RV
  simp only[zX,simprocAttr,-Int.reduceNatCast',i64,bV,iD,bD,WR,WS,h0,h1,h2,h3,fh,eV,l0]
  refine⟨by decide,?_⟩
  refine aq mix [13] [] (by rfl) ?_
  simp only[zX,simprocAttr,-Int.reduceNatCast',i64,bV,iD,bD,h0,h1,h2,h3,fh,eV,wa,wb,he]
  refine⟨by decide,by decide,bu (hc _) ?_⟩
  simp only[zX,simprocAttr,-Int.reduceNatCast',i64,bV,iD,bD]
  first|exact aU _ _|exact⟨aU _ _,rfl⟩
theorem Pq {t:List Int}{F:Int}{n:Nat} (ih:iM t F n) {g0:Nat}{ah:Int}{kind:Int}{re:Re}{k cT:Int}{next:Goal}{i:Int}{c:ar}{st st':aQ}{b:Bool} (o:re.op=4)
  (hr:dA t F n ah (.rep (.mk 1 re 0 0 next) i c) st=some (b,st')) :
  av prog 52 [.rf 0 g0 0 0,.d (Goal.mk kind re k cT next).d,i64 i,.d (bH c)] (b6 g0 t ah F st) fun v s=>v=bV b∧s=b6 g0 t ah F st':=by
 have hc:=fun ext=>fl (ih g0 _ _ _ _ _ hr) ext
 unfold eW eB b6 dE at hc;simp only[Goal.bt,i64,iD,bD,bV,WR,WS]at hc
 have d4:decide (re.op=4)=true:=decide_eq_true o
 unfold b6 dE
 refine aw func52 rfl ntmps52 results52 rfl 3 26328072917139296674479506920917608079723773850137295405767982863 (by simp) (by simp) ?_
 simp only[zX,simprocAttr,-Int.reduceNatCast',i64,bV,Goal.bt,iD,bD,d4]
 refine aH bM.aP ?_
 refine aq mix [10] [(7,[4],[4])] (by rfl) ?_
 simp only[zX,simprocAttr,-Int.reduceNatCast',i64,bV,iD,bD,hole]
 refine bu (aO [4] (by simp [aM,bf,aR.go,aR,bN]) (hc _)) ?_
 simp only[zX,simprocAttr,-Int.reduceNatCast',i64,bV,iD,bD]
 exact aU _ _
theorem JR {t:List Int}{F:Int}{g0:Nat}{ah:Int}{kind:Int}{re:Re}{k cT:Int}{next:Goal}{i:Int}{c:ar}{st s1:aQ} (aW:eL t F g0 ah st s1) (he:s1.empty=true) (o:re.op≠4) :
  av prog 52 [.rf 0 g0 0 0,.d (Goal.mk kind re k cT next).d,i64 i,.d (bH c)] (b6 g0 t ah F st) fun v s=>v=bV true∧s=b6 g0 t ah F s1:=by
 unfold eL b6 dE at aW
 simp only[i64,bV,iD,WR,WS]at aW
 have d4:decide (re.op=4)=false:=decide_eq_false o
 unfold b6 dE
 refine aw func52 rfl ntmps52 results52 rfl 3 26328072917139296674479506920917608079723773850137295405767982863 (by simp) (by simp) ?_
 simp only[zX,simprocAttr,-Int.reduceNatCast',i64,bV,Goal.bt,iD,bD,d4]
 refine aj (aW _) (fun v s' hv=>?_)
 obtain⟨rfl,rfl⟩:=hv
 simp only[zX,simprocAttr,-Int.reduceNatCast',i64,bV,iD,bD,he,W0,WY]
 exact aU _ _
theorem GF {t:List Int} (ht:t.length≤1000000) (F:Int):∀n,iM t F n
 |0=>fun _ _ _ _ _ _ h=>by cases h
 |n+1=>fun g0 ah task st b st' h=>by
  have ih:=GF ht F n
  have h:bI t F (dA t F n) ah task st=some (b,st'):=h
  cases task with
  |run g i c =>
   cases g with
   |nil =>
    simp only[bI]at h
    by_cases hi:i<0∨(t.length:Int)<i
    ·rw[if_pos hi]at h;cases h
    rw[if_neg hi]at h
    by_cases he:st.ends.length<2000000000000∧st.ak.length=st.ends.length
    ·rw[if_pos he]at h
     simp only[WX,Xs]at h
     obtain⟨rfl,rfl⟩:=h
     exact Md he.1 he.2
    ·rw[if_neg he]at h;cases h
   |mk kind re k cT next=>exact run_mk ih h
  |rep g i c =>
   simp only[bI]at h
   by_cases hi:i<0∨(t.length:Int)<i
   ·rw[if_pos hi]at h;cases h
   rw[if_neg hi]at h
   cases g with
   |nil=>cases h
   |mk kind re k cT next =>
    by_cases hm:re.mode=2
    ·exact La ih hm h
    ·exact Kf ih hm h
  |node g i c =>
   simp only[bI]at h
   by_cases hi:i<0∨(t.length:Int)<i
   ·rw[if_pos hi]at h;cases h
   rw[if_neg hi]at h
   cases g with
   |nil=>cases h
   |mk kind re k cT next =>
    simp only at h
    by_cases o4:re.op=4
    ·rw[if_pos o4]at h;exact Pq ih o4 h
    rw[if_neg o4]at h
    by_cases c0:1000000000<re.set.length∨1000000000<re.kids.length∨1000000000<c.length
    ·rw[if_pos c0]at h;cases h
    rw[if_neg c0]at h
    by_cases c1:st.steps<0∨10000000000000<st.steps
    ·rw[if_pos c1]at h;cases h
    rw[if_neg c1]at h
    have aW:eL t F g0 ah st (st.step F):=fun ext=>CS g0 t ah F st (by omega) (by omega) ext
    by_cases he:(st.step F).empty=true
    ·rw[if_pos he]at h
     simp only[WX,Xs]at h
     obtain⟨rfl,rfl⟩:=h
     exact JR aW he o4
    ·rw[if_neg he]at h
     have he:(st.step F).empty=false:=by simpa using he
     have a1:0≤i:=by omega
     have a2:i≤t.length:=by omega
     have a3:re.set.length≤1000000000:=by omega
     have a4:re.kids.length≤1000000000:=by omega
     have a5:c.length≤1000000000:=by omega
     by_cases o1:re.op=1
     ·exact Pk ih ht o1 a1 a2 a3 a4 a5 he aW h
     by_cases o2:re.op=2
     ·exact O7 ih ht o2 a1 a2 a3 a4 a5 he aW h
     by_cases o3:re.op=3
     ·exact Ps ih ht o3 a1 a2 a3 a4 a5 he aW h
     by_cases o5:re.op=5
     ·exact OL ih ht o5 a1 a2 a3 a4 a5 he aW h
     by_cases o6:re.op=6
     ·exact Om ih ht o6 a1 a2 a3 a4 a5 he aW h
     by_cases o7:re.op=7
     ·exact Oj ih ht o7 a1 a2 a3 a4 a5 he aW h
     by_cases o8:re.op=8
     ·exact O5 ih ht o8 a1 a2 a3 a4 a5 he aW h
     by_cases o9:re.op=9
     ·exact OW ih ht o9 a1 a2 a3 a4 a5 he aW h
     by_cases oS:re.op=10
     ·exact Mr ih ht oS a1 a2 a3 a4 a5 he aW h
     by_cases rA:re.op=11
     ·exact L5 ih ht rA a1 a2 a3 a4 a5 he aW h
     exact Fw ih ht ⟨o1,o2,o3,o4,o5,o6,o7,o8,o9,oS,rA⟩ a1 a2 a3 a4 a5 he aW h
end Go.Proofs.YtmihcpdhcillaaaGreat
