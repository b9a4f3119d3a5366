/- A part of the proof (G12 G13 G14). -/
import Derived.Test.YtllagoeijcjpiaaBD9
import Derived.Test.YtllagoeijcjpiaaBD10
import Derived.Test.YtllagoeijcjpiaaBD11
import Derived.Test.YtllagoeijcjpiaaBD12
set_option linter.unusedSimpArgs false
set_option linter.unusedVariables false
set_option maxRecDepth 100000
set_option maxHeartbeats 80000000
namespace Go.Proofs.Ytllagoeijcjpiaa
open Go.VL Go.Proofs.Try
theorem Li {t:List Int}{F:Int}{n:Nat} (ih:je t F n) (ht:t.length≤1000000) {g0:Nat}{ah:Int}{kind:Int}{re:Re}{k bO:Int}{next:Goal}{i:Int}{c:aq}{st s1 st':aU}{b:Bool} (o:re.op=10)
  (hi0:0≤i) (eK:i≤t.length) (cC:re.set.length≤1000000000) (cJ:re.kids.length≤1000000000) (cI:c.length≤1000000000) (he:s1.empty=false) (aH:eS t F g0 ah st s1)
  (hr:eQ t (eh t F n) ah re next i c s1=some (b,st')) :
  az prog 114 [.rf 0 g0 0 0,.d (Goal.mk kind re k bO next).d,i64 i,.d (bd c)] (b7 g0 t ah F st) fun v s=>v=bV b∧s=b7 g0 t ah F st':=by
 unfold eS b7 dN at aH
 simp only[i64,bV,iD,Vz,Vx]at aH
 have d4:decide (re.op=4)=false:=decide_eq_false (by omega)
 have d1:decide (re.op=1)=false:=decide_eq_false (by omega)
 have d2:decide (re.op=2)=false:=decide_eq_false (by omega)
 have d3:decide (re.op=3)=false:=decide_eq_false (by omega)
 have d5:decide (re.op=5)=false:=decide_eq_false (by omega)
 have d6:decide (re.op=6)=false:=decide_eq_false (by omega)
 have d7:decide (re.op=7)=false:=decide_eq_false (by omega)
 have d8:decide (re.op=8)=false:=decide_eq_false (by omega)
 have d9:decide (re.op=9)=false:=decide_eq_false (by omega)
 have d10:decide (re.op=10)=true:=decide_eq_true o
 unfold eQ at hr
 rw[if_neg (by omega),if_neg (by omega),if_neg (by omega),if_neg (by omega),if_neg (by omega),if_neg (by omega),if_neg (by omega),if_pos o]at hr
 have eD:=Gi c re.n cI
 simp only[i64]at eD
 match hk:re.kids with
 |[]=>rw[hk]at hr;cases hr
 |[_]=>rw[hk]at hr;cases hr
 |yes::no::l =>
  rw[hk]at hr
  have dL:re.kids[0]?=some yes:=by rw[hk];rfl
  have eO:re.kids[1]?=some no:=by rw[hk];rfl
  have dg:(0:Int)<(re.kids.length:Int):=by rw[hk,VC];omega
  have wq:(1:Int)<(re.kids.length:Int):=by rw[hk,VC,VC];omega
  clear hk
  simp only at hr
  by_cases q:0≤(bo c re.n).1
  ·rw[if_pos q]at hr
   have hc:=fun ext=>fo (ih g0 _ _ _ _ _ hr) ext
   unfold e8 eE b7 dN at hc;simp only[Goal.aN,i64,iD,bD,bV,Vz,Vx]at hc
   simp only[he]at hc
   unfold b7 dN
   refine av func114 rfl ntmps114 results114 rfl 3 26328072917139296674479506920917608079723773850137295405767982863 (by simp) (by simp) ?_
   simp only[zX,simprocAttr,-Int.reduceNatCast',i64,bV,Goal.aN,iD,bD,d4,d1,d2,d3,d5,d6,d7,d8,d9,d10]
   refine aj (aH _) (fun v s' hv=>?_)
   obtain⟨rfl,rfl⟩:=hv
   simp only[zX,simprocAttr,-Int.reduceNatCast',i64,bV,iD,bD,he,Vt,Vs,d4,d1,d2,d3,d5,d6,d7,d8,d9,d10]
   refine aE eD rfl rfl ?_
   simp only[zX,simprocAttr,-Int.reduceNatCast',i64,iD,bD,dL,dg,eO,wq,aw yes,Re.ae yes,aw no,Re.ae no,q,ge_iff_le]
   refine⟨by decide,?_⟩
   refine aK bL.aV ?_
   refine an mix [10] [(7,[6],[6])] (by rfl) ?_
   simp only[zX,simprocAttr,-Int.reduceNatCast',i64,bV,iD,bD,hole]
   refine bn (aP [6] (by simp [bk,bA,aZ.go,aZ,bQ]) (hc _)) ?_
   simp only[zX,simprocAttr,-Int.reduceNatCast',i64,bV,iD,bD]
   first|exact ba _ _|exact⟨ba _ _,rfl⟩
  ·rw[if_neg q]at hr
   have hc:=fun ext=>fo (ih g0 _ _ _ _ _ hr) ext
   unfold e8 eE b7 dN at hc;simp only[Goal.aN,i64,iD,bD,bV,Vz,Vx]at hc
   simp only[he]at hc
   unfold b7 dN
   refine av func114 rfl ntmps114 results114 rfl 3 26328072917139296674479506920917608079723773850137295405767982863 (by simp) (by simp) ?_
   simp only[zX,simprocAttr,-Int.reduceNatCast',i64,bV,Goal.aN,iD,bD,d4,d1,d2,d3,d5,d6,d7,d8,d9,d10]
   refine aj (aH _) (fun v s' hv=>?_)
   obtain⟨rfl,rfl⟩:=hv
   simp only[zX,simprocAttr,-Int.reduceNatCast',i64,bV,iD,bD,he,Vt,Vs,d4,d1,d2,d3,d5,d6,d7,d8,d9,d10]
   refine aE eD rfl rfl ?_
   simp only[zX,simprocAttr,-Int.reduceNatCast',i64,iD,bD,dL,dg,eO,wq,aw yes,Re.ae yes,aw no,Re.ae no,q,ge_iff_le]
   refine⟨by decide,?_⟩
   refine aK bL.aV ?_
   refine an mix [10] [(7,[6],[6])] (by rfl) ?_
   simp only[zX,simprocAttr,-Int.reduceNatCast',i64,bV,iD,bD,hole]
   refine bn (aP [6] (by simp [bk,bA,aZ.go,aZ,bQ]) (hc _)) ?_
   simp only[zX,simprocAttr,-Int.reduceNatCast',i64,bV,iD,bD]
   first|exact ba _ _|exact⟨ba _ _,rfl⟩
def GD (re:Re):VL.Obj:=⟨0,true,8,[[i64 re.op,.d (.sl (re.set.map aM)),.d (.sl (re.kids.map Re.cells)),i64 re.mn,i64 re.mx,i64 re.mode,i64 re.n,bV re.neg]]⟩
theorem KR (g0:Nat) (t:List Int) (ah F:Int) (st:aU) (n:Nat) (hn:3≤n):(b7 g0 t ah F st).all (cP n)=true:=by
 unfold b7 dN
 simp only[List.all_cons,List.all_nil,cP,Wy]
 rw[mY st.ends iD n,mY st.ai bd n]
 have h1:decide (1<n)=true:=decide_eq_true (by omega)
 have h2:decide (2<n)=true:=decide_eq_true (by omega)
 simp [ar,i64,bV,h1,h2]
theorem si {α:Type}{l:List α}{j:Nat}{x:α} (h:l[j]?=some x):l.drop j=x::l.drop (j+1):=by
 obtain⟨h1,h2⟩:=List.getElem?_eq_some_iff.1 h
 rw[← h2];exact List.drop_eq_getElem_cons h1
theorem N5 {t:List Int}{F:Int}{n:Nat} (ih:je t F n) (ht:t.length≤1000000) {g0:Nat}{ah:Int}{kind:Int}{re:Re}{k bO:Int}{next:Goal}{i:Int}{c:aq}{st s1 st':aU}{b:Bool} (o:re.op=3)
  (hi0:0≤i) (eK:i≤t.length) (cC:re.set.length≤1000000000) (cJ:re.kids.length≤1000000000) (cI:c.length≤1000000000) (he:s1.empty=false) (aH:eS t F g0 ah st s1)
  (hr:eQ t (eh t F n) ah re next i c s1=some (b,st')) :
  az prog 114 [.rf 0 g0 0 0,.d (Goal.mk kind re k bO next).d,i64 i,.d (bd c)] (b7 g0 t ah F st) fun v s=>v=bV b∧s=b7 g0 t ah F st':=by
 unfold eS b7 dN at aH
 simp only[i64,bV,iD,Vz,Vx]at aH
 have d4:decide (re.op=4)=false:=decide_eq_false (by omega)
 have d1:decide (re.op=1)=false:=decide_eq_false (by omega)
 have d2:decide (re.op=2)=false:=decide_eq_false (by omega)
 have d3:decide (re.op=3)=true:=decide_eq_true o
 unfold eQ at hr
 rw[if_neg (by omega),if_neg (by omega),if_pos o]at hr
 unfold b7 dN
 refine av func114 rfl ntmps114 results114 rfl 3 26328072917139296674479506920917608079723773850137295405767982863 (by simp) (by simp) ?_
 simp only[zX,simprocAttr,-Int.reduceNatCast',i64,bV,Goal.aN,iD,bD,d4,d1,d2,d3]
 refine aj (aH _) (fun v s' hv=>?_)
 obtain⟨rfl,rfl⟩:=hv
 simp only[zX,simprocAttr,-Int.reduceNatCast',i64,bV,iD,bD,he,Vt,Vs,d4,d1,d2,d3]
 refine aY (fun m e s=>∃(j:Nat) (s2:aU),m=re.kids.length-j∧j≤re.kids.length∧e 0=.rf 0 g0 0 0∧e 1=.d (Goal.mk kind re k bO next).d∧e 2=i64 i∧e 3=.d (bd c)∧e 9=.rf 3 0 0 0∧e 12=i64 j∧s=b7 g0 t ah F s2++[GD re] ∧
   oM (fun k st=>eh t F n ah (.run (.mk 0 k 0 0 next) i c) st) (re.kids.drop j) s2=some (b,st'))
  ⟨_,_,_,dt.refl,0,s1,rfl,by omega,rfl,?_,rfl,rfl,rfl,rfl,?_,by simpa using hr⟩ ?_
 ·rw[Goal.aN];rfl
 ·unfold b7 dN GD;simp only[he];rfl
 clear hr
 rintro m e s ⟨j,s2,rfl,hj,h0,h1,h2,h3,h9,bW,rfl,hb⟩
 rw[Goal.aN]at h1
 rcases VX j re.kids.length with aT|iR
 ·obtain⟨x,hx⟩:∃x,re.kids[j]?=some x:=⟨_,Vu aT⟩
  rw[si hx]at hb
  simp only[oM]at hb
  cases PR:eh t F n ah (.run (.mk 0 x 0 0 next) i c) s2 with
  |none=>rw[PR]at hb;cases hb
  |some y =>
   obtain⟨b1,s3⟩:=y
   rw[PR]at hb
   have hc:=fun ext=>fo (ih g0 _ _ _ _ _ PR) ext
   unfold e8 eE b7 dN at hc;simp only[Goal.aN,i64,iD,bD,bV,Vz,Vx]at hc
   unfold b7 dN GD
   simp only[zX,simprocAttr,-Int.reduceNatCast',i64,bV,iD,bD,Vz,Vx,h0,h1,h2,h3,h9,bW,aT,hx]
   refine aK bL.aV ?_
   refine an mix [14] [(11,[4],[4])] (by rfl) ?_
   simp only[zX,simprocAttr,-Int.reduceNatCast',i64,bV,iD,bD,hole,h0,h1,h2,h3,h9,bW,aT,hx,aw x,Re.ae x]
   refine bn (aP [4] (by simp [bk,bA,aZ.go,aZ,bQ]) (hc _)) ?_
   cases b1 with
   |true =>
    simp only[rm,Option.some.injEq,Prod.mk.injEq]at hb
    obtain⟨rfl,rfl⟩:=hb
    simp only[zX,simprocAttr,-Int.reduceNatCast',i64,bV,iD,bD]
    first|exact ba _ _|exact⟨ba _ _,rfl⟩
   |false =>
    simp only[rm]at hb
    simp only[zX,simprocAttr,-Int.reduceNatCast',i64,bV,iD,bD,h0,h1,h2,h3,h9,bW]
    refine⟨re.kids.length-(j+1),_,_,by omega,dt.cut (s':=b7 g0 t ah F s3++[GD re]) 4 (by omega) rfl ?_ [0,1,2,3,9,12] ?_,j+1,s3,rfl,aT,?_,?_,?_,?_,?_,?_,rfl,hb⟩
    ·have:=KR g0 t ah F s3 4 (by omega)
     rw[Wi,this];rfl
    ·simp [cu,bg,ar,i64,h0,h1,h2,h3,h9,bW]
    ·simpa [iH,cu,bg,i64]using h0
    ·rw[Goal.aN];simpa [iH,cu,bg,i64]using h1
    ·simpa [iH,cu,bg,i64]using h2
    ·simpa [iH,cu,bg,i64]using h3
    ·simpa [iH,cu,bg,i64]using h9
    ·simp only[iH,cu,List.contains_cons,List.contains_nil,Nat.reduceBEq,WB,VM,VV,Bool.or_true,if_true,Vw,if_false,reduceIte,Nat.reduceEqDiff]
     rw[bR _ (by omega)];rfl
 ·have Hu:j=re.kids.length:=by omega
  subst Hu
  rw[List.drop_length]at hb
  simp only[oM,Option.some.injEq,Prod.mk.injEq]at hb
  obtain⟨rfl,rfl⟩:=hb
  unfold b7 dN GD
  simp only[zX,simprocAttr,-Int.reduceNatCast',i64,bV,iD,bD,Vz,Vx,h0,h1,h2,h3,h9,bW,Wj]
  first|exact ba _ _|exact⟨ba _ _,rfl⟩
theorem NN {t:List Int}{F:Int}{n:Nat} (ih:je t F n) (ht:t.length≤1000000) {g0:Nat}{ah:Int}{kind:Int}{re:Re}{k bO:Int}{next:Goal}{i:Int}{c:aq}{st s1 st':aU}{b:Bool} (o:re.op=2)
  (hi0:0≤i) (eK:i≤t.length) (cC:re.set.length≤1000000000) (cJ:re.kids.length≤1000000000) (cI:c.length≤1000000000) (he:s1.empty=false) (aH:eS t F g0 ah st s1)
  (hr:eQ t (eh t F n) ah re next i c s1=some (b,st')) :
  az prog 114 [.rf 0 g0 0 0,.d (Goal.mk kind re k bO next).d,i64 i,.d (bd c)] (b7 g0 t ah F st) fun v s=>v=bV b∧s=b7 g0 t ah F st':=by
 unfold eS b7 dN at aH
 simp only[i64,bV,iD,Vz,Vx]at aH
 have d4:decide (re.op=4)=false:=decide_eq_false (by omega)
 have d1:decide (re.op=1)=false:=decide_eq_false (by omega)
 have d2:decide (re.op=2)=true:=decide_eq_true o
 unfold eQ at hr
 rw[if_neg (by omega),if_pos o]at hr
 have wl:IntKind.i64.wrap ((re.kids.length:Int)-1)=(re.kids.length:Int)-1:=bR _ (by omega)
 unfold b7 dN
 refine av func114 rfl ntmps114 results114 rfl 3 26328072917139296674479506920917608079723773850137295405767982863 (by simp) (by simp) ?_
 simp only[zX,simprocAttr,-Int.reduceNatCast',i64,bV,Goal.aN,iD,bD,d4,d1,d2]
 refine aj (aH _) (fun v s' hv=>?_)
 obtain⟨rfl,rfl⟩:=hv
 simp only[zX,simprocAttr,-Int.reduceNatCast',i64,bV,iD,bD,he,Vt,Vs,d4,d1,d2]
 refine aY (fun m e s=>∃(j:Nat),m=j∧j≤re.kids.length∧e 0=.rf 0 g0 0 0∧e 2=i64 i∧e 3=.d (bd c)∧e 9=.rf 3 0 0 0∧e 10=.d (gu (re.kids.drop j) next).d∧e 11=i64 ((j:Int)-1)∧s=b7 g0 t ah F s1++[GD re])
  ⟨_,_,_,dt.refl,re.kids.length,rfl,by omega,rfl,rfl,rfl,rfl,?_,?_,?_⟩ ?_
 ·rw[List.drop_length];rfl
 ·simp [cu,wl,i64]
 ·unfold b7 dN GD;simp only[he];rfl
 rintro m e s ⟨j,rfl,hj,h0,h2,h3,h9,de,cq,rfl⟩
 cases m with
 |zero =>
  rw[show ((0:Nat):Int)-1=-1 from rfl]at cq
  rw[Wx]at de
  have hc:=fun ext=>fo (ih g0 _ _ _ _ _ hr) ext
  unfold e8 eE b7 dN at hc;simp only[Goal.aN,i64,iD,bD,bV,Vz,Vx]at hc
  simp only[he]at hc
  unfold b7 dN GD
  simp only[zX,simprocAttr,-Int.reduceNatCast',i64,bV,iD,bD,Vz,Vx,h0,h2,h3,h9,de,cq,ge_iff_le,he]
  (refine aj (hc _) (fun v s' hv=>?_);obtain⟨rfl,rfl⟩:=hv)
  simp only[zX,simprocAttr,-Int.reduceNatCast',i64,bV,iD,bD]
  first|exact ba _ _|exact⟨ba _ _,rfl⟩
 |succ j =>
  rw[show ((j+1:Nat):Int)-1=j by omega]at cq
  have FW:(0:Int)≤(j:Int):=by omega
  have aT:j<re.kids.length:=by omega
  have cn:(j:Int)<(re.kids.length:Int):=by omega
  obtain⟨x,hx⟩:∃x,re.kids[j]?=some x:=⟨_,Vu aT⟩
  have tq:gu (re.kids.drop j) next=.mk 0 x 0 0 (gu (re.kids.drop (j+1)) next):=by rw[si hx];rfl
  generalize gu (re.kids.drop (j+1)) next=G at *
  have w1:IntKind.i64.wrap ((j:Int)-1)=(j:Int)-1:=bR _ (by omega)
  unfold b7 dN GD
  simp only[zX,simprocAttr,-Int.reduceNatCast',i64,bV,iD,bD,Vz,Vx,h0,h2,h3,h9,de,cq,ge_iff_le,FW,aT,cn,hx,aw x,Re.ae x,w1]
  refine⟨j,_,_,by omega,(dt.freeze [4] [10]).trans (dt.cut (s':=b7 g0 t ah F s1++[GD re]) 4 (by omega) rfl ?_ [0,2,3,9,10,11] ?_),j,rfl,by omega,?_,?_,?_,?_,?_,?_,rfl⟩
  ·have:=KR g0 t ah F s1 4 (by omega)
   rw[Wi,this];rfl
  ·simp [fy,cu,bg,ar,i64,h0,h2,h3,h9,de,cq]
   rfl
  ·simpa [iH,fy,cu,bg]using h0
  ·simpa [iH,fy,cu,bg,i64]using h2
  ·simpa [iH,fy,cu,bg]using h3
  ·simpa [iH,fy,cu,bg]using h9
  ·rw[tq,Goal.aN];rfl
  ·rfl
def QZ (x1 x2:Int):VL.Obj:=⟨0,true,2,[[i64 x1,i64 x2]]⟩
theorem x6 {t:List Int}{a i:Int}{j:Nat}:cO t a i (j+1)=(cO t a i j&&(eH t (a+j) == eH t (i+j))):=by
 unfold cO
 rw[List.range_succ,Wi]
 simp
theorem Kt {t:List Int}{a i:Int}{n j:Nat} (hj:j<n) (h:¬eH t (a+j)=eH t (i+j)):cO t a i n=false:=by
 rw[V6]
 intro hs
 unfold cO at hs
 rw[VT]at hs
 have:=hs j (List.mem_range.2 hj)
 simp only[beq_iff_eq]at this
 exact h this
theorem NX {t:List Int}{F:Int}{n:Nat} (ih:je t F n) (ht:t.length≤1000000) {g0:Nat}{ah:Int}{kind:Int}{re:Re}{k bO:Int}{next:Goal}{i:Int}{c:aq}{st s1 st':aU}{b:Bool} (o:re.op=6)
  (hi0:0≤i) (eK:i≤t.length) (cC:re.set.length≤1000000000) (cJ:re.kids.length≤1000000000) (cI:c.length≤1000000000) (he:s1.empty=false) (aH:eS t F g0 ah st s1)
  (hr:eQ t (eh t F n) ah re next i c s1=some (b,st')) :
  az prog 114 [.rf 0 g0 0 0,.d (Goal.mk kind re k bO next).d,i64 i,.d (bd c)] (b7 g0 t ah F st) fun v s=>v=bV b∧s=b7 g0 t ah F st':=by
 unfold eS b7 dN at aH
 simp only[i64,bV,iD,Vz,Vx]at aH
 have d4:decide (re.op=4)=false:=decide_eq_false (by omega)
 have d1:decide (re.op=1)=false:=decide_eq_false (by omega)
 have d2:decide (re.op=2)=false:=decide_eq_false (by omega)
 have d3:decide (re.op=3)=false:=decide_eq_false (by omega)
 have d5:decide (re.op=5)=false:=decide_eq_false (by omega)
 have d6:decide (re.op=6)=true:=decide_eq_true o
 unfold eQ at hr
 rw[if_neg (by omega),if_neg (by omega),if_neg (by omega),if_neg (by omega),if_pos o]at hr
 have eD:=Gi c re.n cI
 generalize bo c re.n=x at *
 obtain⟨x1,x2⟩:=x
 simp only[i64]at eD
 simp only at hr
 by_cases q1:x1<0
 ·rw[if_pos q1]at hr
  simp only[Option.some.injEq,Prod.mk.injEq]at hr
  obtain⟨rfl,rfl⟩:=hr
  unfold b7 dN
  refine av func114 rfl ntmps114 results114 rfl 3 26328072917139296674479506920917608079723773850137295405767982863 (by simp) (by simp) ?_
  simp only[zX,simprocAttr,-Int.reduceNatCast',i64,bV,Goal.aN,iD,bD,d4,d1,d2,d3,d5,d6]
  refine aj (aH _) (fun v s' hv=>?_)
  obtain⟨rfl,rfl⟩:=hv
  simp only[zX,simprocAttr,-Int.reduceNatCast',i64,bV,iD,bD,he,Vt,Vs,d4,d1,d2,d3,d5,d6]
  refine aE eD rfl rfl ?_
  simp only[zX,simprocAttr,-Int.reduceNatCast',i64,iD,bD]
  refine an mix [] [] (by rfl) ?_
  simp only[zX,simprocAttr,-Int.reduceNatCast',i64,bV,iD,bD,q1]
  exact⟨by decide,ba _ _⟩
 rw[if_neg q1]at hr
 by_cases q2:x2<x1∨(t.length:Int)<x2
 ·rw[if_pos q2]at hr;cases hr
 rw[if_neg q2]at hr
 have wa:IntKind.i64.wrap (i+x2)=i+x2:=bR _ (by omega)
 have wb:IntKind.i64.wrap (i+x2-x1)=i+x2-x1:=bR _ (by omega)
 by_cases q3:t.length<i+x2-x1
 ·rw[if_pos q3]at hr
  simp only[Option.some.injEq,Prod.mk.injEq]at hr
  obtain⟨rfl,rfl⟩:=hr
  unfold b7 dN
  refine av func114 rfl ntmps114 results114 rfl 3 26328072917139296674479506920917608079723773850137295405767982863 (by simp) (by simp) ?_
  simp only[zX,simprocAttr,-Int.reduceNatCast',i64,bV,Goal.aN,iD,bD,d4,d1,d2,d3,d5,d6]
  refine aj (aH _) (fun v s' hv=>?_)
  obtain⟨rfl,rfl⟩:=hv
  simp only[zX,simprocAttr,-Int.reduceNatCast',i64,bV,iD,bD,he,Vt,Vs,d4,d1,d2,d3,d5,d6]
  refine aE eD rfl rfl ?_
  simp only[zX,simprocAttr,-Int.reduceNatCast',i64,iD,bD]
  refine an mix [] [] (by rfl) ?_
  simp only[zX,simprocAttr,-Int.reduceNatCast',i64,bV,iD,bD,q1,wa,wb,q3,gt_iff_lt]
  exact⟨by decide,by decide,by decide,ba _ _⟩
 rw[if_neg q3]at hr
 unfold b7 dN
 refine av func114 rfl ntmps114 results114 rfl 3 26328072917139296674479506920917608079723773850137295405767982863 (by simp) (by simp) ?_
 simp only[zX,simprocAttr,-Int.reduceNatCast',i64,bV,Goal.aN,iD,bD,d4,d1,d2,d3,d5,d6]
 refine aj (aH _) (fun v s' hv=>?_)
 obtain⟨rfl,rfl⟩:=hv
 simp only[zX,simprocAttr,-Int.reduceNatCast',i64,bV,iD,bD,he,Vt,Vs,d4,d1,d2,d3,d5,d6]
 refine aE eD rfl rfl ?_
 simp only[zX,simprocAttr,-Int.reduceNatCast',i64,iD,bD]
 refine an mix [] [] (by rfl) ?_
 simp only[zX,simprocAttr,-Int.reduceNatCast',i64,bV,iD,bD,q1,wa,wb,q3,gt_iff_lt]
 refine⟨by decide,by decide,by decide,by decide,?_⟩
 obtain⟨N,hN⟩:∃N:Nat,(N:Int)=x2-x1:=⟨(x2-x1).toNat,by omega⟩
 have P5:(x2-x1).toNat=N:=by omega
 rw[P5]at hr
 refine aY (fun m e s=>∃(j:Nat),m=N-j∧j≤N∧e 0=.rf 0 g0 0 0∧e 1=.d (Goal.mk kind re k bO next).d∧e 2=i64 i∧e 3=.d (bd c)∧e 13=.rf 4 0 0 0∧e 14=i64 (x1+j)∧s=b7 g0 t ah F s1++[GD re,QZ x1 x2]∧cO t x1 i j=true)
  ⟨_,_,_,dt.refl,0,rfl,by omega,rfl,?_,rfl,rfl,rfl,?_,?_,rfl⟩ ?_
 ·rw[Goal.aN];rfl
 ·simp [cu,i64]
 ·unfold b7 dN GD QZ;simp only[he];rfl
 rintro m e s ⟨j,rfl,hj,h0,h1,h2,h3,kf,dh,rfl,ry⟩
 rw[Goal.aN]at h1
 rcases VX j N with aT|iR
 ·have l0:x1+(j:Int)<x2:=by omega
  have l1:0≤x1+(j:Int):=by omega
  have l2:x1+(j:Int)<(t.length:Int):=by omega
  have l3:0≤i+(j:Int):=by omega
  have l4:i+(j:Int)<(t.length:Int):=by omega
  have g1:=fD l1 l2
  have g2:=fD l3 l4
  have wc:IntKind.i64.wrap (i+(x1+(j:Int)))=i+(x1+(j:Int)):=bR _ (by omega)
  have wd:IntKind.i64.wrap (i+(x1+(j:Int))-x1)=i+(j:Int):=by rw[bR _ (by omega)];omega
  have we:IntKind.i64.wrap (x1+(j:Int)+1)=x1+((j+1:Nat):Int):=by rw[bR _ (by omega)];omega
  unfold b7 dN GD QZ
  simp only[zX,simprocAttr,-Int.reduceNatCast',i64,bV,iD,bD,Vz,Vx,h0,h1,h2,h3,kf,dh,l0]
  refine⟨by decide,?_⟩
  refine an mix [] [] (by rfl) ?_
  by_cases hq:eH t (x1+(j:Int))=eH t (i+(j:Int))
  ·have dq:decide (eH t (x1+(j:Int))=eH t (i+(j:Int)))=true:=decide_eq_true hq
   simp only[zX,simprocAttr,-Int.reduceNatCast',i64,bV,iD,bD,ay,h0,h1,h2,h3,kf,dh,l1,l2,l3,l4,g1,g2,wc,wd,we,dq]
   refine⟨by decide,N-(j+1),_,_,by omega,dt.refl,j+1,rfl,aT,?_,?_,?_,?_,?_,?_,rfl,by rw[x6,ry,hq];simp⟩ <;> (try simp only[zU,Nat.reduceBEq,Nat.reduceShiftRight,Nat.reduceMod,Nat.reduceEqDiff,reduceIte])
   ·exact h0
   ·rw[Goal.aN];exact h1
   ·exact h2
   ·exact h3
   ·exact kf
  ·have dq:decide (eH t (x1+(j:Int))=eH t (i+(j:Int)))=false:=decide_eq_false hq
   have oP:cO t x1 i N=false:=Kt aT hq
   rw[if_neg (by rw[oP];decide)]at hr
   simp only[Option.some.injEq,Prod.mk.injEq]at hr
   obtain⟨rfl,rfl⟩:=hr
   simp only[zX,simprocAttr,-Int.reduceNatCast',i64,bV,iD,bD,ay,h0,h1,h2,h3,kf,dh,l1,l2,l3,l4,g1,g2,wc,wd,we,dq]
   exact⟨by decide,ba _ _⟩
 ·have Hu:j=N:=by omega
  subst Hu
  rw[if_pos ry]at hr
  have hc:=fun ext=>fo (ih g0 _ _ _ _ _ hr) ext
  unfold e8 eE b7 dN at hc;simp only[Goal.aN,i64,iD,bD,bV,Vz,Vx]at hc
  simp only[he]at hc
  have l0:¬x1+(j:Int)<x2:=by omega
  unfold b7 dN GD QZ
  simp only[zX,simprocAttr,-Int.reduceNatCast',i64,bV,iD,bD,Vz,Vx,h0,h1,h2,h3,kf,dh,l0]
  refine⟨by decide,?_⟩
  refine an mix [13] [] (by rfl) ?_
  simp only[zX,simprocAttr,-Int.reduceNatCast',i64,bV,iD,bD,h0,h1,h2,h3,kf,dh,wa,wb,he]
  refine⟨by decide,by decide,bn (hc _) ?_⟩
  simp only[zX,simprocAttr,-Int.reduceNatCast',i64,bV,iD,bD]
  first|exact ba _ _|exact⟨ba _ _,rfl⟩
theorem On {t:List Int}{F:Int}{n:Nat} (ih:je t F n) {g0:Nat}{ah:Int}{kind:Int}{re:Re}{k bO:Int}{next:Goal}{i:Int}{c:aq}{st st':aU}{b:Bool} (o:re.op=4)
  (hr:eh t F n ah (.rep (.mk 1 re 0 0 next) i c) st=some (b,st')) :
  az prog 114 [.rf 0 g0 0 0,.d (Goal.mk kind re k bO next).d,i64 i,.d (bd c)] (b7 g0 t ah F st) fun v s=>v=bV b∧s=b7 g0 t ah F st':=by
 have hc:=fun ext=>fo (ih g0 _ _ _ _ _ hr) ext
 unfold e8 eE b7 dN at hc;simp only[Goal.aN,i64,iD,bD,bV,Vz,Vx]at hc
 have d4:decide (re.op=4)=true:=decide_eq_true o
 unfold b7 dN
 refine av func114 rfl ntmps114 results114 rfl 3 26328072917139296674479506920917608079723773850137295405767982863 (by simp) (by simp) ?_
 simp only[zX,simprocAttr,-Int.reduceNatCast',i64,bV,Goal.aN,iD,bD,d4]
 refine aK bL.aV ?_
 refine an mix [10] [(7,[4],[4])] (by rfl) ?_
 simp only[zX,simprocAttr,-Int.reduceNatCast',i64,bV,iD,bD,hole]
 refine bn (aP [4] (by simp [bk,bA,aZ.go,aZ,bQ]) (hc _)) ?_
 simp only[zX,simprocAttr,-Int.reduceNatCast',i64,bV,iD,bD]
 exact ba _ _
theorem IL {t:List Int}{F:Int}{g0:Nat}{ah:Int}{kind:Int}{re:Re}{k bO:Int}{next:Goal}{i:Int}{c:aq}{st s1:aU} (aH:eS t F g0 ah st s1) (he:s1.empty=true) (o:re.op≠4) :
  az prog 114 [.rf 0 g0 0 0,.d (Goal.mk kind re k bO next).d,i64 i,.d (bd c)] (b7 g0 t ah F st) fun v s=>v=bV true∧s=b7 g0 t ah F s1:=by
 unfold eS b7 dN at aH
 simp only[i64,bV,iD,Vz,Vx]at aH
 have d4:decide (re.op=4)=false:=decide_eq_false o
 unfold b7 dN
 refine av func114 rfl ntmps114 results114 rfl 3 26328072917139296674479506920917608079723773850137295405767982863 (by simp) (by simp) ?_
 simp only[zX,simprocAttr,-Int.reduceNatCast',i64,bV,Goal.aN,iD,bD,d4]
 refine aj (aH _) (fun v s' hv=>?_)
 obtain⟨rfl,rfl⟩:=hv
 simp only[zX,simprocAttr,-Int.reduceNatCast',i64,bV,iD,bD,he,Vt,Vs]
 exact ba _ _
theorem Gl {t:List Int} (ht:t.length≤1000000) (F:Int):∀n,je t F n
 |0=>fun _ _ _ _ _ _ h=>by cases h
 |n+1=>fun g0 ah task st b st' h=>by
  have ih:=Gl ht F n
  have h:b8 t F (eh t F n) ah task st=some (b,st'):=h
  cases task with
  |run g i c =>
   cases g with
   |nil =>
    simp only[b8]at h
    by_cases hi:i<0∨(t.length:Int)<i
    ·rw[if_pos hi]at h;cases h
    rw[if_neg hi]at h
    by_cases he:st.ends.length<2000000000000∧st.ai.length=st.ends.length
    ·rw[if_pos he]at h
     simp only[Option.some.injEq,Prod.mk.injEq]at h
     obtain⟨rfl,rfl⟩:=h
     exact Lw he.1 he.2
    ·rw[if_neg he]at h;cases h
   |mk kind re k bO next=>exact run_mk ih h
  |rep g i c =>
   simp only[b8]at h
   by_cases hi:i<0∨(t.length:Int)<i
   ·rw[if_pos hi]at h;cases h
   rw[if_neg hi]at h
   cases g with
   |nil=>cases h
   |mk kind re k bO next =>
    by_cases hm:re.mode=2
    ·exact Jr ih hm h
    ·exact Iz ih hm h
  |node g i c =>
   simp only[b8]at h
   by_cases hi:i<0∨(t.length:Int)<i
   ·rw[if_pos hi]at h;cases h
   rw[if_neg hi]at h
   cases g with
   |nil=>cases h
   |mk kind re k bO next =>
    simp only at h
    by_cases o4:re.op=4
    ·rw[if_pos o4]at h;exact On ih o4 h
    rw[if_neg o4]at h
    by_cases c0:1000000000<re.set.length∨1000000000<re.kids.length∨1000000000<c.length
    ·rw[if_pos c0]at h;cases h
    rw[if_neg c0]at h
    by_cases c1:st.steps<0∨10000000000000<st.steps
    ·rw[if_pos c1]at h;cases h
    rw[if_neg c1]at h
    have aH:eS t F g0 ah st (st.step F):=fun ext=>Ck g0 t ah F st (by omega) (by omega) ext
    by_cases he:(st.step F).empty=true
    ·rw[if_pos he]at h
     simp only[Option.some.injEq,Prod.mk.injEq]at h
     obtain⟨rfl,rfl⟩:=h
     exact IL aH he o4
    ·rw[if_neg he]at h
     have he:(st.step F).empty=false:=by simpa using he
     have a1:0≤i:=by omega
     have a2:i≤t.length:=by omega
     have a3:re.set.length≤1000000000:=by omega
     have a4:re.kids.length≤1000000000:=by omega
     have a5:c.length≤1000000000:=by omega
     by_cases o1:re.op=1
     ·exact Og ih ht o1 a1 a2 a3 a4 a5 he aH h
     by_cases o2:re.op=2
     ·exact NN ih ht o2 a1 a2 a3 a4 a5 he aH h
     by_cases o3:re.op=3
     ·exact N5 ih ht o3 a1 a2 a3 a4 a5 he aH h
     by_cases o5:re.op=5
     ·exact Nt ih ht o5 a1 a2 a3 a4 a5 he aH h
     by_cases o6:re.op=6
     ·exact NX ih ht o6 a1 a2 a3 a4 a5 he aH h
     by_cases o7:re.op=7
     ·exact N7 ih ht o7 a1 a2 a3 a4 a5 he aH h
     by_cases o8:re.op=8
     ·exact Oq ih ht o8 a1 a2 a3 a4 a5 he aH h
     by_cases o9:re.op=9
     ·exact NR ih ht o9 a1 a2 a3 a4 a5 he aH h
     by_cases sg:re.op=10
     ·exact Li ih ht sg a1 a2 a3 a4 a5 he aH h
     by_cases wT:re.op=11
     ·exact Mh ih ht wT a1 a2 a3 a4 a5 he aH h
     exact Fc ih ht ⟨o1,o2,o3,o4,o5,o6,o7,o8,o9,sg,wT⟩ a1 a2 a3 a4 a5 he aH h
end Go.Proofs.Ytllagoeijcjpiaa
