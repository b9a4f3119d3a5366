/- A part of the proof (G13 G14 F17 F18 F19 F20 F21 G3). -/
import Derived.Test.YtfmdmlfhigocaaaOF15
import Derived.Test.YtfmdmlfhigocaaaOF16
import Derived.Test.YtfmdmlfhigocaaaOF17
import Derived.Test.YtfmdmlfhigocaaaOF18
import Derived.Test.YtfmdmlfhigocaaaOF20
set_option linter.unusedSimpArgs false
set_option linter.unusedVariables false
set_option maxRecDepth 100000
set_option maxHeartbeats 80000000
namespace Go.Proofs.Ytfmdmlfhigocaaa
open Go.VL Go.Proofs.Try
theorem PD {t:List Int}{F:Int}{n:Nat} (ih:ja t F n) (ht:t.length<=1000000) {g0:Nat}{most:Int}{kind:Int}{re:Re}{k eA:Int}{next:Goal}{i:Int}{c:aE}{st s1 st':bq}{b:Bool} (o:re.op=2)
  (hi0:0<=i) (mE:i<=t.length) (eO:re.set.length<=1000000000) (rX:re.kids.length<=1000000000) (iJ:c.length<=1000000000) (he:s1.empty=false) (ct:dY t F g0 most st s1)
  (hr:eE t (fG t F n) most re next i c s1=some (b,st')) :
  aq prog 82 [.rf 0 g0 0 0,.d (Goal.mk kind re k eA next).d,i64 i,.d (cy c)] (bF g0 t most F st) fun v s=>v=bV b/\s=bF g0 t most F st':=by
 unfold dY bF cW at ct
 simp only[i64,bV,iD,List.cons_append,List.nil_append]at ct
 have d4:decide (re.op=4)=false:=decide_eq_false (by omega)
 have d1:decide (re.op=1)=false:=decide_eq_false (by omega)
 have d2:decide (re.op=2)=true:=decide_eq_true o
 unfold eE at hr
 rw[if_neg (by omega),if_pos o]at hr
 have wl:IntKind.i64.wrap ((re.kids.length:Int)-1)=(re.kids.length:Int)-1:=br _ (by omega)
 unfold bF cW
 refine an func82 rfl ntmps82 results82 rfl 3 26328072917139296674479506920917608079723773850137295405767982863 (by simp) (by simp) ?_
 simp only[zX,simprocAttr,-Int.reduceNatCast',i64,bV,Goal.bN,iD,bD,d4,d1,d2]
 refine ak (ct _) (fun v s' hv=>?_)
 obtain⟨rfl,rfl⟩:=hv
 simp only[zX,simprocAttr,-Int.reduceNatCast',i64,bV,iD,bD,he,Bool.not_false,Bool.not_true,d4,d1,d2]
 refine ay (fun m e s=>∃(j:Nat),m=j/\j<=re.kids.length/\e 0=.rf 0 g0 0 0/\e 2=i64 i/\e 3=.d (cy c)/\e 9=.rf 3 0 0 0/\e 10=.d (ov (re.kids.drop j) next).d/\e 11=i64 ((j:Int)-1)/\s=bF g0 t most F s1++[Ij re])
  ⟨_,_,_,bI.refl,re.kids.length,rfl,by omega,rfl,rfl,rfl,rfl,?_,?_,?_⟩ ?_
 ·rw[List.drop_length];rfl
 ·simp [bB,wl,i64]
 ·unfold bF cW Ij;simp only[he];rfl
 rintro m e s ⟨j,rfl,hj,h0,h2,h3,h9,dC,kt,rfl⟩
 cases m with
 |zero =>
  rw[show ((0:Nat):Int)-1=-1 from rfl]at kt
  rw[List.drop_zero]at dC
  have hc:=fun ext=>eG (ih g0 _ _ _ _ _ hr) ext
  unfold ey dL bF cW at hc;simp only[Goal.bN,i64,iD,bD,bV,List.cons_append,List.nil_append]at hc
  simp only[he]at hc
  unfold bF cW Ij
  simp only[zX,simprocAttr,-Int.reduceNatCast',i64,bV,iD,bD,List.cons_append,List.nil_append,h0,h2,h3,h9,dC,kt,ge_iff_le,he]
  (refine ak (hc _) (fun v s' hv=>?_);obtain⟨rfl,rfl⟩:=hv)
  simp only[zX,simprocAttr,-Int.reduceNatCast',i64,bV,iD,bD]
  first|exact aI _ _|exact⟨aI _ _,rfl⟩
 |succ j =>
  rw[show ((j+1:Nat):Int)-1=j by omega]at kt
  have Mu:(0:Int)<=(j:Int):=by omega
  have az:j<re.kids.length:=by omega
  have aK:(j:Int)<(re.kids.length:Int):=by omega
  obtain⟨x,hx⟩:∃x,re.kids[j]?=some x:=⟨_,List.getElem?_eq_getElem az⟩
  have SB:ov (re.kids.drop j) next=.mk 0 x 0 0 (ov (re.kids.drop (j+1)) next):=by rw[CR hx];rfl
  generalize ov (re.kids.drop (j+1)) next=G at *
  have w1:IntKind.i64.wrap ((j:Int)-1)=(j:Int)-1:=br _ (by omega)
  unfold bF cW Ij
  simp only[zX,simprocAttr,-Int.reduceNatCast',i64,bV,iD,bD,List.cons_append,List.nil_append,h0,h2,h3,h9,dC,kt,ge_iff_le,Mu,az,aK,hx,aj x,Re.ae x,w1]
  refine⟨j,_,_,by omega,(bI.freeze [4] [10]).trans (bI.cut (s':=bF g0 t most F s1++[Ij re]) 4 (by omega) rfl ?_ [0,2,3,9,10,11] ?_),j,rfl,by omega,?_,?_,?_,?_,?_,?_,rfl⟩
  ·have:=Mf g0 t most F s1 4 (by omega)
   rw[List.all_append,this];rfl
  ·simp [lp,bB,aL,ah,i64,h0,h2,h3,h9,dC,kt]
   rfl
  ·simpa [mJ,lp,bB,aL]using h0
  ·simpa [mJ,lp,bB,aL,i64]using h2
  ·simpa [mJ,lp,bB,aL]using h3
  ·simpa [mJ,lp,bB,aL]using h9
  ·rw[SB,Goal.bN];rfl
  ·rfl
def Td (x1 x2:Int):VL.Obj:=⟨0,true,2,[[i64 x1,i64 x2]]⟩
theorem G5 {t:List Int}{a i:Int}{j:Nat}:oW t a i (j+1)=(oW t a i j&&(kW t (a+j) == kW t (i+j))):=by
 unfold oW
 rw[List.range_succ,List.all_append]
 simp
theorem LN {t:List Int}{a i:Int}{n j:Nat} (hj:j<n) (h:¬kW t (a+j)=kW t (i+j)):oW t a i n=false:=by
 rw[Bool.eq_false_iff]
 intro hs
 unfold oW at hs
 rw[List.all_eq_true]at hs
 have:=hs j (List.mem_range.2 hj)
 simp only[beq_iff_eq]at this
 exact h this
theorem PO {t:List Int}{F:Int}{n:Nat} (ih:ja t F n) (ht:t.length<=1000000) {g0:Nat}{most:Int}{kind:Int}{re:Re}{k eA:Int}{next:Goal}{i:Int}{c:aE}{st s1 st':bq}{b:Bool} (o:re.op=6)
  (hi0:0<=i) (mE:i<=t.length) (eO:re.set.length<=1000000000) (rX:re.kids.length<=1000000000) (iJ:c.length<=1000000000) (he:s1.empty=false) (ct:dY t F g0 most st s1)
  (hr:eE t (fG t F n) most re next i c s1=some (b,st')) :
  aq prog 82 [.rf 0 g0 0 0,.d (Goal.mk kind re k eA next).d,i64 i,.d (cy c)] (bF g0 t most F st) fun v s=>v=bV b/\s=bF g0 t most F st':=by
 unfold dY bF cW at ct
 simp only[i64,bV,iD,List.cons_append,List.nil_append]at ct
 have d4:decide (re.op=4)=false:=decide_eq_false (by omega)
 have d1:decide (re.op=1)=false:=decide_eq_false (by omega)
 have d2:decide (re.op=2)=false:=decide_eq_false (by omega)
 have d3:decide (re.op=3)=false:=decide_eq_false (by omega)
 have d5:decide (re.op=5)=false:=decide_eq_false (by omega)
 have d6:decide (re.op=6)=true:=decide_eq_true o
 unfold eE at hr
 rw[if_neg (by omega),if_neg (by omega),if_neg (by omega),if_neg (by omega),if_pos o]at hr
 have mm:=HQ c re.n iJ
 generalize ck c re.n=x at *
 obtain⟨x1,x2⟩:=x
 simp only[i64]at mm
 simp only at hr
 by_cases q1:x1<0
 ·rw[if_pos q1]at hr
  simp only[Option.some.injEq,Prod.mk.injEq]at hr
  obtain⟨rfl,rfl⟩:=hr
  unfold bF cW
  refine an func82 rfl ntmps82 results82 rfl 3 26328072917139296674479506920917608079723773850137295405767982863 (by simp) (by simp) ?_
  simp only[zX,simprocAttr,-Int.reduceNatCast',i64,bV,Goal.bN,iD,bD,d4,d1,d2,d3,d5,d6]
  refine ak (ct _) (fun v s' hv=>?_)
  obtain⟨rfl,rfl⟩:=hv
  simp only[zX,simprocAttr,-Int.reduceNatCast',i64,bV,iD,bD,he,Bool.not_false,Bool.not_true,d4,d1,d2,d3,d5,d6]
  refine al mm rfl rfl ?_
  simp only[zX,simprocAttr,-Int.reduceNatCast',i64,iD,bD]
  refine ar mix [] [] (by rfl) ?_
  simp only[zX,simprocAttr,-Int.reduceNatCast',i64,bV,iD,bD,q1]
  exact⟨by decide,aI _ _⟩
 rw[if_neg q1]at hr
 by_cases q2:x2<x1\/(t.length:Int)<x2
 ·rw[if_pos q2]at hr;cases hr
 rw[if_neg q2]at hr
 have wa:IntKind.i64.wrap (i+x2)=i+x2:=br _ (by omega)
 have wb:IntKind.i64.wrap (i+x2-x1)=i+x2-x1:=br _ (by omega)
 by_cases q3:t.length<i+x2-x1
 ·rw[if_pos q3]at hr
  simp only[Option.some.injEq,Prod.mk.injEq]at hr
  obtain⟨rfl,rfl⟩:=hr
  unfold bF cW
  refine an func82 rfl ntmps82 results82 rfl 3 26328072917139296674479506920917608079723773850137295405767982863 (by simp) (by simp) ?_
  simp only[zX,simprocAttr,-Int.reduceNatCast',i64,bV,Goal.bN,iD,bD,d4,d1,d2,d3,d5,d6]
  refine ak (ct _) (fun v s' hv=>?_)
  obtain⟨rfl,rfl⟩:=hv
  simp only[zX,simprocAttr,-Int.reduceNatCast',i64,bV,iD,bD,he,Bool.not_false,Bool.not_true,d4,d1,d2,d3,d5,d6]
  refine al mm rfl rfl ?_
  simp only[zX,simprocAttr,-Int.reduceNatCast',i64,iD,bD]
  refine ar mix [] [] (by rfl) ?_
  simp only[zX,simprocAttr,-Int.reduceNatCast',i64,bV,iD,bD,q1,wa,wb,q3,gt_iff_lt]
  exact⟨by decide,by decide,by decide,aI _ _⟩
 rw[if_neg q3]at hr
 unfold bF cW
 refine an func82 rfl ntmps82 results82 rfl 3 26328072917139296674479506920917608079723773850137295405767982863 (by simp) (by simp) ?_
 simp only[zX,simprocAttr,-Int.reduceNatCast',i64,bV,Goal.bN,iD,bD,d4,d1,d2,d3,d5,d6]
 refine ak (ct _) (fun v s' hv=>?_)
 obtain⟨rfl,rfl⟩:=hv
 simp only[zX,simprocAttr,-Int.reduceNatCast',i64,bV,iD,bD,he,Bool.not_false,Bool.not_true,d4,d1,d2,d3,d5,d6]
 refine al mm rfl rfl ?_
 simp only[zX,simprocAttr,-Int.reduceNatCast',i64,iD,bD]
 refine ar mix [] [] (by rfl) ?_
 simp only[zX,simprocAttr,-Int.reduceNatCast',i64,bV,iD,bD,q1,wa,wb,q3,gt_iff_lt]
 refine⟨by decide,by decide,by decide,by decide,?_⟩
 obtain⟨N,hN⟩:∃N:Nat,(N:Int)=x2-x1:=⟨(x2-x1).toNat,by omega⟩
 have Yl:(x2-x1).toNat=N:=by omega
 rw[Yl]at hr
 refine ay (fun m e s=>∃(j:Nat),m=N-j/\j<=N/\e 0=.rf 0 g0 0 0/\e 1=.d (Goal.mk kind re k eA next).d/\e 2=i64 i/\e 3=.d (cy c)/\e 13=.rf 4 0 0 0/\e 14=i64 (x1+j)/\s=bF g0 t most F s1++[Ij re,Td x1 x2]/\oW t x1 i j=true)
  ⟨_,_,_,bI.refl,0,rfl,by omega,rfl,?_,rfl,rfl,rfl,?_,?_,rfl⟩ ?_
 ·rw[Goal.bN];rfl
 ·simp [bB,i64]
 ·unfold bF cW Ij Td;simp only[he];rfl
 rintro m e s ⟨j,rfl,hj,h0,h1,h2,h3,ta,fQ,rfl,Oq⟩
 rw[Goal.bN]at h1
 rcases Nat.lt_or_ge j N with az|ib
 ·have l0:x1+(j:Int)<x2:=by omega
  have l1:0<=x1+(j:Int):=by omega
  have l2:x1+(j:Int)<(t.length:Int):=by omega
  have l3:0<=i+(j:Int):=by omega
  have l4:i+(j:Int)<(t.length:Int):=by omega
  have g1:=lF l1 l2
  have g2:=lF l3 l4
  have wc:IntKind.i64.wrap (i+(x1+(j:Int)))=i+(x1+(j:Int)):=br _ (by omega)
  have wd:IntKind.i64.wrap (i+(x1+(j:Int))-x1)=i+(j:Int):=by rw[br _ (by omega)];omega
  have we:IntKind.i64.wrap (x1+(j:Int)+1)=x1+((j+1:Nat):Int):=by rw[br _ (by omega)];omega
  unfold bF cW Ij Td
  simp only[zX,simprocAttr,-Int.reduceNatCast',i64,bV,iD,bD,List.cons_append,List.nil_append,h0,h1,h2,h3,ta,fQ,l0]
  refine⟨by decide,?_⟩
  refine ar mix [] [] (by rfl) ?_
  by_cases hq:kW t (x1+(j:Int))=kW t (i+(j:Int))
  ·have dq:decide (kW t (x1+(j:Int))=kW t (i+(j:Int)))=true:=decide_eq_true hq
   simp only[zX,simprocAttr,-Int.reduceNatCast',i64,bV,iD,bD,ao,h0,h1,h2,h3,ta,fQ,l1,l2,l3,l4,g1,g2,wc,wd,we,dq]
   refine⟨by decide,N-(j+1),_,_,by omega,bI.refl,j+1,rfl,az,?_,?_,?_,?_,?_,?_,rfl,by rw[G5,Oq,hq];simp⟩ <;> (try simp only[zU,Nat.reduceBEq,Nat.reduceShiftRight,Nat.reduceMod,Nat.reduceEqDiff,reduceIte])
   ·exact h0
   ·rw[Goal.bN];exact h1
   ·exact h2
   ·exact h3
   ·exact ta
  ·have dq:decide (kW t (x1+(j:Int))=kW t (i+(j:Int)))=false:=decide_eq_false hq
   have lM:oW t x1 i N=false:=LN az hq
   rw[if_neg (by rw[lM];decide)]at hr
   simp only[Option.some.injEq,Prod.mk.injEq]at hr
   obtain⟨rfl,rfl⟩:=hr
   simp only[zX,simprocAttr,-Int.reduceNatCast',i64,bV,iD,bD,ao,h0,h1,h2,h3,ta,fQ,l1,l2,l3,l4,g1,g2,wc,wd,we,dq]
   exact⟨by decide,aI _ _⟩
 ·have Lb:j=N:=by omega
  subst Lb
  rw[if_pos Oq]at hr
  have hc:=fun ext=>eG (ih g0 _ _ _ _ _ hr) ext
  unfold ey dL bF cW at hc;simp only[Goal.bN,i64,iD,bD,bV,List.cons_append,List.nil_append]at hc
  simp only[he]at hc
  have l0:¬x1+(j:Int)<x2:=by omega
  unfold bF cW Ij Td
  simp only[zX,simprocAttr,-Int.reduceNatCast',i64,bV,iD,bD,List.cons_append,List.nil_append,h0,h1,h2,h3,ta,fQ,l0]
  refine⟨by decide,?_⟩
  refine ar mix [13] [] (by rfl) ?_
  simp only[zX,simprocAttr,-Int.reduceNatCast',i64,bV,iD,bD,h0,h1,h2,h3,ta,fQ,wa,wb,he]
  refine⟨by decide,by decide,eh (hc _) ?_⟩
  simp only[zX,simprocAttr,-Int.reduceNatCast',i64,bV,iD,bD]
  first|exact aI _ _|exact⟨aI _ _,rfl⟩
theorem Qq {t:List Int}{F:Int}{n:Nat} (ih:ja t F n) {g0:Nat}{most:Int}{kind:Int}{re:Re}{k eA:Int}{next:Goal}{i:Int}{c:aE}{st st':bq}{b:Bool} (o:re.op=4)
  (hr:fG t F n most (.rep (.mk 1 re 0 0 next) i c) st=some (b,st')) :
  aq prog 82 [.rf 0 g0 0 0,.d (Goal.mk kind re k eA next).d,i64 i,.d (cy c)] (bF g0 t most F st) fun v s=>v=bV b/\s=bF g0 t most F st':=by
 have hc:=fun ext=>eG (ih g0 _ _ _ _ _ hr) ext
 unfold ey dL bF cW at hc;simp only[Goal.bN,i64,iD,bD,bV,List.cons_append,List.nil_append]at hc
 have d4:decide (re.op=4)=true:=decide_eq_true o
 unfold bF cW
 refine an func82 rfl ntmps82 results82 rfl 3 26328072917139296674479506920917608079723773850137295405767982863 (by simp) (by simp) ?_
 simp only[zX,simprocAttr,-Int.reduceNatCast',i64,bV,Goal.bN,iD,bD,d4]
 refine aT bZ.bk ?_
 refine ar mix [10] [(7,[4],[4])] (by rfl) ?_
 simp only[zX,simprocAttr,-Int.reduceNatCast',i64,bV,iD,bD,hole]
 refine eh (bA [4] (by simp [ca,bS,bh.go,bh,cA]) (hc _)) ?_
 simp only[zX,simprocAttr,-Int.reduceNatCast',i64,bV,iD,bD]
 exact aI _ _
theorem Kb {t:List Int}{F:Int}{g0:Nat}{most:Int}{kind:Int}{re:Re}{k eA:Int}{next:Goal}{i:Int}{c:aE}{st s1:bq} (ct:dY t F g0 most st s1) (he:s1.empty=true) (o:re.op≠4) :
  aq prog 82 [.rf 0 g0 0 0,.d (Goal.mk kind re k eA next).d,i64 i,.d (cy c)] (bF g0 t most F st) fun v s=>v=bV true/\s=bF g0 t most F s1:=by
 unfold dY bF cW at ct
 simp only[i64,bV,iD,List.cons_append,List.nil_append]at ct
 have d4:decide (re.op=4)=false:=decide_eq_false o
 unfold bF cW
 refine an func82 rfl ntmps82 results82 rfl 3 26328072917139296674479506920917608079723773850137295405767982863 (by simp) (by simp) ?_
 simp only[zX,simprocAttr,-Int.reduceNatCast',i64,bV,Goal.bN,iD,bD,d4]
 refine ak (ct _) (fun v s' hv=>?_)
 obtain⟨rfl,rfl⟩:=hv
 simp only[zX,simprocAttr,-Int.reduceNatCast',i64,bV,iD,bD,he,Bool.not_false,Bool.not_true]
 exact aI _ _
theorem HV {t:List Int} (ht:t.length<=1000000) (F:Int):∀n,ja t F n
 |0=>fun _ _ _ _ _ _ h=>by cases h
 |n+1=>fun g0 most task st b st' h=>by
  have ih:=HV ht F n
  have h:cn t F (fG t F n) most task st=some (b,st'):=h
  cases task with
  |run g i c =>
   cases g with
   |nil =>
    simp only[cn]at h
    by_cases hi:i<0\/(t.length:Int)<i
    ·rw[if_pos hi]at h;cases h
    rw[if_neg hi]at h
    by_cases he:st.ends.length<2000000000000/\st.ai.length=st.ends.length
    ·rw[if_pos he]at h
     simp only[Option.some.injEq,Prod.mk.injEq]at h
     obtain⟨rfl,rfl⟩:=h
     exact M8 he.1 he.2
    ·rw[if_neg he]at h;cases h
   |mk kind re k eA next=>exact run_mk ih h
  |rep g i c =>
   simp only[cn]at h
   by_cases hi:i<0\/(t.length:Int)<i
   ·rw[if_pos hi]at h;cases h
   rw[if_neg hi]at h
   cases g with
   |nil=>cases h
   |mk kind re k eA next =>
    by_cases hm:re.mode=2
    ·exact KT ih hm h
    ·exact J2 ih hm h
  |node g i c =>
   simp only[cn]at h
   by_cases hi:i<0\/(t.length:Int)<i
   ·rw[if_pos hi]at h;cases h
   rw[if_neg hi]at h
   cases g with
   |nil=>cases h
   |mk kind re k eA next =>
    simp only at h
    by_cases o4:re.op=4
    ·rw[if_pos o4]at h;exact Qq ih o4 h
    rw[if_neg o4]at h
    by_cases c0:1000000000<re.set.length\/1000000000<re.kids.length\/1000000000<c.length
    ·rw[if_pos c0]at h;cases h
    rw[if_neg c0]at h
    by_cases c1:st.steps<0\/10000000000000<st.steps
    ·rw[if_pos c1]at h;cases h
    rw[if_neg c1]at h
    have ct:dY t F g0 most st (st.step F):=fun ext=>DQ g0 t most F st (by omega) (by omega) ext
    by_cases he:(st.step F).empty=true
    ·rw[if_pos he]at h
     simp only[Option.some.injEq,Prod.mk.injEq]at h
     obtain⟨rfl,rfl⟩:=h
     exact Kb ct he o4
    ·rw[if_neg he]at h
     have he:(st.step F).empty=false:=by simpa using he
     have a1:0<=i:=by omega
     have a2:i<=t.length:=by omega
     have a3:re.set.length<=1000000000:=by omega
     have a4:re.kids.length<=1000000000:=by omega
     have a5:c.length<=1000000000:=by omega
     by_cases o1:re.op=1
     ·exact Qe ih ht o1 a1 a2 a3 a4 a5 he ct h
     by_cases o2:re.op=2
     ·exact PD ih ht o2 a1 a2 a3 a4 a5 he ct h
     by_cases o3:re.op=3
     ·exact PZ ih ht o3 a1 a2 a3 a4 a5 he ct h
     by_cases o5:re.op=5
     ·exact Pm ih ht o5 a1 a2 a3 a4 a5 he ct h
     by_cases o6:re.op=6
     ·exact PO ih ht o6 a1 a2 a3 a4 a5 he ct h
     by_cases o7:re.op=7
     ·exact P3 ih ht o7 a1 a2 a3 a4 a5 he ct h
     by_cases o8:re.op=8
     ·exact Qs ih ht o8 a1 a2 a3 a4 a5 he ct h
     by_cases o9:re.op=9
     ·exact PG ih ht o9 a1 a2 a3 a4 a5 he ct h
     by_cases FD:re.op=10
     ·exact MK ih ht FD a1 a2 a3 a4 a5 he ct h
     by_cases FF:re.op=11
     ·exact NS ih ht FF a1 a2 a3 a4 a5 he ct h
     exact GI ih ht ⟨o1,o2,o3,o4,o5,o6,o7,o8,o9,FD,FF⟩ a1 a2 a3 a4 a5 he ct h
end Go.Proofs.Ytfmdmlfhigocaaa
namespace Go.Proofs.Ytfmdmlfhigocaaa
open Go.VL Go.Proofs.Try
end Go.Proofs.Ytfmdmlfhigocaaa
namespace Go.Proofs.Ytfmdmlfhigocaaa
open Go.VL Go.Proofs.Try
mutual
def Re.every (p:Re->Bool):Re->Bool
 |.mk op set kids mn mx mode n neg=>p (.mk op set kids mn mx mode n neg)&&Re.Cv p kids
def Re.Cv (p:Re->Bool):List Re->Bool
 |[]=>true
 |k::l=>Re.every p k&&Re.Cv p l
end
theorem Re.yq (p:Re->Bool):∀l:List Re,Re.Cv p l=l.all (Re.every p)
 |[]=>rfl
 |k::l=>by simp [Re.Cv,Re.yq p l]
theorem Re.aS {p:Re->Bool} (re:Re):re.every p=true ↔ p re=true/\∀k∈re.kids,k.every p=true:=by
 cases re with
 |mk op set kids mn mx mode n neg=>simp only[Re.every,Bool.and_eq_true,Re.yq,List.all_eq_true,Re.kids]
def ij (re:Re):Bool:=decide ((re.op=4\/re.op=5\/re.op=7\/re.op=8\/re.op=9->re.kids≠[])/\(re.op=10->2<=re.kids.length)/\re.set.length<=1000000000/\re.kids.length<=1000000000)
def LA (t:List Int) (p:Int×Int):Prop:=p=(-1,-1)\/(0<=p.1/\p.1<=p.2/\p.2<=t.length)
def gR (t:List Int) (c:aE):Prop:=c.length<=1000000000/\∀p∈c,LA t p
def ig (t:List Int) (i s:Int):Goal->Prop
 |.nil=>True
 |.mk kind re k eA next=>(0<=kind/\kind<=4)/\re.every ij=true/\(kind=1\/kind=2->re.op=4)/\(kind=1->0<=k/\k<=s)/\(kind=2->0<=k/\k<s)/\(kind=3->0<=eA/\eA<=i)/\ig t i s next
theorem ig.mono {t:List Int}{i i' s s':Int} (hi:i<=i') (hs:s<=s'):∀{g:Goal},ig t i s g->ig t i' s' g
 |.nil,_=>trivial
 |.mk _ _ _ _ _,h=>by
  obtain⟨h0,h1,h2,h3,h4,h5,h6⟩:=h
  exact⟨h0,h1,h2,fun k=>by have:=h3 k;omega,fun k=>by have:=h4 k;omega,fun k=>by have:=h5 k;omega,h6.mono hi hs⟩
def tE:Goal->Nat
 |.nil=>0
 |.mk kind re _ _ next=>if kind=1 then (if re.mode=2 then 4 else 2) else if kind=2 then 5 else if kind=3\/kind=4 then 7+tE next else 6
def dF:Goal->Int
 |.nil=>1
 |.mk kind _ _ _ next=>if kind=3\/kind=4 then dF next else 0
theorem fO:∀g:Goal,0<=dF g/\dF g<=1
 |.nil=>by simp [dF]
 |.mk kind _ _ _ next=>by
  have:=fO next
  unfold dF
  split
  ·exact this
  ·omega
def Task.vp:Task->Nat
 |.run g _ _=>tE g
 |.rep (.mk _ re _ _ _) _ _=>if re.mode=2 then 3 else 1
 |.rep .nil _ _=>0
 |.node _ _ _=>5
def Task.fJ:Task->Int
 |.run g _ _=>dF g
 |_=>0
def Task.pos:Task->Int
 |.run _ i _=>i
 |.rep _ i _=>i
 |.node _ i _=>i
def Task.ai:Task->aE
 |.run _ _ c=>c
 |.rep _ _ c=>c
 |.node _ _ c=>c
def Task.yN:Task->Prop
 |.run (.mk kind re _ _ _) _ _=>kind=1/\re.mode≠2
 |.run .nil _ _=>False
 |.rep (.mk _ re _ _ _) _ _=>re.mode≠2
 |.rep .nil _ _=>False
 |.node (.mk _ re _ _ _) _ _=>re.op≠4
 |.node .nil _ _=>False
def Task.ok (t:List Int) (s:Int):Task->Prop
 |.run g i _=>ig t i s g
 |.rep .nil _ _=>False
 |.rep (.mk _ re k _ next) i _=>re.every ij=true/\re.op=4/\0<=k/\k<=s/\ig t i s next
 |.node .nil _ _=>False
 |.node (.mk _ re _ _ next) i _=>re.every ij=true/\ig t i s next
structure Zr (t:List Int) (F:Int) (task:Task) (st:bq):Prop where
 ok:task.ok t st.steps
 i0:0<=task.pos
 i1:task.pos<=t.length
 ai:gR t task.ai
 empty:st.empty=false
 s0:0<=st.steps
 s1:st.steps<=F
 ends:(st.ends.length:Int)+task.fJ<=st.steps
 same:st.ai.length=st.ends.length
structure dx (t:List Int) (F:Int) (sl i:Int) (nc:Nat) (st:bq) (b:Bool) (st':bq):Prop where
 s0:st.steps<=st'.steps
 s1:st'.steps<=F+1
 empty:st'.empty=decide (F<st'.steps)
 full:st'.empty=true->b=true
 more:∃new sZ,st'.ends=st.ends++new/\st'.ai=st.ai++sZ/\sZ.length=new.length/\(new.length:Int)<=st'.steps-st.steps+sl/\(∀e∈new,i<=e/\e<=t.length)/\∀d∈sZ,gR t d/\d.length=nc
theorem dx.Gt {t:List Int}{F sl sl' i i':Int}{nc:Nat}{st st':bq}{b:Bool} (h:dx t F sl i nc st b st') (hs:sl<=sl') (hi:i'<=i):dx t F sl' i' nc st b st':=by
 obtain⟨new,sZ,h1,h2,h3,h4,h5,h6⟩:=h.more
 exact⟨h.s0,h.s1,h.empty,h.full,new,sZ,h1,h2,h3,by omega,fun e he=>⟨by have:=h5 e he;omega,(h5 e he).2⟩,h6⟩
theorem dx.trans {t:List Int}{F W0 WX i:Int}{nc:Nat}{st s2 st':bq}{b1 b:Bool} (h:dx t F W0 i nc st b1 s2) (k:dx t F WX i nc s2 b st'):dx t F (W0+WX) i nc st b st':=by
 obtain⟨new,sZ,h1,h2,h3,h4,h5,h6⟩:=h.more
 obtain⟨VV,RT,k1,k2,k3,k4,k5,k6⟩:=k.more
 refine⟨by have:=h.s0;have:=k.s0;omega,k.s1,k.empty,k.full,new++VV,sZ++RT,by rw[k1,h1,List.append_assoc],by rw[k2,h2,List.append_assoc],by simp [h3,k3],by simp only[List.length_append,Int.natCast_add];omega,fun e he=>?_,fun d hd=>?_⟩
 ·rcases List.mem_append.1 he with he|he
  ·exact h5 e he
  ·exact k5 e he
 ·rcases List.mem_append.1 hd with hd|hd
  ·exact h6 d hd
  ·exact k6 d hd
theorem dx.step {t:List Int}{F sl i:Int}{nc:Nat}{st st':bq}{b:Bool} (h:dx t F sl i nc (st.step F) b st'):dx t F (sl-1) i nc st b st':=by
 obtain⟨new,sZ,h1,h2,h3,h4,h5,h6⟩:=h.more
 have hs:(st.step F).steps=st.steps+1:=rfl
 rw[hs]at h4
 exact⟨by have:=h.s0;rw[hs]at this;omega,h.s1,h.empty,h.full,new,sZ,h1,h2,h3,by omega,h5,h6⟩
theorem dx.no {t:List Int}{F sl i:Int}{nc:Nat}{st:bq} (h1:st.steps<=F) (h2:st.empty=false) (hs:0<=sl):dx t F sl i nc st false st :=
 ⟨Int.le_refl _,by omega,by rw[h2,decide_eq_false (by omega)],fun h=>(by rw[h2]at h;cases h),[],[],by simp,by simp,rfl,(by simp;omega),by simp,by simp⟩
theorem dx.out {t:List Int}{F i:Int}{nc:Nat}{st:bq} (h1:st.steps<=F) (h2:(st.step F).empty=true) (he:st.empty=false):dx t F 0 i nc st true (st.step F):=by
 have hs:(st.step F).steps=st.steps+1:=rfl
 have hd:F<st.steps+1:=by
  simp only[bq.step,he,Bool.false_or,decide_eq_true_eq]at h2
  exact h2
 exact⟨by rw[hs];omega,by rw[hs];omega,by rw[h2,hs,decide_eq_true hd],fun _=>rfl,[],[],by simp [bq.step],by simp [bq.step],rfl,(by rw[hs];simp;try omega),by simp,by simp⟩
def Ends (t:List Int) (F most:Int) (task:Task) (st:bq):Prop :=
 ∃n b st',fG t F n most task st=some (b,st')/\dx t F task.fJ task.pos task.ai.length st b st'/\(task.yN->st.steps<st'.steps)
structure kd (t:List Int) (F:Int) (i:Int) (c:aE) (sl:Int) (st:bq):Prop where
 i0:0<=i
 i1:i<=t.length
 ai:gR t c
 empty:st.empty=false
 s0:0<=st.steps
 s1:st.steps<=F
 ends:(st.ends.length:Int)+sl<=st.steps
 same:st.ai.length=st.ends.length
theorem n5 {t:List Int}{F:Int}{g:Goal}{i:Int}{c:aE}{sl:Int}{st:bq} (H:kd t F i c sl st) (h:Ends t F 1 (.run g i c) ⟨st.steps,false,[],[]⟩) (uD:dF g=0) :
  ∃n r s',ff (fG t F n) g i c st=some (r,s')/\st.steps<=s'.steps/\s'.steps<=F+1/\s'.empty=decide (F<s'.steps)/\s'.ends=st.ends/\s'.ai=st.ai/\(s'.empty=true->r=none) /\
   (∀e d,r=some (e,d)->i<=e/\e<=t.length/\gR t d/\d.length=c.length)/\((Task.run g i c).yN->st.steps<s'.steps):=by
 obtain⟨n,b,x,h1,h2,h3⟩:=h
 obtain⟨new,sZ,k1,k2,k3,k4,k5,k6⟩:=h2.more
 simp only[List.nil_append]at k1 k2
 have pk:=h2.s0
 have gX:=h2.s1
 have pj:=h2.empty
 simp only at pk
 unfold ff
 cases he:x.empty with
 |true =>
  refine⟨n,none,{ st with steps:=x.steps,empty:=x.empty },?_,pk,gX,pj,rfl,rfl,fun _=>rfl,fun e d h=>(by cases h),h3⟩
  rw[h1]
  simp only[he,if_true]
 |false =>
  cases hn:new with
  |nil =>
   refine⟨n,none,{ st with steps:=x.steps,empty:=x.empty },?_,pk,gX,pj,rfl,rfl,fun _=>rfl,fun e d h=>(by cases h),h3⟩
   rw[hn]at k1
   rw[h1]
   simp only[he,Bool.false_eq_true,if_false,k1]
  |cons e es =>
   rw[hn]at k1 k3 k5
   cases hc:sZ with
   |nil=>rw[hc]at k3;cases k3
   |cons d ds =>
    rw[hc]at k2 k6
    refine⟨n,some (e,d),{ st with steps:=x.steps,empty:=x.empty },?_,pk,gX,pj,rfl,rfl,fun h=>?_,fun e' d' h=>?_,h3⟩
    ·rw[h1]
     simp only[he,Bool.false_eq_true,if_false,k1,k2]
    ·simp only[he]at h;cases h
    ·cases h
     have q1:=k5 e (by simp)
     have q2:=k6 d (by simp)
     exact⟨q1.1,q1.2,q2.1,q2.2⟩
end Go.Proofs.Ytfmdmlfhigocaaa
