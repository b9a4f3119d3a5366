/- A part of the proof (G13 G14 F17 F18 F19 F20 F21 G3). -/
import Derived.Test.YtfmdmlfhigocaaaOR15
import Derived.Test.YtfmdmlfhigocaaaOR16
import Derived.Test.YtfmdmlfhigocaaaOR17
import Derived.Test.YtfmdmlfhigocaaaOR19
set_option linter.unusedSimpArgs false
set_option linter.unusedVariables false
open Int renaming reduceNatCast' → kd
set_option maxRecDepth 100000
set_option maxHeartbeats 80000000
namespace Go.Proofs.Ytfmdmlfhigocaaa
open Go.VL Go.Proofs.Try
variable{c:aD}{g0:Nat}{kind:Int}{next:Goal}{st':bh}{F:Int}{most:Int}{b:Bool}{st:bh}{re:Re}{k:Int}{s1:bh}{n:Nat}{i:Int}{fH:Int}{t:List Int}
theorem Ya (ih:lH t F n) (ht:t.length<=1000000) (o:re.op=2)
  (hi0:0<=i) (ql:i<=t.length) (gD:re.set.length<=1000000000) (kB:re.kids.length<=1000000000) (iy:c.length<=1000000000) (he:s1.empty=false) (ck:fz t F g0 most st s1)
  (hr:dI t (fV t F n) most re next i c s1=some (b,st')) :
  az prog 82 [.rf 0 g0 0 0,.d (Goal.mk kind re k fH next).d,i64 i,.d (df c)] (cb g0 t most F st) λv s=>v=bV b/\s=cb g0 t most F st':=by
 unfold fz cb dL at ck;simp only[i64,bV,iD,aiX,ai0]at ck;have d4:decide (re.op=4)=false:=ce ae;have d1:decide (re.op=1)=false:=ce ae;have d2:decide (re.op=2)=true:=bi o;unfold dI at hr;rw[bd,be o]at hr;have wl:IntKind.i64.wrap ((re.kids.length:Int)-1)=(re.kids.length:Int)-1:=bF _ ae;unfold cb dL;refine bk func82 ntmps82 results82 3 26328072917139296674479506920917608079723773850137295405767982863 ?_;simp only[zI,simprocAttr,-kd,bV,Goal.cj,iD,bD,d4,d1,d2];refine ar (ck _) (λv s' hv=>?_);obtain⟨rfl,rfl⟩:=hv;simp only[zQ,simprocAttr,-kd,he,ajd,aje,d4,d1,d2];refine ay (λm e s=>∃(j:Nat),m=j/\j<=re.kids.length/\e 0=.rf 0 g0 0 0/\e 2=i64 i/\e 3=.d (df c)/\e 9=.rf 3 0 0 0/\e 10=.d (iB (re.kids.drop j) next).d/\e 11=i64 ((j:Int)-1)/\s=cb g0 t most F s1++[PZ re])
  ⟨_,_,_,bJ.refl,re.kids.length,rfl,ae,rfl,rfl,rfl,rfl,?_,?_,?_⟩ ?_
 ·rw[List.drop_length];rfl
 ·simp [bX,wl,i64]
 ·unfold cb dL PZ;simp only[he];rfl
 rintro m e s ⟨j,rfl,hj,h0,h2,h3,h9,dX,jK,rfl⟩;cases m with
 |zero =>
  rw[show ((0:Nat):Int)-1=-1 from rfl]at jK;rw[ajQ]at dX;have hc:=λext=>gE (ih g0 _ _ _ _ _ hr) ext;unfold fS ff cb dL at hc;simp only[Goal.cj,i64,iD,bD,bV,aiX,ai0]at hc;simp only[he]at hc;unfold cb dL PZ;simp only[zQ,simprocAttr,-kd,aiX,ai0,h0,h2,h3,h9,dX,jK,ge_iff_le,he]
  (refine ar (hc _) (λv s' hv=>?_);obtain⟨rfl,rfl⟩:=hv)
  simp only[zQ,simprocAttr,-kd];first|exact aR _ _|exact⟨aR _ _,rfl⟩
 |succ j =>
  rw[show ((j+1:Nat):Int)-1=j by omega]at jK;have UE:(0:Int)<=(j:Int):=ae;have aB:j<re.kids.length:=ae;have aH:(j:Int)<(re.kids.length:Int):=ae;obtain⟨x,hx⟩:∃x,re.kids[j]?=some x:=bZ aB;have abm:iB (re.kids.drop j) next=.mk 0 x 0 0 (iB (re.kids.drop (j+1)) next):=by rw[JI hx];rfl
  generalize iB (re.kids.drop (j+1)) next=G at *
  have w1:IntKind.i64.wrap ((j:Int)-1)=(j:Int)-1:=bF _ ae;unfold cb dL PZ;simp only[zQ,simprocAttr,-kd,aiX,ai0,h0,h2,h3,h9,dX,jK,ge_iff_le,UE,aB,aH,hx,aq x,Re.ah x,w1];refine⟨j,_,_,ae,(bJ.freeze [4] [10]).trans (bJ.cut (s':=cb g0 t most F s1++[PZ re]) 4 ae rfl ?_ [0,2,3,9,10,11] ?_),j,rfl,ae,?_,?_,?_,?_,?_,?_,rfl⟩
  ·have:=Ul g0 t most F s1 4 ae;rw[akm,this];rfl
  ·simp [me,bX,aY,ak,i64,h0,h2,h3,h9,dX,jK];rfl
  ·simpa [pC,me,bX,aY]using h0
  ·simpa [pC,me,bX,aY,i64]using h2
  ·simpa [pC,me,bX,aY]using h3
  ·simpa [pC,me,bX,aY]using h9
  ·rw[abm,Goal.cj];rfl
  ·rfl
def spO (x1 x2:Int):VL.Obj:=⟨0,true,2,[[i64 x1,i64 x2]]⟩
theorem On{a:Int}{j:Nat}:ph t a i (j+1)=(ph t a i j&&(oo t (a+j) == oo t (i+j))):=by unfold ph;rw[List.range_succ,akm];simp
theorem TX{a:Int}{j:Nat} (hj:j<n) (h:¬oo t (a+j)=oo t (i+j)):ph t a i n=false:=by rw[ajO];intro hs;unfold ph at hs;rw[ajo]at hs;have:=hs j (List.mem_range.2 hj);simp only[beq_iff_eq]at this;exact h this
theorem Yn (ih:lH t F n) (ht:t.length<=1000000) (o:re.op=6)
  (hi0:0<=i) (ql:i<=t.length) (gD:re.set.length<=1000000000) (kB:re.kids.length<=1000000000) (iy:c.length<=1000000000) (he:s1.empty=false) (ck:fz t F g0 most st s1)
  (hr:dI t (fV t F n) most re next i c s1=some (b,st')) :
  az prog 82 [.rf 0 g0 0 0,.d (Goal.mk kind re k fH next).d,i64 i,.d (df c)] (cb g0 t most F st) λv s=>v=bV b/\s=cb g0 t most F st':=by
 unfold fz cb dL at ck;simp only[i64,bV,iD,aiX,ai0]at ck;have d4:decide (re.op=4)=false:=ce ae;have d1:decide (re.op=1)=false:=ce ae;have d2:decide (re.op=2)=false:=ce ae;have d3:decide (re.op=3)=false:=ce ae;have d5:decide (re.op=5)=false:=ce ae;have d6:decide (re.op=6)=true:=bi o;unfold dI at hr;rw[bd,bd,bd,bd,be o]at hr;have pZ:=Pm c re.n iy;generalize bG c re.n=x at *;obtain⟨x1,x2⟩:=x;simp only[i64]at pZ;simp only at hr;by_cases q1:x1<0
 ·rw[be q1]at hr;simp only[ai5,ajE]at hr;obtain⟨rfl,rfl⟩:=hr;unfold cb dL;refine bk func82 ntmps82 results82 3 26328072917139296674479506920917608079723773850137295405767982863 ?_;simp only[zI,simprocAttr,-kd,bV,Goal.cj,iD,bD,d4,d1,d2,d3,d5,d6];refine ar (ck _) (λv s' hv=>?_);obtain⟨rfl,rfl⟩:=hv;simp only[zQ,simprocAttr,-kd,he,ajd,aje,d4,d1,d2,d3,d5,d6];refine bO pZ ?_;simp only[zI,simprocAttr,-kd,iD,bD];refine aA mix [] [] aN ?_;simp only[zQ,simprocAttr,-kd,q1];exact⟨aJ,aR _ _⟩
 rw[ap q1]at hr;by_cases q2:x2<x1\/(t.length:Int)<x2
 ·rw[be q2]at hr;cases hr
 rw[ap q2]at hr;have wa:IntKind.i64.wrap (i+x2)=i+x2:=bF _ ae;have wb:IntKind.i64.wrap (i+x2-x1)=i+x2-x1:=bF _ ae;by_cases q3:t.length<i+x2-x1
 ·rw[be q3]at hr;simp only[ai5,ajE]at hr;obtain⟨rfl,rfl⟩:=hr;unfold cb dL;refine bk func82 ntmps82 results82 3 26328072917139296674479506920917608079723773850137295405767982863 ?_;simp only[zI,simprocAttr,-kd,bV,Goal.cj,iD,bD,d4,d1,d2,d3,d5,d6];refine ar (ck _) (λv s' hv=>?_);obtain⟨rfl,rfl⟩:=hv;simp only[zQ,simprocAttr,-kd,he,ajd,aje,d4,d1,d2,d3,d5,d6];refine bO pZ ?_;simp only[zI,simprocAttr,-kd,iD,bD];refine aA mix [] [] aN ?_;simp only[zQ,simprocAttr,-kd,q1,wa,wb,q3,gt_iff_lt];exact⟨aJ,aJ,aJ,aR _ _⟩
 rw[ap q3]at hr;unfold cb dL;refine bk func82 ntmps82 results82 3 26328072917139296674479506920917608079723773850137295405767982863 ?_;simp only[zI,simprocAttr,-kd,bV,Goal.cj,iD,bD,d4,d1,d2,d3,d5,d6];refine ar (ck _) (λv s' hv=>?_);obtain⟨rfl,rfl⟩:=hv;simp only[zQ,simprocAttr,-kd,he,ajd,aje,d4,d1,d2,d3,d5,d6];refine bO pZ ?_;simp only[zI,simprocAttr,-kd,iD,bD];refine aA mix [] [] aN ?_;simp only[zQ,simprocAttr,-kd,q1,wa,wb,q3,gt_iff_lt];refine⟨aJ,aJ,aJ,aJ,?_⟩;obtain⟨N,hN⟩:∃N:Nat,(N:Int)=x2-x1:=⟨(x2-x1).toNat,ae⟩
 have hN':(x2-x1).toNat=N:=ae;rw[hN']at hr;refine ay (λm e s=>∃(j:Nat),m=N-j/\j<=N/\e 0=.rf 0 g0 0 0/\e 1=.d (Goal.mk kind re k fH next).d/\e 2=i64 i/\e 3=.d (df c)/\e 13=.rf 4 0 0 0/\e 14=i64 (x1+j)/\s=cb g0 t most F s1++[PZ re,spO x1 x2]/\ph t x1 i j=true)
  ⟨_,_,_,bJ.refl,0,rfl,ae,rfl,?_,rfl,rfl,rfl,?_,?_,rfl⟩ ?_
 ·rw[Goal.cj];rfl
 ·simp [bX,i64]
 ·unfold cb dL PZ spO;simp only[he];rfl
 rintro m e s ⟨j,rfl,hj,h0,h1,h2,h3,yq,jl,rfl,Es⟩;rw[Goal.cj]at h1;rcases ajr j N with aB|iA
 ·have l0:x1+(j:Int)<x2:=by omega
  have l1:0<=x1+(j:Int):=ae;have l2:x1+(j:Int)<(t.length:Int):=ae;have l3:0<=i+(j:Int):=ae;have l4:i+(j:Int)<(t.length:Int):=ae;have g1:=tb l1 l2;have g2:=tb l3 l4;have wc:IntKind.i64.wrap (i+(x1+(j:Int)))=i+(x1+(j:Int)):=bF _ ae;have wd:IntKind.i64.wrap (i+(x1+(j:Int))-x1)=i+(j:Int):=by rw[bF _ ae];omega
  have we:IntKind.i64.wrap (x1+(j:Int)+1)=x1+((j+1:Nat):Int):=by rw[bF _ ae];omega
  unfold cb dL PZ spO;simp only[zQ,simprocAttr,-kd,aiX,ai0,h0,h1,h2,h3,yq,jl,l0];refine⟨aJ,?_⟩;refine aA mix [] [] aN ?_;by_cases hq:oo t (x1+(j:Int))=oo t (i+(j:Int))
  ·have dq:decide (oo t (x1+(j:Int))=oo t (i+(j:Int)))=true:=bi hq;simp only[zQ,simprocAttr,-kd,an,h0,h1,h2,h3,yq,jl,l1,l2,l3,l4,g1,g2,wc,wd,we,dq];refine⟨aJ,N-(j+1),_,_,ae,bJ.refl,j+1,rfl,aB,?_,?_,?_,?_,?_,?_,rfl,by rw[On,Es,hq];simp⟩ <;> (try simp only[zU,Nat.reduceBEq,Nat.reduceShiftRight,Nat.reduceMod,Nat.reduceEqDiff,reduceIte])
   ·exact h0
   ·rw[Goal.cj];exact h1
   ·exact h2
   ·exact h3
   ·exact yq
  ·have dq:decide (oo t (x1+(j:Int))=oo t (i+(j:Int)))=false:=ce hq;have jf:ph t x1 i N=false:=TX aB hq;rw[ap (by rw[jf];decide)]at hr;simp only[ai5,ajE]at hr;obtain⟨rfl,rfl⟩:=hr;simp only[zQ,simprocAttr,-kd,an,h0,h1,h2,h3,yq,jl,l1,l2,l3,l4,g1,g2,wc,wd,we,dq];exact⟨aJ,aR _ _⟩
 ·have NI:j=N:=by omega
  subst NI;rw[be Es]at hr;have hc:=λext=>gE (ih g0 _ _ _ _ _ hr) ext;unfold fS ff cb dL at hc;simp only[Goal.cj,i64,iD,bD,bV,aiX,ai0]at hc;simp only[he]at hc;have l0:¬x1+(j:Int)<x2:=ae;unfold cb dL PZ spO;simp only[zQ,simprocAttr,-kd,aiX,ai0,h0,h1,h2,h3,yq,jl,l0];refine⟨aJ,?_⟩;refine aA mix [13] [] aN ?_;simp only[zQ,simprocAttr,-kd,h0,h1,h2,h3,yq,jl,wa,wb,he];refine⟨aJ,aJ,fG (hc _) ?_⟩;simp only[zQ,simprocAttr,-kd];first|exact aR _ _|exact⟨aR _ _,rfl⟩
theorem YZ (ih:lH t F n) (o:re.op=4)
  (hr:fV t F n most (.rep (.mk 1 re 0 0 next) i c) st=some (b,st')) :
  az prog 82 [.rf 0 g0 0 0,.d (Goal.mk kind re k fH next).d,i64 i,.d (df c)] (cb g0 t most F st) λv s=>v=bV b/\s=cb g0 t most F st':=by
 have hc:=λext=>gE (ih g0 _ _ _ _ _ hr) ext;unfold fS ff cb dL at hc;simp only[Goal.cj,i64,iD,bD,bV,aiX,ai0]at hc;have d4:decide (re.op=4)=true:=bi o;unfold cb dL;refine bk func82 ntmps82 results82 3 26328072917139296674479506920917608079723773850137295405767982863 ?_;simp only[zI,simprocAttr,-kd,bV,Goal.cj,iD,bD,d4];refine aX ct.bt ?_;refine aA mix [10] [(7,[4],[4])] aN ?_;simp only[zQ,simprocAttr,-kd,hole];refine fG (bL [4] (by simp [bA,bP,bm.go,bm,cR]) (hc _)) ?_;simp only[zQ,simprocAttr,-kd];exact aR _ _
theorem Si (ck:fz t F g0 most st s1) (he:s1.empty=true) (o:re.op≠4) :
  az prog 82 [.rf 0 g0 0 0,.d (Goal.mk kind re k fH next).d,i64 i,.d (df c)] (cb g0 t most F st) λv s=>v=bV true/\s=cb g0 t most F s1:=by
 unfold fz cb dL at ck;simp only[i64,bV,iD,aiX,ai0]at ck;have d4:decide (re.op=4)=false:=ce o;unfold cb dL;refine bk func82 ntmps82 results82 3 26328072917139296674479506920917608079723773850137295405767982863 ?_;simp only[zI,simprocAttr,-kd,bV,Goal.cj,iD,bD,d4];refine ar (ck _) (λv s' hv=>?_);obtain⟨rfl,rfl⟩:=hv;simp only[zQ,simprocAttr,-kd,he,ajd,aje];exact aR _ _
theorem Pt {t:List Int} (ht:t.length<=1000000) (F:Int):∀n,lH t F n
 |0=>λ_ _ _ _ _ _ h=>by cases h
 |n+1=>λg0 most task st b st' h=>by
  have ih:=Pt ht F n;have h:bI t F (fV t F n) most task st=some (b,st'):=h;cases task with
  |run g i c =>
   cases g with
   |nil =>
    simp only[bI]at h;by_cases hi:i<0\/(t.length:Int)<i
    ·rw[be hi]at h;cases h
    rw[ap hi]at h;by_cases he:st.ends.length<2000000000000/\st.ai.length=st.ends.length
    ·rw[be he]at h;simp only[ai5,ajE]at h;obtain⟨rfl,rfl⟩:=h;exact Vq he.1 he.2
    ·rw[ap he]at h;cases h
   |mk kind re k fH next=>exact run_mk ih h
  |rep g i c =>
   simp only[bI]at h;by_cases hi:i<0\/(t.length:Int)<i
   ·rw[be hi]at h;cases h
   rw[ap hi]at h;cases g with
   |nil=>cases h
   |mk kind re k fH next =>
    by_cases hm:re.mode=2
    ·exact SZ ih hm h
    ·exact RZ ih hm h
  |node g i c =>
   simp only[bI]at h;by_cases hi:i<0\/(t.length:Int)<i
   ·rw[be hi]at h;cases h
   rw[ap hi]at h;cases g with
   |nil=>cases h
   |mk kind re k fH next =>
    simp only at h;by_cases o4:re.op=4
    ·rw[be o4]at h;exact YZ ih o4 h
    rw[ap o4]at h;by_cases c0:1000000000<re.set.length\/1000000000<re.kids.length\/1000000000<c.length
    ·rw[be c0]at h;cases h
    rw[ap c0]at h;by_cases c1:st.steps<0\/10000000000000<st.steps
    ·rw[be c1]at h;cases h
    rw[ap c1]at h;have ck:fz t F g0 most st (st.step F):=λext=>KH g0 t most F st ae ae ext;by_cases he:(st.step F).empty=true
    ·rw[be he]at h;simp only[ai5,ajE]at h;obtain⟨rfl,rfl⟩:=h;exact Si ck he o4
    ·rw[ap he]at h;have he:(st.step F).empty=false:=by simpa using he
     have a1:0<=i:=ae;have a2:i<=t.length:=ae;have a3:re.set.length<=1000000000:=ae;have a4:re.kids.length<=1000000000:=ae;have a5:c.length<=1000000000:=ae;by_cases o1:re.op=1
     ·exact YM ih ht o1 a1 a2 a3 a4 a5 he ck h
     by_cases o2:re.op=2
     ·exact Ya ih ht o2 a1 a2 a3 a4 a5 he ck h
     by_cases o3:re.op=3
     ·exact Yw ih ht o3 a1 a2 a3 a4 a5 he ck h
     by_cases o5:re.op=5
     ·exact XW ih ht o5 a1 a2 a3 a4 a5 he ck h
     by_cases o6:re.op=6
     ·exact Yn ih ht o6 a1 a2 a3 a4 a5 he ck h
     by_cases o7:re.op=7
     ·exact Yy ih ht o7 a1 a2 a3 a4 a5 he ck h
     by_cases o8:re.op=8
     ·exact Y1 ih ht o8 a1 a2 a3 a4 a5 he ck h
     by_cases o9:re.op=9
     ·exact Yd ih ht o9 a1 a2 a3 a4 a5 he ck h
     by_cases Bt:re.op=10
     ·exact UZ ih ht Bt a1 a2 a3 a4 a5 he ck h
     by_cases oh:re.op=11
     ·exact Wo ih ht oh a1 a2 a3 a4 a5 he ck h
     exact NV ih ht ⟨o1,o2,o3,o4,o5,o6,o7,o8,o9,Bt,oh⟩ a1 a2 a3 a4 a5 he ck h
end Go.Proofs.Ytfmdmlfhigocaaa
namespace Go.Proofs.Ytfmdmlfhigocaaa
open Go.VL Go.Proofs.Try
end Go.Proofs.Ytfmdmlfhigocaaa
namespace Go.Proofs.Ytfmdmlfhigocaaa
open Go.VL Go.Proofs.Try
mutual
def Re.every (p:Re->Bool):Re->Bool
 |.mk op set kids mn mx mode n neg=>p (.mk op set kids mn mx mode n neg)&&Re.Jk p kids
def Re.Jk (p:Re->Bool):List Re->Bool
 |[]=>true
 |k::l=>Re.every p k&&Re.Jk p l
end
variable{t:List Int}{i':Int}{i:Int}{nc:Nat}{st':bh}{F:Int}{sl:Int}{b:Bool}{st:bh}
theorem Re.D6 (p:Re->Bool):∀l:List Re,Re.Jk p l=l.all (Re.every p)
 |[]=>rfl
 |k::l=>by simp [Re.Jk,Re.D6 p l]
theorem Re.av {p:Re->Bool} (re:Re):re.every p=true ↔ p re=true/\∀k∈re.kids,k.every p=true:=by
 cases re with
 |mk op set kids mn mx mode n neg=>simp only[Re.every,aji,Re.D6,ajo,Re.kids]
def kH (re:Re):Bool:=decide ((re.op=4\/re.op=5\/re.op=7\/re.op=8\/re.op=9->re.kids≠[])/\(re.op=10->2<=re.kids.length)/\re.set.length<=1000000000/\re.kids.length<=1000000000)
def TK (t:List Int) (p:Int×Int):Prop:=p=(-1,-1)\/(0<=p.1/\p.1<=p.2/\p.2<=t.length)
def jw (t:List Int) (c:aD):Prop:=c.length<=1000000000/\∀p∈c,TK t p
def kG (t:List Int) (i s:Int):Goal->Prop
 |.nil=>True
 |.mk kind re k fH next=>(0<=kind/\kind<=4)/\re.every kH=true/\(kind=1\/kind=2->re.op=4)/\(kind=1->0<=k/\k<=s)/\(kind=2->0<=k/\k<s)/\(kind=3->0<=fH/\fH<=i)/\kG t i s next
theorem kG.mono{s s':Int} (hi:i<=i') (hs:s<=s'):∀{g:Goal},kG t i s g->kG t i' s' g
 |.nil,_=>trivial
 |.mk _ _ _ _ _,h=>by obtain⟨h0,h1,h2,h3,h4,h5,h6⟩:=h;exact⟨h0,h1,h2,λk=>by have:=h3 k;omega,λk=>by have:=h4 k;omega,λk=>by have:=h5 k;omega,h6.mono hi hs⟩
def yR:Goal->Nat
 |.nil=>0
 |.mk kind re _ _ next=>if kind=1 then (if re.mode=2 then 4 else 2) else if kind=2 then 5 else if kind=3\/kind=4 then 7+yR next else 6
def eU:Goal->Int
 |.nil=>1
 |.mk kind _ _ _ next=>if kind=3\/kind=4 then eU next else 0
theorem jd:∀g:Goal,0<=eU g/\eU g<=1
 |.nil=>by simp [eU]
 |.mk kind _ _ _ next=>by
  have:=jd next
  unfold eU;split
  ·exact this
  ·omega
def Task.AG:Task->Nat
 |.run g _ _=>yR g
 |.rep (.mk _ re _ _ _) _ _=>if re.mode=2 then 3 else 1
 |.rep .nil _ _=>0
 |.node _ _ _=>5
def Task.iW:Task->Int
 |.run g _ _=>eU g
 |_=>0
def Task.pos:Task->Int
 |.run _ i _=>i
 |.rep _ i _=>i
 |.node _ i _=>i
def Task.ai:Task->aD
 |.run _ _ c=>c
 |.rep _ _ c=>c
 |.node _ _ c=>c
def Task.EJ:Task->Prop
 |.run (.mk kind re _ _ _) _ _=>kind=1/\re.mode≠2
 |.run .nil _ _=>False
 |.rep (.mk _ re _ _ _) _ _=>re.mode≠2
 |.rep .nil _ _=>False
 |.node (.mk _ re _ _ _) _ _=>re.op≠4
 |.node .nil _ _=>False
def Task.ok (t:List Int) (s:Int):Task->Prop
 |.run g i _=>kG t i s g
 |.rep .nil _ _=>False
 |.rep (.mk _ re k _ next) i _=>re.every kH=true/\re.op=4/\0<=k/\k<=s/\kG t i s next
 |.node .nil _ _=>False
 |.node (.mk _ re _ _ next) i _=>re.every kH=true/\kG t i s next
structure Pre (t:List Int) (F:Int) (task:Task) (st:bh):Prop where
 ok:task.ok t st.steps
 i0:0<=task.pos
 i1:task.pos<=t.length
 ai:jw t task.ai
 empty:st.empty=false
 s0:0<=st.steps
 s1:st.steps<=F
 ends:(st.ends.length:Int)+task.iW<=st.steps
 same:st.ai.length=st.ends.length
structure eL (t:List Int) (F:Int) (sl i:Int) (nc:Nat) (st:bh) (b:Bool) (st':bh):Prop where
 s0:st.steps<=st'.steps
 s1:st'.steps<=F+1
 empty:st'.empty=decide (F<st'.steps)
 full:st'.empty=true->b=true
 more:∃new oP,st'.ends=st.ends++new/\st'.ai=st.ai++oP/\oP.length=new.length/\(new.length:Int)<=st'.steps-st.steps+sl/\(∀e∈new,i<=e/\e<=t.length)/\∀d∈oP,jw t d/\d.length=nc
theorem eL.Ix{sl':Int} (h:eL t F sl i nc st b st') (hs:sl<=sl') (hi:i'<=i):eL t F sl' i' nc st b st':=by obtain⟨new,oP,h1,h2,h3,h4,h5,h6⟩:=h.more;exact⟨h.s0,h.s1,h.empty,h.full,new,oP,h1,h2,h3,ae,λe he=>⟨by have:=h5 e he;omega,(h5 e he).2⟩,h6⟩
theorem eL.trans{sl1 sl2:Int}{s2:bh}{b1:Bool} (h:eL t F sl1 i nc st b1 s2) (k:eL t F sl2 i nc s2 b st'):eL t F (sl1+sl2) i nc st b st':=by
 obtain⟨new,oP,h1,h2,h3,h4,h5,h6⟩:=h.more;obtain⟨abC,WR,k1,k2,k3,k4,k5,k6⟩:=k.more;refine⟨by have:=h.s0;have:=k.s0;omega,k.s1,k.empty,k.full,new++abC,oP++WR,by rw[k1,h1,ajq],by rw[k2,h2,ajq],by simp [h3,k3],by simp only[ai6,aj9];omega,λe he=>?_,λd hd=>?_⟩
 ·rcases List.mem_append.1 he with he|he
  ·exact h5 e he
  ·exact k5 e he
 ·rcases List.mem_append.1 hd with hd|hd
  ·exact h6 d hd
  ·exact k6 d hd
theorem eL.step {t:List Int}{F sl i:Int}{nc:Nat}{st st':bh}{b:Bool} (h:eL t F sl i nc (st.step F) b st'):eL t F (sl-1) i nc st b st':=by obtain⟨new,oP,h1,h2,h3,h4,h5,h6⟩:=h.more;have hs:(st.step F).steps=st.steps+1:=rfl;rw[hs]at h4;exact⟨by have:=h.s0;rw[hs]at this;omega,h.s1,h.empty,h.full,new,oP,h1,h2,h3,ae,h5,h6⟩
theorem eL.no (h1:st.steps<=F) (h2:st.empty=false) (hs:0<=sl):eL t F sl i nc st false st :=
 ⟨ajs _,ae,by rw[h2,ce ae],λh=>(by rw[h2]at h;cases h),[],[],aj,aj,rfl,cG,aj,aj⟩
theorem eL.out (h1:st.steps<=F) (h2:(st.step F).empty=true) (he:st.empty=false):eL t F 0 i nc st true (st.step F):=by
 have hs:(st.step F).steps=st.steps+1:=rfl;have hd:F<st.steps+1:=by simp only[bh.step,he,ajx,decide_eq_true_eq]at h2;exact h2
 exact⟨by rw[hs];omega,by rw[hs];omega,by rw[h2,hs,bi hd],λ_=>rfl,[],[],by simp [bh.step],by simp [bh.step],rfl,(by rw[hs];simp;try omega),aj,aj⟩
def Ends (t:List Int) (F most:Int) (task:Task) (st:bh):Prop :=
 ∃n b st',fV t F n most task st=some (b,st')/\eL t F task.iW task.pos task.ai.length st b st'/\(task.EJ->st.steps<st'.steps)
structure mY (t:List Int) (F:Int) (i:Int) (c:aD) (sl:Int) (st:bh):Prop where
 i0:0<=i
 i1:i<=t.length
 ai:jw t c
 empty:st.empty=false
 s0:0<=st.steps
 s1:st.steps<=F
 ends:(st.ends.length:Int)+sl<=st.steps
 same:st.ai.length=st.ends.length
theorem r9{g:Goal}{c:aD} (H:mY t F i c sl st) (h:Ends t F 1 (.run g i c) ⟨st.steps,false,[],[]⟩) (yf:eU g=0) :
  ∃n r s',cF (fV t F n) g i c st=some (r,s')/\st.steps<=s'.steps/\s'.steps<=F+1/\s'.empty=decide (F<s'.steps)/\s'.ends=st.ends/\s'.ai=st.ai/\(s'.empty=true->r=none) /\
   (∀e d,r=some (e,d)->i<=e/\e<=t.length/\jw t d/\d.length=c.length)/\((Task.run g i c).EJ->st.steps<s'.steps):=by
 obtain⟨n,b,x,h1,h2,h3⟩:=h;obtain⟨new,oP,k1,k2,k3,k4,k5,k6⟩:=h2.more;simp only[ai0]at k1 k2;have nR:=h2.s0;have ef:=h2.s1;have fU:=h2.empty;simp only at nR;unfold cF;cases he:x.empty with
 |true =>
  refine⟨n,none,{ st with steps:=x.steps,empty:=x.empty },?_,nR,ef,fU,rfl,rfl,λ_=>rfl,λe d h=>(by cases h),h3⟩;rw[h1];simp only[he,if_true]
 |false =>
  cases hn:new with
  |nil =>
   refine⟨n,none,{ st with steps:=x.steps,empty:=x.empty },?_,nR,ef,fU,rfl,rfl,λ_=>rfl,λe d h=>(by cases h),h3⟩;rw[hn]at k1;rw[h1];simp only[he,ajf,if_false,k1]
  |cons e es =>
   rw[hn]at k1 k3 k5;cases hc:oP with
   |nil=>rw[hc]at k3;cases k3
   |cons d ds =>
    rw[hc]at k2 k6;refine⟨n,some (e,d),{ st with steps:=x.steps,empty:=x.empty },?_,nR,ef,fU,rfl,rfl,λh=>?_,λe' d' h=>?_,h3⟩
    ·rw[h1];simp only[he,ajf,if_false,k1,k2]
    ·simp only[he]at h;cases h
    ·cases h;have q1:=k5 e aj;have q2:=k6 d aj;exact⟨q1.1,q1.2,q2.1,q2.2⟩
end Go.Proofs.Ytfmdmlfhigocaaa
