/- A part of the proof (G13 G14 F17 F18 F19 F20 F21 G3). -/
import Derived.Test.YtjjfioalgbecmaaGreatOQ19
set_option linter.unusedSimpArgs false
set_option linter.unusedVariables false
open Int renaming reduceNatCast' → D7
set_option maxRecDepth 100000
set_option maxHeartbeats 80000000
namespace Go.Proofs.YtjjfioalgbecmaaGreat
open Go.VL Go.Proofs.Tryz
variable{st:bO}{g0:Nat}{kind:Int}{c:aH}{bZ:Int}{s1:bO}{F:Int}{most:Int}{st':bO}{b:Bool}{re:Re}{k:Int}{n:Nat}{i:Int}{next:Goal}{t:List Int}
theorem Yv (ih:kK t F n) (ht:t.length<=1000000) (o:re.op=2)
  (hi0:0<=i) (n7:i<=t.length) (eO:re.set.length<=1000000000) (qq:re.kids.length<=1000000000) (ia:c.length<=1000000000) (he:s1.empty=false) (bH:eY t F g0 most st s1)
  (hr:fG t (iw t F n) most re next i c s1=some (b,st')) :
  ar prog 116 [.rf 0 g0 0 0,.d (Goal.mk kind re k bZ next).d,i64 i,.d (cQ c)] (bY g0 t most F st) λv s=>v=bV b/\s=bY g0 t most F st':=by
 unfold eY bY dB at bH;simp only[i64,bV,iD,ajN,ajO]at bH;have d4:decide (re.op=4)=false:=ce ae;have d1:decide (re.op=1)=false:=ce ae;have d2:decide (re.op=2)=true:=bi o;unfold fG at hr;rw[bd,be o]at hr;have wl:IntKind.i64.wrap ((re.kids.length:Int)-1)=(re.kids.length:Int)-1:=bG _ ae;unfold bY dB;refine bo func116 ntmps116 results116 3 26328072917139296674479506920917608079723773850137295405767982863 ?_;simp only[zI,simprocAttr,-D7,bV,Goal.b9,iD,bD,d4,d1,d2];refine an (bH _) (λv s' hv=>?_);obtain⟨rfl,rfl⟩:=hv;simp only[zQ,simprocAttr,-D7,he,aj2,aj0,d4,d1,d2];refine aw (λm e s=>∃(j:Nat),m=j/\j<=re.kids.length/\e 0=.rf 0 g0 0 0/\e 2=i64 i/\e 3=.d (cQ c)/\e 9=.rf 3 0 0 0/\e 10=.d (rB (re.kids.drop j) next).d/\e 11=i64 ((j:Int)-1)/\s=bY g0 t most F s1++[Pk re])
  ⟨_,_,_,bA.refl,re.kids.length,rfl,ae,rfl,rfl,rfl,rfl,?_,?_,?_⟩ ?_
 ·rw[List.drop_length];rfl
 ·simp [bK,wl,i64]
 ·unfold bY dB Pk;simp only[he];rfl
 rintro m e s ⟨j,rfl,hj,h0,h2,h3,h9,cA,eI,rfl⟩;cases m with
 |zero =>
  rw[show ((0:Nat):Int)-1=-1 from rfl]at eI;rw[akJ]at cA;have hc:=λext=>fI (ih g0 _ _ _ _ _ hr) ext;unfold fv eP bY dB at hc;simp only[Goal.b9,i64,iD,bD,bV,ajN,ajO]at hc;simp only[he]at hc;unfold bY dB Pk;simp only[zQ,simprocAttr,-D7,ajN,ajO,h0,h2,h3,h9,cA,eI,ge_iff_le,he]
  (refine an (hc _) (λv s' hv=>?_);obtain⟨rfl,rfl⟩:=hv)
  simp only[zQ,simprocAttr,-D7];first|exact aP _ _|exact⟨aP _ _,rfl⟩
 |succ j =>
  rw[show ((j+1:Nat):Int)-1=j by omega]at eI;have L8:(0:Int)<=(j:Int):=ae;have az:j<re.kids.length:=ae;have aA:(j:Int)<(re.kids.length:Int):=ae;obtain⟨x,hx⟩:∃x,re.kids[j]?=some x:=cc az;have O7:rB (re.kids.drop j) next=.mk 0 x 0 0 (rB (re.kids.drop (j+1)) next):=by rw[I6 hx];rfl
  generalize rB (re.kids.drop (j+1)) next=G at *
  have w1:IntKind.i64.wrap ((j:Int)-1)=(j:Int)-1:=bG _ ae;unfold bY dB Pk;simp only[zQ,simprocAttr,-D7,ajN,ajO,h0,h2,h3,h9,cA,eI,ge_iff_le,L8,az,aA,hx,av x,Re.ah x,w1];refine⟨j,_,_,ae,(bA.freeze [4] [10]).trans (bA.cut (s':=bY g0 t most F s1++[Pk re]) 4 ae rfl ?_ [0,2,3,9,10,11] ?_),j,rfl,ae,?_,?_,?_,?_,?_,?_,rfl⟩
  ·have:=Up g0 t most F s1 4 ae;rw[akZ,this];rfl
  ·simp [jE,bK,aS,aj,i64,h0,h2,h3,h9,cA,eI];rfl
  ·simpa [od,jE,bK,aS]using h0
  ·simpa [od,jE,bK,aS,i64]using h2
  ·simpa [od,jE,bK,aS]using h3
  ·simpa [od,jE,bK,aS]using h9
  ·rw[O7,Goal.b9];rfl
  ·rfl
def spO (x1 x2:Int):VL.Obj:=⟨0,true,2,[[i64 x1,i64 x2]]⟩
theorem Nz{a:Int}{j:Nat}:sk t a i (j+1)=(sk t a i j&&(mG t (a+j) == mG t (i+j))):=by unfold sk;rw[alb,akZ];simp
theorem TZ{a:Int}{j:Nat} (hj:j<n) (h:¬mG t (a+j)=mG t (i+j)):sk t a i n=false:=by rw[akE];intro hs;unfold sk at hs;rw[aj3]at hs;have:=hs j (List.mem_range.2 hj);simp only[beq_iff_eq]at this;exact h this
theorem YH (ih:kK t F n) (ht:t.length<=1000000) (o:re.op=6)
  (hi0:0<=i) (n7:i<=t.length) (eO:re.set.length<=1000000000) (qq:re.kids.length<=1000000000) (ia:c.length<=1000000000) (he:s1.empty=false) (bH:eY t F g0 most st s1)
  (hr:fG t (iw t F n) most re next i c s1=some (b,st')) :
  ar prog 116 [.rf 0 g0 0 0,.d (Goal.mk kind re k bZ next).d,i64 i,.d (cQ c)] (bY g0 t most F st) λv s=>v=bV b/\s=bY g0 t most F st':=by
 unfold eY bY dB at bH;simp only[i64,bV,iD,ajN,ajO]at bH;have d4:decide (re.op=4)=false:=ce ae;have d1:decide (re.op=1)=false:=ce ae;have d2:decide (re.op=2)=false:=ce ae;have d3:decide (re.op=3)=false:=ce ae;have d5:decide (re.op=5)=false:=ce ae;have d6:decide (re.op=6)=true:=bi o;unfold fG at hr;rw[bd,bd,bd,bd,be o]at hr;have jO:=OF c re.n ia;generalize cK c re.n=x at *;obtain⟨x1,x2⟩:=x;simp only[i64]at jO;simp only at hr;by_cases q1:x1<0
 ·rw[be q1]at hr;simp only[ajU,akn]at hr;obtain⟨rfl,rfl⟩:=hr;unfold bY dB;refine bo func116 ntmps116 results116 3 26328072917139296674479506920917608079723773850137295405767982863 ?_;simp only[zI,simprocAttr,-D7,bV,Goal.b9,iD,bD,d4,d1,d2,d3,d5,d6];refine an (bH _) (λv s' hv=>?_);obtain⟨rfl,rfl⟩:=hv;simp only[zQ,simprocAttr,-D7,he,aj2,aj0,d4,d1,d2,d3,d5,d6];refine dY jO ?_;simp only[zI,simprocAttr,-D7,iD,bD];refine cu mix [] [] ?_;simp only[zQ,simprocAttr,-D7,q1];exact⟨aU,aP _ _⟩
 rw[ap q1]at hr;by_cases q2:x2<x1\/(t.length:Int)<x2
 ·rw[be q2]at hr;cases hr
 rw[ap q2]at hr;have wa:IntKind.i64.wrap (i+x2)=i+x2:=bG _ ae;have wb:IntKind.i64.wrap (i+x2-x1)=i+x2-x1:=bG _ ae;by_cases q3:t.length<i+x2-x1
 ·rw[be q3]at hr;simp only[ajU,akn]at hr;obtain⟨rfl,rfl⟩:=hr;unfold bY dB;refine bo func116 ntmps116 results116 3 26328072917139296674479506920917608079723773850137295405767982863 ?_;simp only[zI,simprocAttr,-D7,bV,Goal.b9,iD,bD,d4,d1,d2,d3,d5,d6];refine an (bH _) (λv s' hv=>?_);obtain⟨rfl,rfl⟩:=hv;simp only[zQ,simprocAttr,-D7,he,aj2,aj0,d4,d1,d2,d3,d5,d6];refine dY jO ?_;simp only[zI,simprocAttr,-D7,iD,bD];refine cu mix [] [] ?_;simp only[zQ,simprocAttr,-D7,q1,wa,wb,q3,gt_iff_lt];exact⟨aU,aU,aU,aP _ _⟩
 rw[ap q3]at hr;unfold bY dB;refine bo func116 ntmps116 results116 3 26328072917139296674479506920917608079723773850137295405767982863 ?_;simp only[zI,simprocAttr,-D7,bV,Goal.b9,iD,bD,d4,d1,d2,d3,d5,d6];refine an (bH _) (λv s' hv=>?_);obtain⟨rfl,rfl⟩:=hv;simp only[zQ,simprocAttr,-D7,he,aj2,aj0,d4,d1,d2,d3,d5,d6];refine dY jO ?_;simp only[zI,simprocAttr,-D7,iD,bD];refine cu mix [] [] ?_;simp only[zQ,simprocAttr,-D7,q1,wa,wb,q3,gt_iff_lt];refine⟨aU,aU,aU,aU,?_⟩;obtain⟨N,hN⟩:∃N:Nat,(N:Int)=x2-x1:=⟨(x2-x1).toNat,ae⟩
 have hN':(x2-x1).toNat=N:=ae;rw[hN']at hr;refine aw (λm e s=>∃(j:Nat),m=N-j/\j<=N/\e 0=.rf 0 g0 0 0/\e 1=.d (Goal.mk kind re k bZ next).d/\e 2=i64 i/\e 3=.d (cQ c)/\e 13=.rf 4 0 0 0/\e 14=i64 (x1+j)/\s=bY g0 t most F s1++[Pk re,spO x1 x2]/\sk t x1 i j=true)
  ⟨_,_,_,bA.refl,0,rfl,ae,rfl,?_,rfl,rfl,rfl,?_,?_,rfl⟩ ?_
 ·rw[Goal.b9];rfl
 ·simp [bK,i64]
 ·unfold bY dB Pk spO;simp only[he];rfl
 rintro m e s ⟨j,rfl,hj,h0,h1,h2,h3,gr,dA,rfl,Xm⟩;rw[Goal.b9]at h1;rcases akd j N with az|gx
 ·have l0:x1+(j:Int)<x2:=by omega
  have l1:0<=x1+(j:Int):=ae;have l2:x1+(j:Int)<(t.length:Int):=ae;have l3:0<=i+(j:Int):=ae;have l4:i+(j:Int)<(t.length:Int):=ae;have g1:=pM l1 l2;have g2:=pM l3 l4;have wc:IntKind.i64.wrap (i+(x1+(j:Int)))=i+(x1+(j:Int)):=bG _ ae;have wd:IntKind.i64.wrap (i+(x1+(j:Int))-x1)=i+(j:Int):=by rw[bG _ ae];omega
  have we:IntKind.i64.wrap (x1+(j:Int)+1)=x1+((j+1:Nat):Int):=by rw[bG _ ae];omega
  unfold bY dB Pk spO;simp only[zQ,simprocAttr,-D7,ajN,ajO,h0,h1,h2,h3,gr,dA,l0];refine⟨aU,?_⟩;refine cu mix [] [] ?_;by_cases hq:mG t (x1+(j:Int))=mG t (i+(j:Int))
  ·have dq:decide (mG t (x1+(j:Int))=mG t (i+(j:Int)))=true:=bi hq;simp only[zQ,simprocAttr,-D7,ao,h0,h1,h2,h3,gr,dA,l1,l2,l3,l4,g1,g2,wc,wd,we,dq];refine⟨aU,N-(j+1),_,_,ae,bA.refl,j+1,rfl,az,?_,?_,?_,?_,?_,?_,rfl,by rw[Nz,Xm,hq];simp⟩ <;> (try simp only[zU,Nat.reduceBEq,Nat.reduceShiftRight,Nat.reduceMod,Nat.reduceEqDiff,reduceIte])
   ·exact h0
   ·rw[Goal.b9];exact h1
   ·exact h2
   ·exact h3
   ·exact gr
  ·have dq:decide (mG t (x1+(j:Int))=mG t (i+(j:Int)))=false:=ce hq;have mS:sk t x1 i N=false:=TZ az hq;rw[ap (by rw[mS];decide)]at hr;simp only[ajU,akn]at hr;obtain⟨rfl,rfl⟩:=hr;simp only[zQ,simprocAttr,-D7,ao,h0,h1,h2,h3,gr,dA,l1,l2,l3,l4,g1,g2,wc,wd,we,dq];exact⟨aU,aP _ _⟩
 ·have Ks:j=N:=by omega
  subst Ks;rw[be Xm]at hr;have hc:=λext=>fI (ih g0 _ _ _ _ _ hr) ext;unfold fv eP bY dB at hc;simp only[Goal.b9,i64,iD,bD,bV,ajN,ajO]at hc;simp only[he]at hc;have l0:¬x1+(j:Int)<x2:=ae;unfold bY dB Pk spO;simp only[zQ,simprocAttr,-D7,ajN,ajO,h0,h1,h2,h3,gr,dA,l0];refine⟨aU,?_⟩;refine cu mix [13] [] ?_;simp only[zQ,simprocAttr,-D7,h0,h1,h2,h3,gr,dA,wa,wb,he];refine⟨aU,aU,ct (hc _) ?_⟩;simp only[zQ,simprocAttr,-D7];first|exact aP _ _|exact⟨aP _ _,rfl⟩
theorem Zh (ih:kK t F n) (o:re.op=4)
  (hr:iw t F n most (.rep (.mk 1 re 0 0 next) i c) st=some (b,st')) :
  ar prog 116 [.rf 0 g0 0 0,.d (Goal.mk kind re k bZ next).d,i64 i,.d (cQ c)] (bY g0 t most F st) λv s=>v=bV b/\s=bY g0 t most F st':=by
 have hc:=λext=>fI (ih g0 _ _ _ _ _ hr) ext;unfold fv eP bY dB at hc;simp only[Goal.b9,i64,iD,bD,bV,ajN,ajO]at hc;have d4:decide (re.op=4)=true:=bi o;unfold bY dB;refine bo func116 ntmps116 results116 3 26328072917139296674479506920917608079723773850137295405767982863 ?_;simp only[zI,simprocAttr,-D7,bV,Goal.b9,iD,bD,d4];refine aX bW.bn ?_;refine cu mix [10] [(7,[4],[4])] ?_;simp only[zQ,simprocAttr,-D7,hole];refine ct (bE [4] (by simp [br,ck,bc.go,bc,cT]) (hc _)) ?_;simp only[zQ,simprocAttr,-D7];exact aP _ _
theorem RO (bH:eY t F g0 most st s1) (he:s1.empty=true) (o:re.op≠4) :
  ar prog 116 [.rf 0 g0 0 0,.d (Goal.mk kind re k bZ next).d,i64 i,.d (cQ c)] (bY g0 t most F st) λv s=>v=bV true/\s=bY g0 t most F s1:=by
 unfold eY bY dB at bH;simp only[i64,bV,iD,ajN,ajO]at bH;have d4:decide (re.op=4)=false:=ce o;unfold bY dB;refine bo func116 ntmps116 results116 3 26328072917139296674479506920917608079723773850137295405767982863 ?_;simp only[zI,simprocAttr,-D7,bV,Goal.b9,iD,bD,d4];refine an (bH _) (λv s' hv=>?_);obtain⟨rfl,rfl⟩:=hv;simp only[zQ,simprocAttr,-D7,he,aj2,aj0];exact aP _ _
theorem OP {t:List Int} (ht:t.length<=1000000) (F:Int):∀n,kK t F n
 |0=>λ_ _ _ _ _ _ h=>by cases h
 |n+1=>λg0 most task st b st' h=>by
  have ih:=OP ht F n;have h:cM t F (iw t F n) most task st=some (b,st'):=h;cases task with
  |run g i c =>
   cases g with
   |nil =>
    simp only[cM]at h;by_cases hi:i<0\/(t.length:Int)<i
    ·rw[be hi]at h;cases h
    rw[ap hi]at h;by_cases he:st.ends.length<2000000000000/\st.ai.length=st.ends.length
    ·rw[be he]at h;simp only[ajU,akn]at h;obtain⟨rfl,rfl⟩:=h;exact Vy he.1 he.2
    ·rw[ap he]at h;cases h
   |mk kind re k bZ next=>exact run_mk ih h
  |rep g i c =>
   simp only[cM]at h;by_cases hi:i<0\/(t.length:Int)<i
   ·rw[be hi]at h;cases h
   rw[ap hi]at h;cases g with
   |nil=>cases h
   |mk kind re k bZ next =>
    by_cases hm:re.mode=2
    ·exact SK ih hm h
    ·exact Ry ih hm h
  |node g i c =>
   simp only[cM]at h;by_cases hi:i<0\/(t.length:Int)<i
   ·rw[be hi]at h;cases h
   rw[ap hi]at h;cases g with
   |nil=>cases h
   |mk kind re k bZ next =>
    simp only at h;by_cases o4:re.op=4
    ·rw[be o4]at h;exact Zh ih o4 h
    rw[ap o4]at h;by_cases c0:1000000000<re.set.length\/1000000000<re.kids.length\/1000000000<c.length
    ·rw[be c0]at h;cases h
    rw[ap c0]at h;by_cases c1:st.steps<0\/10000000000000<st.steps
    ·rw[be c1]at h;cases h
    rw[ap c1]at h;have bH:eY t F g0 most st (st.step F):=λext=>JZ g0 t most F st ae ae ext;by_cases he:(st.step F).empty=true
    ·rw[be he]at h;simp only[ajU,akn]at h;obtain⟨rfl,rfl⟩:=h;exact RO bH he o4
    ·rw[ap he]at h;have he:(st.step F).empty=false:=by simpa using he
     have a1:0<=i:=ae;have a2:i<=t.length:=ae;have a3:re.set.length<=1000000000:=ae;have a4:re.kids.length<=1000000000:=ae;have a5:c.length<=1000000000:=ae;by_cases o1:re.op=1
     ·exact Y5 ih ht o1 a1 a2 a3 a4 a5 he bH h
     by_cases o2:re.op=2
     ·exact Yv ih ht o2 a1 a2 a3 a4 a5 he bH h
     by_cases o3:re.op=3
     ·exact YN ih ht o3 a1 a2 a3 a4 a5 he bH h
     by_cases o5:re.op=5
     ·exact Yg ih ht o5 a1 a2 a3 a4 a5 he bH h
     by_cases o6:re.op=6
     ·exact YH ih ht o6 a1 a2 a3 a4 a5 he bH h
     by_cases o7:re.op=7
     ·exact YP ih ht o7 a1 a2 a3 a4 a5 he bH h
     by_cases o8:re.op=8
     ·exact Zj ih ht o8 a1 a2 a3 a4 a5 he bH h
     by_cases o9:re.op=9
     ·exact YA ih ht o9 a1 a2 a3 a4 a5 he bH h
     by_cases L7:re.op=10
     ·exact U7 ih ht L7 a1 a2 a3 a4 a5 he bH h
     by_cases sm:re.op=11
     ·exact WJ ih ht sm a1 a2 a3 a4 a5 he bH h
     exact M8 ih ht ⟨o1,o2,o3,o4,o5,o6,o7,o8,o9,L7,sm⟩ a1 a2 a3 a4 a5 he bH h
end Go.Proofs.YtjjfioalgbecmaaGreat
namespace Go.Proofs.YtjjfioalgbecmaaGreat
open Go.VL Go.Proofs.Tryz
end Go.Proofs.YtjjfioalgbecmaaGreat
namespace Go.Proofs.YtjjfioalgbecmaaGreat
open Go.VL Go.Proofs.Tryz
mutual
def Re.every (p:Re->Bool):Re->Bool
 |.mk op set kids mn mx mode n neg=>p (.mk op set kids mn mx mode n neg)&&Re.ID p kids
def Re.ID (p:Re->Bool):List Re->Bool
 |[]=>true
 |k::l=>Re.every p k&&Re.ID p l
end
variable{t:List Int}{i':Int}{i:Int}{st:bO}{nc:Nat}{F:Int}{st':bO}{sl:Int}{b:Bool}
theorem Re.CI (p:Re->Bool):∀l:List Re,Re.ID p l=l.all (Re.every p)
 |[]=>rfl
 |k::l=>by simp [Re.ID,Re.CI p l]
theorem Re.aD {p:Re->Bool} (re:Re):re.every p=true ↔ p re=true/\∀k∈re.kids,k.every p=true:=by
 cases re with
 |mk op set kids mn mx mode n neg=>simp only[Re.every,aj5,Re.CI,aj3,Re.kids]
def jW (re:Re):Bool:=decide ((re.op=4\/re.op=5\/re.op=7\/re.op=8\/re.op=9->re.kids≠[])/\(re.op=10->2<=re.kids.length)/\re.set.length<=1000000000/\re.kids.length<=1000000000)
def TB (t:List Int) (p:Int×Int):Prop:=p=(-1,-1)\/(0<=p.1/\p.1<=p.2/\p.2<=t.length)
def jv (t:List Int) (c:aH):Prop:=c.length<=1000000000/\∀p∈c,TB t p
def jU (t:List Int) (i s:Int):Goal->Prop
 |.nil=>True
 |.mk kind re k bZ next=>(0<=kind/\kind<=4)/\re.every jW=true/\(kind=1\/kind=2->re.op=4)/\(kind=1->0<=k/\k<=s)/\(kind=2->0<=k/\k<s)/\(kind=3->0<=bZ/\bZ<=i)/\jU t i s next
theorem jU.mono{s s':Int} (hi:i<=i') (hs:s<=s'):∀{g:Goal},jU t i s g->jU t i' s' g
 |.nil,_=>trivial
 |.mk _ _ _ _ _,h=>by obtain⟨h0,h1,h2,h3,h4,h5,h6⟩:=h;exact⟨h0,h1,h2,λk=>by have:=h3 k;omega,λk=>by have:=h4 k;omega,λk=>by have:=h5 k;omega,h6.mono hi hs⟩
def xK:Goal->Nat
 |.nil=>0
 |.mk kind re _ _ next=>if kind=1 then (if re.mode=2 then 4 else 2) else if kind=2 then 5 else if kind=3\/kind=4 then 7+xK next else 6
def eE:Goal->Int
 |.nil=>1
 |.mk kind _ _ _ next=>if kind=3\/kind=4 then eE next else 0
theorem iJ:∀g:Goal,0<=eE g/\eE g<=1
 |.nil=>by simp [eE]
 |.mk kind _ _ _ next=>by
  have:=iJ next
  unfold eE;split
  ·exact this
  ·omega
def Task.zj:Task->Nat
 |.run g _ _=>xK g
 |.rep (.mk _ re _ _ _) _ _=>if re.mode=2 then 3 else 1
 |.rep .nil _ _=>0
 |.node _ _ _=>5
def Task.iA:Task->Int
 |.run g _ _=>eE g
 |_=>0
def Task.pos:Task->Int
 |.run _ i _=>i
 |.rep _ i _=>i
 |.node _ i _=>i
def Task.ai:Task->aH
 |.run _ _ c=>c
 |.rep _ _ c=>c
 |.node _ _ c=>c
def Task.Di:Task->Prop
 |.run (.mk kind re _ _ _) _ _=>kind=1/\re.mode≠2
 |.run .nil _ _=>False
 |.rep (.mk _ re _ _ _) _ _=>re.mode≠2
 |.rep .nil _ _=>False
 |.node (.mk _ re _ _ _) _ _=>re.op≠4
 |.node .nil _ _=>False
def Task.ok (t:List Int) (s:Int):Task->Prop
 |.run g i _=>jU t i s g
 |.rep .nil _ _=>False
 |.rep (.mk _ re k _ next) i _=>re.every jW=true/\re.op=4/\0<=k/\k<=s/\jU t i s next
 |.node .nil _ _=>False
 |.node (.mk _ re _ _ next) i _=>re.every jW=true/\jU t i s next
structure Pre (t:List Int) (F:Int) (task:Task) (st:bO):Prop where
 ok:task.ok t st.steps
 i0:0<=task.pos
 i1:task.pos<=t.length
 ai:jv t task.ai
 empty:st.empty=false
 s0:0<=st.steps
 s1:st.steps<=F
 ends:(st.ends.length:Int)+task.iA<=st.steps
 same:st.ai.length=st.ends.length
structure eo (t:List Int) (F:Int) (sl i:Int) (nc:Nat) (st:bO) (b:Bool) (st':bO):Prop where
 s0:st.steps<=st'.steps
 s1:st'.steps<=F+1
 empty:st'.empty=decide (F<st'.steps)
 full:st'.empty=true->b=true
 more:∃new xg,st'.ends=st.ends++new/\st'.ai=st.ai++xg/\xg.length=new.length/\(new.length:Int)<=st'.steps-st.steps+sl/\(∀e∈new,i<=e/\e<=t.length)/\∀d∈xg,jv t d/\d.length=nc
theorem eo.MN{sl':Int} (h:eo t F sl i nc st b st') (hs:sl<=sl') (hi:i'<=i):eo t F sl' i' nc st b st':=by obtain⟨new,xg,h1,h2,h3,h4,h5,h6⟩:=h.more;exact⟨h.s0,h.s1,h.empty,h.full,new,xg,h1,h2,h3,ae,λe he=>⟨by have:=h5 e he;omega,(h5 e he).2⟩,h6⟩
theorem eo.trans{sl1 sl2:Int}{s2:bO}{b1:Bool} (h:eo t F sl1 i nc st b1 s2) (k:eo t F sl2 i nc s2 b st'):eo t F (sl1+sl2) i nc st b st':=by
 obtain⟨new,xg,h1,h2,h3,h4,h5,h6⟩:=h.more;obtain⟨afn,aaT,k1,k2,k3,k4,k5,k6⟩:=k.more;refine⟨by have:=h.s0;have:=k.s0;omega,k.s1,k.empty,k.full,new++afn,xg++aaT,by rw[k1,h1,aj7],by rw[k2,h2,aj7],by simp [h3,k3],by simp only[ajQ,akC];omega,λe he=>?_,λd hd=>?_⟩
 ·rcases List.mem_append.1 he with he|he
  ·exact h5 e he
  ·exact k5 e he
 ·rcases List.mem_append.1 hd with hd|hd
  ·exact h6 d hd
  ·exact k6 d hd
theorem eo.step (h:eo t F sl i nc (st.step F) b st'):eo t F (sl-1) i nc st b st':=by obtain⟨new,xg,h1,h2,h3,h4,h5,h6⟩:=h.more;have hs:(st.step F).steps=st.steps+1:=rfl;rw[hs]at h4;exact⟨by have:=h.s0;rw[hs]at this;omega,h.s1,h.empty,h.full,new,xg,h1,h2,h3,ae,h5,h6⟩
theorem eo.no (h1:st.steps<=F) (h2:st.empty=false) (hs:0<=sl):eo t F sl i nc st false st :=
 ⟨akc _,ae,by rw[h2,ce ae],λh=>(by rw[h2]at h;cases h),[],[],ak,ak,rfl,cC,ak,ak⟩
theorem eo.out (h1:st.steps<=F) (h2:(st.step F).empty=true) (he:st.empty=false):eo t F 0 i nc st true (st.step F):=by
 have hs:(st.step F).steps=st.steps+1:=rfl;have hd:F<st.steps+1:=by simp only[bO.step,he,akl,decide_eq_true_eq]at h2;exact h2
 exact⟨by rw[hs];omega,by rw[hs];omega,by rw[h2,hs,bi hd],λ_=>rfl,[],[],by simp [bO.step],by simp [bO.step],rfl,(by rw[hs];simp;try omega),ak,ak⟩
def Ends (t:List Int) (F most:Int) (task:Task) (st:bO):Prop :=
 ∃n b st',iw t F n most task st=some (b,st')/\eo t F task.iA task.pos task.ai.length st b st'/\(task.Di->st.steps<st'.steps)
structure mq (t:List Int) (F:Int) (i:Int) (c:aH) (sl:Int) (st:bO):Prop where
 i0:0<=i
 i1:i<=t.length
 ai:jv t c
 empty:st.empty=false
 s0:0<=st.steps
 s1:st.steps<=F
 ends:(st.ends.length:Int)+sl<=st.steps
 same:st.ai.length=st.ends.length
theorem qX{g:Goal}{c:aH} (H:mq t F i c sl st) (h:Ends t F 1 (.run g i c) ⟨st.steps,false,[],[]⟩) (vj:eE g=0) :
  ∃n r s',gv (iw t F n) g i c st=some (r,s')/\st.steps<=s'.steps/\s'.steps<=F+1/\s'.empty=decide (F<s'.steps)/\s'.ends=st.ends/\s'.ai=st.ai/\(s'.empty=true->r=none) /\
   (∀e d,r=some (e,d)->i<=e/\e<=t.length/\jv t d/\d.length=c.length)/\((Task.run g i c).Di->st.steps<s'.steps):=by
 obtain⟨n,b,x,h1,h2,h3⟩:=h;obtain⟨new,xg,k1,k2,k3,k4,k5,k6⟩:=h2.more;simp only[ajO]at k1 k2;have kA:=h2.s0;have dM:=h2.s1;have jA:=h2.empty;simp only at kA;unfold gv;cases he:x.empty with
 |true =>
  refine⟨n,none,{ st with steps:=x.steps,empty:=x.empty },?_,kA,dM,jA,rfl,rfl,λ_=>rfl,λe d h=>(by cases h),h3⟩;rw[h1];simp only[he,if_true]
 |false =>
  cases hn:new with
  |nil =>
   refine⟨n,none,{ st with steps:=x.steps,empty:=x.empty },?_,kA,dM,jA,rfl,rfl,λ_=>rfl,λe d h=>(by cases h),h3⟩;rw[hn]at k1;rw[h1];simp only[he,ajY,if_false,k1]
  |cons e es =>
   rw[hn]at k1 k3 k5;cases hc:xg with
   |nil=>rw[hc]at k3;cases k3
   |cons d ds =>
    rw[hc]at k2 k6;refine⟨n,some (e,d),{ st with steps:=x.steps,empty:=x.empty },?_,kA,dM,jA,rfl,rfl,λh=>?_,λe' d' h=>?_,h3⟩
    ·rw[h1];simp only[he,ajY,if_false,k1,k2]
    ·simp only[he]at h;cases h
    ·cases h;have q1:=k5 e ak;have q2:=k6 d ak;exact⟨q1.1,q1.2,q2.1,q2.2⟩
end Go.Proofs.YtjjfioalgbecmaaGreat
