/- A part of the proof. -/
import Derived.Test.YtjjfioalgbecmaaGreatOA13
set_option linter.unusedSimpArgs false
set_option linter.unusedVariables false
open Int renaming reduceNatCast' → FF
set_option maxRecDepth 100000
set_option maxHeartbeats 80000000
namespace Go.Proofs.YtjjfioalgbecmaaGreat
open Go.VL Go.Proofs.Tryz
variable{fi:Int}{g0:Nat}{kind:Int}{s1:bE}{ai:Int}{c:aC}{F:Int}{st:bE}{st':bE}{b:Bool}{re:Re}{k:Int}{n:Nat}{i:Int}{t:List Int}
theorem ZW (ih:lp t F n) (ht:t.length<=1000000){next:Goal} (o:re.op=2)
  (hi0:0<=i) (ic:i<=t.length) (fB:re.set.length<=1000000000) (iw:re.kids.length<=1000000000) (cQ:c.length<=1000000000) (he:s1.empty=false) (bL:fD t F g0 ai st s1)
  (hr:fA t (eK t F n) ai re next i c s1=some (b,st')) :
  av prog 116 [.rf 0 g0 0 0,.d (Goal.mk kind re k fi next).d,i64 i,.d (bS c)] (cu g0 t ai F st) λv s=>v=bV b/\s=cu g0 t ai F st':=by
 unfold fD cu dW at bL;simp only[i64,bV,iD,ak5,ak6]at bL;have d4:decide (re.op=4)=false:=ce ae;have d1:decide (re.op=1)=false:=ce ae;have d2:decide (re.op=2)=true:=bi o;unfold fA at hr;rw[bm,be o]at hr;have wl:IntKind.i64.wrap ((re.kids.length:Int)-1)=(re.kids.length:Int)-1:=bK _ ae;unfold cu dW;refine br func116 ntmps116 results116 3 26328072917139296674479506920917608079723773850137295405767982863 ?_;simp only[zI,simprocAttr,-FF,bV,Goal.bP,iD,bD,d4,d1,d2];refine an (bL _) (λv s' hv=>?_);obtain⟨rfl,rfl⟩:=hv;simp only[zQ,simprocAttr,-FF,he,ali,alh,d4,d1,d2];refine ay (λm e s=>∃(j:Nat),m=j/\j<=re.kids.length/\e 0=.rf 0 g0 0 0/\e 2=i64 i/\e 3=.d (bS c)/\e 9=.rf 3 0 0 0/\e 10=.d (gm (re.kids.drop j) next).d/\e 11=i64 ((j:Int)-1)/\s=cu g0 t ai F s1++[Qh re])
  ⟨_,_,_,bO.refl,re.kids.length,rfl,ae,rfl,rfl,rfl,rfl,?_,?_,?_⟩ ?_
 ·rw[List.drop_length];rfl
 ·simp [ca,wl,i64]
 ·unfold cu dW Qh;simp only[he];rfl
 rintro m e s ⟨j,rfl,hj,h0,h2,h3,h9,ek,kr,rfl⟩;cases m with
 |zero =>
  rw[show ((0:Nat):Int)-1=-1 from rfl]at kr;rw[alV]at ek;have hc:=λext=>gz (ih g0 _ _ _ _ _ hr) ext;unfold fV fk cu dW at hc;simp only[Goal.bP,i64,iD,bD,bV,ak5,ak6]at hc;simp only[he]at hc;unfold cu dW Qh;simp only[zQ,simprocAttr,-FF,ak5,ak6,h0,h2,h3,h9,ek,kr,ge_iff_le,he]
  (refine an (hc _) (λv s' hv=>?_);obtain⟨rfl,rfl⟩:=hv)
  simp only[zQ,simprocAttr,-FF];exact ZaB
 |succ j =>
  rw[show ((j+1:Nat):Int)-1=j by omega]at kr;have VT:(0:Int)<=(j:Int):=ae;have aE:j<re.kids.length:=ae;have aH:(j:Int)<(re.kids.length:Int):=ae;obtain⟨x,hx⟩:∃x,re.kids[j]?=some x:=cb aE;have P5:gm (re.kids.drop j) next=.mk 0 x 0 0 (gm (re.kids.drop (j+1)) next):=by rw[yT hx];rfl
  generalize gm (re.kids.drop (j+1)) next=G at *
  have w1:IntKind.i64.wrap ((j:Int)-1)=(j:Int)-1:=bK _ ae;unfold cu dW Qh;simp only[zQ,simprocAttr,-FF,ak5,ak6,h0,h2,h3,h9,ek,kr,ge_iff_le,VT,aE,aH,hx,au x,Re.ah x,w1];refine⟨j,_,_,ae,(bO.freeze [4] [10]).trans (bO.cut (s':=cu g0 t ai F s1++[Qh re]) 4 ae rfl ?_ [0,2,3,9,10,11] ?_),j,rfl,ae,?_,?_,?_,?_,?_,?_,rfl⟩
  ·have:=Vy g0 t ai F s1 4 ae;rw[amm,this];rfl
  ·simp [l9,ca,aZ,ak,i64,h0,h2,h3,h9,ek,kr];rfl
  ·simpa [ot,l9,ca,aZ]using h0
  ·simpa [ot,l9,ca,aZ,i64]using h2
  ·simpa [ot,l9,ca,aZ]using h3
  ·simpa [ot,l9,ca,aZ]using h9
  ·rw[P5,Goal.bP];rfl
  ·rfl
def spO (x1 x2:Int):VL.Obj:=⟨0,true,2,[[i64 x1,i64 x2]]⟩
theorem Fa{a:Int}{j:Nat}:jv t a i (j+1)=(jv t a i j&&(lK t (a+j) == lK t (i+j))):=by unfold jv;rw[List.range_succ,amm];simp
theorem U9{a:Int}{j:Nat} (hj:j<n) (h:¬lK t (a+j)=lK t (i+j)):jv t a i n=false:=by rw[alP];intro hs;unfold jv at hs;rw[als]at hs;have:=hs j (List.mem_range.2 hj);simp only[beq_iff_eq]at this;exact h this
theorem aab (ih:lp t F n) (ht:t.length<=1000000){next:Goal} (o:re.op=6)
  (hi0:0<=i) (ic:i<=t.length) (fB:re.set.length<=1000000000) (iw:re.kids.length<=1000000000) (cQ:c.length<=1000000000) (he:s1.empty=false) (bL:fD t F g0 ai st s1)
  (hr:fA t (eK t F n) ai re next i c s1=some (b,st')) :
  av prog 116 [.rf 0 g0 0 0,.d (Goal.mk kind re k fi next).d,i64 i,.d (bS c)] (cu g0 t ai F st) λv s=>v=bV b/\s=cu g0 t ai F st':=by
 unfold fD cu dW at bL;simp only[i64,bV,iD,ak5,ak6]at bL;have d4:decide (re.op=4)=false:=ce ae;have d1:decide (re.op=1)=false:=ce ae;have d2:decide (re.op=2)=false:=ce ae;have d3:decide (re.op=3)=false:=ce ae;have d5:decide (re.op=5)=false:=ce ae;have d6:decide (re.op=6)=true:=bi o;unfold fA at hr;rw[bm,bm,bm,bm,be o]at hr;have lQ:=PK c re.n cQ;generalize ct c re.n=x at *;obtain⟨x1,x2⟩:=x;simp only[i64]at lQ;simp only at hr;by_cases q1:x1<0
 ·rw[be q1]at hr;simp only[alb,alG]at hr;obtain⟨rfl,rfl⟩:=hr;unfold cu dW;refine br func116 ntmps116 results116 3 26328072917139296674479506920917608079723773850137295405767982863 ?_;simp only[zI,simprocAttr,-FF,bV,Goal.bP,iD,bD,d4,d1,d2,d3,d5,d6];refine an (bL _) (λv s' hv=>?_);obtain⟨rfl,rfl⟩:=hv;simp only[zQ,simprocAttr,-FF,he,ali,alh,d4,d1,d2,d3,d5,d6];refine dk lQ ?_;simp only[zI,simprocAttr,-FF,iD,bD];refine cP mix [] [] ?_;simp only[zQ,simprocAttr,-FF,q1];exact⟨aF,aX _ _⟩
 rw[ap q1]at hr;by_cases q2:x2<x1\/(t.length:Int)<x2
 ·rw[be q2]at hr;cases hr
 rw[ap q2]at hr;have wa:IntKind.i64.wrap (i+x2)=i+x2:=bK _ ae;have wb:IntKind.i64.wrap (i+x2-x1)=i+x2-x1:=bK _ ae;by_cases q3:t.length<i+x2-x1
 ·rw[be q3]at hr;simp only[alb,alG]at hr;obtain⟨rfl,rfl⟩:=hr;unfold cu dW;refine br func116 ntmps116 results116 3 26328072917139296674479506920917608079723773850137295405767982863 ?_;simp only[zI,simprocAttr,-FF,bV,Goal.bP,iD,bD,d4,d1,d2,d3,d5,d6];refine an (bL _) (λv s' hv=>?_);obtain⟨rfl,rfl⟩:=hv;simp only[zQ,simprocAttr,-FF,he,ali,alh,d4,d1,d2,d3,d5,d6];refine dk lQ ?_;simp only[zI,simprocAttr,-FF,iD,bD];refine cP mix [] [] ?_;simp only[zQ,simprocAttr,-FF,q1,wa,wb,q3,gt_iff_lt];exact⟨aF,aF,aF,aX _ _⟩
 rw[ap q3]at hr;unfold cu dW;refine br func116 ntmps116 results116 3 26328072917139296674479506920917608079723773850137295405767982863 ?_;simp only[zI,simprocAttr,-FF,bV,Goal.bP,iD,bD,d4,d1,d2,d3,d5,d6];refine an (bL _) (λv s' hv=>?_);obtain⟨rfl,rfl⟩:=hv;simp only[zQ,simprocAttr,-FF,he,ali,alh,d4,d1,d2,d3,d5,d6];refine dk lQ ?_;simp only[zI,simprocAttr,-FF,iD,bD];refine cP mix [] [] ?_;simp only[zQ,simprocAttr,-FF,q1,wa,wb,q3,gt_iff_lt];refine⟨aF,aF,aF,aF,?_⟩;obtain⟨N,hN⟩:∃N:Nat,(N:Int)=x2-x1:=⟨(x2-x1).toNat,ae⟩
 have hN':(x2-x1).toNat=N:=ae;rw[hN']at hr;refine ay (λm e s=>∃(j:Nat),m=N-j/\j<=N/\e 0=.rf 0 g0 0 0/\e 1=.d (Goal.mk kind re k fi next).d/\e 2=i64 i/\e 3=.d (bS c)/\e 13=.rf 4 0 0 0/\e 14=i64 (x1+j)/\s=cu g0 t ai F s1++[Qh re,spO x1 x2]/\jv t x1 i j=true)
  ⟨_,_,_,bO.refl,0,rfl,ae,rfl,?_,rfl,rfl,rfl,?_,?_,rfl⟩ ?_
 ·rw[Goal.bP];rfl
 ·simp [ca,i64]
 ·unfold cu dW Qh spO;simp only[he];rfl
 rintro m e s ⟨j,rfl,hj,h0,h1,h2,h3,mE,gP,rfl,Yq⟩;rw[Goal.bP]at h1;rcases alw j N with aE|gE
 ·have l0:x1+(j:Int)<x2:=by omega
  have l1:0<=x1+(j:Int):=ae;have l2:x1+(j:Int)<(t.length:Int):=ae;have l3:0<=i+(j:Int):=ae;have l4:i+(j:Int)<(t.length:Int):=ae;have g1:=nK l1 l2;have g2:=nK l3 l4;have wc:IntKind.i64.wrap (i+(x1+(j:Int)))=i+(x1+(j:Int)):=bK _ ae;have wd:IntKind.i64.wrap (i+(x1+(j:Int))-x1)=i+(j:Int):=by rw[bK _ ae];omega
  have we:IntKind.i64.wrap (x1+(j:Int)+1)=x1+((j+1:Nat):Int):=by rw[bK _ ae];omega
  unfold cu dW Qh spO;simp only[zQ,simprocAttr,-FF,ak5,ak6,h0,h1,h2,h3,mE,gP,l0];refine⟨aF,?_⟩;refine cP mix [] [] ?_;by_cases hq:lK t (x1+(j:Int))=lK t (i+(j:Int))
  ·have dq:decide (lK t (x1+(j:Int))=lK t (i+(j:Int)))=true:=bi hq;simp only[zQ,simprocAttr,-FF,ar,h0,h1,h2,h3,mE,gP,l1,l2,l3,l4,g1,g2,wc,wd,we,dq];refine⟨aF,N-(j+1),_,_,ae,bO.refl,j+1,rfl,aE,?_,?_,?_,?_,?_,?_,rfl,by rw[Fa,Yq,hq];simp⟩ <;> (try simp only[zU,Nat.reduceBEq,Nat.reduceShiftRight,Nat.reduceMod,Nat.reduceEqDiff,reduceIte])
   ·exact h0
   ·rw[Goal.bP];exact h1
   ·exact h2
   ·exact h3
   ·exact mE
  ·have dq:decide (lK t (x1+(j:Int))=lK t (i+(j:Int)))=false:=ce hq;have iL:jv t x1 i N=false:=U9 aE hq;rw[ap (by rw[iL];decide)]at hr;simp only[alb,alG]at hr;obtain⟨rfl,rfl⟩:=hr;simp only[zQ,simprocAttr,-FF,ar,h0,h1,h2,h3,mE,gP,l1,l2,l3,l4,g1,g2,wc,wd,we,dq];exact⟨aF,aX _ _⟩
 ·have Rj:j=N:=by omega
  subst Rj;rw[be Yq]at hr;have hc:=λext=>gz (ih g0 _ _ _ _ _ hr) ext;unfold fV fk cu dW at hc;simp only[Goal.bP,i64,iD,bD,bV,ak5,ak6]at hc;simp only[he]at hc;have l0:¬x1+(j:Int)<x2:=ae;unfold cu dW Qh spO;simp only[zQ,simprocAttr,-FF,ak5,ak6,h0,h1,h2,h3,mE,gP,l0];refine⟨aF,?_⟩;refine cP mix [13] [] ?_;simp only[zQ,simprocAttr,-FF,h0,h1,h2,h3,mE,gP,wa,wb,he];refine⟨aF,aF,cU (hc _) ?_⟩;simp only[zQ,simprocAttr,-FF];first|exact aX _ _|exact⟨aX _ _,rfl⟩
theorem aaU (ih:lp t F n){next:Goal} (o:re.op=4)
  (hr:eK t F n ai (.rep (.mk 1 re 0 0 next) i c) st=some (b,st')) :
  av prog 116 [.rf 0 g0 0 0,.d (Goal.mk kind re k fi next).d,i64 i,.d (bS c)] (cu g0 t ai F st) λv s=>v=bV b/\s=cu g0 t ai F st':=by
 have hc:=λext=>gz (ih g0 _ _ _ _ _ hr) ext;unfold fV fk cu dW at hc;simp only[Goal.bP,i64,iD,bD,bV,ak5,ak6]at hc;have d4:decide (re.op=4)=true:=bi o;unfold cu dW;refine br func116 ntmps116 results116 3 26328072917139296674479506920917608079723773850137295405767982863 ?_;simp only[zI,simprocAttr,-FF,bV,Goal.bP,iD,bD,d4];refine aW cr.bu ?_;refine cP mix [10] [(7,[4],[4])] ?_;simp only[zQ,simprocAttr,-FF,hole];refine cU (bC [4] (by simp [bI,bU,bq.go,bq,cJ]) (hc _)) ?_;simp only[zQ,simprocAttr,-FF];exact aX _ _
theorem SX{next:Goal} (bL:fD t F g0 ai st s1) (he:s1.empty=true) (o:re.op≠4) :
  av prog 116 [.rf 0 g0 0 0,.d (Goal.mk kind re k fi next).d,i64 i,.d (bS c)] (cu g0 t ai F st) λv s=>v=bV true/\s=cu g0 t ai F s1:=by
 unfold fD cu dW at bL;simp only[i64,bV,iD,ak5,ak6]at bL;have d4:decide (re.op=4)=false:=ce o;unfold cu dW;refine br func116 ntmps116 results116 3 26328072917139296674479506920917608079723773850137295405767982863 ?_;simp only[zI,simprocAttr,-FF,bV,Goal.bP,iD,bD,d4];refine an (bL _) (λv s' hv=>?_);obtain⟨rfl,rfl⟩:=hv;simp only[zQ,simprocAttr,-FF,he,ali,alh];exact aX _ _
theorem PQ {t:List Int} (ht:t.length<=1000000) (F:Int):∀n,lp t F n
 |0=>λ_ _ _ _ _ _ h=>by cases h
 |n+1=>λg0 ai task st b st' h=>by
  have ih:=PQ ht F n;have h:cw t F (eK t F n) ai task st=some (b,st'):=h;cases task with
  |run g i c =>
   cases g with
   |nil =>
    simp only[cw]at h;by_cases hi:i<0\/(t.length:Int)<i
    ·rw[be hi]at h;cases h
    rw[ap hi]at h;by_cases he:st.ends.length<2000000000000/\st.aj.length=st.ends.length
    ·rw[be he]at h;simp only[alb,alG]at h;obtain⟨rfl,rfl⟩:=h;exact WA he.1 he.2
    ·rw[ap he]at h;cases h
   |mk kind re k fi next=>exact run_mk ih h
  |rep g i c =>
   simp only[cw]at h;by_cases hi:i<0\/(t.length:Int)<i
   ·rw[be hi]at h;cases h
   rw[ap hi]at h;cases g with
   |nil=>cases h
   |mk kind re k fi next =>
    by_cases hm:re.mode=2
    ·exact TO ih hm h
    ·exact SE ih hm h
  |node g i c =>
   simp only[cw]at h;by_cases hi:i<0\/(t.length:Int)<i
   ·rw[be hi]at h;cases h
   rw[ap hi]at h;cases g with
   |nil=>cases h
   |mk kind re k fi next =>
    simp only at h;by_cases o4:re.op=4
    ·rw[be o4]at h;exact aaU ih o4 h
    rw[ap o4]at h;by_cases c0:1000000000<re.set.length\/1000000000<re.kids.length\/1000000000<c.length
    ·rw[be c0]at h;cases h
    rw[ap c0]at h;by_cases c1:st.steps<0\/10000000000000<st.steps
    ·rw[be c1]at h;cases h
    rw[ap c1]at h;have bL:fD t F g0 ai st (st.step F):=λext=>K4 g0 t ai F st ae ae ext;by_cases he:(st.step F).empty=true
    ·rw[be he]at h;simp only[alb,alG]at h;obtain⟨rfl,rfl⟩:=h;exact SX bL he o4
    ·rw[ap he]at h;have he:(st.step F).empty=false:=by simpa using he
     have a1:0<=i:=ae;have a2:i<=t.length:=ae;have a3:re.set.length<=1000000000:=ae;have a4:re.kids.length<=1000000000:=ae;have a5:c.length<=1000000000:=ae;by_cases o1:re.op=1
     ·exact aaG ih ht o1 a1 a2 a3 a4 a5 he bL h
     by_cases o2:re.op=2
     ·exact ZW ih ht o2 a1 a2 a3 a4 a5 he bL h
     by_cases o3:re.op=3
     ·exact aan ih ht o3 a1 a2 a3 a4 a5 he bL h
     by_cases o5:re.op=5
     ·exact ZE ih ht o5 a1 a2 a3 a4 a5 he bL h
     by_cases o6:re.op=6
     ·exact aab ih ht o6 a1 a2 a3 a4 a5 he bL h
     by_cases o7:re.op=7
     ·exact aap ih ht o7 a1 a2 a3 a4 a5 he bL h
     by_cases o8:re.op=8
     ·exact aaX ih ht o8 a1 a2 a3 a4 a5 he bL h
     by_cases o9:re.op=9
     ·exact Z0 ih ht o9 a1 a2 a3 a4 a5 he bL h
     by_cases yL:re.op=10
     ·exact V8 ih ht yL a1 a2 a3 a4 a5 he bL h
     by_cases mZ:re.op=11
     ·exact XQ ih ht mZ a1 a2 a3 a4 a5 he bL h
     exact Oc ih ht ⟨o1,o2,o3,o4,o5,o6,o7,o8,o9,yL,mZ⟩ a1 a2 a3 a4 a5 he bL h
end Go.Proofs.YtjjfioalgbecmaaGreat
namespace Go.Proofs.YtjjfioalgbecmaaGreat
open Go.VL Go.Proofs.Tryz
end Go.Proofs.YtjjfioalgbecmaaGreat
namespace Go.Proofs.YtjjfioalgbecmaaGreat
open Go.VL Go.Proofs.Tryz
mutual
def Re.every (p:Re->Bool):Re->Bool
 |.mk op set kids mn mx mode n neg=>p (.mk op set kids mn mx mode n neg)&&Re.JJ p kids
def Re.JJ (p:Re->Bool):List Re->Bool
 |[]=>true
 |k::l=>Re.every p k&&Re.JJ p l
end
variable{t:List Int}{i':Int}{i:Int}{nc:Nat}{F:Int}{st:bE}{sl:Int}{st':bE}{b:Int}{sl':Int}{c:aC}{s1:bE}{ai:Int}{re:Re}{s:bE}{m:Mk}{z:Int}
theorem Re.D0 (p:Re->Bool):∀l:List Re,Re.JJ p l=l.all (Re.every p)
 |[]=>rfl
 |k::l=>by simp [Re.JJ,Re.D0 p l]
theorem Re.az {p:Re->Bool} (re:Re):re.every p=true ↔ p re=true/\∀k∈re.kids,k.every p=true:=by
 cases re with
 |mk op set kids mn mx mode n neg=>simp only[Re.every,alo,Re.D0,als,Re.kids]
def ks (re:Re):Bool:=decide ((re.op=4\/re.op=5\/re.op=7\/re.op=8\/re.op=9->re.kids≠[])/\(re.op=10->2<=re.kids.length)/\re.set.length<=1000000000/\re.kids.length<=1000000000)
def US (t:List Int) (p:Int×Int):Prop:=p=(-1,-1)\/(0<=p.1/\p.1<=p.2/\p.2<=t.length)
def dz (t:List Int) (c:aC):Prop:=c.length<=1000000000/\∀p∈c,US t p
def kq (t:List Int) (i s:Int):Goal->Prop
 |.nil=>True
 |.mk kind re k fi next=>(0<=kind/\kind<=4)/\re.every ks=true/\(kind=1\/kind=2->re.op=4)/\(kind=1->0<=k/\k<=s)/\(kind=2->0<=k/\k<s)/\(kind=3->0<=fi/\fi<=i)/\kq t i s next
theorem kq.mono{s s':Int} (hi:i<=i') (hs:s<=s'):∀{g:Goal},kq t i s g->kq t i' s' g
 |.nil,_=>trivial
 |.mk _ _ _ _ _,h=>by obtain⟨h0,h1,h2,h3,h4,h5,h6⟩:=h;exact⟨h0,h1,h2,λk=>by have:=h3 k;omega,λk=>by have:=h4 k;omega,λk=>by have:=h5 k;omega,h6.mono hi hs⟩
def y5:Goal->Nat
 |.nil=>0
 |.mk kind re _ _ next=>if kind=1 then (if re.mode=2 then 4 else 2) else if kind=2 then 5 else if kind=3\/kind=4 then 7+y5 next else 6
def eY:Goal->Int
 |.nil=>1
 |.mk kind _ _ _ next=>if kind=3\/kind=4 then eY next else 0
theorem iZ:∀g:Goal,0<=eY g/\eY g<=1
 |.nil=>by simp [eY]
 |.mk kind _ _ _ next=>by
  have:=iZ next
  unfold eY;split
  ·exact this
  ·omega
def Task.AI:Task->Nat
 |.run g _ _=>y5 g
 |.rep (.mk _ re _ _ _) _ _=>if re.mode=2 then 3 else 1
 |.rep .nil _ _=>0
 |.node _ _ _=>5
def Task.iS:Task->Int
 |.run g _ _=>eY g
 |_=>0
def Task.pos:Task->Int
 |.run _ i _=>i
 |.rep _ i _=>i
 |.node _ i _=>i
def Task.aj:Task->aC
 |.run _ _ c=>c
 |.rep _ _ c=>c
 |.node _ _ c=>c
def Task.EA:Task->Prop
 |.run (.mk kind re _ _ _) _ _=>kind=1/\re.mode≠2
 |.run .nil _ _=>False
 |.rep (.mk _ re _ _ _) _ _=>re.mode≠2
 |.rep .nil _ _=>False
 |.node (.mk _ re _ _ _) _ _=>re.op≠4
 |.node .nil _ _=>False
def Task.ok (t:List Int) (s:Int):Task->Prop
 |.run g i _=>kq t i s g
 |.rep .nil _ _=>False
 |.rep (.mk _ re k _ next) i _=>re.every ks=true/\re.op=4/\0<=k/\k<=s/\kq t i s next
 |.node .nil _ _=>False
 |.node (.mk _ re _ _ next) i _=>re.every ks=true/\kq t i s next
structure Pre (t:List Int) (F:Int) (task:Task) (st:bE):Prop where
 ok:task.ok t st.steps
 i0:0<=task.pos
 i1:task.pos<=t.length
 aj:dz t task.aj
 empty:st.empty=false
 s0:0<=st.steps
 s1:st.steps<=F
 ends:(st.ends.length:Int)+task.iS<=st.steps
 same:st.aj.length=st.ends.length
structure eN (t:List Int) (F:Int) (sl i:Int) (nc:Nat) (st:bE) (b:Bool) (st':bE):Prop where
 s0:st.steps<=st'.steps
 s1:st'.steps<=F+1
 empty:st'.empty=decide (F<st'.steps)
 full:st'.empty=true->b=true
 more:∃new tz,st'.ends=st.ends++new/\st'.aj=st.aj++tz/\tz.length=new.length/\(new.length:Int)<=st'.steps-st.steps+sl/\(∀e∈new,i<=e/\e<=t.length)/\∀d∈tz,dz t d/\d.length=nc
theorem eN.qd{b:Bool} (h:eN t F sl i nc st b st') (hs:sl<=sl') (hi:i'<=i):eN t F sl' i' nc st b st':=by obtain⟨new,tz,h1,h2,h3,h4,h5,h6⟩:=h.more;exact⟨h.s0,h.s1,h.empty,h.full,new,tz,h1,h2,h3,ae,λe he=>⟨by have:=h5 e he;omega,(h5 e he).2⟩,h6⟩
theorem eN.trans{sl1 sl2:Int}{s2:bE}{b1 b:Bool} (h:eN t F sl1 i nc st b1 s2) (k:eN t F sl2 i nc s2 b st'):eN t F (sl1+sl2) i nc st b st':=by
 obtain⟨new,tz,h1,h2,h3,h4,h5,h6⟩:=h.more;obtain⟨agR,acA,k1,k2,k3,k4,k5,k6⟩:=k.more;refine⟨by have:=h.s0;have:=k.s0;omega,k.s1,k.empty,k.full,new++agR,tz++acA,by rw[k1,h1,alx],by rw[k2,h2,alx],by simp [h3,k3],by simp only[ald,amf];omega,λe he=>?_,λd hd=>?_⟩
 ·rcases List.mem_append.1 he with he|he
  ·exact h5 e he
  ·exact k5 e he
 ·rcases List.mem_append.1 hd with hd|hd
  ·exact h6 d hd
  ·exact k6 d hd
theorem eN.step {t:List Int}{F sl i:Int}{nc:Nat}{st st':bE}{b:Bool} (h:eN t F sl i nc (st.step F) b st'):eN t F (sl-1) i nc st b st':=by obtain⟨new,tz,h1,h2,h3,h4,h5,h6⟩:=h.more;have hs:(st.step F).steps=st.steps+1:=rfl;rw[hs]at h4;exact⟨by have:=h.s0;rw[hs]at this;omega,h.s1,h.empty,h.full,new,tz,h1,h2,h3,ae,h5,h6⟩
theorem eN.no (h1:st.steps<=F) (h2:st.empty=false) (hs:0<=sl):eN t F sl i nc st false st :=
 ⟨alj _,ae,by rw[h2,ce ae],λh=>(by rw[h2]at h;cases h),[],[],aq,aq,rfl,cV,aq,aq⟩
theorem eN.out (h1:st.steps<=F) (h2:(st.step F).empty=true) (he:st.empty=false):eN t F 0 i nc st true (st.step F):=by
 have hs:(st.step F).steps=st.steps+1:=rfl;have hd:F<st.steps+1:=by simp only[bE.step,he,alB,decide_eq_true_eq]at h2;exact h2
 exact⟨by rw[hs];omega,by rw[hs];omega,by rw[h2,hs,bi hd],λ_=>rfl,[],[],by simp [bE.step],by simp [bE.step],rfl,(by rw[hs];simp;try omega),aq,aq⟩
def Ends (t:List Int) (F ai:Int) (task:Task) (st:bE):Prop :=
 ∃n b st',eK t F n ai task st=some (b,st')/\eN t F task.iS task.pos task.aj.length st b st'/\(task.EA->st.steps<st'.steps)
structure ni (t:List Int) (F:Int) (i:Int) (c:aC) (sl:Int) (st:bE):Prop where
 i0:0<=i
 i1:i<=t.length
 aj:dz t c
 empty:st.empty=false
 s0:0<=st.steps
 s1:st.steps<=F
 ends:(st.ends.length:Int)+sl<=st.steps
 same:st.aj.length=st.ends.length
theorem sm{g:Goal} (H:ni t F i c sl st) (h:Ends t F 1 (.run g i c) ⟨st.steps,false,[],[]⟩) (yp:eY g=0) :
  ∃n r s',cY (eK t F n) g i c st=some (r,s')/\st.steps<=s'.steps/\s'.steps<=F+1/\s'.empty=decide (F<s'.steps)/\s'.ends=st.ends/\s'.aj=st.aj/\(s'.empty=true->r=none) /\
   (∀e d,r=some (e,d)->i<=e/\e<=t.length/\dz t d/\d.length=c.length)/\((Task.run g i c).EA->st.steps<s'.steps):=by
 obtain⟨n,b,x,h1,h2,h3⟩:=h;obtain⟨new,tz,k1,k2,k3,k4,k5,k6⟩:=h2.more;simp only[ak6]at k1 k2;have jW:=h2.s0;have dL:=h2.s1;have jG:=h2.empty;simp only at jW;unfold cY;cases he:x.empty with
 |true =>
  refine⟨n,none,{ st with steps:=x.steps,empty:=x.empty },?_,jW,dL,jG,rfl,rfl,λ_=>rfl,λe d h=>(by cases h),h3⟩;rw[h1];simp only[he,if_true]
 |false =>
  cases hn:new with
  |nil =>
   refine⟨n,none,{ st with steps:=x.steps,empty:=x.empty },?_,jW,dL,jG,rfl,rfl,λ_=>rfl,λe d h=>(by cases h),h3⟩;rw[hn]at k1;rw[h1];simp only[he,alk,if_false,k1]
  |cons e es =>
   rw[hn]at k1 k3 k5;cases hc:tz with
   |nil=>rw[hc]at k3;cases k3
   |cons d ds =>
    rw[hc]at k2 k6;refine⟨n,some (e,d),{ st with steps:=x.steps,empty:=x.empty },?_,jW,dL,jG,rfl,rfl,λh=>?_,λe' d' h=>?_,h3⟩
    ·rw[h1];simp only[he,alk,if_false,k1,k2]
    ·simp only[he]at h;cases h
    ·cases h;have q1:=k5 e aq;have q2:=k6 d aq;exact⟨q1.1,q1.2,q2.1,q2.2⟩
theorem eN.same{e d:Int}{b:Bool} (h:eN t F sl e nc s1 b st') (he:s1.ends=st.ends) (hc:s1.aj=st.aj) (hs:st.steps+d<=s1.steps) (hd:0<=d) (hi:i<=e):eN t F (sl-d) i nc st b st':=by obtain⟨new,tz,h1,h2,h3,h4,h5,h6⟩:=h.more;exact⟨by have:=h.s0;omega,h.s1,h.empty,h.full,new,tz,by rw[h1,he],by rw[h2,hc],h3,ae,λx hx=>⟨by have:=h5 x hx;omega,(h5 x hx).2⟩,h6⟩
theorem ni.next{slp:Int} (H:ni t F i c sl st) (h:eN t F slp i c.length st false s1) (hs:slp+sl'<=sl):ni t F i c sl' s1:=by
 have he:s1.empty=false:=by
  cases hx:s1.empty with
  |false=>rfl
  |true=>have:=h.full hx;cases this
 have hd:=h.empty;rw[he]at hd;have hle:s1.steps<=F:=by have:=of_decide_eq_false hd.symm;omega
 obtain⟨new,tz,h1,h2,h3,h4,h5,h6⟩:=h.more;refine⟨H.i0,H.i1,H.aj,he,by have:=H.s0;have:=h.s0;omega,hle,?_,?_⟩
 ·have:=H.ends;rw[h1,ald,amf];omega
 ·rw[h1,h2,ald,ald,h3,H.same]
theorem Ends.via{task task':Task} (heq:∀rec,cw t F rec ai task st=rec ai task' st) (h:Ends t F ai task' st) (h1:task'.iS<=task.iS) (h2:task.pos<=task'.pos) (h3:task'.aj.length=task.aj.length)
  (h4:task.EA->task'.EA):Ends t F ai task st:=by
 obtain⟨n,b,st',k1,k2,k3⟩:=h;exact⟨n+1,b,st',by show cw t F (eK t F n) ai task st=_;rw[heq];exact k1,(h3 ▸ k2.qd h1 h2),λhs=>k3 (h4 hs)⟩
theorem MA {t:List Int}{F ai:Int}{i:Int}{c:aC}{next:Goal}{s0:Int}:∀(l:List Re) (st:bE),(∀k∈l,∀s:bE,s0<=s.steps->ni t F i c 0 s->Ends t F ai (.run (.mk 0 k 0 0 next) i c) s)->s0<=st.steps->ni t F i c 0 st ->
  ∃n b s',uD (λk st=>eK t F n ai (.run (.mk 0 k 0 0 next) i c) st) l st=some (b,s')/\eN t F 0 i c.length st b s'
 |[],st,_,_,H=>⟨0,false,st,rfl,.no H.s1 H.empty (alj _)⟩
 |k::l,st,h,hs,H=>by
  obtain⟨n1,b1,s1,k1,k2,_⟩:=h k aq st hs H;have k2:eN t F 0 i c.length st b1 s1:=k2;cases b1 with
  |true =>
   refine⟨n1,true,s1,?_,k2⟩;simp only[uD,k1,xc]
  |false =>
   have H1:=H.next k2 (sl':=0) ae;obtain⟨n2,b2,s2,j1,j2⟩:=MA l s1 (λk hk=>h k (by simp [hk])) (by have:=k2.s0;omega) H1;refine⟨max n1 n2,b2,s2,?_,k2.trans j2⟩;simp only[uD,eP (amA n1 n2) k1,xc];exact AZ (λk st r hr=>eP (amy n1 n2) hr) l s1 _ j1
theorem BZ {t:List Int}{F:Int}{g:Goal}{c:aC}{s0:Int} (yp:eY g=0) (hc:dz t c):∀(m:Nat) (st:bE),(m:Int)<=t.length+1->(∀(k:Nat) (s:bE),k<m->s0<=s.steps->ni t F k c 0 s->Ends t F 1 (.run g k c) ⟨s.steps,false,[],[]⟩)->s0<=st.steps ->
  0<=st.steps->st.steps<=F+1->st.empty=decide (F<st.steps)->(st.ends.length:Int)<=st.steps->st.aj.length=st.ends.length ->
  ∃n r s',dT (λk st=>cY (eK t F n) g k c st) m st=some (r,s')/\st.steps<=s'.steps/\s'.steps<=F+1/\s'.empty=decide (F<s'.steps)/\s'.ends=st.ends/\s'.aj=st.aj/\(∀d,r=some d->dz t d/\d.length=c.length)
 |0,st,_,_,_,h0,h1,he,hl,hs=>⟨0,none,st,rfl,alj _,h1,he,rfl,rfl,λd h=>(by cases h)⟩
 |m+1,st,hm,h,jW,h0,h1,he,hl,hs=>by
  by_cases hx:st.empty=true
  ·exact⟨0,none,st,by simp only[dT,be hx],alj _,h1,he,rfl,rfl,λd h=>(by cases h)⟩
  have hx:st.empty=false:=by simpa using hx
  have hle:st.steps<=F:=by rw[hx]at he;have:=of_decide_eq_false he.symm;omega
  have H:ni t F (m:Nat) c 0 st:=⟨ae,ae,hc,hx,h0,hle,ae,hs⟩
  obtain⟨n1,r1,s1,k1,k2,k3,k4,k5,k6,k7,k8,_⟩:=sm H (h m st ae jW H) yp;cases r1 with
  |some p =>
   obtain⟨e,d⟩:=p;refine⟨n1,some d,s1,?_,k2,k3,k4,k5,k6,λd' h=>?_⟩
   ·simp only[dT,hx,alk,if_false,k1]
   ·cases h;have:=k8 e d rfl;exact⟨this.2.2.1,this.2.2.2⟩
  |none =>
   obtain⟨n2,r2,s2,j1,j2,j3,j4,j5,j6,j7⟩:=BZ yp hc m s1 ae (λk s hk=>h k s ae) ae ae k3 k4 (by rw[k5];omega) (by rw[k5,k6];exact hs);refine⟨max n1 n2,r2,s2,?_,ae,j3,j4,by rw[j5,k5],by rw[j6,k6],j7⟩;simp only[dT,hx,alk,if_false];rw[iR (λm task st r hr=>eP (amA n1 n2) hr) k1];exact sk (λk st r hr=>iR (λm task st r hr=>eP (amy n1 n2) hr) hr) m s1 _ j1
theorem dz.with {t:List Int}{c:aC}{n fi to:Int} (h:dz t c) (h0:0<=fi) (h1:fi<=to) (h2:to<=t.length):dz t (mR c n fi to)/\(mR c n fi to).length=c.length:=by
 unfold mR;split
 ·refine⟨⟨by simpa using h.1,λp hp=>?_⟩,aq⟩;rcases amb hp with hp|rfl
  ·exact h.2 p hp
  ·exact .inr ⟨h0,h1,h2⟩
 ·exact⟨h,rfl⟩
theorem Kd (h:dz t c) (n:Int):US t (ct c n):=by
 unfold ct;split
 ·exact .inl rfl
 ·rename_i hn;have aE:(n-1).toNat<c.length:=ae;rw[List.getD,List.getElem?_eq_getElem aE];exact h.2 _ (List.getElem_mem aE)
theorem GH (h:re.every ks=true) (m:Int):(re.dJ m).every ks=true:=by rw[Re.az]at h ⊢;exact⟨h.1,h.2⟩
theorem Pl {t:List Int}{i s:Int}{next:Goal} (hn:kq t i s next):∀l:List Re,(∀k∈l,k.every ks=true)->kq t i s (gm l next)
 |[],_=>hn
 |k::l,h=>⟨ae,h k aq,λh=>ae,λh=>ae,λh=>ae,λh=>ae,Pl hn l (λx hx=>h x (by simp [hx]))⟩
theorem ni.le (H:ni t F i c sl s) (h:sl'<=sl):ni t F i c sl' s :=
 ⟨H.i0,H.i1,H.aj,H.empty,H.s0,H.s1,by have:=H.ends;omega,H.same⟩
theorem ni.at{e:Int}{d:aC}{s2:bE} (H:ni t F i c sl s) (he0:i<=e) (he1:e<=t.length) (hd:dz t d) (h1:s2.ends=s.ends) (h2:s2.aj=s.aj) (h3:s.steps<=s2.steps) (h4:s2.steps<=F) (h5:s2.empty=false) (h6:sl'<=sl+(s2.steps-s.steps)):ni t F e d sl' s2 :=
 ⟨by have:=H.i0;omega,he1,hd,h5,by have:=H.s0;omega,h4,by have:=H.ends;rw[h1];omega,by rw[h1,h2];exact H.same⟩
theorem A8 (h:s.empty=decide (F<s.steps)) (he:s.empty=false):s.steps<=F:=by rw[he]at h;have:=of_decide_eq_false h.symm;omega
theorem Q4 (IH:∀ai task s,s1.steps<=s.steps->task.ok t s.steps->ni t F task.pos task.aj task.iS s->Ends t F ai task s){next:Goal}
  (hsh:re.every ks=true) (hn:kq t i s1.steps next) (H:ni t F i c 1 s1) :
  ∃n b s',fA t (eK t F n) ai re next i c s1=some (b,s')/\eN t F 1 i c.length s1 b s':=by
 obtain⟨h1,h2⟩:=(Re.az re).1 hsh;obtain⟨h1a,h1b,_,_⟩:=of_decide_eq_true h1;have hi0:=H.i0;have ic:=H.i1;have go:∀(g:Goal) (e:Int) (d:aC) (s2:bE),i<=e->e<=t.length->dz t d->d.length=c.length->s2.ends=s1.ends->s2.aj=s1.aj->s1.steps<=s2.steps->s2.steps<=F->s2.empty=false->kq t e s2.steps g ->
   ∃n b s',eK t F n ai (.run g e d) s2=some (b,s')/\eN t F 1 i c.length s1 b s':=by
  intro g e d s2 a1 a2 a3 a4 a5 a6 a7 a8 a9 hg;have hs:=iZ g;obtain⟨n,b,s',k1,k2,_⟩:=IH ai (.run g e d) s2 a7 hg (H.at (sl':=eY g) a1 a2 a3 a5 a6 a7 a8 a9 ae);have k2:eN t F (eY g) e d.length s2 b s':=k2;rw[a4]at k2;have k3:=(k2.qd (sl':=1) hs.2 (alj _)).same (st:=s1) (d:=0) (i:=i) a5 a6 ae (alj _) a1;rw[Int.sub_zero]at k3;exact⟨n,b,s',k1,k3⟩
 have here:∀g,kq t i s1.steps g->∃n b s',eK t F n ai (.run g i c) s1=some (b,s')/\eN t F 1 i c.length s1 b s':=λg hg=>go g i c s1 (alj _) ic H.aj rfl rfl rfl (alj _) H.s1 H.empty hg;have no:eN t F 1 i c.length s1 false s1:=.no H.s1 H.empty ae;have fst:∀(aJ:Re) (tail:Goal) (k:Int) (s:bE),aJ.every ks=true->kq t k s.steps tail->s1.steps<=s.steps->ni t F k c 0 s->Ends t F 1 (.run (.mk 0 aJ 0 0 tail) k c) ⟨s.steps,false,[],[]⟩:=by intro aJ tail k s b1 b2 b3 Hs;refine IH 1 _ _ b3 ⟨ae,b1,λh=>ae,λh=>ae,λh=>ae,λh=>ae,b2⟩ ⟨Hs.i0,Hs.i1,Hs.aj,rfl,Hs.s0,Hs.s1,?_,rfl⟩;have:=Hs.s0;simp [Task.iS,eY];omega
 unfold fA;by_cases o1:re.op=1
 ·simp only[be o1];by_cases hc:i<t.length/\yP re.set (lK t i)=true
  ·simp only[be hc];have q:=go next (i+1) c s1 ae ae H.aj rfl rfl rfl (alj _) H.s1 H.empty (hn.mono ae (alj _))
   exact q
  ·simp only[ap hc];exact ZcO
 simp only[ap o1];by_cases o2:re.op=2
 ·simp only[be o2];exact here _ (Pl hn re.kids h2)
 simp only[ap o2];by_cases o3:re.op=3
 ·simp only[be o3];obtain⟨n,b,s',k1,k2⟩:=MA (ai:=ai) (next:=next) (s0:=s1.steps) re.kids s1 (λk hk s hs Hs=>IH ai _ s hs ⟨ae,h2 k hk,λh=>ae,λh=>ae,λh=>ae,λh=>ae,hn.mono (alj _) hs⟩ Hs) (alj _) (H.le ae);exact⟨n,b,s',k1,k2.qd ae (alj _)⟩
 simp only[ap o3];by_cases o5:re.op=5
 ·simp only[be o5];cases hk:re.kids with
  |nil=>exact absurd hk (h1a ae)
  |cons aJ l =>
   exact here _ ⟨ae,h2 aJ (by rw[hk];simp),λh=>ae,λh=>ae,λh=>ae,λh=>ae,ae,hsh,λh=>ae,λh=>ae,λh=>ae,λ_=>⟨hi0,alj _⟩,hn⟩
 simp only[ap o5];by_cases o6:re.op=6
 ·simp only[be o6];have lQ:=Kd H.aj re.n;generalize ct c re.n=x at *;by_cases c1:x.1<0
  ·simp only[be c1];exact ZcO
  simp only[ap c1];have hx:0<=x.1/\x.1<=x.2/\x.2<=t.length:=by
   rcases lQ with h|h
   ·rw[h]at c1;exact absurd aF c1
   ·exact h
  simp only[ap (show ¬(x.2<x.1\/(t.length:Int)<x.2) by omega)];by_cases c3:t.length<i+x.2-x.1
  ·simp only[be c3];exact ZcO
  simp only[ap c3];by_cases c4:jv t x.1 i (x.2-x.1).toNat=true
  ·simp only[be c4];exact go next (i+x.2-x.1) c s1 ae ae H.aj rfl rfl rfl (alj _) H.s1 H.empty (hn.mono ae (alj _))
  ·simp only[ap c4];exact ZcO
 simp only[ap o6];by_cases o7:re.op=7\/re.op=8
 ·simp only[be o7];cases hk:re.kids with
  |nil=>exact absurd hk (h1a ae)
  |cons aJ l =>
   have wV:aJ.every ks=true:=h2 aJ (by rw[hk];simp);have look:∃n r s',oq (eK t F n) re.op aJ i c s1=some (r,s')/\s1.steps<=s'.steps/\s'.steps<=F+1/\s'.empty=decide (F<s'.steps)/\s'.ends=s1.ends/\s'.aj=s1.aj/\(∀d,r=some d->dz t d/\d.length=c.length):=by
    unfold oq;by_cases p7:re.op=7
    ·simp only[be p7];obtain⟨n,r,s',k1,k2,k3,k4,k5,k6,k7,k8,_⟩:=sm (H.le (sl':=0) ae) (fst aJ .nil i s1 wV trivial (alj _) (H.le ae)) rfl;refine⟨n,r.map (·.2),s',by rw[k1],k2,k3,k4,k5,k6,λd hd=>?_⟩;obtain⟨p,hp,rfl⟩:=Option.map_eq_some_iff.1 hd;have:=k8 p.1 p.2 hp;exact⟨this.2.2.1,this.2.2.2⟩
    ·simp only[ap p7];refine BZ (s0:=s1.steps) rfl H.aj _ s1 ae (λk s hk hs Hs=>fst aJ _ k s wV ?_ hs Hs) (alj _) H.s0 (by have:=H.s1;omega) (by rw[H.empty,ce (by have:=H.s1;omega)]) (by have:=H.ends;omega) H.same;refine⟨ae,?_,λh=>ae,λh=>ae,λh=>ae,λh=>ae,trivial⟩;rw[Re.az];refine⟨bi ⟨λh=>by simp [Re.op]at h,λh=>by simp [Re.op]at h,by simp [Re.set],by simp [Re.kids]⟩,λk hk=>by simp [Re.kids]at hk⟩
   obtain⟨n1,r,s2,k1,k2,k3,k4,k5,k6,k7⟩:=look;by_cases he:s2.empty=true
   ·exact Zcm
   have he:s2.empty=false:=by simpa using he
   have hle:=A8 k4 he;have fno:eN t F 1 i c.length s1 false s2:=⟨k2,k3,k4,λh=>(by rw[he]at h;cases h),[],[],by rw[k5];simp,by rw[k6];simp,rfl,cV,aq,aq⟩
   by_cases dQ:re.neg=true
   ·cases r with
    |some d =>
     refine⟨n1,false,s2,?_,fno⟩;simp only[k1,he,alk,if_false,be dQ]
    |none =>
     obtain⟨n2,b,s',j1,j2⟩:=go next i c s2 (alj _) ic H.aj rfl k5 k6 k2 hle he (hn.mono (alj _) k2)
     refine⟨max n1 n2,b,s',?_,j2⟩;have hm:=yv (rec:=eK t F n1) (rec':=eK t F (max n1 n2)) (λm task st r hr=>eP (amA n1 n2) hr) k1;simp only[hm,he,alk,if_false,be dQ];exact eP (amy n1 n2) j1
   ·cases r with
    |none =>
     refine⟨n1,false,s2,?_,fno⟩;simp only[k1,he,alk,if_false,ap dQ]
    |some d =>
     obtain⟨q1,q2⟩:=k7 d rfl;obtain⟨n2,b,s',j1,j2⟩:=go next i d s2 (alj _) ic q1 q2 k5 k6 k2 hle he (hn.mono (alj _) k2)
     refine⟨max n1 n2,b,s',?_,j2⟩;have hm:=yv (rec:=eK t F n1) (rec':=eK t F (max n1 n2)) (λm task st r hr=>eP (amA n1 n2) hr) k1;simp only[hm,he,alk,if_false,ap dQ];exact eP (amy n1 n2) j1
 simp only[ap o7];by_cases o9:re.op=9
 ·simp only[be o9];cases hk:re.kids with
  |nil=>exact absurd hk (h1a ae)
  |cons aJ l =>
   have wV:aJ.every ks=true:=h2 aJ (by rw[hk];simp);obtain⟨n1,r,s2,k1,k2,k3,k4,k5,k6,k7,k8,_⟩:=sm (H.le (sl':=0) ae) (fst aJ .nil i s1 wV trivial (alj _) (H.le ae)) rfl;by_cases he:s2.empty=true
   ·exact Zcm
   have he:s2.empty=false:=by simpa using he
   have hle:=A8 k4 he;cases r with
   |none =>
    refine⟨n1,false,s2,?_,⟨k2,k3,k4,λh=>(by rw[he]at h;cases h),[],[],by rw[k5];simp,by rw[k6];simp,rfl,cV,aq,aq⟩⟩;simp only[k1,he,alk,if_false]
   |some p =>
    obtain⟨e,d⟩:=p;obtain⟨q1,q2,q3,q4⟩:=k8 e d rfl;obtain⟨n2,b,s',j1,j2⟩:=go next e d s2 q1 q2 q3 q4 k5 k6 k2 hle he (hn.mono q1 k2)
    refine⟨max n1 n2,b,s',?_,j2⟩;have hm:=iR (rec:=eK t F n1) (rec':=eK t F (max n1 n2)) (λm task st r hr=>eP (amA n1 n2) hr) k1;simp only[hm,he,alk,if_false];exact eP (amy n1 n2) j1
 simp only[ap o9];by_cases yL:re.op=10
 ·simp only[be yL];have ek:=h1b yL
  match hk:re.kids with
  |[]=>rw[hk]at ek;simp at ek
  |[_]=>rw[hk]at ek;simp at ek
  |yes::no'::l =>
   have hy:∀k,k=yes\/k=no'->k.every ks=true:=λk h=>h2 k (by rw[hk];rcases h with rfl|rfl <;> simp);refine here _ ⟨ae,hy _ ?_,λh=>ae,λh=>ae,λh=>ae,λh=>ae,hn⟩;split
   ·exact .inl rfl
   ·exact .inr rfl
 simp only[ap yL];by_cases mZ:re.op=11
 ·simp only[be mZ];by_cases hc:bY re.n t i=true
  ·simp only[be hc];exact here next hn
  ·simp only[ap hc];exact ZcO
 simp only[ap mZ];exact here next hn
theorem UE (bL:st.steps<=F) (IH:∀ai task s,st.steps<s.steps->task.ok t s.steps->ni t F task.pos task.aj task.iS s->Ends t F ai task s){k:Int}{next:Goal}
  (hsh:re.every ks=true) (o4:re.op=4) (jX:0<=k) (sY:k<=st.steps) (hn:kq t i st.steps next) (hF:F<=1200000000000) (H:ni t F i c 0 st) (hm:re.mode≠2) :
  ∃n b s',sO F (eK t F n) ai re k next i c st=some (b,s')/\eN t F 0 i c.length st b s'/\st.steps<s'.steps:=by
 have ic:=H.i1;have jW:=H.s0;obtain⟨h1,h2⟩:=(Re.az re).1 hsh;obtain⟨h1a,_⟩:=of_decide_eq_true h1;have rS:(st.step F).steps=st.steps+1:=rfl;unfold sO;simp only[ap hm];simp only[ap (show ¬(st.steps<0\/10000000000000<st.steps) by omega)];by_cases he:(st.step F).empty=true
 ·simp only[be he];exact⟨0,true,st.step F,rfl,.out bL he H.empty,by rw[rS];omega⟩
 simp only[ap he];have he:(st.step F).empty=false:=by simpa using he
 have hF1:st.steps+1<=F:=by simp only[bE.step,H.empty,alB]at he;have:=of_decide_eq_false he;omega
 generalize dL:st.step F=s1 at *;have e1:s1.ends=st.ends:=by rw[<- dL];rfl
 have e2:s1.aj=st.aj:=by rw[<- dL];rfl
 have H1:∀sl,sl<=1->ni t F i c sl s1:=λsl yp=>H.at (alj _) ic H.aj e1 e2 ae ae he ae;cases hk:re.kids with
 |nil=>exact absurd hk (h1a ae)
 |cons aJ l =>
  have wV:aJ.every ks=true:=h2 aJ (by rw[hk];simp);have xz:kq t i s1.steps next:=hn.mono (alj _) ae
  have Bt:∀s:bE,s1.steps<=s.steps->kq t i s.steps (.mk 0 aJ 0 0 (.mk 2 re k i next)):=λs hs =>
   ⟨ae,wV,λh=>ae,λh=>ae,λh=>ae,λh=>ae,ae,hsh,λ_=>o4,λh=>ae,λ_=>⟨jX,ae⟩,λh=>ae,xz.mono (alj _) hs⟩
  have once:∀s,s1.steps<=s.steps->ni t F i c 0 s->∃n b s',eK t F n ai (.run (.mk 0 aJ 0 0 (.mk 2 re k i next)) i c) s=some (b,s')/\eN t F 0 i c.length s b s':=λs hs Hs=>by obtain⟨n,b,s',q1,q2,_⟩:=IH ai (.run (.mk 0 aJ 0 0 (.mk 2 re k i next)) i c) s ae (Bt s hs) Hs;exact⟨n,b,s',q1,q2⟩
  have nxt:∀s,s1.steps<=s.steps->ni t F i c 1 s->∃n b s',eK t F n ai (.run next i c) s=some (b,s')/\eN t F 1 i c.length s b s':=λs hs Hs=>by
   have yp:=iZ next
   obtain⟨n,b,s',q1,q2,_⟩:=IH ai (.run next i c) s ae (xz.mono (alj _) hs) (Hs.le yp.2);exact⟨n,b,s',q1,q2.qd yp.2 (alj _)⟩
  have fin:∀{b s'},eN t F 1 i c.length s1 b s'->eN t F 0 i c.length st b s'/\st.steps<s'.steps:=λ{b s'} h=>⟨by have:=h.same (st:=st) (d:=1) e1 e2 ae ae (alj _);simpa using this,by have:=h.s0;omega⟩
  simp only;by_cases c2:k<re.mn
  ·simp only[be c2];obtain⟨n,b,s',q1,q2⟩:=once s1 (alj _) (H1 0 ae);exact⟨n,b,s',q1,fin (q2.qd ae (alj _))⟩
  simp only[ap c2];have no:∀s,ni t F i c 0 s->eN t F 0 i c.length s false s:=λs Hs=>.no Hs.s1 Hs.empty (alj _);by_cases m1:re.mode=1
  ·simp only[be m1];obtain⟨n1,b1,s2,q1,q2⟩:=nxt s1 (alj _) (H1 1 (alj _));cases b1 with
   |true=>exact⟨n1,true,s2,by rw[q1];rfl,fin q2⟩
   |false =>
    have H2:=(H1 1 (alj _)).next q2 (sl':=0) ae;by_cases hM:re.mx=-1\/k<re.mx
    ·simp only[be hM];obtain⟨n2,b2,s3,j1,j2⟩:=once s2 (by have:=q2.s0;omega) H2;exact Zci
    ·simp only[ap hM];exact⟨n1,false,s2,by rw[q1];rfl,fin q2⟩
  ·simp only[ap m1];by_cases hM:re.mx=-1\/k<re.mx
   ·simp only[be hM];obtain⟨n1,b1,s2,q1,q2⟩:=once s1 (alj _) (H1 0 ae);cases b1 with
    |true=>exact⟨n1,true,s2,by rw[q1];rfl,fin (q2.qd ae (alj _))⟩
    |false =>
     have H2:=(H1 1 (alj _)).next q2 (sl':=1) ae;obtain⟨n2,b2,s3,j1,j2⟩:=nxt s2 (by have:=q2.s0;omega) H2;exact Zci
   ·simp only[ap hM];obtain⟨n1,b1,s2,q1,q2⟩:=nxt s1 (alj _) (H1 1 (alj _));exact⟨n1,b1,s2,q1,fin q2⟩
theorem U5 (hF:F<=1200000000000):∀(N r:Nat) (ai:Int) (task:Task) (st:bE),(F+1-st.steps).toNat<=N->task.AI<=r->task.ok t st.steps->ni t F task.pos task.aj task.iS st->Ends t F ai task st:=by
 intro N;induction N with
 |zero=>intro r ai task st hN _ _ H;have:=H.s1;omega
 |succ N ihN =>
  intro r;have later:∀(st:bE),(F+1-st.steps).toNat<=N+1->st.steps<=F->∀ai task s,st.steps<s.steps->task.ok t s.steps->ni t F task.pos task.aj task.iS s->Ends t F ai task s :=
   λst hN hs ai task s aE jw H=>ihN task.AI ai task s ae (ale _) jw H
  induction r with
  |zero =>
   intro ai task st hN hr jw H;cases task with
   |run g i c =>
    cases g with
    |nil =>
     have hi0:0<=i:=H.i0;have ic:i<=t.length:=H.i1;have uF:=H.ends;have dL:=H.s1;have yp:(Task.run Goal.nil i c).iS=1:=rfl;rw[yp]at uF;refine⟨1,decide (0<=ai)&&decide (ai<=(st.ends.length:Int)+1),{ st with ends:=st.ends++[i],aj:=st.aj++[c] },?_,?_,λh=>h.elim⟩
     ·show cw t F (eK t F 0) ai (.run .nil i c) st=_;simp only[cw];rw[bm,be ⟨ae,H.same⟩]
     ·refine⟨alj _,by show st.steps<=F+1;omega,?_,λh=>?_,[i],[c],rfl,rfl,rfl,?_,λe he=>?_,λd hd=>?_⟩
      ·show st.empty=decide (F<st.steps);rw[H.empty,ce ae]
      ·have h:st.empty=true:=h;rw[H.empty]at h;cases h
      ·rw[yp];show ((1:Nat):Int)<=st.steps-st.steps+1;omega
      ·rw[List.mem_singleton.1 he];exact⟨alj _,ic⟩
      ·rw[List.mem_singleton.1 hd];exact⟨H.aj,rfl⟩
    |mk kind re k fi next =>
     exfalso;simp only[Task.AI,y5]at hr;split at hr
     ·split at hr <;> omega
     ·split at hr
      ·omega
      ·split at hr <;> omega
   |rep g i c =>
    cases g with
    |nil=>exact jw.elim
    |mk kind re k fi next =>
     exfalso;simp only[Task.AI]at hr;split at hr <;> omega
   |node g i c=>simp [Task.AI]at hr
  |succ r ihr =>
   intro ai task st hN hr jw H;have hi0:=H.i0;have ic:=H.i1;have jW:=H.s0;have dL:=H.s1;cases task with
   |run g i c =>
    have hi0:0<=i:=hi0;have ic:i<=t.length:=ic;cases g with
    |nil=>exact ihr ai _ st hN (Nat.zero_le _) jw H
    |mk kind re k fi next =>
     obtain⟨g0,g1,g2,g3,g4,g5,g6⟩:=jw;by_cases k1:kind=1
     ·have Z8:Task.AI (.rep (.mk kind re k fi next) i c)<=r:=by simp only[Task.AI,y5,be k1]at hr ⊢;split <;> rename_i hm <;> simp only[hm,if_true,if_false]at hr <;> omega
      refine Ends.via (task':=.rep (.mk kind re k fi next) i c) (λrec=>?_) (ihr ai _ st hN Z8 ⟨g1,g2 (.inl k1),(g3 k1).1,(g3 k1).2,g6⟩ ⟨hi0,ic,H.aj,H.empty,jW,dL,?_,H.same⟩) ?_ (alj _) rfl (λh=>h.2)
      ·simp only[cw];rw[bm,be k1]
      ·have:=H.ends;have:=(iZ (.mk kind re k fi next)).1;simp only[Task.iS]at *;omega
      ·simp [Task.iS];exact(iZ _).1
     by_cases k2:kind=2
     ·have yp:eY (.mk kind re k fi next)=0:=by rw[eY,bm]
      have uF:=H.ends;simp only[Task.iS,yp]at uF;by_cases c1:re.mn<=k/\i=fi
      ·refine⟨1,false,st,?_,.no dL H.empty (by simp only[Task.iS,yp];omega),λh=>absurd h.1 k1⟩;show cw t F (eK t F 0) ai _ st=_;simp only[cw];rw[bm,ap k1,be k2,be c1]
      ·have hk:=g4 k2;refine Ends.via (task':=.run (.mk 1 re (k+1) 0 next) i c) (λrec=>?_) (ihr ai _ st hN ?_ ⟨ae,g1,λ_=>g2 (.inr k2),λ_=>⟨ae,ae⟩,λh=>ae,λh=>ae,g6⟩ ⟨hi0,ic,H.aj,H.empty,jW,dL,?_,H.same⟩) ?_ (alj _) rfl (λh=>absurd h.1 k1)
       ·simp only[cw];rw[bm,ap k1,be k2,ap c1,bm]
       ·simp only[Task.AI,y5]at hr ⊢;rw[ap k1,be k2]at hr;simp only[if_true];split <;> omega
       ·simp [Task.iS,eY];omega
       ·simp only[Task.iS,yp];simp [eY]
     by_cases k3:kind=3
     ·have hf:=g5 k3;have yp:eY (.mk kind re k fi next)=eY next:=by rw[eY,be (.inl k3)]
      obtain⟨w1,w2⟩:=dz.with (n:=re.n) (H.aj:dz t c) hf.1 hf.2 ic;have cQ:c.length<=1000000000:=(H.aj:dz t c).1;refine Ends.via (task':=.run next i (mR c re.n fi i)) (λrec=>?_) (ihr ai _ st hN ?_ g6 ⟨hi0,ic,w1,H.empty,jW,dL,?_,H.same⟩) ?_ (alj _) w2 (λh=>absurd h.1 k1)
      ·simp only[cw];rw[bm,ap k1,ap k2,be k3,bm]
      ·simp only[Task.AI]at hr ⊢;rw[y5,ap k1,ap k2,be (.inl k3)]at hr;omega
      ·exact ZcA
      ·exact ZdD
     by_cases k4:kind=4
     ·have yp:eY (.mk kind re k fi next)=eY next:=by rw[eY,be (.inr k4)]
      by_cases c1:i=fi
      ·refine Ends.via (task':=.run next i c) (λrec=>?_) (ihr ai _ st hN ?_ g6 ⟨hi0,ic,H.aj,H.empty,jW,dL,?_,H.same⟩) ?_ (alj _) rfl (λh=>absurd h.1 k1)
       ·simp only[cw];rw[bm,ap k1,ap k2,ap k3,be k4,be c1]
       ·simp only[Task.AI]at hr ⊢;rw[y5,ap k1,ap k2,be (.inr k4)]at hr;omega
       ·exact ZcA
       ·exact ZdD
      ·refine⟨1,false,st,?_,.no dL H.empty (iZ _).1,λh=>absurd h.1 k1⟩;show cw t F (eK t F 0) ai _ st=_;simp only[cw];rw[bm,ap k1,ap k2,ap k3,be k4,ap c1]
     have yp:eY (.mk kind re k fi next)=0:=by rw[eY,bm]
     refine Ends.via (task':=.node (.mk kind re k fi next) i c) (λrec=>?_) (ihr ai _ st hN ?_ ⟨g1,g6⟩ ⟨hi0,ic,H.aj,H.empty,jW,dL,?_,H.same⟩) ?_ (alj _) rfl (λh=>absurd h.1 k1)
     ·simp only[cw];rw[bm,ap k1,ap k2,ap k3,ap k4]
     ·simp only[Task.AI]at hr ⊢;rw[y5,ap k1,ap k2,bm]at hr;omega
     ·exact ZcA
     ·exact ZdD
   |rep g i c =>
    have hi0:0<=i:=hi0;have ic:i<=t.length:=ic;cases g with
    |nil=>exact jw.elim
    |mk kind re k fi next =>
     obtain⟨g1,g2,g3,g4,g5⟩:=jw;have uF:(st.ends.length:Int)+0<=st.steps:=H.ends;by_cases hm:re.mode=2
     ·have hf:=sm (t:=t) (F:=F) (g:=.mk 1 (re.dJ 0) 0 0 .nil) (i:=i) (c:=c) (sl:=0) (st:=st) ⟨hi0,ic,H.aj,H.empty,jW,dL,uF,H.same⟩
       (ihr 1 _ _ (by simpa using hN) (by
        simp only[Task.AI,y5]at hr ⊢;simp only[hm,if_true]at hr;have eX:¬(re.dJ 0).mode=2:=by simp [Re.dJ,Re.mode]
        simp only[if_true];rw[ap eX];omega) ⟨ae,GH g1 0,λ_=>g2,λ_=>⟨alj _,jW⟩,λh=>ae,λh=>ae,trivial⟩ ⟨hi0,ic,H.aj,rfl,jW,dL,(by simp [Task.iS,eY];exact jW),rfl⟩) (by simp [eY])
      obtain⟨n1,r1,s1,j1,j2,j3,j4,j5,j6,j7,j8,j9⟩:=hf;have aE:st.steps<s1.steps:=j9 ⟨rfl,by simp [Re.dJ,Re.mode]⟩;have Qd:¬(Task.rep (.mk kind re k fi next) i c).EA:=λh=>h hm;have A1:∀n r',sO F (eK t F n) ai re k next i c st=r'->eK t F (n+1) ai (.rep (.mk kind re k fi next) i c) st=r':=λn r' h=>by show cw t F (eK t F n) ai _ st=_;simp only[cw];rw[bm];exact h
      cases r1 with
      |none =>
       refine⟨n1+1,s1.empty,s1,A1 n1 _ ?_,⟨j2,j3,j4,λh=>h,[],[],by rw[j5];simp,by rw[j6];simp,rfl,by simp [Task.iS];omega,aq,aq⟩,λh=>(Qd h).elim⟩;unfold sO;rw[be hm,j1]
      |some p =>
       obtain⟨e,d⟩:=p;obtain⟨q1,q2,q3,q4⟩:=j8 e d rfl;have he:s1.empty=false:=by
        cases hx:s1.empty with
        |false=>rfl
        |true=>have:=j7 hx;cases this
       have hle:=A8 j4 he;have yp:=iZ next
       obtain⟨n2,b,s',l1,l2,_⟩:=later st hN dL ai (.run next e d) s1 aE (g5.mono q1 j2) ⟨Int.le_trans hi0 q1,q2,q3,he,ae,hle,by rw[j5];simp only[Task.iS];omega,by rw[j5,j6];exact H.same⟩;have l2:eN t F (eY next) e d.length s1 b s':=l2;rw[q4]at l2;have l3:=(l2.qd (sl':=1) yp.2 (alj _)).same (st:=st) (d:=1) (i:=i) j5 j6 ae ae q1;refine⟨max n1 n2+1,b,s',A1 _ _ ?_,(show eN t F 0 i c.length st b s' by simpa using l3),λh=>(Qd h).elim⟩;unfold sO;have hmn:=iR (rec:=eK t F n1) (rec':=eK t F (max n1 n2)) (λm task st r hr=>eP (amA n1 n2) hr) j1;rw[be hm,hmn];exact eP (amy n1 n2) l1
     ·obtain⟨n,b,s',q1,q2,q3⟩:=UE dL (later st hN dL) (ai:=ai) g1 g2 g3 g4 g5 hF (⟨hi0,ic,H.aj,H.empty,jW,dL,uF,H.same⟩:ni t F i c 0 st) hm;refine⟨n+1,b,s',?_,q2,λ_=>q3⟩;show cw t F (eK t F n) ai _ st=_;simp only[cw];rw[bm];exact q1
   |node g i c =>
    have hi0:0<=i:=hi0;have ic:i<=t.length:=ic;cases g with
    |nil=>exact jw.elim
    |mk kind re k fi next =>
     obtain⟨g1,g6⟩:=jw;have uF:(st.ends.length:Int)+0<=st.steps:=H.ends;obtain⟨h1,h2⟩:=(Re.az re).1 g1;obtain⟨_,_,h1c,h1d⟩:=of_decide_eq_true h1;have cQ:c.length<=1000000000:=(H.aj:dz t c).1;by_cases o4:re.op=4
     ·refine Ends.via (task':=.rep (.mk 1 re 0 0 next) i c) (λrec=>?_) (ihr ai _ st hN ?_ ⟨g1,o4,alj _,jW,g6⟩ ⟨hi0,ic,H.aj,H.empty,jW,dL,uF,H.same⟩) (alj _) (alj _) rfl (λh=>absurd o4 h)
      ·simp only[cw];rw[bm,be o4]
      ·simp only[Task.AI]at hr ⊢;split <;> omega
     ·have rS:(st.step F).steps=st.steps+1:=rfl;have A1:∀n,eK t F (n+1) ai (.node (.mk kind re k fi next) i c) st=if (st.step F).empty then some (true,st.step F) else fA t (eK t F n) ai re next i c (st.step F):=λn=>by show cw t F (eK t F n) ai _ st=_;simp only[cw];rw[bm,ap o4,bm,bm]
      by_cases he:(st.step F).empty=true
      ·refine⟨1,true,st.step F,?_,.out dL he H.empty,λ_=>by rw[rS];omega⟩;rw[A1 0,be he]
      ·have oT:(st.step F).empty=false:=by simpa using he
       have hF1:st.steps+1<=F:=by simp only[bE.step,H.empty,alB]at oT;have:=of_decide_eq_false oT;omega
       have H1:ni t F i c 1 (st.step F):=⟨hi0,ic,H.aj,oT,by rw[rS];omega,by rw[rS];omega,by rw[rS];show (st.ends.length:Int)+1<=st.steps+1;omega,H.same⟩
       obtain⟨n,b,s',q1,q2⟩:=Q4 (λai task s hs afF H'=>later st hN dL ai task s (by rw[rS]at hs;omega) afF H') (ai:=ai) g1 (g6.mono (alj _) (by rw[rS];omega)) H1;refine⟨n+1,b,s',?_,(show eN t F 0 i c.length st b s' by simpa using q2.step),λ_=>by have:=q2.s0;rw[rS]at this;omega⟩;rw[A1 n,ap he];exact q1
def Mk.has (m:Mk) (u:Int):Bool:=decide (0<jf .and .i64 m.dH u)
def Re.node (op:Int) (kids:List Re):Re:=.mk op [] kids 0 0 0 0 false
def bN (t:Mk->Re×Mk):Nat->Int->Mk->List Re×Mk
 |0,_,m=>([],m)
 |f+1,i,m =>
  if i<2+(m.next 2).1 then
   (((t (m.next 2).2).1)::(bN t f (i+1) (t (m.next 2).2).2).1,(bN t f (i+1) (t (m.next 2).2).2).2)
  else ([],(m.next 2).2)
def nM:List Int:=[0,0,0,0,1,1,1,0,2,0,1,2]
def kM:List Int:=[-1,-1,-1,1,-1,-1,2,2,2,3,1,-1]
def jx (m:Mk):Int×Mk :=
 let x:=m.next 2
 if m.has 8 then (if (x.2.next 4).1=0 then 2 else x.1,(x.2.next 4).2) else x
def mC (t:Mk->Re×Mk) (m:Mk):Re×Mk :=
 let x:=t m
 if jf .and .i64 x.2.dH 32=0/\x.1.sQ=true then x.2.set else x
def Mk.rep (t:Mk->Re×Mk) (m:Mk):Re×Mk :=
 let k:=m.next 12;let md:=jx k.2;let aJ:=mC t md.2
 (.mk 4 [] [aJ.1] ((nM[k.1.toNat]?).getD 0) ((kM[k.1.toNat]?).getD 0) md.1 0 false,aJ.2)
def fo (m:Mk):Int×Mk :=
 let again (m:Mk):Int×Mk:=(1+(m.next (max 1 m.aj)).1,(m.next (max 1 m.aj)).2)
 if 4<m.aj+1 then again m
 else if 0<m.aj then (if (m.next 9).1=0 then again (m.next 9).2 else (m.aj+1,(m.next 9).2))
 else (m.aj+1,m)
def Mk.lY (m:Mk) (c:Int):Mk:=⟨m.l,m.pos,m.dH,m.left,c⟩
def Mk.less (m:Mk):Mk:=⟨m.l,m.pos,m.dH,m.left-1,m.aj⟩
def Mk.jB (t:Mk->Re×Mk) (m:Mk):Re×Mk :=
 let c:=fo m;let r:=t (c.2.lY (max c.2.aj c.1))
 (.mk 5 [] [r.1] 0 0 0 c.1 false,r.2)
def Mk.node (t:Mk->Re×Mk) (k:Int) (m:Mk):Re×Mk :=
 if k<5 then (Re.node 2 (bN t 4 0 m).1,(bN t 4 0 m).2)
 else if k<8 then (Re.node 3 (bN t 4 0 m).1,(bN t 4 0 m).2)
 else if k<12 then m.rep t
 else if k=12/\m.has 64=true then m.jB t
 else if k=13/\m.has 64=true then m.jB t
 else if k=14/\m.has 16=true then (.mk 11 [] [] 0 0 0 (m.next 6).1 false,(m.next 6).2)
 else if k=15/\m.has 4=true then
  let y:=(m.next 3).2.next 2
  (.mk (7+y.1) [] [(t y.2).1] 0 0 0 0 (decide ((m.next 3).1=0)),(t y.2).2)
 else if k=16/\m.has 8=true then (Re.node 9 [(t m).1],(t m).2)
 else if k=17/\m.has 1=true/\0<m.aj then (.mk 6 [] [] 0 0 0 (1+(m.next m.aj).1) false,(m.next m.aj).2)
 else if k=18/\m.has 2=true/\0<m.aj then
  let x:=m.next m.aj;let y:=t x.2;let z:=t y.2
  (.mk 10 [] [y.1,z.1] 0 0 0 (1+x.1) false,z.2)
 else m.set
def Mk.tree:Nat->Mk->Re×Mk
 |0,m =>
  let x:=m.less.next 20
  if x.1=0 then (Re.node 0 [],x.2) else x.2.set
 |d+1,m =>
  let x:=m.less.next 20
  if x.2.left<3\/(x.2.l.length:Int)<x.2.pos then (if x.1=0 then (Re.node 0 [],x.2) else x.2.set)
  else x.2.node (Mk.tree d) x.1
structure Mk.In (m:Mk) (b:Int):Prop where
 l:∀x∈m.l,jD x
 p0:0<=m.pos
 p1:m.pos<=b
 l0:-b<=m.left
 l1:m.left<=1000000
 c0:0<=m.aj
 c1:m.aj<=4
theorem Mk.In.mono{b':Int} (h:m.In b) (hb:b<=b'):m.In b' :=
 ⟨h.l,h.p0,by have:=h.p1;omega,by have:=h.l0;omega,h.l1,h.c0,h.c1⟩
theorem Mk.In.next (h:m.In b) (n:Int):(m.next n).2.In (b+1) :=
 ⟨h.l,by have:=h.p0;simp only[Mk.next];omega,by have:=h.p1;simp only[Mk.next];omega,by have:=h.l0;simp only[Mk.next];omega,h.l1,h.c0,h.c1⟩
theorem Mk.In.set (h:m.In b):m.set.2.In (b+1):=h.next 15
def Good (t:Mk->Re×Mk) (c z:Int):Prop:=∀m b,0<=b->Mk.In m b->(t m).2.In (b+c)/\((t m).1.size:Int)<=z
theorem tt (s:List (Int×Int)):(Re.U7 s).size=1:=rfl
theorem xK {t:Mk->Re×Mk}{c z:Int} (hc:0<=c) (ht:Good t c z):∀(f:Nat) (i:Int) (m:Mk) (b:Int),0<=b->m.In b ->
  (bN t f i m).2.In (b+f*(c+1))/\(Re.da (bN t f i m).1:Int)<=((bN t f i m).1.length:Int)*z/\(bN t f i m).1.length<=f
 |0,i,m,b,_,h=>by simp only[bN];exact⟨by simpa using h,by simp [Re.da],aq⟩
 |f+1,i,m,b,hb,h=>by
  simp only[bN];have hf:(0:Int)<=f*(c+1):=amn ae ae;have e:((f+1:Nat):Int)*(c+1)=f*(c+1)+c+1:=by rw[amf,Int.add_mul];simp;omega
  split
  ·have h1:=h.next 2;obtain⟨h2,h3⟩:=ht _ (b+1) ae h1;obtain⟨h4,h5,h6⟩:=xK hc ht f (i+1) _ (b+1+c) ae h2;refine⟨h4.mono ae,?_,by simpa using h6⟩;simp only[Re.da,alg,amf,Int.add_mul];omega
  ·exact⟨(h.next 2).mono ae,by simp [Re.da],aq⟩
theorem Fk (h:m.In b):(jx m).2.In (b+2):=by
 unfold jx;simp only;split
 ·have:=(h.next 2).next 4;rwa [show b+1+1=b+2 by omega]at this
 ·exact(h.next 2).mono ae
theorem KU {t:Mk->Re×Mk}{c:Int} (hc:0<=c) (hz:1<=z) (ht:Good t c z):Good (mC t) (c+1) z:=by
 intro m b hb h;obtain⟨h1,h2⟩:=ht m b hb h;unfold mC;simp only;split
 ·exact⟨by have:=h1.set;rwa [Int.add_assoc]at this,by simp only[Mk.set];rw[tt];omega⟩
 ·exact⟨h1.mono ae,h2⟩
theorem uI (op mn mx mode n:Int) (neg:Bool) (k:Re):((Re.mk op [] [k] mn mx mode n neg).size:Int)=1+k.size:=by simp [Re.size,Re.da]
theorem Tl {t:Mk->Re×Mk}{c:Int} (hc:0<=c) (hz:1<=z) (ht:Good t c z):Good (Mk.rep t) (c+4) (z+1):=by intro m b hb h;have h1:=Fk (h.next 12);obtain⟨h2,h3⟩:=KU hc hz ht _ _ ae h1;simp only[Mk.rep];exact⟨h2.mono ae,by rw[uI];omega⟩
theorem Bg (h:m.In b):(fo m).2.In (b+2)/\(fo m).2.aj=m.aj/\1<=(fo m).1/\(fo m).1<=4:=by
 have h0:=h.c0;have h1:=h.c1;have again:∀(m':Mk),m'.aj=m.aj->0<m.aj->0<=pick m'.l m'.pos (max 1 m'.aj)/\pick m'.l m'.pos (max 1 m'.aj)<m.aj:=by intro m' he hp;have:=cH m'.l m'.pos (max 1 m'.aj) ae;rw[he]at this ⊢;omega
 unfold fo;simp only;split
 ·have:=again m rfl ae;exact⟨(h.next (max 1 m.aj)).mono ae,rfl,by simp only[Mk.next];omega,by simp only[Mk.next];omega⟩
 ·split
  ·split
   ·have:=again (m.next 9).2 rfl ae;refine⟨?_,rfl,by simp only[Mk.next]at this ⊢;omega,by simp only[Mk.next]at this ⊢;omega⟩;have h2:=(h.next 9).next (max 1 (m.next 9).2.aj);rwa [show b+1+1=b+2 by omega]at h2
   ·exact⟨(h.next 9).mono ae,rfl,ae,ae⟩
  ·exact⟨h.mono ae,rfl,ae,ae⟩
theorem zL {t:Mk->Re×Mk}{c:Int} (hc:0<=c) (ht:Good t c z):Good (Mk.jB t) (c+2) (z+1):=by intro m b hb h;obtain⟨h1,h2,h3,h4⟩:=Bg h;simp only[Mk.jB];obtain⟨h5,h6⟩:=ht ((fo m).2.lY (max (fo m).2.aj (fo m).1)) (b+2) ae ⟨h1.l,h1.p0,h1.p1,h1.l0,h1.l1,by show 0<=max _ _;omega,by have:=h.c1;show max _ _<=4;omega⟩;exact⟨h5.mono ae,by rw[uI];omega⟩
theorem Rp {t:Mk->Re×Mk}{c:Int} (hc:0<=c) (hz:1<=z) (ht:Good t c z) (k:Int):Good (Mk.node t k) (4*(c+1)) (4*z+1):=by
 intro m b hb h;obtain⟨a1,a2,a3⟩:=xK hc ht 4 0 m b hb h;have a2':(Re.da (bN t 4 0 m).1:Int)<=4*z:=by have:((bN t 4 0 m).1.length:Int)*z<=4*z:=alI ae ae;omega
 have a1':(bN t 4 0 m).2.In (b+4*(c+1)):=a1;have sz:∀op,((Re.node op (bN t 4 0 m).1).size:Int)<=4*z+1:=by intro op;simp only[Re.node,Re.size];omega
 unfold Mk.node;split
 ·exact⟨a1',sz _⟩
 split
 ·exact⟨a1',sz _⟩
 split
 ·obtain⟨h1,h2⟩:=Tl hc hz ht m b hb h;exact⟨h1.mono ae,ae⟩
 split
 ·exact Zdv
 split
 ·exact Zdv
 split
 ·exact⟨(h.next 6).mono ae,by simp [Re.size,Re.da];omega⟩
 split
 ·simp only;obtain⟨h1,h2⟩:=ht _ (b+1+1) ae ((h.next 3).next 2);exact⟨h1.mono ae,by rw[uI];omega⟩
 split
 ·obtain⟨h1,h2⟩:=ht m b hb h;exact⟨h1.mono ae,by simp only[Re.node];rw[uI];omega⟩
 split
 ·exact⟨(h.next m.aj).mono ae,by simp [Re.size,Re.da];omega⟩
 split
 ·simp only;obtain⟨h1,h2⟩:=ht _ (b+1) ae (h.next m.aj);obtain⟨h3,h4⟩:=ht _ (b+1+c) ae h1;exact⟨h3.mono ae,by simp only[Re.size,Re.da];omega⟩
 ·exact⟨h.set.mono ae,by simp only[Mk.set];rw[tt];omega⟩
def cD:Nat->Int
 |0=>3
 |d+1=>2+4*(cD d+1)
def zD:Nat->Int
 |0=>1
 |d+1=>4*zD d+1
theorem ly:∀d,3<=cD d
 |0=>by simp [cD]
 |d+1=>by have:=ly d;simp only[cD];omega
theorem AN:∀d,1<=zD d
 |0=>by simp [zD]
 |d+1=>by have:=AN d;simp only[zD];omega
theorem Mk.In.left (h:m.In b):m.less.In (b+1) :=
 ⟨h.l,h.p0,by have:=h.p1;show m.pos<=_;omega,by have:=h.l0;show _<=m.left-1;omega,by have:=h.l1;show m.left-1<=_;omega,h.c0,h.c1⟩
theorem kd:∀d,Good (Mk.tree d) (cD d) (zD d)
 |0=>by
  intro m b hb h;have h1:=h.left.next 20;simp only[Mk.tree,cD,zD];split
  ·exact⟨h1.mono ae,by simp [Re.node,Re.size,Re.da]⟩
  ·exact Zdy
 |d+1=>by
  intro m b hb h;have h1:=h.left.next 20;have hc:=ly d;have hz:=AN d;simp only[Mk.tree,cD,zD];split
  ·split
   ·exact⟨h1.mono ae,by simp [Re.node,Re.size,Re.da];omega⟩
   ·exact Zdy
  ·obtain⟨h2,h3⟩:=Rp ae hz (kd d) ((m.less.next 20).1) _ (b+1+1) ae h1;exact⟨h2.mono ae,h3⟩
end Go.Proofs.YtjjfioalgbecmaaGreat
