/- A part of the proof (G13 G14 F17 F18 F19 F20 F21 G3). -/
import Derived.Test.YtfmdmlfhigocaaaON15
import Derived.Test.YtfmdmlfhigocaaaON16
import Derived.Test.YtfmdmlfhigocaaaON17
import Derived.Test.YtfmdmlfhigocaaaON19
set_option linter.unusedSimpArgs false
set_option linter.unusedVariables false
open Nat renaming reduceShiftRight → cQ, reduceMod → dx, reduceLT → dB, reduceMul → dC, reduceSub → dD, reduceEqDiff → eI, reduceAdd → eJ, reduceLeDiff → fX, reduceBEq → gj
open Int renaming reduceToNat → gl, reduceNeg → ja, reduceLT → jg, reduceLE → jk, reduceEq → mA
set_option maxRecDepth 100000
set_option maxHeartbeats 80000000
namespace Go.Proofs.Ytfmdmlfhigocaaa
open Go.VL Go.Proofs.Try
variable{st:bJ}{g0:Nat}{kind:Int}{s1:bJ}{st':bJ}{F:Int}{most:Int}{b:Bool}{fw:Int}{re:Re}{k:Int}{c:aK}{n:Nat}{i:Int}{next:Goal}{t:List Int}
theorem U4 (ih:kA t F n) (ht:t.length<=1000000) (o:re.op=2)
  (hi0:0<=i) (oN:i<=t.length) (fx:re.set.length<=1000000000) (mY:re.kids.length<=1000000000) (fK:c.length<=1000000000) (he:s1.empty=false) (cI:eQ t F g0 most st s1)
  (hr:fL t (gT t F n) most re next i c s1=some (b,st')) :
  aq prog 82 [.rf 0 g0 0 0,.d (Goal.mk kind re k fw next).d,i64 i,.d (cM c)] (bS g0 t most F st) λv s=>v=bV b/\s=bS g0 t most F st':=by
 unfold eQ bS dt at cI;simp only[i64,bV,iD,afQ,afS]at cI;have d4:decide (re.op=4)=false:=b6 (by omega);have d1:decide (re.op=1)=false:=b6 (by omega);have d2:decide (re.op=2)=true:=bi o;unfold fL at hr;rw[ap (by omega),be o]at hr;have wl:IntKind.i64.wrap ((re.kids.length:Int)-1)=(re.kids.length:Int)-1:=bd _ (by omega);unfold bS dt;refine an func82 rfl ntmps82 results82 rfl 3 26328072917139296674479506920917608079723773850137295405767982863 (by simp) (by simp) ?_;simp only[zX,simprocAttr,-Int.reduceNatCast',i64,bV,Goal.bW,iD,bD,d4,d1,d2];refine ao (cI _) (λv s' hv=>?_);obtain⟨rfl,rfl⟩:=hv;simp only[zX,simprocAttr,-Int.reduceNatCast',i64,bV,iD,bD,he,af4,aga,d4,d1,d2];refine au (λm e s=>∃(j:Nat),m=j/\j<=re.kids.length/\e 0=.rf 0 g0 0 0/\e 2=i64 i/\e 3=.d (cM c)/\e 9=.rf 3 0 0 0/\e 10=.d (qN (re.kids.drop j) next).d/\e 11=i64 ((j:Int)-1)/\s=bS g0 t most F s1++[MM re])
  ⟨_,_,_,br.refl,re.kids.length,rfl,by omega,rfl,rfl,rfl,rfl,?_,?_,?_⟩ ?_
 ·rw[List.drop_length];rfl
 ·simp [bz,wl,i64]
 ·unfold bS dt MM;simp only[he];rfl
 rintro m e s ⟨j,rfl,hj,h0,h2,h3,h9,du,jH,rfl⟩;cases m with
 |zero =>
  rw[show ((0:Nat):Int)-1=-1 from rfl]at jH;rw[agH]at du;have hc:=λext=>fM (ih g0 _ _ _ _ _ hr) ext;unfold fl eB bS dt at hc;simp only[Goal.bW,i64,iD,bD,bV,afQ,afS]at hc;simp only[he]at hc;unfold bS dt MM;simp only[zX,simprocAttr,-Int.reduceNatCast',i64,bV,iD,bD,afQ,afS,h0,h2,h3,h9,du,jH,ge_iff_le,he]
  (refine ao (hc _) (λv s' hv=>?_);obtain⟨rfl,rfl⟩:=hv)
  simp only[zX,simprocAttr,-Int.reduceNatCast',i64,bV,iD,bD];first|exact aQ _ _|exact⟨aQ _ _,rfl⟩
 |succ j =>
  rw[show ((j+1:Nat):Int)-1=j by omega]at jH;have RG:(0:Int)<=(j:Int):=by omega
  have az:j<re.kids.length:=by omega
  have aC:(j:Int)<(re.kids.length:Int):=by omega
  obtain⟨x,hx⟩:∃x,re.kids[j]?=some x:=⟨_,afP az⟩
  have Yc:qN (re.kids.drop j) next=.mk 0 x 0 0 (qN (re.kids.drop (j+1)) next):=by rw[G7 hx];rfl
  generalize qN (re.kids.drop (j+1)) next=G at *
  have w1:IntKind.i64.wrap ((j:Int)-1)=(j:Int)-1:=bd _ (by omega);unfold bS dt MM;simp only[zX,simprocAttr,-Int.reduceNatCast',i64,bV,iD,bD,afQ,afS,h0,h2,h3,h9,du,jH,ge_iff_le,RG,az,aC,hx,ai x,Re.ae x,w1];refine⟨j,_,_,by omega,(br.freeze [4] [10]).trans (br.cut (s':=bS g0 t most F s1++[MM re]) 4 (by omega) rfl ?_ [0,2,3,9,10,11] ?_),j,rfl,by omega,?_,?_,?_,?_,?_,?_,rfl⟩
  ·have:=Rp g0 t most F s1 4 (by omega);rw[ahf,this];rfl
  ·simp [kY,bz,aH,ah,i64,h0,h2,h3,h9,du,jH];rfl
  ·simpa [nV,kY,bz,aH]using h0
  ·simpa [nV,kY,bz,aH,i64]using h2
  ·simpa [nV,kY,bz,aH]using h3
  ·simpa [nV,kY,bz,aH]using h9
  ·rw[Yc,Goal.bW];rfl
  ·rfl
def YI (x1 x2:Int):VL.Obj:=⟨0,true,2,[[i64 x1,i64 x2]]⟩
theorem Lo{a:Int}{j:Nat}:rF t a i (j+1)=(rF t a i j&&(n7 t (a+j) == n7 t (i+j))):=by unfold rF;rw[List.range_succ,ahf];simp
theorem QY{a:Int}{j:Nat} (hj:j<n) (h:¬n7 t (a+j)=n7 t (i+j)):rF t a i n=false:=by rw[agP];intro hs;unfold rF at hs;rw[af8]at hs;have:=hs j (List.mem_range.2 hj);simp only[beq_iff_eq]at this;exact h this
theorem Vh (ih:kA t F n) (ht:t.length<=1000000) (o:re.op=6)
  (hi0:0<=i) (oN:i<=t.length) (fx:re.set.length<=1000000000) (mY:re.kids.length<=1000000000) (fK:c.length<=1000000000) (he:s1.empty=false) (cI:eQ t F g0 most st s1)
  (hr:fL t (gT t F n) most re next i c s1=some (b,st')) :
  aq prog 82 [.rf 0 g0 0 0,.d (Goal.mk kind re k fw next).d,i64 i,.d (cM c)] (bS g0 t most F st) λv s=>v=bV b/\s=bS g0 t most F st':=by
 unfold eQ bS dt at cI;simp only[i64,bV,iD,afQ,afS]at cI;have d4:decide (re.op=4)=false:=b6 (by omega);have d1:decide (re.op=1)=false:=b6 (by omega);have d2:decide (re.op=2)=false:=b6 (by omega);have d3:decide (re.op=3)=false:=b6 (by omega);have d5:decide (re.op=5)=false:=b6 (by omega);have d6:decide (re.op=6)=true:=bi o;unfold fL at hr;rw[ap (by omega),ap (by omega),ap (by omega),ap (by omega),be o]at hr;have oz:=Mf c re.n fK;generalize cE c re.n=x at *;obtain⟨x1,x2⟩:=x;simp only[i64]at oz;simp only at hr;by_cases q1:x1<0
 ·rw[be q1]at hr;simp only[afY,agx]at hr;obtain⟨rfl,rfl⟩:=hr;unfold bS dt;refine an func82 rfl ntmps82 results82 rfl 3 26328072917139296674479506920917608079723773850137295405767982863 (by simp) (by simp) ?_;simp only[zX,simprocAttr,-Int.reduceNatCast',i64,bV,Goal.bW,iD,bD,d4,d1,d2,d3,d5,d6];refine ao (cI _) (λv s' hv=>?_);obtain⟨rfl,rfl⟩:=hv;simp only[zX,simprocAttr,-Int.reduceNatCast',i64,bV,iD,bD,he,af4,aga,d4,d1,d2,d3,d5,d6];refine aj oz rfl rfl ?_;simp only[zX,simprocAttr,-Int.reduceNatCast',i64,iD,bD];refine ar mix [] [] (by rfl) ?_;simp only[zX,simprocAttr,-Int.reduceNatCast',i64,bV,iD,bD,q1];exact⟨by decide,aQ _ _⟩
 rw[ap q1]at hr;by_cases q2:x2<x1\/(t.length:Int)<x2
 ·rw[be q2]at hr;cases hr
 rw[ap q2]at hr;have wa:IntKind.i64.wrap (i+x2)=i+x2:=bd _ (by omega);have wb:IntKind.i64.wrap (i+x2-x1)=i+x2-x1:=bd _ (by omega);by_cases q3:t.length<i+x2-x1
 ·rw[be q3]at hr;simp only[afY,agx]at hr;obtain⟨rfl,rfl⟩:=hr;unfold bS dt;refine an func82 rfl ntmps82 results82 rfl 3 26328072917139296674479506920917608079723773850137295405767982863 (by simp) (by simp) ?_;simp only[zX,simprocAttr,-Int.reduceNatCast',i64,bV,Goal.bW,iD,bD,d4,d1,d2,d3,d5,d6];refine ao (cI _) (λv s' hv=>?_);obtain⟨rfl,rfl⟩:=hv;simp only[zX,simprocAttr,-Int.reduceNatCast',i64,bV,iD,bD,he,af4,aga,d4,d1,d2,d3,d5,d6];refine aj oz rfl rfl ?_;simp only[zX,simprocAttr,-Int.reduceNatCast',i64,iD,bD];refine ar mix [] [] (by rfl) ?_;simp only[zX,simprocAttr,-Int.reduceNatCast',i64,bV,iD,bD,q1,wa,wb,q3,gt_iff_lt];exact⟨by decide,by decide,by decide,aQ _ _⟩
 rw[ap q3]at hr;unfold bS dt;refine an func82 rfl ntmps82 results82 rfl 3 26328072917139296674479506920917608079723773850137295405767982863 (by simp) (by simp) ?_;simp only[zX,simprocAttr,-Int.reduceNatCast',i64,bV,Goal.bW,iD,bD,d4,d1,d2,d3,d5,d6];refine ao (cI _) (λv s' hv=>?_);obtain⟨rfl,rfl⟩:=hv;simp only[zX,simprocAttr,-Int.reduceNatCast',i64,bV,iD,bD,he,af4,aga,d4,d1,d2,d3,d5,d6];refine aj oz rfl rfl ?_;simp only[zX,simprocAttr,-Int.reduceNatCast',i64,iD,bD];refine ar mix [] [] (by rfl) ?_;simp only[zX,simprocAttr,-Int.reduceNatCast',i64,bV,iD,bD,q1,wa,wb,q3,gt_iff_lt];refine⟨by decide,by decide,by decide,by decide,?_⟩;obtain⟨N,hN⟩:∃N:Nat,(N:Int)=x2-x1:=⟨(x2-x1).toNat,by omega⟩
 have hN':(x2-x1).toNat=N:=by omega
 rw[hN']at hr;refine au (λm e s=>∃(j:Nat),m=N-j/\j<=N/\e 0=.rf 0 g0 0 0/\e 1=.d (Goal.mk kind re k fw next).d/\e 2=i64 i/\e 3=.d (cM c)/\e 13=.rf 4 0 0 0/\e 14=i64 (x1+j)/\s=bS g0 t most F s1++[MM re,YI x1 x2]/\rF t x1 i j=true)
  ⟨_,_,_,br.refl,0,rfl,by omega,rfl,?_,rfl,rfl,rfl,?_,?_,rfl⟩ ?_
 ·rw[Goal.bW];rfl
 ·simp [bz,i64]
 ·unfold bS dt MM YI;simp only[he];rfl
 rintro m e s ⟨j,rfl,hj,h0,h1,h2,h3,fk,cP,rfl,TU⟩;rw[Goal.bW]at h1;rcases agi j N with az|fI
 ·have l0:x1+(j:Int)<x2:=by omega
  have l1:0<=x1+(j:Int):=by omega
  have l2:x1+(j:Int)<(t.length:Int):=by omega
  have l3:0<=i+(j:Int):=by omega
  have l4:i+(j:Int)<(t.length:Int):=by omega
  have g1:=rp l1 l2;have g2:=rp l3 l4;have wc:IntKind.i64.wrap (i+(x1+(j:Int)))=i+(x1+(j:Int)):=bd _ (by omega);have wd:IntKind.i64.wrap (i+(x1+(j:Int))-x1)=i+(j:Int):=by rw[bd _ (by omega)];omega
  have we:IntKind.i64.wrap (x1+(j:Int)+1)=x1+((j+1:Nat):Int):=by rw[bd _ (by omega)];omega
  unfold bS dt MM YI;simp only[zX,simprocAttr,-Int.reduceNatCast',i64,bV,iD,bD,afQ,afS,h0,h1,h2,h3,fk,cP,l0];refine⟨by decide,?_⟩;refine ar mix [] [] (by rfl) ?_;by_cases hq:n7 t (x1+(j:Int))=n7 t (i+(j:Int))
  ·have dq:decide (n7 t (x1+(j:Int))=n7 t (i+(j:Int)))=true:=bi hq;simp only[zX,simprocAttr,-Int.reduceNatCast',i64,bV,iD,bD,al,h0,h1,h2,h3,fk,cP,l1,l2,l3,l4,g1,g2,wc,wd,we,dq];refine⟨by decide,N-(j+1),_,_,by omega,br.refl,j+1,rfl,az,?_,?_,?_,?_,?_,?_,rfl,by rw[Lo,TU,hq];simp⟩ <;> (try simp only[zU,gj,cQ,dx,eI,reduceIte])
   ·exact h0
   ·rw[Goal.bW];exact h1
   ·exact h2
   ·exact h3
   ·exact fk
  ·have dq:decide (n7 t (x1+(j:Int))=n7 t (i+(j:Int)))=false:=b6 hq;have mT:rF t x1 i N=false:=QY az hq;rw[ap (by rw[mT];decide)]at hr;simp only[afY,agx]at hr;obtain⟨rfl,rfl⟩:=hr;simp only[zX,simprocAttr,-Int.reduceNatCast',i64,bV,iD,bD,al,h0,h1,h2,h3,fk,cP,l1,l2,l3,l4,g1,g2,wc,wd,we,dq];exact⟨by decide,aQ _ _⟩
 ·have KR:j=N:=by omega
  subst KR;rw[be TU]at hr;have hc:=λext=>fM (ih g0 _ _ _ _ _ hr) ext;unfold fl eB bS dt at hc;simp only[Goal.bW,i64,iD,bD,bV,afQ,afS]at hc;simp only[he]at hc;have l0:¬x1+(j:Int)<x2:=by omega
  unfold bS dt MM YI;simp only[zX,simprocAttr,-Int.reduceNatCast',i64,bV,iD,bD,afQ,afS,h0,h1,h2,h3,fk,cP,l0];refine⟨by decide,?_⟩;refine ar mix [13] [] (by rfl) ?_;simp only[zX,simprocAttr,-Int.reduceNatCast',i64,bV,iD,bD,h0,h1,h2,h3,fk,cP,wa,wb,he];refine⟨by decide,by decide,e8 (hc _) ?_⟩;simp only[zX,simprocAttr,-Int.reduceNatCast',i64,bV,iD,bD];first|exact aQ _ _|exact⟨aQ _ _,rfl⟩
theorem VS (ih:kA t F n) (o:re.op=4)
  (hr:gT t F n most (.rep (.mk 1 re 0 0 next) i c) st=some (b,st')) :
  aq prog 82 [.rf 0 g0 0 0,.d (Goal.mk kind re k fw next).d,i64 i,.d (cM c)] (bS g0 t most F st) λv s=>v=bV b/\s=bS g0 t most F st':=by
 have hc:=λext=>fM (ih g0 _ _ _ _ _ hr) ext;unfold fl eB bS dt at hc;simp only[Goal.bW,i64,iD,bD,bV,afQ,afS]at hc;have d4:decide (re.op=4)=true:=bi o;unfold bS dt;refine an func82 rfl ntmps82 results82 rfl 3 26328072917139296674479506920917608079723773850137295405767982863 (by simp) (by simp) ?_;simp only[zX,simprocAttr,-Int.reduceNatCast',i64,bV,Goal.bW,iD,bD,d4];refine aS bO.bf ?_;refine ar mix [10] [(7,[4],[4])] (by rfl) ?_;simp only[zX,simprocAttr,-Int.reduceNatCast',i64,bV,iD,bD,hole];refine e8 (bc [4] (by simp [bE,bM,ba.go,ba,cj]) (hc _)) ?_;simp only[zX,simprocAttr,-Int.reduceNatCast',i64,bV,iD,bD];exact aQ _ _
theorem O4 (cI:eQ t F g0 most st s1) (he:s1.empty=true) (o:re.op≠4) :
  aq prog 82 [.rf 0 g0 0 0,.d (Goal.mk kind re k fw next).d,i64 i,.d (cM c)] (bS g0 t most F st) λv s=>v=bV true/\s=bS g0 t most F s1:=by
 unfold eQ bS dt at cI;simp only[i64,bV,iD,afQ,afS]at cI;have d4:decide (re.op=4)=false:=b6 o;unfold bS dt;refine an func82 rfl ntmps82 results82 rfl 3 26328072917139296674479506920917608079723773850137295405767982863 (by simp) (by simp) ?_;simp only[zX,simprocAttr,-Int.reduceNatCast',i64,bV,Goal.bW,iD,bD,d4];refine ao (cI _) (λv s' hv=>?_);obtain⟨rfl,rfl⟩:=hv;simp only[zX,simprocAttr,-Int.reduceNatCast',i64,bV,iD,bD,he,af4,aga];exact aQ _ _
theorem Mn {t:List Int} (ht:t.length<=1000000) (F:Int):∀n,kA t F n
 |0=>λ_ _ _ _ _ _ h=>by cases h
 |n+1=>λg0 most task st b st' h=>by
  have ih:=Mn ht F n;have h:cF t F (gT t F n) most task st=some (b,st'):=h;cases task with
  |run g i c =>
   cases g with
   |nil =>
    simp only[cF]at h;by_cases hi:i<0\/(t.length:Int)<i
    ·rw[be hi]at h;cases h
    rw[ap hi]at h;by_cases he:st.ends.length<2000000000000/\st.ak.length=st.ends.length
    ·rw[be he]at h;simp only[afY,agx]at h;obtain⟨rfl,rfl⟩:=h;exact Sn he.1 he.2
    ·rw[ap he]at h;cases h
   |mk kind re k fw next=>exact run_mk ih h
  |rep g i c =>
   simp only[cF]at h;by_cases hi:i<0\/(t.length:Int)<i
   ·rw[be hi]at h;cases h
   rw[ap hi]at h;cases g with
   |nil=>cases h
   |mk kind re k fw next =>
    by_cases hm:re.mode=2
    ·exact PQ ih hm h
    ·exact OO ih hm h
  |node g i c =>
   simp only[cF]at h;by_cases hi:i<0\/(t.length:Int)<i
   ·rw[be hi]at h;cases h
   rw[ap hi]at h;cases g with
   |nil=>cases h
   |mk kind re k fw next =>
    simp only at h;by_cases o4:re.op=4
    ·rw[be o4]at h;exact VS ih o4 h
    rw[ap o4]at h;by_cases c0:1000000000<re.set.length\/1000000000<re.kids.length\/1000000000<c.length
    ·rw[be c0]at h;cases h
    rw[ap c0]at h;by_cases c1:st.steps<0\/10000000000000<st.steps
    ·rw[be c1]at h;cases h
    rw[ap c1]at h;have cI:eQ t F g0 most st (st.step F):=λext=>H4 g0 t most F st (by omega) (by omega) ext;by_cases he:(st.step F).empty=true
    ·rw[be he]at h;simp only[afY,agx]at h;obtain⟨rfl,rfl⟩:=h;exact O4 cI he o4
    ·rw[ap he]at h;have he:(st.step F).empty=false:=by simpa using he
     have a1:0<=i:=by omega
     have a2:i<=t.length:=by omega
     have a3:re.set.length<=1000000000:=by omega
     have a4:re.kids.length<=1000000000:=by omega
     have a5:c.length<=1000000000:=by omega
     by_cases o1:re.op=1
     ·exact VG ih ht o1 a1 a2 a3 a4 a5 he cI h
     by_cases o2:re.op=2
     ·exact U4 ih ht o2 a1 a2 a3 a4 a5 he cI h
     by_cases o3:re.op=3
     ·exact Vr ih ht o3 a1 a2 a3 a4 a5 he cI h
     by_cases o5:re.op=5
     ·exact UM ih ht o5 a1 a2 a3 a4 a5 he cI h
     by_cases o6:re.op=6
     ·exact Vh ih ht o6 a1 a2 a3 a4 a5 he cI h
     by_cases o7:re.op=7
     ·exact Vt ih ht o7 a1 a2 a3 a4 a5 he cI h
     by_cases o8:re.op=8
     ·exact VU ih ht o8 a1 a2 a3 a4 a5 he cI h
     by_cases o9:re.op=9
     ·exact U7 ih ht o9 a1 a2 a3 a4 a5 he cI h
     by_cases J2:re.op=10
     ·exact RU ih ht J2 a1 a2 a3 a4 a5 he cI h
     by_cases rO:re.op=11
     ·exact To ih ht rO a1 a2 a3 a4 a5 he cI h
     exact KY ih ht ⟨o1,o2,o3,o4,o5,o6,o7,o8,o9,J2,rO⟩ a1 a2 a3 a4 a5 he cI h
def eS (re:Re) (v:V):VL.Obj:=⟨0,true,8,[[i64 re.op,.d (.sl (re.set.map aV)),v,i64 re.mn,i64 re.mx,i64 re.mode,i64 re.n,bV re.neg]]⟩
def iq:VL.Obj:=⟨0,true,8,[[i64 0,.fu [],.fu [],i64 0,i64 0,i64 0,i64 0,bV false]]⟩
theorem gQ (re:Re) (hs:re.bC=true):aO prog 42 [fv re] (fv re):=by
 revert hs;refine Re.ind (Q:=λre=>re.bC=true->aO prog 42 [fv re] (fv re)) (λre ih hs=>?_) re;obtain⟨ie,hlen,rQ⟩:=Re.cA hs;refine an func42 rfl ntmps42 results42 rfl 0 57391 (by simp) (by simp) ?_;simp only[zW,cQ,dx,dB,dC,dD,gl,ja,jg,jk,mA,eI,eJ,fX,reduceIte,reduceCtorEq,gj,i64,ai re,iD,bD];refine aj (iv re.set ie) (by simp [ah,ah.go,ai,i64,bV,aM]) (by simp [ah,ah.go,ai,i64,bV,aM]) ?_;simp only[zW,cQ,dx,dB,dC,dD,gl,ja,jg,jk,mA,eI,eJ,fX,reduceIte,reduceCtorEq,gj,i64,iD,bD];refine au (λn e s=>∃i:Nat,n=re.kids.length-i/\i<=re.kids.length/\e 1=.rf 0 0 0 0/\e 2=.rf 1 0 0 0/\e 13=.d (.sl (re.kids.map Re.cells))/\e 14=i64 re.kids.length/\e 15=i64 i /\
   ((i=0/\s=[eS re (.fu []),iq])\/∃g X,aG 4 X=true/\s=[eS re (.so 3 g 0 i),iq,X,⟨g,true,8,((re.kids.take i).map Re.cells).map λc=>c.map V.d⟩]))
  ⟨_,_,_,br.refl,0,rfl,by omega,rfl,rfl,rfl,rfl,rfl,.inl ⟨rfl,rfl⟩⟩ ?_
 rintro n e s ⟨i,rfl,hi,h1,h2,fk,cP,fm,iE⟩;rcases agi i re.kids.length with az|fI
 ·obtain⟨k,hk⟩:∃k,re.kids[i]?=some k:=⟨_,afP az⟩
  have hm:=afW hk;have wC:=rQ k hm;rcases iE with ⟨rfl,rfl⟩|⟨g,X,hX,rfl⟩
  ·simp only[zW,cQ,dx,dB,dC,dD,gl,ja,jg,jk,mA,eI,eJ,fX,reduceIte,reduceCtorEq,gj,h1,h2,fk,cP,fm,i64,bV,az,hk,eS,iq];refine ar mix [5,7] [] (by rfl) ?_;simp only[zW,cQ,dx,dB,dC,dD,gl,ja,jg,jk,mA,eI,eJ,fX,reduceIte,reduceCtorEq,gj,h1,h2,fk,cP,fm,i64,bV];refine bp (ih k hm wC) (by simp [ah,ah.go,ai,i64,bV,aM]) (by simp [ah,ah.go,ai,i64,bV,aM]) ?_;simp only[zW,cQ,dx,dB,dC,dD,gl,ja,jg,jk,mA,eI,eJ,fX,reduceIte,reduceCtorEq,gj,h1,h2,fk,cP,fm,i64,bV];refine⟨λx hx=>by rw[List.mem_singleton.1 hx];simp [Re.bG],by simp,re.kids.length-1,_,_,by omega,br.refl,1,rfl,by omega,?_,?_,?_,?_,?_,.inr ⟨0,_,?_,by rw[aR hk];rfl⟩⟩ <;> (try simp only[zU,gj,cQ,dx,eI,reduceIte])
   ·exact h1
   ·exact h2
   ·exact fk
   ·exact cP
   ·rw[bd _ (by omega)];rfl
   ·simp [ah]
  ·simp only[zW,cQ,dx,dB,dC,dD,gl,ja,jg,jk,mA,eI,eJ,fX,reduceIte,reduceCtorEq,gj,h1,h2,fk,cP,fm,i64,bV,az,hk,eS,iq];refine ar mix [5,7] [] (by rfl) ?_;simp only[zW,cQ,dx,dB,dC,dD,gl,ja,jg,jk,mA,eI,eJ,fX,reduceIte,reduceCtorEq,gj,h1,h2,fk,cP,fm,i64,bV];refine bp (ih k hm wC) (by simp [ah,ah.go,ai,i64,bV,aM]) (by simp [ah,ah.go,ai,i64,bV,aM]) ?_;simp only[zW,cQ,dx,dB,dC,dD,gl,ja,jg,jk,mA,eI,eJ,fX,reduceIte,reduceCtorEq,gj,h1,h2,fk,cP,fm,i64,bV];have aaa:((((re.kids.take i).map Re.cells).map λc=>c.map V.d).take i)=((re.kids.take i).map Re.cells).map λc=>c.map V.d:=af1 (by simp;omega);refine⟨λx hx=>by rw[List.mem_singleton.1 hx];simp [Re.bG],⟨by simp;omega,by omega⟩,re.kids.length-(i+1),_,_,by omega,br.cut 4 (by omega) rfl ?_ [1,2,13,14,15] ?_,i+1,rfl,by omega,?_,?_,?_,?_,?_,.inr ⟨g+1,X,hX,?_⟩⟩ <;> (try simp only[zU,gj,cQ,dx,eI,reduceIte])
   ·rw[aaa];simp only[aG]at hX;simp [aG,ah,hX];intro x hx y hy;obtain⟨r,_,rfl⟩:=List.mem_map.1 (agJ hx);obtain⟨d,_,rfl⟩:=List.mem_map.1 hy;rfl
   ·simp [bz,aH,ah,h1,h2,fk,cP,i64]
   ·exact h1
   ·exact h2
   ·exact fk
   ·exact cP
   ·rw[bd _ (by omega)];rfl
   ·rw[aR hk];simp [List.take_take]
 ·have cV:i=re.kids.length:=by omega
  subst cV;rcases iE with ⟨h0,rfl⟩|⟨g,X,hX,rfl⟩
  ·simp only[zW,cQ,dx,dB,dC,dD,gl,ja,jg,jk,mA,eI,eJ,fX,reduceIte,reduceCtorEq,gj,h1,h2,fk,cP,fm,i64,bV,agK,eS,iq];have:re.kids=[]:=ago h0;rw[this];rfl
  ·simp only[zW,cQ,dx,dB,dC,dD,gl,ja,jg,jk,mA,eI,eJ,fX,reduceIte,reduceCtorEq,gj,h1,h2,fk,cP,fm,i64,bV,agK,eS,iq];rw[agj,eH 7 0 _ _ _ (by simp),be (by omega)];rfl
end Go.Proofs.Ytfmdmlfhigocaaa
namespace Go.Proofs.Ytfmdmlfhigocaaa
open Go.VL Go.Proofs.Try
end Go.Proofs.Ytfmdmlfhigocaaa
namespace Go.Proofs.Ytfmdmlfhigocaaa
open Go.VL Go.Proofs.Try
mutual
def Re.every (p:Re->Bool):Re->Bool
 |.mk op set kids mn mx mode n neg=>p (.mk op set kids mn mx mode n neg)&&Re.GD p kids
def Re.GD (p:Re->Bool):List Re->Bool
 |[]=>true
 |k::l=>Re.every p k&&Re.GD p l
end
variable{t:List Int}{i':Int}{i:Int}{st:bJ}{nc:Nat}{st':bJ}{F:Int}{sl:Int}{b:Bool}
theorem Re.BG (p:Re->Bool):∀l:List Re,Re.GD p l=l.all (Re.every p)
 |[]=>rfl
 |k::l=>by simp [Re.GD,Re.BG p l]
theorem Re.aB {p:Re->Bool} (re:Re):re.every p=true ↔ p re=true/\∀k∈re.kids,k.every p=true:=by
 cases re with
 |mk op set kids mn mx mode n neg=>simp only[Re.every,agb,Re.BG,af8,Re.kids]
def jI (re:Re):Bool:=decide ((re.op=4\/re.op=5\/re.op=7\/re.op=8\/re.op=9->re.kids≠[])/\(re.op=10->2<=re.kids.length)/\re.set.length<=1000000000/\re.kids.length<=1000000000)
def QH (t:List Int) (p:Int×Int):Prop:=p=(-1,-1)\/(0<=p.1/\p.1<=p.2/\p.2<=t.length)
def jj (t:List Int) (c:aK):Prop:=c.length<=1000000000/\∀p∈c,QH t p
def jG (t:List Int) (i s:Int):Goal->Prop
 |.nil=>True
 |.mk kind re k fw next=>(0<=kind/\kind<=4)/\re.every jI=true/\(kind=1\/kind=2->re.op=4)/\(kind=1->0<=k/\k<=s)/\(kind=2->0<=k/\k<s)/\(kind=3->0<=fw/\fw<=i)/\jG t i s next
theorem jG.mono{s s':Int} (hi:i<=i') (hs:s<=s'):∀{g:Goal},jG t i s g->jG t i' s' g
 |.nil,_=>trivial
 |.mk _ _ _ _ _,h=>by obtain⟨h0,h1,h2,h3,h4,h5,h6⟩:=h;exact⟨h0,h1,h2,λk=>by have:=h3 k;omega,λk=>by have:=h4 k;omega,λk=>by have:=h5 k;omega,h6.mono hi hs⟩
def wV:Goal->Nat
 |.nil=>0
 |.mk kind re _ _ next=>if kind=1 then (if re.mode=2 then 4 else 2) else if kind=2 then 5 else if kind=3\/kind=4 then 7+wV next else 6
def eg:Goal->Int
 |.nil=>1
 |.mk kind _ _ _ next=>if kind=3\/kind=4 then eg next else 0
theorem ia:∀g:Goal,0<=eg g/\eg g<=1
 |.nil=>by simp [eg]
 |.mk kind _ _ _ next=>by
  have:=ia next
  unfold eg;split
  ·exact this
  ·omega
def Task.yJ:Task->Nat
 |.run g _ _=>wV g
 |.rep (.mk _ re _ _ _) _ _=>if re.mode=2 then 3 else 1
 |.rep .nil _ _=>0
 |.node _ _ _=>5
def Task.gW:Task->Int
 |.run g _ _=>eg g
 |_=>0
def Task.pos:Task->Int
 |.run _ i _=>i
 |.rep _ i _=>i
 |.node _ i _=>i
def Task.ak:Task->aK
 |.run _ _ c=>c
 |.rep _ _ c=>c
 |.node _ _ c=>c
def Task.Ce:Task->Prop
 |.run (.mk kind re _ _ _) _ _=>kind=1/\re.mode≠2
 |.run .nil _ _=>False
 |.rep (.mk _ re _ _ _) _ _=>re.mode≠2
 |.rep .nil _ _=>False
 |.node (.mk _ re _ _ _) _ _=>re.op≠4
 |.node .nil _ _=>False
def Task.ok (t:List Int) (s:Int):Task->Prop
 |.run g i _=>jG t i s g
 |.rep .nil _ _=>False
 |.rep (.mk _ re k _ next) i _=>re.every jI=true/\re.op=4/\0<=k/\k<=s/\jG t i s next
 |.node .nil _ _=>False
 |.node (.mk _ re _ _ next) i _=>re.every jI=true/\jG t i s next
structure Pre (t:List Int) (F:Int) (task:Task) (st:bJ):Prop where
 ok:task.ok t st.steps
 i0:0<=task.pos
 i1:task.pos<=t.length
 ak:jj t task.ak
 empty:st.empty=false
 s0:0<=st.steps
 s1:st.steps<=F
 ends:(st.ends.length:Int)+task.gW<=st.steps
 same:st.ak.length=st.ends.length
structure dW (t:List Int) (F:Int) (sl i:Int) (nc:Nat) (st:bJ) (b:Bool) (st':bJ):Prop where
 s0:st.steps<=st'.steps
 s1:st'.steps<=F+1
 empty:st'.empty=decide (F<st'.steps)
 full:st'.empty=true->b=true
 more:∃new v9,st'.ends=st.ends++new/\st'.ak=st.ak++v9/\v9.length=new.length/\(new.length:Int)<=st'.steps-st.steps+sl/\(∀e∈new,i<=e/\e<=t.length)/\∀d∈v9,jj t d/\d.length=nc
theorem dW.FY{sl':Int} (h:dW t F sl i nc st b st') (hs:sl<=sl') (hi:i'<=i):dW t F sl' i' nc st b st':=by obtain⟨new,v9,h1,h2,h3,h4,h5,h6⟩:=h.more;exact⟨h.s0,h.s1,h.empty,h.full,new,v9,h1,h2,h3,by omega,λe he=>⟨by have:=h5 e he;omega,(h5 e he).2⟩,h6⟩
theorem dW.trans{sl1 sl2:Int}{s2:bJ}{b1:Bool} (h:dW t F sl1 i nc st b1 s2) (k:dW t F sl2 i nc s2 b st'):dW t F (sl1+sl2) i nc st b st':=by
 obtain⟨new,v9,h1,h2,h3,h4,h5,h6⟩:=h.more;obtain⟨abl,Xo,k1,k2,k3,k4,k5,k6⟩:=k.more;refine⟨by have:=h.s0;have:=k.s0;omega,k.s1,k.empty,k.full,new++abl,v9++Xo,by rw[k1,h1,agu],by rw[k2,h2,agu],by simp [h3,k3],by simp only[af7,ag2];omega,λe he=>?_,λd hd=>?_⟩
 ·rcases List.mem_append.1 he with he|he
  ·exact h5 e he
  ·exact k5 e he
 ·rcases List.mem_append.1 hd with hd|hd
  ·exact h6 d hd
  ·exact k6 d hd
theorem dW.step (h:dW t F sl i nc (st.step F) b st'):dW t F (sl-1) i nc st b st':=by obtain⟨new,v9,h1,h2,h3,h4,h5,h6⟩:=h.more;have hs:(st.step F).steps=st.steps+1:=rfl;rw[hs]at h4;exact⟨by have:=h.s0;rw[hs]at this;omega,h.s1,h.empty,h.full,new,v9,h1,h2,h3,by omega,h5,h6⟩
theorem dW.no (h1:st.steps<=F) (h2:st.empty=false) (hs:0<=sl):dW t F sl i nc st false st :=
 ⟨agn _,by omega,by rw[h2,b6 (by omega)],λh=>(by rw[h2]at h;cases h),[],[],by simp,by simp,rfl,(by simp;omega),by simp,by simp⟩
theorem dW.out (h1:st.steps<=F) (h2:(st.step F).empty=true) (he:st.empty=false):dW t F 0 i nc st true (st.step F):=by
 have hs:(st.step F).steps=st.steps+1:=rfl;have hd:F<st.steps+1:=by simp only[bJ.step,he,agr,decide_eq_true_eq]at h2;exact h2
 exact⟨by rw[hs];omega,by rw[hs];omega,by rw[h2,hs,bi hd],λ_=>rfl,[],[],by simp [bJ.step],by simp [bJ.step],rfl,(by rw[hs];simp;try omega),by simp,by simp⟩
def Ends (t:List Int) (F most:Int) (task:Task) (st:bJ):Prop :=
 ∃n b st',gT t F n most task st=some (b,st')/\dW t F task.gW task.pos task.ak.length st b st'/\(task.Ce->st.steps<st'.steps)
structure lW (t:List Int) (F:Int) (i:Int) (c:aK) (sl:Int) (st:bJ):Prop where
 i0:0<=i
 i1:i<=t.length
 ak:jj t c
 empty:st.empty=false
 s0:0<=st.steps
 s1:st.steps<=F
 ends:(st.ends.length:Int)+sl<=st.steps
 same:st.ak.length=st.ends.length
theorem qB{g:Goal}{c:aK} (H:lW t F i c sl st) (h:Ends t F 1 (.run g i c) ⟨st.steps,false,[],[]⟩) (u7:eg g=0) :
  ∃n r s',gu (gT t F n) g i c st=some (r,s')/\st.steps<=s'.steps/\s'.steps<=F+1/\s'.empty=decide (F<s'.steps)/\s'.ends=st.ends/\s'.ak=st.ak/\(s'.empty=true->r=none) /\
   (∀e d,r=some (e,d)->i<=e/\e<=t.length/\jj t d/\d.length=c.length)/\((Task.run g i c).Ce->st.steps<s'.steps):=by
 obtain⟨n,b,x,h1,h2,h3⟩:=h;obtain⟨new,v9,k1,k2,k3,k4,k5,k6⟩:=h2.more;simp only[afS]at k1 k2;have qj:=h2.s0;have ez:=h2.s1;have iO:=h2.empty;simp only at qj;unfold gu;cases he:x.empty with
 |true =>
  refine⟨n,none,{ st with steps:=x.steps,empty:=x.empty },?_,qj,ez,iO,rfl,rfl,λ_=>rfl,λe d h=>(by cases h),h3⟩;rw[h1];simp only[he,if_true]
 |false =>
  cases hn:new with
  |nil =>
   refine⟨n,none,{ st with steps:=x.steps,empty:=x.empty },?_,qj,ez,iO,rfl,rfl,λ_=>rfl,λe d h=>(by cases h),h3⟩;rw[hn]at k1;rw[h1];simp only[he,age,if_false,k1]
  |cons e es =>
   rw[hn]at k1 k3 k5;cases hc:v9 with
   |nil=>rw[hc]at k3;cases k3
   |cons d ds =>
    rw[hc]at k2 k6;refine⟨n,some (e,d),{ st with steps:=x.steps,empty:=x.empty },?_,qj,ez,iO,rfl,rfl,λh=>?_,λe' d' h=>?_,h3⟩
    ·rw[h1];simp only[he,age,if_false,k1,k2]
    ·simp only[he]at h;cases h
    ·cases h;have q1:=k5 e (by simp);have q2:=k6 d (by simp);exact⟨q1.1,q1.2,q2.1,q2.2⟩
end Go.Proofs.Ytfmdmlfhigocaaa
