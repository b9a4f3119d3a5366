/- A part of the proof (G6 G7 G8). -/
import Derived.Test.YtfmdmlfhigocaaaON16
set_option linter.unusedSimpArgs false
set_option linter.unusedVariables false
open Nat renaming reduceAdd → eJ
set_option maxRecDepth 100000
set_option maxHeartbeats 80000000
namespace Go.Proofs.Ytfmdmlfhigocaaa
open Go.VL Go.Proofs.Try
variable{st:bJ}{g0:Nat}{st':bJ}{F:Int}{most:Int}{t:List Int}{b:Bool}{r:Option (Int×aK)}{c:aK}{n:Nat}{g:Goal}{i:Int}{kind:Int}{fw:Int}{re:Re}{k:Int}{next:Goal}
def fl:Task->FuncId
 |.run _ _ _=>50
 |.rep _ _ _=>80
 |.node _ _ _=>82
def eB (g0:Nat):Task->List V
 |.run g i c=>[.rf 0 g0 0 0,.d g.d,i64 i,.d (cM c)]
 |.rep g i c=>[.rf 0 g0 0 0,.d g.d,i64 i,.d (cM c)]
 |.node g i c=>[.rf 0 g0 0 0,.d g.d,i64 i,.d (cM c)]
def kA (t:List Int) (F:Int) (n:Nat):Prop:=∀g0 most task st b st',gT t F n most task st=some (b,st')->aq prog (fl task) (eB g0 task) (bS g0 t most F st) λv s=>v=bV b/\s=bS g0 t most F st'
theorem FB {α:Type} (ρ:List Nat) (g:Nat) (lv:Bool) (z:Nat) (l:List α) (f:α->D):aT ρ ⟨g,lv,z,l.map λx=>[V.d (f x)]⟩=⟨g,lv,z,l.map λx=>[V.d (f x)]⟩:=by simp only[aT,agy];congr 1
theorem LU (g0:Nat) (t:List Int) (most F:Int) (st:bJ):aT [0,1,2] (dt g0 t most F st)=dt g0 t most F st:=rfl
theorem aQ (l1:List Int) (l2:List aK):(((l1.map λx=>[V.d (D.sc (Value.int IntKind.i64 x))]).all λe=>e.all (ah 3))&&((l2.map λc=>[V.d (cM c)]).all λe=>e.all (ah 3)))=true:=by rw[agb];exact⟨sY l1 iD 3,sY l2 cM 3⟩
theorem Goal.bW (kind:Int) (re:Re) (k fw:Int) (next:Goal):(Goal.mk kind re k fw next).d=.el [iD kind,iD re.op,.sl (re.set.map aV),.sl (re.kids.map Re.cells),iD re.mn,iD re.mx,iD re.mode,iD re.n,bD re.neg,iD k,iD fw,next.d]:=by rw[Goal.d,Re.ae];rfl
theorem yd {f:FuncId}{cargs:List V}{b:V}{ext:List VL.Obj}{K:V->List VL.Obj->Prop}
  (h:aq prog f cargs (bS g0 t most F st) λv s=>v=b/\s=bS g0 t most F st') (ha:cargs.map (aL [0,1,2])=cargs) (DC:ah.go 3 cargs=true) (hb:aL [0,1,2] b=b) (hk:K b (bS g0 t most F st'++ext)) :
  aq prog f cargs (bS g0 t most F st++ext) K:=by
 refine cH [0,1,2] h (by decide) rfl ?_ ha.symm DC ?_ hb ?_
 ·unfold bS;simp only[afR,afU,afQ,afS,agm,agF,LU,FB]
 ·unfold bS dt;simp only[agq,agA,aG,sY];simp [ah,ah.go,i64,bV]
 ·have:aE (bS g0 t most F st++ext) [0,1,2] ((bS g0 t most F st').map (aT [0,1,2]))=bS g0 t most F st'++ext:=by unfold bS;simp only[afR,afU,afQ,afS,LU,FB,aE,agd,agf]
  rw[this];exact hk
theorem G9 (g0:Nat) (task:Task):(eB g0 task).map (aL [0,1,2])=eB g0 task:=by cases task <;> rfl
theorem DY (g0:Nat) (task:Task):ah.go 3 (eB g0 task)=true:=by cases task <;> rfl
theorem fM{task:Task} (h:aq prog (fl task) (eB g0 task) (bS g0 t most F st) λv s=>v=bV b/\s=bS g0 t most F st') (ext:List VL.Obj) :
  aq prog (fl task) (eB g0 task) (bS g0 t most F st++ext) λv s=>v=bV b/\s=bS g0 t most F st'++ext:=yd h (G9 g0 _) (DY g0 _) rfl ⟨rfl,rfl⟩
def lg:Option (Int×aK)->V
 |none=>.tu [i64 0,.d (.sl []),bV false]
 |some (e,d)=>.tu [i64 e,.d (cM d),bV true]
theorem H9 (ih:kA t F n) (hr:gu (gT t F n) g i c st=some (r,st')) :
  aq prog 100 [.rf 0 g0 0 0,.d g.d,i64 i,.d (cM c)] (bS g0 t most F st) λv s=>v=lg r/\s=bS g0 t most F st':=by
 unfold gu at hr;cases hx:gT t F n 1 (.run g i c) ⟨st.steps,false,[],[]⟩ with
 |none=>rw[hx]at hr;cases hr
 |some bx =>
  obtain⟨b,x⟩:=bx;rw[hx]at hr;simp only at hr;have eu:=ih 1 _ _ _ _ _ hx;unfold bS dt fl eB at eu;unfold bS dt;simp only[i64,bV]at eu;refine an func100 rfl ntmps100 results100 rfl 3 3855 (by simp) (by simp) ?_;simp only[zX,simprocAttr,i64,bV];refine aS bO.bf ?_;refine ar mix [] [(13,[3],[3])] (by rfl) ?_;simp only[zX,simprocAttr,i64,bV,hole];refine g9 (pre:=[.d (al t),.d (.sc (.int .i64 1)),.d (.sc (.int .i64 F)),.d (.sc (.int .i64 st.steps)),.d (.sc (.bool false))]) (post:=[.fu []]) 3 1 rfl rfl rfl ?_;simp only[agf,agd,afQ,afS,afZ,af0,eJ];refine g9 (pre:=[.d (al t),.d (.sc (.int .i64 1)),.d (.sc (.int .i64 F)),.d (.sc (.int .i64 st.steps)),.d (.sc (.bool false)),.so 4 0 0 0]) (post:=[]) 3 1 rfl rfl rfl ?_;simp only[agf,agd,afQ,afS,afZ,af0,eJ];refine cH [3,4,5] eu (by decide) rfl rfl rfl rfl ?_ rfl ?_
  ·rfl
  simp only[afR,afU,FB,aE,agd,agf,aT,aL,aL.go,agW,agX];obtain⟨xs,xe,gU,qs⟩:=x;simp only at hr;cases xe with
  |true =>
   simp only[if_true,afY,agx]at hr;obtain⟨rfl,rfl⟩:=hr;simp only[zX,simprocAttr,i64,bV];exact⟨by simp only[sY,ag3],rfl⟩
  |false =>
   simp only[age,if_false]at hr;cases gU with
   |nil =>
    simp only[afY,agx]at hr;obtain⟨rfl,rfl⟩:=hr;simp only[zX,simprocAttr,i64,bV,af0,agk];exact⟨by simp only[sY,ag3],rfl⟩
   |cons e es =>
    cases qs with
    |nil=>cases hr
    |cons d ds =>
     simp only[afY,agx]at hr;obtain⟨rfl,rfl⟩:=hr;have cB:¬((es.length:Int)+1=0):=by omega
     simp only[zX,simprocAttr,i64,bV,afZ,ag2,Int.natCast_one,cB];refine ar mix [] [] (by rfl) ?_;simp only[aL.go,aL];simp only[zX,simprocAttr,i64,bV,iD,afZ];refine⟨by omega,by omega,?_,rfl⟩;rw[agb];exact⟨sY st.ends iD 3,sY st.ak cM 3⟩
theorem N4 (r:Option (Int×aK)):aL [0,1,2] (lg r)=lg r:=by cases r <;> rfl
theorem zj (ih:kA t F n) (hr:gu (gT t F n) g i c st=some (r,st')) (ext:List VL.Obj) :
  aq prog 100 [.rf 0 g0 0 0,.d g.d,i64 i,.d (cM c)] (bS g0 t most F st++ext) λv s=>v=lg r/\s=bS g0 t most F st'++ext :=
 yd (H9 ih hr) rfl rfl (N4 r) ⟨rfl,rfl⟩
theorem H4 (g0:Nat) (t:List Int) (most F:Int) (st:bJ) (h0:0<=st.steps) (h1:st.steps<=10000000000000) (ext:List VL.Obj) :
  aq prog 101 [.rf 0 g0 0 0] (bS g0 t most F st++ext) λv s=>v=bV (!(st.step F).empty)/\s=bS g0 t most F (st.step F)++ext :=
 yd (Tn g0 t most F st h0 h1) rfl rfl rfl ⟨rfl,rfl⟩
theorem Sn{st:bJ} (he:st.ends.length<2000000000000) (hs:st.ak.length=st.ends.length) :
  aq prog 50 [.rf 0 g0 0 0,.d Goal.nil.d,i64 i,.d (cM c)] (bS g0 t most F st) λv s=>v=bV (decide (0<=most)&&decide (most<=(st.ends.length:Int)+1))/\s=bS g0 t most F { st with ends:=st.ends++[i],ak:=st.ak++[c] }:=by
 obtain⟨steps,empty,ends,ak⟩:=st;simp only at he hs;have hd:Goal.nil.d=.sc (.pointer none):=rfl;have hca:(cM c)=.sl (c.map aV):=rfl;have t1:(ends.map λx=>[V.d (iD x)]).take ends.length=ends.map λx=>[V.d (iD x)]:=af1 (by simp);have t2:(ak.map λc=>[V.d (cM c)]).take ends.length=ak.map λc=>[V.d (cM c)]:=af1 (by simp [hs]);unfold bS dt;simp only[hs];refine an func50 rfl ntmps50 results50 rfl 3 2251799813685519 (by simp) (by simp) ?_;simp only[zX,simprocAttr,i64,bV,hd,iD];refine⟨⟨_,rfl⟩,by simp,⟨by omega,by omega⟩,by simp,⟨by omega,by omega⟩,?_⟩;simp only[iD]at t1;rw[t1,t2];have l1:(ends++[i]).length=ends.length+1:=by simp
 have l2:(ak++[c]).length=ends.length+1:=by simp [hs]
 have m1:(ends++[i]).map (λx=>[V.d (D.sc (Value.int .i64 x))])=ends.map (λx=>[V.d (D.sc (Value.int .i64 x))])++[[V.d (D.sc (Value.int .i64 i))]]:=by simp
 have m2:(ak++[c]).map (λc=>[V.d (cM c)])=ak.map (λc=>[V.d (cM c)])++[[V.d (cM c)]]:=by simp
 rw[l1,l2,m1,m2];have bA:(((ends.map (λx=>[V.d (D.sc (Value.int .i64 x))])++[[V.d (D.sc (Value.int .i64 i))]]).all λe=>e.all (ah 3))&&((ak.map (λc=>[V.d (cM c)])++[[V.d (cM c)]]).all λe=>e.all (ah 3)))=true:=by rw[<- m1,<- m2];exact aQ _ _
 generalize ends.map (λx=>[V.d (D.sc (Value.int .i64 x))])++[[V.d (D.sc (Value.int .i64 i))]]=E1 at *;generalize ak.map (λc=>[V.d (cM c)])++[[V.d (cM c)]]=C1 at *;refine ar mix [] [] (by rfl) ?_;by_cases q:0<=most
 ·simp only[zX,simprocAttr,i64,bV,iD,ge_iff_le,q,decide_true,Bool.true_and,ag2,Int.natCast_one];exact bA
 ·simp only[zX,simprocAttr,i64,bV,iD,ge_iff_le,q,decide_false,Bool.false_and];exact bA
theorem run_mk (ih:kA t F n)
  (hr:cF t F (gT t F n) most (.run (.mk kind re k fw next) i c) st=some (b,st')) :
  aq prog 50 [.rf 0 g0 0 0,.d (Goal.mk kind re k fw next).d,i64 i,.d (cM c)] (bS g0 t most F st) λv s=>v=bV b/\s=bS g0 t most F st':=by
 simp only[cF]at hr;by_cases hi:i<0\/(t.length:Int)<i
 ·rw[be hi]at hr;cases hr
 rw[ap hi]at hr;by_cases k1:kind=1
 ·rw[be k1]at hr;have hc:=ih g0 _ _ _ _ _ hr;unfold fl eB bS dt at hc;simp only[Goal.bW,i64,iD,bD,bV]at hc;simp only[k1]at hc;unfold bS dt;refine an func50 rfl ntmps50 results50 rfl 3 2251799813685519 (by simp) (by simp) ?_;simp only[zX,simprocAttr,i64,bV,Goal.bW,iD,bD,k1];refine⟨⟨_,rfl⟩,?_⟩
  (refine ao hc (λv s' hv=>?_);obtain⟨rfl,rfl⟩:=hv)
  simp only[zX,simprocAttr,i64,bV,iD];exact aQ _ _
 rw[ap k1]at hr;by_cases k2:kind=2
 ·rw[be k2]at hr;by_cases c1:re.mn<=k/\i=fw
  ·rw[be c1]at hr;simp only[afY,agx]at hr;obtain⟨rfl,rfl⟩:=hr;unfold bS dt;refine an func50 rfl ntmps50 results50 rfl 3 2251799813685519 (by simp) (by simp) ?_;simp only[zX,simprocAttr,i64,bV,Goal.bW,iD,bD,k2];refine⟨⟨_,rfl⟩,?_⟩;refine ar mix [] [] (by rfl) ?_;simp only[zX,simprocAttr,i64,bV,iD,ge_iff_le,c1.1,c1.2];exact aQ _ _
  rw[ap c1]at hr;by_cases c2:k<0\/10000000000000<k
  ·rw[be c2]at hr;cases hr
  rw[ap c2]at hr;have Ja:=ih g0 _ _ _ _ _ hr;have hc:∀X,aq prog _ _ (bS g0 t most F st++[X]) (λv s=>v=bV b/\s=bS g0 t most F st'++[X]):=λX=>yd Ja (G9 g0 _) (DY g0 _) rfl ⟨rfl,rfl⟩;unfold fl eB bS dt at hc;simp only[Goal.bW,i64,iD,bD,bV]at hc;simp only[afQ,afS]at hc;have w1:IntKind.i64.wrap (k+1)=k+1:=bd _ (by omega);unfold bS dt;refine an func50 rfl ntmps50 results50 rfl 3 2251799813685519 (by simp) (by simp) ?_;simp only[zX,simprocAttr,i64,bV,Goal.bW,iD,bD,k2];refine⟨⟨_,rfl⟩,?_⟩;refine ar mix [] [] (by rfl) ?_;by_cases q1:re.mn<=k
  case' pos =>
   have q2:¬i=fw:=λh=>c1 ⟨q1,h⟩;simp only[zX,simprocAttr,i64,bV,iD,ge_iff_le,q1,q2]
  case' neg =>
   simp only[zX,simprocAttr,i64,bV,iD,ge_iff_le,q1]
  all_goals
   refine aS bO.bf ?_;refine ar mix [18] [(15,[3],[3])] (by rfl) ?_;simp only[zX,simprocAttr,i64,bV,iD,bD,hole,w1];refine e8 (bc [3] ?_ (hc _)) ?_
   ·simp [bE,bM,ba.go,ba,cj]
   ·simp only[zX,simprocAttr,i64,bV,iD];exact aQ _ _
 rw[ap k2]at hr;by_cases k3:kind=3
 ·rw[be k3]at hr;by_cases c1:1000000000<c.length
  ·rw[be c1]at hr;cases hr
  rw[ap c1]at hr;have hc:=ih g0 _ _ _ _ _ hr;unfold fl eB bS dt at hc;simp only[Goal.bW,i64,iD,bD,bV]at hc;have hw:=S0 c re.n fw i (by omega);simp only[i64]at hw;unfold bS dt;refine an func50 rfl ntmps50 results50 rfl 3 2251799813685519 (by simp) (by simp) ?_;simp only[zX,simprocAttr,i64,bV,Goal.bW,iD,bD,k3];refine⟨⟨_,rfl⟩,?_⟩;refine ar mix [18] [] (by rfl) ?_;simp only[zX,simprocAttr,i64,bV,iD,bD];refine bp hw rfl rfl ?_;simp only[zX,simprocAttr,i64,bV,iD,bD];refine e8 hc ?_;simp only[zX,simprocAttr,i64,bV,iD];exact aQ _ _
 rw[ap k3]at hr;by_cases k4:kind=4
 ·rw[be k4]at hr;by_cases c1:i=fw
  ·rw[be c1]at hr;have hc:=ih g0 _ _ _ _ _ hr;unfold fl eB bS dt at hc;simp only[Goal.bW,i64,iD,bD,bV]at hc;unfold bS dt;refine an func50 rfl ntmps50 results50 rfl 3 2251799813685519 (by simp) (by simp) ?_;simp only[zX,simprocAttr,i64,bV,Goal.bW,iD,bD,k4];refine⟨⟨_,rfl⟩,?_⟩;simp only[zX,simprocAttr,i64,bV,iD,bD,c1];simp only[c1]at hc
   (refine ao hc (λv s' hv=>?_);obtain⟨rfl,rfl⟩:=hv)
   simp only[zX,simprocAttr,i64,bV,iD];exact aQ _ _
  ·rw[ap c1]at hr;simp only[afY,agx]at hr;obtain⟨rfl,rfl⟩:=hr;unfold bS dt;refine an func50 rfl ntmps50 results50 rfl 3 2251799813685519 (by simp) (by simp) ?_;simp only[zX,simprocAttr,i64,bV,Goal.bW,iD,bD,k4,c1];exact⟨⟨_,rfl⟩,aQ _ _⟩
 rw[ap k4]at hr;have hc:=ih g0 _ _ _ _ _ hr;unfold fl eB bS dt at hc;simp only[Goal.bW,i64,iD,bD,bV]at hc;unfold bS dt;refine an func50 rfl ntmps50 results50 rfl 3 2251799813685519 (by simp) (by simp) ?_;simp only[zX,simprocAttr,i64,bV,Goal.bW,iD,bD,k1,k2,k3,k4];refine⟨⟨_,rfl⟩,?_⟩
 (refine ao hc (λv s' hv=>?_);obtain⟨rfl,rfl⟩:=hv)
 simp only[zX,simprocAttr,i64,bV,iD];exact aQ _ _
theorem PQ (ih:kA t F n) (hm:re.mode=2)
  (hr:yS F (gT t F n) most re k next i c st=some (b,st')) :
  aq prog 80 [.rf 0 g0 0 0,.d (Goal.mk kind re k fw next).d,i64 i,.d (cM c)] (bS g0 t most F st) λv s=>v=bV b/\s=bS g0 t most F st':=by
 unfold yS at hr;rw[be hm]at hr;cases hx:gu (gT t F n) (.mk 1 (re.ff 0) 0 0 .nil) i c st with
 |none=>rw[hx]at hr;cases hr
 |some x =>
  obtain⟨r,s1⟩:=x;rw[hx]at hr;have hf:=λext=>zj (g0:=g0) (most:=most) ih hx ext;have DE:Goal.nil.d=.sc (.pointer none):=rfl;have e1:(re.ff 0).op=re.op/\(re.ff 0).set=re.set/\(re.ff 0).kids=re.kids/\(re.ff 0).mn=re.mn/\(re.ff 0).mx=re.mx/\(re.ff 0).mode=0/\(re.ff 0).n=re.n/\(re.ff 0).neg=re.neg:=⟨rfl,rfl,rfl,rfl,rfl,rfl,rfl,rfl⟩
  obtain⟨a1,a2,a3,a4,a5,a6,a7,a8⟩:=e1;unfold bS dt at hf;simp only[Goal.bW,DE,a1,a2,a3,a4,a5,a6,a7,a8,i64,iD,bD,bV,afQ,afS]at hf;cases r with
  |none =>
   simp only[afY,agx]at hr;obtain⟨rfl,rfl⟩:=hr;unfold bS dt;refine an func80 rfl ntmps80 results80 rfl 3 32527 (by simp) (by simp) ?_;simp only[zX,simprocAttr,i64,bV,Goal.bW,iD,bD,hm];refine bc [4] (by simp [bE,bM,ba.go,ba,cj]) (ao (hf _) (λv s' hv=>?_));obtain⟨rfl,rfl⟩:=hv;simp only[zX,simprocAttr,i64,bV,iD,bD,lg];exact aQ _ _
  |some p =>
   obtain⟨e,d⟩:=p;simp only at hr;have hc:=λext=>fM (ih g0 _ _ _ _ _ hr) ext;unfold fl eB bS dt at hc;simp only[Goal.bW,i64,iD,bD,bV,afQ,afS]at hc;unfold bS dt;refine an func80 rfl ntmps80 results80 rfl 3 32527 (by simp) (by simp) ?_;simp only[zX,simprocAttr,i64,bV,Goal.bW,iD,bD,hm];refine bc [4] (by simp [bE,bM,ba.go,ba,cj]) (ao (hf _) (λv s' hv=>?_));obtain⟨rfl,rfl⟩:=hv;simp only[zX,simprocAttr,i64,bV,iD,bD,lg];refine ao (hc _) (λv s' hv=>?_);obtain⟨rfl,rfl⟩:=hv;simp only[zX,simprocAttr,i64,bV,iD,bD];exact aQ _ _
theorem OO (ih:kA t F n) (hm:¬re.mode=2)
  (hr:yS F (gT t F n) most re k next i c st=some (b,st')) :
  aq prog 80 [.rf 0 g0 0 0,.d (Goal.mk kind re k fw next).d,i64 i,.d (cM c)] (bS g0 t most F st) λv s=>v=bV b/\s=bS g0 t most F st':=by
 unfold yS at hr;rw[ap hm]at hr;by_cases c1:st.steps<0\/10000000000000<st.steps
 ·rw[be c1]at hr;cases hr
 rw[ap c1]at hr;have cI:=λext=>H4 g0 t most F st (by omega) (by omega) ext;generalize st.step F=s1 at *;unfold bS dt at cI;simp only[i64,bV,iD,afQ,afS]at cI;simp only at hr;by_cases he:s1.empty=true
 ·rw[be he]at hr;simp only[afY,agx]at hr;obtain⟨rfl,rfl⟩:=hr;unfold bS dt;refine an func80 rfl ntmps80 results80 rfl 3 32527 (by simp) (by simp) ?_;simp only[zX,simprocAttr,i64,bV,Goal.bW,iD,bD,hm];refine ao (cI _) (λv s' hv=>?_);obtain⟨rfl,rfl⟩:=hv;simp only[zX,simprocAttr,i64,bV,iD,bD,he,af4,aga];exact aQ _ _
 have he:s1.empty=false:=by simpa using he
 rw[he]at hr;simp only[age,if_false]at hr;cases hk:re.kids with
 |nil=>rw[hk]at hr;cases hr
 |cons kid l =>
  rw[hk]at hr;have eL:re.kids[0]?=some kid:=by rw[hk];rfl
  have rT:(0:Int)<(re.kids.length:Int):=by rw[hk,afZ];omega
  clear hk;simp only at hr;by_cases c2:k<re.mn
  ·rw[be c2]at hr;have hc:=λext=>fM (ih g0 _ _ _ _ _ hr) ext;unfold fl eB bS dt at hc;simp only[Goal.bW,i64,iD,bD,bV,afQ,afS]at hc;simp only[he]at hc;by_cases hM:re.mx=-1\/k<re.mx
   ·
    by_cases m1:re.mx=-1
    ·have d1:decide (re.mx=-1)=true:=bi m1;unfold bS dt;refine an func80 rfl ntmps80 results80 rfl 3 32527 (by simp) (by simp) ?_;simp only[zX,simprocAttr,i64,bV,Goal.bW,iD,bD,hm];refine ao (cI _) (λv s' hv=>?_);obtain⟨rfl,rfl⟩:=hv;simp only[zX,simprocAttr,i64,bV,iD,bD,he,af4,aga];refine ar mix [] [] (by rfl) ?_;simp only[zX,simprocAttr,i64,bV,iD,bD,d1];refine aS (bO.trans bO.bf bO.bf) ?_;refine ar mix [] [(15,[4],[4]),(17,[5],[5])] (by rfl) ?_;simp only[zX,simprocAttr,i64,bV,iD,bD,hole,eL,rT,ai kid,Re.ae kid];refine ar mix [] [] (by rfl) ?_;simp only[zX,simprocAttr,i64,bV,iD,bD,c2,c2];refine bc [4,5] (by simp [bE,bM,ba.go,ba,cj]) (ao (hc _) (λv s' hv=>?_));obtain⟨rfl,rfl⟩:=hv;simp only[zX,simprocAttr,i64,bV,iD,bD];exact aQ _ _
    ·have d1:decide (re.mx=-1)=false:=b6 m1;have m2:k<re.mx:=hM.resolve_left m1;unfold bS dt;refine an func80 rfl ntmps80 results80 rfl 3 32527 (by simp) (by simp) ?_;simp only[zX,simprocAttr,i64,bV,Goal.bW,iD,bD,hm];refine ao (cI _) (λv s' hv=>?_);obtain⟨rfl,rfl⟩:=hv;simp only[zX,simprocAttr,i64,bV,iD,bD,he,af4,aga];refine ar mix [] [] (by rfl) ?_;simp only[zX,simprocAttr,i64,bV,iD,bD,d1,m2];refine aS (bO.trans bO.bf bO.bf) ?_;refine ar mix [] [(15,[4],[4]),(17,[5],[5])] (by rfl) ?_;simp only[zX,simprocAttr,i64,bV,iD,bD,hole,eL,rT,ai kid,Re.ae kid];refine ar mix [] [] (by rfl) ?_;simp only[zX,simprocAttr,i64,bV,iD,bD,c2,c2];refine bc [4,5] (by simp [bE,bM,ba.go,ba,cj]) (ao (hc _) (λv s' hv=>?_));obtain⟨rfl,rfl⟩:=hv;simp only[zX,simprocAttr,i64,bV,iD,bD];exact aQ _ _
   ·
    have d1:decide (re.mx=-1)=false:=b6 (λh=>hM (.inl h));have m2:¬k<re.mx:=λh=>hM (.inr h);unfold bS dt;refine an func80 rfl ntmps80 results80 rfl 3 32527 (by simp) (by simp) ?_;simp only[zX,simprocAttr,i64,bV,Goal.bW,iD,bD,hm];refine ao (cI _) (λv s' hv=>?_);obtain⟨rfl,rfl⟩:=hv;simp only[zX,simprocAttr,i64,bV,iD,bD,he,af4,aga];refine ar mix [] [] (by rfl) ?_;simp only[zX,simprocAttr,i64,bV,iD,bD,d1,m2];refine aS (bO.trans bO.bf bO.bf) ?_;refine ar mix [] [(15,[4],[4]),(17,[5],[5])] (by rfl) ?_;simp only[zX,simprocAttr,i64,bV,iD,bD,hole,eL,rT,ai kid,Re.ae kid];refine ar mix [] [] (by rfl) ?_;simp only[zX,simprocAttr,i64,bV,iD,bD,c2,c2];refine bc [4,5] (by simp [bE,bM,ba.go,ba,cj]) (ao (hc _) (λv s' hv=>?_));obtain⟨rfl,rfl⟩:=hv;simp only[zX,simprocAttr,i64,bV,iD,bD];exact aQ _ _
  rw[ap c2]at hr;by_cases m3:re.mode=1
  ·have d3:decide (re.mode=1)=true:=bi m3;rw[be m3]at hr;cases hx:gT t F n most (.run next i c) s1 with
   |none=>rw[hx]at hr;cases hr
   |some x =>
    obtain⟨b1,s2⟩:=x;rw[hx]at hr;have h1:=λext=>fM (ih g0 _ _ _ _ _ hx) ext;unfold fl eB bS dt at h1;simp only[Goal.bW,i64,iD,bD,bV,afQ,afS]at h1;simp only[he]at h1;by_cases hM:re.mx=-1\/k<re.mx
    ·simp only[be hM]at hr;cases b1 with
     |true =>
      simp only[J6,afY,agx]at hr;obtain⟨rfl,rfl⟩:=hr;by_cases m1:re.mx=-1
      ·have d1:decide (re.mx=-1)=true:=bi m1;unfold bS dt;refine an func80 rfl ntmps80 results80 rfl 3 32527 (by simp) (by simp) ?_;simp only[zX,simprocAttr,i64,bV,Goal.bW,iD,bD,hm];refine ao (cI _) (λv s' hv=>?_);obtain⟨rfl,rfl⟩:=hv;simp only[zX,simprocAttr,i64,bV,iD,bD,he,af4,aga];refine ar mix [] [] (by rfl) ?_;simp only[zX,simprocAttr,i64,bV,iD,bD,d1];refine aS (bO.trans bO.bf bO.bf) ?_;refine ar mix [] [(15,[4],[4]),(17,[5],[5])] (by rfl) ?_;simp only[zX,simprocAttr,i64,bV,iD,bD,hole,eL,rT,ai kid,Re.ae kid];refine ar mix [] [] (by rfl) ?_;simp only[zX,simprocAttr,i64,bV,iD,bD,c2,d3];refine ao (h1 _) (λv s' hv=>?_);obtain⟨rfl,rfl⟩:=hv;simp only[zX,simprocAttr,i64,bV,iD,bD];exact aQ _ _
      ·have d1:decide (re.mx=-1)=false:=b6 m1;have m2:k<re.mx:=hM.resolve_left m1;unfold bS dt;refine an func80 rfl ntmps80 results80 rfl 3 32527 (by simp) (by simp) ?_;simp only[zX,simprocAttr,i64,bV,Goal.bW,iD,bD,hm];refine ao (cI _) (λv s' hv=>?_);obtain⟨rfl,rfl⟩:=hv;simp only[zX,simprocAttr,i64,bV,iD,bD,he,af4,aga];refine ar mix [] [] (by rfl) ?_;simp only[zX,simprocAttr,i64,bV,iD,bD,d1,m2];refine aS (bO.trans bO.bf bO.bf) ?_;refine ar mix [] [(15,[4],[4]),(17,[5],[5])] (by rfl) ?_;simp only[zX,simprocAttr,i64,bV,iD,bD,hole,eL,rT,ai kid,Re.ae kid];refine ar mix [] [] (by rfl) ?_;simp only[zX,simprocAttr,i64,bV,iD,bD,c2,d3];refine ao (h1 _) (λv s' hv=>?_);obtain⟨rfl,rfl⟩:=hv;simp only[zX,simprocAttr,i64,bV,iD,bD];exact aQ _ _
     |false =>
      simp only[J6]at hr;have hc:=λext=>fM (ih g0 _ _ _ _ _ hr) ext;unfold fl eB bS dt at hc;simp only[Goal.bW,i64,iD,bD,bV,afQ,afS]at hc;by_cases m1:re.mx=-1
      ·have d1:decide (re.mx=-1)=true:=bi m1;unfold bS dt;refine an func80 rfl ntmps80 results80 rfl 3 32527 (by simp) (by simp) ?_;simp only[zX,simprocAttr,i64,bV,Goal.bW,iD,bD,hm];refine ao (cI _) (λv s' hv=>?_);obtain⟨rfl,rfl⟩:=hv;simp only[zX,simprocAttr,i64,bV,iD,bD,he,af4,aga];refine ar mix [] [] (by rfl) ?_;simp only[zX,simprocAttr,i64,bV,iD,bD,d1];refine aS (bO.trans bO.bf bO.bf) ?_;refine ar mix [] [(15,[4],[4]),(17,[5],[5])] (by rfl) ?_;simp only[zX,simprocAttr,i64,bV,iD,bD,hole,eL,rT,ai kid,Re.ae kid];refine ar mix [] [] (by rfl) ?_;simp only[zX,simprocAttr,i64,bV,iD,bD,c2,d3];refine ao (h1 _) (λv s' hv=>?_);obtain⟨rfl,rfl⟩:=hv;simp only[zX,simprocAttr,i64,bV,iD,bD];refine bc [4,5] (by simp [bE,bM,ba.go,ba,cj]) (ao (hc _) (λv s' hv=>?_));obtain⟨rfl,rfl⟩:=hv;simp only[zX,simprocAttr,i64,bV,iD,bD];exact aQ _ _
      ·have d1:decide (re.mx=-1)=false:=b6 m1;have m2:k<re.mx:=hM.resolve_left m1;unfold bS dt;refine an func80 rfl ntmps80 results80 rfl 3 32527 (by simp) (by simp) ?_;simp only[zX,simprocAttr,i64,bV,Goal.bW,iD,bD,hm];refine ao (cI _) (λv s' hv=>?_);obtain⟨rfl,rfl⟩:=hv;simp only[zX,simprocAttr,i64,bV,iD,bD,he,af4,aga];refine ar mix [] [] (by rfl) ?_;simp only[zX,simprocAttr,i64,bV,iD,bD,d1,m2];refine aS (bO.trans bO.bf bO.bf) ?_;refine ar mix [] [(15,[4],[4]),(17,[5],[5])] (by rfl) ?_;simp only[zX,simprocAttr,i64,bV,iD,bD,hole,eL,rT,ai kid,Re.ae kid];refine ar mix [] [] (by rfl) ?_;simp only[zX,simprocAttr,i64,bV,iD,bD,c2,d3];refine ao (h1 _) (λv s' hv=>?_);obtain⟨rfl,rfl⟩:=hv;simp only[zX,simprocAttr,i64,bV,iD,bD];refine bc [4,5] (by simp [bE,bM,ba.go,ba,cj]) (ao (hc _) (λv s' hv=>?_));obtain⟨rfl,rfl⟩:=hv;simp only[zX,simprocAttr,i64,bV,iD,bD];exact aQ _ _
    ·simp only[ap hM]at hr;cases b1 with
     |true =>
      simp only[J6,afY,agx]at hr;obtain⟨rfl,rfl⟩:=hr;have d1:decide (re.mx=-1)=false:=b6 (λh=>hM (.inl h));have m2:¬k<re.mx:=λh=>hM (.inr h);unfold bS dt;refine an func80 rfl ntmps80 results80 rfl 3 32527 (by simp) (by simp) ?_;simp only[zX,simprocAttr,i64,bV,Goal.bW,iD,bD,hm];refine ao (cI _) (λv s' hv=>?_);obtain⟨rfl,rfl⟩:=hv;simp only[zX,simprocAttr,i64,bV,iD,bD,he,af4,aga];refine ar mix [] [] (by rfl) ?_;simp only[zX,simprocAttr,i64,bV,iD,bD,d1,m2];refine aS (bO.trans bO.bf bO.bf) ?_;refine ar mix [] [(15,[4],[4]),(17,[5],[5])] (by rfl) ?_;simp only[zX,simprocAttr,i64,bV,iD,bD,hole,eL,rT,ai kid,Re.ae kid];refine ar mix [] [] (by rfl) ?_;simp only[zX,simprocAttr,i64,bV,iD,bD,c2,d3];refine ao (h1 _) (λv s' hv=>?_);obtain⟨rfl,rfl⟩:=hv;simp only[zX,simprocAttr,i64,bV,iD,bD];exact aQ _ _
     |false =>
      simp only[J6,afY,agx]at hr;obtain⟨rfl,rfl⟩:=hr;have d1:decide (re.mx=-1)=false:=b6 (λh=>hM (.inl h));have m2:¬k<re.mx:=λh=>hM (.inr h);unfold bS dt;refine an func80 rfl ntmps80 results80 rfl 3 32527 (by simp) (by simp) ?_;simp only[zX,simprocAttr,i64,bV,Goal.bW,iD,bD,hm];refine ao (cI _) (λv s' hv=>?_);obtain⟨rfl,rfl⟩:=hv;simp only[zX,simprocAttr,i64,bV,iD,bD,he,af4,aga];refine ar mix [] [] (by rfl) ?_;simp only[zX,simprocAttr,i64,bV,iD,bD,d1,m2];refine aS (bO.trans bO.bf bO.bf) ?_;refine ar mix [] [(15,[4],[4]),(17,[5],[5])] (by rfl) ?_;simp only[zX,simprocAttr,i64,bV,iD,bD,hole,eL,rT,ai kid,Re.ae kid];refine ar mix [] [] (by rfl) ?_;simp only[zX,simprocAttr,i64,bV,iD,bD,c2,d3];refine ao (h1 _) (λv s' hv=>?_);obtain⟨rfl,rfl⟩:=hv;simp only[zX,simprocAttr,i64,bV,iD,bD];exact aQ _ _
  ·have d3:decide (re.mode=1)=false:=b6 m3;rw[ap m3]at hr;by_cases hM:re.mx=-1\/k<re.mx
   ·simp only[be hM]at hr;cases hx:gT t F n most (.run (.mk 0 kid 0 0 (.mk 2 re k i next)) i c) s1 with
    |none=>rw[hx]at hr;cases hr
    |some x =>
     obtain⟨b1,s2⟩:=x;rw[hx]at hr;have h1:=λext=>fM (ih g0 _ _ _ _ _ hx) ext;unfold fl eB bS dt at h1;simp only[Goal.bW,i64,iD,bD,bV,afQ,afS]at h1;simp only[he]at h1;cases b1 with
     |true =>
      simp only[J6,afY,agx]at hr;obtain⟨rfl,rfl⟩:=hr;by_cases m1:re.mx=-1
      ·have d1:decide (re.mx=-1)=true:=bi m1;unfold bS dt;refine an func80 rfl ntmps80 results80 rfl 3 32527 (by simp) (by simp) ?_;simp only[zX,simprocAttr,i64,bV,Goal.bW,iD,bD,hm];refine ao (cI _) (λv s' hv=>?_);obtain⟨rfl,rfl⟩:=hv;simp only[zX,simprocAttr,i64,bV,iD,bD,he,af4,aga];refine ar mix [] [] (by rfl) ?_;simp only[zX,simprocAttr,i64,bV,iD,bD,d1];refine aS (bO.trans bO.bf bO.bf) ?_;refine ar mix [] [(15,[4],[4]),(17,[5],[5])] (by rfl) ?_;simp only[zX,simprocAttr,i64,bV,iD,bD,hole,eL,rT,ai kid,Re.ae kid];refine ar mix [] [] (by rfl) ?_;simp only[zX,simprocAttr,i64,bV,iD,bD,c2,d3];refine bc [4,5] (by simp [bE,bM,ba.go,ba,cj]) (ao (h1 _) (λv s' hv=>?_));obtain⟨rfl,rfl⟩:=hv;simp only[zX,simprocAttr,i64,bV,iD,bD];exact aQ _ _
      ·have d1:decide (re.mx=-1)=false:=b6 m1;have m2:k<re.mx:=hM.resolve_left m1;unfold bS dt;refine an func80 rfl ntmps80 results80 rfl 3 32527 (by simp) (by simp) ?_;simp only[zX,simprocAttr,i64,bV,Goal.bW,iD,bD,hm];refine ao (cI _) (λv s' hv=>?_);obtain⟨rfl,rfl⟩:=hv;simp only[zX,simprocAttr,i64,bV,iD,bD,he,af4,aga];refine ar mix [] [] (by rfl) ?_;simp only[zX,simprocAttr,i64,bV,iD,bD,d1,m2];refine aS (bO.trans bO.bf bO.bf) ?_;refine ar mix [] [(15,[4],[4]),(17,[5],[5])] (by rfl) ?_;simp only[zX,simprocAttr,i64,bV,iD,bD,hole,eL,rT,ai kid,Re.ae kid];refine ar mix [] [] (by rfl) ?_;simp only[zX,simprocAttr,i64,bV,iD,bD,c2,d3];refine bc [4,5] (by simp [bE,bM,ba.go,ba,cj]) (ao (h1 _) (λv s' hv=>?_));obtain⟨rfl,rfl⟩:=hv;simp only[zX,simprocAttr,i64,bV,iD,bD];exact aQ _ _
     |false =>
      simp only[J6]at hr;have hc:=λext=>fM (ih g0 _ _ _ _ _ hr) ext;unfold fl eB bS dt at hc;simp only[Goal.bW,i64,iD,bD,bV,afQ,afS]at hc;by_cases m1:re.mx=-1
      ·have d1:decide (re.mx=-1)=true:=bi m1;unfold bS dt;refine an func80 rfl ntmps80 results80 rfl 3 32527 (by simp) (by simp) ?_;simp only[zX,simprocAttr,i64,bV,Goal.bW,iD,bD,hm];refine ao (cI _) (λv s' hv=>?_);obtain⟨rfl,rfl⟩:=hv;simp only[zX,simprocAttr,i64,bV,iD,bD,he,af4,aga];refine ar mix [] [] (by rfl) ?_;simp only[zX,simprocAttr,i64,bV,iD,bD,d1];refine aS (bO.trans bO.bf bO.bf) ?_;refine ar mix [] [(15,[4],[4]),(17,[5],[5])] (by rfl) ?_;simp only[zX,simprocAttr,i64,bV,iD,bD,hole,eL,rT,ai kid,Re.ae kid];refine ar mix [] [] (by rfl) ?_;simp only[zX,simprocAttr,i64,bV,iD,bD,c2,d3];refine bc [4,5] (by simp [bE,bM,ba.go,ba,cj]) (ao (h1 _) (λv s' hv=>?_));obtain⟨rfl,rfl⟩:=hv;simp only[zX,simprocAttr,i64,bV,iD,bD];refine ao (hc _) (λv s' hv=>?_);obtain⟨rfl,rfl⟩:=hv;simp only[zX,simprocAttr,i64,bV,iD,bD];exact aQ _ _
      ·have d1:decide (re.mx=-1)=false:=b6 m1;have m2:k<re.mx:=hM.resolve_left m1;unfold bS dt;refine an func80 rfl ntmps80 results80 rfl 3 32527 (by simp) (by simp) ?_;simp only[zX,simprocAttr,i64,bV,Goal.bW,iD,bD,hm];refine ao (cI _) (λv s' hv=>?_);obtain⟨rfl,rfl⟩:=hv;simp only[zX,simprocAttr,i64,bV,iD,bD,he,af4,aga];refine ar mix [] [] (by rfl) ?_;simp only[zX,simprocAttr,i64,bV,iD,bD,d1,m2];refine aS (bO.trans bO.bf bO.bf) ?_;refine ar mix [] [(15,[4],[4]),(17,[5],[5])] (by rfl) ?_;simp only[zX,simprocAttr,i64,bV,iD,bD,hole,eL,rT,ai kid,Re.ae kid];refine ar mix [] [] (by rfl) ?_;simp only[zX,simprocAttr,i64,bV,iD,bD,c2,d3];refine bc [4,5] (by simp [bE,bM,ba.go,ba,cj]) (ao (h1 _) (λv s' hv=>?_));obtain⟨rfl,rfl⟩:=hv;simp only[zX,simprocAttr,i64,bV,iD,bD];refine ao (hc _) (λv s' hv=>?_);obtain⟨rfl,rfl⟩:=hv;simp only[zX,simprocAttr,i64,bV,iD,bD];exact aQ _ _
   ·simp only[ap hM,J6]at hr;have hc:=λext=>fM (ih g0 _ _ _ _ _ hr) ext;unfold fl eB bS dt at hc;simp only[Goal.bW,i64,iD,bD,bV,afQ,afS]at hc;simp only[he]at hc;have d1:decide (re.mx=-1)=false:=b6 (λh=>hM (.inl h));have m2:¬k<re.mx:=λh=>hM (.inr h);unfold bS dt;refine an func80 rfl ntmps80 results80 rfl 3 32527 (by simp) (by simp) ?_;simp only[zX,simprocAttr,i64,bV,Goal.bW,iD,bD,hm];refine ao (cI _) (λv s' hv=>?_);obtain⟨rfl,rfl⟩:=hv;simp only[zX,simprocAttr,i64,bV,iD,bD,he,af4,aga];refine ar mix [] [] (by rfl) ?_;simp only[zX,simprocAttr,i64,bV,iD,bD,d1,m2];refine aS (bO.trans bO.bf bO.bf) ?_;refine ar mix [] [(15,[4],[4]),(17,[5],[5])] (by rfl) ?_;simp only[zX,simprocAttr,i64,bV,iD,bD,hole,eL,rT,ai kid,Re.ae kid];refine ar mix [] [] (by rfl) ?_;simp only[zX,simprocAttr,i64,bV,iD,bD,c2,d3];refine ao (hc _) (λv s' hv=>?_);obtain⟨rfl,rfl⟩:=hv;simp only[zX,simprocAttr,i64,bV,iD,bD];exact aQ _ _
end Go.Proofs.Ytfmdmlfhigocaaa
