/- A part of the proof (G6 G7 G8). -/
import Derived.Test.YtjjfioalgbecmaaGreatOQ16
set_option linter.unusedSimpArgs false
set_option linter.unusedVariables false
open Nat renaming reduceAdd → oW
set_option maxRecDepth 100000
set_option maxHeartbeats 80000000
namespace Go.Proofs.YtjjfioalgbecmaaGreat
open Go.VL Go.Proofs.Tryz
variable{st:bO}{g0:Nat}{F:Int}{most:Int}{st':bO}{t:List Int}{b:Bool}{c:aH}{r:Option (Int×aH)}{n:Nat}{g:Goal}{i:Int}{kind:Int}{bZ:Int}{re:Re}{k:Int}{next:Goal}
def fv:Task->FuncId
 |.run _ _ _=>90
 |.rep _ _ _=>114
 |.node _ _ _=>116
def eP (g0:Nat):Task->List V
 |.run g i c=>[.rf 0 g0 0 0,.d g.d,i64 i,.d (cQ c)]
 |.rep g i c=>[.rf 0 g0 0 0,.d g.d,i64 i,.d (cQ c)]
 |.node g i c=>[.rf 0 g0 0 0,.d g.d,i64 i,.d (cQ c)]
def kK (t:List Int) (F:Int) (n:Nat):Prop:=∀g0 most task st b st',iw t F n most task st=some (b,st')->ar prog (fv task) (eP g0 task) (bY g0 t most F st) λv s=>v=bV b/\s=bY g0 t most F st'
theorem Hx {α:Type} (ρ:List Nat) (g:Nat) (lv:Bool) (z:Nat) (l:List α) (f:α->D):aN ρ ⟨g,lv,z,l.map λx=>[V.d (f x)]⟩=⟨g,lv,z,l.map λx=>[V.d (f x)]⟩:=by simp only[aN,akq];congr 1
theorem Ob (g0:Nat) (t:List Int) (most F:Int) (st:bO):aN [0,1,2] (dB g0 t most F st)=dB g0 t most F st:=rfl
theorem aP (l1:List Int) (l2:List aH):(((l1.map λx=>[V.d (D.sc (Value.int IntKind.i64 x))]).all λe=>e.all (aj 3))&&((l2.map λc=>[V.d (cQ c)]).all λe=>e.all (aj 3)))=true:=by rw[aj5];exact⟨tM l1 iD 3,tM l2 cQ 3⟩
theorem Goal.b9 (kind:Int) (re:Re) (k bZ:Int) (next:Goal):(Goal.mk kind re k bZ next).d=.el [iD kind,iD re.op,.sl (re.set.map aT),.sl (re.kids.map Re.cells),iD re.mn,iD re.mx,iD re.mode,iD re.n,bD re.neg,iD k,iD bZ,next.d]:=by rw[Goal.d,Re.ah];rfl
theorem yK {f:FuncId}{cargs:List V}{b:V}{ext:List VL.Obj}{K:V->List VL.Obj->Prop}
  (h:ar prog f cargs (bY g0 t most F st) λv s=>v=b/\s=bY g0 t most F st') (ha:cargs.map (aE [0,1,2])=cargs) (wY:aj.go 3 cargs=true) (hb:aE [0,1,2] b=b) (hk:K b (bY g0 t most F st'++ext)) :
  ar prog f cargs (bY g0 t most F st++ext) K:=by
 refine cV [0,1,2] h aU rfl ?_ ha.symm wY ?_ hb ?_
 ·unfold bY;simp only[ajR,ajV,ajN,ajO,List.getElem?_cons_zero,List.getElem?_cons_succ,Ob,Hx]
 ·unfold bY dB;simp only[aks,akB,aK,tM];simp [aj,aj.go,i64,bV]
 ·have:aJ (bY g0 t most F st++ext) [0,1,2] ((bY g0 t most F st').map (aN [0,1,2]))=bY g0 t most F st'++ext:=by unfold bY;simp only[ajR,ajV,ajN,ajO,Ob,Hx,aJ,aj9,akf]
  rw[this];exact hk
theorem I8 (g0:Nat) (task:Task):(eP g0 task).map (aE [0,1,2])=eP g0 task:=by cases task <;> rfl
theorem FR (g0:Nat) (task:Task):aj.go 3 (eP g0 task)=true:=by cases task <;> rfl
theorem fI{task:Task} (h:ar prog (fv task) (eP g0 task) (bY g0 t most F st) λv s=>v=bV b/\s=bY g0 t most F st') (ext:List VL.Obj) :
  ar prog (fv task) (eP g0 task) (bY g0 t most F st++ext) λv s=>v=bV b/\s=bY g0 t most F st'++ext:=yK h (I8 g0 _) (FR g0 _) rfl ⟨rfl,rfl⟩
def lC:Option (Int×aH)->V
 |none=>.tu [i64 0,.d (.sl []),bV false]
 |some (e,d)=>.tu [i64 e,.d (cQ d),bV true]
theorem J6 (ih:kK t F n) (hr:gv (iw t F n) g i c st=some (r,st')) :
  ar prog 127 [.rf 0 g0 0 0,.d g.d,i64 i,.d (cQ c)] (bY g0 t most F st) λv s=>v=lC r/\s=bY g0 t most F st':=by
 unfold gv at hr;cases hx:iw t F n 1 (.run g i c) ⟨st.steps,false,[],[]⟩ with
 |none=>rw[hx]at hr;cases hr
 |some bx =>
  obtain⟨b,x⟩:=bx;rw[hx]at hr;simp only at hr;have dZ:=ih 1 _ _ _ _ _ hx;unfold bY dB fv eP at dZ;unfold bY dB;simp only[i64,bV]at dZ;refine bo func127 ntmps127 results127 3 3855 ?_;simp only[zI,simprocAttr,bV];refine aX bW.bn ?_;refine cu mix [] [(13,[3],[3])] ?_;simp only[zI,simprocAttr,bV,hole];refine fX (pre:=[.d (ao t),.d (.sc (.int .i64 1)),.d (.sc (.int .i64 F)),.d (.sc (.int .i64 st.steps)),.d (.sc (.bool false))]) (post:=[.fu []]) 3 1 rfl rfl rfl ?_;simp only[akf,aj9,ajN,ajO,ajW,ajX,oW];refine fX (pre:=[.d (ao t),.d (.sc (.int .i64 1)),.d (.sc (.int .i64 F)),.d (.sc (.int .i64 st.steps)),.d (.sc (.bool false)),.so 4 0 0 0]) (post:=[]) 3 1 rfl rfl rfl ?_;simp only[akf,aj9,ajN,ajO,ajW,ajX,oW];refine cV [3,4,5] dZ aU rfl rfl rfl rfl ?_ rfl ?_
  ·rfl
  simp only[ajR,ajV,Hx,aJ,aj9,akf,aN,aE,aE.go,akM,akN];obtain⟨xs,xe,iy,qN⟩:=x;simp only at hr;cases xe with
  |true =>
   simp only[if_true,ajU,akn]at hr;obtain⟨rfl,rfl⟩:=hr;simp only[zI,simprocAttr,bV];exact⟨by simp only[tM,akV],rfl⟩
  |false =>
   simp only[ajY,if_false]at hr;cases iy with
   |nil =>
    simp only[ajU,akn]at hr;obtain⟨rfl,rfl⟩:=hr;simp only[zI,simprocAttr,bV,ajX,aka];exact⟨by simp only[tM,akV],rfl⟩
   |cons e es =>
    cases qN with
    |nil=>cases hr
    |cons d ds =>
     simp only[ajU,akn]at hr;obtain⟨rfl,rfl⟩:=hr;have eU:¬((es.length:Int)+1=0):=ae;simp only[zI,simprocAttr,bV,ajW,akC,Int.natCast_one,eU];refine cu mix [] [] ?_;simp only[aE.go,aE];simp only[zI,simprocAttr,bV,iD,ajW];refine⟨ae,ae,?_,rfl⟩;rw[aj5];exact⟨tM st.ends iD 3,tM st.ai cQ 3⟩
theorem Qz (r:Option (Int×aH)):aE [0,1,2] (lC r)=lC r:=by cases r <;> rfl
theorem Am (ih:kK t F n) (hr:gv (iw t F n) g i c st=some (r,st')) (ext:List VL.Obj) :
  ar prog 127 [.rf 0 g0 0 0,.d g.d,i64 i,.d (cQ c)] (bY g0 t most F st++ext) λv s=>v=lC r/\s=bY g0 t most F st'++ext :=
 yK (J6 ih hr) rfl rfl (Qz r) ⟨rfl,rfl⟩
theorem JZ (g0:Nat) (t:List Int) (most F:Int) (st:bO) (h0:0<=st.steps) (h1:st.steps<=10000000000000) (ext:List VL.Obj) :
  ar prog 128 [.rf 0 g0 0 0] (bY g0 t most F st++ext) λv s=>v=bV (!(st.step F).empty)/\s=bY g0 t most F (st.step F)++ext :=
 yK (WI g0 t most F st h0 h1) rfl rfl rfl ⟨rfl,rfl⟩
theorem Vy{st:bO} (he:st.ends.length<2000000000000) (hs:st.ai.length=st.ends.length) :
  ar prog 90 [.rf 0 g0 0 0,.d Goal.nil.d,i64 i,.d (cQ c)] (bY g0 t most F st) λv s=>v=bV (decide (0<=most)&&decide (most<=(st.ends.length:Int)+1))/\s=bY g0 t most F { st with ends:=st.ends++[i],ai:=st.ai++[c] }:=by
 obtain⟨steps,empty,ends,ai⟩:=st;simp only at he hs;have hd:Goal.nil.d=.sc (.pointer none):=rfl;have hca:(cQ c)=.sl (c.map aT):=rfl;have t1:(ends.map λx=>[V.d (iD x)]).take ends.length=ends.map λx=>[V.d (iD x)]:=akb ak;have t2:(ai.map λc=>[V.d (cQ c)]).take ends.length=ai.map λc=>[V.d (cQ c)]:=akb (by simp [hs]);unfold bY dB;simp only[hs];refine bo func90 ntmps90 results90 3 2251799813685519 ?_;simp only[zI,simprocAttr,bV,hd,iD];refine⟨⟨_,rfl⟩,ak,⟨ae,ae⟩,ak,⟨ae,ae⟩,?_⟩;simp only[iD]at t1;rw[t1,t2];have l1:(ends++[i]).length=ends.length+1:=ak;have l2:(ai++[c]).length=ends.length+1:=by simp [hs]
 have m1:(ends++[i]).map (λx=>[V.d (D.sc (Value.int .i64 x))])=ends.map (λx=>[V.d (D.sc (Value.int .i64 x))])++[[V.d (D.sc (Value.int .i64 i))]]:=ak;have m2:(ai++[c]).map (λc=>[V.d (cQ c)])=ai.map (λc=>[V.d (cQ c)])++[[V.d (cQ c)]]:=ak;rw[l1,l2,m1,m2];have bX:(((ends.map (λx=>[V.d (D.sc (Value.int .i64 x))])++[[V.d (D.sc (Value.int .i64 i))]]).all λe=>e.all (aj 3))&&((ai.map (λc=>[V.d (cQ c)])++[[V.d (cQ c)]]).all λe=>e.all (aj 3)))=true:=by rw[<- m1,<- m2];exact aP _ _
 generalize ends.map (λx=>[V.d (D.sc (Value.int .i64 x))])++[[V.d (D.sc (Value.int .i64 i))]]=E1 at *;generalize ai.map (λc=>[V.d (cQ c)])++[[V.d (cQ c)]]=C1 at *;refine cu mix [] [] ?_;by_cases q:0<=most
 ·simp only[zI,simprocAttr,bV,iD,ge_iff_le,q,decide_true,ak5,akC,Int.natCast_one];exact bX
 ·simp only[zI,simprocAttr,bV,iD,ge_iff_le,q,decide_false,Bool.false_and];exact bX
theorem run_mk (ih:kK t F n)
  (hr:cM t F (iw t F n) most (.run (.mk kind re k bZ next) i c) st=some (b,st')) :
  ar prog 90 [.rf 0 g0 0 0,.d (Goal.mk kind re k bZ next).d,i64 i,.d (cQ c)] (bY g0 t most F st) λv s=>v=bV b/\s=bY g0 t most F st':=by
 simp only[cM]at hr;by_cases hi:i<0\/(t.length:Int)<i
 ·rw[be hi]at hr;cases hr
 rw[ap hi]at hr;by_cases k1:kind=1
 ·rw[be k1]at hr;have hc:=ih g0 _ _ _ _ _ hr;unfold fv eP bY dB at hc;simp only[Goal.b9,i64,iD,bD,bV]at hc;simp only[k1]at hc;unfold bY dB;refine bo func90 ntmps90 results90 3 2251799813685519 ?_;simp only[zI,simprocAttr,bV,Goal.b9,iD,bD,k1];refine⟨⟨_,rfl⟩,?_⟩
  (refine an hc (λv s' hv=>?_);obtain⟨rfl,rfl⟩:=hv)
  simp only[zI,simprocAttr,bV,iD];exact aP _ _
 rw[ap k1]at hr;by_cases k2:kind=2
 ·rw[be k2]at hr;by_cases c1:re.mn<=k/\i=bZ
  ·rw[be c1]at hr;simp only[ajU,akn]at hr;obtain⟨rfl,rfl⟩:=hr;unfold bY dB;refine bo func90 ntmps90 results90 3 2251799813685519 ?_;simp only[zI,simprocAttr,bV,Goal.b9,iD,bD,k2];refine⟨⟨_,rfl⟩,?_⟩;refine cu mix [] [] ?_;simp only[zI,simprocAttr,bV,iD,ge_iff_le,c1.1,c1.2];exact aP _ _
  rw[ap c1]at hr;by_cases c2:k<0\/10000000000000<k
  ·rw[be c2]at hr;cases hr
  rw[ap c2]at hr;have OX:=ih g0 _ _ _ _ _ hr;have hc:∀X,ar prog _ _ (bY g0 t most F st++[X]) (λv s=>v=bV b/\s=bY g0 t most F st'++[X]):=λX=>yK OX (I8 g0 _) (FR g0 _) rfl ⟨rfl,rfl⟩;unfold fv eP bY dB at hc;simp only[Goal.b9,i64,iD,bD,bV]at hc;simp only[ajN,ajO]at hc;have w1:IntKind.i64.wrap (k+1)=k+1:=bG _ ae;unfold bY dB;refine bo func90 ntmps90 results90 3 2251799813685519 ?_;simp only[zI,simprocAttr,bV,Goal.b9,iD,bD,k2];refine⟨⟨_,rfl⟩,?_⟩;refine cu mix [] [] ?_;by_cases q1:re.mn<=k
  case' pos =>
   have q2:¬i=bZ:=λh=>c1 ⟨q1,h⟩;simp only[zI,simprocAttr,bV,iD,ge_iff_le,q1,q2]
  case' neg =>
   simp only[zI,simprocAttr,bV,iD,ge_iff_le,q1]
  all_goals
   refine aX bW.bn ?_;refine cu mix [18] [(15,[3],[3])] ?_;simp only[zQ,simprocAttr,hole,w1];refine ct (bE [3] ?_ (hc _)) ?_
   ·simp [br,ck,bc.go,bc,cT]
   ·simp only[zI,simprocAttr,bV,iD];exact aP _ _
 rw[ap k2]at hr;by_cases k3:kind=3
 ·rw[be k3]at hr;by_cases c1:1000000000<c.length
  ·rw[be c1]at hr;cases hr
  rw[ap c1]at hr;have hc:=ih g0 _ _ _ _ _ hr;unfold fv eP bY dB at hc;simp only[Goal.b9,i64,iD,bD,bV]at hc;have hw:=Wi c re.n bZ i ae;simp only[i64]at hw;unfold bY dB;refine bo func90 ntmps90 results90 3 2251799813685519 ?_;simp only[zI,simprocAttr,bV,Goal.b9,iD,bD,k3];refine⟨⟨_,rfl⟩,?_⟩;refine cu mix [18] [] ?_;simp only[zQ,simprocAttr];refine Fk hw ?_;simp only[zQ,simprocAttr];refine ct hc ?_;simp only[zI,simprocAttr,bV,iD];exact aP _ _
 rw[ap k3]at hr;by_cases k4:kind=4
 ·rw[be k4]at hr;by_cases c1:i=bZ
  ·rw[be c1]at hr;have hc:=ih g0 _ _ _ _ _ hr;unfold fv eP bY dB at hc;simp only[Goal.b9,i64,iD,bD,bV]at hc;unfold bY dB;refine bo func90 ntmps90 results90 3 2251799813685519 ?_;simp only[zI,simprocAttr,bV,Goal.b9,iD,bD,k4];refine⟨⟨_,rfl⟩,?_⟩;simp only[zQ,simprocAttr,c1];simp only[c1]at hc
   (refine an hc (λv s' hv=>?_);obtain⟨rfl,rfl⟩:=hv)
   simp only[zI,simprocAttr,bV,iD];exact aP _ _
  ·rw[ap c1]at hr;simp only[ajU,akn]at hr;obtain⟨rfl,rfl⟩:=hr;unfold bY dB;refine bo func90 ntmps90 results90 3 2251799813685519 ?_;simp only[zI,simprocAttr,bV,Goal.b9,iD,bD,k4,c1];exact⟨⟨_,rfl⟩,aP _ _⟩
 rw[ap k4]at hr;have hc:=ih g0 _ _ _ _ _ hr;unfold fv eP bY dB at hc;simp only[Goal.b9,i64,iD,bD,bV]at hc;unfold bY dB;refine bo func90 ntmps90 results90 3 2251799813685519 ?_;simp only[zI,simprocAttr,bV,Goal.b9,iD,bD,k1,k2,k3,k4];refine⟨⟨_,rfl⟩,?_⟩
 (refine an hc (λv s' hv=>?_);obtain⟨rfl,rfl⟩:=hv)
 simp only[zI,simprocAttr,bV,iD];exact aP _ _
theorem SK (ih:kK t F n) (hm:re.mode=2)
  (hr:zx F (iw t F n) most re k next i c st=some (b,st')) :
  ar prog 114 [.rf 0 g0 0 0,.d (Goal.mk kind re k bZ next).d,i64 i,.d (cQ c)] (bY g0 t most F st) λv s=>v=bV b/\s=bY g0 t most F st':=by
 unfold zx at hr;rw[be hm]at hr;cases hx:gv (iw t F n) (.mk 1 (re.fo 0) 0 0 .nil) i c st with
 |none=>rw[hx]at hr;cases hr
 |some x =>
  obtain⟨r,s1⟩:=x;rw[hx]at hr;have hf:=λext=>Am (g0:=g0) (most:=most) ih hx ext;have By:Goal.nil.d=.sc (.pointer none):=rfl;have e1:(re.fo 0).op=re.op/\(re.fo 0).set=re.set/\(re.fo 0).kids=re.kids/\(re.fo 0).mn=re.mn/\(re.fo 0).mx=re.mx/\(re.fo 0).mode=0/\(re.fo 0).n=re.n/\(re.fo 0).neg=re.neg:=⟨rfl,rfl,rfl,rfl,rfl,rfl,rfl,rfl⟩
  obtain⟨a1,a2,a3,a4,a5,a6,a7,a8⟩:=e1;unfold bY dB at hf;simp only[Goal.b9,By,a1,a2,a3,a4,a5,a6,a7,a8,i64,iD,bD,bV,ajN,ajO]at hf;cases r with
  |none =>
   simp only[ajU,akn]at hr;obtain⟨rfl,rfl⟩:=hr;unfold bY dB;refine bo func114 ntmps114 results114 3 32527 ?_;simp only[zI,simprocAttr,bV,Goal.b9,iD,bD,hm];refine bE [4] (by simp [br,ck,bc.go,bc,cT]) (an (hf _) (λv s' hv=>?_));obtain⟨rfl,rfl⟩:=hv;simp only[zQ,simprocAttr,lC];exact aP _ _
  |some p =>
   obtain⟨e,d⟩:=p;simp only at hr;have hc:=λext=>fI (ih g0 _ _ _ _ _ hr) ext;unfold fv eP bY dB at hc;simp only[Goal.b9,i64,iD,bD,bV,ajN,ajO]at hc;unfold bY dB;refine bo func114 ntmps114 results114 3 32527 ?_;simp only[zI,simprocAttr,bV,Goal.b9,iD,bD,hm];refine bE [4] (by simp [br,ck,bc.go,bc,cT]) (an (hf _) (λv s' hv=>?_));obtain⟨rfl,rfl⟩:=hv;simp only[zQ,simprocAttr,lC];refine an (hc _) (λv s' hv=>?_);obtain⟨rfl,rfl⟩:=hv;simp only[zQ,simprocAttr];exact aP _ _
theorem Ry (ih:kK t F n) (hm:¬re.mode=2)
  (hr:zx F (iw t F n) most re k next i c st=some (b,st')) :
  ar prog 114 [.rf 0 g0 0 0,.d (Goal.mk kind re k bZ next).d,i64 i,.d (cQ c)] (bY g0 t most F st) λv s=>v=bV b/\s=bY g0 t most F st':=by
 unfold zx at hr;rw[ap hm]at hr;by_cases c1:st.steps<0\/10000000000000<st.steps
 ·rw[be c1]at hr;cases hr
 rw[ap c1]at hr;have bH:=λext=>JZ g0 t most F st ae ae ext;generalize st.step F=s1 at *;unfold bY dB at bH;simp only[i64,bV,iD,ajN,ajO]at bH;simp only at hr;by_cases he:s1.empty=true
 ·rw[be he]at hr;simp only[ajU,akn]at hr;obtain⟨rfl,rfl⟩:=hr;unfold bY dB;refine bo func114 ntmps114 results114 3 32527 ?_;simp only[zI,simprocAttr,bV,Goal.b9,iD,bD,hm];refine an (bH _) (λv s' hv=>?_);obtain⟨rfl,rfl⟩:=hv;simp only[zQ,simprocAttr,he,aj2,aj0];exact aP _ _
 have he:s1.empty=false:=by simpa using he
 rw[he]at hr;simp only[ajY,if_false]at hr;cases hk:re.kids with
 |nil=>rw[hk]at hr;cases hr
 |cons kid l =>
  rw[hk]at hr;have m7:re.kids[0]?=some kid:=by rw[hk];rfl
  have pU:(0:Int)<(re.kids.length:Int):=by rw[hk,ajW];omega
  clear hk;simp only at hr;by_cases c2:k<re.mn
  ·rw[be c2]at hr;have hc:=λext=>fI (ih g0 _ _ _ _ _ hr) ext;unfold fv eP bY dB at hc;simp only[Goal.b9,i64,iD,bD,bV,ajN,ajO]at hc;simp only[he]at hc;by_cases hM:re.mx=-1\/k<re.mx
   ·
    by_cases m1:re.mx=-1
    ·have d1:decide (re.mx=-1)=true:=bi m1;unfold bY dB;refine bo func114 ntmps114 results114 3 32527 ?_;simp only[zI,simprocAttr,bV,Goal.b9,iD,bD,hm];refine an (bH _) (λv s' hv=>?_);obtain⟨rfl,rfl⟩:=hv;simp only[zQ,simprocAttr,he,aj2,aj0];refine cu mix [] [] ?_;simp only[zQ,simprocAttr,d1];refine aX (bW.trans bW.bn bW.bn) ?_;refine cu mix [] [(15,[4],[4]),(17,[5],[5])] ?_;simp only[zQ,simprocAttr,hole,m7,pU,av kid,Re.ah kid];refine cu mix [] [] ?_;simp only[zQ,simprocAttr,c2,c2];refine bE [4,5] (by simp [br,ck,bc.go,bc,cT]) (an (hc _) (λv s' hv=>?_));obtain⟨rfl,rfl⟩:=hv;simp only[zQ,simprocAttr];exact aP _ _
    ·have d1:decide (re.mx=-1)=false:=ce m1;have m2:k<re.mx:=hM.resolve_left m1;unfold bY dB;refine bo func114 ntmps114 results114 3 32527 ?_;simp only[zI,simprocAttr,bV,Goal.b9,iD,bD,hm];refine an (bH _) (λv s' hv=>?_);obtain⟨rfl,rfl⟩:=hv;simp only[zQ,simprocAttr,he,aj2,aj0];refine cu mix [] [] ?_;simp only[zQ,simprocAttr,d1,m2];refine aX (bW.trans bW.bn bW.bn) ?_;refine cu mix [] [(15,[4],[4]),(17,[5],[5])] ?_;simp only[zQ,simprocAttr,hole,m7,pU,av kid,Re.ah kid];refine cu mix [] [] ?_;simp only[zQ,simprocAttr,c2,c2];refine bE [4,5] (by simp [br,ck,bc.go,bc,cT]) (an (hc _) (λv s' hv=>?_));obtain⟨rfl,rfl⟩:=hv;simp only[zQ,simprocAttr];exact aP _ _
   ·
    have d1:decide (re.mx=-1)=false:=ce (λh=>hM (.inl h));have m2:¬k<re.mx:=λh=>hM (.inr h);unfold bY dB;refine bo func114 ntmps114 results114 3 32527 ?_;simp only[zI,simprocAttr,bV,Goal.b9,iD,bD,hm];refine an (bH _) (λv s' hv=>?_);obtain⟨rfl,rfl⟩:=hv;simp only[zQ,simprocAttr,he,aj2,aj0];refine cu mix [] [] ?_;simp only[zQ,simprocAttr,d1,m2];refine aX (bW.trans bW.bn bW.bn) ?_;refine cu mix [] [(15,[4],[4]),(17,[5],[5])] ?_;simp only[zQ,simprocAttr,hole,m7,pU,av kid,Re.ah kid];refine cu mix [] [] ?_;simp only[zQ,simprocAttr,c2,c2];refine bE [4,5] (by simp [br,ck,bc.go,bc,cT]) (an (hc _) (λv s' hv=>?_));obtain⟨rfl,rfl⟩:=hv;simp only[zQ,simprocAttr];exact aP _ _
  rw[ap c2]at hr;by_cases m3:re.mode=1
  ·have d3:decide (re.mode=1)=true:=bi m3;rw[be m3]at hr;cases hx:iw t F n most (.run next i c) s1 with
   |none=>rw[hx]at hr;cases hr
   |some x =>
    obtain⟨b1,s2⟩:=x;rw[hx]at hr;have h1:=λext=>fI (ih g0 _ _ _ _ _ hx) ext;unfold fv eP bY dB at h1;simp only[Goal.b9,i64,iD,bD,bV,ajN,ajO]at h1;simp only[he]at h1;by_cases hM:re.mx=-1\/k<re.mx
    ·simp only[be hM]at hr;cases b1 with
     |true =>
      simp only[Ma,ajU,akn]at hr;obtain⟨rfl,rfl⟩:=hr;by_cases m1:re.mx=-1
      ·have d1:decide (re.mx=-1)=true:=bi m1;unfold bY dB;refine bo func114 ntmps114 results114 3 32527 ?_;simp only[zI,simprocAttr,bV,Goal.b9,iD,bD,hm];refine an (bH _) (λv s' hv=>?_);obtain⟨rfl,rfl⟩:=hv;simp only[zQ,simprocAttr,he,aj2,aj0];refine cu mix [] [] ?_;simp only[zQ,simprocAttr,d1];refine aX (bW.trans bW.bn bW.bn) ?_;refine cu mix [] [(15,[4],[4]),(17,[5],[5])] ?_;simp only[zQ,simprocAttr,hole,m7,pU,av kid,Re.ah kid];refine cu mix [] [] ?_;simp only[zQ,simprocAttr,c2,d3];refine an (h1 _) (λv s' hv=>?_);obtain⟨rfl,rfl⟩:=hv;simp only[zQ,simprocAttr];exact aP _ _
      ·have d1:decide (re.mx=-1)=false:=ce m1;have m2:k<re.mx:=hM.resolve_left m1;unfold bY dB;refine bo func114 ntmps114 results114 3 32527 ?_;simp only[zI,simprocAttr,bV,Goal.b9,iD,bD,hm];refine an (bH _) (λv s' hv=>?_);obtain⟨rfl,rfl⟩:=hv;simp only[zQ,simprocAttr,he,aj2,aj0];refine cu mix [] [] ?_;simp only[zQ,simprocAttr,d1,m2];refine aX (bW.trans bW.bn bW.bn) ?_;refine cu mix [] [(15,[4],[4]),(17,[5],[5])] ?_;simp only[zQ,simprocAttr,hole,m7,pU,av kid,Re.ah kid];refine cu mix [] [] ?_;simp only[zQ,simprocAttr,c2,d3];refine an (h1 _) (λv s' hv=>?_);obtain⟨rfl,rfl⟩:=hv;simp only[zQ,simprocAttr];exact aP _ _
     |false =>
      simp only[Ma]at hr;have hc:=λext=>fI (ih g0 _ _ _ _ _ hr) ext;unfold fv eP bY dB at hc;simp only[Goal.b9,i64,iD,bD,bV,ajN,ajO]at hc;by_cases m1:re.mx=-1
      ·have d1:decide (re.mx=-1)=true:=bi m1;unfold bY dB;refine bo func114 ntmps114 results114 3 32527 ?_;simp only[zI,simprocAttr,bV,Goal.b9,iD,bD,hm];refine an (bH _) (λv s' hv=>?_);obtain⟨rfl,rfl⟩:=hv;simp only[zQ,simprocAttr,he,aj2,aj0];refine cu mix [] [] ?_;simp only[zQ,simprocAttr,d1];refine aX (bW.trans bW.bn bW.bn) ?_;refine cu mix [] [(15,[4],[4]),(17,[5],[5])] ?_;simp only[zQ,simprocAttr,hole,m7,pU,av kid,Re.ah kid];refine cu mix [] [] ?_;simp only[zQ,simprocAttr,c2,d3];refine an (h1 _) (λv s' hv=>?_);obtain⟨rfl,rfl⟩:=hv;simp only[zQ,simprocAttr];refine bE [4,5] (by simp [br,ck,bc.go,bc,cT]) (an (hc _) (λv s' hv=>?_));obtain⟨rfl,rfl⟩:=hv;simp only[zQ,simprocAttr];exact aP _ _
      ·have d1:decide (re.mx=-1)=false:=ce m1;have m2:k<re.mx:=hM.resolve_left m1;unfold bY dB;refine bo func114 ntmps114 results114 3 32527 ?_;simp only[zI,simprocAttr,bV,Goal.b9,iD,bD,hm];refine an (bH _) (λv s' hv=>?_);obtain⟨rfl,rfl⟩:=hv;simp only[zQ,simprocAttr,he,aj2,aj0];refine cu mix [] [] ?_;simp only[zQ,simprocAttr,d1,m2];refine aX (bW.trans bW.bn bW.bn) ?_;refine cu mix [] [(15,[4],[4]),(17,[5],[5])] ?_;simp only[zQ,simprocAttr,hole,m7,pU,av kid,Re.ah kid];refine cu mix [] [] ?_;simp only[zQ,simprocAttr,c2,d3];refine an (h1 _) (λv s' hv=>?_);obtain⟨rfl,rfl⟩:=hv;simp only[zQ,simprocAttr];refine bE [4,5] (by simp [br,ck,bc.go,bc,cT]) (an (hc _) (λv s' hv=>?_));obtain⟨rfl,rfl⟩:=hv;simp only[zQ,simprocAttr];exact aP _ _
    ·simp only[ap hM]at hr;cases b1 with
     |true =>
      simp only[Ma,ajU,akn]at hr;obtain⟨rfl,rfl⟩:=hr;have d1:decide (re.mx=-1)=false:=ce (λh=>hM (.inl h));have m2:¬k<re.mx:=λh=>hM (.inr h);unfold bY dB;refine bo func114 ntmps114 results114 3 32527 ?_;simp only[zI,simprocAttr,bV,Goal.b9,iD,bD,hm];refine an (bH _) (λv s' hv=>?_);obtain⟨rfl,rfl⟩:=hv;simp only[zQ,simprocAttr,he,aj2,aj0];refine cu mix [] [] ?_;simp only[zQ,simprocAttr,d1,m2];refine aX (bW.trans bW.bn bW.bn) ?_;refine cu mix [] [(15,[4],[4]),(17,[5],[5])] ?_;simp only[zQ,simprocAttr,hole,m7,pU,av kid,Re.ah kid];refine cu mix [] [] ?_;simp only[zQ,simprocAttr,c2,d3];refine an (h1 _) (λv s' hv=>?_);obtain⟨rfl,rfl⟩:=hv;simp only[zQ,simprocAttr];exact aP _ _
     |false =>
      simp only[Ma,ajU,akn]at hr;obtain⟨rfl,rfl⟩:=hr;have d1:decide (re.mx=-1)=false:=ce (λh=>hM (.inl h));have m2:¬k<re.mx:=λh=>hM (.inr h);unfold bY dB;refine bo func114 ntmps114 results114 3 32527 ?_;simp only[zI,simprocAttr,bV,Goal.b9,iD,bD,hm];refine an (bH _) (λv s' hv=>?_);obtain⟨rfl,rfl⟩:=hv;simp only[zQ,simprocAttr,he,aj2,aj0];refine cu mix [] [] ?_;simp only[zQ,simprocAttr,d1,m2];refine aX (bW.trans bW.bn bW.bn) ?_;refine cu mix [] [(15,[4],[4]),(17,[5],[5])] ?_;simp only[zQ,simprocAttr,hole,m7,pU,av kid,Re.ah kid];refine cu mix [] [] ?_;simp only[zQ,simprocAttr,c2,d3];refine an (h1 _) (λv s' hv=>?_);obtain⟨rfl,rfl⟩:=hv;simp only[zQ,simprocAttr];exact aP _ _
  ·have d3:decide (re.mode=1)=false:=ce m3;rw[ap m3]at hr;by_cases hM:re.mx=-1\/k<re.mx
   ·simp only[be hM]at hr;cases hx:iw t F n most (.run (.mk 0 kid 0 0 (.mk 2 re k i next)) i c) s1 with
    |none=>rw[hx]at hr;cases hr
    |some x =>
     obtain⟨b1,s2⟩:=x;rw[hx]at hr;have h1:=λext=>fI (ih g0 _ _ _ _ _ hx) ext;unfold fv eP bY dB at h1;simp only[Goal.b9,i64,iD,bD,bV,ajN,ajO]at h1;simp only[he]at h1;cases b1 with
     |true =>
      simp only[Ma,ajU,akn]at hr;obtain⟨rfl,rfl⟩:=hr;by_cases m1:re.mx=-1
      ·have d1:decide (re.mx=-1)=true:=bi m1;unfold bY dB;refine bo func114 ntmps114 results114 3 32527 ?_;simp only[zI,simprocAttr,bV,Goal.b9,iD,bD,hm];refine an (bH _) (λv s' hv=>?_);obtain⟨rfl,rfl⟩:=hv;simp only[zQ,simprocAttr,he,aj2,aj0];refine cu mix [] [] ?_;simp only[zQ,simprocAttr,d1];refine aX (bW.trans bW.bn bW.bn) ?_;refine cu mix [] [(15,[4],[4]),(17,[5],[5])] ?_;simp only[zQ,simprocAttr,hole,m7,pU,av kid,Re.ah kid];refine cu mix [] [] ?_;simp only[zQ,simprocAttr,c2,d3];refine bE [4,5] (by simp [br,ck,bc.go,bc,cT]) (an (h1 _) (λv s' hv=>?_));obtain⟨rfl,rfl⟩:=hv;simp only[zQ,simprocAttr];exact aP _ _
      ·have d1:decide (re.mx=-1)=false:=ce m1;have m2:k<re.mx:=hM.resolve_left m1;unfold bY dB;refine bo func114 ntmps114 results114 3 32527 ?_;simp only[zI,simprocAttr,bV,Goal.b9,iD,bD,hm];refine an (bH _) (λv s' hv=>?_);obtain⟨rfl,rfl⟩:=hv;simp only[zQ,simprocAttr,he,aj2,aj0];refine cu mix [] [] ?_;simp only[zQ,simprocAttr,d1,m2];refine aX (bW.trans bW.bn bW.bn) ?_;refine cu mix [] [(15,[4],[4]),(17,[5],[5])] ?_;simp only[zQ,simprocAttr,hole,m7,pU,av kid,Re.ah kid];refine cu mix [] [] ?_;simp only[zQ,simprocAttr,c2,d3];refine bE [4,5] (by simp [br,ck,bc.go,bc,cT]) (an (h1 _) (λv s' hv=>?_));obtain⟨rfl,rfl⟩:=hv;simp only[zQ,simprocAttr];exact aP _ _
     |false =>
      simp only[Ma]at hr;have hc:=λext=>fI (ih g0 _ _ _ _ _ hr) ext;unfold fv eP bY dB at hc;simp only[Goal.b9,i64,iD,bD,bV,ajN,ajO]at hc;by_cases m1:re.mx=-1
      ·have d1:decide (re.mx=-1)=true:=bi m1;unfold bY dB;refine bo func114 ntmps114 results114 3 32527 ?_;simp only[zI,simprocAttr,bV,Goal.b9,iD,bD,hm];refine an (bH _) (λv s' hv=>?_);obtain⟨rfl,rfl⟩:=hv;simp only[zQ,simprocAttr,he,aj2,aj0];refine cu mix [] [] ?_;simp only[zQ,simprocAttr,d1];refine aX (bW.trans bW.bn bW.bn) ?_;refine cu mix [] [(15,[4],[4]),(17,[5],[5])] ?_;simp only[zQ,simprocAttr,hole,m7,pU,av kid,Re.ah kid];refine cu mix [] [] ?_;simp only[zQ,simprocAttr,c2,d3];refine bE [4,5] (by simp [br,ck,bc.go,bc,cT]) (an (h1 _) (λv s' hv=>?_));obtain⟨rfl,rfl⟩:=hv;simp only[zQ,simprocAttr];refine an (hc _) (λv s' hv=>?_);obtain⟨rfl,rfl⟩:=hv;simp only[zQ,simprocAttr];exact aP _ _
      ·have d1:decide (re.mx=-1)=false:=ce m1;have m2:k<re.mx:=hM.resolve_left m1;unfold bY dB;refine bo func114 ntmps114 results114 3 32527 ?_;simp only[zI,simprocAttr,bV,Goal.b9,iD,bD,hm];refine an (bH _) (λv s' hv=>?_);obtain⟨rfl,rfl⟩:=hv;simp only[zQ,simprocAttr,he,aj2,aj0];refine cu mix [] [] ?_;simp only[zQ,simprocAttr,d1,m2];refine aX (bW.trans bW.bn bW.bn) ?_;refine cu mix [] [(15,[4],[4]),(17,[5],[5])] ?_;simp only[zQ,simprocAttr,hole,m7,pU,av kid,Re.ah kid];refine cu mix [] [] ?_;simp only[zQ,simprocAttr,c2,d3];refine bE [4,5] (by simp [br,ck,bc.go,bc,cT]) (an (h1 _) (λv s' hv=>?_));obtain⟨rfl,rfl⟩:=hv;simp only[zQ,simprocAttr];refine an (hc _) (λv s' hv=>?_);obtain⟨rfl,rfl⟩:=hv;simp only[zQ,simprocAttr];exact aP _ _
   ·simp only[ap hM,Ma]at hr;have hc:=λext=>fI (ih g0 _ _ _ _ _ hr) ext;unfold fv eP bY dB at hc;simp only[Goal.b9,i64,iD,bD,bV,ajN,ajO]at hc;simp only[he]at hc;have d1:decide (re.mx=-1)=false:=ce (λh=>hM (.inl h));have m2:¬k<re.mx:=λh=>hM (.inr h);unfold bY dB;refine bo func114 ntmps114 results114 3 32527 ?_;simp only[zI,simprocAttr,bV,Goal.b9,iD,bD,hm];refine an (bH _) (λv s' hv=>?_);obtain⟨rfl,rfl⟩:=hv;simp only[zQ,simprocAttr,he,aj2,aj0];refine cu mix [] [] ?_;simp only[zQ,simprocAttr,d1,m2];refine aX (bW.trans bW.bn bW.bn) ?_;refine cu mix [] [(15,[4],[4]),(17,[5],[5])] ?_;simp only[zQ,simprocAttr,hole,m7,pU,av kid,Re.ah kid];refine cu mix [] [] ?_;simp only[zQ,simprocAttr,c2,d3];refine an (hc _) (λv s' hv=>?_);obtain⟨rfl,rfl⟩:=hv;simp only[zQ,simprocAttr];exact aP _ _
end Go.Proofs.YtjjfioalgbecmaaGreat
