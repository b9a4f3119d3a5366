/- A part of the proof (G6 G7 G8). -/
import Derived.Test.YtfmdmlfhigocaaaOR16
set_option linter.unusedSimpArgs false
set_option linter.unusedVariables false
open Nat renaming reduceAdd → fi
set_option maxRecDepth 100000
set_option maxHeartbeats 80000000
namespace Go.Proofs.Ytfmdmlfhigocaaa
open Go.VL Go.Proofs.Try
variable{g0:Nat}{st':bh}{F:Int}{most:Int}{st:bh}{t:List Int}{b:Bool}{r:Option (Int×aD)}{n:Nat}{g:Goal}{i:Int}{c:aD}{kind:Int}{next:Goal}{re:Re}{k:Int}{fH:Int}
def fS:Task->FuncId
 |.run _ _ _=>50
 |.rep _ _ _=>80
 |.node _ _ _=>82
def ff (g0:Nat):Task->List V
 |.run g i c=>[.rf 0 g0 0 0,.d g.d,i64 i,.d (df c)]
 |.rep g i c=>[.rf 0 g0 0 0,.d g.d,i64 i,.d (df c)]
 |.node g i c=>[.rf 0 g0 0 0,.d g.d,i64 i,.d (df c)]
def lH (t:List Int) (F:Int) (n:Nat):Prop:=∀g0 most task st b st',fV t F n most task st=some (b,st')->az prog (fS task) (ff g0 task) (cb g0 t most F st) λv s=>v=bV b/\s=cb g0 t most F st'
theorem H9 {α:Type} (ρ:List Nat) (g:Nat) (lv:Bool) (z:Nat) (l:List α) (f:α->D):bf ρ ⟨g,lv,z,l.map λx=>[V.d (f x)]⟩=⟨g,lv,z,l.map λx=>[V.d (f x)]⟩:=by simp only[bf,ajL];congr 1
theorem OX (g0:Nat) (t:List Int) (most F:Int) (st:bh):bf [0,1,2] (dL g0 t most F st)=dL g0 t most F st:=rfl
theorem aR (l1:List Int) (l2:List aD):(((l1.map λx=>[V.d (D.sc (Value.int IntKind.i64 x))]).all λe=>e.all (ak 3))&&((l2.map λc=>[V.d (df c)]).all λe=>e.all (ak 3)))=true:=by rw[aji];exact⟨u6 l1 iD 3,u6 l2 df 3⟩
theorem Goal.cj (kind:Int) (re:Re) (k fH:Int) (next:Goal):(Goal.mk kind re k fH next).d=.el [iD kind,iD re.op,.sl (re.set.map aU),.sl (re.kids.map Re.cells),iD re.mn,iD re.mx,iD re.mode,iD re.n,bD re.neg,iD k,iD fH,next.d]:=by rw[Goal.d,Re.ah];rfl
theorem Ac {f:FuncId}{cargs:List V}{b:V}{ext:List VL.Obj}{K:V->List VL.Obj->Prop}
  (h:az prog f cargs (cb g0 t most F st) λv s=>v=b/\s=cb g0 t most F st') (ha:cargs.map (aS [0,1,2])=cargs) (F6:ak.go 3 cargs=true) (hb:aS [0,1,2] b=b) (hk:K b (cb g0 t most F st'++ext)) :
  az prog f cargs (cb g0 t most F st++ext) K:=by
 refine ew [0,1,2] h aJ rfl ?_ ha.symm F6 ?_ hb ?_
 ·unfold cb;simp only[aiZ,ai2,aiX,ai0,ajv,ajJ,OX,H9]
 ·unfold cb dL;simp only[ajS,ajV,bc,u6];simp [ak,ak.go,i64,bV]
 ·have:aO (cb g0 t most F st++ext) [0,1,2] ((cb g0 t most F st').map (bf [0,1,2]))=cb g0 t most F st'++ext:=by unfold cb;simp only[aiZ,ai2,aiX,ai0,OX,H9,aO,aju,ajw]
  rw[this];exact hk
theorem JL (g0:Nat) (task:Task):(ff g0 task).map (aS [0,1,2])=ff g0 task:=by cases task <;> rfl
theorem Gy (g0:Nat) (task:Task):ak.go 3 (ff g0 task)=true:=by cases task <;> rfl
theorem gE{task:Task} (h:az prog (fS task) (ff g0 task) (cb g0 t most F st) λv s=>v=bV b/\s=cb g0 t most F st') (ext:List VL.Obj) :
  az prog (fS task) (ff g0 task) (cb g0 t most F st++ext) λv s=>v=bV b/\s=cb g0 t most F st'++ext:=Ac h (JL g0 _) (Gy g0 _) rfl ⟨rfl,rfl⟩
def mg:Option (Int×aD)->V
 |none=>.tu [i64 0,.d (.sl []),bV false]
 |some (e,d)=>.tu [i64 e,.d (df d),bV true]
theorem KM (ih:lH t F n) (hr:cF (fV t F n) g i c st=some (r,st')) :
  az prog 100 [.rf 0 g0 0 0,.d g.d,i64 i,.d (df c)] (cb g0 t most F st) λv s=>v=mg r/\s=cb g0 t most F st':=by
 unfold cF at hr;cases hx:fV t F n 1 (.run g i c) ⟨st.steps,false,[],[]⟩ with
 |none=>rw[hx]at hr;cases hr
 |some bx =>
  obtain⟨b,x⟩:=bx;rw[hx]at hr;simp only at hr;have eZ:=ih 1 _ _ _ _ _ hx;unfold cb dL fS ff at eZ;unfold cb dL;simp only[i64,bV]at eZ;refine bk func100 ntmps100 results100 3 3855 ?_;simp only[zI,simprocAttr,bV];refine aX ct.bt ?_;refine aA mix [] [(13,[3],[3])] aN ?_;simp only[zI,simprocAttr,bV,hole];refine jb (pre:=[.d (an t),.d (.sc (.int .i64 1)),.d (.sc (.int .i64 F)),.d (.sc (.int .i64 st.steps)),.d (.sc (.bool false))]) (post:=[.fu []]) 3 1 rfl rfl rfl ?_;simp only[ajw,aju,aiX,ai0,ai8,ai9,fi];refine jb (pre:=[.d (an t),.d (.sc (.int .i64 1)),.d (.sc (.int .i64 F)),.d (.sc (.int .i64 st.steps)),.d (.sc (.bool false)),.so 4 0 0 0]) (post:=[]) 3 1 rfl rfl rfl ?_;simp only[ajw,aju,aiX,ai0,ai8,ai9,fi];refine ew [3,4,5] eZ aJ rfl rfl rfl rfl ?_ rfl ?_
  ·rfl
  simp only[aiZ,ai2,H9,aO,aju,ajw,bf,aS,aS.go,aj2,ajW];obtain⟨xs,xe,iT,rR⟩:=x;simp only at hr;cases xe with
  |true =>
   simp only[if_true,ai5,ajE]at hr;obtain⟨rfl,rfl⟩:=hr;simp only[zI,simprocAttr,bV];exact⟨by simp only[u6,aka],rfl⟩
  |false =>
   simp only[ajf,if_false]at hr;cases iT with
   |nil =>
    simp only[ai5,ajE]at hr;obtain⟨rfl,rfl⟩:=hr;simp only[zI,simprocAttr,bV,ai9,ajn];exact⟨by simp only[u6,aka],rfl⟩
   |cons e es =>
    cases rR with
    |nil=>cases hr
    |cons d ds =>
     simp only[ai5,ajE]at hr;obtain⟨rfl,rfl⟩:=hr;have dP:¬((es.length:Int)+1=0):=ae;simp only[zI,simprocAttr,bV,ai8,aj9,Int.natCast_one,dP];refine aA mix [] [] aN ?_;simp only[aS.go,aS];simp only[zI,simprocAttr,bV,iD,ai8];refine⟨ae,ae,?_,rfl⟩;rw[aji];exact⟨u6 st.ends iD 3,u6 st.ai df 3⟩
theorem Rc (r:Option (Int×aD)):aS [0,1,2] (mg r)=mg r:=by cases r <;> rfl
theorem Bl (ih:lH t F n) (hr:cF (fV t F n) g i c st=some (r,st')) (ext:List VL.Obj) :
  az prog 100 [.rf 0 g0 0 0,.d g.d,i64 i,.d (df c)] (cb g0 t most F st++ext) λv s=>v=mg r/\s=cb g0 t most F st'++ext :=
 Ac (KM ih hr) rfl rfl (Rc r) ⟨rfl,rfl⟩
theorem KH (g0:Nat) (t:List Int) (most F:Int) (st:bh) (h0:0<=st.steps) (h1:st.steps<=10000000000000) (ext:List VL.Obj) :
  az prog 101 [.rf 0 g0 0 0] (cb g0 t most F st++ext) λv s=>v=bV (!(st.step F).empty)/\s=cb g0 t most F (st.step F)++ext :=
 Ac (Wn g0 t most F st h0 h1) rfl rfl rfl ⟨rfl,rfl⟩
theorem Vq{st:bh} (he:st.ends.length<2000000000000) (hs:st.ai.length=st.ends.length) :
  az prog 50 [.rf 0 g0 0 0,.d Goal.nil.d,i64 i,.d (df c)] (cb g0 t most F st) λv s=>v=bV (decide (0<=most)&&decide (most<=(st.ends.length:Int)+1))/\s=cb g0 t most F { st with ends:=st.ends++[i],ai:=st.ai++[c] }:=by
 obtain⟨steps,empty,ends,ai⟩:=st;simp only at he hs;have hd:Goal.nil.d=.sc (.pointer none):=rfl;have hca:(df c)=.sl (c.map aU):=rfl;have t1:(ends.map λx=>[V.d (iD x)]).take ends.length=ends.map λx=>[V.d (iD x)]:=ajb aj;have t2:(ai.map λc=>[V.d (df c)]).take ends.length=ai.map λc=>[V.d (df c)]:=ajb (by simp [hs]);unfold cb dL;simp only[hs];refine bk func50 ntmps50 results50 3 2251799813685519 ?_;simp only[zI,simprocAttr,bV,hd,iD];refine⟨⟨_,rfl⟩,aj,⟨ae,ae⟩,aj,⟨ae,ae⟩,?_⟩;simp only[iD]at t1;rw[t1,t2];have l1:(ends++[i]).length=ends.length+1:=aj;have l2:(ai++[c]).length=ends.length+1:=by simp [hs]
 have m1:(ends++[i]).map (λx=>[V.d (D.sc (Value.int .i64 x))])=ends.map (λx=>[V.d (D.sc (Value.int .i64 x))])++[[V.d (D.sc (Value.int .i64 i))]]:=aj;have m2:(ai++[c]).map (λc=>[V.d (df c)])=ai.map (λc=>[V.d (df c)])++[[V.d (df c)]]:=aj;rw[l1,l2,m1,m2];have bK:(((ends.map (λx=>[V.d (D.sc (Value.int .i64 x))])++[[V.d (D.sc (Value.int .i64 i))]]).all λe=>e.all (ak 3))&&((ai.map (λc=>[V.d (df c)])++[[V.d (df c)]]).all λe=>e.all (ak 3)))=true:=by rw[<- m1,<- m2];exact aR _ _
 generalize ends.map (λx=>[V.d (D.sc (Value.int .i64 x))])++[[V.d (D.sc (Value.int .i64 i))]]=E1 at *;generalize ai.map (λc=>[V.d (df c)])++[[V.d (df c)]]=C1 at *;refine aA mix [] [] aN ?_;by_cases q:0<=most
 ·simp only[zI,simprocAttr,bV,iD,ge_iff_le,q,decide_true,ake,aj9,Int.natCast_one];exact bK
 ·simp only[zI,simprocAttr,bV,iD,ge_iff_le,q,decide_false,Bool.false_and];exact bK
theorem run_mk (ih:lH t F n)
  (hr:bI t F (fV t F n) most (.run (.mk kind re k fH next) i c) st=some (b,st')) :
  az prog 50 [.rf 0 g0 0 0,.d (Goal.mk kind re k fH next).d,i64 i,.d (df c)] (cb g0 t most F st) λv s=>v=bV b/\s=cb g0 t most F st':=by
 simp only[bI]at hr;by_cases hi:i<0\/(t.length:Int)<i
 ·rw[be hi]at hr;cases hr
 rw[ap hi]at hr;by_cases k1:kind=1
 ·rw[be k1]at hr;have hc:=ih g0 _ _ _ _ _ hr;unfold fS ff cb dL at hc;simp only[Goal.cj,i64,iD,bD,bV]at hc;simp only[k1]at hc;unfold cb dL;refine bk func50 ntmps50 results50 3 2251799813685519 ?_;simp only[zI,simprocAttr,bV,Goal.cj,iD,bD,k1];refine⟨⟨_,rfl⟩,?_⟩
  (refine ar hc (λv s' hv=>?_);obtain⟨rfl,rfl⟩:=hv)
  simp only[zI,simprocAttr,bV,iD];exact aR _ _
 rw[ap k1]at hr;by_cases k2:kind=2
 ·rw[be k2]at hr;by_cases c1:re.mn<=k/\i=fH
  ·rw[be c1]at hr;simp only[ai5,ajE]at hr;obtain⟨rfl,rfl⟩:=hr;unfold cb dL;refine bk func50 ntmps50 results50 3 2251799813685519 ?_;simp only[zI,simprocAttr,bV,Goal.cj,iD,bD,k2];refine⟨⟨_,rfl⟩,?_⟩;refine aA mix [] [] aN ?_;simp only[zI,simprocAttr,bV,iD,ge_iff_le,c1.1,c1.2];exact aR _ _
  rw[ap c1]at hr;by_cases c2:k<0\/10000000000000<k
  ·rw[be c2]at hr;cases hr
  rw[ap c2]at hr;have LV:=ih g0 _ _ _ _ _ hr;have hc:∀X,az prog _ _ (cb g0 t most F st++[X]) (λv s=>v=bV b/\s=cb g0 t most F st'++[X]):=λX=>Ac LV (JL g0 _) (Gy g0 _) rfl ⟨rfl,rfl⟩;unfold fS ff cb dL at hc;simp only[Goal.cj,i64,iD,bD,bV]at hc;simp only[aiX,ai0]at hc;have w1:IntKind.i64.wrap (k+1)=k+1:=bF _ ae;unfold cb dL;refine bk func50 ntmps50 results50 3 2251799813685519 ?_;simp only[zI,simprocAttr,bV,Goal.cj,iD,bD,k2];refine⟨⟨_,rfl⟩,?_⟩;refine aA mix [] [] aN ?_;by_cases q1:re.mn<=k
  case' pos =>
   have q2:¬i=fH:=λh=>c1 ⟨q1,h⟩;simp only[zI,simprocAttr,bV,iD,ge_iff_le,q1,q2]
  case' neg =>
   simp only[zI,simprocAttr,bV,iD,ge_iff_le,q1]
  all_goals
   refine aX ct.bt ?_;refine aA mix [18] [(15,[3],[3])] aN ?_;simp only[zQ,simprocAttr,hole,w1];refine fG (bL [3] ?_ (hc _)) ?_
   ·simp [bA,bP,bm.go,bm,cR]
   ·simp only[zI,simprocAttr,bV,iD];exact aR _ _
 rw[ap k2]at hr;by_cases k3:kind=3
 ·rw[be k3]at hr;by_cases c1:1000000000<c.length
  ·rw[be c1]at hr;cases hr
  rw[ap c1]at hr;have hc:=ih g0 _ _ _ _ _ hr;unfold fS ff cb dL at hc;simp only[Goal.cj,i64,iD,bD,bV]at hc;have hw:=VY c re.n fH i ae;simp only[i64]at hw;unfold cb dL;refine bk func50 ntmps50 results50 3 2251799813685519 ?_;simp only[zI,simprocAttr,bV,Goal.cj,iD,bD,k3];refine⟨⟨_,rfl⟩,?_⟩;refine aA mix [18] [] aN ?_;simp only[zQ,simprocAttr];refine bR hw rfl rfl ?_;simp only[zQ,simprocAttr];refine fG hc ?_;simp only[zI,simprocAttr,bV,iD];exact aR _ _
 rw[ap k3]at hr;by_cases k4:kind=4
 ·rw[be k4]at hr;by_cases c1:i=fH
  ·rw[be c1]at hr;have hc:=ih g0 _ _ _ _ _ hr;unfold fS ff cb dL at hc;simp only[Goal.cj,i64,iD,bD,bV]at hc;unfold cb dL;refine bk func50 ntmps50 results50 3 2251799813685519 ?_;simp only[zI,simprocAttr,bV,Goal.cj,iD,bD,k4];refine⟨⟨_,rfl⟩,?_⟩;simp only[zQ,simprocAttr,c1];simp only[c1]at hc
   (refine ar hc (λv s' hv=>?_);obtain⟨rfl,rfl⟩:=hv)
   simp only[zI,simprocAttr,bV,iD];exact aR _ _
  ·rw[ap c1]at hr;simp only[ai5,ajE]at hr;obtain⟨rfl,rfl⟩:=hr;unfold cb dL;refine bk func50 ntmps50 results50 3 2251799813685519 ?_;simp only[zI,simprocAttr,bV,Goal.cj,iD,bD,k4,c1];exact⟨⟨_,rfl⟩,aR _ _⟩
 rw[ap k4]at hr;have hc:=ih g0 _ _ _ _ _ hr;unfold fS ff cb dL at hc;simp only[Goal.cj,i64,iD,bD,bV]at hc;unfold cb dL;refine bk func50 ntmps50 results50 3 2251799813685519 ?_;simp only[zI,simprocAttr,bV,Goal.cj,iD,bD,k1,k2,k3,k4];refine⟨⟨_,rfl⟩,?_⟩
 (refine ar hc (λv s' hv=>?_);obtain⟨rfl,rfl⟩:=hv)
 simp only[zI,simprocAttr,bV,iD];exact aR _ _
theorem SZ (ih:lH t F n) (hm:re.mode=2)
  (hr:qT F (fV t F n) most re k next i c st=some (b,st')) :
  az prog 80 [.rf 0 g0 0 0,.d (Goal.mk kind re k fH next).d,i64 i,.d (df c)] (cb g0 t most F st) λv s=>v=bV b/\s=cb g0 t most F st':=by
 unfold qT at hr;rw[be hm]at hr;cases hx:cF (fV t F n) (.mk 1 (re.eo 0) 0 0 .nil) i c st with
 |none=>rw[hx]at hr;cases hr
 |some x =>
  obtain⟨r,s1⟩:=x;rw[hx]at hr;have hf:=λext=>Bl (g0:=g0) (most:=most) ih hx ext;have F9:Goal.nil.d=.sc (.pointer none):=rfl;have e1:(re.eo 0).op=re.op/\(re.eo 0).set=re.set/\(re.eo 0).kids=re.kids/\(re.eo 0).mn=re.mn/\(re.eo 0).mx=re.mx/\(re.eo 0).mode=0/\(re.eo 0).n=re.n/\(re.eo 0).neg=re.neg:=⟨rfl,rfl,rfl,rfl,rfl,rfl,rfl,rfl⟩
  obtain⟨a1,a2,a3,a4,a5,a6,a7,a8⟩:=e1;unfold cb dL at hf;simp only[Goal.cj,F9,a1,a2,a3,a4,a5,a6,a7,a8,i64,iD,bD,bV,aiX,ai0]at hf;cases r with
  |none =>
   simp only[ai5,ajE]at hr;obtain⟨rfl,rfl⟩:=hr;unfold cb dL;refine bk func80 ntmps80 results80 3 32527 ?_;simp only[zI,simprocAttr,bV,Goal.cj,iD,bD,hm];refine bL [4] (by simp [bA,bP,bm.go,bm,cR]) (ar (hf _) (λv s' hv=>?_));obtain⟨rfl,rfl⟩:=hv;simp only[zQ,simprocAttr,mg];exact aR _ _
  |some p =>
   obtain⟨e,d⟩:=p;simp only at hr;have hc:=λext=>gE (ih g0 _ _ _ _ _ hr) ext;unfold fS ff cb dL at hc;simp only[Goal.cj,i64,iD,bD,bV,aiX,ai0]at hc;unfold cb dL;refine bk func80 ntmps80 results80 3 32527 ?_;simp only[zI,simprocAttr,bV,Goal.cj,iD,bD,hm];refine bL [4] (by simp [bA,bP,bm.go,bm,cR]) (ar (hf _) (λv s' hv=>?_));obtain⟨rfl,rfl⟩:=hv;simp only[zQ,simprocAttr,mg];refine ar (hc _) (λv s' hv=>?_);obtain⟨rfl,rfl⟩:=hv;simp only[zQ,simprocAttr];exact aR _ _
theorem RZ (ih:lH t F n) (hm:¬re.mode=2)
  (hr:qT F (fV t F n) most re k next i c st=some (b,st')) :
  az prog 80 [.rf 0 g0 0 0,.d (Goal.mk kind re k fH next).d,i64 i,.d (df c)] (cb g0 t most F st) λv s=>v=bV b/\s=cb g0 t most F st':=by
 unfold qT at hr;rw[ap hm]at hr;by_cases c1:st.steps<0\/10000000000000<st.steps
 ·rw[be c1]at hr;cases hr
 rw[ap c1]at hr;have ck:=λext=>KH g0 t most F st ae ae ext;generalize st.step F=s1 at *;unfold cb dL at ck;simp only[i64,bV,iD,aiX,ai0]at ck;simp only at hr;by_cases he:s1.empty=true
 ·rw[be he]at hr;simp only[ai5,ajE]at hr;obtain⟨rfl,rfl⟩:=hr;unfold cb dL;refine bk func80 ntmps80 results80 3 32527 ?_;simp only[zI,simprocAttr,bV,Goal.cj,iD,bD,hm];refine ar (ck _) (λv s' hv=>?_);obtain⟨rfl,rfl⟩:=hv;simp only[zQ,simprocAttr,he,ajd,aje];exact aR _ _
 have he:s1.empty=false:=by simpa using he
 rw[he]at hr;simp only[ajf,if_false]at hr;cases hk:re.kids with
 |nil=>rw[hk]at hr;cases hr
 |cons aP l =>
  rw[hk]at hr;have hk0:re.kids[0]?=some aP:=by rw[hk];rfl
  have tL:(0:Int)<(re.kids.length:Int):=by rw[hk,ai8];omega
  clear hk;simp only at hr;by_cases c2:k<re.mn
  ·rw[be c2]at hr;have hc:=λext=>gE (ih g0 _ _ _ _ _ hr) ext;unfold fS ff cb dL at hc;simp only[Goal.cj,i64,iD,bD,bV,aiX,ai0]at hc;simp only[he]at hc;by_cases hM:re.mx=-1\/k<re.mx
   ·
    by_cases m1:re.mx=-1
    ·have d1:decide (re.mx=-1)=true:=bi m1;unfold cb dL;refine bk func80 ntmps80 results80 3 32527 ?_;simp only[zI,simprocAttr,bV,Goal.cj,iD,bD,hm];refine ar (ck _) (λv s' hv=>?_);obtain⟨rfl,rfl⟩:=hv;simp only[zQ,simprocAttr,he,ajd,aje];refine aA mix [] [] aN ?_;simp only[zQ,simprocAttr,d1];refine aX (ct.trans ct.bt ct.bt) ?_;refine aA mix [] [(15,[4],[4]),(17,[5],[5])] aN ?_;simp only[zQ,simprocAttr,hole,hk0,tL,aq aP,Re.ah aP];refine aA mix [] [] aN ?_;simp only[zQ,simprocAttr,c2,c2];refine bL [4,5] (by simp [bA,bP,bm.go,bm,cR]) (ar (hc _) (λv s' hv=>?_));obtain⟨rfl,rfl⟩:=hv;simp only[zQ,simprocAttr];exact aR _ _
    ·have d1:decide (re.mx=-1)=false:=ce m1;have m2:k<re.mx:=hM.resolve_left m1;unfold cb dL;refine bk func80 ntmps80 results80 3 32527 ?_;simp only[zI,simprocAttr,bV,Goal.cj,iD,bD,hm];refine ar (ck _) (λv s' hv=>?_);obtain⟨rfl,rfl⟩:=hv;simp only[zQ,simprocAttr,he,ajd,aje];refine aA mix [] [] aN ?_;simp only[zQ,simprocAttr,d1,m2];refine aX (ct.trans ct.bt ct.bt) ?_;refine aA mix [] [(15,[4],[4]),(17,[5],[5])] aN ?_;simp only[zQ,simprocAttr,hole,hk0,tL,aq aP,Re.ah aP];refine aA mix [] [] aN ?_;simp only[zQ,simprocAttr,c2,c2];refine bL [4,5] (by simp [bA,bP,bm.go,bm,cR]) (ar (hc _) (λv s' hv=>?_));obtain⟨rfl,rfl⟩:=hv;simp only[zQ,simprocAttr];exact aR _ _
   ·
    have d1:decide (re.mx=-1)=false:=ce (λh=>hM (.inl h));have m2:¬k<re.mx:=λh=>hM (.inr h);unfold cb dL;refine bk func80 ntmps80 results80 3 32527 ?_;simp only[zI,simprocAttr,bV,Goal.cj,iD,bD,hm];refine ar (ck _) (λv s' hv=>?_);obtain⟨rfl,rfl⟩:=hv;simp only[zQ,simprocAttr,he,ajd,aje];refine aA mix [] [] aN ?_;simp only[zQ,simprocAttr,d1,m2];refine aX (ct.trans ct.bt ct.bt) ?_;refine aA mix [] [(15,[4],[4]),(17,[5],[5])] aN ?_;simp only[zQ,simprocAttr,hole,hk0,tL,aq aP,Re.ah aP];refine aA mix [] [] aN ?_;simp only[zQ,simprocAttr,c2,c2];refine bL [4,5] (by simp [bA,bP,bm.go,bm,cR]) (ar (hc _) (λv s' hv=>?_));obtain⟨rfl,rfl⟩:=hv;simp only[zQ,simprocAttr];exact aR _ _
  rw[ap c2]at hr;by_cases m3:re.mode=1
  ·have d3:decide (re.mode=1)=true:=bi m3;rw[be m3]at hr;cases hx:fV t F n most (.run next i c) s1 with
   |none=>rw[hx]at hr;cases hr
   |some x =>
    obtain⟨b1,s2⟩:=x;rw[hx]at hr;have h1:=λext=>gE (ih g0 _ _ _ _ _ hx) ext;unfold fS ff cb dL at h1;simp only[Goal.cj,i64,iD,bD,bV,aiX,ai0]at h1;simp only[he]at h1;by_cases hM:re.mx=-1\/k<re.mx
    ·simp only[be hM]at hr;cases b1 with
     |true =>
      simp only[rS,ai5,ajE]at hr;obtain⟨rfl,rfl⟩:=hr;by_cases m1:re.mx=-1
      ·have d1:decide (re.mx=-1)=true:=bi m1;unfold cb dL;refine bk func80 ntmps80 results80 3 32527 ?_;simp only[zI,simprocAttr,bV,Goal.cj,iD,bD,hm];refine ar (ck _) (λv s' hv=>?_);obtain⟨rfl,rfl⟩:=hv;simp only[zQ,simprocAttr,he,ajd,aje];refine aA mix [] [] aN ?_;simp only[zQ,simprocAttr,d1];refine aX (ct.trans ct.bt ct.bt) ?_;refine aA mix [] [(15,[4],[4]),(17,[5],[5])] aN ?_;simp only[zQ,simprocAttr,hole,hk0,tL,aq aP,Re.ah aP];refine aA mix [] [] aN ?_;simp only[zQ,simprocAttr,c2,d3];refine ar (h1 _) (λv s' hv=>?_);obtain⟨rfl,rfl⟩:=hv;simp only[zQ,simprocAttr];exact aR _ _
      ·have d1:decide (re.mx=-1)=false:=ce m1;have m2:k<re.mx:=hM.resolve_left m1;unfold cb dL;refine bk func80 ntmps80 results80 3 32527 ?_;simp only[zI,simprocAttr,bV,Goal.cj,iD,bD,hm];refine ar (ck _) (λv s' hv=>?_);obtain⟨rfl,rfl⟩:=hv;simp only[zQ,simprocAttr,he,ajd,aje];refine aA mix [] [] aN ?_;simp only[zQ,simprocAttr,d1,m2];refine aX (ct.trans ct.bt ct.bt) ?_;refine aA mix [] [(15,[4],[4]),(17,[5],[5])] aN ?_;simp only[zQ,simprocAttr,hole,hk0,tL,aq aP,Re.ah aP];refine aA mix [] [] aN ?_;simp only[zQ,simprocAttr,c2,d3];refine ar (h1 _) (λv s' hv=>?_);obtain⟨rfl,rfl⟩:=hv;simp only[zQ,simprocAttr];exact aR _ _
     |false =>
      simp only[rS]at hr;have hc:=λext=>gE (ih g0 _ _ _ _ _ hr) ext;unfold fS ff cb dL at hc;simp only[Goal.cj,i64,iD,bD,bV,aiX,ai0]at hc;by_cases m1:re.mx=-1
      ·have d1:decide (re.mx=-1)=true:=bi m1;unfold cb dL;refine bk func80 ntmps80 results80 3 32527 ?_;simp only[zI,simprocAttr,bV,Goal.cj,iD,bD,hm];refine ar (ck _) (λv s' hv=>?_);obtain⟨rfl,rfl⟩:=hv;simp only[zQ,simprocAttr,he,ajd,aje];refine aA mix [] [] aN ?_;simp only[zQ,simprocAttr,d1];refine aX (ct.trans ct.bt ct.bt) ?_;refine aA mix [] [(15,[4],[4]),(17,[5],[5])] aN ?_;simp only[zQ,simprocAttr,hole,hk0,tL,aq aP,Re.ah aP];refine aA mix [] [] aN ?_;simp only[zQ,simprocAttr,c2,d3];refine ar (h1 _) (λv s' hv=>?_);obtain⟨rfl,rfl⟩:=hv;simp only[zQ,simprocAttr];refine bL [4,5] (by simp [bA,bP,bm.go,bm,cR]) (ar (hc _) (λv s' hv=>?_));obtain⟨rfl,rfl⟩:=hv;simp only[zQ,simprocAttr];exact aR _ _
      ·have d1:decide (re.mx=-1)=false:=ce m1;have m2:k<re.mx:=hM.resolve_left m1;unfold cb dL;refine bk func80 ntmps80 results80 3 32527 ?_;simp only[zI,simprocAttr,bV,Goal.cj,iD,bD,hm];refine ar (ck _) (λv s' hv=>?_);obtain⟨rfl,rfl⟩:=hv;simp only[zQ,simprocAttr,he,ajd,aje];refine aA mix [] [] aN ?_;simp only[zQ,simprocAttr,d1,m2];refine aX (ct.trans ct.bt ct.bt) ?_;refine aA mix [] [(15,[4],[4]),(17,[5],[5])] aN ?_;simp only[zQ,simprocAttr,hole,hk0,tL,aq aP,Re.ah aP];refine aA mix [] [] aN ?_;simp only[zQ,simprocAttr,c2,d3];refine ar (h1 _) (λv s' hv=>?_);obtain⟨rfl,rfl⟩:=hv;simp only[zQ,simprocAttr];refine bL [4,5] (by simp [bA,bP,bm.go,bm,cR]) (ar (hc _) (λv s' hv=>?_));obtain⟨rfl,rfl⟩:=hv;simp only[zQ,simprocAttr];exact aR _ _
    ·simp only[ap hM]at hr;cases b1 with
     |true =>
      simp only[rS,ai5,ajE]at hr;obtain⟨rfl,rfl⟩:=hr;have d1:decide (re.mx=-1)=false:=ce (λh=>hM (.inl h));have m2:¬k<re.mx:=λh=>hM (.inr h);unfold cb dL;refine bk func80 ntmps80 results80 3 32527 ?_;simp only[zI,simprocAttr,bV,Goal.cj,iD,bD,hm];refine ar (ck _) (λv s' hv=>?_);obtain⟨rfl,rfl⟩:=hv;simp only[zQ,simprocAttr,he,ajd,aje];refine aA mix [] [] aN ?_;simp only[zQ,simprocAttr,d1,m2];refine aX (ct.trans ct.bt ct.bt) ?_;refine aA mix [] [(15,[4],[4]),(17,[5],[5])] aN ?_;simp only[zQ,simprocAttr,hole,hk0,tL,aq aP,Re.ah aP];refine aA mix [] [] aN ?_;simp only[zQ,simprocAttr,c2,d3];refine ar (h1 _) (λv s' hv=>?_);obtain⟨rfl,rfl⟩:=hv;simp only[zQ,simprocAttr];exact aR _ _
     |false =>
      simp only[rS,ai5,ajE]at hr;obtain⟨rfl,rfl⟩:=hr;have d1:decide (re.mx=-1)=false:=ce (λh=>hM (.inl h));have m2:¬k<re.mx:=λh=>hM (.inr h);unfold cb dL;refine bk func80 ntmps80 results80 3 32527 ?_;simp only[zI,simprocAttr,bV,Goal.cj,iD,bD,hm];refine ar (ck _) (λv s' hv=>?_);obtain⟨rfl,rfl⟩:=hv;simp only[zQ,simprocAttr,he,ajd,aje];refine aA mix [] [] aN ?_;simp only[zQ,simprocAttr,d1,m2];refine aX (ct.trans ct.bt ct.bt) ?_;refine aA mix [] [(15,[4],[4]),(17,[5],[5])] aN ?_;simp only[zQ,simprocAttr,hole,hk0,tL,aq aP,Re.ah aP];refine aA mix [] [] aN ?_;simp only[zQ,simprocAttr,c2,d3];refine ar (h1 _) (λv s' hv=>?_);obtain⟨rfl,rfl⟩:=hv;simp only[zQ,simprocAttr];exact aR _ _
  ·have d3:decide (re.mode=1)=false:=ce m3;rw[ap m3]at hr;by_cases hM:re.mx=-1\/k<re.mx
   ·simp only[be hM]at hr;cases hx:fV t F n most (.run (.mk 0 aP 0 0 (.mk 2 re k i next)) i c) s1 with
    |none=>rw[hx]at hr;cases hr
    |some x =>
     obtain⟨b1,s2⟩:=x;rw[hx]at hr;have h1:=λext=>gE (ih g0 _ _ _ _ _ hx) ext;unfold fS ff cb dL at h1;simp only[Goal.cj,i64,iD,bD,bV,aiX,ai0]at h1;simp only[he]at h1;cases b1 with
     |true =>
      simp only[rS,ai5,ajE]at hr;obtain⟨rfl,rfl⟩:=hr;by_cases m1:re.mx=-1
      ·have d1:decide (re.mx=-1)=true:=bi m1;unfold cb dL;refine bk func80 ntmps80 results80 3 32527 ?_;simp only[zI,simprocAttr,bV,Goal.cj,iD,bD,hm];refine ar (ck _) (λv s' hv=>?_);obtain⟨rfl,rfl⟩:=hv;simp only[zQ,simprocAttr,he,ajd,aje];refine aA mix [] [] aN ?_;simp only[zQ,simprocAttr,d1];refine aX (ct.trans ct.bt ct.bt) ?_;refine aA mix [] [(15,[4],[4]),(17,[5],[5])] aN ?_;simp only[zQ,simprocAttr,hole,hk0,tL,aq aP,Re.ah aP];refine aA mix [] [] aN ?_;simp only[zQ,simprocAttr,c2,d3];refine bL [4,5] (by simp [bA,bP,bm.go,bm,cR]) (ar (h1 _) (λv s' hv=>?_));obtain⟨rfl,rfl⟩:=hv;simp only[zQ,simprocAttr];exact aR _ _
      ·have d1:decide (re.mx=-1)=false:=ce m1;have m2:k<re.mx:=hM.resolve_left m1;unfold cb dL;refine bk func80 ntmps80 results80 3 32527 ?_;simp only[zI,simprocAttr,bV,Goal.cj,iD,bD,hm];refine ar (ck _) (λv s' hv=>?_);obtain⟨rfl,rfl⟩:=hv;simp only[zQ,simprocAttr,he,ajd,aje];refine aA mix [] [] aN ?_;simp only[zQ,simprocAttr,d1,m2];refine aX (ct.trans ct.bt ct.bt) ?_;refine aA mix [] [(15,[4],[4]),(17,[5],[5])] aN ?_;simp only[zQ,simprocAttr,hole,hk0,tL,aq aP,Re.ah aP];refine aA mix [] [] aN ?_;simp only[zQ,simprocAttr,c2,d3];refine bL [4,5] (by simp [bA,bP,bm.go,bm,cR]) (ar (h1 _) (λv s' hv=>?_));obtain⟨rfl,rfl⟩:=hv;simp only[zQ,simprocAttr];exact aR _ _
     |false =>
      simp only[rS]at hr;have hc:=λext=>gE (ih g0 _ _ _ _ _ hr) ext;unfold fS ff cb dL at hc;simp only[Goal.cj,i64,iD,bD,bV,aiX,ai0]at hc;by_cases m1:re.mx=-1
      ·have d1:decide (re.mx=-1)=true:=bi m1;unfold cb dL;refine bk func80 ntmps80 results80 3 32527 ?_;simp only[zI,simprocAttr,bV,Goal.cj,iD,bD,hm];refine ar (ck _) (λv s' hv=>?_);obtain⟨rfl,rfl⟩:=hv;simp only[zQ,simprocAttr,he,ajd,aje];refine aA mix [] [] aN ?_;simp only[zQ,simprocAttr,d1];refine aX (ct.trans ct.bt ct.bt) ?_;refine aA mix [] [(15,[4],[4]),(17,[5],[5])] aN ?_;simp only[zQ,simprocAttr,hole,hk0,tL,aq aP,Re.ah aP];refine aA mix [] [] aN ?_;simp only[zQ,simprocAttr,c2,d3];refine bL [4,5] (by simp [bA,bP,bm.go,bm,cR]) (ar (h1 _) (λv s' hv=>?_));obtain⟨rfl,rfl⟩:=hv;simp only[zQ,simprocAttr];refine ar (hc _) (λv s' hv=>?_);obtain⟨rfl,rfl⟩:=hv;simp only[zQ,simprocAttr];exact aR _ _
      ·have d1:decide (re.mx=-1)=false:=ce m1;have m2:k<re.mx:=hM.resolve_left m1;unfold cb dL;refine bk func80 ntmps80 results80 3 32527 ?_;simp only[zI,simprocAttr,bV,Goal.cj,iD,bD,hm];refine ar (ck _) (λv s' hv=>?_);obtain⟨rfl,rfl⟩:=hv;simp only[zQ,simprocAttr,he,ajd,aje];refine aA mix [] [] aN ?_;simp only[zQ,simprocAttr,d1,m2];refine aX (ct.trans ct.bt ct.bt) ?_;refine aA mix [] [(15,[4],[4]),(17,[5],[5])] aN ?_;simp only[zQ,simprocAttr,hole,hk0,tL,aq aP,Re.ah aP];refine aA mix [] [] aN ?_;simp only[zQ,simprocAttr,c2,d3];refine bL [4,5] (by simp [bA,bP,bm.go,bm,cR]) (ar (h1 _) (λv s' hv=>?_));obtain⟨rfl,rfl⟩:=hv;simp only[zQ,simprocAttr];refine ar (hc _) (λv s' hv=>?_);obtain⟨rfl,rfl⟩:=hv;simp only[zQ,simprocAttr];exact aR _ _
   ·simp only[ap hM,rS]at hr;have hc:=λext=>gE (ih g0 _ _ _ _ _ hr) ext;unfold fS ff cb dL at hc;simp only[Goal.cj,i64,iD,bD,bV,aiX,ai0]at hc;simp only[he]at hc;have d1:decide (re.mx=-1)=false:=ce (λh=>hM (.inl h));have m2:¬k<re.mx:=λh=>hM (.inr h);unfold cb dL;refine bk func80 ntmps80 results80 3 32527 ?_;simp only[zI,simprocAttr,bV,Goal.cj,iD,bD,hm];refine ar (ck _) (λv s' hv=>?_);obtain⟨rfl,rfl⟩:=hv;simp only[zQ,simprocAttr,he,ajd,aje];refine aA mix [] [] aN ?_;simp only[zQ,simprocAttr,d1,m2];refine aX (ct.trans ct.bt ct.bt) ?_;refine aA mix [] [(15,[4],[4]),(17,[5],[5])] aN ?_;simp only[zQ,simprocAttr,hole,hk0,tL,aq aP,Re.ah aP];refine aA mix [] [] aN ?_;simp only[zQ,simprocAttr,c2,d3];refine ar (hc _) (λv s' hv=>?_);obtain⟨rfl,rfl⟩:=hv;simp only[zQ,simprocAttr];exact aR _ _
end Go.Proofs.Ytfmdmlfhigocaaa
