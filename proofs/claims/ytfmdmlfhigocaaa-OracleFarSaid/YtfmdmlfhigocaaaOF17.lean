/- A part of the proof (G6 G7). -/
import Derived.Test.YtfmdmlfhigocaaaOF16
set_option linter.unusedSimpArgs false
set_option linter.unusedVariables false
set_option maxRecDepth 100000
set_option maxHeartbeats 80000000
namespace Go.Proofs.Ytfmdmlfhigocaaa
open Go.VL Go.Proofs.Try
def ey:Task->FuncId
 |.run _ _ _=>50
 |.rep _ _ _=>80
 |.node _ _ _=>82
def dL (g0:Nat):Task->List V
 |.run g i c=>[.rf 0 g0 0 0,.d g.d,i64 i,.d (cy c)]
 |.rep g i c=>[.rf 0 g0 0 0,.d g.d,i64 i,.d (cy c)]
 |.node g i c=>[.rf 0 g0 0 0,.d g.d,i64 i,.d (cy c)]
def ja (t:List Int) (F:Int) (n:Nat):Prop:=∀g0 most task st b st',fG t F n most task st=some (b,st')->aq prog (ey task) (dL g0 task) (bF g0 t most F st) fun v s=>v=bV b/\s=bF g0 t most F st'
theorem Bz {α:Type} (ρ:List Nat) (g:Nat) (lv:Bool) (z:Nat) (l:List α) (f:α->D):aP ρ ⟨g,lv,z,l.map fun x=>[V.d (f x)]⟩=⟨g,lv,z,l.map fun x=>[V.d (f x)]⟩:=by
 simp only[aP,List.map_map]
 congr 1
theorem Hr (g0:Nat) (t:List Int) (most F:Int) (st:bq):aP [0,1,2] (cW g0 t most F st)=cW g0 t most F st:=rfl
theorem aI (l1:List Int) (l2:List aE):(((l1.map fun x=>[V.d (D.sc (Value.int IntKind.i64 x))]).all fun e=>e.all (ah 3))&&((l2.map fun c=>[V.d (cy c)]).all fun e=>e.all (ah 3)))=true:=by
 rw[Bool.and_eq_true]
 exact⟨qd l1 iD 3,qd l2 cy 3⟩
theorem Goal.bN (kind:Int) (re:Re) (k eA:Int) (next:Goal):(Goal.mk kind re k eA next).d=.el [iD kind,iD re.op,.sl (re.set.map aV),.sl (re.kids.map Re.cells),iD re.mn,iD re.mx,iD re.mode,iD re.n,bD re.neg,iD k,iD eA,next.d]:=by
 rw[Goal.d,Re.ae];rfl
theorem uS {f:FuncId}{g0:Nat}{cargs:List V}{t:List Int}{most F:Int}{st st':bq}{b:V}{ext:List VL.Obj}{K:V->List VL.Obj->Prop}
  (h:aq prog f cargs (bF g0 t most F st) fun v s=>v=b/\s=bF g0 t most F st') (ha:cargs.map (aJ [0,1,2])=cargs) (z8:ah.go 3 cargs=true) (hb:aJ [0,1,2] b=b) (hk:K b (bF g0 t most F st'++ext)) :
  aq prog f cargs (bF g0 t most F st++ext) K:=by
 refine dk [0,1,2] h (by decide) rfl ?_ ha.symm z8 ?_ hb ?_
 ·unfold bF
  simp only[List.map_cons,List.map_nil,List.cons_append,List.nil_append,List.getElem?_cons_zero,List.getElem?_cons_succ,Hr,Bz]
 ·unfold bF cW
  simp only[List.all_cons,List.all_nil,aQ,qd]
  simp [ah,ah.go,i64,bV]
 ·have:aH (bF g0 t most F st++ext) [0,1,2] ((bF g0 t most F st').map (aP [0,1,2]))=bF g0 t most F st'++ext:=by
   unfold bF
   simp only[List.map_cons,List.map_nil,List.cons_append,List.nil_append,Hr,Bz,aH,List.set_cons_zero,List.set_cons_succ]
  rw[this];exact hk
theorem CT (g0:Nat) (task:Task):(dL g0 task).map (aJ [0,1,2])=dL g0 task:=by cases task <;> rfl
theorem Aq (g0:Nat) (task:Task):ah.go 3 (dL g0 task)=true:=by cases task <;> rfl
theorem eG {t:List Int}{most F:Int}{g0:Nat}{task:Task}{st st':bq}{b:Bool} (h:aq prog (ey task) (dL g0 task) (bF g0 t most F st) fun v s=>v=bV b/\s=bF g0 t most F st') (ext:List VL.Obj) :
  aq prog (ey task) (dL g0 task) (bF g0 t most F st++ext) fun v s=>v=bV b/\s=bF g0 t most F st'++ext:=uS h (CT g0 _) (Aq g0 _) rfl ⟨rfl,rfl⟩
def jz:Option (Int×aE)->V
 |none=>.tu [i64 0,.d (.sl []),bV false]
 |some (e,d)=>.tu [i64 e,.d (cy d),bV true]
theorem DU {t:List Int}{F:Int}{n:Nat} (ih:ja t F n) {g0:Nat}{most:Int}{g:Goal}{i:Int}{c:aE}{st st':bq}{r:Option (Int×aE)} (hr:ff (fG t F n) g i c st=some (r,st')) :
  aq prog 100 [.rf 0 g0 0 0,.d g.d,i64 i,.d (cy c)] (bF g0 t most F st) fun v s=>v=jz r/\s=bF g0 t most F st':=by
 unfold ff at hr
 cases hx:fG t F n 1 (.run g i c) ⟨st.steps,false,[],[]⟩ with
 |none=>rw[hx]at hr;cases hr
 |some bx =>
  obtain⟨b,x⟩:=bx
  rw[hx]at hr
  simp only at hr
  have dI:=ih 1 _ _ _ _ _ hx
  unfold bF cW ey dL at dI
  unfold bF cW
  simp only[i64,bV]at dI
  refine an func100 rfl ntmps100 results100 rfl 3 3855 (by simp) (by simp) ?_
  simp only[zX,simprocAttr,i64,bV]
  refine aT bZ.bk ?_
  refine ar mix [] [(13,[3],[3])] (by rfl) ?_
  simp only[zX,simprocAttr,i64,bV,hole]
  refine fM (pre:=[.d (ao t),.d (.sc (.int .i64 1)),.d (.sc (.int .i64 F)),.d (.sc (.int .i64 st.steps)),.d (.sc (.bool false))]) (post:=[.fu []]) 3 1 rfl rfl rfl ?_
  simp only[List.set_cons_succ,List.set_cons_zero,List.cons_append,List.nil_append,List.length_cons,List.length_nil,Nat.reduceAdd]
  refine fM (pre:=[.d (ao t),.d (.sc (.int .i64 1)),.d (.sc (.int .i64 F)),.d (.sc (.int .i64 st.steps)),.d (.sc (.bool false)),.so 4 0 0 0]) (post:=[]) 3 1 rfl rfl rfl ?_
  simp only[List.set_cons_succ,List.set_cons_zero,List.cons_append,List.nil_append,List.length_cons,List.length_nil,Nat.reduceAdd]
  refine dk [3,4,5] dI (by decide) rfl rfl rfl rfl ?_ rfl ?_
  ·rfl
  simp only[List.map_cons,List.map_nil,Bz,aH,List.set_cons_zero,List.set_cons_succ,aP,aJ,aJ.go,List.getD_cons_zero,List.getD_cons_succ]
  obtain⟨xs,xe,fH,nS⟩:=x
  simp only at hr
  cases xe with
  |true =>
   simp only[if_true,Option.some.injEq,Prod.mk.injEq]at hr
   obtain⟨rfl,rfl⟩:=hr
   simp only[zX,simprocAttr,i64,bV]
   exact⟨by simp only[qd,Bool.and_self],rfl⟩
  |false =>
   simp only[Bool.false_eq_true,if_false]at hr
   cases fH with
   |nil =>
    simp only[Option.some.injEq,Prod.mk.injEq]at hr
    obtain⟨rfl,rfl⟩:=hr
    simp only[zX,simprocAttr,i64,bV,List.length_nil,Int.natCast_zero]
    exact⟨by simp only[qd,Bool.and_self],rfl⟩
   |cons e es =>
    cases nS with
    |nil=>cases hr
    |cons d ds =>
     simp only[Option.some.injEq,Prod.mk.injEq]at hr
     obtain⟨rfl,rfl⟩:=hr
     have eF:¬((es.length:Int)+1=0):=by omega
     simp only[zX,simprocAttr,i64,bV,List.length_cons,Int.natCast_add,Int.natCast_one,eF]
     refine ar mix [] [] (by rfl) ?_
     simp only[aJ.go,aJ]
     simp only[zX,simprocAttr,i64,bV,iD,List.length_cons]
     refine⟨by omega,by omega,?_,rfl⟩
     rw[Bool.and_eq_true]
     exact⟨qd st.ends iD 3,qd st.ai cy 3⟩
theorem Jp (r:Option (Int×aE)):aJ [0,1,2] (jz r)=jz r:=by cases r <;> rfl
theorem wh {t:List Int}{F:Int}{n:Nat} (ih:ja t F n) {g0:Nat}{most:Int}{g:Goal}{i:Int}{c:aE}{st st':bq}{r:Option (Int×aE)} (hr:ff (fG t F n) g i c st=some (r,st')) (ext:List VL.Obj) :
  aq prog 100 [.rf 0 g0 0 0,.d g.d,i64 i,.d (cy c)] (bF g0 t most F st++ext) fun v s=>v=jz r/\s=bF g0 t most F st'++ext :=
 uS (DU ih hr) rfl rfl (Jp r) ⟨rfl,rfl⟩
theorem DQ (g0:Nat) (t:List Int) (most F:Int) (st:bq) (h0:0<=st.steps) (h1:st.steps<=10000000000000) (ext:List VL.Obj) :
  aq prog 101 [.rf 0 g0 0 0] (bF g0 t most F st++ext) fun v s=>v=bV (!(st.step F).empty)/\s=bF g0 t most F (st.step F)++ext :=
 uS (NR g0 t most F st h0 h1) rfl rfl rfl ⟨rfl,rfl⟩
theorem M8 {t:List Int}{F:Int}{g0:Nat}{most:Int}{i:Int}{c:aE}{st:bq} (he:st.ends.length<2000000000000) (hs:st.ai.length=st.ends.length) :
  aq prog 50 [.rf 0 g0 0 0,.d Goal.nil.d,i64 i,.d (cy c)] (bF g0 t most F st) fun v s=>v=bV (decide (0<=most)&&decide (most<=(st.ends.length:Int)+1))/\s=bF g0 t most F { st with ends:=st.ends++[i],ai:=st.ai++[c] }:=by
 obtain⟨steps,empty,ends,ai⟩:=st
 simp only at he hs
 have hd:Goal.nil.d=.sc (.pointer none):=rfl
 have ZE:(cy c)=.sl (c.map aV):=rfl
 have t1:(ends.map fun x=>[V.d (iD x)]).take ends.length=ends.map fun x=>[V.d (iD x)]:=List.take_of_length_le (by simp)
 have t2:(ai.map fun c=>[V.d (cy c)]).take ends.length=ai.map fun c=>[V.d (cy c)]:=List.take_of_length_le (by simp [hs])
 unfold bF cW
 simp only[hs]
 refine an func50 rfl ntmps50 results50 rfl 3 2251799813685519 (by simp) (by simp) ?_
 simp only[zX,simprocAttr,i64,bV,hd,iD]
 refine⟨⟨_,rfl⟩,by simp,⟨by omega,by omega⟩,by simp,⟨by omega,by omega⟩,?_⟩
 simp only[iD]at t1
 rw[t1,t2]
 have l1:(ends++[i]).length=ends.length+1:=by simp
 have l2:(ai++[c]).length=ends.length+1:=by simp [hs]
 have m1:(ends++[i]).map (fun x=>[V.d (D.sc (Value.int .i64 x))])=ends.map (fun x=>[V.d (D.sc (Value.int .i64 x))])++[[V.d (D.sc (Value.int .i64 i))]]:=by simp
 have m2:(ai++[c]).map (fun c=>[V.d (cy c)])=ai.map (fun c=>[V.d (cy c)])++[[V.d (cy c)]]:=by simp
 rw[l1,l2,m1,m2]
 have bM:(((ends.map (fun x=>[V.d (D.sc (Value.int .i64 x))])++[[V.d (D.sc (Value.int .i64 i))]]).all fun e=>e.all (ah 3))&&((ai.map (fun c=>[V.d (cy c)])++[[V.d (cy c)]]).all fun e=>e.all (ah 3)))=true:=by
  rw[<- m1,<- m2];exact aI _ _
 generalize ends.map (fun x=>[V.d (D.sc (Value.int .i64 x))])++[[V.d (D.sc (Value.int .i64 i))]]=E1 at *
 generalize ai.map (fun c=>[V.d (cy c)])++[[V.d (cy c)]]=C1 at *
 refine ar mix [] [] (by rfl) ?_
 by_cases q:0<=most
 ·simp only[zX,simprocAttr,i64,bV,iD,ge_iff_le,q,decide_true,Bool.true_and,Int.natCast_add,Int.natCast_one]
  exact bM
 ·simp only[zX,simprocAttr,i64,bV,iD,ge_iff_le,q,decide_false,Bool.false_and]
  exact bM
theorem run_mk {t:List Int}{F:Int}{n:Nat} (ih:ja t F n) {g0:Nat}{most:Int}{kind:Int}{re:Re}{k eA:Int}{next:Goal}{i:Int}{c:aE}{st st':bq}{b:Bool}
  (hr:cn t F (fG t F n) most (.run (.mk kind re k eA next) i c) st=some (b,st')) :
  aq prog 50 [.rf 0 g0 0 0,.d (Goal.mk kind re k eA next).d,i64 i,.d (cy c)] (bF g0 t most F st) fun v s=>v=bV b/\s=bF g0 t most F st':=by
 simp only[cn]at hr
 by_cases hi:i<0\/(t.length:Int)<i
 ·rw[if_pos hi]at hr;cases hr
 rw[if_neg hi]at hr
 by_cases k1:kind=1
 ·rw[if_pos k1]at hr
  have hc:=ih g0 _ _ _ _ _ hr
  unfold ey dL bF cW at hc;simp only[Goal.bN,i64,iD,bD,bV]at hc
  simp only[k1]at hc
  unfold bF cW
  refine an func50 rfl ntmps50 results50 rfl 3 2251799813685519 (by simp) (by simp) ?_
  simp only[zX,simprocAttr,i64,bV,Goal.bN,iD,bD,k1]
  refine⟨⟨_,rfl⟩,?_⟩
  (refine ak hc (fun v s' hv=>?_);obtain⟨rfl,rfl⟩:=hv)
  simp only[zX,simprocAttr,i64,bV,iD]
  exact aI _ _
 rw[if_neg k1]at hr
 by_cases k2:kind=2
 ·rw[if_pos k2]at hr
  by_cases c1:re.mn<=k/\i=eA
  ·rw[if_pos c1]at hr
   simp only[Option.some.injEq,Prod.mk.injEq]at hr
   obtain⟨rfl,rfl⟩:=hr
   unfold bF cW
   refine an func50 rfl ntmps50 results50 rfl 3 2251799813685519 (by simp) (by simp) ?_
   simp only[zX,simprocAttr,i64,bV,Goal.bN,iD,bD,k2]
   refine⟨⟨_,rfl⟩,?_⟩
   refine ar mix [] [] (by rfl) ?_
   simp only[zX,simprocAttr,i64,bV,iD,ge_iff_le,c1.1,c1.2]
   exact aI _ _
  rw[if_neg c1]at hr
  by_cases c2:k<0\/10000000000000<k
  ·rw[if_pos c2]at hr;cases hr
  rw[if_neg c2]at hr
  have ME:=ih g0 _ _ _ _ _ hr
  have hc:∀X,aq prog _ _ (bF g0 t most F st++[X]) (fun v s=>v=bV b/\s=bF g0 t most F st'++[X]):=fun X=>uS ME (CT g0 _) (Aq g0 _) rfl ⟨rfl,rfl⟩
  unfold ey dL bF cW at hc;simp only[Goal.bN,i64,iD,bD,bV]at hc
  simp only[List.cons_append,List.nil_append]at hc
  have w1:IntKind.i64.wrap (k+1)=k+1:=br _ (by omega)
  unfold bF cW
  refine an func50 rfl ntmps50 results50 rfl 3 2251799813685519 (by simp) (by simp) ?_
  simp only[zX,simprocAttr,i64,bV,Goal.bN,iD,bD,k2]
  refine⟨⟨_,rfl⟩,?_⟩
  refine ar mix [] [] (by rfl) ?_
  by_cases q1:re.mn<=k
  case' pos =>
   have q2:¬i=eA:=fun h=>c1 ⟨q1,h⟩
   simp only[zX,simprocAttr,i64,bV,iD,ge_iff_le,q1,q2]
  case' neg =>
   simp only[zX,simprocAttr,i64,bV,iD,ge_iff_le,q1]
  all_goals
   refine aT bZ.bk ?_
   refine ar mix [18] [(15,[3],[3])] (by rfl) ?_
   simp only[zX,simprocAttr,i64,bV,iD,bD,hole,w1]
   refine eh (bA [3] ?_ (hc _)) ?_
   ·simp [ca,bS,bh.go,bh,cA]
   ·simp only[zX,simprocAttr,i64,bV,iD]
    exact aI _ _
 rw[if_neg k2]at hr
 by_cases k3:kind=3
 ·rw[if_pos k3]at hr
  by_cases c1:1000000000<c.length
  ·rw[if_pos c1]at hr;cases hr
  rw[if_neg c1]at hr
  have hc:=ih g0 _ _ _ _ _ hr
  unfold ey dL bF cW at hc;simp only[Goal.bN,i64,iD,bD,bV]at hc
  have hw:=Nz c re.n eA i (by omega)
  simp only[i64]at hw
  unfold bF cW
  refine an func50 rfl ntmps50 results50 rfl 3 2251799813685519 (by simp) (by simp) ?_
  simp only[zX,simprocAttr,i64,bV,Goal.bN,iD,bD,k3]
  refine⟨⟨_,rfl⟩,?_⟩
  refine ar mix [18] [] (by rfl) ?_
  simp only[zX,simprocAttr,i64,bV,iD,bD]
  refine fg hw rfl rfl ?_
  simp only[zX,simprocAttr,i64,bV,iD,bD]
  refine eh hc ?_
  simp only[zX,simprocAttr,i64,bV,iD]
  exact aI _ _
 rw[if_neg k3]at hr
 by_cases k4:kind=4
 ·rw[if_pos k4]at hr
  by_cases c1:i=eA
  ·rw[if_pos c1]at hr
   have hc:=ih g0 _ _ _ _ _ hr
   unfold ey dL bF cW at hc;simp only[Goal.bN,i64,iD,bD,bV]at hc
   unfold bF cW
   refine an func50 rfl ntmps50 results50 rfl 3 2251799813685519 (by simp) (by simp) ?_
   simp only[zX,simprocAttr,i64,bV,Goal.bN,iD,bD,k4]
   refine⟨⟨_,rfl⟩,?_⟩
   simp only[zX,simprocAttr,i64,bV,iD,bD,c1]
   simp only[c1]at hc
   (refine ak hc (fun v s' hv=>?_);obtain⟨rfl,rfl⟩:=hv)
   simp only[zX,simprocAttr,i64,bV,iD]
   exact aI _ _
  ·rw[if_neg c1]at hr
   simp only[Option.some.injEq,Prod.mk.injEq]at hr
   obtain⟨rfl,rfl⟩:=hr
   unfold bF cW
   refine an func50 rfl ntmps50 results50 rfl 3 2251799813685519 (by simp) (by simp) ?_
   simp only[zX,simprocAttr,i64,bV,Goal.bN,iD,bD,k4,c1]
   exact⟨⟨_,rfl⟩,aI _ _⟩
 rw[if_neg k4]at hr
 have hc:=ih g0 _ _ _ _ _ hr
 unfold ey dL bF cW at hc;simp only[Goal.bN,i64,iD,bD,bV]at hc
 unfold bF cW
 refine an func50 rfl ntmps50 results50 rfl 3 2251799813685519 (by simp) (by simp) ?_
 simp only[zX,simprocAttr,i64,bV,Goal.bN,iD,bD,k1,k2,k3,k4]
 refine⟨⟨_,rfl⟩,?_⟩
 (refine ak hc (fun v s' hv=>?_);obtain⟨rfl,rfl⟩:=hv)
 simp only[zX,simprocAttr,i64,bV,iD]
 exact aI _ _
end Go.Proofs.Ytfmdmlfhigocaaa
