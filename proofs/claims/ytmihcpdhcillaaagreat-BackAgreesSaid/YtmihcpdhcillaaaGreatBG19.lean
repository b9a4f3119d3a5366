/- A part of the proof (G18 G19). -/
import Derived.Test.YtmihcpdhcillaaaGreatBG18
import Derived.Test.YtmihcpdhcillaaaGreatBG16
import Derived.Test.YtmihcpdhcillaaaGreatBG14
import Derived.Test.YtmihcpdhcillaaaGreatBG15
set_option linter.unusedSimpArgs false
set_option linter.unusedVariables false
set_option maxRecDepth 100000
set_option maxHeartbeats 80000000
namespace Go.Proofs.YtmihcpdhcillaaaGreat
open Go.VL Go.Proofs.Tryz
def kr (bk:Bool) (x:Int):Bool:=decide (0≤x)&&decide (x≤eG bk)
def cc (p:fj) (t:List Int) (fuel:Int):Int :=
 if df p≠0 then df p else if 65536<t.length then 4 else if t.all (kr p.bk)=false then 1 else if fuel<0∨1099511627776<fuel then 1 else 0
theorem jZ {α:Type}{P:α→Bool}{l:List α}{i:Nat}{x:α} (hx:l[i]?=some x) (h:(l.take i).all P=true) (hp:P x=true):(l.take (i+1)).all P=true:=by
 rw[List.take_add_one,hx,XI,h]
 simp [hp]
theorem all_false {α:Type}{P:α→Bool}{l:List α}{i:Nat}{x:α} (hx:l[i]?=some x) (hp:P x=false):l.all P=false:=by
 rw[Xz]
 intro h
 rw[Xn]at h
 rw[h x (W6 hx)]at hp
 cases hp
theorem uf (p:fj) (t:List Int) (fuel:Int) (hf:p.re.fA=true) (hs:p.re.size≤1000000000) (ht:t.length≤1000000000) :
  br prog 30 [cN p,.d (aB t),i64 fuel] (i64 (cc p t fuel)):=by
 have h1:=Cw p hf hs
 unfold cc
 cases p with
 |mk re ak bk =>
 simp only[cN,Re.ae re,WU,WV,WR,WS,i64,iD,bD,bV]at h1
 simp only at *
 generalize hv:df ⟨re,ak,bk⟩=v at *
 refine aw func30 rfl ntmps30 results30 rfl 0 975 (by simp) (by simp) ?_
 simp only[zX,simprocAttr,i64,cN,Re.ae re,bV,iD,bD]
 refine aD h1 (by simp [ao,ao.go,ay,i64,bV,bT]) (by simp [ao,ao.go,ay,i64,bV,bT]) ?_
 simp only[zX,simprocAttr,i64,cN,bV,iD,bD]
 by_cases c0:v=0
 case neg =>
  rw[if_pos c0]
  simp only[zX,simprocAttr,i64,cN,bV,iD,bD,c0]
 subst c0
 rw[if_neg (by omega)]
 by_cases c1:65536<t.length
 ·rw[if_pos c1]
  have Lu:(65536:Int)<t.length:=by omega
  simp only[zX,simprocAttr,i64,cN,bV,iD,bD,gt_iff_lt,Lu]
 rw[if_neg c1]
 have Lu:¬(65536:Int)<t.length:=by omega
 cases bk
 ·simp only[zX,simprocAttr,i64,cN,bV,iD,bD,gt_iff_lt,Lu]
  refine aX (fun n e s=>∃i:Nat,n=t.length-i∧i≤t.length∧e 1=.d (aB t)∧e 2=i64 fuel∧e 8=i64 (eG false)∧e 9=i64 i∧(t.take i).all (kr false)=true)
   ⟨_,_,_,dw.refl,0,rfl,by omega,rfl,rfl,rfl,rfl,by simp⟩ ?_
  rintro n e s ⟨i,rfl,hi,h1,h2,h8,h9,fM⟩
  rcases Xw i t.length with aS|lW
  ·obtain⟨x,hx⟩:∃x,t[i]?=some x:=⟨_,WZ aS⟩
   have cG:(i:Int)<t.length:=by omega
   simp only[zX,simprocAttr,i64,h1,h2,h8,h9,cG,aB,hx,iD]
   by_cases d1:x<0
   ·simp only[zX,simprocAttr,d1]
    rw[if_pos (all_false hx (by rw[kr,decide_eq_false (by omega)];rfl))]
   ·by_cases d2:eG false<x
    ·simp only[zX,simprocAttr,d1,d2,gt_iff_lt,i64,h1,h2,h8,h9,cG,aS,aB,hx,iD]
     rw[if_pos (all_false hx (by rw[kr,decide_eq_false (by omega:¬x≤eG false),Bool.and_false]))]
    ·simp only[zX,simprocAttr,d1,d2,gt_iff_lt,i64,h1,h2,h8,h9,cG,aS,aB,hx,iD]
     refine⟨t.length-(i+1),_,_,by omega,dw.refl,i+1,rfl,aS,?_,?_,?_,?_,?_⟩ <;> (try simp only[zU,Nat.reduceBEq,Nat.reduceShiftRight,Nat.reduceMod,Nat.reduceEqDiff,reduceIte])
     ·exact h1
     ·exact h2
     ·exact h8
     ·rw[bU _ (by omega)];rfl
     ·exact jZ hx fM (by rw[kr,decide_eq_true (by omega),decide_eq_true (by omega)];rfl)
  ·have iQ:i=t.length:=by omega
   subst iQ
   have cG:¬(t.length:Int)<t.length:=by omega
   rw[XA]at fM
   rw[fM,if_neg (by decide)]
   simp only[zX,simprocAttr,i64,h1,h2,h9,cG,aB]
   by_cases d1:fuel<0
   ·simp only[zX,simprocAttr,d1]
   ·by_cases d2:1099511627776<fuel
    ·simp only[zX,simprocAttr,d1,d2,gt_iff_lt,i64,h1,h2]
    ·simp only[zX,simprocAttr,d1,d2,gt_iff_lt,i64,h1,h2]
 ·simp only[zX,simprocAttr,i64,cN,bV,iD,bD,gt_iff_lt,Lu]
  refine aX (fun n e s=>∃i:Nat,n=t.length-i∧i≤t.length∧e 1=.d (aB t)∧e 2=i64 fuel∧e 8=i64 (eG true)∧e 9=i64 i∧(t.take i).all (kr true)=true)
   ⟨_,_,_,dw.refl,0,rfl,by omega,rfl,rfl,rfl,rfl,by simp⟩ ?_
  rintro n e s ⟨i,rfl,hi,h1,h2,h8,h9,fM⟩
  rcases Xw i t.length with aS|lW
  ·obtain⟨x,hx⟩:∃x,t[i]?=some x:=⟨_,WZ aS⟩
   have cG:(i:Int)<t.length:=by omega
   simp only[zX,simprocAttr,i64,h1,h2,h8,h9,cG,aB,hx,iD]
   by_cases d1:x<0
   ·simp only[zX,simprocAttr,d1]
    rw[if_pos (all_false hx (by rw[kr,decide_eq_false (by omega)];rfl))]
   ·by_cases d2:eG true<x
    ·simp only[zX,simprocAttr,d1,d2,gt_iff_lt,i64,h1,h2,h8,h9,cG,aS,aB,hx,iD]
     rw[if_pos (all_false hx (by rw[kr,decide_eq_false (by omega:¬x≤eG true),Bool.and_false]))]
    ·simp only[zX,simprocAttr,d1,d2,gt_iff_lt,i64,h1,h2,h8,h9,cG,aS,aB,hx,iD]
     refine⟨t.length-(i+1),_,_,by omega,dw.refl,i+1,rfl,aS,?_,?_,?_,?_,?_⟩ <;> (try simp only[zU,Nat.reduceBEq,Nat.reduceShiftRight,Nat.reduceMod,Nat.reduceEqDiff,reduceIte])
     ·exact h1
     ·exact h2
     ·exact h8
     ·rw[bU _ (by omega)];rfl
     ·exact jZ hx fM (by rw[kr,decide_eq_true (by omega),decide_eq_true (by omega)];rfl)
  ·have iQ:i=t.length:=by omega
   subst iQ
   have cG:¬(t.length:Int)<t.length:=by omega
   rw[XA]at fM
   rw[fM,if_neg (by decide)]
   simp only[zX,simprocAttr,i64,h1,h2,h9,cG,aB]
   by_cases d1:fuel<0
   ·simp only[zX,simprocAttr,d1]
   ·by_cases d2:1099511627776<fuel
    ·simp only[zX,simprocAttr,d1,d2,gt_iff_lt,i64,h1,h2]
    ·simp only[zX,simprocAttr,d1,d2,gt_iff_lt,i64,h1,h2]
def lB (at_:Int) (x:Int×ar):List D:=[iD at_,iD x.1,bH x.2]
def iR (p:fj):ar:=List.replicate p.ak.toNat (-1,-1)
def LC (at_:Int) (x:aQ):V:=if x.empty=true then .tu [.d (.sl []),i64 0,i64 11] else .tu [.d (.sl ((x.ends.zip x.ak).map (lB at_))),i64 x.steps,i64 0]
def Qb (e:Int):V:=.tu [.d (.sl []),i64 0,i64 e]
theorem Mj (p:fj) (t:List Int) (at_ ah fuel:Int) (hf:p.re.fA=true) (hs:p.re.size≤1000000000) (ht:t.length≤1000000000) (hv:cc p t fuel≠0) :
  br prog 13 [cN p,.d (aB t),i64 at_,i64 ah,i64 fuel] (Qb (cc p t fuel)):=by
 have h1:=uf p t fuel hf hs ht
 cases p with
 |mk re ak bk =>
 simp only[cN,Re.ae re,WU,WV,WR,WS,i64,iD,bD,bV]at h1
 generalize cc ⟨re,ak,bk⟩ t fuel=v at *
 refine aw func13 rfl ntmps13 results13 rfl 0 130111 (by simp) (by simp) ?_
 simp only[zX,simprocAttr,i64,cN,Re.ae re,bV,iD,bD]
 refine aD h1 (by simp [ao,ao.go,ay,i64,bV,bT]) (by simp [ao,ao.go,ay,i64,bV,bT]) ?_
 simp only[zX,simprocAttr,i64,cN,bV,iD,bD,hv]
 rfl
theorem He (p:fj) (t:List Int) (at_ ah fuel:Int) (hf:p.re.fA=true) (hs:p.re.size≤1000000000) (ht:t.length≤1000000000) (hv:cc p t fuel=0) (ha:at_<0∨t.length<at_) :
  br prog 13 [cN p,.d (aB t),i64 at_,i64 ah,i64 fuel] (Qb 5):=by
 have h1:=uf p t fuel hf hs ht
 rw[hv]at h1
 cases p with
 |mk re ak bk =>
 simp only[cN,Re.ae re,WU,WV,WR,WS,i64,iD,bD,bV]at h1
 refine aw func13 rfl ntmps13 results13 rfl 0 130111 (by simp) (by simp) ?_
 simp only[zX,simprocAttr,i64,cN,Re.ae re,bV,iD,bD]
 refine aD h1 (by simp [ao,ao.go,ay,i64,bV,bT]) (by simp [ao,ao.go,ay,i64,bV,bT]) ?_
 simp only[zX,simprocAttr,i64,cN,bV,iD,bD]
 by_cases c1:at_<0
 ·simp only[zX,simprocAttr,i64,cN,bV,iD,bD,c1]
  rfl
 ·have c2:(t.length:Int)<at_:=ha.resolve_left c1
  simp only[zX,simprocAttr,i64,cN,bV,iD,bD,c1,c2,aB,gt_iff_lt,W1]
  rfl
def SG (re:Re) (ak:Int) (bk:Bool) (t:List Int) (ah fuel xs:Int) (fD:List Int) (lL:List ar):List VL.Obj :=
 [⟨0,true,10,[[.d (.sc (.int .i64 re.op)),.d (.sl (re.set.map aT)),.d (.sl (re.kids.map Re.cells)),.d (.sc (.int .i64 re.mn)),.d (.sc (.int .i64 re.mx)),.d (.sc (.int .i64 re.mode)),.d (.sc (.int .i64 re.n)),.d (.sc (.bool re.neg)),.d (.sc (.int .i64 ak)),.d (.sc (.bool bk))]]⟩,
  ⟨0,true,7,[[.d (aB t),.d (.sc (.int .i64 ah)),.d (.sc (.int .i64 fuel)),.d (.sc (.int .i64 xs)),.d (.sc (.bool false)),.so 3 fD.length 0 fD.length,.so 4 fD.length 0 lL.length]]⟩,
  ⟨1,false,12,[[.d (.sc (.int .i64 0)),.d (.sc (.int .i64 re.op)),.d (.sl (re.set.map aT)),.d (.sl (re.kids.map Re.cells)),.d (.sc (.int .i64 re.mn)),.d (.sc (.int .i64 re.mx)),.d (.sc (.int .i64 re.mode)),.d (.sc (.int .i64 re.n)),.d (.sc (.bool re.neg)),.d (.sc (.int .i64 0)),.d (.sc (.int .i64 0)),.d (.sc (.pointer none))]]⟩,
  ⟨fD.length,true,1,fD.map fun x=>[.d (.sc (.int .i64 x))]⟩,⟨fD.length,true,1,lL.map fun c=>[.d (bH c)]⟩]
theorem LA (p:fj) (t:List Int) (at_ ah fuel:Int) (hf:p.re.fA=true) (hs:p.re.size≤1000000000) (ht:t.length≤1000000) (hc:p.ak≤1000000) (hv:cc p t fuel=0) (a0:0≤at_) (a1:at_≤t.length)
  {n:Nat}{b:Bool}{x:aQ} (hx:dA t fuel n ah (.run (.mk 0 p.re 0 0 .nil) at_ (iR p)) ⟨0,false,[],[]⟩=some (b,x)) (hl:x.ends.length≤2000000000000) (Ub:x.ak.length=x.ends.length) :
  br prog 13 [cN p,.d (aB t),i64 at_,i64 ah,i64 fuel] (LC at_ x):=by
 have h1:=uf p t fuel hf hs (by omega)
 have hb:=Ma p.ak hc
 have zm:Goal.nil.d=.sc (.pointer none):=rfl
 rw[hv]at h1
 have c8:=GF (F:=fuel) ht n 0 ah _ _ _ _ hx
 unfold b6 dE eW eB at c8
 unfold iR at c8
 cases p with
 |mk re ak bk =>
 simp only[Goal.bt,zm,i64,bV,iD,bD]at c8
 simp only[i64]at hb
 simp only[cN,Re.ae re,WU,WV,WR,WS,i64,iD,bD,bV]at h1
 clear hx hv
 have c1:¬at_<0:=by omega
 have c2:¬(t.length:Int)<at_:=by omega
 refine aw func13 rfl ntmps13 results13 rfl 0 130111 (by simp) (by simp) ?_
 simp only[zX,simprocAttr,i64,cN,Re.ae re,bV,iD,bD]
 refine aD h1 (by simp [ao,ao.go,ay,i64,bV,bT]) (by simp [ao,ao.go,ay,i64,bV,bT]) ?_
 simp only[zX,simprocAttr,i64,cN,bV,iD,bD,c1,c2,aB,gt_iff_lt,W1]
 refine aH bM.aP ?_
 refine aq mix [9] [(4,[2],[2])] (by rfl) ?_
 simp only[zX,simprocAttr,i64,bV,hole]
 refine cP hb rfl rfl ?_
 simp only[zX,simprocAttr,i64,bV,iD,bD]
 refine bu (r:=.d (.sc (.bool b))) (s1:=[⟨0,true,10,[[.d (.sc (.int .i64 re.op)),.d (.sl (re.set.map aT)),.d (.sl (re.kids.map Re.cells)),.d (.sc (.int .i64 re.mn)),.d (.sc (.int .i64 re.mx)),.d (.sc (.int .i64 re.mode)),.d (.sc (.int .i64 re.n)),.d (.sc (.bool re.neg)),.d (.sc (.int .i64 ak)),.d (.sc (.bool bk))]]⟩,
  ⟨0,true,7,[[.d (aB t),.d (.sc (.int .i64 ah)),.d (.sc (.int .i64 fuel)),.d (.sc (.int .i64 x.steps)),.d (.sc (.bool x.empty)),.so 3 x.ends.length 0 x.ends.length,.so 4 x.ends.length 0 x.ak.length]]⟩,
  ⟨1,false,12,[[.d (.sc (.int .i64 0)),.d (.sc (.int .i64 re.op)),.d (.sl (re.set.map aT)),.d (.sl (re.kids.map Re.cells)),.d (.sc (.int .i64 re.mn)),.d (.sc (.int .i64 re.mx)),.d (.sc (.int .i64 re.mode)),.d (.sc (.int .i64 re.n)),.d (.sc (.bool re.neg)),.d (.sc (.int .i64 0)),.d (.sc (.int .i64 0)),.d (.sc (.pointer none))]]⟩,
  ⟨x.ends.length,true,1,x.ends.map fun x=>[.d (.sc (.int .i64 x))]⟩,⟨x.ends.length,true,1,x.ak.map fun c=>[.d (bH c)]⟩]) ?_ ?_
 ·refine aO (cargs:=[.rf 1 0 0 0,.d (.el [.sc (.int .i64 0),.sc (.int .i64 re.op),.sl (re.set.map aT),.sl (re.kids.map Re.cells),.sc (.int .i64 re.mn),.sc (.int .i64 re.mx),.sc (.int .i64 re.mode),.sc (.int .i64 re.n),.sc (.bool re.neg),.sc (.int .i64 0),.sc (.int .i64 0),.sc (.pointer none)]),.d (.sc (.int .i64 at_)),.d (bH (List.replicate ak.toNat (-1,-1)))]) [2] (by simp [aM,bf,aR.go,aR,bN]) ?_
  simp only[aM,bf,W9,Xy,Xl,Xh]
  refine kP (pre:=[.d (aB t),.d (.sc (.int .i64 ah)),.d (.sc (.int .i64 fuel)),.d (.sc (.int .i64 0)),.d (.sc (.bool false))]) (post:=[.fu []]) 1 1 rfl rfl rfl ?_
  simp only[Xl,Xh,WR,WS,W3,Xa,Nat.reduceAdd]
  refine kP (pre:=[.d (aB t),.d (.sc (.int .i64 ah)),.d (.sc (.int .i64 fuel)),.d (.sc (.int .i64 0)),.d (.sc (.bool false)),.so 3 0 0 0]) (post:=[]) 1 1 rfl rfl rfl ?_
  simp only[Xl,Xh,WR,WS,W3,Xa,Nat.reduceAdd]
  refine jt [1,3,4] c8 (by decide) rfl rfl rfl rfl ?_ rfl ?_
  ·rfl
  simp only[WU,WV,sa,aZ,Xh,Xl,bX,bF,bF.go,List.getD_cons_zero,List.getD_cons_succ,XS,and_self,true_and]
  rfl
 ·clear c8
  obtain⟨xs,xe,fD,lL⟩:=x
  simp only at hl Ub
  cases xe with
  |true =>
   simp only[zX,simprocAttr,i64,bV,iD,bD,LC]
  |false =>
   simp only[BU,zj,zl,simprocAttr,nL,i64,bV,iD,bD,LC,W2,if_false]
   refine aX (fun n e s=>∃i:Nat,n=fD.length-i∧i≤fD.length∧e 2=i64 at_∧e 14=.rf 1 0 0 0∧e 16=i64 i∧Acc (SG re ak bk t ah fuel xs fD lL) 3 (e 15) s (((fD.zip lL).take i).map (lB at_)))
    ⟨_,_,_,dw.refl,0,rfl,by omega,rfl,rfl,rfl,.inl ⟨rfl,rfl⟩⟩ ?_
   rintro n e s ⟨i,rfl,hi,h2,eV,Hf,ky⟩
   have Lr:=ky.get (id:=1) rfl
   have SJ:=ky.get (id:=3) rfl
   have R5:=ky.get (id:=4) rfl
   have UX:(0:Int)≤i:=by omega
   rcases Xw i fD.length with aS|lW
   ·obtain⟨y,hy⟩:∃y,fD[i]?=some y:=⟨_,WZ aS⟩
    obtain⟨z,hz⟩:∃z,lL[i]?=some z:=⟨_,WZ (by omega)⟩
    have Vi:(fD.zip lL)[i]?=some (y,z):=by rw[List.getElem?_zip_eq_some];exact⟨hy,hz⟩
    have cG:(i:Int)<fD.length:=by omega
    have Sm:i<lL.length:=by omega
    simp only[BU,zj,zl,simprocAttr,nL,i64,iD,bD,bV,h2,eV,Hf,Lr,SJ,R5,cG,aS]
    refine aq mix [18] [] (by rfl) ?_
    simp only[BU,zj,zl,simprocAttr,nL,i64,iD,bD,bV,h2,eV,Hf,Lr,SJ,R5,cG,aS,Sm,hy,hz,Xi]
    refine ky.append N7 rfl (by decide) (by decide) (by intro y hy;obtain⟨z,_,rfl⟩:=List.mem_map.1 hy;rfl) (by simp) (by simp) (by simp only[W1,Xu,W3,Xa];omega) (fun v' s' DP=>?_)
    simp only[BU,zj,zl,simprocAttr,nL,i64,iD,bD,bV,h2,eV,Hf]
    refine⟨fD.length-(i+1),_,_,by omega,dw.refl,i+1,rfl,aS,?_,?_,?_,?_⟩ <;> (try simp only[zU,Nat.reduceBEq,Nat.reduceShiftRight,Nat.reduceMod,Nat.reduceEqDiff,reduceIte])
    ·exact h2
    ·exact eV
    ·rw[bU _ (by omega)];rfl
    ·rw[dZ Vi];simpa [lB,iD]using DP
   ·have iQ:i=fD.length:=by omega
    subst iQ
    have cG:¬(fD.length:Int)<fD.length:=by omega
    have Oa:(fD.zip lL).length=fD.length:=by simp [Ub]
    have vf:(fD.zip lL).take fD.length=fD.zip lL:=by rw[← Oa,XA]
    rw[vf]at ky
    simp only[BU,zj,zl,simprocAttr,nL,i64,iD,bD,bV,h2,eV,Hf,Lr,SJ,R5,cG]
    refine aq mix [] [] (by rfl) ?_
    simp only[BU,zj,zl,simprocAttr,nL,i64,iD,bD,bV,h2,eV,Hf,Lr]
    rw[ky.Rx (Nat.zero_le _)]
    rfl
open Classical in
noncomputable def Sb (t:List Int) (F ah:Int) (task:Task) (st:aQ):Bool×aQ:=if h:∃n r,dA t F n ah task st=some r then (Classical.choose_spec h).choose else (false,st)
theorem rZ {t:List Int}{F ah:Int}{task:Task}{st:aQ}{n:Nat}{r:Bool×aQ} (h:dA t F n ah task st=some r):Sb t F ah task st=r:=by
 unfold Sb
 rw[dif_pos ⟨n,r,h⟩]
 exact Lz (Classical.choose_spec (Classical.choose_spec (⟨n,r,h⟩:∃n r,dA t F n ah task st=some r))) h
theorem pE {re:Re}{ak top:Int} (h:b7 re ak top=true) (hk:re.kids.length≤1000000000):ig re=true:=by
 obtain⟨h1,h2,h3,h4,h5⟩:=gK.1 h
 have cC:re.set.length≤64:=by
  split at h2
  ·simp only[gL,W7,decide_eq_true_eq]at h2
   exact h2.1
  ·omega
 refine decide_eq_true ⟨fun ho hn=>?_,fun ho=>?_,by omega,hk⟩
 ·have:=h1.2.2.1
  rw[hn]at this
  simp only[Xa,W8]at this
  rcases ho with o|o|o|o|o <;> rw[o]at this <;> simp [cR]at this
 ·have:=h1.2.2.1
  rw[ho]at this
  simp [cR]at this
  omega
theorem DR {ak top:Int} (re:Re) (h:re.whole ak top=true) (hs:re.size≤1000000):re.every ig=true:=by
 revert h hs
 refine Re.ind (Q:=fun re=>re.whole ak top=true→re.size≤1000000→re.every ig=true) (fun re ih h hs=>?_) re
 obtain⟨a1,a2⟩:=(Re.ck re).1 h
 have:=Re.pN re.kids
 have:=Re.size_eq re
 exact(Re.ck re).2 ⟨pE a1 (by omega),fun k hk=>ih k hk (a2 k hk) (by have:=Re.gG hk;omega)⟩
noncomputable def bj (p:fj) (t:List Int) (at_ ah fuel:Int):Bool×aQ:=Sb t fuel ah (.run (.mk 0 p.re 0 0 .nil) at_ (iR p)) ⟨0,false,[],[]⟩
theorem du {p:fj}{t:List Int}{fuel:Int} (h:cc p t fuel=0):df p=0∧t.length≤65536∧t.all (kr p.bk)=true∧0≤fuel∧fuel≤1099511627776:=by
 unfold cc at h
 split at h
 ·omega
 ·split at h
  ·omega
  ·split at h
   ·omega
   ·split at h
    ·omega
    ·refine⟨by omega,by omega,by simp_all,by omega,by omega⟩
theorem eC {p:fj} (h:df p=0):p.re.size≤256∧p.re.depth≤24∧0≤p.ak∧p.ak≤9∧p.re.whole p.ak (eG p.bk)=true:=by
 unfold df at h
 split at h
 ·omega
 ·split at h
  ·omega
  ·rename_i h1 h2
   refine⟨by omega,by omega,by omega,by omega,?_⟩
   cases hw:p.re.whole p.ak (eG p.bk) with
   |true=>rfl
   |false=>exact absurd (.inr (.inr hw)) h2
theorem dV {p:fj}{t:List Int}{at_ ah fuel:Int} (hv:cc p t fuel=0) (a0:0≤at_) (a1:at_≤t.length) :
  ∃n,dA t fuel n ah (.run (.mk 0 p.re 0 0 .nil) at_ (iR p)) ⟨0,false,[],[]⟩=some (bj p t at_ ah fuel)∧eb t fuel 0 at_ (iR p).length ⟨0,false,[],[]⟩ (bj p t at_ ah fuel).1 (bj p t at_ ah fuel).2:=by
 obtain⟨h1,h2,h3,h4,h5⟩:=du hv
 obtain⟨k1,k2,k3,k4,k5⟩:=eC h1
 have cK:(iR p).length≤9:=by unfold iR;rw[XD];omega
 obtain⟨n,b,s',e1,e2,_⟩:=I9 (t:=t) (F:=fuel) (by omega) _ _ ah (.run (.mk 0 p.re 0 0 .nil) at_ (iR p)) ⟨0,false,[],[]⟩ (W4 _) (W4 _)
  ⟨by omega,DR _ k5 (by omega),by intro h;omega,by intro h;omega,by intro h;omega,by intro h;omega,trivial⟩
  ⟨a0,a1,⟨by show (iR p).length≤_;omega,fun q hq=>.inl (List.eq_of_mem_replicate hq)⟩,rfl,WW _,h4,by simp [Task.fU,eo],rfl⟩
 have hx:bj p t at_ ah fuel=(b,s'):=rZ e1
 rw[hx]
 exact⟨n,e1,e2⟩
noncomputable def cV (p:fj) (t:List Int) (at_ ah fuel:Int):Int:=if cc p t fuel≠0 then cc p t fuel else if at_<0∨(t.length:Int)<at_ then 5 else if (bj p t at_ ah fuel).2.empty=true then 11 else 0
noncomputable def allM (p:fj) (t:List Int) (at_ ah fuel:Int):List (Int×ar):=if cV p t at_ ah fuel=0 then (bj p t at_ ah fuel).2.ends.zip (bj p t at_ ah fuel).2.ak else []
noncomputable def dT (p:fj) (t:List Int) (at_ ah fuel:Int):Int:=if cV p t at_ ah fuel=0 then (bj p t at_ ah fuel).2.steps else 0
theorem Hb (p:fj) (t:List Int) (at_ ah fuel:Int) (hf:p.re.fA=true) (hs:p.re.size≤1000000000) (ht:t.length≤1000000000) :
  br prog 13 [cN p,.d (aB t),i64 at_,i64 ah,i64 fuel] (.tu [.d (.sl ((allM p t at_ ah fuel).map (lB at_))),i64 (dT p t at_ ah fuel),i64 (cV p t at_ ah fuel)]):=by
 by_cases hv:cc p t fuel=0
 case neg =>
  have he:cV p t at_ ah fuel=cc p t fuel:=by rw[cV,if_pos hv]
  rw[allM,dT,he,if_neg hv,if_neg hv]
  exact Mj p t at_ ah fuel hf hs ht hv
 by_cases ha:at_<0∨(t.length:Int)<at_
 ·have he:cV p t at_ ah fuel=5:=by rw[cV,if_neg (by omega),if_pos ha]
  rw[allM,dT,he,if_neg (by omega),if_neg (by omega)]
  exact He p t at_ ah fuel hf hs ht hv ha
 ·obtain⟨n,e1,e2⟩:=dV (at_:=at_) (ah:=ah) hv (by omega) (by omega)
  obtain⟨h1,h2,_,h4,h5⟩:=du hv
  obtain⟨_,_,_,k4,_⟩:=eC h1
  have he:cV p t at_ ah fuel=if (bj p t at_ ah fuel).2.empty=true then 11 else 0:=by rw[cV,if_neg (by omega),if_neg ha]
  rw[allM,dT,he]
  generalize bj p t at_ ah fuel=X at *
  obtain⟨b,x⟩:=X
  simp only at e2 ⊢
  obtain⟨new,mg,m1,m2,m3,m4,_⟩:=e2.more
  have gy:=e2.s1
  simp only[WS]at m1 m2
  have hlen:x.ends.length≤2000000000000:=by rw[m1];simp only at m4;omega
  have r:=LA p t at_ ah fuel hf hs (by omega) (by omega) hv (by omega) (by omega) e1 hlen (by rw[m1,m2,m3])
  unfold LC at r
  split at r
  ·rename_i hh
   rw[if_pos hh,if_neg (by decide),if_neg (by decide)];exact r
  ·rename_i hh
   rw[if_neg hh,if_pos rfl,if_pos rfl];exact r
end Go.Proofs.YtmihcpdhcillaaaGreat
