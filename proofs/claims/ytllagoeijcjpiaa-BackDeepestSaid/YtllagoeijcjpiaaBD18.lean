/- A part of the proof (G18 G19). -/
import Derived.Test.YtllagoeijcjpiaaBD17
import Derived.Test.YtllagoeijcjpiaaBD15
import Derived.Test.YtllagoeijcjpiaaBD13
import Derived.Test.YtllagoeijcjpiaaBD6
set_option linter.unusedSimpArgs false
set_option linter.unusedVariables false
set_option maxRecDepth 100000
set_option maxHeartbeats 80000000
namespace Go.Proofs.Ytllagoeijcjpiaa
open Go.VL Go.Proofs.Try
def mS (bG:Bool) (x:Int):Bool:=decide (0≤x)&&decide (x≤fk bG)
def cF (p:ic) (t:List Int) (fuel:Int):Int :=
 if dV p≠0 then dV p else if 65536<t.length then 4 else if t.all (mS p.bG)=false then 1 else if fuel<0∨1099511627776<fuel then 1 else 0
theorem kd {α:Type}{P:α→Bool}{l:List α}{i:Nat}{x:α} (hx:l[i]?=some x) (h:(l.take i).all P=true) (hp:P x=true):(l.take (i+1)).all P=true:=by
 rw[List.take_add_one,hx,Wi,h]
 simp [hp]
theorem all_false {α:Type}{P:α→Bool}{l:List α}{i:Nat}{x:α} (hx:l[i]?=some x) (hp:P x=false):l.all P=false:=by
 rw[V6]
 intro h
 rw[VT]at h
 rw[h x (Vy hx)]at hp
 cases hp
theorem uG (p:ic) (t:List Int) (fuel:Int) (hf:p.re.gi=true) (hs:p.re.size≤1000000000) (ht:t.length≤1000000000) :
  bI prog 87 [eb p,.d (ay t),i64 fuel] (i64 (cF p t fuel)):=by
 have h1:=u4 p hf hs
 unfold cF
 cases p with
 |mk re ai bG =>
 simp only[eb,Re.ae re,VP,VO,Vz,Vx,i64,iD,bD,bV]at h1
 simp only at *
 generalize hv:dV ⟨re,ai,bG⟩=v at *
 refine av func87 rfl ntmps87 results87 rfl 0 975 (by simp) (by simp) ?_
 simp only[zX,simprocAttr,i64,eb,Re.ae re,bV,iD,bD]
 refine aE h1 (by simp [ar,ar.go,aw,i64,bV,ck]) (by simp [ar,ar.go,aw,i64,bV,ck]) ?_
 simp only[zX,simprocAttr,i64,eb,bV,iD,bD]
 by_cases c0:v=0
 case neg =>
  rw[if_pos c0]
  simp only[zX,simprocAttr,i64,eb,bV,iD,bD,c0]
 subst c0
 rw[if_neg (by omega)]
 by_cases c1:65536<t.length
 ·rw[if_pos c1]
  have Le:(65536:Int)<t.length:=by omega
  simp only[zX,simprocAttr,i64,eb,bV,iD,bD,gt_iff_lt,Le]
 rw[if_neg c1]
 have Le:¬(65536:Int)<t.length:=by omega
 cases bG
 ·simp only[zX,simprocAttr,i64,eb,bV,iD,bD,gt_iff_lt,Le]
  refine aY (fun n e s=>∃i:Nat,n=t.length-i∧i≤t.length∧e 1=.d (ay t)∧e 2=i64 fuel∧e 8=i64 (fk false)∧e 9=i64 i∧(t.take i).all (mS false)=true)
   ⟨_,_,_,dt.refl,0,rfl,by omega,rfl,rfl,rfl,rfl,by simp⟩ ?_
  rintro n e s ⟨i,rfl,hi,h1,h2,h8,h9,gI⟩
  rcases VX i t.length with aT|iR
  ·obtain⟨x,hx⟩:∃x,t[i]?=some x:=⟨_,Vu aT⟩
   have cn:(i:Int)<t.length:=by omega
   simp only[zX,simprocAttr,i64,h1,h2,h8,h9,cn,ay,hx,iD]
   by_cases d1:x<0
   ·simp only[zX,simprocAttr,d1]
    rw[if_pos (all_false hx (by rw[mS,decide_eq_false (by omega)];rfl))]
   ·by_cases d2:fk false<x
    ·simp only[zX,simprocAttr,d1,d2,gt_iff_lt,i64,h1,h2,h8,h9,cn,aT,ay,hx,iD]
     rw[if_pos (all_false hx (by rw[mS,decide_eq_false (by omega:¬x≤fk false),Bool.and_false]))]
    ·simp only[zX,simprocAttr,d1,d2,gt_iff_lt,i64,h1,h2,h8,h9,cn,aT,ay,hx,iD]
     refine⟨t.length-(i+1),_,_,by omega,dt.refl,i+1,rfl,aT,?_,?_,?_,?_,?_⟩ <;> (try simp only[zU,Nat.reduceBEq,Nat.reduceShiftRight,Nat.reduceMod,Nat.reduceEqDiff,reduceIte])
     ·exact h1
     ·exact h2
     ·exact h8
     ·rw[bR _ (by omega)];rfl
     ·exact kd hx gI (by rw[mS,decide_eq_true (by omega),decide_eq_true (by omega)];rfl)
  ·have kT:i=t.length:=by omega
   subst kT
   have cn:¬(t.length:Int)<t.length:=by omega
   rw[We]at gI
   rw[gI,if_neg (by decide)]
   simp only[zX,simprocAttr,i64,h1,h2,h9,cn,ay]
   by_cases d1:fuel<0
   ·simp only[zX,simprocAttr,d1]
   ·by_cases d2:1099511627776<fuel
    ·simp only[zX,simprocAttr,d1,d2,gt_iff_lt,i64,h1,h2]
    ·simp only[zX,simprocAttr,d1,d2,gt_iff_lt,i64,h1,h2]
 ·simp only[zX,simprocAttr,i64,eb,bV,iD,bD,gt_iff_lt,Le]
  refine aY (fun n e s=>∃i:Nat,n=t.length-i∧i≤t.length∧e 1=.d (ay t)∧e 2=i64 fuel∧e 8=i64 (fk true)∧e 9=i64 i∧(t.take i).all (mS true)=true)
   ⟨_,_,_,dt.refl,0,rfl,by omega,rfl,rfl,rfl,rfl,by simp⟩ ?_
  rintro n e s ⟨i,rfl,hi,h1,h2,h8,h9,gI⟩
  rcases VX i t.length with aT|iR
  ·obtain⟨x,hx⟩:∃x,t[i]?=some x:=⟨_,Vu aT⟩
   have cn:(i:Int)<t.length:=by omega
   simp only[zX,simprocAttr,i64,h1,h2,h8,h9,cn,ay,hx,iD]
   by_cases d1:x<0
   ·simp only[zX,simprocAttr,d1]
    rw[if_pos (all_false hx (by rw[mS,decide_eq_false (by omega)];rfl))]
   ·by_cases d2:fk true<x
    ·simp only[zX,simprocAttr,d1,d2,gt_iff_lt,i64,h1,h2,h8,h9,cn,aT,ay,hx,iD]
     rw[if_pos (all_false hx (by rw[mS,decide_eq_false (by omega:¬x≤fk true),Bool.and_false]))]
    ·simp only[zX,simprocAttr,d1,d2,gt_iff_lt,i64,h1,h2,h8,h9,cn,aT,ay,hx,iD]
     refine⟨t.length-(i+1),_,_,by omega,dt.refl,i+1,rfl,aT,?_,?_,?_,?_,?_⟩ <;> (try simp only[zU,Nat.reduceBEq,Nat.reduceShiftRight,Nat.reduceMod,Nat.reduceEqDiff,reduceIte])
     ·exact h1
     ·exact h2
     ·exact h8
     ·rw[bR _ (by omega)];rfl
     ·exact kd hx gI (by rw[mS,decide_eq_true (by omega),decide_eq_true (by omega)];rfl)
  ·have kT:i=t.length:=by omega
   subst kT
   have cn:¬(t.length:Int)<t.length:=by omega
   rw[We]at gI
   rw[gI,if_neg (by decide)]
   simp only[zX,simprocAttr,i64,h1,h2,h9,cn,ay]
   by_cases d1:fuel<0
   ·simp only[zX,simprocAttr,d1]
   ·by_cases d2:1099511627776<fuel
    ·simp only[zX,simprocAttr,d1,d2,gt_iff_lt,i64,h1,h2]
    ·simp only[zX,simprocAttr,d1,d2,gt_iff_lt,i64,h1,h2]
def Bb (at_:Int) (x:Int×aq):List D:=[iD at_,iD x.1,bd x.2]
def iv (p:ic):aq:=List.replicate p.ai.toNat (-1,-1)
def LC (at_:Int) (x:aU):V:=if x.empty=true then .tu [.d (.sl []),i64 0,i64 11] else .tu [.d (.sl ((x.ends.zip x.ai).map (Bb at_))),i64 x.steps,i64 0]
def P2 (e:Int):V:=.tu [.d (.sl []),i64 0,i64 e]
theorem LK (p:ic) (t:List Int) (at_ ah fuel:Int) (hf:p.re.gi=true) (hs:p.re.size≤1000000000) (ht:t.length≤1000000000) (hv:cF p t fuel≠0) :
  bI prog 47 [eb p,.d (ay t),i64 at_,i64 ah,i64 fuel] (P2 (cF p t fuel)):=by
 have h1:=uG p t fuel hf hs ht
 cases p with
 |mk re ai bG =>
 simp only[eb,Re.ae re,VP,VO,Vz,Vx,i64,iD,bD,bV]at h1
 generalize cF ⟨re,ai,bG⟩ t fuel=v at *
 refine av func47 rfl ntmps47 results47 rfl 0 130111 (by simp) (by simp) ?_
 simp only[zX,simprocAttr,i64,eb,Re.ae re,bV,iD,bD]
 refine aE h1 (by simp [ar,ar.go,aw,i64,bV,ck]) (by simp [ar,ar.go,aw,i64,bV,ck]) ?_
 simp only[zX,simprocAttr,i64,eb,bV,iD,bD,hv]
 rfl
theorem Hp (p:ic) (t:List Int) (at_ ah fuel:Int) (hf:p.re.gi=true) (hs:p.re.size≤1000000000) (ht:t.length≤1000000000) (hv:cF p t fuel=0) (ha:at_<0∨t.length<at_) :
  bI prog 47 [eb p,.d (ay t),i64 at_,i64 ah,i64 fuel] (P2 5):=by
 have h1:=uG p t fuel hf hs ht
 rw[hv]at h1
 cases p with
 |mk re ai bG =>
 simp only[eb,Re.ae re,VP,VO,Vz,Vx,i64,iD,bD,bV]at h1
 refine av func47 rfl ntmps47 results47 rfl 0 130111 (by simp) (by simp) ?_
 simp only[zX,simprocAttr,i64,eb,Re.ae re,bV,iD,bD]
 refine aE h1 (by simp [ar,ar.go,aw,i64,bV,ck]) (by simp [ar,ar.go,aw,i64,bV,ck]) ?_
 simp only[zX,simprocAttr,i64,eb,bV,iD,bD]
 by_cases c1:at_<0
 ·simp only[zX,simprocAttr,i64,eb,bV,iD,bD,c1]
  rfl
 ·have c2:(t.length:Int)<at_:=ha.resolve_left c1
  simp only[zX,simprocAttr,i64,eb,bV,iD,bD,c1,c2,ay,gt_iff_lt,Vv]
  rfl
def RI (re:Re) (ai:Int) (bG:Bool) (t:List Int) (ah fuel xs:Int) (gj:List Int) (nI:List aq):List VL.Obj :=
 [⟨0,true,10,[[.d (.sc (.int .i64 re.op)),.d (.sl (re.set.map aM)),.d (.sl (re.kids.map Re.cells)),.d (.sc (.int .i64 re.mn)),.d (.sc (.int .i64 re.mx)),.d (.sc (.int .i64 re.mode)),.d (.sc (.int .i64 re.n)),.d (.sc (.bool re.neg)),.d (.sc (.int .i64 ai)),.d (.sc (.bool bG))]]⟩,
  ⟨0,true,7,[[.d (ay t),.d (.sc (.int .i64 ah)),.d (.sc (.int .i64 fuel)),.d (.sc (.int .i64 xs)),.d (.sc (.bool false)),.so 3 gj.length 0 gj.length,.so 4 gj.length 0 nI.length]]⟩,
  ⟨1,false,12,[[.d (.sc (.int .i64 0)),.d (.sc (.int .i64 re.op)),.d (.sl (re.set.map aM)),.d (.sl (re.kids.map Re.cells)),.d (.sc (.int .i64 re.mn)),.d (.sc (.int .i64 re.mx)),.d (.sc (.int .i64 re.mode)),.d (.sc (.int .i64 re.n)),.d (.sc (.bool re.neg)),.d (.sc (.int .i64 0)),.d (.sc (.int .i64 0)),.d (.sc (.pointer none))]]⟩,
  ⟨gj.length,true,1,gj.map fun x=>[.d (.sc (.int .i64 x))]⟩,⟨gj.length,true,1,nI.map fun c=>[.d (bd c)]⟩]
theorem L6 (p:ic) (t:List Int) (at_ ah fuel:Int) (hf:p.re.gi=true) (hs:p.re.size≤1000000000) (ht:t.length≤1000000) (hc:p.ai≤1000000) (hv:cF p t fuel=0) (a0:0≤at_) (a1:at_≤t.length)
  {n:Nat}{b:Bool}{x:aU} (hx:eh t fuel n ah (.run (.mk 0 p.re 0 0 .nil) at_ (iv p)) ⟨0,false,[],[]⟩=some (b,x)) (hl:x.ends.length≤2000000000000) (Tr:x.ai.length=x.ends.length) :
  bI prog 47 [eb p,.d (ay t),i64 at_,i64 ah,i64 fuel] (LC at_ x):=by
 have h1:=uG p t fuel hf hs (by omega)
 have hb:=LN p.ai hc
 have mZ:Goal.nil.d=.sc (.pointer none):=rfl
 rw[hv]at h1
 have cY:=Gl (F:=fuel) ht n 0 ah _ _ _ _ hx
 unfold b7 dN e8 eE at cY
 unfold iv at cY
 cases p with
 |mk re ai bG =>
 simp only[Goal.aN,mZ,i64,bV,iD,bD]at cY
 simp only[i64]at hb
 simp only[eb,Re.ae re,VP,VO,Vz,Vx,i64,iD,bD,bV]at h1
 clear hx hv
 have c1:¬at_<0:=by omega
 have c2:¬(t.length:Int)<at_:=by omega
 refine av func47 rfl ntmps47 results47 rfl 0 130111 (by simp) (by simp) ?_
 simp only[zX,simprocAttr,i64,eb,Re.ae re,bV,iD,bD]
 refine aE h1 (by simp [ar,ar.go,aw,i64,bV,ck]) (by simp [ar,ar.go,aw,i64,bV,ck]) ?_
 simp only[zX,simprocAttr,i64,eb,bV,iD,bD,c1,c2,ay,gt_iff_lt,Vv]
 refine aK bL.aV ?_
 refine an mix [9] [(4,[2],[2])] (by rfl) ?_
 simp only[zX,simprocAttr,i64,bV,hole]
 refine cz hb rfl rfl ?_
 simp only[zX,simprocAttr,i64,bV,iD,bD]
 refine bn (r:=.d (.sc (.bool b))) (s1:=[⟨0,true,10,[[.d (.sc (.int .i64 re.op)),.d (.sl (re.set.map aM)),.d (.sl (re.kids.map Re.cells)),.d (.sc (.int .i64 re.mn)),.d (.sc (.int .i64 re.mx)),.d (.sc (.int .i64 re.mode)),.d (.sc (.int .i64 re.n)),.d (.sc (.bool re.neg)),.d (.sc (.int .i64 ai)),.d (.sc (.bool bG))]]⟩,
  ⟨0,true,7,[[.d (ay t),.d (.sc (.int .i64 ah)),.d (.sc (.int .i64 fuel)),.d (.sc (.int .i64 x.steps)),.d (.sc (.bool x.empty)),.so 3 x.ends.length 0 x.ends.length,.so 4 x.ends.length 0 x.ai.length]]⟩,
  ⟨1,false,12,[[.d (.sc (.int .i64 0)),.d (.sc (.int .i64 re.op)),.d (.sl (re.set.map aM)),.d (.sl (re.kids.map Re.cells)),.d (.sc (.int .i64 re.mn)),.d (.sc (.int .i64 re.mx)),.d (.sc (.int .i64 re.mode)),.d (.sc (.int .i64 re.n)),.d (.sc (.bool re.neg)),.d (.sc (.int .i64 0)),.d (.sc (.int .i64 0)),.d (.sc (.pointer none))]]⟩,
  ⟨x.ends.length,true,1,x.ends.map fun x=>[.d (.sc (.int .i64 x))]⟩,⟨x.ends.length,true,1,x.ai.map fun c=>[.d (bd c)]⟩]) ?_ ?_
 ·refine aP (cargs:=[.rf 1 0 0 0,.d (.el [.sc (.int .i64 0),.sc (.int .i64 re.op),.sl (re.set.map aM),.sl (re.kids.map Re.cells),.sc (.int .i64 re.mn),.sc (.int .i64 re.mx),.sc (.int .i64 re.mode),.sc (.int .i64 re.n),.sc (.bool re.neg),.sc (.int .i64 0),.sc (.int .i64 0),.sc (.pointer none)]),.d (.sc (.int .i64 at_)),.d (bd (List.replicate ai.toNat (-1,-1)))]) [2] (by simp [bk,bA,aZ.go,aZ,bQ]) ?_
  simp only[bk,bA,VQ,List.getElem?_cons_succ,V9,V5]
  refine kX (pre:=[.d (ay t),.d (.sc (.int .i64 ah)),.d (.sc (.int .i64 fuel)),.d (.sc (.int .i64 0)),.d (.sc (.bool false))]) (post:=[.fu []]) 1 1 rfl rfl rfl ?_
  simp only[V9,V5,Vz,Vx,VC,VK,Nat.reduceAdd]
  refine kX (pre:=[.d (ay t),.d (.sc (.int .i64 ah)),.d (.sc (.int .i64 fuel)),.d (.sc (.int .i64 0)),.d (.sc (.bool false)),.so 3 0 0 0]) (post:=[]) 1 1 rfl rfl rfl ?_
  simp only[V9,V5,Vz,Vx,VC,VK,Nat.reduceAdd]
  refine lX [1,3,4] cY (by decide) rfl rfl rfl rfl ?_ rfl ?_
  ·rfl
  simp only[VP,VO,rI,bm,V5,V9,ct,bu,bu.go,List.getD_cons_zero,List.getD_cons_succ,List.map_map,and_self,true_and]
  rfl
 ·clear cY
  obtain⟨xs,xe,gj,nI⟩:=x
  simp only at hl Tr
  cases xe with
  |true =>
   simp only[zX,simprocAttr,i64,bV,iD,bD,LC]
  |false =>
   simp only[Bo,yu,yx,simprocAttr,np,i64,bV,iD,bD,LC,Vw,if_false]
   refine aY (fun n e s=>∃i:Nat,n=gj.length-i∧i≤gj.length∧e 2=i64 at_∧e 14=.rf 1 0 0 0∧e 16=i64 i∧Acc (RI re ai bG t ah fuel xs gj nI) 3 (e 15) s (((gj.zip nI).take i).map (Bb at_)))
    ⟨_,_,_,dt.refl,0,rfl,by omega,rfl,rfl,rfl,.inl ⟨rfl,rfl⟩⟩ ?_
   rintro n e s ⟨i,rfl,hi,h2,dh,fj,kz⟩
   have MC:=kz.get (id:=1) rfl
   have Rl:=kz.get (id:=3) rfl
   have Sb:=kz.get (id:=4) rfl
   have TH:(0:Int)≤i:=by omega
   rcases VX i gj.length with aT|iR
   ·obtain⟨y,hy⟩:∃y,gj[i]?=some y:=⟨_,Vu aT⟩
    obtain⟨z,hz⟩:∃z,nI[i]?=some z:=⟨_,Vu (by omega)⟩
    have TP:(gj.zip nI)[i]?=some (y,z):=by rw[List.getElem?_zip_eq_some];exact⟨hy,hz⟩
    have cn:(i:Int)<gj.length:=by omega
    have R6:i<nI.length:=by omega
    simp only[Bo,yu,yx,simprocAttr,np,i64,iD,bD,bV,h2,dh,fj,MC,Rl,Sb,cn,aT]
    refine an mix [18] [] (by rfl) ?_
    simp only[Bo,yu,yx,simprocAttr,np,i64,iD,bD,bV,h2,dh,fj,MC,Rl,Sb,cn,aT,R6,hy,hz,VU]
    refine kz.append M8 rfl (by decide) (by decide) (by intro y hy;obtain⟨z,_,rfl⟩:=List.mem_map.1 hy;rfl) (by simp) (by simp) (by simp only[Vv,V3,VC,VK];omega) (fun v' s' BC=>?_)
    simp only[Bo,yu,yx,simprocAttr,np,i64,iD,bD,bV,h2,dh,fj]
    refine⟨gj.length-(i+1),_,_,by omega,dt.refl,i+1,rfl,aT,?_,?_,?_,?_⟩ <;> (try simp only[zU,Nat.reduceBEq,Nat.reduceShiftRight,Nat.reduceMod,Nat.reduceEqDiff,reduceIte])
    ·exact h2
    ·exact dh
    ·rw[bR _ (by omega)];rfl
    ·rw[fg TP];simpa [Bb,iD]using BC
   ·have kT:i=gj.length:=by omega
    subst kT
    have cn:¬(gj.length:Int)<gj.length:=by omega
    have Oa:(gj.zip nI).length=gj.length:=by simp [Tr]
    have yi:(gj.zip nI).take gj.length=gj.zip nI:=by rw[← Oa,We]
    rw[yi]at kz
    simp only[Bo,yu,yx,simprocAttr,np,i64,iD,bD,bV,h2,dh,fj,MC,Rl,Sb,cn]
    refine an mix [] [] (by rfl) ?_
    simp only[Bo,yu,yx,simprocAttr,np,i64,iD,bD,bV,h2,dh,fj,MC]
    rw[kz.QS (Nat.zero_le _)]
    rfl
open Classical in
noncomputable def RF (t:List Int) (F ah:Int) (task:Task) (st:aU):Bool×aU:=if h:∃n r,eh t F n ah task st=some r then (Classical.choose_spec h).choose else (false,st)
theorem JS {t:List Int}{F ah:Int}{task:Task}{st:aU}{n:Nat}{r:Bool×aU} (h:eh t F n ah task st=some r):RF t F ah task st=r:=by
 unfold RF
 rw[dif_pos ⟨n,r,h⟩]
 exact Lu (Classical.choose_spec (Classical.choose_spec (⟨n,r,h⟩:∃n r,eh t F n ah task st=some r))) h
theorem uX {re:Re}{ai top:Int} (h:cg re ai top=true) (hk:re.kids.length≤1000000000):ix re=true:=by
 obtain⟨h1,h2,h3,h4,h5⟩:=iU.1 h
 have cC:re.set.length≤64:=by
  split at h2
  ·simp only[gV,VE,decide_eq_true_eq]at h2
   exact h2.1
  ·omega
 refine decide_eq_true ⟨fun ho hn=>?_,fun ho=>?_,by omega,hk⟩
 ·have:=h1.2.2.1
  rw[hn]at this
  simp only[VK,VG]at this
  rcases ho with o|o|o|o|o <;> rw[o]at this <;> simp [da]at this
 ·have:=h1.2.2.1
  rw[ho]at this
  simp [da]at this
  omega
theorem CG {ai top:Int} (re:Re) (h:re.whole ai top=true) (hs:re.size≤1000000):re.every ix=true:=by
 revert h hs
 refine Re.ind (Q:=fun re=>re.whole ai top=true→re.size≤1000000→re.every ix=true) (fun re ih h hs=>?_) re
 obtain⟨a1,a2⟩:=(Re.cS re).1 h
 have:=Re.rE re.kids
 have:=Re.size_eq re
 exact(Re.cS re).2 ⟨uX a1 (by omega),fun k hk=>ih k hk (a2 k hk) (by have:=Re.iC hk;omega)⟩
noncomputable def bK (p:ic) (t:List Int) (at_ ah fuel:Int):Bool×aU:=RF t fuel ah (.run (.mk 0 p.re 0 0 .nil) at_ (iv p)) ⟨0,false,[],[]⟩
theorem dA {p:ic}{t:List Int}{fuel:Int} (h:cF p t fuel=0):dV p=0∧t.length≤65536∧t.all (mS p.bG)=true∧0≤fuel∧fuel≤1099511627776:=by
 unfold cF at h
 split at h
 ·omega
 ·split at h
  ·omega
  ·split at h
   ·omega
   ·split at h
    ·omega
    ·refine⟨by omega,by omega,by simp_all,by omega,by omega⟩
theorem eF {p:ic} (h:dV p=0):p.re.size≤256∧p.re.depth≤24∧0≤p.ai∧p.ai≤9∧p.re.whole p.ai (fk p.bG)=true:=by
 unfold dV at h
 split at h
 ·omega
 ·split at h
  ·omega
  ·rename_i h1 h2
   refine⟨by omega,by omega,by omega,by omega,?_⟩
   cases hw:p.re.whole p.ai (fk p.bG) with
   |true=>rfl
   |false=>exact absurd (.inr (.inr hw)) h2
theorem iY {p:ic}{t:List Int}{at_ ah fuel:Int} (hv:cF p t fuel=0) (a0:0≤at_) (a1:at_≤t.length) :
  ∃n,eh t fuel n ah (.run (.mk 0 p.re 0 0 .nil) at_ (iv p)) ⟨0,false,[],[]⟩=some (bK p t at_ ah fuel)∧eg t fuel 0 at_ (iv p).length ⟨0,false,[],[]⟩ (bK p t at_ ah fuel).1 (bK p t at_ ah fuel).2:=by
 obtain⟨h1,h2,h3,h4,h5⟩:=dA hv
 obtain⟨k1,k2,k3,k4,k5⟩:=eF h1
 have cI:(iv p).length≤9:=by unfold iv;rw[V7];omega
 obtain⟨n,b,s',e1,e2,_⟩:=Ko (t:=t) (F:=fuel) (by omega) _ _ ah (.run (.mk 0 p.re 0 0 .nil) at_ (iv p)) ⟨0,false,[],[]⟩ (VA _) (VA _)
  ⟨by omega,CG _ k5 (by omega),by intro h;omega,by intro h;omega,by intro h;omega,by intro h;omega,trivial⟩
  ⟨a0,a1,⟨by show (iv p).length≤_;omega,fun q hq=>.inl (Wm hq)⟩,rfl,Vr _,h4,by simp [Task.gl,ez],rfl⟩
 have hx:bK p t at_ ah fuel=(b,s'):=JS e1
 rw[hx]
 exact⟨n,e1,e2⟩
noncomputable def gU (p:ic) (t:List Int) (at_ ah fuel:Int):Int:=if cF p t fuel≠0 then cF p t fuel else if at_<0∨(t.length:Int)<at_ then 5 else if (bK p t at_ ah fuel).2.empty=true then 11 else 0
noncomputable def allM (p:ic) (t:List Int) (at_ ah fuel:Int):List (Int×aq):=if gU p t at_ ah fuel=0 then (bK p t at_ ah fuel).2.ends.zip (bK p t at_ ah fuel).2.ai else []
noncomputable def sq (p:ic) (t:List Int) (at_ ah fuel:Int):Int:=if gU p t at_ ah fuel=0 then (bK p t at_ ah fuel).2.steps else 0
theorem Hx (p:ic) (t:List Int) (at_ ah fuel:Int) (hf:p.re.gi=true) (hs:p.re.size≤1000000000) (ht:t.length≤1000000000) :
  bI prog 47 [eb p,.d (ay t),i64 at_,i64 ah,i64 fuel] (.tu [.d (.sl ((allM p t at_ ah fuel).map (Bb at_))),i64 (sq p t at_ ah fuel),i64 (gU p t at_ ah fuel)]):=by
 by_cases hv:cF p t fuel=0
 case neg =>
  have he:gU p t at_ ah fuel=cF p t fuel:=by rw[gU,if_pos hv]
  rw[allM,sq,he,if_neg hv,if_neg hv]
  exact LK p t at_ ah fuel hf hs ht hv
 by_cases ha:at_<0∨(t.length:Int)<at_
 ·have he:gU p t at_ ah fuel=5:=by rw[gU,if_neg (by omega),if_pos ha]
  rw[allM,sq,he,if_neg (by omega),if_neg (by omega)]
  exact Hp p t at_ ah fuel hf hs ht hv ha
 ·obtain⟨n,e1,e2⟩:=iY (at_:=at_) (ah:=ah) hv (by omega) (by omega)
  obtain⟨h1,h2,_,h4,h5⟩:=dA hv
  obtain⟨_,_,_,k4,_⟩:=eF h1
  have he:gU p t at_ ah fuel=if (bK p t at_ ah fuel).2.empty=true then 11 else 0:=by rw[gU,if_neg (by omega),if_neg ha]
  rw[allM,sq,he]
  generalize bK p t at_ ah fuel=X at *
  obtain⟨b,x⟩:=X
  simp only at e2 ⊢
  obtain⟨new,pM,m1,m2,m3,m4,_⟩:=e2.more
  have ga:=e2.s1
  simp only[Vx]at m1 m2
  have hlen:x.ends.length≤2000000000000:=by rw[m1];simp only at m4;omega
  have r:=L6 p t at_ ah fuel hf hs (by omega) (by omega) hv (by omega) (by omega) e1 hlen (by rw[m1,m2,m3])
  unfold LC at r
  split at r
  ·rename_i hh
   rw[if_pos hh,if_neg (by decide),if_neg (by decide)];exact r
  ·rename_i hh
   rw[if_neg hh,if_pos rfl,if_pos rfl];exact r
end Go.Proofs.Ytllagoeijcjpiaa
