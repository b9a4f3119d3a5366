/- A part of the proof (G37 G38 G39). -/
import Derived.Test.YtllagoeijcjpiaaBD3
import Derived.Test.YtllagoeijcjpiaaBD5
import Derived.Test.YtllagoeijcjpiaaBD18
import Derived.Test.YtllagoeijcjpiaaBD39
set_option linter.unusedSimpArgs false
set_option linter.unusedVariables false
set_option maxRecDepth 100000
set_option maxHeartbeats 80000000
namespace Go.Proofs.Ytllagoeijcjpiaa
open Go.VL Go.Proofs.Try
theorem BJ {k:Nat} (ih:bz k) (g b a:Nat) (m:aB) (p:ao) {x:Rs} (hx:fY (fun m base p=>aQ k true m base p true) m p=some x) :
  az prog 94 [.pp 0 g 0 0 b a,p.v b a] (m.aF g b a) fun v s=>v=aR b a x.2.1 x.2.2∧s=x.1.aF g b a:=by
 obtain⟨pa,pc,todo⟩:=p
 have hm:m.cX ⟨pa,pc,todo⟩:=by
  unfold fY at hx
  by_cases h:m.cX ⟨pa,pc,todo⟩
  ·exact h
  ·rw[if_pos h]at hx;cases hx
 cases todo with
 |nil =>
  unfold fY at hx
  rw[if_neg (by simpa using hm)]at hx
  cases hx
 |mk kind r n at_ next =>
  by_cases c0:kind=0
  ·exact PT ih g b a m r pa pc kind n at_ next hm c0 hx
  by_cases c2:kind=2
  ·exact PO ih g b a m r pa pc kind n at_ next hm c2 hx
  by_cases c3:kind=3
  ·exact Pk ih g b a m r pa pc kind n at_ next hm c3 hx
  by_cases c5:kind=5
  ·exact Py ih g b a m r pa pc kind n at_ next hm c5 hx
  by_cases c1:kind=1
  ·cases r with
   |nil =>
    unfold fY at hx
    rw[if_neg (by simpa using hm)]at hx
    simp only at hx
    rw[if_neg (by omega)]at hx
    split at hx
    ·cases hx
    ·cases hx
   |root=>exact E8 ih g b a m pa pc kind n at_ next hm c1 hx
   |el re=>exact KX ih g b a m re pa pc kind n at_ next hm c1 hx
  by_cases c4:kind=4
  ·cases r with
   |nil =>
    unfold fY at hx
    rw[if_neg (by simpa using hm)]at hx
    simp only at hx
    rw[if_neg (by omega)]at hx
    split at hx
    ·cases hx
    ·cases hx
   |root=>exact FG ih g b a m pa pc kind n at_ next hm c4 hx
   |el re=>exact IC ih g b a m re pa pc kind n at_ next hm c4 hx
  exfalso
  unfold fY at hx
  rw[if_neg (by simpa using hm)]at hx
  simp only at hx
  rw[if_neg (by omega)]at hx
  split at hx
  ·cases hx
  ·cases hx
def pO (b a:Nat) (p:ao):List VL.Obj:=[⟨0,true,3,[[.d (iD p.at_),.d (bd p.ai),.d (p.todo.d b a)]]⟩,⟨0,true,3,[[.d (iD 0),.fu [],.d (.sc (.pointer none))]]⟩]
theorem Me (m:aB) (b a:Nat):(m.dY.map (F5 b a)).set (m.top-1) [.d (.sc (.int .i64 0)),.fu [],.d (.sc (.pointer none))]=m.pop.dY.map (F5 b a):=by
 unfold aB.pop
 simp only[List.map_set,F5]
theorem BE {k:Nat} (ih:∀j,j<k→bz j):bz k:=by
 intro g b a m base p alive x hx
 unfold aB.aF aB.aA
 refine av func52 rfl ntmps52 results52 rfl 3 1871 (by simp) (by simp) ?_
 simp only[zX,simprocAttr,zM,aR]
 refine aY (fun n e s=>∃(j:Nat) (m1:aB) (p1:ao) (al:Bool),n=j∧j≤k∧e 0=.pp 0 g 0 0 b a∧e 1=i64 (base:Nat)∧e 3=bV al∧e 6=.rf 3 0 0 0∧e 8=.rf 4 0 0 0∧s=m1.aF g b a++pO b a p1∧aQ j true m1 base p1 al=some x)
  ⟨_,_,_,dt.refl,k,m,p,alive,rfl,VA _,rfl,rfl,rfl,rfl,rfl,rfl,hx⟩ ?_
 clear hx
 rintro n e s ⟨j,m1,p1,al,rfl,hj,h0,h1,h3,h6,h8,rfl,hx⟩
 cases n with
 |zero=>cases hx
 |succ j =>
  by_cases eD:m1.aW=true
  ·have mb:=hx
   simp only[aQ]at mb
   rw[if_pos ⟨trivial,eD⟩]at mb
   cases mb
   unfold aB.aF aB.aA pO
   simp only[zX,simprocAttr,zM,aR,h0,h1,h3,h6,h8,eD,Vs]
   exact⟨ak m1 b a,rfl⟩
  ·have OB:m1.aW=false:=by simpa using eD
   have O9:aQ (j+1) false m1 base p1 al=some x:=by
    simp only[aQ]at hx ⊢
    rw[if_neg (fun h=>eD h.2)]at hx
    rw[if_neg (fun h=>by cases h.1)]
    exact hx
   clear hx
   unfold aB.aF aB.aA pO
   simp only[zX,simprocAttr,zM,aR,h0,h1,h3,h6,h8,OB,Vt]
   refine aY (fun n e s=>∃(i:Nat) (m2:aB) (p2:ao) (P6:Bool),n=i∧i≤j+1∧e 0=.pp 0 g 0 0 b a∧e 1=i64 (base:Nat)∧e 3=bV P6∧e 6=.rf 3 0 0 0∧e 8=.rf 4 0 0 0∧s=m2.aF g b a++pO b a p2∧aQ i false m2 base p2 P6=some x)
    ⟨_,_,_,dt.refl,j+1,m1,p1,al,rfl,VA _,?_,?_,?_,?_,?_,?_,O9⟩ ?_ <;> (try simp only[zU,Nat.reduceBEq,Nat.reduceShiftRight,Nat.reduceMod,Nat.reduceEqDiff,reduceIte])
   ·exact h0
   ·exact h1
   ·exact h3
   ·exact h6
   ·exact h8
   ·unfold aB.aF aB.aA pO;simp only[OB];rfl
   clear O9 h0 h1 h3 h6 h8 eD OB
   rintro n e s ⟨i,m2,p2,P6,rfl,hi,h0,h1,h3,h6,h8,rfl,hx⟩
   cases n with
   |zero=>cases hx
   |succ i =>
    simp only[aQ]at hx
    rw[if_neg (fun h=>by cases h.1)]at hx
    by_cases hc:P6=true∧p2.goals=true
    ·rw[if_pos hc]at hx
     obtain⟨rfl,hg⟩:=hc
     obtain⟨pa,pc,todo⟩:=p2
     cases todo with
     |nil=>cases hg
     |mk kind r kn at_ next =>
      cases gg:fY (fun m base p=>aQ i true m base p true) m2 ⟨pa,pc,.mk kind r kn at_ next⟩ with
      |none=>rw[gg]at hx;cases hx
      |some y =>
       obtain⟨m3,p3,Uw⟩:=y
       rw[gg]at hx
       simp only at hx
       have cI:=fun ext=>br (BJ (ih i (by omega)) g b a m2 _ gg) rfl rfl rfl ext
       unfold aB.aF aB.aA at cI
       simp only[zM,aR,aI.aN]at cI
       unfold aB.aF aB.aA pO
       simp only[zX,simprocAttr,zM,aR,aI.aN,h0,h1,h3,h6,h8]
       refine⟨⟨_,rfl⟩,?_⟩
       refine aj (cI _) (fun v s' hv=>?_);obtain⟨rfl,rfl⟩:=hv
       simp only[zX,simprocAttr,zM,aR,h0,h1,h3,h6,h8]
       refine⟨i,_,_,by omega,dt.refl,i,m3,p3,Uw,rfl,by omega,?_,?_,?_,?_,?_,rfl,hx⟩ <;> (try simp only[zU,Nat.reduceBEq,Nat.reduceShiftRight,Nat.reduceMod,Nat.reduceEqDiff,reduceIte])
       ·exact h0
       ·exact h1
       ·exact h6
       ·exact h8
    ·rw[if_neg hc]at hx
     obtain⟨pa,pc,todo⟩:=p2
     cases P6 with
     |true =>
      cases todo with
      |mk _ _ _ _ _=>exact absurd ⟨rfl,rfl⟩ hc
      |nil =>
       rw[if_pos rfl]at hx
       cases hx
       unfold aB.aF aB.aA pO
       simp only[zX,simprocAttr,zM,aR,aI.d,h0,h1,h3,h6,h8]
       refine⟨⟨_,rfl⟩,?_⟩
       refine an mix [] [(0,[3],[]),(2,[0],[]),(3,[0],[]),(4,[0],[]),(6,[4],[4])] (by rfl) ?_
       simp only[zX,simprocAttr,zM,aR,aI.d,h0,h1,h3,h6,h8]
       first|exact⟨ak m2 b a,rfl⟩|exact ak m2 b a
     |false =>
      rw[if_neg (fun h=>by cases h)]at hx
      by_cases hb:m2.top=base
      ·rw[if_pos hb]at hx
       cases hx
       have Rx:((m2.top:Int)=(base:Int))=True:=eq_true (by omega)
       unfold aB.aF aB.aA pO
       simp only[zX,simprocAttr,zM,aR,h0,h1,h3,h6,h8,Rx]
       first|exact⟨ak m2 b a,rfl⟩|exact ak m2 b a
      ·rw[if_neg hb]at hx
       have Rx:((m2.top:Int)=(base:Int))=False:=eq_false (by omega)
       by_cases ht:m2.top=0∨m2.dY.length<m2.top∨1200000000000<m2.top
       ·rw[if_pos ht]at hx;cases hx
       rw[if_neg ht]at hx
       cases hl:m2.dY[m2.top-1]? with
       |none=>rw[hl]at hx;cases hx
       |some o =>
        rw[hl]at hx
        cases o with
        |none=>cases hx
        |some last =>
         simp only at hx
         have GA:F5 b a (some last)=[V.d (D.sc (.int .i64 last.at_)),.d (bd last.ai),.d (last.todo.d b a)]:=rfl
         have w1:IntKind.i64.wrap ((m2.top:Int)-1)=(m2.top:Int)-1:=bR _ (by omega)
         have TL:=Me m2 b a
         have q1:(0:Int)≤(m2.top:Int)-1:=by omega
         have q2:(m2.top:Int)-1<(m2.top:Int):=by omega
         have q3:((m2.top:Int)-1).toNat=m2.top-1:=by omega
         have q4:(m2.top:Int)-1≤(m2.top:Int):=by omega
         have q5:m2.top≤m2.dY.length:=by omega
         have q6:m2.pop.dY.length=m2.dY.length:=by simp [aB.pop]
         have q7:m2.top≤m2.pop.dY.length:=by omega
         have q8:min m2.top m2.pop.dY.length=m2.top:=by omega
         have q9:min m2.top m2.dY.length=m2.top:=by omega
         unfold aB.aF aB.aA pO
         simp only[zX,simprocAttr,zM,aR,h0,h1,h3,h6,h8,Rx,w1,q1,q2,q3,q4,q5,q6,q7,q8,q9,VU,hl,GA,TL,Wc,V3,Vv,VC,VK,List.drop,List.take,Int.sub_zero]
         refine⟨i,_,_,by omega,dt.refl,i,m2.pop,last,true,rfl,by omega,?_,?_,?_,?_,?_,rfl,hx⟩ <;> (try simp only[zU,Nat.reduceBEq,Nat.reduceShiftRight,Nat.reduceMod,Nat.reduceEqDiff,reduceIte])
         ·exact h0
         ·exact h1
         ·exact h6
         ·exact h8
theorem zv (k:Nat):bz k:=by
 induction k using Nat.strongRecOn with
 |ind k ih=>exact BE ih
def fQ (bG:Bool) (t:List Int) (at_ fuel:Int):Int :=
 if 65536<t.length then 4 else if t.all (mS bG)=false then 1 else if fuel<0∨1099511627776<fuel then 1 else if at_<0∨(t.length:Int)<at_ then 5 else 0
theorem bU (g b a:Nat) (m:aB) (T:V) (hT:ar 3 T=true):az prog 23 [.pp 0 g 0 0 b a] (m.aA g b a T) fun v s=>v=i64 m.aC∧s=m.aA g b a T:=by
 have hM:=cB m b a T hT
 unfold aB.aA
 refine av func23 rfl ntmps23 results23 rfl 3 5 (by simp) (by simp) ?_
 simp only[zX,simprocAttr,zM,aR]
 first|exact⟨hM,rfl⟩|exact hM
def aB.res (m:aB) (p:ao) (found:Bool):List V :=
 if m.aW=true then [i64 0,i64 0,.d (.sl []),bV false,i64 0,i64 11]
 else if found=true then [i64 m.start,i64 p.at_,.d (bd p.ai),bV true,i64 m.steps,i64 0]
 else [i64 0,i64 0,.d (.sl []),bV false,i64 m.steps,i64 0]
def aB.done (m:aB) (found:Bool):aB:={ m with ready:=found&&!m.aW }
theorem zq (g b a:Nat) (m:aB) (p:ao) (found:Bool) (hc:p.ai.length≤1000000000):az prog 51 [.pp 0 g 0 0 b a,p.v b a,bV found] (m.aF g b a) fun v s=>v=.ag (m.res p found)∧s=(m.done found).aF g b a:=by
 have K8:=Ar p.ai hc
 have hM:=ak (m.done found) b a
 have hT:(m.done found).text=m.text:=rfl
 unfold aB.aF aB.aA
 rw[hT]
 cases hs:m.aW with
 |true =>
  have hr:m.res p found=[i64 0,i64 0,.d (.sl []),bV false,i64 0,i64 11]:=if_pos hs
  rw[hr]
  cases found with
  |true =>
   refine av func51 rfl ntmps51 results51 rfl 3 215 (by simp) (by simp) ?_
   simp only[zX,simprocAttr,zM,aR,hs,Vs]
   exact⟨hM,by simp only[aB.done,hs,Vs,Vt,Bool.and_false,Wy,Bool.false_and,Bool.true_and]⟩
  |false =>
   refine av func51 rfl ntmps51 results51 rfl 3 215 (by simp) (by simp) ?_
   simp only[zX,simprocAttr,zM,aR,hs,Vs]
   exact⟨hM,by simp only[aB.done,hs,Vs,Vt,Bool.and_false,Wy,Bool.false_and,Bool.true_and]⟩
 |false =>
  have hr:m.res p found=if found=true then [i64 m.start,i64 p.at_,.d (bd p.ai),bV true,i64 m.steps,i64 0] else [i64 0,i64 0,.d (.sl []),bV false,i64 m.steps,i64 0]:=if_neg (by rw[hs];exact V1)
  rw[hr]
  cases found with
  |true =>
   rw[if_pos rfl]
   refine av func51 rfl ntmps51 results51 rfl 3 215 (by simp) (by simp) ?_
   simp only[zX,simprocAttr,zM,aR,hs,Vt]
   refine an mix [] [(1,[0],[]),(2,[0],[]),(3,[0],[]),(4,[3],[]),(5,[3],[]),(6,[3],[]),(7,[3],[]),(10,[5],[]),(11,[5],[5])] (by rfl) ?_
   simp only[zX,simprocAttr,zM,aR]
   refine cz K8 rfl rfl ?_
   simp only[zX,simprocAttr,zM,aR]
   exact⟨hM,by simp only[aB.done,hs,Vs,Vt,Bool.and_false,Wy,Bool.false_and,Bool.true_and]⟩
  |false =>
   rw[if_neg V1]
   refine av func51 rfl ntmps51 results51 rfl 3 215 (by simp) (by simp) ?_
   simp only[zX,simprocAttr,zM,aR,hs,Vt]
   exact⟨hM,by simp only[aB.done,hs,Vs,Vt,Bool.and_false,Wy,Bool.false_and,Bool.true_and]⟩
def aB.kept (m:aB):aB:=if m.ready=true∧0<m.top then { m with bq:=true,own:=m.t,ew:=m.ew+1 } else { m with t:=[],bq:=false }
def aB.gW (m:aB):V:=if m.ready=true∧0<m.top then .so 2 (m.ew+1) 0 m.t.length else .fu []
theorem Ly (g b a:Nat) (m:aB) (ht:m.t.length≤1000000) (hT:m.bq=false):az prog 54 [.pp 0 g 0 0 b a] (m.aF g b a) fun v s=>v=.tu []∧s=m.kept.aA g b a m.gW:=by
 rw[mT hT]
 by_cases c:m.ready=true∧0<m.top
 ·have e1:m.kept={ m with bq:=true,own:=m.t,ew:=m.ew+1 }:=if_pos c
  have e2:m.gW=.so 2 (m.ew+1) 0 m.t.length:=if_pos c
  rw[e1,e2]
  have hM:=cB { m with bq:=true,own:=m.t,ew:=m.ew+1 } b a (.so 2 (m.ew+1) 0 m.t.length) rfl
  have c2:(0:Int)<(m.top:Int):=by omega
  unfold aB.aA
  refine av func54 rfl ntmps54 results54 rfl 3 1 (by simp) (by simp) ?_
  simp only[zX,simprocAttr,zM,aR,ay,c.1,c2,gt_iff_lt]
  refine an mix [] [(2,[0],[]),(3,[0],[]),(4,[0],[]),(5,[2],[]),(7,[0],[]),(8,[0],[]),(9,[0],[]),(10,[2],[2]),(11,[0],[]),(12,[0],[]),(13,[0],[0])] (by rfl) ?_
  simp only[zX,simprocAttr,zM,aR,ay,V3,Vv,Nat.min_self,VA,Int.sub_self,Int.toNat_zero,VU,AT]
  have Sj:(m.t.map fun x=>[D.sc (Value.int IntKind.i64 x)]).map (fun x=>x.map V.d)=m.t.map fun x=>[V.d (D.sc (Value.int IntKind.i64 x))]:=by rw[List.map_map];rfl
  rw[Sj]
  exact⟨fun e he=>by obtain⟨x,_,rfl⟩:=List.mem_map.1 he;rfl,⟨by omega,by omega⟩,hM,rfl⟩
 ·have e1:m.kept={ m with t:=[],bq:=false }:=if_neg c
  have e2:m.gW=.fu []:=if_neg c
  rw[e1,e2]
  have hM:=cB { m with t:=[],bq:=false } b a (.fu []) rfl
  cases hr:m.ready with
  |false =>
   unfold aB.aA
   refine av func54 rfl ntmps54 results54 rfl 3 1 (by simp) (by simp) ?_
   simp only[zX,simprocAttr,zM,aR,hr]
   first|exact⟨hM,rfl⟩|exact hM
  |true =>
   have c2:¬(0:Int)<(m.top:Int):=fun h=>c ⟨hr,by omega⟩
   unfold aB.aA
   refine av func54 rfl ntmps54 results54 rfl 3 1 (by simp) (by simp) ?_
   simp only[zX,simprocAttr,zM,aR,hr,c2,gt_iff_lt]
   first|exact⟨hM,rfl⟩|exact hM
theorem Di (n:Int):IntKind.u64.wrap n=n % 18446744073709551616:=by
 simp [IntKind.wrap,IntKind.bits,IntKind.signed]
theorem FT (x top:Int) (hx:iV x) (h0:0≤top) (h1:top≤1114111):(IntKind.u64.wrap top<IntKind.u64.wrap x) ↔ ¬(0≤x∧x≤top):=by
 unfold iV at hx
 rw[Di,Di]
 omega
theorem jP (bG:Bool):0≤fk bG∧fk bG≤1114111:=by
 unfold fk;split <;> omega
theorem Br (g b a:Nat) (m:aB) (T:V) (hT:ar 3 T=true) (t:List Int) (at_ fuel:Int) (ht:t.length≤1000000000) (hI:∀x∈t,iV x) :
  az prog 50 [.pp 0 g 0 0 b a,.d (ay t),i64 at_,i64 fuel] (m.aA g b a T) fun v s=>v=i64 (fQ m.p.bG t at_ fuel)∧s=m.aA g b a T:=by
 have hM:=cB m b a T hT
 have U1:=jP m.p.bG
 unfold fQ
 by_cases c1:65536<t.length
 ·rw[if_pos c1]
  have Le:(65536:Int)<(t.length:Int):=by omega
  cases hr:m.p.bG with
  |true =>
   unfold aB.aA
   refine av func50 rfl ntmps50 results50 rfl 3 7342863 (by simp) (by simp) ?_
   simp only[zX,simprocAttr,zM,aR,hr,ay,Le,gt_iff_lt]
   first|exact⟨hM,rfl⟩|exact hM
  |false =>
   unfold aB.aA
   refine av func50 rfl ntmps50 results50 rfl 3 7342863 (by simp) (by simp) ?_
   simp only[zX,simprocAttr,zM,aR,hr,ay,Le,gt_iff_lt]
   first|exact⟨hM,rfl⟩|exact hM
 ·rw[if_neg c1]
  have Le:¬(65536:Int)<(t.length:Int):=by omega
  cases hr:m.p.bG with
  |true =>
   unfold aB.aA
   refine av func50 rfl ntmps50 results50 rfl 3 7342863 (by simp) (by simp) ?_
   simp only[zX,simprocAttr,zM,aR,hr,ay,Le,gt_iff_lt]
   refine aY (fun n e s=>∃i:Nat,n=t.length-i∧i≤t.length∧e 1=.d (ay t)∧e 2=i64 at_∧e 3=i64 fuel∧e 9=i64 (fk true)∧e 20=.d (ay t)∧e 21=i64 t.length∧e 22=i64 i∧s=m.aA g b a T∧(t.take i).all (mS true)=true)
    ⟨_,_,_,dt.refl,0,rfl,by omega,rfl,rfl,rfl,rfl,rfl,rfl,rfl,by unfold aB.aA;rw[hr];rfl,by simp⟩ ?_
   rintro n e s ⟨i,rfl,hi,h1,h2,h3,h9,gJ,tT,xf,rfl,gI⟩
   rcases VX i t.length with aT|iR
   ·obtain⟨x,hx⟩:∃x,t[i]?=some x:=⟨_,Vu aT⟩
    have cn:(i:Int)<t.length:=by omega
    have hs:=FT x (fk true) (hI x (Vy hx)) (jP true).1 (jP true).2
    by_cases d1:0≤x∧x≤fk true
    ·have nq:¬IntKind.u64.wrap (fk true)<IntKind.u64.wrap x:=fun h=>hs.1 h d1
     simp only[zX,simprocAttr,zM,aR,h1,h2,h3,h9,gJ,tT,xf,cn,aT,ay,hx,gt_iff_lt,nq]
     refine⟨t.length-(i+1),_,_,by omega,dt.refl,i+1,rfl,aT,?_,?_,?_,?_,?_,?_,?_,rfl,?_⟩ <;> (try simp only[zU,Nat.reduceBEq,Nat.reduceShiftRight,Nat.reduceMod,Nat.reduceEqDiff,reduceIte])
     ·exact h1
     ·exact h2
     ·exact h3
     ·exact h9
     ·exact gJ
     ·exact tT
     ·rw[bR _ (by omega)];rfl
     ·exact kd hx gI (by rw[mS,decide_eq_true d1.1,decide_eq_true d1.2];rfl)
    ·have nq:IntKind.u64.wrap (fk true)<IntKind.u64.wrap x:=hs.2 d1
     have hf:t.all (mS true)=false:=all_false hx (by
      unfold mS
      rw[V6];intro h
      simp only[VE,decide_eq_true_eq]at h
      exact d1 h)
     rw[if_pos hf]
     unfold aB.aA
     simp only[zX,simprocAttr,zM,aR,hr,h1,h2,h3,h9,gJ,tT,xf,cn,aT,ay,hx,gt_iff_lt,nq]
     first|exact⟨hM,rfl⟩|exact hM
   ·have kT:i=t.length:=by omega
    subst kT
    have cn:¬(t.length:Int)<t.length:=by omega
    rw[We]at gI
    rw[gI,if_neg (by decide)]
    unfold aB.aA
    by_cases d1:fuel<0
    ·rw[if_pos (.inl d1)]
     simp only[zX,simprocAttr,zM,aR,hr,h1,h2,h3,h9,gJ,tT,xf,cn,ay,gt_iff_lt,d1]
     first|exact⟨hM,rfl⟩|exact hM
    ·by_cases d2:1099511627776<fuel
     ·rw[if_pos (.inr d2)]
      simp only[zX,simprocAttr,zM,aR,hr,h1,h2,h3,h9,gJ,tT,xf,cn,ay,gt_iff_lt,d1,d2]
      first|exact⟨hM,rfl⟩|exact hM
     ·rw[if_neg (by omega)]
      by_cases d3:at_<0
      ·rw[if_pos (.inl d3)]
       simp only[zX,simprocAttr,zM,aR,hr,h1,h2,h3,h9,gJ,tT,xf,cn,ay,gt_iff_lt,d1,d2,d3]
       first|exact⟨hM,rfl⟩|exact hM
      ·by_cases d4:(t.length:Int)<at_
       ·rw[if_pos (.inr d4)]
        simp only[zX,simprocAttr,zM,aR,hr,h1,h2,h3,h9,gJ,tT,xf,cn,ay,gt_iff_lt,d1,d2,d3,d4]
        first|exact⟨hM,rfl⟩|exact hM
       ·rw[if_neg (by omega)]
        simp only[zX,simprocAttr,zM,aR,hr,h1,h2,h3,h9,gJ,tT,xf,cn,ay,gt_iff_lt,d1,d2,d3,d4]
        first|exact⟨hM,rfl⟩|exact hM
  |false =>
   unfold aB.aA
   refine av func50 rfl ntmps50 results50 rfl 3 7342863 (by simp) (by simp) ?_
   simp only[zX,simprocAttr,zM,aR,hr,ay,Le,gt_iff_lt]
   refine aY (fun n e s=>∃i:Nat,n=t.length-i∧i≤t.length∧e 1=.d (ay t)∧e 2=i64 at_∧e 3=i64 fuel∧e 9=i64 (fk false)∧e 20=.d (ay t)∧e 21=i64 t.length∧e 22=i64 i∧s=m.aA g b a T∧(t.take i).all (mS false)=true)
    ⟨_,_,_,dt.refl,0,rfl,by omega,rfl,rfl,rfl,rfl,rfl,rfl,rfl,by unfold aB.aA;rw[hr];rfl,by simp⟩ ?_
   rintro n e s ⟨i,rfl,hi,h1,h2,h3,h9,gJ,tT,xf,rfl,gI⟩
   rcases VX i t.length with aT|iR
   ·obtain⟨x,hx⟩:∃x,t[i]?=some x:=⟨_,Vu aT⟩
    have cn:(i:Int)<t.length:=by omega
    have hs:=FT x (fk false) (hI x (Vy hx)) (jP false).1 (jP false).2
    by_cases d1:0≤x∧x≤fk false
    ·have nq:¬IntKind.u64.wrap (fk false)<IntKind.u64.wrap x:=fun h=>hs.1 h d1
     simp only[zX,simprocAttr,zM,aR,h1,h2,h3,h9,gJ,tT,xf,cn,aT,ay,hx,gt_iff_lt,nq]
     refine⟨t.length-(i+1),_,_,by omega,dt.refl,i+1,rfl,aT,?_,?_,?_,?_,?_,?_,?_,rfl,?_⟩ <;> (try simp only[zU,Nat.reduceBEq,Nat.reduceShiftRight,Nat.reduceMod,Nat.reduceEqDiff,reduceIte])
     ·exact h1
     ·exact h2
     ·exact h3
     ·exact h9
     ·exact gJ
     ·exact tT
     ·rw[bR _ (by omega)];rfl
     ·exact kd hx gI (by rw[mS,decide_eq_true d1.1,decide_eq_true d1.2];rfl)
    ·have nq:IntKind.u64.wrap (fk false)<IntKind.u64.wrap x:=hs.2 d1
     have hf:t.all (mS false)=false:=all_false hx (by
      unfold mS
      rw[V6];intro h
      simp only[VE,decide_eq_true_eq]at h
      exact d1 h)
     rw[if_pos hf]
     unfold aB.aA
     simp only[zX,simprocAttr,zM,aR,hr,h1,h2,h3,h9,gJ,tT,xf,cn,aT,ay,hx,gt_iff_lt,nq]
     first|exact⟨hM,rfl⟩|exact hM
   ·have kT:i=t.length:=by omega
    subst kT
    have cn:¬(t.length:Int)<t.length:=by omega
    rw[We]at gI
    rw[gI,if_neg (by decide)]
    unfold aB.aA
    by_cases d1:fuel<0
    ·rw[if_pos (.inl d1)]
     simp only[zX,simprocAttr,zM,aR,hr,h1,h2,h3,h9,gJ,tT,xf,cn,ay,gt_iff_lt,d1]
     first|exact⟨hM,rfl⟩|exact hM
    ·by_cases d2:1099511627776<fuel
     ·rw[if_pos (.inr d2)]
      simp only[zX,simprocAttr,zM,aR,hr,h1,h2,h3,h9,gJ,tT,xf,cn,ay,gt_iff_lt,d1,d2]
      first|exact⟨hM,rfl⟩|exact hM
     ·rw[if_neg (by omega)]
      by_cases d3:at_<0
      ·rw[if_pos (.inl d3)]
       simp only[zX,simprocAttr,zM,aR,hr,h1,h2,h3,h9,gJ,tT,xf,cn,ay,gt_iff_lt,d1,d2,d3]
       first|exact⟨hM,rfl⟩|exact hM
      ·by_cases d4:(t.length:Int)<at_
       ·rw[if_pos (.inr d4)]
        simp only[zX,simprocAttr,zM,aR,hr,h1,h2,h3,h9,gJ,tT,xf,cn,ay,gt_iff_lt,d1,d2,d3,d4]
        first|exact⟨hM,rfl⟩|exact hM
       ·rw[if_neg (by omega)]
        simp only[zX,simprocAttr,zM,aR,hr,h1,h2,h3,h9,gJ,tT,xf,cn,ay,gt_iff_lt,d1,d2,d3,d4]
        first|exact⟨hM,rfl⟩|exact hM
end Go.Proofs.Ytllagoeijcjpiaa
