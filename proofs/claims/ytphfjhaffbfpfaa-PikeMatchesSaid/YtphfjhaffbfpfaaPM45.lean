/- A part of the proof (G37 G38 G39). -/
import Derived.Test.YtphfjhaffbfpfaaPM3
import Derived.Test.YtphfjhaffbfpfaaPM7
import Derived.Test.YtphfjhaffbfpfaaPM14
import Derived.Test.YtphfjhaffbfpfaaPM44
set_option linter.all false
set_option maxRecDepth 100000
set_option maxHeartbeats 80000000
namespace Go.Proofs.Ytphfjhaffbfpfaa
open Go.VL Go.Proofs.Try
theorem G6 {k:Nat} (ih:bw k) (g b a:Nat) (m:aA) (p:aw) {x:Rs} (hx:gX (λm base p=>bn k true m base p true) m p=some x) :
  au prog 47 [.pp 0 g 0 0 b a,p.v b a] (m.aB g b a) λv s=>v=aO b a x.2.1 x.2.2/\s=x.1.aB g b a:=by
 obtain⟨pa,pc,todo⟩:=p;have hm:m.bW ⟨pa,pc,todo⟩:=by
  unfold gX at hx;by_cases h:m.bW ⟨pa,pc,todo⟩
  ·exact h
  ·rw[ap h]at hx;cases hx
 cases todo with
 |nil =>
  unfold gX at hx;rw[am (by simpa using hm)]at hx;cases hx
 |mk kind r n at_ next =>
  by_cases c0:kind=0
  ·exact Vr ih g b a m r pa pc kind n at_ next hm c0 hx
  by_cases c2:kind=2
  ·exact VT ih g b a m r pa pc kind n at_ next hm c2 hx
  by_cases c3:kind=3
  ·exact WM ih g b a m r pa pc kind n at_ next hm c3 hx
  by_cases c5:kind=5
  ·exact Wq ih g b a m r pa pc kind n at_ next hm c5 hx
  by_cases c1:kind=1
  ·cases r with
   |nil =>
    unfold gX at hx;rw[am (by simpa using hm)]at hx;simp only at hx;rw[am (by omega)]at hx;split at hx
    ·cases hx
    ·cases hx
   |root=>exact H4 ih g b a m pa pc kind n at_ next hm c1 hx
   |el re=>exact Pw ih g b a m re pa pc kind n at_ next hm c1 hx
  by_cases c4:kind=4
  ·cases r with
   |nil =>
    unfold gX at hx;rw[am (by simpa using hm)]at hx;simp only at hx;rw[am (by omega)]at hx;split at hx
    ·cases hx
    ·cases hx
   |root=>exact H9 ih g b a m pa pc kind n at_ next hm c4 hx
   |el re=>exact N4 ih g b a m re pa pc kind n at_ next hm c4 hx
  exfalso;unfold gX at hx;rw[am (by simpa using hm)]at hx;simp only at hx;rw[am (by omega)]at hx;split at hx
  ·cases hx
  ·cases hx
def pO (b a:Nat) (p:aw):List VL.Obj:=[⟨0,true,3,[[.d (iD p.at_),.d (bQ p.ah),.d (p.todo.d b a)]]⟩,⟨0,true,3,[[.d (iD 0),.fu [],.d (.sc (.pointer none))]]⟩]
theorem QB (m:aA) (b a:Nat):(m.gj.map (KZ b a)).set (m.top-1) [.d (.sc (.int .i64 0)),.fu [],.d (.sc (.pointer none))]=m.pop.gj.map (KZ b a):=by unfold aA.pop;simp only[List.map_set,KZ]
theorem F4 {k:Nat} (ih:∀j,j<k->bw j):bw k:=by
 intro g b a m base p alive x hx;unfold aA.aB aA.ay;refine ar func22 rfl ntmps22 results22 rfl 3 1871 (by simp) (by simp) ?_;simp only[zX,simprocAttr,zM,aO];refine aJ (λn e s=>∃(j:Nat) (m1:aA) (p1:aw) (al:Bool),n=j/\j<=k/\e 0=.pp 0 g 0 0 b a/\e 1=i64 (base:Nat)/\e 3=bV al/\e 6=.rf 3 0 0 0/\e 8=.rf 4 0 0 0/\s=m1.aB g b a++pO b a p1/\bn j true m1 base p1 al=some x)
  ⟨_,_,_,cU.refl,k,m,p,alive,rfl,adB _,rfl,rfl,rfl,rfl,rfl,rfl,hx⟩ ?_
 clear hx;rintro n e s ⟨j,m1,p1,al,rfl,hj,h0,h1,h3,h6,h8,rfl,hx⟩;cases n with
 |zero=>cases hx
 |succ j =>
  by_cases du:m1.bU=true
  ·have nK:=hx;simp only[bn]at nK;rw[ap ⟨trivial,du⟩]at nK;cases nK;unfold aA.aB aA.ay pO;simp only[zX,simprocAttr,zM,aO,h0,h1,h3,h6,h8,du,ads];exact⟨an m1 b a,rfl⟩
  ·have Ux:m1.bU=false:=by simpa using du
   have MV:bn (j+1) false m1 base p1 al=some x:=by simp only[bn]at hx ⊢;rw[am (λh=>du h.2)]at hx;rw[am (λh=>by cases h.1)];exact hx
   clear hx;unfold aA.aB aA.ay pO;simp only[zX,simprocAttr,zM,aO,h0,h1,h3,h6,h8,Ux,adz];refine aJ (λn e s=>∃(i:Nat) (m2:aA) (p2:aw) (Wu:Bool),n=i/\i<=j+1/\e 0=.pp 0 g 0 0 b a/\e 1=i64 (base:Nat)/\e 3=bV Wu/\e 6=.rf 3 0 0 0/\e 8=.rf 4 0 0 0/\s=m2.aB g b a++pO b a p2/\bn i false m2 base p2 Wu=some x)
    ⟨_,_,_,cU.refl,j+1,m1,p1,al,rfl,adB _,?_,?_,?_,?_,?_,?_,MV⟩ ?_ <;> (try simp only[zU,Nat.reduceBEq,Nat.reduceShiftRight,Nat.reduceMod,Nat.reduceEqDiff,reduceIte])
   ·exact h0
   ·exact h1
   ·exact h3
   ·exact h6
   ·exact h8
   ·unfold aA.aB aA.ay pO;simp only[Ux];rfl
   clear MV h0 h1 h3 h6 h8 du Ux;rintro n e s ⟨i,m2,p2,Wu,rfl,hi,h0,h1,h3,h6,h8,rfl,hx⟩;cases n with
   |zero=>cases hx
   |succ i =>
    simp only[bn]at hx;rw[am (λh=>by cases h.1)]at hx;by_cases hc:Wu=true/\p2.goals=true
    ·rw[ap hc]at hx;obtain⟨rfl,hg⟩:=hc;obtain⟨pa,pc,todo⟩:=p2;cases todo with
     |nil=>cases hg
     |mk kind r kn at_ next =>
      cases qu:gX (λm base p=>bn i true m base p true) m2 ⟨pa,pc,.mk kind r kn at_ next⟩ with
      |none=>rw[qu]at hx;cases hx
      |some y =>
       obtain⟨m3,p3,al3⟩:=y;rw[qu]at hx;simp only at hx;have cZ:=λext=>bt (G6 (ih i (by omega)) g b a m2 _ qu) rfl rfl rfl ext;unfold aA.aB aA.ay at cZ;simp only[zM,aO,aF.bu]at cZ;unfold aA.aB aA.ay pO;simp only[zX,simprocAttr,zM,aO,aF.bu,h0,h1,h3,h6,h8];refine⟨⟨_,rfl⟩,?_⟩;refine aj (cZ _) (λv s' hv=>?_);obtain⟨rfl,rfl⟩:=hv;simp only[zX,simprocAttr,zM,aO,h0,h1,h3,h6,h8];refine⟨i,_,_,by omega,cU.refl,i,m3,p3,al3,rfl,by omega,?_,?_,?_,?_,?_,rfl,hx⟩ <;> (try simp only[zU,Nat.reduceBEq,Nat.reduceShiftRight,Nat.reduceMod,Nat.reduceEqDiff,reduceIte])
       ·exact h0
       ·exact h1
       ·exact h6
       ·exact h8
    ·rw[am hc]at hx;obtain⟨pa,pc,todo⟩:=p2;cases Wu with
     |true =>
      cases todo with
      |mk _ _ _ _ _=>exact absurd ⟨rfl,rfl⟩ hc
      |nil =>
       rw[ap rfl]at hx;cases hx;unfold aA.aB aA.ay pO;simp only[zX,simprocAttr,zM,aO,aF.d,h0,h1,h3,h6,h8];refine⟨⟨_,rfl⟩,?_⟩;refine ao mix [] [(0,[3],[]),(2,[0],[]),(3,[0],[]),(4,[0],[]),(6,[4],[4])] (by rfl) ?_;simp only[zX,simprocAttr,zM,aO,aF.d,h0,h1,h3,h6,h8];first|exact⟨an m2 b a,rfl⟩|exact an m2 b a
     |false =>
      rw[am (λh=>by cases h)]at hx;by_cases hb:m2.top=base
      ·rw[ap hb]at hx;cases hx;have Y2:((m2.top:Int)=(base:Int))=True:=eq_true (by omega);unfold aA.aB aA.ay pO;simp only[zX,simprocAttr,zM,aO,h0,h1,h3,h6,h8,Y2];first|exact⟨an m2 b a,rfl⟩|exact an m2 b a
      ·rw[am hb]at hx;have Y2:((m2.top:Int)=(base:Int))=False:=eq_false (by omega);by_cases ht:m2.top=0\/m2.gj.length<m2.top\/1200000000000<m2.top
       ·rw[ap ht]at hx;cases hx
       rw[am ht]at hx;cases hl:m2.gj[m2.top-1]? with
       |none=>rw[hl]at hx;cases hx
       |some o =>
        rw[hl]at hx;cases o with
        |none=>cases hx
        |some last =>
         simp only at hx;have MO:KZ b a (some last)=[V.d (D.sc (.int .i64 last.at_)),.d (bQ last.ah),.d (last.todo.d b a)]:=rfl;have w1:IntKind.i64.wrap ((m2.top:Int)-1)=(m2.top:Int)-1:=bM _ (by omega);have hps:=QB m2 b a;have q1:(0:Int)<=(m2.top:Int)-1:=by omega
         have q2:(m2.top:Int)-1<(m2.top:Int):=by omega
         have q3:((m2.top:Int)-1).toNat=m2.top-1:=by omega
         have q4:(m2.top:Int)-1<=(m2.top:Int):=by omega
         have q5:m2.top<=m2.gj.length:=by omega
         have q6:m2.pop.gj.length=m2.gj.length:=by simp [aA.pop]
         have q7:m2.top<=m2.pop.gj.length:=by omega
         have q8:min m2.top m2.pop.gj.length=m2.top:=by omega
         have q9:min m2.top m2.gj.length=m2.top:=by omega
         unfold aA.aB aA.ay pO;simp only[zX,simprocAttr,zM,aO,h0,h1,h3,h6,h8,Y2,w1,q1,q2,q3,q4,q5,q6,q7,q8,q9,adI,hl,MO,hps,ad9,ad5,ado,adA,adF,List.drop,List.take,Int.sub_zero];refine⟨i,_,_,by omega,cU.refl,i,m2.pop,last,true,rfl,by omega,?_,?_,?_,?_,?_,rfl,hx⟩ <;> (try simp only[zU,Nat.reduceBEq,Nat.reduceShiftRight,Nat.reduceMod,Nat.reduceEqDiff,reduceIte])
         ·exact h0
         ·exact h1
         ·exact h6
         ·exact h8
theorem ME (k:Nat):bw k:=by
 induction k using Nat.strongRecOn with
 |ind k ih=>exact F4 ih
def iS (aK:Bool) (t:List Int) (at_ fuel:Int):Int :=
 if 65536<t.length then 4 else if t.all (n5 aK)=false then 1 else if fuel<0\/1099511627776<fuel then 1 else if at_<0\/(t.length:Int)<at_ then 5 else 0
def aA.res (m:aA) (p:aw) (found:Bool):List V :=
 if m.bU=true then [i64 0,i64 0,.d (.sl []),bV false,i64 0,i64 11]
 else if found=true then [i64 m.start,i64 p.at_,.d (bQ p.ah),bV true,i64 m.steps,i64 0]
 else [i64 0,i64 0,.d (.sl []),bV false,i64 m.steps,i64 0]
def aA.done (m:aA) (found:Bool):aA:={ m with ready:=found&&!m.bU }
theorem Lw (g b a:Nat) (m:aA) (p:aw) (found:Bool) (hc:p.ah.length<=1000000000):au prog 21 [.pp 0 g 0 0 b a,p.v b a,bV found] (m.aB g b a) λv s=>v=.ag (m.res p found)/\s=(m.done found).aB g b a:=by
 have vZ:=CF p.ah hc;have hM:=an (m.done found) b a;have hT:(m.done found).text=m.text:=rfl;unfold aA.aB aA.ay;rw[hT];cases hs:m.bU with
 |true =>
  have hr:m.res p found=[i64 0,i64 0,.d (.sl []),bV false,i64 0,i64 11]:=ap hs;rw[hr];cases found with
  |true =>
   refine ar func21 rfl ntmps21 results21 rfl 3 215 (by simp) (by simp) ?_;simp only[zX,simprocAttr,zM,aO,hs,ads];exact⟨hM,by simp only[aA.done,hs,ads,adz,Bool.and_false,Bool.and_true,Bool.false_and,Bool.true_and]⟩
  |false =>
   refine ar func21 rfl ntmps21 results21 rfl 3 215 (by simp) (by simp) ?_;simp only[zX,simprocAttr,zM,aO,hs,ads];exact⟨hM,by simp only[aA.done,hs,ads,adz,Bool.and_false,Bool.and_true,Bool.false_and,Bool.true_and]⟩
 |false =>
  have hr:m.res p found=if found=true then [i64 m.start,i64 p.at_,.d (bQ p.ah),bV true,i64 m.steps,i64 0] else [i64 0,i64 0,.d (.sl []),bV false,i64 m.steps,i64 0]:=am (by rw[hs];exact ad2)
  rw[hr];cases found with
  |true =>
   rw[ap rfl];refine ar func21 rfl ntmps21 results21 rfl 3 215 (by simp) (by simp) ?_;simp only[zX,simprocAttr,zM,aO,hs,adz];refine ao mix [] [(1,[0],[]),(2,[0],[]),(3,[0],[]),(4,[3],[]),(5,[3],[]),(6,[3],[]),(7,[3],[]),(10,[5],[]),(11,[5],[5])] (by rfl) ?_;simp only[zX,simprocAttr,zM,aO];refine bY vZ rfl rfl ?_;simp only[zX,simprocAttr,zM,aO];exact⟨hM,by simp only[aA.done,hs,ads,adz,Bool.and_false,Bool.and_true,Bool.false_and,Bool.true_and]⟩
  |false =>
   rw[am ad2];refine ar func21 rfl ntmps21 results21 rfl 3 215 (by simp) (by simp) ?_;simp only[zX,simprocAttr,zM,aO,hs,adz];exact⟨hM,by simp only[aA.done,hs,ads,adz,Bool.and_false,Bool.and_true,Bool.false_and,Bool.true_and]⟩
def aA.kept (m:aA):aA:=if m.ready=true/\0<m.top then { m with bC:=true,own:=m.t,eV:=m.eV+1 } else { m with t:=[],bC:=false }
def aA.kB (m:aA):V:=if m.ready=true/\0<m.top then .so 2 (m.eV+1) 0 m.t.length else .fu []
theorem RK (g b a:Nat) (m:aA) (ht:m.t.length<=1000000) (hT:m.bC=false):au prog 24 [.pp 0 g 0 0 b a] (m.aB g b a) λv s=>v=.tu []/\s=m.kept.ay g b a m.kB:=by
 rw[oe hT];by_cases c:m.ready=true/\0<m.top
 ·have e1:m.kept={ m with bC:=true,own:=m.t,eV:=m.eV+1 }:=ap c;have e2:m.kB=.so 2 (m.eV+1) 0 m.t.length:=ap c;rw[e1,e2];have hM:=cT { m with bC:=true,own:=m.t,eV:=m.eV+1 } b a (.so 2 (m.eV+1) 0 m.t.length) rfl;have c2:(0:Int)<(m.top:Int):=by omega
  unfold aA.ay;refine ar func24 rfl ntmps24 results24 rfl 3 1 (by simp) (by simp) ?_;simp only[zX,simprocAttr,zM,aO,av,c.1,c2,gt_iff_lt];refine ao mix [] [(2,[0],[]),(3,[0],[]),(4,[0],[]),(5,[2],[]),(7,[0],[]),(8,[0],[]),(9,[0],[]),(10,[2],[2]),(11,[0],[]),(12,[0],[]),(13,[0],[0])] (by rfl) ?_;simp only[zX,simprocAttr,zM,aO,av,ad5,ado,Nat.min_self,adB,Int.sub_self,Int.toNat_zero,adI,DC];have P2:(m.t.map λx=>[D.sc (Value.int IntKind.i64 x)]).map (λx=>x.map V.d)=m.t.map λx=>[V.d (D.sc (Value.int IntKind.i64 x))]:=by rw[List.map_map];rfl
  rw[P2];exact⟨λe he=>by obtain⟨x,_,rfl⟩:=List.mem_map.1 he;rfl,⟨by omega,by omega⟩,hM,rfl⟩
 ·have e1:m.kept={ m with t:=[],bC:=false }:=am c;have e2:m.kB=.fu []:=am c;rw[e1,e2];have hM:=cT { m with t:=[],bC:=false } b a (.fu []) rfl;cases hr:m.ready with
  |false =>
   unfold aA.ay;refine ar func24 rfl ntmps24 results24 rfl 3 1 (by simp) (by simp) ?_;simp only[zX,simprocAttr,zM,aO,hr];first|exact⟨hM,rfl⟩|exact hM
  |true =>
   have c2:¬(0:Int)<(m.top:Int):=λh=>c ⟨hr,by omega⟩;unfold aA.ay;refine ar func24 rfl ntmps24 results24 rfl 3 1 (by simp) (by simp) ?_;simp only[zX,simprocAttr,zM,aO,hr,c2,gt_iff_lt];first|exact⟨hM,rfl⟩|exact hM
theorem FM (n:Int):IntKind.u64.wrap n=n % 18446744073709551616:=by simp [IntKind.wrap,IntKind.bits,IntKind.signed]
theorem Ku (x top:Int) (hx:kg x) (h0:0<=top) (h1:top<=1114111):(IntKind.u64.wrap top<IntKind.u64.wrap x) ↔ ¬(0<=x/\x<=top):=by unfold kg at hx;rw[FM,FM];omega
theorem kU (aK:Bool):0<=fi aK/\fi aK<=1114111:=by unfold fi;split <;> omega
theorem Hg (g b a:Nat) (m:aA) (T:V) (hT:ak 3 T=true) (t:List Int) (at_ fuel:Int) (ht:t.length<=1000000000) (hI:∀x∈t,kg x) :
  au prog 20 [.pp 0 g 0 0 b a,.d (av t),i64 at_,i64 fuel] (m.ay g b a T) λv s=>v=i64 (iS m.p.aK t at_ fuel)/\s=m.ay g b a T:=by
 have hM:=cT m b a T hT;have htp:=kU m.p.aK;unfold iS;by_cases c1:65536<t.length
 ·rw[ap c1];have zr:(65536:Int)<(t.length:Int):=by omega
  cases hr:m.p.aK with
  |true =>
   unfold aA.ay;refine ar func20 rfl ntmps20 results20 rfl 3 7342863 (by simp) (by simp) ?_;simp only[zX,simprocAttr,zM,aO,hr,av,zr,gt_iff_lt];first|exact⟨hM,rfl⟩|exact hM
  |false =>
   unfold aA.ay;refine ar func20 rfl ntmps20 results20 rfl 3 7342863 (by simp) (by simp) ?_;simp only[zX,simprocAttr,zM,aO,hr,av,zr,gt_iff_lt];first|exact⟨hM,rfl⟩|exact hM
 ·rw[am c1];have zr:¬(65536:Int)<(t.length:Int):=by omega
  cases hr:m.p.aK with
  |true =>
   unfold aA.ay;refine ar func20 rfl ntmps20 results20 rfl 3 7342863 (by simp) (by simp) ?_;simp only[zX,simprocAttr,zM,aO,hr,av,zr,gt_iff_lt];refine aJ (λn e s=>∃i:Nat,n=t.length-i/\i<=t.length/\e 1=.d (av t)/\e 2=i64 at_/\e 3=i64 fuel/\e 9=i64 (fi true)/\e 20=.d (av t)/\e 21=i64 t.length/\e 22=i64 i/\s=m.ay g b a T/\(t.take i).all (n5 true)=true)
    ⟨_,_,_,cU.refl,0,rfl,by omega,rfl,rfl,rfl,rfl,rfl,rfl,rfl,by unfold aA.ay;rw[hr];rfl,by simp⟩ ?_
   rintro n e s ⟨i,rfl,hi,h1,h2,h3,h9,EI,EH,vT,rfl,dg⟩;rcases adV i t.length with aH|iP
   ·obtain⟨x,hx⟩:∃x,t[i]?=some x:=⟨_,adn aH⟩
    have bo:(i:Int)<t.length:=by omega
    have hs:=Ku x (fi true) (hI x (adw hx)) (kU true).1 (kU true).2;by_cases d1:0<=x/\x<=fi true
    ·have ng:¬IntKind.u64.wrap (fi true)<IntKind.u64.wrap x:=λh=>hs.1 h d1;simp only[zX,simprocAttr,zM,aO,h1,h2,h3,h9,EI,EH,vT,bo,aH,av,hx,gt_iff_lt,ng];refine⟨t.length-(i+1),_,_,by omega,cU.refl,i+1,rfl,aH,?_,?_,?_,?_,?_,?_,?_,rfl,?_⟩ <;> (try simp only[zU,Nat.reduceBEq,Nat.reduceShiftRight,Nat.reduceMod,Nat.reduceEqDiff,reduceIte])
     ·exact h1
     ·exact h2
     ·exact h3
     ·exact h9
     ·exact EI
     ·exact EH
     ·rw[bM _ (by omega)];rfl
     ·exact lh hx dg (by rw[n5,adu d1.1,adu d1.2];rfl)
    ·have ng:IntKind.u64.wrap (fi true)<IntKind.u64.wrap x:=hs.2 d1;have hf:t.all (n5 true)=false:=all_false hx (by
      unfold n5;rw[aee];intro h;simp only[adD,adC]at h;exact d1 h)
     rw[ap hf];unfold aA.ay;simp only[zX,simprocAttr,zM,aO,hr,h1,h2,h3,h9,EI,EH,vT,bo,aH,av,hx,gt_iff_lt,ng];first|exact⟨hM,rfl⟩|exact hM
   ·have fy:i=t.length:=by omega
    subst fy;have bo:¬(t.length:Int)<t.length:=by omega
    rw[adZ]at dg;rw[dg,am (by decide)];unfold aA.ay;by_cases d1:fuel<0
    ·rw[ap (.inl d1)];simp only[zX,simprocAttr,zM,aO,hr,h1,h2,h3,h9,EI,EH,vT,bo,av,gt_iff_lt,d1];first|exact⟨hM,rfl⟩|exact hM
    ·by_cases d2:1099511627776<fuel
     ·rw[ap (.inr d2)];simp only[zX,simprocAttr,zM,aO,hr,h1,h2,h3,h9,EI,EH,vT,bo,av,gt_iff_lt,d1,d2];first|exact⟨hM,rfl⟩|exact hM
     ·rw[am (by omega)];by_cases d3:at_<0
      ·rw[ap (.inl d3)];simp only[zX,simprocAttr,zM,aO,hr,h1,h2,h3,h9,EI,EH,vT,bo,av,gt_iff_lt,d1,d2,d3];first|exact⟨hM,rfl⟩|exact hM
      ·by_cases d4:(t.length:Int)<at_
       ·rw[ap (.inr d4)];simp only[zX,simprocAttr,zM,aO,hr,h1,h2,h3,h9,EI,EH,vT,bo,av,gt_iff_lt,d1,d2,d3,d4];first|exact⟨hM,rfl⟩|exact hM
       ·rw[am (by omega)];simp only[zX,simprocAttr,zM,aO,hr,h1,h2,h3,h9,EI,EH,vT,bo,av,gt_iff_lt,d1,d2,d3,d4];first|exact⟨hM,rfl⟩|exact hM
  |false =>
   unfold aA.ay;refine ar func20 rfl ntmps20 results20 rfl 3 7342863 (by simp) (by simp) ?_;simp only[zX,simprocAttr,zM,aO,hr,av,zr,gt_iff_lt];refine aJ (λn e s=>∃i:Nat,n=t.length-i/\i<=t.length/\e 1=.d (av t)/\e 2=i64 at_/\e 3=i64 fuel/\e 9=i64 (fi false)/\e 20=.d (av t)/\e 21=i64 t.length/\e 22=i64 i/\s=m.ay g b a T/\(t.take i).all (n5 false)=true)
    ⟨_,_,_,cU.refl,0,rfl,by omega,rfl,rfl,rfl,rfl,rfl,rfl,rfl,by unfold aA.ay;rw[hr];rfl,by simp⟩ ?_
   rintro n e s ⟨i,rfl,hi,h1,h2,h3,h9,EI,EH,vT,rfl,dg⟩;rcases adV i t.length with aH|iP
   ·obtain⟨x,hx⟩:∃x,t[i]?=some x:=⟨_,adn aH⟩
    have bo:(i:Int)<t.length:=by omega
    have hs:=Ku x (fi false) (hI x (adw hx)) (kU false).1 (kU false).2;by_cases d1:0<=x/\x<=fi false
    ·have ng:¬IntKind.u64.wrap (fi false)<IntKind.u64.wrap x:=λh=>hs.1 h d1;simp only[zX,simprocAttr,zM,aO,h1,h2,h3,h9,EI,EH,vT,bo,aH,av,hx,gt_iff_lt,ng];refine⟨t.length-(i+1),_,_,by omega,cU.refl,i+1,rfl,aH,?_,?_,?_,?_,?_,?_,?_,rfl,?_⟩ <;> (try simp only[zU,Nat.reduceBEq,Nat.reduceShiftRight,Nat.reduceMod,Nat.reduceEqDiff,reduceIte])
     ·exact h1
     ·exact h2
     ·exact h3
     ·exact h9
     ·exact EI
     ·exact EH
     ·rw[bM _ (by omega)];rfl
     ·exact lh hx dg (by rw[n5,adu d1.1,adu d1.2];rfl)
    ·have ng:IntKind.u64.wrap (fi false)<IntKind.u64.wrap x:=hs.2 d1;have hf:t.all (n5 false)=false:=all_false hx (by
      unfold n5;rw[aee];intro h;simp only[adD,adC]at h;exact d1 h)
     rw[ap hf];unfold aA.ay;simp only[zX,simprocAttr,zM,aO,hr,h1,h2,h3,h9,EI,EH,vT,bo,aH,av,hx,gt_iff_lt,ng];first|exact⟨hM,rfl⟩|exact hM
   ·have fy:i=t.length:=by omega
    subst fy;have bo:¬(t.length:Int)<t.length:=by omega
    rw[adZ]at dg;rw[dg,am (by decide)];unfold aA.ay;by_cases d1:fuel<0
    ·rw[ap (.inl d1)];simp only[zX,simprocAttr,zM,aO,hr,h1,h2,h3,h9,EI,EH,vT,bo,av,gt_iff_lt,d1];first|exact⟨hM,rfl⟩|exact hM
    ·by_cases d2:1099511627776<fuel
     ·rw[ap (.inr d2)];simp only[zX,simprocAttr,zM,aO,hr,h1,h2,h3,h9,EI,EH,vT,bo,av,gt_iff_lt,d1,d2];first|exact⟨hM,rfl⟩|exact hM
     ·rw[am (by omega)];by_cases d3:at_<0
      ·rw[ap (.inl d3)];simp only[zX,simprocAttr,zM,aO,hr,h1,h2,h3,h9,EI,EH,vT,bo,av,gt_iff_lt,d1,d2,d3];first|exact⟨hM,rfl⟩|exact hM
      ·by_cases d4:(t.length:Int)<at_
       ·rw[ap (.inr d4)];simp only[zX,simprocAttr,zM,aO,hr,h1,h2,h3,h9,EI,EH,vT,bo,av,gt_iff_lt,d1,d2,d3,d4];first|exact⟨hM,rfl⟩|exact hM
       ·rw[am (by omega)];simp only[zX,simprocAttr,zM,aO,hr,h1,h2,h3,h9,EI,EH,vT,bo,av,gt_iff_lt,d1,d2,d3,d4];first|exact⟨hM,rfl⟩|exact hM
end Go.Proofs.Ytphfjhaffbfpfaa
