/- A part of the proof (G37 G38 G39). -/
import Derived.Test.YtmihcpdhcillaaaGreatBG3
import Derived.Test.YtmihcpdhcillaaaGreatBG6
import Derived.Test.YtmihcpdhcillaaaGreatBG19
import Derived.Test.YtmihcpdhcillaaaGreatBG44
set_option linter.unusedSimpArgs false
set_option linter.unusedVariables false
set_option maxRecDepth 100000
set_option maxHeartbeats 80000000
namespace Go.Proofs.YtmihcpdhcillaaaGreat
open Go.VL Go.Proofs.Tryz
theorem DL {k:Nat} (ih:bw k) (g b a:Nat) (m:aC) (p:aA) {x:Rs} (hx:gn (fun m base p=>bh k true m base p true) m p=some x) :
  av prog 42 [.pp 0 g 0 0 b a,p.v b a] (m.au g b a) fun v s=>v=aJ b a x.2.1 x.2.2∧s=x.1.au g b a:=by
 obtain⟨pa,pc,todo⟩:=p
 have hm:m.cn ⟨pa,pc,todo⟩:=by
  unfold gn at hx
  by_cases h:m.cn ⟨pa,pc,todo⟩
  ·exact h
  ·rw[if_pos h]at hx;cases hx
 cases todo with
 |nil =>
  unfold gn at hx
  rw[if_neg (by simpa using hm)]at hx
  cases hx
 |mk kind r n at_ next =>
  by_cases c0:kind=0
  ·exact Q5 ih g b a m r pa pc kind n at_ next hm c0 hx
  by_cases c2:kind=2
  ·exact Rg ih g b a m r pa pc kind n at_ next hm c2 hx
  by_cases c3:kind=3
  ·exact QB ih g b a m r pa pc kind n at_ next hm c3 hx
  by_cases c5:kind=5
  ·exact Rf ih g b a m r pa pc kind n at_ next hm c5 hx
  by_cases c1:kind=1
  ·cases r with
   |nil =>
    unfold gn at hx
    rw[if_neg (by simpa using hm)]at hx
    simp only at hx
    rw[if_neg (by omega)]at hx
    split at hx
    ·cases hx
    ·cases hx
   |root=>exact E3 ih g b a m pa pc kind n at_ next hm c1 hx
   |el re=>exact I0 ih g b a m re pa pc kind n at_ next hm c1 hx
  by_cases c4:kind=4
  ·cases r with
   |nil =>
    unfold gn at hx
    rw[if_neg (by simpa using hm)]at hx
    simp only at hx
    rw[if_neg (by omega)]at hx
    split at hx
    ·cases hx
    ·cases hx
   |root=>exact Fo ih g b a m pa pc kind n at_ next hm c4 hx
   |el re=>exact JS ih g b a m re pa pc kind n at_ next hm c4 hx
  exfalso
  unfold gn at hx
  rw[if_neg (by simpa using hm)]at hx
  simp only at hx
  rw[if_neg (by omega)]at hx
  split at hx
  ·cases hx
  ·cases hx
def pO (b a:Nat) (p:aA):List VL.Obj:=[⟨0,true,3,[[.d (iD p.at_),.d (bH p.ak),.d (p.todo.d b a)]]⟩,⟨0,true,3,[[.d (iD 0),.fu [],.d (.sc (.pointer none))]]⟩]
theorem LW (m:aC) (b a:Nat):(m.cO.map (GV b a)).set (m.top-1) [.d (.sc (.int .i64 0)),.fu [],.d (.sc (.pointer none))]=m.pop.cO.map (GV b a):=by
 unfold aC.pop
 simp only[List.map_set,GV]
theorem Dp {k:Nat} (ih:∀j,j<k→bw j):bw k:=by
 intro g b a m base p alive x hx
 unfold aC.au aC.az
 refine aw func22 rfl ntmps22 results22 rfl 3 1871 (by simp) (by simp) ?_
 simp only[zX,simprocAttr,zM,aJ]
 refine aX (fun n e s=>∃(j:Nat) (m1:aC) (p1:aA) (al:Bool),n=j∧j≤k∧e 0=.pp 0 g 0 0 b a∧e 1=i64 (base:Nat)∧e 3=bV al∧e 6=.rf 3 0 0 0∧e 8=.rf 4 0 0 0∧s=m1.au g b a++pO b a p1∧bh j true m1 base p1 al=some x)
  ⟨_,_,_,dw.refl,k,m,p,alive,rfl,W4 _,rfl,rfl,rfl,rfl,rfl,rfl,hx⟩ ?_
 clear hx
 rintro n e s ⟨j,m1,p1,al,rfl,hj,h0,h1,h3,h6,h8,rfl,hx⟩
 cases n with
 |zero=>cases hx
 |succ j =>
  by_cases dr:m1.aK=true
  ·have rV:=hx
   simp only[bh]at rV
   rw[if_pos ⟨trivial,dr⟩]at rV
   cases rV
   unfold aC.au aC.az pO
   simp only[zX,simprocAttr,zM,aJ,h0,h1,h3,h6,h8,dr,WY]
   exact⟨an m1 b a,rfl⟩
  ·have OC:m1.aK=false:=by simpa using dr
   have BI:bh (j+1) false m1 base p1 al=some x:=by
    simp only[bh]at hx ⊢
    rw[if_neg (fun h=>dr h.2)]at hx
    rw[if_neg (fun h=>by cases h.1)]
    exact hx
   clear hx
   unfold aC.au aC.az pO
   simp only[zX,simprocAttr,zM,aJ,h0,h1,h3,h6,h8,OC,W0]
   refine aX (fun n e s=>∃(i:Nat) (m2:aC) (p2:aA) (Q0:Bool),n=i∧i≤j+1∧e 0=.pp 0 g 0 0 b a∧e 1=i64 (base:Nat)∧e 3=bV Q0∧e 6=.rf 3 0 0 0∧e 8=.rf 4 0 0 0∧s=m2.au g b a++pO b a p2∧bh i false m2 base p2 Q0=some x)
    ⟨_,_,_,dw.refl,j+1,m1,p1,al,rfl,W4 _,?_,?_,?_,?_,?_,?_,BI⟩ ?_ <;> (try simp only[zU,Nat.reduceBEq,Nat.reduceShiftRight,Nat.reduceMod,Nat.reduceEqDiff,reduceIte])
   ·exact h0
   ·exact h1
   ·exact h3
   ·exact h6
   ·exact h8
   ·unfold aC.au aC.az pO;simp only[OC];rfl
   clear BI h0 h1 h3 h6 h8 dr OC
   rintro n e s ⟨i,m2,p2,Q0,rfl,hi,h0,h1,h3,h6,h8,rfl,hx⟩
   cases n with
   |zero=>cases hx
   |succ i =>
    simp only[bh]at hx
    rw[if_neg (fun h=>by cases h.1)]at hx
    by_cases hc:Q0=true∧p2.goals=true
    ·rw[if_pos hc]at hx
     obtain⟨rfl,hg⟩:=hc
     obtain⟨pa,pc,todo⟩:=p2
     cases todo with
     |nil=>cases hg
     |mk kind r kn at_ next =>
      cases oX:gn (fun m base p=>bh i true m base p true) m2 ⟨pa,pc,.mk kind r kn at_ next⟩ with
      |none=>rw[oX]at hx;cases hx
      |some y =>
       obtain⟨m3,p3,Ve⟩:=y
       rw[oX]at hx
       simp only at hx
       have cK:=fun ext=>bn (DL (ih i (by omega)) g b a m2 _ oX) rfl rfl rfl ext
       unfold aC.au aC.az at cK
       simp only[zM,aJ,aG.bt]at cK
       unfold aC.au aC.az pO
       simp only[zX,simprocAttr,zM,aJ,aG.bt,h0,h1,h3,h6,h8]
       refine⟨⟨_,rfl⟩,?_⟩
       refine aj (cK _) (fun v s' hv=>?_);obtain⟨rfl,rfl⟩:=hv
       simp only[zX,simprocAttr,zM,aJ,h0,h1,h3,h6,h8]
       refine⟨i,_,_,by omega,dw.refl,i,m3,p3,Ve,rfl,by omega,?_,?_,?_,?_,?_,rfl,hx⟩ <;> (try simp only[zU,Nat.reduceBEq,Nat.reduceShiftRight,Nat.reduceMod,Nat.reduceEqDiff,reduceIte])
       ·exact h0
       ·exact h1
       ·exact h6
       ·exact h8
    ·rw[if_neg hc]at hx
     obtain⟨pa,pc,todo⟩:=p2
     cases Q0 with
     |true =>
      cases todo with
      |mk _ _ _ _ _=>exact absurd ⟨rfl,rfl⟩ hc
      |nil =>
       rw[if_pos rfl]at hx
       cases hx
       unfold aC.au aC.az pO
       simp only[zX,simprocAttr,zM,aJ,aG.d,h0,h1,h3,h6,h8]
       refine⟨⟨_,rfl⟩,?_⟩
       refine aq mix [] [(0,[3],[]),(2,[0],[]),(3,[0],[]),(4,[0],[]),(6,[4],[4])] (by rfl) ?_
       simp only[zX,simprocAttr,zM,aJ,aG.d,h0,h1,h3,h6,h8]
       first|exact⟨an m2 b a,rfl⟩|exact an m2 b a
     |false =>
      rw[if_neg (fun h=>by cases h)]at hx
      by_cases hb:m2.top=base
      ·rw[if_pos hb]at hx
       cases hx
       have Sw:((m2.top:Int)=(base:Int))=True:=eq_true (by omega)
       unfold aC.au aC.az pO
       simp only[zX,simprocAttr,zM,aJ,h0,h1,h3,h6,h8,Sw]
       first|exact⟨an m2 b a,rfl⟩|exact an m2 b a
      ·rw[if_neg hb]at hx
       have Sw:((m2.top:Int)=(base:Int))=False:=eq_false (by omega)
       by_cases ht:m2.top=0∨m2.cO.length<m2.top∨1200000000000<m2.top
       ·rw[if_pos ht]at hx;cases hx
       rw[if_neg ht]at hx
       cases hl:m2.cO[m2.top-1]? with
       |none=>rw[hl]at hx;cases hx
       |some o =>
        rw[hl]at hx
        cases o with
        |none=>cases hx
        |some last =>
         simp only at hx
         have Nl:GV b a (some last)=[V.d (D.sc (.int .i64 last.at_)),.d (bH last.ak),.d (last.todo.d b a)]:=rfl
         have w1:IntKind.i64.wrap ((m2.top:Int)-1)=(m2.top:Int)-1:=bU _ (by omega)
         have Ue:=LW m2 b a
         have q1:(0:Int)≤(m2.top:Int)-1:=by omega
         have q2:(m2.top:Int)-1<(m2.top:Int):=by omega
         have q3:((m2.top:Int)-1).toNat=m2.top-1:=by omega
         have q4:(m2.top:Int)-1≤(m2.top:Int):=by omega
         have q5:m2.top≤m2.cO.length:=by omega
         have q6:m2.pop.cO.length=m2.cO.length:=by simp [aC.pop]
         have q7:m2.top≤m2.pop.cO.length:=by omega
         have q8:min m2.top m2.pop.cO.length=m2.top:=by omega
         have q9:min m2.top m2.cO.length=m2.top:=by omega
         unfold aC.au aC.az pO
         simp only[zX,simprocAttr,zM,aJ,h0,h1,h3,h6,h8,Sw,w1,q1,q2,q3,q4,q5,q6,q7,q8,q9,Xi,hl,Nl,Ue,XE,Xu,W1,W3,Xa,List.drop,List.take,Int.sub_zero]
         refine⟨i,_,_,by omega,dw.refl,i,m2.pop,last,true,rfl,by omega,?_,?_,?_,?_,?_,rfl,hx⟩ <;> (try simp only[zU,Nat.reduceBEq,Nat.reduceShiftRight,Nat.reduceMod,Nat.reduceEqDiff,reduceIte])
         ·exact h0
         ·exact h1
         ·exact h6
         ·exact h8
theorem zP (k:Nat):bw k:=by
 induction k using Nat.strongRecOn with
 |ind k ih=>exact Dp ih
def gM (bk:Bool) (t:List Int) (at_ fuel:Int):Int :=
 if 65536<t.length then 4 else if t.all (kr bk)=false then 1 else if fuel<0∨1099511627776<fuel then 1 else if at_<0∨(t.length:Int)<at_ then 5 else 0
theorem CC (g b a:Nat) (m:aC) (T:V) (hT:ao 3 T=true):av prog 27 [.pp 0 g 0 0 b a] (m.az g b a T) fun v s=>v=i64 m.cr∧s=m.az g b a T:=by
 have hM:=cy m b a T hT
 unfold aC.az
 refine aw func27 rfl ntmps27 results27 rfl 3 5 (by simp) (by simp) ?_
 simp only[zX,simprocAttr,zM,aJ]
 first|exact⟨hM,rfl⟩|exact hM
def aC.res (m:aC) (p:aA) (found:Bool):List V :=
 if m.aK=true then [i64 0,i64 0,.d (.sl []),bV false,i64 0,i64 11]
 else if found=true then [i64 m.start,i64 p.at_,.d (bH p.ak),bV true,i64 m.steps,i64 0]
 else [i64 0,i64 0,.d (.sl []),bV false,i64 m.steps,i64 0]
def aC.done (m:aC) (found:Bool):aC:={ m with ready:=found&&!m.aK }
theorem AB (g b a:Nat) (m:aC) (p:aA) (found:Bool) (hc:p.ak.length≤1000000000):av prog 21 [.pp 0 g 0 0 b a,p.v b a,bV found] (m.au g b a) fun v s=>v=.ag (m.res p found)∧s=(m.done found).au g b a:=by
 have PG:=tE p.ak hc
 have hM:=an (m.done found) b a
 have hT:(m.done found).text=m.text:=rfl
 unfold aC.au aC.az
 rw[hT]
 cases hs:m.aK with
 |true =>
  have hr:m.res p found=[i64 0,i64 0,.d (.sl []),bV false,i64 0,i64 11]:=if_pos hs
  rw[hr]
  cases found with
  |true =>
   refine aw func21 rfl ntmps21 results21 rfl 3 215 (by simp) (by simp) ?_
   simp only[zX,simprocAttr,zM,aJ,hs,WY]
   exact⟨hM,by simp only[aC.done,hs,WY,W0,Bool.and_false,XT,Bool.false_and,X0]⟩
  |false =>
   refine aw func21 rfl ntmps21 results21 rfl 3 215 (by simp) (by simp) ?_
   simp only[zX,simprocAttr,zM,aJ,hs,WY]
   exact⟨hM,by simp only[aC.done,hs,WY,W0,Bool.and_false,XT,Bool.false_and,X0]⟩
 |false =>
  have hr:m.res p found=if found=true then [i64 m.start,i64 p.at_,.d (bH p.ak),bV true,i64 m.steps,i64 0] else [i64 0,i64 0,.d (.sl []),bV false,i64 m.steps,i64 0]:=if_neg (by rw[hs];exact Xe)
  rw[hr]
  cases found with
  |true =>
   rw[if_pos rfl]
   refine aw func21 rfl ntmps21 results21 rfl 3 215 (by simp) (by simp) ?_
   simp only[zX,simprocAttr,zM,aJ,hs,W0]
   refine aq mix [] [(1,[0],[]),(2,[0],[]),(3,[0],[]),(4,[3],[]),(5,[3],[]),(6,[3],[]),(7,[3],[]),(10,[5],[]),(11,[5],[5])] (by rfl) ?_
   simp only[zX,simprocAttr,zM,aJ]
   refine cP PG rfl rfl ?_
   simp only[zX,simprocAttr,zM,aJ]
   exact⟨hM,by simp only[aC.done,hs,WY,W0,Bool.and_false,XT,Bool.false_and,X0]⟩
  |false =>
   rw[if_neg Xe]
   refine aw func21 rfl ntmps21 results21 rfl 3 215 (by simp) (by simp) ?_
   simp only[zX,simprocAttr,zM,aJ,hs,W0]
   exact⟨hM,by simp only[aC.done,hs,WY,W0,Bool.and_false,XT,Bool.false_and,X0]⟩
def aC.kept (m:aC):aC:=if m.ready=true∧0<m.top then { m with bB:=true,own:=m.t,eP:=m.eP+1 } else { m with t:=[],bB:=false }
def aC.jg (m:aC):V:=if m.ready=true∧0<m.top then .so 2 (m.eP+1) 0 m.t.length else .fu []
theorem Mu (g b a:Nat) (m:aC) (ht:m.t.length≤1000000) (hT:m.bB=false):av prog 24 [.pp 0 g 0 0 b a] (m.au g b a) fun v s=>v=.tu []∧s=m.kept.az g b a m.jg:=by
 rw[nk hT]
 by_cases c:m.ready=true∧0<m.top
 ·have e1:m.kept={ m with bB:=true,own:=m.t,eP:=m.eP+1 }:=if_pos c
  have e2:m.jg=.so 2 (m.eP+1) 0 m.t.length:=if_pos c
  rw[e1,e2]
  have hM:=cy { m with bB:=true,own:=m.t,eP:=m.eP+1 } b a (.so 2 (m.eP+1) 0 m.t.length) rfl
  have c2:(0:Int)<(m.top:Int):=by omega
  unfold aC.az
  refine aw func24 rfl ntmps24 results24 rfl 3 1 (by simp) (by simp) ?_
  simp only[zX,simprocAttr,zM,aJ,aB,c.1,c2,gt_iff_lt]
  refine aq mix [] [(2,[0],[]),(3,[0],[]),(4,[0],[]),(5,[2],[]),(7,[0],[]),(8,[0],[]),(9,[0],[]),(10,[2],[2]),(11,[0],[]),(12,[0],[]),(13,[0],[0])] (by rfl) ?_
  simp only[zX,simprocAttr,zM,aJ,aB,Xu,W1,Nat.min_self,W4,Int.sub_self,Int.toNat_zero,Xi,BM]
  have Ty:(m.t.map fun x=>[D.sc (Value.int IntKind.i64 x)]).map (fun x=>x.map V.d)=m.t.map fun x=>[V.d (D.sc (Value.int IntKind.i64 x))]:=by rw[XS];rfl
  rw[Ty]
  exact⟨fun e he=>by obtain⟨x,_,rfl⟩:=List.mem_map.1 he;rfl,⟨by omega,by omega⟩,hM,rfl⟩
 ·have e1:m.kept={ m with t:=[],bB:=false }:=if_neg c
  have e2:m.jg=.fu []:=if_neg c
  rw[e1,e2]
  have hM:=cy { m with t:=[],bB:=false } b a (.fu []) rfl
  cases hr:m.ready with
  |false =>
   unfold aC.az
   refine aw func24 rfl ntmps24 results24 rfl 3 1 (by simp) (by simp) ?_
   simp only[zX,simprocAttr,zM,aJ,hr]
   first|exact⟨hM,rfl⟩|exact hM
  |true =>
   have c2:¬(0:Int)<(m.top:Int):=fun h=>c ⟨hr,by omega⟩
   unfold aC.az
   refine aw func24 rfl ntmps24 results24 rfl 3 1 (by simp) (by simp) ?_
   simp only[zX,simprocAttr,zM,aJ,hr,c2,gt_iff_lt]
   first|exact⟨hM,rfl⟩|exact hM
theorem BX (n:Int):IntKind.u64.wrap n=n % 18446744073709551616:=by
 simp [IntKind.wrap,IntKind.bits,IntKind.signed]
theorem GA (x top:Int) (hx:jX x) (h0:0≤top) (h1:top≤1114111):(IntKind.u64.wrap top<IntKind.u64.wrap x) ↔ ¬(0≤x∧x≤top):=by
 unfold jX at hx
 rw[BX,BX]
 omega
theorem jL (bk:Bool):0≤eG bk∧eG bk≤1114111:=by
 unfold eG;split <;> omega
theorem B0 (g b a:Nat) (m:aC) (T:V) (hT:ao 3 T=true) (t:List Int) (at_ fuel:Int) (ht:t.length≤1000000000) (hI:∀x∈t,jX x) :
  av prog 20 [.pp 0 g 0 0 b a,.d (aB t),i64 at_,i64 fuel] (m.az g b a T) fun v s=>v=i64 (gM m.p.bk t at_ fuel)∧s=m.az g b a T:=by
 have hM:=cy m b a T hT
 have SH:=jL m.p.bk
 unfold gM
 by_cases c1:65536<t.length
 ·rw[if_pos c1]
  have Lu:(65536:Int)<(t.length:Int):=by omega
  cases hr:m.p.bk with
  |true =>
   unfold aC.az
   refine aw func20 rfl ntmps20 results20 rfl 3 7342863 (by simp) (by simp) ?_
   simp only[zX,simprocAttr,zM,aJ,hr,aB,Lu,gt_iff_lt]
   first|exact⟨hM,rfl⟩|exact hM
  |false =>
   unfold aC.az
   refine aw func20 rfl ntmps20 results20 rfl 3 7342863 (by simp) (by simp) ?_
   simp only[zX,simprocAttr,zM,aJ,hr,aB,Lu,gt_iff_lt]
   first|exact⟨hM,rfl⟩|exact hM
 ·rw[if_neg c1]
  have Lu:¬(65536:Int)<(t.length:Int):=by omega
  cases hr:m.p.bk with
  |true =>
   unfold aC.az
   refine aw func20 rfl ntmps20 results20 rfl 3 7342863 (by simp) (by simp) ?_
   simp only[zX,simprocAttr,zM,aJ,hr,aB,Lu,gt_iff_lt]
   refine aX (fun n e s=>∃i:Nat,n=t.length-i∧i≤t.length∧e 1=.d (aB t)∧e 2=i64 at_∧e 3=i64 fuel∧e 9=i64 (eG true)∧e 20=.d (aB t)∧e 21=i64 t.length∧e 22=i64 i∧s=m.az g b a T∧(t.take i).all (kr true)=true)
    ⟨_,_,_,dw.refl,0,rfl,by omega,rfl,rfl,rfl,rfl,rfl,rfl,rfl,by unfold aC.az;rw[hr];rfl,by simp⟩ ?_
   rintro n e s ⟨i,rfl,hi,h1,h2,h3,h9,D4,CO,E4,rfl,fM⟩
   rcases Xw i t.length with aS|lW
   ·obtain⟨x,hx⟩:∃x,t[i]?=some x:=⟨_,WZ aS⟩
    have cG:(i:Int)<t.length:=by omega
    have hs:=GA x (eG true) (hI x (W6 hx)) (jL true).1 (jL true).2
    by_cases d1:0≤x∧x≤eG true
    ·have ra:¬IntKind.u64.wrap (eG true)<IntKind.u64.wrap x:=fun h=>hs.1 h d1
     simp only[zX,simprocAttr,zM,aJ,h1,h2,h3,h9,D4,CO,E4,cG,aS,aB,hx,gt_iff_lt,ra]
     refine⟨t.length-(i+1),_,_,by omega,dw.refl,i+1,rfl,aS,?_,?_,?_,?_,?_,?_,?_,rfl,?_⟩ <;> (try simp only[zU,Nat.reduceBEq,Nat.reduceShiftRight,Nat.reduceMod,Nat.reduceEqDiff,reduceIte])
     ·exact h1
     ·exact h2
     ·exact h3
     ·exact h9
     ·exact D4
     ·exact CO
     ·rw[bU _ (by omega)];rfl
     ·exact jZ hx fM (by rw[kr,decide_eq_true d1.1,decide_eq_true d1.2];rfl)
    ·have ra:IntKind.u64.wrap (eG true)<IntKind.u64.wrap x:=hs.2 d1
     have hf:t.all (kr true)=false:=all_false hx (by
      unfold kr
      rw[Xz];intro h
      simp only[W7,decide_eq_true_eq]at h
      exact d1 h)
     rw[if_pos hf]
     unfold aC.az
     simp only[zX,simprocAttr,zM,aJ,hr,h1,h2,h3,h9,D4,CO,E4,cG,aS,aB,hx,gt_iff_lt,ra]
     first|exact⟨hM,rfl⟩|exact hM
   ·have iQ:i=t.length:=by omega
    subst iQ
    have cG:¬(t.length:Int)<t.length:=by omega
    rw[XA]at fM
    rw[fM,if_neg (by decide)]
    unfold aC.az
    by_cases d1:fuel<0
    ·rw[if_pos (.inl d1)]
     simp only[zX,simprocAttr,zM,aJ,hr,h1,h2,h3,h9,D4,CO,E4,cG,aB,gt_iff_lt,d1]
     first|exact⟨hM,rfl⟩|exact hM
    ·by_cases d2:1099511627776<fuel
     ·rw[if_pos (.inr d2)]
      simp only[zX,simprocAttr,zM,aJ,hr,h1,h2,h3,h9,D4,CO,E4,cG,aB,gt_iff_lt,d1,d2]
      first|exact⟨hM,rfl⟩|exact hM
     ·rw[if_neg (by omega)]
      by_cases d3:at_<0
      ·rw[if_pos (.inl d3)]
       simp only[zX,simprocAttr,zM,aJ,hr,h1,h2,h3,h9,D4,CO,E4,cG,aB,gt_iff_lt,d1,d2,d3]
       first|exact⟨hM,rfl⟩|exact hM
      ·by_cases d4:(t.length:Int)<at_
       ·rw[if_pos (.inr d4)]
        simp only[zX,simprocAttr,zM,aJ,hr,h1,h2,h3,h9,D4,CO,E4,cG,aB,gt_iff_lt,d1,d2,d3,d4]
        first|exact⟨hM,rfl⟩|exact hM
       ·rw[if_neg (by omega)]
        simp only[zX,simprocAttr,zM,aJ,hr,h1,h2,h3,h9,D4,CO,E4,cG,aB,gt_iff_lt,d1,d2,d3,d4]
        first|exact⟨hM,rfl⟩|exact hM
  |false =>
   unfold aC.az
   refine aw func20 rfl ntmps20 results20 rfl 3 7342863 (by simp) (by simp) ?_
   simp only[zX,simprocAttr,zM,aJ,hr,aB,Lu,gt_iff_lt]
   refine aX (fun n e s=>∃i:Nat,n=t.length-i∧i≤t.length∧e 1=.d (aB t)∧e 2=i64 at_∧e 3=i64 fuel∧e 9=i64 (eG false)∧e 20=.d (aB t)∧e 21=i64 t.length∧e 22=i64 i∧s=m.az g b a T∧(t.take i).all (kr false)=true)
    ⟨_,_,_,dw.refl,0,rfl,by omega,rfl,rfl,rfl,rfl,rfl,rfl,rfl,by unfold aC.az;rw[hr];rfl,by simp⟩ ?_
   rintro n e s ⟨i,rfl,hi,h1,h2,h3,h9,D4,CO,E4,rfl,fM⟩
   rcases Xw i t.length with aS|lW
   ·obtain⟨x,hx⟩:∃x,t[i]?=some x:=⟨_,WZ aS⟩
    have cG:(i:Int)<t.length:=by omega
    have hs:=GA x (eG false) (hI x (W6 hx)) (jL false).1 (jL false).2
    by_cases d1:0≤x∧x≤eG false
    ·have ra:¬IntKind.u64.wrap (eG false)<IntKind.u64.wrap x:=fun h=>hs.1 h d1
     simp only[zX,simprocAttr,zM,aJ,h1,h2,h3,h9,D4,CO,E4,cG,aS,aB,hx,gt_iff_lt,ra]
     refine⟨t.length-(i+1),_,_,by omega,dw.refl,i+1,rfl,aS,?_,?_,?_,?_,?_,?_,?_,rfl,?_⟩ <;> (try simp only[zU,Nat.reduceBEq,Nat.reduceShiftRight,Nat.reduceMod,Nat.reduceEqDiff,reduceIte])
     ·exact h1
     ·exact h2
     ·exact h3
     ·exact h9
     ·exact D4
     ·exact CO
     ·rw[bU _ (by omega)];rfl
     ·exact jZ hx fM (by rw[kr,decide_eq_true d1.1,decide_eq_true d1.2];rfl)
    ·have ra:IntKind.u64.wrap (eG false)<IntKind.u64.wrap x:=hs.2 d1
     have hf:t.all (kr false)=false:=all_false hx (by
      unfold kr
      rw[Xz];intro h
      simp only[W7,decide_eq_true_eq]at h
      exact d1 h)
     rw[if_pos hf]
     unfold aC.az
     simp only[zX,simprocAttr,zM,aJ,hr,h1,h2,h3,h9,D4,CO,E4,cG,aS,aB,hx,gt_iff_lt,ra]
     first|exact⟨hM,rfl⟩|exact hM
   ·have iQ:i=t.length:=by omega
    subst iQ
    have cG:¬(t.length:Int)<t.length:=by omega
    rw[XA]at fM
    rw[fM,if_neg (by decide)]
    unfold aC.az
    by_cases d1:fuel<0
    ·rw[if_pos (.inl d1)]
     simp only[zX,simprocAttr,zM,aJ,hr,h1,h2,h3,h9,D4,CO,E4,cG,aB,gt_iff_lt,d1]
     first|exact⟨hM,rfl⟩|exact hM
    ·by_cases d2:1099511627776<fuel
     ·rw[if_pos (.inr d2)]
      simp only[zX,simprocAttr,zM,aJ,hr,h1,h2,h3,h9,D4,CO,E4,cG,aB,gt_iff_lt,d1,d2]
      first|exact⟨hM,rfl⟩|exact hM
     ·rw[if_neg (by omega)]
      by_cases d3:at_<0
      ·rw[if_pos (.inl d3)]
       simp only[zX,simprocAttr,zM,aJ,hr,h1,h2,h3,h9,D4,CO,E4,cG,aB,gt_iff_lt,d1,d2,d3]
       first|exact⟨hM,rfl⟩|exact hM
      ·by_cases d4:(t.length:Int)<at_
       ·rw[if_pos (.inr d4)]
        simp only[zX,simprocAttr,zM,aJ,hr,h1,h2,h3,h9,D4,CO,E4,cG,aB,gt_iff_lt,d1,d2,d3,d4]
        first|exact⟨hM,rfl⟩|exact hM
       ·rw[if_neg (by omega)]
        simp only[zX,simprocAttr,zM,aJ,hr,h1,h2,h3,h9,D4,CO,E4,cG,aB,gt_iff_lt,d1,d2,d3,d4]
        first|exact⟨hM,rfl⟩|exact hM
end Go.Proofs.YtmihcpdhcillaaaGreat
