/- A part of the proof (G26 G27). -/
import Derived.Test.YtmihcpdhcillaaaGreatBG22
set_option linter.unusedSimpArgs false
set_option linter.unusedVariables false
set_option maxRecDepth 100000
set_option maxHeartbeats 80000000
namespace Go.Proofs.YtmihcpdhcillaaaGreat
open Go.VL Go.Proofs.Tryz
theorem lQ (a b:List Int) (ha:a.length≤1000000000):br prog 90 [.d (aB a),.d (aB b)] (bV (decide (a=b))):=by
 refine aw func90 rfl ntmps90 results90 rfl 0 12339 (by simp) (by simp) ?_
 by_cases hl:a.length=b.length
 ·have RN:(a.length:Int)=b.length:=by omega
  simp only[zX,simprocAttr,i64,bV,aB,RN,ne_eq,not_true_eq_false,if_false]
  refine aX (fun n e s=>∃i:Nat,n=a.length-i∧i≤a.length∧e 0=.d (aB a)∧e 1=.d (aB b)∧e 12=i64 a.length∧e 13=i64 i∧s=[]∧a.take i=b.take i)
   ⟨_,_,_,dw.refl,0,rfl,by omega,rfl,rfl,?_,rfl,rfl,rfl⟩ ?_
  ·rw[RN];rfl
  rintro n e s ⟨i,rfl,hi,h0,h1,eU,fh,rfl,he⟩
  rcases Xw i a.length with aS|lW
  ·obtain⟨x,hx⟩:∃x,a[i]?=some x:=⟨_,WZ aS⟩
   obtain⟨y,hy⟩:∃y,b[i]?=some y:=⟨_,WZ (by omega)⟩
   have Rz:i<b.length:=by omega
   by_cases c:x=y
   ·subst c
    simp only[zX,simprocAttr,i64,bV,aB,iD,h0,h1,eU,fh,aS,Rz,hx,hy,ne_eq,not_true_eq_false]
    refine aq mix [] [] (by rfl) ?_
    simp only[zX,simprocAttr,i64,bV,aB,iD,h0,h1,eU,fh,aS,Rz,hx,hy,ne_eq,not_true_eq_false]
    refine⟨a.length-(i+1),_,_,by omega,dw.refl,i+1,rfl,aS,?_,?_,?_,?_,rfl,?_⟩ <;> (try simp only[zU,Nat.reduceBEq,Nat.reduceShiftRight,Nat.reduceMod,Nat.reduceEqDiff,reduceIte])
    ·exact h0
    ·exact h1
    ·exact eU
    ·rw[bU _ (by omega)];rfl
    ·rw[dZ hx,dZ hy,he]
   ·have gr:¬a=b:=by
     intro h
     rw[h]at hx
     rw[hx]at hy
     exact c (XN hy)
    rw[decide_eq_false gr]
    simp only[zX,simprocAttr,i64,bV,aB,iD,h0,h1,eU,fh,aS,Rz,hx,hy,ne_eq,c,not_false_eq_true]
    refine aq mix [] [] (by rfl) ?_
    simp only[zX,simprocAttr,i64,bV,aB,iD,h0,h1,eU,fh,aS,Rz,hx,hy,ne_eq,c,not_false_eq_true]
    all_goals first|exact⟨rfl,rfl⟩|exact⟨rfl,trivial⟩|rfl|trivial|(rw[ay];rfl)
  ·have Wn:i=a.length:=by omega
   subst Wn
   rw[XA,hl,XA]at he
   rw[decide_eq_true he]
   simp only[zX,simprocAttr,i64,bV,aB,iD,h0,h1,eU,fh,XP]
   all_goals first|exact⟨rfl,rfl⟩|exact⟨rfl,trivial⟩|rfl|trivial|(rw[ay];rfl)
 ·have RN:¬(a.length:Int)=b.length:=by omega
  have gr:¬a=b:=fun h=>hl (by rw[h])
  rw[decide_eq_false gr]
  simp only[zX,simprocAttr,i64,bV,aB,RN,ne_eq,not_false_eq_true,if_true]
  all_goals first|exact⟨rfl,rfl⟩|exact⟨rfl,trivial⟩|rfl|trivial|(rw[ay];rfl)
theorem lh {t:List Int}{a i:Nat}:∀{n:Nat},a+n≤t.length→i+n≤t.length→decide ((t.drop a).take n=(t.drop i).take n)=cW t a i n
 |0,_,_=>by simp [cW]
 |n+1,h1,h2=>by
  have e:∀k:Nat,k+(n+1)≤t.length→(t.drop k).take (n+1)=(t.drop k).take n++[fX t ((k:Int)+(n:Int))]:=by
   intro k hk
   have hx:(t.drop k)[n]?=some (fX t ((k:Int)+(n:Int))):=by
    rw[XL]
    have:=iA (t:=t) (i:=(k:Int)+(n:Int)) (by omega) (by omega)
    rw[show ((k:Int)+(n:Int)).toNat=k+n by omega]at this
    exact this
   exact dZ hx
  rw[e a h1,e i h2,xv,← lh (n:=n) (by omega) (by omega)]
  rw[Bool.eq_iff_iff]
  simp only[decide_eq_true_eq,W7,beq_iff_eq]
  constructor
  ·intro h
   have:=List.append_inj' h rfl
   exact⟨this.1,by simpa using this.2⟩
  ·rintro ⟨h,h'⟩
   rw[h,h']
theorem Gc {α:Type} (f:α→D) (k cE:Nat) (s:List VL.Obj):∀L:List α,((L.map fun x=>[V.d (f x)]).mapM fun (e:List V)=>e.mapM (bN (k+1) cE s))=some (L.map fun x=>[f x])
 |[]=>rfl
 |x::L=>by
  rw[WU,X5,Gc f k cE s L]
  rfl
theorem gU {og lo n cE:Nat}{s:List VL.Obj}{own:List Int} (hs:s[2]?=some ⟨og,false,1,own.map fun x=>[V.d (iD x)]⟩) (h:lo+n≤own.length):aR cE s (.so 2 og lo n)=some (.d (aB ((own.drop lo).take n))):=by
 unfold aR
 simp only[bN,hs]
 rw[if_pos (by simpa using h),← List.map_drop,← XR,Gc]
 rfl
theorem ko {cE k n:Nat}{s:List VL.Obj}{own:List Int} (h:n=0):aR cE s (.d (.sl []))=some (.d (aB ((own.drop k).take n))):=by
 subst h;rfl
theorem ka {cE:Nat}{s:List VL.Obj}{v w:V}{x y:D} (hv:aR cE s v=some (.d x)) (hw:aR cE s w=some (.d y)):aR.go cE s [v,w]=some [.d x,.d y]:=by
 simp only[aR.go,hv,hw]
theorem Ho (g b a:Nat) (m:aC) (re:Re) (p:aA) (x:Int×Int) (hx:p.ak[(re.n-1).toNat]?=some x) (hn:1≤re.n) (Mt:re.n≤p.ak.length) (hc:p.ak.length≤1000000000) (hb:-1000000≤x.1∧-1000000≤x.2∧x.1≤1000000∧x.2≤1000000)
  (hp:0≤p.at_) (LI:p.at_≤m.t.length) (ht:m.t.length≤1000000) (hq:x.1<0∨(m.t.length:Int)-p.at_<x.2-x.1) :
  av prog 98 [.pp 0 g 0 0 b a,.d ((aE.el re).d b a),p.v b a] (m.az g b a (.d (aB m.t))) fun v s=>v=aJ b a .zero false∧s=m.az g b a (.d (aB m.t)):=by
 obtain⟨x1,x2⟩:=x
 simp only at hb hq
 have w0:IntKind.i64.wrap (re.n-1)=re.n-1:=bU _ (by omega)
 have w1:IntKind.i64.wrap (x2-x1)=x2-x1:=bU _ (by omega)
 have w2:IntKind.i64.wrap ((m.t.length:Int)-p.at_)=m.t.length-p.at_:=bU _ (by omega)
 have nj:0≤re.n-1:=by omega
 have fY:re.n-1<(p.ak.length:Int):=by omega
 have fC:=hx
 have hM:=cy m b a (.d (aB m.t)) rfl
 unfold aC.az;simp only[aB]
 refine aw func98 rfl ntmps98 results98 rfl 3 999 (by simp) (by simp) ?_
 simp only[zX,simprocAttr,-Int.reduceNatCast',zM,aE.d]
 refine aH bM.aP ?_
 refine aq mix [] [(0,[3],[]),(1,[3],[]),(3,[0],[]),(4,[0],[]),(5,[0],[]),(9,[5],[5]),(10,[5],[5])] (by rfl) ?_
 simp only[zX,simprocAttr,-Int.reduceNatCast',zM,Re.ae,hole,w0,w1,nj,fY,fC,bH,aT]
 refine⟨by decide,by decide,?_⟩
 by_cases q1:x1<0
 ·refine aq mix [] [(0,[5],[]),(1,[5],[]),(6,[0],[]),(7,[0],[]),(8,[0],[]),(9,[2],[]),(10,[3],[]),(11,[3],[])] (by rfl) ?_
  simp only[zX,simprocAttr,-Int.reduceNatCast',zM,w1,q1]
  exact⟨by decide,hM,rfl⟩
 ·have q2:(m.t.length:Int)-p.at_<x2-x1:=by omega
  refine aq mix [] [(0,[5],[]),(1,[5],[]),(6,[0],[]),(7,[0],[]),(8,[0],[]),(9,[2],[]),(10,[3],[]),(11,[3],[])] (by rfl) ?_
  simp only[zX,simprocAttr,-Int.reduceNatCast',zM,w1,w2,q1,q2,gt_iff_lt]
  exact⟨by decide,hM,rfl⟩
theorem BY (g b a:Nat) (m:aC) (p:aA) (x:Int×Int) (hx:p.ak[(m.p.re.n-1).toNat]?=some x) (hn:1≤m.p.re.n) (Mt:m.p.re.n≤p.ak.length) (hc:p.ak.length≤1000000000) (hb:-1000000≤x.1∧-1000000≤x.2∧x.1≤1000000∧x.2≤1000000)
  (hp:0≤p.at_) (LI:p.at_≤m.t.length) (ht:m.t.length≤1000000) (hq:x.1<0∨(m.t.length:Int)-p.at_<x.2-x.1) :
  av prog 98 [.pp 0 g 0 0 b a,.d ((aE.root).d b a),p.v b a] (m.az g b a (.d (aB m.t))) fun v s=>v=aJ b a .zero false∧s=m.az g b a (.d (aB m.t)):=by
 obtain⟨x1,x2⟩:=x
 simp only at hb hq
 have w0:IntKind.i64.wrap (m.p.re.n-1)=m.p.re.n-1:=bU _ (by omega)
 have w1:IntKind.i64.wrap (x2-x1)=x2-x1:=bU _ (by omega)
 have w2:IntKind.i64.wrap ((m.t.length:Int)-p.at_)=m.t.length-p.at_:=bU _ (by omega)
 have nj:0≤m.p.re.n-1:=by omega
 have fY:m.p.re.n-1<(p.ak.length:Int):=by omega
 have fC:=hx
 have hM:=cy m b a (.d (aB m.t)) rfl
 unfold aC.az;simp only[aB]
 refine aw func98 rfl ntmps98 results98 rfl 3 999 (by simp) (by simp) ?_
 simp only[zX,simprocAttr,-Int.reduceNatCast',zM,aE.d]
 refine aH bM.aP ?_
 refine aq mix [] [(0,[3],[]),(1,[3],[]),(3,[0],[]),(4,[0],[]),(5,[0],[]),(9,[5],[5]),(10,[5],[5])] (by rfl) ?_
 simp only[zX,simprocAttr,-Int.reduceNatCast',zM,Re.ae,hole,w0,w1,nj,fY,fC,bH,aT]
 refine⟨by decide,by decide,?_⟩
 by_cases q1:x1<0
 ·refine aq mix [] [(0,[5],[]),(1,[5],[]),(6,[0],[]),(7,[0],[]),(8,[0],[]),(9,[2],[]),(10,[3],[]),(11,[3],[])] (by rfl) ?_
  simp only[zX,simprocAttr,-Int.reduceNatCast',zM,w1,q1]
  exact⟨by decide,hM,rfl⟩
 ·have q2:(m.t.length:Int)-p.at_<x2-x1:=by omega
  refine aq mix [] [(0,[5],[]),(1,[5],[]),(6,[0],[]),(7,[0],[]),(8,[0],[]),(9,[2],[]),(10,[3],[]),(11,[3],[])] (by rfl) ?_
  simp only[zX,simprocAttr,-Int.reduceNatCast',zM,w1,w2,q1,q2,gt_iff_lt]
  exact⟨by decide,hM,rfl⟩
theorem EJ (g b a:Nat) (m:aC) (re:Re) (p:aA) (x:Int×Int) (hx:p.ak[(re.n-1).toNat]?=some x) (hn:1≤re.n) (Mt:re.n≤p.ak.length) (hc:p.ak.length≤1000000000) (hb:-1000000≤x.1∧-1000000≤x.2∧x.1≤1000000∧x.2≤1000000)
  (hp:0≤p.at_) (LI:p.at_≤m.t.length) (ht:m.t.length≤1000000) (hq:x.1<0∨(m.t.length:Int)-p.at_<x.2-x.1) :
  av prog 98 [.pp 0 g 0 0 b a,.d ((aE.el re).d b a),p.v b a] (m.az g b a (.so 2 m.eP 0 m.t.length)) fun v s=>v=aJ b a .zero false∧s=m.az g b a (.so 2 m.eP 0 m.t.length):=by
 obtain⟨x1,x2⟩:=x
 simp only at hb hq
 have w0:IntKind.i64.wrap (re.n-1)=re.n-1:=bU _ (by omega)
 have w1:IntKind.i64.wrap (x2-x1)=x2-x1:=bU _ (by omega)
 have w2:IntKind.i64.wrap ((m.t.length:Int)-p.at_)=m.t.length-p.at_:=bU _ (by omega)
 have nj:0≤re.n-1:=by omega
 have fY:re.n-1<(p.ak.length:Int):=by omega
 have fC:=hx
 have hM:=cy m b a (.so 2 m.eP 0 m.t.length) rfl
 unfold aC.az
 refine aw func98 rfl ntmps98 results98 rfl 3 999 (by simp) (by simp) ?_
 simp only[zX,simprocAttr,-Int.reduceNatCast',zM,aE.d]
 refine aH bM.aP ?_
 refine aq mix [] [(0,[3],[]),(1,[3],[]),(3,[0],[]),(4,[0],[]),(5,[0],[]),(9,[5],[5]),(10,[5],[5])] (by rfl) ?_
 simp only[zX,simprocAttr,-Int.reduceNatCast',zM,Re.ae,hole,w0,w1,nj,fY,fC,bH,aT]
 refine⟨by decide,by decide,?_⟩
 by_cases q1:x1<0
 ·refine aq mix [] [(0,[5],[]),(1,[5],[]),(6,[0],[]),(7,[0],[]),(8,[0],[]),(9,[2],[]),(10,[3],[]),(11,[3],[])] (by rfl) ?_
  simp only[zX,simprocAttr,-Int.reduceNatCast',zM,w1,q1]
  exact⟨by decide,hM,rfl⟩
 ·have q2:(m.t.length:Int)-p.at_<x2-x1:=by omega
  refine aq mix [] [(0,[5],[]),(1,[5],[]),(6,[0],[]),(7,[0],[]),(8,[0],[]),(9,[2],[]),(10,[3],[]),(11,[3],[])] (by rfl) ?_
  simp only[zX,simprocAttr,-Int.reduceNatCast',zM,w1,w2,q1,q2,gt_iff_lt]
  exact⟨by decide,hM,rfl⟩
theorem AH (g b a:Nat) (m:aC) (p:aA) (x:Int×Int) (hx:p.ak[(m.p.re.n-1).toNat]?=some x) (hn:1≤m.p.re.n) (Mt:m.p.re.n≤p.ak.length) (hc:p.ak.length≤1000000000) (hb:-1000000≤x.1∧-1000000≤x.2∧x.1≤1000000∧x.2≤1000000)
  (hp:0≤p.at_) (LI:p.at_≤m.t.length) (ht:m.t.length≤1000000) (hq:x.1<0∨(m.t.length:Int)-p.at_<x.2-x.1) :
  av prog 98 [.pp 0 g 0 0 b a,.d ((aE.root).d b a),p.v b a] (m.az g b a (.so 2 m.eP 0 m.t.length)) fun v s=>v=aJ b a .zero false∧s=m.az g b a (.so 2 m.eP 0 m.t.length):=by
 obtain⟨x1,x2⟩:=x
 simp only at hb hq
 have w0:IntKind.i64.wrap (m.p.re.n-1)=m.p.re.n-1:=bU _ (by omega)
 have w1:IntKind.i64.wrap (x2-x1)=x2-x1:=bU _ (by omega)
 have w2:IntKind.i64.wrap ((m.t.length:Int)-p.at_)=m.t.length-p.at_:=bU _ (by omega)
 have nj:0≤m.p.re.n-1:=by omega
 have fY:m.p.re.n-1<(p.ak.length:Int):=by omega
 have fC:=hx
 have hM:=cy m b a (.so 2 m.eP 0 m.t.length) rfl
 unfold aC.az
 refine aw func98 rfl ntmps98 results98 rfl 3 999 (by simp) (by simp) ?_
 simp only[zX,simprocAttr,-Int.reduceNatCast',zM,aE.d]
 refine aH bM.aP ?_
 refine aq mix [] [(0,[3],[]),(1,[3],[]),(3,[0],[]),(4,[0],[]),(5,[0],[]),(9,[5],[5]),(10,[5],[5])] (by rfl) ?_
 simp only[zX,simprocAttr,-Int.reduceNatCast',zM,Re.ae,hole,w0,w1,nj,fY,fC,bH,aT]
 refine⟨by decide,by decide,?_⟩
 by_cases q1:x1<0
 ·refine aq mix [] [(0,[5],[]),(1,[5],[]),(6,[0],[]),(7,[0],[]),(8,[0],[]),(9,[2],[]),(10,[3],[]),(11,[3],[])] (by rfl) ?_
  simp only[zX,simprocAttr,-Int.reduceNatCast',zM,w1,q1]
  exact⟨by decide,hM,rfl⟩
 ·have q2:(m.t.length:Int)-p.at_<x2-x1:=by omega
  refine aq mix [] [(0,[5],[]),(1,[5],[]),(6,[0],[]),(7,[0],[]),(8,[0],[]),(9,[2],[]),(10,[3],[]),(11,[3],[])] (by rfl) ?_
  simp only[zX,simprocAttr,-Int.reduceNatCast',zM,w1,w2,q1,q2,gt_iff_lt]
  exact⟨by decide,hM,rfl⟩
theorem Ix (g b a:Nat) (m:aC) (re:Re) (p:aA) (x1 x2:Nat) (hx:p.ak[(re.n-1).toNat]?=some ((x1:Int),(x2:Int))) (hn:1≤re.n) (Mt:re.n≤p.ak.length) (hc:p.ak.length≤1000000000) (i:Nat)
  (hp:p.at_=i) (ht:m.t.length≤1000000) (hq:i+(x2-x1)≤m.t.length) (eU:x1≤x2) (h2:x2≤m.t.length) :
  av prog 98 [.pp 0 g 0 0 b a,.d ((aE.el re).d b a),p.v b a] (m.az g b a (.d (aB m.t))) fun v s=>v=(if cW m.t x1 i (x2-x1)=true then aJ b a { p with at_:=p.at_+((x2:Int)-x1) } true else aJ b a .zero false)∧s=m.az g b a (.d (aB m.t)):=by
 have w0:IntKind.i64.wrap (re.n-1)=re.n-1:=bU _ (by omega)
 have w1:IntKind.i64.wrap ((x2:Int)-x1)=x2-x1:=bU _ (by omega)
 have w2:IntKind.i64.wrap ((m.t.length:Int)-i)=m.t.length-i:=bU _ (by omega)
 have w3:IntKind.i64.wrap ((i:Int)+((x2:Int)-x1))=i+((x2:Int)-x1):=bU _ (by omega)
 have nj:0≤re.n-1:=by omega
 have fY:re.n-1<(p.ak.length:Int):=by omega
 have fC:=hx
 have q1:¬(x1:Int)<0:=by omega
 have q2:¬(m.t.length:Int)-i<(x2:Int)-x1:=by omega
 have l1:(0:Int)≤(x1:Int):=by omega
 have l2:(x1:Int)≤(x2:Int):=by omega
 have l3:(x2:Int)≤(m.t.length:Int):=by omega
 have l4:(0:Int)≤(i:Int):=by omega
 have l5:(i:Int)≤(i:Int)+((x2:Int)-x1):=by omega
 have l6:(i:Int)+((x2:Int)-x1)≤(m.t.length:Int):=by omega
 have e1:((x2:Int)-x1).toNat=x2-x1:=by omega
 have e2:((i:Int)+((x2:Int)-x1)-i).toNat=x2-x1:=by omega
 have hM:=cy m b a (.d (aB m.t)) rfl
 have Iy:=lh (t:=m.t) (a:=x1) (i:=i) (n:=x2-x1) (by omega) hq
 have hE:=lQ ((m.t.drop x1).take (x2-x1)) ((m.t.drop i).take (x2-x1)) (by simp;omega)
 rw[Iy]at hE
 unfold aC.az;simp only[aB]
 refine aw func98 rfl ntmps98 results98 rfl 3 999 (by simp) (by simp) ?_
 simp only[zX,simprocAttr,-Int.reduceNatCast',zM,aE.d]
 refine aH bM.aP ?_
 refine aq mix [] [(0,[3],[]),(1,[3],[]),(3,[0],[]),(4,[0],[]),(5,[0],[]),(9,[5],[5]),(10,[5],[5])] (by rfl) ?_
 simp only[zX,simprocAttr,-Int.reduceNatCast',zM,Re.ae,hole,w0,w1,hp,nj,fY,fC,bH,aT]
 refine⟨by decide,by decide,?_⟩
 refine aq mix [] [(0,[5],[]),(1,[5],[]),(6,[0],[]),(7,[0],[]),(8,[0],[]),(9,[2],[]),(10,[3],[]),(11,[3],[])] (by rfl) ?_
 simp only[zX,simprocAttr,-Int.reduceNatCast',zM,hp,w1,w2,q1,q2,gt_iff_lt]
 refine⟨by decide,?_⟩
 refine aq mix [20] [(1,[0],[]),(2,[0],[]),(3,[0],[]),(4,[5],[]),(5,[5],[]),(6,[5],[]),(7,[5],[]),(8,[2],[]),(10,[0],[]),(11,[0],[]),(12,[0],[]),(13,[3],[]),(14,[3],[]),(15,[3],[]),(16,[3],[]),(19,[2],[])] (by rfl) ?_
 have Nn:∀e∈m.t.map (fun x=>[D.sc (Value.int IntKind.i64 x)]),e.length=1:=by
  intro e he;obtain⟨y,_,rfl⟩:=List.mem_map.1 he;rfl
 simp only[aB,XR,List.map_drop,bV,iD]at hE
 simp only[zX,simprocAttr,-Int.reduceNatCast',zM,hp,w1,w3,l1,l2,l3,l4,l5,l6,W1,e1,e2,Xp]
 refine⟨by decide,by decide,.inr Nn,.inr Nn,bu (aD hE rfl rfl ⟨rfl,rfl⟩) ?_⟩
 cases lf:cW m.t x1 i (x2-x1) with
 |true =>
  simp only[zX,simprocAttr,-Int.reduceNatCast',zM,hp,w1,w3,lf,WY,W0]
  exact⟨hM,rfl⟩
 |false =>
  simp only[zX,simprocAttr,-Int.reduceNatCast',zM,hp,w1,w3,lf,WY,W0,W2]
  exact⟨hM,rfl⟩
theorem Dk (g b a:Nat) (m:aC) (p:aA) (x1 x2:Nat) (hx:p.ak[(m.p.re.n-1).toNat]?=some ((x1:Int),(x2:Int))) (hn:1≤m.p.re.n) (Mt:m.p.re.n≤p.ak.length) (hc:p.ak.length≤1000000000) (i:Nat)
  (hp:p.at_=i) (ht:m.t.length≤1000000) (hq:i+(x2-x1)≤m.t.length) (eU:x1≤x2) (h2:x2≤m.t.length) :
  av prog 98 [.pp 0 g 0 0 b a,.d ((aE.root).d b a),p.v b a] (m.az g b a (.d (aB m.t))) fun v s=>v=(if cW m.t x1 i (x2-x1)=true then aJ b a { p with at_:=p.at_+((x2:Int)-x1) } true else aJ b a .zero false)∧s=m.az g b a (.d (aB m.t)):=by
 have w0:IntKind.i64.wrap (m.p.re.n-1)=m.p.re.n-1:=bU _ (by omega)
 have w1:IntKind.i64.wrap ((x2:Int)-x1)=x2-x1:=bU _ (by omega)
 have w2:IntKind.i64.wrap ((m.t.length:Int)-i)=m.t.length-i:=bU _ (by omega)
 have w3:IntKind.i64.wrap ((i:Int)+((x2:Int)-x1))=i+((x2:Int)-x1):=bU _ (by omega)
 have nj:0≤m.p.re.n-1:=by omega
 have fY:m.p.re.n-1<(p.ak.length:Int):=by omega
 have fC:=hx
 have q1:¬(x1:Int)<0:=by omega
 have q2:¬(m.t.length:Int)-i<(x2:Int)-x1:=by omega
 have l1:(0:Int)≤(x1:Int):=by omega
 have l2:(x1:Int)≤(x2:Int):=by omega
 have l3:(x2:Int)≤(m.t.length:Int):=by omega
 have l4:(0:Int)≤(i:Int):=by omega
 have l5:(i:Int)≤(i:Int)+((x2:Int)-x1):=by omega
 have l6:(i:Int)+((x2:Int)-x1)≤(m.t.length:Int):=by omega
 have e1:((x2:Int)-x1).toNat=x2-x1:=by omega
 have e2:((i:Int)+((x2:Int)-x1)-i).toNat=x2-x1:=by omega
 have hM:=cy m b a (.d (aB m.t)) rfl
 have Iy:=lh (t:=m.t) (a:=x1) (i:=i) (n:=x2-x1) (by omega) hq
 have hE:=lQ ((m.t.drop x1).take (x2-x1)) ((m.t.drop i).take (x2-x1)) (by simp;omega)
 rw[Iy]at hE
 unfold aC.az;simp only[aB]
 refine aw func98 rfl ntmps98 results98 rfl 3 999 (by simp) (by simp) ?_
 simp only[zX,simprocAttr,-Int.reduceNatCast',zM,aE.d]
 refine aH bM.aP ?_
 refine aq mix [] [(0,[3],[]),(1,[3],[]),(3,[0],[]),(4,[0],[]),(5,[0],[]),(9,[5],[5]),(10,[5],[5])] (by rfl) ?_
 simp only[zX,simprocAttr,-Int.reduceNatCast',zM,Re.ae,hole,w0,w1,hp,nj,fY,fC,bH,aT]
 refine⟨by decide,by decide,?_⟩
 refine aq mix [] [(0,[5],[]),(1,[5],[]),(6,[0],[]),(7,[0],[]),(8,[0],[]),(9,[2],[]),(10,[3],[]),(11,[3],[])] (by rfl) ?_
 simp only[zX,simprocAttr,-Int.reduceNatCast',zM,hp,w1,w2,q1,q2,gt_iff_lt]
 refine⟨by decide,?_⟩
 refine aq mix [20] [(1,[0],[]),(2,[0],[]),(3,[0],[]),(4,[5],[]),(5,[5],[]),(6,[5],[]),(7,[5],[]),(8,[2],[]),(10,[0],[]),(11,[0],[]),(12,[0],[]),(13,[3],[]),(14,[3],[]),(15,[3],[]),(16,[3],[]),(19,[2],[])] (by rfl) ?_
 have Nn:∀e∈m.t.map (fun x=>[D.sc (Value.int IntKind.i64 x)]),e.length=1:=by
  intro e he;obtain⟨y,_,rfl⟩:=List.mem_map.1 he;rfl
 simp only[aB,XR,List.map_drop,bV,iD]at hE
 simp only[zX,simprocAttr,-Int.reduceNatCast',zM,hp,w1,w3,l1,l2,l3,l4,l5,l6,W1,e1,e2,Xp]
 refine⟨by decide,by decide,.inr Nn,.inr Nn,bu (aD hE rfl rfl ⟨rfl,rfl⟩) ?_⟩
 cases lf:cW m.t x1 i (x2-x1) with
 |true =>
  simp only[zX,simprocAttr,-Int.reduceNatCast',zM,hp,w1,w3,lf,WY,W0]
  exact⟨hM,rfl⟩
 |false =>
  simp only[zX,simprocAttr,-Int.reduceNatCast',zM,hp,w1,w3,lf,WY,W0,W2]
  exact⟨hM,rfl⟩
theorem FU (g b a:Nat) (m:aC) (re:Re) (p:aA) (x1 x2:Nat) (hx:p.ak[(re.n-1).toNat]?=some ((x1:Int),(x2:Int))) (hn:1≤re.n) (Mt:re.n≤p.ak.length) (hc:p.ak.length≤1000000000) (i:Nat)
  (hp:p.at_=i) (ht:m.t.length≤1000000) (hq:i+(x2-x1)≤m.t.length) (eU:x1≤x2) (h2:x2≤m.t.length) (hs:m.own=m.t) :
  av prog 98 [.pp 0 g 0 0 b a,.d ((aE.el re).d b a),p.v b a] (m.az g b a (.so 2 m.eP 0 m.t.length)) fun v s=>v=(if cW m.t x1 i (x2-x1)=true then aJ b a { p with at_:=p.at_+((x2:Int)-x1) } true else aJ b a .zero false)∧s=m.az g b a (.so 2 m.eP 0 m.t.length):=by
 have w0:IntKind.i64.wrap (re.n-1)=re.n-1:=bU _ (by omega)
 have w1:IntKind.i64.wrap ((x2:Int)-x1)=x2-x1:=bU _ (by omega)
 have w2:IntKind.i64.wrap ((m.t.length:Int)-i)=m.t.length-i:=bU _ (by omega)
 have w3:IntKind.i64.wrap ((i:Int)+((x2:Int)-x1))=i+((x2:Int)-x1):=bU _ (by omega)
 have nj:0≤re.n-1:=by omega
 have fY:re.n-1<(p.ak.length:Int):=by omega
 have fC:=hx
 have q1:¬(x1:Int)<0:=by omega
 have q2:¬(m.t.length:Int)-i<(x2:Int)-x1:=by omega
 have l1:(0:Int)≤(x1:Int):=by omega
 have l2:(x1:Int)≤(x2:Int):=by omega
 have l3:(x2:Int)≤(m.t.length:Int):=by omega
 have l4:(0:Int)≤(i:Int):=by omega
 have l5:(i:Int)≤(i:Int)+((x2:Int)-x1):=by omega
 have l6:(i:Int)+((x2:Int)-x1)≤(m.t.length:Int):=by omega
 have e1:((x2:Int)-x1).toNat=x2-x1:=by omega
 have e2:((i:Int)+((x2:Int)-x1)-i).toNat=x2-x1:=by omega
 have hM:=cy m b a (.so 2 m.eP 0 m.t.length) rfl
 have Iy:=lh (t:=m.t) (a:=x1) (i:=i) (n:=x2-x1) (by omega) hq
 have hE:=lQ ((m.t.drop x1).take (x2-x1)) ((m.t.drop i).take (x2-x1)) (by simp;omega)
 rw[Iy]at hE
 unfold aC.az
 refine aw func98 rfl ntmps98 results98 rfl 3 999 (by simp) (by simp) ?_
 simp only[zX,simprocAttr,-Int.reduceNatCast',zM,aE.d]
 refine aH bM.aP ?_
 refine aq mix [] [(0,[3],[]),(1,[3],[]),(3,[0],[]),(4,[0],[]),(5,[0],[]),(9,[5],[5]),(10,[5],[5])] (by rfl) ?_
 simp only[zX,simprocAttr,-Int.reduceNatCast',zM,Re.ae,hole,w0,w1,hp,nj,fY,fC,bH,aT]
 refine⟨by decide,by decide,?_⟩
 refine aq mix [] [(0,[5],[]),(1,[5],[]),(6,[0],[]),(7,[0],[]),(8,[0],[]),(9,[2],[]),(10,[3],[]),(11,[3],[])] (by rfl) ?_
 simp only[zX,simprocAttr,-Int.reduceNatCast',zM,hp,w1,w2,q1,q2,gt_iff_lt]
 refine⟨by decide,?_⟩
 have hle:m.t.length≤m.own.length:=by rw[hs];exact W4 _
 have iI:min m.t.length m.own.length=m.t.length:=by omega
 refine aq mix [20] [(1,[0],[]),(2,[0],[]),(3,[0],[]),(4,[5],[]),(5,[5],[]),(6,[5],[]),(7,[5],[]),(8,[2],[]),(10,[0],[]),(11,[0],[]),(12,[0],[]),(13,[3],[]),(14,[3],[]),(15,[3],[]),(16,[3],[]),(19,[2],[])] (by rfl) ?_
 simp only[bV]at hE
 rw[← hs,show cW m.own=cW m.t by rw[hs]]at hE
 rcases Xw x1 x2 with l7|l7
 ·have l8:(x1:Int)<(x2:Int):=by omega
  have l9:(i:Int)<(i:Int)+((x2:Int)-x1):=by omega
  simp only[zX,simprocAttr,-Int.reduceNatCast',zM,hle,iI,hp,w1,w3,l1,l2,l3,l4,l5,l6,l8,l9,W1,Xu,W4,e1,e2,Xp,Xi,or_true,WW]
  refine⟨by decide,by decide,bu (fK [2] hE (ka (gU (own:=m.own) rfl (show x1+(x2-x1)≤m.own.length by omega)) (gU (own:=m.own) rfl (show i+(x2-x1)≤m.own.length by omega))) rfl ⟨rfl,rfl⟩) ?_⟩
  cases lf:cW m.t x1 i (x2-x1) with
  |true =>
   simp only[zX,simprocAttr,-Int.reduceNatCast',zM,hp,w1,w3,lf,WY,W0]
   exact⟨hM,rfl⟩
  |false =>
   simp only[zX,simprocAttr,-Int.reduceNatCast',zM,hp,w1,w3,lf,WY,W0,W2]
   exact⟨hM,rfl⟩
 ·have l8:¬(x1:Int)<(x2:Int):=by omega
  have l9:¬(i:Int)<(i:Int)+((x2:Int)-x1):=by omega
  have hz:x2-x1=0:=by omega
  by_cases z1:(x1:Int)=0
  ·have y1:=eq_true z1
   by_cases z2:(i:Int)=0
   ·have y2:=eq_true z2
    simp only[zX,simprocAttr,-Int.reduceNatCast',zM,hle,iI,hp,w1,w3,l1,l2,l3,l4,l5,l6,l8,l9,y1,y2,true_or,or_false,W1,Xu,W4,e1,e2,Xp,Xi,or_true,WW]
    refine⟨by decide,by decide,bu (fK [2] hE (ka (gU (own:=m.own) rfl (show x1+(x2-x1)≤m.own.length by omega)) (gU (own:=m.own) rfl (show i+(x2-x1)≤m.own.length by omega))) rfl ⟨rfl,rfl⟩) ?_⟩
    cases lf:cW m.t x1 i (x2-x1) with
    |true =>
     simp only[zX,simprocAttr,-Int.reduceNatCast',zM,hp,w1,w3,lf,WY,W0]
     exact⟨hM,rfl⟩
    |false =>
     simp only[zX,simprocAttr,-Int.reduceNatCast',zM,hp,w1,w3,lf,WY,W0,W2]
     exact⟨hM,rfl⟩
   ·have y2:=eq_false z2
    simp only[zX,simprocAttr,-Int.reduceNatCast',zM,hle,iI,hp,w1,w3,l1,l2,l3,l4,l5,l6,l8,l9,y1,y2,true_or,or_false,W1,Xu,W4,e1,e2,Xp,Xi,or_true,WW]
    refine⟨by decide,by decide,bu (fK [2] hE (ka (gU (own:=m.own) rfl (show x1+(x2-x1)≤m.own.length by omega)) (ko hz)) rfl ⟨rfl,rfl⟩) ?_⟩
    cases lf:cW m.t x1 i (x2-x1) with
    |true =>
     simp only[zX,simprocAttr,-Int.reduceNatCast',zM,hp,w1,w3,lf,WY,W0]
     exact⟨hM,rfl⟩
    |false =>
     simp only[zX,simprocAttr,-Int.reduceNatCast',zM,hp,w1,w3,lf,WY,W0,W2]
     exact⟨hM,rfl⟩
  ·have y1:=eq_false z1
   by_cases z2:(i:Int)=0
   ·have y2:=eq_true z2
    simp only[zX,simprocAttr,-Int.reduceNatCast',zM,hle,iI,hp,w1,w3,l1,l2,l3,l4,l5,l6,l8,l9,y1,y2,true_or,or_false,W1,Xu,W4,e1,e2,Xp,Xi,or_true,WW]
    refine⟨by decide,by decide,bu (fK [2] hE (ka (ko hz) (gU (own:=m.own) rfl (show i+(x2-x1)≤m.own.length by omega))) rfl ⟨rfl,rfl⟩) ?_⟩
    cases lf:cW m.t x1 i (x2-x1) with
    |true =>
     simp only[zX,simprocAttr,-Int.reduceNatCast',zM,hp,w1,w3,lf,WY,W0]
     exact⟨hM,rfl⟩
    |false =>
     simp only[zX,simprocAttr,-Int.reduceNatCast',zM,hp,w1,w3,lf,WY,W0,W2]
     exact⟨hM,rfl⟩
   ·have y2:=eq_false z2
    simp only[zX,simprocAttr,-Int.reduceNatCast',zM,hle,iI,hp,w1,w3,l1,l2,l3,l4,l5,l6,l8,l9,y1,y2,true_or,or_false,W1,Xu,W4,e1,e2,Xp,Xi,or_true,WW]
    refine⟨by decide,by decide,bu (fK [2] hE (ka (ko hz) (ko hz)) rfl ⟨rfl,rfl⟩) ?_⟩
    cases lf:cW m.t x1 i (x2-x1) with
    |true =>
     simp only[zX,simprocAttr,-Int.reduceNatCast',zM,hp,w1,w3,lf,WY,W0]
     exact⟨hM,rfl⟩
    |false =>
     simp only[zX,simprocAttr,-Int.reduceNatCast',zM,hp,w1,w3,lf,WY,W0,W2]
     exact⟨hM,rfl⟩
theorem Bt (g b a:Nat) (m:aC) (p:aA) (x1 x2:Nat) (hx:p.ak[(m.p.re.n-1).toNat]?=some ((x1:Int),(x2:Int))) (hn:1≤m.p.re.n) (Mt:m.p.re.n≤p.ak.length) (hc:p.ak.length≤1000000000) (i:Nat)
  (hp:p.at_=i) (ht:m.t.length≤1000000) (hq:i+(x2-x1)≤m.t.length) (eU:x1≤x2) (h2:x2≤m.t.length) (hs:m.own=m.t) :
  av prog 98 [.pp 0 g 0 0 b a,.d ((aE.root).d b a),p.v b a] (m.az g b a (.so 2 m.eP 0 m.t.length)) fun v s=>v=(if cW m.t x1 i (x2-x1)=true then aJ b a { p with at_:=p.at_+((x2:Int)-x1) } true else aJ b a .zero false)∧s=m.az g b a (.so 2 m.eP 0 m.t.length):=by
 have w0:IntKind.i64.wrap (m.p.re.n-1)=m.p.re.n-1:=bU _ (by omega)
 have w1:IntKind.i64.wrap ((x2:Int)-x1)=x2-x1:=bU _ (by omega)
 have w2:IntKind.i64.wrap ((m.t.length:Int)-i)=m.t.length-i:=bU _ (by omega)
 have w3:IntKind.i64.wrap ((i:Int)+((x2:Int)-x1))=i+((x2:Int)-x1):=bU _ (by omega)
 have nj:0≤m.p.re.n-1:=by omega
 have fY:m.p.re.n-1<(p.ak.length:Int):=by omega
 have fC:=hx
 have q1:¬(x1:Int)<0:=by omega
 have q2:¬(m.t.length:Int)-i<(x2:Int)-x1:=by omega
 have l1:(0:Int)≤(x1:Int):=by omega
 have l2:(x1:Int)≤(x2:Int):=by omega
 have l3:(x2:Int)≤(m.t.length:Int):=by omega
 have l4:(0:Int)≤(i:Int):=by omega
 have l5:(i:Int)≤(i:Int)+((x2:Int)-x1):=by omega
 have l6:(i:Int)+((x2:Int)-x1)≤(m.t.length:Int):=by omega
 have e1:((x2:Int)-x1).toNat=x2-x1:=by omega
 have e2:((i:Int)+((x2:Int)-x1)-i).toNat=x2-x1:=by omega
 have hM:=cy m b a (.so 2 m.eP 0 m.t.length) rfl
 have Iy:=lh (t:=m.t) (a:=x1) (i:=i) (n:=x2-x1) (by omega) hq
 have hE:=lQ ((m.t.drop x1).take (x2-x1)) ((m.t.drop i).take (x2-x1)) (by simp;omega)
 rw[Iy]at hE
 unfold aC.az
 refine aw func98 rfl ntmps98 results98 rfl 3 999 (by simp) (by simp) ?_
 simp only[zX,simprocAttr,-Int.reduceNatCast',zM,aE.d]
 refine aH bM.aP ?_
 refine aq mix [] [(0,[3],[]),(1,[3],[]),(3,[0],[]),(4,[0],[]),(5,[0],[]),(9,[5],[5]),(10,[5],[5])] (by rfl) ?_
 simp only[zX,simprocAttr,-Int.reduceNatCast',zM,Re.ae,hole,w0,w1,hp,nj,fY,fC,bH,aT]
 refine⟨by decide,by decide,?_⟩
 refine aq mix [] [(0,[5],[]),(1,[5],[]),(6,[0],[]),(7,[0],[]),(8,[0],[]),(9,[2],[]),(10,[3],[]),(11,[3],[])] (by rfl) ?_
 simp only[zX,simprocAttr,-Int.reduceNatCast',zM,hp,w1,w2,q1,q2,gt_iff_lt]
 refine⟨by decide,?_⟩
 have hle:m.t.length≤m.own.length:=by rw[hs];exact W4 _
 have iI:min m.t.length m.own.length=m.t.length:=by omega
 refine aq mix [20] [(1,[0],[]),(2,[0],[]),(3,[0],[]),(4,[5],[]),(5,[5],[]),(6,[5],[]),(7,[5],[]),(8,[2],[]),(10,[0],[]),(11,[0],[]),(12,[0],[]),(13,[3],[]),(14,[3],[]),(15,[3],[]),(16,[3],[]),(19,[2],[])] (by rfl) ?_
 simp only[bV]at hE
 rw[← hs,show cW m.own=cW m.t by rw[hs]]at hE
 rcases Xw x1 x2 with l7|l7
 ·have l8:(x1:Int)<(x2:Int):=by omega
  have l9:(i:Int)<(i:Int)+((x2:Int)-x1):=by omega
  simp only[zX,simprocAttr,-Int.reduceNatCast',zM,hle,iI,hp,w1,w3,l1,l2,l3,l4,l5,l6,l8,l9,W1,Xu,W4,e1,e2,Xp,Xi,or_true,WW]
  refine⟨by decide,by decide,bu (fK [2] hE (ka (gU (own:=m.own) rfl (show x1+(x2-x1)≤m.own.length by omega)) (gU (own:=m.own) rfl (show i+(x2-x1)≤m.own.length by omega))) rfl ⟨rfl,rfl⟩) ?_⟩
  cases lf:cW m.t x1 i (x2-x1) with
  |true =>
   simp only[zX,simprocAttr,-Int.reduceNatCast',zM,hp,w1,w3,lf,WY,W0]
   exact⟨hM,rfl⟩
  |false =>
   simp only[zX,simprocAttr,-Int.reduceNatCast',zM,hp,w1,w3,lf,WY,W0,W2]
   exact⟨hM,rfl⟩
 ·have l8:¬(x1:Int)<(x2:Int):=by omega
  have l9:¬(i:Int)<(i:Int)+((x2:Int)-x1):=by omega
  have hz:x2-x1=0:=by omega
  by_cases z1:(x1:Int)=0
  ·have y1:=eq_true z1
   by_cases z2:(i:Int)=0
   ·have y2:=eq_true z2
    simp only[zX,simprocAttr,-Int.reduceNatCast',zM,hle,iI,hp,w1,w3,l1,l2,l3,l4,l5,l6,l8,l9,y1,y2,true_or,or_false,W1,Xu,W4,e1,e2,Xp,Xi,or_true,WW]
    refine⟨by decide,by decide,bu (fK [2] hE (ka (gU (own:=m.own) rfl (show x1+(x2-x1)≤m.own.length by omega)) (gU (own:=m.own) rfl (show i+(x2-x1)≤m.own.length by omega))) rfl ⟨rfl,rfl⟩) ?_⟩
    cases lf:cW m.t x1 i (x2-x1) with
    |true =>
     simp only[zX,simprocAttr,-Int.reduceNatCast',zM,hp,w1,w3,lf,WY,W0]
     exact⟨hM,rfl⟩
    |false =>
     simp only[zX,simprocAttr,-Int.reduceNatCast',zM,hp,w1,w3,lf,WY,W0,W2]
     exact⟨hM,rfl⟩
   ·have y2:=eq_false z2
    simp only[zX,simprocAttr,-Int.reduceNatCast',zM,hle,iI,hp,w1,w3,l1,l2,l3,l4,l5,l6,l8,l9,y1,y2,true_or,or_false,W1,Xu,W4,e1,e2,Xp,Xi,or_true,WW]
    refine⟨by decide,by decide,bu (fK [2] hE (ka (gU (own:=m.own) rfl (show x1+(x2-x1)≤m.own.length by omega)) (ko hz)) rfl ⟨rfl,rfl⟩) ?_⟩
    cases lf:cW m.t x1 i (x2-x1) with
    |true =>
     simp only[zX,simprocAttr,-Int.reduceNatCast',zM,hp,w1,w3,lf,WY,W0]
     exact⟨hM,rfl⟩
    |false =>
     simp only[zX,simprocAttr,-Int.reduceNatCast',zM,hp,w1,w3,lf,WY,W0,W2]
     exact⟨hM,rfl⟩
  ·have y1:=eq_false z1
   by_cases z2:(i:Int)=0
   ·have y2:=eq_true z2
    simp only[zX,simprocAttr,-Int.reduceNatCast',zM,hle,iI,hp,w1,w3,l1,l2,l3,l4,l5,l6,l8,l9,y1,y2,true_or,or_false,W1,Xu,W4,e1,e2,Xp,Xi,or_true,WW]
    refine⟨by decide,by decide,bu (fK [2] hE (ka (ko hz) (gU (own:=m.own) rfl (show i+(x2-x1)≤m.own.length by omega))) rfl ⟨rfl,rfl⟩) ?_⟩
    cases lf:cW m.t x1 i (x2-x1) with
    |true =>
     simp only[zX,simprocAttr,-Int.reduceNatCast',zM,hp,w1,w3,lf,WY,W0]
     exact⟨hM,rfl⟩
    |false =>
     simp only[zX,simprocAttr,-Int.reduceNatCast',zM,hp,w1,w3,lf,WY,W0,W2]
     exact⟨hM,rfl⟩
   ·have y2:=eq_false z2
    simp only[zX,simprocAttr,-Int.reduceNatCast',zM,hle,iI,hp,w1,w3,l1,l2,l3,l4,l5,l6,l8,l9,y1,y2,true_or,or_false,W1,Xu,W4,e1,e2,Xp,Xi,or_true,WW]
    refine⟨by decide,by decide,bu (fK [2] hE (ka (ko hz) (ko hz)) rfl ⟨rfl,rfl⟩) ?_⟩
    cases lf:cW m.t x1 i (x2-x1) with
    |true =>
     simp only[zX,simprocAttr,-Int.reduceNatCast',zM,hp,w1,w3,lf,WY,W0]
     exact⟨hM,rfl⟩
    |false =>
     simp only[zX,simprocAttr,-Int.reduceNatCast',zM,hp,w1,w3,lf,WY,W0,W2]
     exact⟨hM,rfl⟩
theorem getD_some {α:Type}{l:List α}{i:Nat}{x d:α} (h:l[i]?=some x):l.getD i d=x:=by
 rw[List.getD,h];rfl
theorem F9 (g b a:Nat) (m:aC) (r:aE) (re:Re) (p:aA) (hr:m.lit r=some re) {x:aA×Bool} (hx:CL m.t re p=some x) (hc:p.ak.length≤1000000000) (hp:0≤p.at_) (LI:p.at_≤m.t.length) (ht:m.t.length≤1000000) (hs:m.same) :
  av prog 98 [.pp 0 g 0 0 b a,.d (r.d b a),p.v b a] (m.au g b a) fun v s=>v=aJ b a x.1 x.2∧s=m.au g b a:=by
 unfold CL at hx
 split at hx
 ·cases hx
 rename_i hn
 obtain⟨y,hy⟩:∃y,p.ak[(re.n-1).toNat]?=some y:=⟨_,WZ (by omega)⟩
 rw[getD_some hy]at hx
 simp only at hx
 split at hx
 ·cases hx
 rename_i hb
 split at hx
 ·rename_i hq
  cases hx
  cases r with
  |nil=>cases hr
  |root =>
   cases hr
   cases hT:m.bB with
   |true=>rw[kZ hT];exact AH g b a m p y hy (by omega) (by omega) hc (by omega) hp LI ht hq
   |false=>rw[nk hT];exact BY g b a m p y hy (by omega) (by omega) hc (by omega) hp LI ht hq
  |el pC =>
   cases hr
   cases hT:m.bB with
   |true=>rw[kZ hT];exact EJ g b a m re p y hy (by omega) (by omega) hc (by omega) hp LI ht hq
   |false=>rw[nk hT];exact Ho g b a m re p y hy (by omega) (by omega) hc (by omega) hp LI ht hq
 rename_i hq
 split at hx
 ·cases hx
 rename_i Wj
 obtain⟨y1,y2⟩:=y
 simp only at hx hb hq Wj
 obtain⟨x1,rfl⟩:=XU (show 0≤y1 by omega)
 obtain⟨x2,rfl⟩:=XU (show 0≤y2 by omega)
 obtain⟨i,hi⟩:=XU hp
 rw[show ((x2:Int)-(x1:Int)).toNat=x2-x1 by omega,hi]at hx
 have fin:∀T:V,(av prog 98 [.pp 0 g 0 0 b a,.d (r.d b a),p.v b a] (m.az g b a T) fun v s=>v=(if cW m.t x1 i (x2-x1)=true then aJ b a { p with at_:=p.at_+((x2:Int)-x1) } true else aJ b a .zero false)∧s=m.az g b a T) →
   av prog 98 [.pp 0 g 0 0 b a,.d (r.d b a),p.v b a] (m.az g b a T) fun v s=>v=aJ b a x.1 x.2∧s=m.az g b a T:=by
  intro T h
  refine aj h (fun v s hv=>?_)
  obtain⟨rfl,rfl⟩:=hv
  refine⟨?_,rfl⟩
  split at hx
  ·rename_i hh;rw[if_pos hh];cases hx;rw[hi]
  ·rename_i hh;rw[if_neg hh];cases hx;rfl
 cases r with
 |nil=>cases hr
 |root =>
  cases hr
  cases hT:m.bB with
  |true=>rw[kZ hT];exact fin _ (Bt g b a m p x1 x2 hy (by omega) (by omega) hc i hi ht (by omega) (by omega) (by omega) (hs hT))
  |false=>rw[nk hT];exact fin _ (Dk g b a m p x1 x2 hy (by omega) (by omega) hc i hi ht (by omega) (by omega) (by omega))
 |el pC =>
  cases hr
  cases hT:m.bB with
  |true=>rw[kZ hT];exact fin _ (FU g b a m re p x1 x2 hy (by omega) (by omega) hc i hi ht (by omega) (by omega) (by omega) (hs hT))
  |false=>rw[nk hT];exact fin _ (Ix g b a m re p x1 x2 hy (by omega) (by omega) hc i hi ht (by omega) (by omega) (by omega))
end Go.Proofs.YtmihcpdhcillaaaGreat
