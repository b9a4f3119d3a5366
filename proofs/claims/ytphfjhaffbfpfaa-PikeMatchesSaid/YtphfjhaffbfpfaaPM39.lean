/- A part of the proof (G26 G27). -/
import Derived.Test.YtphfjhaffbfpfaaPM17
set_option linter.all false
set_option maxRecDepth 100000
set_option maxHeartbeats 80000000
namespace Go.Proofs.Ytphfjhaffbfpfaa
open Go.VL Go.Proofs.Try
variable{s:List VL.Obj}{own:List Int}{ck:Nat}
theorem pJ (a b:List Int) (ha:a.length<=1000000000):ba prog 96 [.d (av a),.d (av b)] (bV (decide (a=b))):=by
 refine ar func96 rfl ntmps96 results96 rfl 0 12339 (by simp) (by simp) ?_;by_cases hl:a.length=b.length
 ·have UR:(a.length:Int)=b.length:=by omega
  simp only[zX,simprocAttr,i64,bV,av,UR,ne_eq,aeh,if_false];refine aJ (λn e s=>∃i:Nat,n=a.length-i/\i<=a.length/\e 0=.d (av a)/\e 1=.d (av b)/\e 12=i64 a.length/\e 13=i64 i/\s=[]/\a.take i=b.take i)
   ⟨_,_,_,cU.refl,0,rfl,by omega,rfl,rfl,?_,rfl,rfl,rfl⟩ ?_
  ·rw[UR];rfl
  rintro n e s ⟨i,rfl,hi,h0,h1,dZ,eB,rfl,he⟩;rcases adV i a.length with aH|iP
  ·obtain⟨x,hx⟩:∃x,a[i]?=some x:=⟨_,adn aH⟩
   obtain⟨y,hy⟩:∃y,b[i]?=some y:=⟨_,adn (by omega)⟩
   have XJ:i<b.length:=by omega
   by_cases c:x=y
   ·subst c;simp only[zX,simprocAttr,i64,bV,av,iD,h0,h1,dZ,eB,aH,XJ,hx,hy,ne_eq,aeh];refine ao mix [] [] (by rfl) ?_;simp only[zX,simprocAttr,i64,bV,av,iD,h0,h1,dZ,eB,aH,XJ,hx,hy,ne_eq,aeh];refine⟨a.length-(i+1),_,_,by omega,cU.refl,i+1,rfl,aH,?_,?_,?_,?_,rfl,?_⟩ <;> (try simp only[zU,Nat.reduceBEq,Nat.reduceShiftRight,Nat.reduceMod,Nat.reduceEqDiff,reduceIte])
    ·exact h0
    ·exact h1
    ·exact dZ
    ·rw[bM _ (by omega)];rfl
    ·rw[cy hx,cy hy,he]
   ·have fG:¬a=b:=by intro h;rw[h]at hx;rw[hx]at hy;exact c (Option.some.inj hy)
    rw[adl fG];simp only[zX,simprocAttr,i64,bV,av,iD,h0,h1,dZ,eB,aH,XJ,hx,hy,ne_eq,c,not_false_eq_true];refine ao mix [] [] (by rfl) ?_;simp only[zX,simprocAttr,i64,bV,av,iD,h0,h1,dZ,eB,aH,XJ,hx,hy,ne_eq,c,not_false_eq_true];all_goals first|exact⟨rfl,rfl⟩|exact⟨rfl,trivial⟩|rfl|trivial|(rw[aq];rfl)
  ·have hia:i=a.length:=by omega
   subst hia;rw[adZ,hl,adZ]at he;rw[adu he];simp only[zX,simprocAttr,i64,bV,av,iD,h0,h1,dZ,eB,Nat.lt_irrefl];all_goals first|exact⟨rfl,rfl⟩|exact⟨rfl,trivial⟩|rfl|trivial|(rw[aq];rfl)
 ·have UR:¬(a.length:Int)=b.length:=by omega
  have fG:¬a=b:=λh=>hl (by rw[h]);rw[adl fG];simp only[zX,simprocAttr,i64,bV,av,UR,ne_eq,not_false_eq_true,if_true];all_goals first|exact⟨rfl,rfl⟩|exact⟨rfl,trivial⟩|rfl|trivial|(rw[aq];rfl)
theorem oO {t:List Int}{a i:Nat}:∀{n:Nat},a+n<=t.length->i+n<=t.length->decide ((t.drop a).take n=(t.drop i).take n)=dI t a i n
 |0,_,_=>by simp [dI]
 |n+1,h1,h2=>by
  have e:∀k:Nat,k+(n+1)<=t.length->(t.drop k).take (n+1)=(t.drop k).take n++[gQ t ((k:Int)+(n:Int))]:=by
   intro k hk;have hx:(t.drop k)[n]?=some (gQ t ((k:Int)+(n:Int))):=by rw[List.getElem?_drop];have:=ju (t:=t) (i:=(k:Int)+(n:Int)) (by omega) (by omega);rw[show ((k:Int)+(n:Int)).toNat=k+n by omega]at this;exact this
   exact cy hx
  rw[e a h1,e i h2,yY,<- oO (n:=n) (by omega) (by omega)];rw[Bool.eq_iff_iff];simp only[adC,adD,beq_iff_eq];constructor
  ·intro h;have:=List.append_inj' h rfl;exact⟨this.1,by simpa using this.2⟩
  ·rintro ⟨h,h'⟩;rw[h,h']
theorem J5 {α:Type} (f:α->D) (k ck:Nat) (s:List VL.Obj):∀L:List α,((L.map λx=>[V.d (f x)]).mapM λ(e:List V)=>e.mapM (cE (k+1) ck s))=some (L.map λx=>[f x])
 |[]=>rfl
 |x::L=>by rw[adG,List.mapM_cons,J5 f k ck s L];rfl
theorem iH {og lo n:Nat} (hs:s[2]?=some ⟨og,false,1,own.map λx=>[V.d (iD x)]⟩) (h:lo+n<=own.length):bf ck s (.so 2 og lo n)=some (.d (av ((own.drop lo).take n))):=by unfold bf;simp only[cE,hs];rw[ap (by simpa using h),<- List.map_drop,<- List.map_take,J5];rfl
theorem lA {k n:Nat} (h:n=0):bf ck s (.d (.sl []))=some (.d (av ((own.drop k).take n))):=by subst h;rfl
theorem ll{v w:V}{x y:D} (hv:bf ck s v=some (.d x)) (hw:bf ck s w=some (.d y)):bf.go ck s [v,w]=some [.d x,.d y]:=by simp only[bf.go,hv,hw]
theorem Mo (g b a:Nat) (m:aA) (re:Re) (p:aw) (x:Int×Int) (hx:p.ah[(re.n-1).toNat]?=some x) (hn:1<=re.n) (QK:re.n<=p.ah.length) (hc:p.ah.length<=1000000000) (hb:-1000000<=x.1/\-1000000<=x.2/\x.1<=1000000/\x.2<=1000000)
  (hp:0<=p.at_) (Rd:p.at_<=m.t.length) (ht:m.t.length<=1000000) (hq:x.1<0\/(m.t.length:Int)-p.at_<x.2-x.1) :
  au prog 83 [.pp 0 g 0 0 b a,.d ((aD.el re).d b a),p.v b a] (m.ay g b a (.d (av m.t))) λv s=>v=aO b a .zero false/\s=m.ay g b a (.d (av m.t)):=by
 obtain⟨x1,x2⟩:=x;simp only at hb hq;have w0:IntKind.i64.wrap (re.n-1)=re.n-1:=bM _ (by omega);have w1:IntKind.i64.wrap (x2-x1)=x2-x1:=bM _ (by omega);have w2:IntKind.i64.wrap ((m.t.length:Int)-p.at_)=m.t.length-p.at_:=bM _ (by omega);have nq:0<=re.n-1:=by omega
 have lX:re.n-1<(p.ah.length:Int):=by omega
 have fS:=hx;have hM:=cT m b a (.d (av m.t)) rfl;unfold aA.ay;simp only[av];refine ar func83 rfl ntmps83 results83 rfl 3 999 (by simp) (by simp) ?_;simp only[zX,simprocAttr,-Int.reduceNatCast',zM,aD.d];refine aS ca.bh ?_;refine ao mix [] [(0,[3],[]),(1,[3],[]),(3,[0],[]),(4,[0],[]),(5,[0],[]),(9,[5],[5]),(10,[5],[5])] (by rfl) ?_;simp only[zX,simprocAttr,-Int.reduceNatCast',zM,Re.ae,hole,w0,w1,nq,lX,fS,bQ,aN];refine⟨by decide,by decide,?_⟩;by_cases q1:x1<0
 ·refine ao mix [] [(0,[5],[]),(1,[5],[]),(6,[0],[]),(7,[0],[]),(8,[0],[]),(9,[2],[]),(10,[3],[]),(11,[3],[])] (by rfl) ?_;simp only[zX,simprocAttr,-Int.reduceNatCast',zM,w1,q1];exact⟨by decide,hM,rfl⟩
 ·have q2:(m.t.length:Int)-p.at_<x2-x1:=by omega
  refine ao mix [] [(0,[5],[]),(1,[5],[]),(6,[0],[]),(7,[0],[]),(8,[0],[]),(9,[2],[]),(10,[3],[]),(11,[3],[])] (by rfl) ?_;simp only[zX,simprocAttr,-Int.reduceNatCast',zM,w1,w2,q1,q2,gt_iff_lt];exact⟨by decide,hM,rfl⟩
theorem En (g b a:Nat) (m:aA) (p:aw) (x:Int×Int) (hx:p.ah[(m.p.re.n-1).toNat]?=some x) (hn:1<=m.p.re.n) (QK:m.p.re.n<=p.ah.length) (hc:p.ah.length<=1000000000) (hb:-1000000<=x.1/\-1000000<=x.2/\x.1<=1000000/\x.2<=1000000)
  (hp:0<=p.at_) (Rd:p.at_<=m.t.length) (ht:m.t.length<=1000000) (hq:x.1<0\/(m.t.length:Int)-p.at_<x.2-x.1) :
  au prog 83 [.pp 0 g 0 0 b a,.d ((aD.root).d b a),p.v b a] (m.ay g b a (.d (av m.t))) λv s=>v=aO b a .zero false/\s=m.ay g b a (.d (av m.t)):=by
 obtain⟨x1,x2⟩:=x;simp only at hb hq;have w0:IntKind.i64.wrap (m.p.re.n-1)=m.p.re.n-1:=bM _ (by omega);have w1:IntKind.i64.wrap (x2-x1)=x2-x1:=bM _ (by omega);have w2:IntKind.i64.wrap ((m.t.length:Int)-p.at_)=m.t.length-p.at_:=bM _ (by omega);have nq:0<=m.p.re.n-1:=by omega
 have lX:m.p.re.n-1<(p.ah.length:Int):=by omega
 have fS:=hx;have hM:=cT m b a (.d (av m.t)) rfl;unfold aA.ay;simp only[av];refine ar func83 rfl ntmps83 results83 rfl 3 999 (by simp) (by simp) ?_;simp only[zX,simprocAttr,-Int.reduceNatCast',zM,aD.d];refine aS ca.bh ?_;refine ao mix [] [(0,[3],[]),(1,[3],[]),(3,[0],[]),(4,[0],[]),(5,[0],[]),(9,[5],[5]),(10,[5],[5])] (by rfl) ?_;simp only[zX,simprocAttr,-Int.reduceNatCast',zM,Re.ae,hole,w0,w1,nq,lX,fS,bQ,aN];refine⟨by decide,by decide,?_⟩;by_cases q1:x1<0
 ·refine ao mix [] [(0,[5],[]),(1,[5],[]),(6,[0],[]),(7,[0],[]),(8,[0],[]),(9,[2],[]),(10,[3],[]),(11,[3],[])] (by rfl) ?_;simp only[zX,simprocAttr,-Int.reduceNatCast',zM,w1,q1];exact⟨by decide,hM,rfl⟩
 ·have q2:(m.t.length:Int)-p.at_<x2-x1:=by omega
  refine ao mix [] [(0,[5],[]),(1,[5],[]),(6,[0],[]),(7,[0],[]),(8,[0],[]),(9,[2],[]),(10,[3],[]),(11,[3],[])] (by rfl) ?_;simp only[zX,simprocAttr,-Int.reduceNatCast',zM,w1,w2,q1,q2,gt_iff_lt];exact⟨by decide,hM,rfl⟩
theorem I9 (g b a:Nat) (m:aA) (re:Re) (p:aw) (x:Int×Int) (hx:p.ah[(re.n-1).toNat]?=some x) (hn:1<=re.n) (QK:re.n<=p.ah.length) (hc:p.ah.length<=1000000000) (hb:-1000000<=x.1/\-1000000<=x.2/\x.1<=1000000/\x.2<=1000000)
  (hp:0<=p.at_) (Rd:p.at_<=m.t.length) (ht:m.t.length<=1000000) (hq:x.1<0\/(m.t.length:Int)-p.at_<x.2-x.1) :
  au prog 83 [.pp 0 g 0 0 b a,.d ((aD.el re).d b a),p.v b a] (m.ay g b a (.so 2 m.eV 0 m.t.length)) λv s=>v=aO b a .zero false/\s=m.ay g b a (.so 2 m.eV 0 m.t.length):=by
 obtain⟨x1,x2⟩:=x;simp only at hb hq;have w0:IntKind.i64.wrap (re.n-1)=re.n-1:=bM _ (by omega);have w1:IntKind.i64.wrap (x2-x1)=x2-x1:=bM _ (by omega);have w2:IntKind.i64.wrap ((m.t.length:Int)-p.at_)=m.t.length-p.at_:=bM _ (by omega);have nq:0<=re.n-1:=by omega
 have lX:re.n-1<(p.ah.length:Int):=by omega
 have fS:=hx;have hM:=cT m b a (.so 2 m.eV 0 m.t.length) rfl;unfold aA.ay;refine ar func83 rfl ntmps83 results83 rfl 3 999 (by simp) (by simp) ?_;simp only[zX,simprocAttr,-Int.reduceNatCast',zM,aD.d];refine aS ca.bh ?_;refine ao mix [] [(0,[3],[]),(1,[3],[]),(3,[0],[]),(4,[0],[]),(5,[0],[]),(9,[5],[5]),(10,[5],[5])] (by rfl) ?_;simp only[zX,simprocAttr,-Int.reduceNatCast',zM,Re.ae,hole,w0,w1,nq,lX,fS,bQ,aN];refine⟨by decide,by decide,?_⟩;by_cases q1:x1<0
 ·refine ao mix [] [(0,[5],[]),(1,[5],[]),(6,[0],[]),(7,[0],[]),(8,[0],[]),(9,[2],[]),(10,[3],[]),(11,[3],[])] (by rfl) ?_;simp only[zX,simprocAttr,-Int.reduceNatCast',zM,w1,q1];exact⟨by decide,hM,rfl⟩
 ·have q2:(m.t.length:Int)-p.at_<x2-x1:=by omega
  refine ao mix [] [(0,[5],[]),(1,[5],[]),(6,[0],[]),(7,[0],[]),(8,[0],[]),(9,[2],[]),(10,[3],[]),(11,[3],[])] (by rfl) ?_;simp only[zX,simprocAttr,-Int.reduceNatCast',zM,w1,w2,q1,q2,gt_iff_lt];exact⟨by decide,hM,rfl⟩
theorem Di (g b a:Nat) (m:aA) (p:aw) (x:Int×Int) (hx:p.ah[(m.p.re.n-1).toNat]?=some x) (hn:1<=m.p.re.n) (QK:m.p.re.n<=p.ah.length) (hc:p.ah.length<=1000000000) (hb:-1000000<=x.1/\-1000000<=x.2/\x.1<=1000000/\x.2<=1000000)
  (hp:0<=p.at_) (Rd:p.at_<=m.t.length) (ht:m.t.length<=1000000) (hq:x.1<0\/(m.t.length:Int)-p.at_<x.2-x.1) :
  au prog 83 [.pp 0 g 0 0 b a,.d ((aD.root).d b a),p.v b a] (m.ay g b a (.so 2 m.eV 0 m.t.length)) λv s=>v=aO b a .zero false/\s=m.ay g b a (.so 2 m.eV 0 m.t.length):=by
 obtain⟨x1,x2⟩:=x;simp only at hb hq;have w0:IntKind.i64.wrap (m.p.re.n-1)=m.p.re.n-1:=bM _ (by omega);have w1:IntKind.i64.wrap (x2-x1)=x2-x1:=bM _ (by omega);have w2:IntKind.i64.wrap ((m.t.length:Int)-p.at_)=m.t.length-p.at_:=bM _ (by omega);have nq:0<=m.p.re.n-1:=by omega
 have lX:m.p.re.n-1<(p.ah.length:Int):=by omega
 have fS:=hx;have hM:=cT m b a (.so 2 m.eV 0 m.t.length) rfl;unfold aA.ay;refine ar func83 rfl ntmps83 results83 rfl 3 999 (by simp) (by simp) ?_;simp only[zX,simprocAttr,-Int.reduceNatCast',zM,aD.d];refine aS ca.bh ?_;refine ao mix [] [(0,[3],[]),(1,[3],[]),(3,[0],[]),(4,[0],[]),(5,[0],[]),(9,[5],[5]),(10,[5],[5])] (by rfl) ?_;simp only[zX,simprocAttr,-Int.reduceNatCast',zM,Re.ae,hole,w0,w1,nq,lX,fS,bQ,aN];refine⟨by decide,by decide,?_⟩;by_cases q1:x1<0
 ·refine ao mix [] [(0,[5],[]),(1,[5],[]),(6,[0],[]),(7,[0],[]),(8,[0],[]),(9,[2],[]),(10,[3],[]),(11,[3],[])] (by rfl) ?_;simp only[zX,simprocAttr,-Int.reduceNatCast',zM,w1,q1];exact⟨by decide,hM,rfl⟩
 ·have q2:(m.t.length:Int)-p.at_<x2-x1:=by omega
  refine ao mix [] [(0,[5],[]),(1,[5],[]),(6,[0],[]),(7,[0],[]),(8,[0],[]),(9,[2],[]),(10,[3],[]),(11,[3],[])] (by rfl) ?_;simp only[zX,simprocAttr,-Int.reduceNatCast',zM,w1,w2,q1,q2,gt_iff_lt];exact⟨by decide,hM,rfl⟩
theorem L8 (g b a:Nat) (m:aA) (re:Re) (p:aw) (x1 x2:Nat) (hx:p.ah[(re.n-1).toNat]?=some ((x1:Int),(x2:Int))) (hn:1<=re.n) (QK:re.n<=p.ah.length) (hc:p.ah.length<=1000000000) (i:Nat)
  (hp:p.at_=i) (ht:m.t.length<=1000000) (hq:i+(x2-x1)<=m.t.length) (dZ:x1<=x2) (h2:x2<=m.t.length) :
  au prog 83 [.pp 0 g 0 0 b a,.d ((aD.el re).d b a),p.v b a] (m.ay g b a (.d (av m.t))) λv s=>v=(if dI m.t x1 i (x2-x1)=true then aO b a { p with at_:=p.at_+((x2:Int)-x1) } true else aO b a .zero false)/\s=m.ay g b a (.d (av m.t)):=by
 have w0:IntKind.i64.wrap (re.n-1)=re.n-1:=bM _ (by omega);have w1:IntKind.i64.wrap ((x2:Int)-x1)=x2-x1:=bM _ (by omega);have w2:IntKind.i64.wrap ((m.t.length:Int)-i)=m.t.length-i:=bM _ (by omega);have w3:IntKind.i64.wrap ((i:Int)+((x2:Int)-x1))=i+((x2:Int)-x1):=bM _ (by omega);have nq:0<=re.n-1:=by omega
 have lX:re.n-1<(p.ah.length:Int):=by omega
 have fS:=hx;have q1:¬(x1:Int)<0:=by omega
 have q2:¬(m.t.length:Int)-i<(x2:Int)-x1:=by omega
 have l1:(0:Int)<=(x1:Int):=by omega
 have l2:(x1:Int)<=(x2:Int):=by omega
 have l3:(x2:Int)<=(m.t.length:Int):=by omega
 have l4:(0:Int)<=(i:Int):=by omega
 have l5:(i:Int)<=(i:Int)+((x2:Int)-x1):=by omega
 have l6:(i:Int)+((x2:Int)-x1)<=(m.t.length:Int):=by omega
 have e1:((x2:Int)-x1).toNat=x2-x1:=by omega
 have e2:((i:Int)+((x2:Int)-x1)-i).toNat=x2-x1:=by omega
 have hM:=cT m b a (.d (av m.t)) rfl;have OA:=oO (t:=m.t) (a:=x1) (i:=i) (n:=x2-x1) (by omega) hq;have hE:=pJ ((m.t.drop x1).take (x2-x1)) ((m.t.drop i).take (x2-x1)) (by simp;omega);rw[OA]at hE;unfold aA.ay;simp only[av];refine ar func83 rfl ntmps83 results83 rfl 3 999 (by simp) (by simp) ?_;simp only[zX,simprocAttr,-Int.reduceNatCast',zM,aD.d];refine aS ca.bh ?_;refine ao mix [] [(0,[3],[]),(1,[3],[]),(3,[0],[]),(4,[0],[]),(5,[0],[]),(9,[5],[5]),(10,[5],[5])] (by rfl) ?_;simp only[zX,simprocAttr,-Int.reduceNatCast',zM,Re.ae,hole,w0,w1,hp,nq,lX,fS,bQ,aN];refine⟨by decide,by decide,?_⟩;refine ao mix [] [(0,[5],[]),(1,[5],[]),(6,[0],[]),(7,[0],[]),(8,[0],[]),(9,[2],[]),(10,[3],[]),(11,[3],[])] (by rfl) ?_;simp only[zX,simprocAttr,-Int.reduceNatCast',zM,hp,w1,w2,q1,q2,gt_iff_lt];refine⟨by decide,?_⟩;refine ao mix [20] [(1,[0],[]),(2,[0],[]),(3,[0],[]),(4,[5],[]),(5,[5],[]),(6,[5],[]),(7,[5],[]),(8,[2],[]),(10,[0],[]),(11,[0],[]),(12,[0],[]),(13,[3],[]),(14,[3],[]),(15,[3],[]),(16,[3],[]),(19,[2],[])] (by rfl) ?_;have Vj:∀e∈m.t.map (λx=>[D.sc (Value.int IntKind.i64 x)]),e.length=1:=by intro e he;obtain⟨y,_,rfl⟩:=List.mem_map.1 he;rfl
 simp only[av,List.map_take,List.map_drop,bV,iD]at hE;simp only[zX,simprocAttr,-Int.reduceNatCast',zM,hp,w1,w3,l1,l2,l3,l4,l5,l6,ado,e1,e2,adR];refine⟨by decide,by decide,.inr Vj,.inr Vj,bj (az hE rfl rfl ⟨rfl,rfl⟩) ?_⟩;cases oD:dI m.t x1 i (x2-x1) with
 |true =>
  simp only[zX,simprocAttr,-Int.reduceNatCast',zM,hp,w1,w3,oD,ads,adz];exact⟨hM,rfl⟩
 |false =>
  simp only[zX,simprocAttr,-Int.reduceNatCast',zM,hp,w1,w3,oD,ads,adz,adq];exact⟨hM,rfl⟩
theorem EW (g b a:Nat) (m:aA) (p:aw) (x1 x2:Nat) (hx:p.ah[(m.p.re.n-1).toNat]?=some ((x1:Int),(x2:Int))) (hn:1<=m.p.re.n) (QK:m.p.re.n<=p.ah.length) (hc:p.ah.length<=1000000000) (i:Nat)
  (hp:p.at_=i) (ht:m.t.length<=1000000) (hq:i+(x2-x1)<=m.t.length) (dZ:x1<=x2) (h2:x2<=m.t.length) :
  au prog 83 [.pp 0 g 0 0 b a,.d ((aD.root).d b a),p.v b a] (m.ay g b a (.d (av m.t))) λv s=>v=(if dI m.t x1 i (x2-x1)=true then aO b a { p with at_:=p.at_+((x2:Int)-x1) } true else aO b a .zero false)/\s=m.ay g b a (.d (av m.t)):=by
 have w0:IntKind.i64.wrap (m.p.re.n-1)=m.p.re.n-1:=bM _ (by omega);have w1:IntKind.i64.wrap ((x2:Int)-x1)=x2-x1:=bM _ (by omega);have w2:IntKind.i64.wrap ((m.t.length:Int)-i)=m.t.length-i:=bM _ (by omega);have w3:IntKind.i64.wrap ((i:Int)+((x2:Int)-x1))=i+((x2:Int)-x1):=bM _ (by omega);have nq:0<=m.p.re.n-1:=by omega
 have lX:m.p.re.n-1<(p.ah.length:Int):=by omega
 have fS:=hx;have q1:¬(x1:Int)<0:=by omega
 have q2:¬(m.t.length:Int)-i<(x2:Int)-x1:=by omega
 have l1:(0:Int)<=(x1:Int):=by omega
 have l2:(x1:Int)<=(x2:Int):=by omega
 have l3:(x2:Int)<=(m.t.length:Int):=by omega
 have l4:(0:Int)<=(i:Int):=by omega
 have l5:(i:Int)<=(i:Int)+((x2:Int)-x1):=by omega
 have l6:(i:Int)+((x2:Int)-x1)<=(m.t.length:Int):=by omega
 have e1:((x2:Int)-x1).toNat=x2-x1:=by omega
 have e2:((i:Int)+((x2:Int)-x1)-i).toNat=x2-x1:=by omega
 have hM:=cT m b a (.d (av m.t)) rfl;have OA:=oO (t:=m.t) (a:=x1) (i:=i) (n:=x2-x1) (by omega) hq;have hE:=pJ ((m.t.drop x1).take (x2-x1)) ((m.t.drop i).take (x2-x1)) (by simp;omega);rw[OA]at hE;unfold aA.ay;simp only[av];refine ar func83 rfl ntmps83 results83 rfl 3 999 (by simp) (by simp) ?_;simp only[zX,simprocAttr,-Int.reduceNatCast',zM,aD.d];refine aS ca.bh ?_;refine ao mix [] [(0,[3],[]),(1,[3],[]),(3,[0],[]),(4,[0],[]),(5,[0],[]),(9,[5],[5]),(10,[5],[5])] (by rfl) ?_;simp only[zX,simprocAttr,-Int.reduceNatCast',zM,Re.ae,hole,w0,w1,hp,nq,lX,fS,bQ,aN];refine⟨by decide,by decide,?_⟩;refine ao mix [] [(0,[5],[]),(1,[5],[]),(6,[0],[]),(7,[0],[]),(8,[0],[]),(9,[2],[]),(10,[3],[]),(11,[3],[])] (by rfl) ?_;simp only[zX,simprocAttr,-Int.reduceNatCast',zM,hp,w1,w2,q1,q2,gt_iff_lt];refine⟨by decide,?_⟩;refine ao mix [20] [(1,[0],[]),(2,[0],[]),(3,[0],[]),(4,[5],[]),(5,[5],[]),(6,[5],[]),(7,[5],[]),(8,[2],[]),(10,[0],[]),(11,[0],[]),(12,[0],[]),(13,[3],[]),(14,[3],[]),(15,[3],[]),(16,[3],[]),(19,[2],[])] (by rfl) ?_;have Vj:∀e∈m.t.map (λx=>[D.sc (Value.int IntKind.i64 x)]),e.length=1:=by intro e he;obtain⟨y,_,rfl⟩:=List.mem_map.1 he;rfl
 simp only[av,List.map_take,List.map_drop,bV,iD]at hE;simp only[zX,simprocAttr,-Int.reduceNatCast',zM,hp,w1,w3,l1,l2,l3,l4,l5,l6,ado,e1,e2,adR];refine⟨by decide,by decide,.inr Vj,.inr Vj,bj (az hE rfl rfl ⟨rfl,rfl⟩) ?_⟩;cases oD:dI m.t x1 i (x2-x1) with
 |true =>
  simp only[zX,simprocAttr,-Int.reduceNatCast',zM,hp,w1,w3,oD,ads,adz];exact⟨hM,rfl⟩
 |false =>
  simp only[zX,simprocAttr,-Int.reduceNatCast',zM,hp,w1,w3,oD,ads,adz,adq];exact⟨hM,rfl⟩
theorem HY (g b a:Nat) (m:aA) (re:Re) (p:aw) (x1 x2:Nat) (hx:p.ah[(re.n-1).toNat]?=some ((x1:Int),(x2:Int))) (hn:1<=re.n) (QK:re.n<=p.ah.length) (hc:p.ah.length<=1000000000) (i:Nat)
  (hp:p.at_=i) (ht:m.t.length<=1000000) (hq:i+(x2-x1)<=m.t.length) (dZ:x1<=x2) (h2:x2<=m.t.length) (hs:m.own=m.t) :
  au prog 83 [.pp 0 g 0 0 b a,.d ((aD.el re).d b a),p.v b a] (m.ay g b a (.so 2 m.eV 0 m.t.length)) λv s=>v=(if dI m.t x1 i (x2-x1)=true then aO b a { p with at_:=p.at_+((x2:Int)-x1) } true else aO b a .zero false)/\s=m.ay g b a (.so 2 m.eV 0 m.t.length):=by
 have w0:IntKind.i64.wrap (re.n-1)=re.n-1:=bM _ (by omega);have w1:IntKind.i64.wrap ((x2:Int)-x1)=x2-x1:=bM _ (by omega);have w2:IntKind.i64.wrap ((m.t.length:Int)-i)=m.t.length-i:=bM _ (by omega);have w3:IntKind.i64.wrap ((i:Int)+((x2:Int)-x1))=i+((x2:Int)-x1):=bM _ (by omega);have nq:0<=re.n-1:=by omega
 have lX:re.n-1<(p.ah.length:Int):=by omega
 have fS:=hx;have q1:¬(x1:Int)<0:=by omega
 have q2:¬(m.t.length:Int)-i<(x2:Int)-x1:=by omega
 have l1:(0:Int)<=(x1:Int):=by omega
 have l2:(x1:Int)<=(x2:Int):=by omega
 have l3:(x2:Int)<=(m.t.length:Int):=by omega
 have l4:(0:Int)<=(i:Int):=by omega
 have l5:(i:Int)<=(i:Int)+((x2:Int)-x1):=by omega
 have l6:(i:Int)+((x2:Int)-x1)<=(m.t.length:Int):=by omega
 have e1:((x2:Int)-x1).toNat=x2-x1:=by omega
 have e2:((i:Int)+((x2:Int)-x1)-i).toNat=x2-x1:=by omega
 have hM:=cT m b a (.so 2 m.eV 0 m.t.length) rfl;have OA:=oO (t:=m.t) (a:=x1) (i:=i) (n:=x2-x1) (by omega) hq;have hE:=pJ ((m.t.drop x1).take (x2-x1)) ((m.t.drop i).take (x2-x1)) (by simp;omega);rw[OA]at hE;unfold aA.ay;refine ar func83 rfl ntmps83 results83 rfl 3 999 (by simp) (by simp) ?_;simp only[zX,simprocAttr,-Int.reduceNatCast',zM,aD.d];refine aS ca.bh ?_;refine ao mix [] [(0,[3],[]),(1,[3],[]),(3,[0],[]),(4,[0],[]),(5,[0],[]),(9,[5],[5]),(10,[5],[5])] (by rfl) ?_;simp only[zX,simprocAttr,-Int.reduceNatCast',zM,Re.ae,hole,w0,w1,hp,nq,lX,fS,bQ,aN];refine⟨by decide,by decide,?_⟩;refine ao mix [] [(0,[5],[]),(1,[5],[]),(6,[0],[]),(7,[0],[]),(8,[0],[]),(9,[2],[]),(10,[3],[]),(11,[3],[])] (by rfl) ?_;simp only[zX,simprocAttr,-Int.reduceNatCast',zM,hp,w1,w2,q1,q2,gt_iff_lt];refine⟨by decide,?_⟩;have hle:m.t.length<=m.own.length:=by rw[hs];exact adB _
 have oo:min m.t.length m.own.length=m.t.length:=by omega
 refine ao mix [20] [(1,[0],[]),(2,[0],[]),(3,[0],[]),(4,[5],[]),(5,[5],[]),(6,[5],[]),(7,[5],[]),(8,[2],[]),(10,[0],[]),(11,[0],[]),(12,[0],[]),(13,[3],[]),(14,[3],[]),(15,[3],[]),(16,[3],[]),(19,[2],[])] (by rfl) ?_;simp only[bV]at hE;rw[<- hs,show dI m.own=dI m.t by rw[hs]]at hE;rcases adV x1 x2 with l7|l7
 ·have l8:(x1:Int)<(x2:Int):=by omega
  have l9:(i:Int)<(i:Int)+((x2:Int)-x1):=by omega
  simp only[zX,simprocAttr,-Int.reduceNatCast',zM,hle,oo,hp,w1,w3,l1,l2,l3,l4,l5,l6,l8,l9,ado,ad5,adB,e1,e2,adR,adI,or_true,ady];refine⟨by decide,by decide,bj (eP [2] hE (ll (iH (own:=m.own) rfl (show x1+(x2-x1)<=m.own.length by omega)) (iH (own:=m.own) rfl (show i+(x2-x1)<=m.own.length by omega))) rfl ⟨rfl,rfl⟩) ?_⟩;cases oD:dI m.t x1 i (x2-x1) with
  |true =>
   simp only[zX,simprocAttr,-Int.reduceNatCast',zM,hp,w1,w3,oD,ads,adz];exact⟨hM,rfl⟩
  |false =>
   simp only[zX,simprocAttr,-Int.reduceNatCast',zM,hp,w1,w3,oD,ads,adz,adq];exact⟨hM,rfl⟩
 ·have l8:¬(x1:Int)<(x2:Int):=by omega
  have l9:¬(i:Int)<(i:Int)+((x2:Int)-x1):=by omega
  have hz:x2-x1=0:=by omega
  by_cases z1:(x1:Int)=0
  ·have y1:=eq_true z1;by_cases z2:(i:Int)=0
   ·have y2:=eq_true z2;simp only[zX,simprocAttr,-Int.reduceNatCast',zM,hle,oo,hp,w1,w3,l1,l2,l3,l4,l5,l6,l8,l9,y1,y2,true_or,or_false,ado,ad5,adB,e1,e2,adR,adI,or_true,ady];refine⟨by decide,by decide,bj (eP [2] hE (ll (iH (own:=m.own) rfl (show x1+(x2-x1)<=m.own.length by omega)) (iH (own:=m.own) rfl (show i+(x2-x1)<=m.own.length by omega))) rfl ⟨rfl,rfl⟩) ?_⟩;cases oD:dI m.t x1 i (x2-x1) with
    |true =>
     simp only[zX,simprocAttr,-Int.reduceNatCast',zM,hp,w1,w3,oD,ads,adz];exact⟨hM,rfl⟩
    |false =>
     simp only[zX,simprocAttr,-Int.reduceNatCast',zM,hp,w1,w3,oD,ads,adz,adq];exact⟨hM,rfl⟩
   ·have y2:=eq_false z2;simp only[zX,simprocAttr,-Int.reduceNatCast',zM,hle,oo,hp,w1,w3,l1,l2,l3,l4,l5,l6,l8,l9,y1,y2,true_or,or_false,ado,ad5,adB,e1,e2,adR,adI,or_true,ady];refine⟨by decide,by decide,bj (eP [2] hE (ll (iH (own:=m.own) rfl (show x1+(x2-x1)<=m.own.length by omega)) (lA hz)) rfl ⟨rfl,rfl⟩) ?_⟩;cases oD:dI m.t x1 i (x2-x1) with
    |true =>
     simp only[zX,simprocAttr,-Int.reduceNatCast',zM,hp,w1,w3,oD,ads,adz];exact⟨hM,rfl⟩
    |false =>
     simp only[zX,simprocAttr,-Int.reduceNatCast',zM,hp,w1,w3,oD,ads,adz,adq];exact⟨hM,rfl⟩
  ·have y1:=eq_false z1;by_cases z2:(i:Int)=0
   ·have y2:=eq_true z2;simp only[zX,simprocAttr,-Int.reduceNatCast',zM,hle,oo,hp,w1,w3,l1,l2,l3,l4,l5,l6,l8,l9,y1,y2,true_or,or_false,ado,ad5,adB,e1,e2,adR,adI,or_true,ady];refine⟨by decide,by decide,bj (eP [2] hE (ll (lA hz) (iH (own:=m.own) rfl (show i+(x2-x1)<=m.own.length by omega))) rfl ⟨rfl,rfl⟩) ?_⟩;cases oD:dI m.t x1 i (x2-x1) with
    |true =>
     simp only[zX,simprocAttr,-Int.reduceNatCast',zM,hp,w1,w3,oD,ads,adz];exact⟨hM,rfl⟩
    |false =>
     simp only[zX,simprocAttr,-Int.reduceNatCast',zM,hp,w1,w3,oD,ads,adz,adq];exact⟨hM,rfl⟩
   ·have y2:=eq_false z2;simp only[zX,simprocAttr,-Int.reduceNatCast',zM,hle,oo,hp,w1,w3,l1,l2,l3,l4,l5,l6,l8,l9,y1,y2,true_or,or_false,ado,ad5,adB,e1,e2,adR,adI,or_true,ady];refine⟨by decide,by decide,bj (eP [2] hE (ll (lA hz) (lA hz)) rfl ⟨rfl,rfl⟩) ?_⟩;cases oD:dI m.t x1 i (x2-x1) with
    |true =>
     simp only[zX,simprocAttr,-Int.reduceNatCast',zM,hp,w1,w3,oD,ads,adz];exact⟨hM,rfl⟩
    |false =>
     simp only[zX,simprocAttr,-Int.reduceNatCast',zM,hp,w1,w3,oD,ads,adz,adq];exact⟨hM,rfl⟩
theorem DX (g b a:Nat) (m:aA) (p:aw) (x1 x2:Nat) (hx:p.ah[(m.p.re.n-1).toNat]?=some ((x1:Int),(x2:Int))) (hn:1<=m.p.re.n) (QK:m.p.re.n<=p.ah.length) (hc:p.ah.length<=1000000000) (i:Nat)
  (hp:p.at_=i) (ht:m.t.length<=1000000) (hq:i+(x2-x1)<=m.t.length) (dZ:x1<=x2) (h2:x2<=m.t.length) (hs:m.own=m.t) :
  au prog 83 [.pp 0 g 0 0 b a,.d ((aD.root).d b a),p.v b a] (m.ay g b a (.so 2 m.eV 0 m.t.length)) λv s=>v=(if dI m.t x1 i (x2-x1)=true then aO b a { p with at_:=p.at_+((x2:Int)-x1) } true else aO b a .zero false)/\s=m.ay g b a (.so 2 m.eV 0 m.t.length):=by
 have w0:IntKind.i64.wrap (m.p.re.n-1)=m.p.re.n-1:=bM _ (by omega);have w1:IntKind.i64.wrap ((x2:Int)-x1)=x2-x1:=bM _ (by omega);have w2:IntKind.i64.wrap ((m.t.length:Int)-i)=m.t.length-i:=bM _ (by omega);have w3:IntKind.i64.wrap ((i:Int)+((x2:Int)-x1))=i+((x2:Int)-x1):=bM _ (by omega);have nq:0<=m.p.re.n-1:=by omega
 have lX:m.p.re.n-1<(p.ah.length:Int):=by omega
 have fS:=hx;have q1:¬(x1:Int)<0:=by omega
 have q2:¬(m.t.length:Int)-i<(x2:Int)-x1:=by omega
 have l1:(0:Int)<=(x1:Int):=by omega
 have l2:(x1:Int)<=(x2:Int):=by omega
 have l3:(x2:Int)<=(m.t.length:Int):=by omega
 have l4:(0:Int)<=(i:Int):=by omega
 have l5:(i:Int)<=(i:Int)+((x2:Int)-x1):=by omega
 have l6:(i:Int)+((x2:Int)-x1)<=(m.t.length:Int):=by omega
 have e1:((x2:Int)-x1).toNat=x2-x1:=by omega
 have e2:((i:Int)+((x2:Int)-x1)-i).toNat=x2-x1:=by omega
 have hM:=cT m b a (.so 2 m.eV 0 m.t.length) rfl;have OA:=oO (t:=m.t) (a:=x1) (i:=i) (n:=x2-x1) (by omega) hq;have hE:=pJ ((m.t.drop x1).take (x2-x1)) ((m.t.drop i).take (x2-x1)) (by simp;omega);rw[OA]at hE;unfold aA.ay;refine ar func83 rfl ntmps83 results83 rfl 3 999 (by simp) (by simp) ?_;simp only[zX,simprocAttr,-Int.reduceNatCast',zM,aD.d];refine aS ca.bh ?_;refine ao mix [] [(0,[3],[]),(1,[3],[]),(3,[0],[]),(4,[0],[]),(5,[0],[]),(9,[5],[5]),(10,[5],[5])] (by rfl) ?_;simp only[zX,simprocAttr,-Int.reduceNatCast',zM,Re.ae,hole,w0,w1,hp,nq,lX,fS,bQ,aN];refine⟨by decide,by decide,?_⟩;refine ao mix [] [(0,[5],[]),(1,[5],[]),(6,[0],[]),(7,[0],[]),(8,[0],[]),(9,[2],[]),(10,[3],[]),(11,[3],[])] (by rfl) ?_;simp only[zX,simprocAttr,-Int.reduceNatCast',zM,hp,w1,w2,q1,q2,gt_iff_lt];refine⟨by decide,?_⟩;have hle:m.t.length<=m.own.length:=by rw[hs];exact adB _
 have oo:min m.t.length m.own.length=m.t.length:=by omega
 refine ao mix [20] [(1,[0],[]),(2,[0],[]),(3,[0],[]),(4,[5],[]),(5,[5],[]),(6,[5],[]),(7,[5],[]),(8,[2],[]),(10,[0],[]),(11,[0],[]),(12,[0],[]),(13,[3],[]),(14,[3],[]),(15,[3],[]),(16,[3],[]),(19,[2],[])] (by rfl) ?_;simp only[bV]at hE;rw[<- hs,show dI m.own=dI m.t by rw[hs]]at hE;rcases adV x1 x2 with l7|l7
 ·have l8:(x1:Int)<(x2:Int):=by omega
  have l9:(i:Int)<(i:Int)+((x2:Int)-x1):=by omega
  simp only[zX,simprocAttr,-Int.reduceNatCast',zM,hle,oo,hp,w1,w3,l1,l2,l3,l4,l5,l6,l8,l9,ado,ad5,adB,e1,e2,adR,adI,or_true,ady];refine⟨by decide,by decide,bj (eP [2] hE (ll (iH (own:=m.own) rfl (show x1+(x2-x1)<=m.own.length by omega)) (iH (own:=m.own) rfl (show i+(x2-x1)<=m.own.length by omega))) rfl ⟨rfl,rfl⟩) ?_⟩;cases oD:dI m.t x1 i (x2-x1) with
  |true =>
   simp only[zX,simprocAttr,-Int.reduceNatCast',zM,hp,w1,w3,oD,ads,adz];exact⟨hM,rfl⟩
  |false =>
   simp only[zX,simprocAttr,-Int.reduceNatCast',zM,hp,w1,w3,oD,ads,adz,adq];exact⟨hM,rfl⟩
 ·have l8:¬(x1:Int)<(x2:Int):=by omega
  have l9:¬(i:Int)<(i:Int)+((x2:Int)-x1):=by omega
  have hz:x2-x1=0:=by omega
  by_cases z1:(x1:Int)=0
  ·have y1:=eq_true z1;by_cases z2:(i:Int)=0
   ·have y2:=eq_true z2;simp only[zX,simprocAttr,-Int.reduceNatCast',zM,hle,oo,hp,w1,w3,l1,l2,l3,l4,l5,l6,l8,l9,y1,y2,true_or,or_false,ado,ad5,adB,e1,e2,adR,adI,or_true,ady];refine⟨by decide,by decide,bj (eP [2] hE (ll (iH (own:=m.own) rfl (show x1+(x2-x1)<=m.own.length by omega)) (iH (own:=m.own) rfl (show i+(x2-x1)<=m.own.length by omega))) rfl ⟨rfl,rfl⟩) ?_⟩;cases oD:dI m.t x1 i (x2-x1) with
    |true =>
     simp only[zX,simprocAttr,-Int.reduceNatCast',zM,hp,w1,w3,oD,ads,adz];exact⟨hM,rfl⟩
    |false =>
     simp only[zX,simprocAttr,-Int.reduceNatCast',zM,hp,w1,w3,oD,ads,adz,adq];exact⟨hM,rfl⟩
   ·have y2:=eq_false z2;simp only[zX,simprocAttr,-Int.reduceNatCast',zM,hle,oo,hp,w1,w3,l1,l2,l3,l4,l5,l6,l8,l9,y1,y2,true_or,or_false,ado,ad5,adB,e1,e2,adR,adI,or_true,ady];refine⟨by decide,by decide,bj (eP [2] hE (ll (iH (own:=m.own) rfl (show x1+(x2-x1)<=m.own.length by omega)) (lA hz)) rfl ⟨rfl,rfl⟩) ?_⟩;cases oD:dI m.t x1 i (x2-x1) with
    |true =>
     simp only[zX,simprocAttr,-Int.reduceNatCast',zM,hp,w1,w3,oD,ads,adz];exact⟨hM,rfl⟩
    |false =>
     simp only[zX,simprocAttr,-Int.reduceNatCast',zM,hp,w1,w3,oD,ads,adz,adq];exact⟨hM,rfl⟩
  ·have y1:=eq_false z1;by_cases z2:(i:Int)=0
   ·have y2:=eq_true z2;simp only[zX,simprocAttr,-Int.reduceNatCast',zM,hle,oo,hp,w1,w3,l1,l2,l3,l4,l5,l6,l8,l9,y1,y2,true_or,or_false,ado,ad5,adB,e1,e2,adR,adI,or_true,ady];refine⟨by decide,by decide,bj (eP [2] hE (ll (lA hz) (iH (own:=m.own) rfl (show i+(x2-x1)<=m.own.length by omega))) rfl ⟨rfl,rfl⟩) ?_⟩;cases oD:dI m.t x1 i (x2-x1) with
    |true =>
     simp only[zX,simprocAttr,-Int.reduceNatCast',zM,hp,w1,w3,oD,ads,adz];exact⟨hM,rfl⟩
    |false =>
     simp only[zX,simprocAttr,-Int.reduceNatCast',zM,hp,w1,w3,oD,ads,adz,adq];exact⟨hM,rfl⟩
   ·have y2:=eq_false z2;simp only[zX,simprocAttr,-Int.reduceNatCast',zM,hle,oo,hp,w1,w3,l1,l2,l3,l4,l5,l6,l8,l9,y1,y2,true_or,or_false,ado,ad5,adB,e1,e2,adR,adI,or_true,ady];refine⟨by decide,by decide,bj (eP [2] hE (ll (lA hz) (lA hz)) rfl ⟨rfl,rfl⟩) ?_⟩;cases oD:dI m.t x1 i (x2-x1) with
    |true =>
     simp only[zX,simprocAttr,-Int.reduceNatCast',zM,hp,w1,w3,oD,ads,adz];exact⟨hM,rfl⟩
    |false =>
     simp only[zX,simprocAttr,-Int.reduceNatCast',zM,hp,w1,w3,oD,ads,adz,adq];exact⟨hM,rfl⟩
theorem getD_some {α:Type}{l:List α}{i:Nat}{x d:α} (h:l[i]?=some x):l.getD i d=x:=by rw[List.getD,h];rfl
theorem J4 (g b a:Nat) (m:aA) (r:aD) (re:Re) (p:aw) (hr:m.lit r=some re) {x:aw×Bool} (hx:FY m.t re p=some x) (hc:p.ah.length<=1000000000) (hp:0<=p.at_) (Rd:p.at_<=m.t.length) (ht:m.t.length<=1000000) (hs:m.same) :
  au prog 83 [.pp 0 g 0 0 b a,.d (r.d b a),p.v b a] (m.aB g b a) λv s=>v=aO b a x.1 x.2/\s=m.aB g b a:=by
 unfold FY at hx;split at hx
 ·cases hx
 rename_i hn;obtain⟨y,hy⟩:∃y,p.ah[(re.n-1).toNat]?=some y:=⟨_,adn (by omega)⟩
 rw[getD_some hy]at hx;simp only at hx;split at hx
 ·cases hx
 rename_i hb;split at hx
 ·rename_i hq;cases hx;cases r with
  |nil=>cases hr
  |root =>
   cases hr;cases hT:m.bC with
   |true=>rw[mh hT];exact Di g b a m p y hy (by omega) (by omega) hc (by omega) hp Rd ht hq
   |false=>rw[oe hT];exact En g b a m p y hy (by omega) (by omega) hc (by omega) hp Rd ht hq
  |el zv =>
   cases hr;cases hT:m.bC with
   |true=>rw[mh hT];exact I9 g b a m re p y hy (by omega) (by omega) hc (by omega) hp Rd ht hq
   |false=>rw[oe hT];exact Mo g b a m re p y hy (by omega) (by omega) hc (by omega) hp Rd ht hq
 rename_i hq;split at hx
 ·cases hx
 rename_i hq2;obtain⟨y1,y2⟩:=y;simp only at hx hb hq hq2;obtain⟨x1,rfl⟩:=Int.eq_ofNat_of_zero_le (show 0<=y1 by omega);obtain⟨x2,rfl⟩:=Int.eq_ofNat_of_zero_le (show 0<=y2 by omega);obtain⟨i,hi⟩:=Int.eq_ofNat_of_zero_le hp;rw[show ((x2:Int)-(x1:Int)).toNat=x2-x1 by omega,hi]at hx;have fin:∀T:V,(au prog 83 [.pp 0 g 0 0 b a,.d (r.d b a),p.v b a] (m.ay g b a T) λv s=>v=(if dI m.t x1 i (x2-x1)=true then aO b a { p with at_:=p.at_+((x2:Int)-x1) } true else aO b a .zero false)/\s=m.ay g b a T) ->
   au prog 83 [.pp 0 g 0 0 b a,.d (r.d b a),p.v b a] (m.ay g b a T) λv s=>v=aO b a x.1 x.2/\s=m.ay g b a T:=by
  intro T h;refine aj h (λv s hv=>?_);obtain⟨rfl,rfl⟩:=hv;refine⟨?_,rfl⟩;split at hx
  ·rename_i hh;rw[ap hh];cases hx;rw[hi]
  ·rename_i hh;rw[am hh];cases hx;rfl
 cases r with
 |nil=>cases hr
 |root =>
  cases hr;cases hT:m.bC with
  |true=>rw[mh hT];exact fin _ (DX g b a m p x1 x2 hy (by omega) (by omega) hc i hi ht (by omega) (by omega) (by omega) (hs hT))
  |false=>rw[oe hT];exact fin _ (EW g b a m p x1 x2 hy (by omega) (by omega) hc i hi ht (by omega) (by omega) (by omega))
 |el zv =>
  cases hr;cases hT:m.bC with
  |true=>rw[mh hT];exact fin _ (HY g b a m re p x1 x2 hy (by omega) (by omega) hc i hi ht (by omega) (by omega) (by omega) (hs hT))
  |false=>rw[oe hT];exact fin _ (L8 g b a m re p x1 x2 hy (by omega) (by omega) hc i hi ht (by omega) (by omega) (by omega))
end Go.Proofs.Ytphfjhaffbfpfaa
