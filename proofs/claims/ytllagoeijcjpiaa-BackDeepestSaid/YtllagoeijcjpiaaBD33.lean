/- A part of the proof (G26 G27). -/
import Derived.Test.YtllagoeijcjpiaaBD21
set_option linter.unusedSimpArgs false
set_option linter.unusedVariables false
set_option maxRecDepth 100000
set_option maxHeartbeats 80000000
namespace Go.Proofs.Ytllagoeijcjpiaa
open Go.VL Go.Proofs.Try
theorem nW (a b:List Int) (ha:a.length≤1000000000):bI prog 164 [.d (ay a),.d (ay b)] (bV (decide (a=b))):=by
 refine av func164 rfl ntmps164 results164 rfl 0 12339 (by simp) (by simp) ?_
 by_cases hl:a.length=b.length
 ·have Rb:(a.length:Int)=b.length:=by omega
  simp only[zX,simprocAttr,i64,bV,ay,Rb,ne_eq,not_true_eq_false,if_false]
  refine aY (fun n e s=>∃i:Nat,n=a.length-i∧i≤a.length∧e 0=.d (ay a)∧e 1=.d (ay b)∧e 12=i64 a.length∧e 13=i64 i∧s=[]∧a.take i=b.take i)
   ⟨_,_,_,dt.refl,0,rfl,by omega,rfl,rfl,?_,rfl,rfl,rfl⟩ ?_
  ·rw[Rb];rfl
  rintro n e s ⟨i,rfl,hi,h0,h1,bW,kf,rfl,he⟩
  rcases VX i a.length with aT|iR
  ·obtain⟨x,hx⟩:∃x,a[i]?=some x:=⟨_,Vu aT⟩
   obtain⟨y,hy⟩:∃y,b[i]?=some y:=⟨_,Vu (by omega)⟩
   have QV:i<b.length:=by omega
   by_cases c:x=y
   ·subst c
    simp only[zX,simprocAttr,i64,bV,ay,iD,h0,h1,bW,kf,aT,QV,hx,hy,ne_eq,not_true_eq_false]
    refine an mix [] [] (by rfl) ?_
    simp only[zX,simprocAttr,i64,bV,ay,iD,h0,h1,bW,kf,aT,QV,hx,hy,ne_eq,not_true_eq_false]
    refine⟨a.length-(i+1),_,_,by omega,dt.refl,i+1,rfl,aT,?_,?_,?_,?_,rfl,?_⟩ <;> (try simp only[zU,Nat.reduceBEq,Nat.reduceShiftRight,Nat.reduceMod,Nat.reduceEqDiff,reduceIte])
    ·exact h0
    ·exact h1
    ·exact bW
    ·rw[bR _ (by omega)];rfl
    ·rw[fg hx,fg hy,he]
   ·have gf:¬a=b:=by
     intro h
     rw[h]at hx
     rw[hx]at hy
     exact c (Option.some.inj hy)
    rw[decide_eq_false gf]
    simp only[zX,simprocAttr,i64,bV,ay,iD,h0,h1,bW,kf,aT,QV,hx,hy,ne_eq,c,not_false_eq_true]
    refine an mix [] [] (by rfl) ?_
    simp only[zX,simprocAttr,i64,bV,ay,iD,h0,h1,bW,kf,aT,QV,hx,hy,ne_eq,c,not_false_eq_true]
    all_goals first|exact⟨rfl,rfl⟩|exact⟨rfl,trivial⟩|rfl|trivial|(rw[aw];rfl)
  ·have Uj:i=a.length:=by omega
   subst Uj
   rw[We,hl,We]at he
   rw[decide_eq_true he]
   simp only[zX,simprocAttr,i64,bV,ay,iD,h0,h1,bW,kf,Wj]
   all_goals first|exact⟨rfl,rfl⟩|exact⟨rfl,trivial⟩|rfl|trivial|(rw[aw];rfl)
 ·have Rb:¬(a.length:Int)=b.length:=by omega
  have gf:¬a=b:=fun h=>hl (by rw[h])
  rw[decide_eq_false gf]
  simp only[zX,simprocAttr,i64,bV,ay,Rb,ne_eq,not_false_eq_true,if_true]
  all_goals first|exact⟨rfl,rfl⟩|exact⟨rfl,trivial⟩|rfl|trivial|(rw[aw];rfl)
theorem nD {t:List Int}{a i:Nat}:∀{n:Nat},a+n≤t.length→i+n≤t.length→decide ((t.drop a).take n=(t.drop i).take n)=cO t a i n
 |0,_,_=>by simp [cO]
 |n+1,h1,h2=>by
  have e:∀k:Nat,k+(n+1)≤t.length→(t.drop k).take (n+1)=(t.drop k).take n++[eH t ((k:Int)+(n:Int))]:=by
   intro k hk
   have hx:(t.drop k)[n]?=some (eH t ((k:Int)+(n:Int))):=by
    rw[Wf]
    have:=fD (t:=t) (i:=(k:Int)+(n:Int)) (by omega) (by omega)
    rw[show ((k:Int)+(n:Int)).toNat=k+n by omega]at this
    exact this
   exact fg hx
  rw[e a h1,e i h2,x6,← nD (n:=n) (by omega) (by omega)]
  rw[Bool.eq_iff_iff]
  simp only[decide_eq_true_eq,VE,beq_iff_eq]
  constructor
  ·intro h
   have:=List.append_inj' h rfl
   exact⟨this.1,by simpa using this.2⟩
  ·rintro ⟨h,h'⟩
   rw[h,h']
theorem Gx {α:Type} (f:α→D) (k cL:Nat) (s:List VL.Obj):∀L:List α,((L.map fun x=>[V.d (f x)]).mapM fun (e:List V)=>e.mapM (bQ (k+1) cL s))=some (L.map fun x=>[f x])
 |[]=>rfl
 |x::L=>by
  rw[VP,Wz,Gx f k cL s L]
  rfl
theorem ig {og lo n cL:Nat}{s:List VL.Obj}{own:List Int} (hs:s[2]?=some ⟨og,false,1,own.map fun x=>[V.d (iD x)]⟩) (h:lo+n≤own.length):aZ cL s (.so 2 og lo n)=some (.d (ay ((own.drop lo).take n))):=by
 unfold aZ
 simp only[bQ,hs]
 rw[if_pos (by simpa using h),← List.map_drop,← List.map_take,Gx]
 rfl
theorem kt {cL k n:Nat}{s:List VL.Obj}{own:List Int} (h:n=0):aZ cL s (.d (.sl []))=some (.d (ay ((own.drop k).take n))):=by
 subst h;rfl
theorem j0 {cL:Nat}{s:List VL.Obj}{v w:V}{x y:D} (hv:aZ cL s v=some (.d x)) (hw:aZ cL s w=some (.d y)):aZ.go cL s [v,w]=some [.d x,.d y]:=by
 simp only[aZ.go,hv,hw]
theorem HL (g b a:Nat) (m:aB) (re:Re) (p:ao) (x:Int×Int) (hx:p.ai[(re.n-1).toNat]?=some x) (hn:1≤re.n) (LI:re.n≤p.ai.length) (hc:p.ai.length≤1000000000) (hb:-1000000≤x.1∧-1000000≤x.2∧x.1≤1000000∧x.2≤1000000)
  (hp:0≤p.at_) (Iu:p.at_≤m.t.length) (ht:m.t.length≤1000000) (hq:x.1<0∨(m.t.length:Int)-p.at_<x.2-x.1) :
  az prog 154 [.pp 0 g 0 0 b a,.d ((aG.el re).d b a),p.v b a] (m.aA g b a (.d (ay m.t))) fun v s=>v=aR b a .zero false∧s=m.aA g b a (.d (ay m.t)):=by
 obtain⟨x1,x2⟩:=x
 simp only at hb hq
 have w0:IntKind.i64.wrap (re.n-1)=re.n-1:=bR _ (by omega)
 have w1:IntKind.i64.wrap (x2-x1)=x2-x1:=bR _ (by omega)
 have w2:IntKind.i64.wrap ((m.t.length:Int)-p.at_)=m.t.length-p.at_:=bR _ (by omega)
 have ma:0≤re.n-1:=by omega
 have kv:re.n-1<(p.ai.length:Int):=by omega
 have gD:=hx
 have hM:=cB m b a (.d (ay m.t)) rfl
 unfold aB.aA;simp only[ay]
 refine av func154 rfl ntmps154 results154 rfl 3 999 (by simp) (by simp) ?_
 simp only[zX,simprocAttr,-Int.reduceNatCast',zM,aG.d]
 refine aK bL.aV ?_
 refine an mix [] [(0,[3],[]),(1,[3],[]),(3,[0],[]),(4,[0],[]),(5,[0],[]),(9,[5],[5]),(10,[5],[5])] (by rfl) ?_
 simp only[zX,simprocAttr,-Int.reduceNatCast',zM,Re.ae,hole,w0,w1,ma,kv,gD,bd,aM]
 refine⟨by decide,by decide,?_⟩
 by_cases q1:x1<0
 ·refine an mix [] [(0,[5],[]),(1,[5],[]),(6,[0],[]),(7,[0],[]),(8,[0],[]),(9,[2],[]),(10,[3],[]),(11,[3],[])] (by rfl) ?_
  simp only[zX,simprocAttr,-Int.reduceNatCast',zM,w1,q1]
  exact⟨by decide,hM,rfl⟩
 ·have q2:(m.t.length:Int)-p.at_<x2-x1:=by omega
  refine an mix [] [(0,[5],[]),(1,[5],[]),(6,[0],[]),(7,[0],[]),(8,[0],[]),(9,[2],[]),(10,[3],[]),(11,[3],[])] (by rfl) ?_
  simp only[zX,simprocAttr,-Int.reduceNatCast',zM,w1,w2,q1,q2,gt_iff_lt]
  exact⟨by decide,hM,rfl⟩
theorem Cl (g b a:Nat) (m:aB) (p:ao) (x:Int×Int) (hx:p.ai[(m.p.re.n-1).toNat]?=some x) (hn:1≤m.p.re.n) (LI:m.p.re.n≤p.ai.length) (hc:p.ai.length≤1000000000) (hb:-1000000≤x.1∧-1000000≤x.2∧x.1≤1000000∧x.2≤1000000)
  (hp:0≤p.at_) (Iu:p.at_≤m.t.length) (ht:m.t.length≤1000000) (hq:x.1<0∨(m.t.length:Int)-p.at_<x.2-x.1) :
  az prog 154 [.pp 0 g 0 0 b a,.d ((aG.root).d b a),p.v b a] (m.aA g b a (.d (ay m.t))) fun v s=>v=aR b a .zero false∧s=m.aA g b a (.d (ay m.t)):=by
 obtain⟨x1,x2⟩:=x
 simp only at hb hq
 have w0:IntKind.i64.wrap (m.p.re.n-1)=m.p.re.n-1:=bR _ (by omega)
 have w1:IntKind.i64.wrap (x2-x1)=x2-x1:=bR _ (by omega)
 have w2:IntKind.i64.wrap ((m.t.length:Int)-p.at_)=m.t.length-p.at_:=bR _ (by omega)
 have ma:0≤m.p.re.n-1:=by omega
 have kv:m.p.re.n-1<(p.ai.length:Int):=by omega
 have gD:=hx
 have hM:=cB m b a (.d (ay m.t)) rfl
 unfold aB.aA;simp only[ay]
 refine av func154 rfl ntmps154 results154 rfl 3 999 (by simp) (by simp) ?_
 simp only[zX,simprocAttr,-Int.reduceNatCast',zM,aG.d]
 refine aK bL.aV ?_
 refine an mix [] [(0,[3],[]),(1,[3],[]),(3,[0],[]),(4,[0],[]),(5,[0],[]),(9,[5],[5]),(10,[5],[5])] (by rfl) ?_
 simp only[zX,simprocAttr,-Int.reduceNatCast',zM,Re.ae,hole,w0,w1,ma,kv,gD,bd,aM]
 refine⟨by decide,by decide,?_⟩
 by_cases q1:x1<0
 ·refine an mix [] [(0,[5],[]),(1,[5],[]),(6,[0],[]),(7,[0],[]),(8,[0],[]),(9,[2],[]),(10,[3],[]),(11,[3],[])] (by rfl) ?_
  simp only[zX,simprocAttr,-Int.reduceNatCast',zM,w1,q1]
  exact⟨by decide,hM,rfl⟩
 ·have q2:(m.t.length:Int)-p.at_<x2-x1:=by omega
  refine an mix [] [(0,[5],[]),(1,[5],[]),(6,[0],[]),(7,[0],[]),(8,[0],[]),(9,[2],[]),(10,[3],[]),(11,[3],[])] (by rfl) ?_
  simp only[zX,simprocAttr,-Int.reduceNatCast',zM,w1,w2,q1,q2,gt_iff_lt]
  exact⟨by decide,hM,rfl⟩
theorem Fm (g b a:Nat) (m:aB) (re:Re) (p:ao) (x:Int×Int) (hx:p.ai[(re.n-1).toNat]?=some x) (hn:1≤re.n) (LI:re.n≤p.ai.length) (hc:p.ai.length≤1000000000) (hb:-1000000≤x.1∧-1000000≤x.2∧x.1≤1000000∧x.2≤1000000)
  (hp:0≤p.at_) (Iu:p.at_≤m.t.length) (ht:m.t.length≤1000000) (hq:x.1<0∨(m.t.length:Int)-p.at_<x.2-x.1) :
  az prog 154 [.pp 0 g 0 0 b a,.d ((aG.el re).d b a),p.v b a] (m.aA g b a (.so 2 m.ew 0 m.t.length)) fun v s=>v=aR b a .zero false∧s=m.aA g b a (.so 2 m.ew 0 m.t.length):=by
 obtain⟨x1,x2⟩:=x
 simp only at hb hq
 have w0:IntKind.i64.wrap (re.n-1)=re.n-1:=bR _ (by omega)
 have w1:IntKind.i64.wrap (x2-x1)=x2-x1:=bR _ (by omega)
 have w2:IntKind.i64.wrap ((m.t.length:Int)-p.at_)=m.t.length-p.at_:=bR _ (by omega)
 have ma:0≤re.n-1:=by omega
 have kv:re.n-1<(p.ai.length:Int):=by omega
 have gD:=hx
 have hM:=cB m b a (.so 2 m.ew 0 m.t.length) rfl
 unfold aB.aA
 refine av func154 rfl ntmps154 results154 rfl 3 999 (by simp) (by simp) ?_
 simp only[zX,simprocAttr,-Int.reduceNatCast',zM,aG.d]
 refine aK bL.aV ?_
 refine an mix [] [(0,[3],[]),(1,[3],[]),(3,[0],[]),(4,[0],[]),(5,[0],[]),(9,[5],[5]),(10,[5],[5])] (by rfl) ?_
 simp only[zX,simprocAttr,-Int.reduceNatCast',zM,Re.ae,hole,w0,w1,ma,kv,gD,bd,aM]
 refine⟨by decide,by decide,?_⟩
 by_cases q1:x1<0
 ·refine an mix [] [(0,[5],[]),(1,[5],[]),(6,[0],[]),(7,[0],[]),(8,[0],[]),(9,[2],[]),(10,[3],[]),(11,[3],[])] (by rfl) ?_
  simp only[zX,simprocAttr,-Int.reduceNatCast',zM,w1,q1]
  exact⟨by decide,hM,rfl⟩
 ·have q2:(m.t.length:Int)-p.at_<x2-x1:=by omega
  refine an mix [] [(0,[5],[]),(1,[5],[]),(6,[0],[]),(7,[0],[]),(8,[0],[]),(9,[2],[]),(10,[3],[]),(11,[3],[])] (by rfl) ?_
  simp only[zX,simprocAttr,-Int.reduceNatCast',zM,w1,w2,q1,q2,gt_iff_lt]
  exact⟨by decide,hM,rfl⟩
theorem Am (g b a:Nat) (m:aB) (p:ao) (x:Int×Int) (hx:p.ai[(m.p.re.n-1).toNat]?=some x) (hn:1≤m.p.re.n) (LI:m.p.re.n≤p.ai.length) (hc:p.ai.length≤1000000000) (hb:-1000000≤x.1∧-1000000≤x.2∧x.1≤1000000∧x.2≤1000000)
  (hp:0≤p.at_) (Iu:p.at_≤m.t.length) (ht:m.t.length≤1000000) (hq:x.1<0∨(m.t.length:Int)-p.at_<x.2-x.1) :
  az prog 154 [.pp 0 g 0 0 b a,.d ((aG.root).d b a),p.v b a] (m.aA g b a (.so 2 m.ew 0 m.t.length)) fun v s=>v=aR b a .zero false∧s=m.aA g b a (.so 2 m.ew 0 m.t.length):=by
 obtain⟨x1,x2⟩:=x
 simp only at hb hq
 have w0:IntKind.i64.wrap (m.p.re.n-1)=m.p.re.n-1:=bR _ (by omega)
 have w1:IntKind.i64.wrap (x2-x1)=x2-x1:=bR _ (by omega)
 have w2:IntKind.i64.wrap ((m.t.length:Int)-p.at_)=m.t.length-p.at_:=bR _ (by omega)
 have ma:0≤m.p.re.n-1:=by omega
 have kv:m.p.re.n-1<(p.ai.length:Int):=by omega
 have gD:=hx
 have hM:=cB m b a (.so 2 m.ew 0 m.t.length) rfl
 unfold aB.aA
 refine av func154 rfl ntmps154 results154 rfl 3 999 (by simp) (by simp) ?_
 simp only[zX,simprocAttr,-Int.reduceNatCast',zM,aG.d]
 refine aK bL.aV ?_
 refine an mix [] [(0,[3],[]),(1,[3],[]),(3,[0],[]),(4,[0],[]),(5,[0],[]),(9,[5],[5]),(10,[5],[5])] (by rfl) ?_
 simp only[zX,simprocAttr,-Int.reduceNatCast',zM,Re.ae,hole,w0,w1,ma,kv,gD,bd,aM]
 refine⟨by decide,by decide,?_⟩
 by_cases q1:x1<0
 ·refine an mix [] [(0,[5],[]),(1,[5],[]),(6,[0],[]),(7,[0],[]),(8,[0],[]),(9,[2],[]),(10,[3],[]),(11,[3],[])] (by rfl) ?_
  simp only[zX,simprocAttr,-Int.reduceNatCast',zM,w1,q1]
  exact⟨by decide,hM,rfl⟩
 ·have q2:(m.t.length:Int)-p.at_<x2-x1:=by omega
  refine an mix [] [(0,[5],[]),(1,[5],[]),(6,[0],[]),(7,[0],[]),(8,[0],[]),(9,[2],[]),(10,[3],[]),(11,[3],[])] (by rfl) ?_
  simp only[zX,simprocAttr,-Int.reduceNatCast',zM,w1,w2,q1,q2,gt_iff_lt]
  exact⟨by decide,hM,rfl⟩
theorem HY (g b a:Nat) (m:aB) (re:Re) (p:ao) (x1 x2:Nat) (hx:p.ai[(re.n-1).toNat]?=some ((x1:Int),(x2:Int))) (hn:1≤re.n) (LI:re.n≤p.ai.length) (hc:p.ai.length≤1000000000) (i:Nat)
  (hp:p.at_=i) (ht:m.t.length≤1000000) (hq:i+(x2-x1)≤m.t.length) (bW:x1≤x2) (h2:x2≤m.t.length) :
  az prog 154 [.pp 0 g 0 0 b a,.d ((aG.el re).d b a),p.v b a] (m.aA g b a (.d (ay m.t))) fun v s=>v=(if cO m.t x1 i (x2-x1)=true then aR b a { p with at_:=p.at_+((x2:Int)-x1) } true else aR b a .zero false)∧s=m.aA g b a (.d (ay m.t)):=by
 have w0:IntKind.i64.wrap (re.n-1)=re.n-1:=bR _ (by omega)
 have w1:IntKind.i64.wrap ((x2:Int)-x1)=x2-x1:=bR _ (by omega)
 have w2:IntKind.i64.wrap ((m.t.length:Int)-i)=m.t.length-i:=bR _ (by omega)
 have w3:IntKind.i64.wrap ((i:Int)+((x2:Int)-x1))=i+((x2:Int)-x1):=bR _ (by omega)
 have ma:0≤re.n-1:=by omega
 have kv:re.n-1<(p.ai.length:Int):=by omega
 have gD:=hx
 have q1:¬(x1:Int)<0:=by omega
 have q2:¬(m.t.length:Int)-i<(x2:Int)-x1:=by omega
 have l1:(0:Int)≤(x1:Int):=by omega
 have l2:(x1:Int)≤(x2:Int):=by omega
 have l3:(x2:Int)≤(m.t.length:Int):=by omega
 have l4:(0:Int)≤(i:Int):=by omega
 have l5:(i:Int)≤(i:Int)+((x2:Int)-x1):=by omega
 have l6:(i:Int)+((x2:Int)-x1)≤(m.t.length:Int):=by omega
 have e1:((x2:Int)-x1).toNat=x2-x1:=by omega
 have e2:((i:Int)+((x2:Int)-x1)-i).toNat=x2-x1:=by omega
 have hM:=cB m b a (.d (ay m.t)) rfl
 have J4:=nD (t:=m.t) (a:=x1) (i:=i) (n:=x2-x1) (by omega) hq
 have hE:=nW ((m.t.drop x1).take (x2-x1)) ((m.t.drop i).take (x2-x1)) (by simp;omega)
 rw[J4]at hE
 unfold aB.aA;simp only[ay]
 refine av func154 rfl ntmps154 results154 rfl 3 999 (by simp) (by simp) ?_
 simp only[zX,simprocAttr,-Int.reduceNatCast',zM,aG.d]
 refine aK bL.aV ?_
 refine an mix [] [(0,[3],[]),(1,[3],[]),(3,[0],[]),(4,[0],[]),(5,[0],[]),(9,[5],[5]),(10,[5],[5])] (by rfl) ?_
 simp only[zX,simprocAttr,-Int.reduceNatCast',zM,Re.ae,hole,w0,w1,hp,ma,kv,gD,bd,aM]
 refine⟨by decide,by decide,?_⟩
 refine an mix [] [(0,[5],[]),(1,[5],[]),(6,[0],[]),(7,[0],[]),(8,[0],[]),(9,[2],[]),(10,[3],[]),(11,[3],[])] (by rfl) ?_
 simp only[zX,simprocAttr,-Int.reduceNatCast',zM,hp,w1,w2,q1,q2,gt_iff_lt]
 refine⟨by decide,?_⟩
 refine an mix [20] [(1,[0],[]),(2,[0],[]),(3,[0],[]),(4,[5],[]),(5,[5],[]),(6,[5],[]),(7,[5],[]),(8,[2],[]),(10,[0],[]),(11,[0],[]),(12,[0],[]),(13,[3],[]),(14,[3],[]),(15,[3],[]),(16,[3],[]),(19,[2],[])] (by rfl) ?_
 have QN:∀e∈m.t.map (fun x=>[D.sc (Value.int IntKind.i64 x)]),e.length=1:=by
  intro e he;obtain⟨y,_,rfl⟩:=List.mem_map.1 he;rfl
 simp only[ay,List.map_take,List.map_drop,bV,iD]at hE
 simp only[zX,simprocAttr,-Int.reduceNatCast',zM,hp,w1,w3,l1,l2,l3,l4,l5,l6,Vv,e1,e2,VR]
 refine⟨by decide,by decide,.inr QN,.inr QN,bn (aE hE rfl rfl ⟨rfl,rfl⟩) ?_⟩
 cases lP:cO m.t x1 i (x2-x1) with
 |true =>
  simp only[zX,simprocAttr,-Int.reduceNatCast',zM,hp,w1,w3,lP,Vs,Vt]
  exact⟨hM,rfl⟩
 |false =>
  simp only[zX,simprocAttr,-Int.reduceNatCast',zM,hp,w1,w3,lP,Vs,Vt,Vw]
  exact⟨hM,rfl⟩
theorem Du (g b a:Nat) (m:aB) (p:ao) (x1 x2:Nat) (hx:p.ai[(m.p.re.n-1).toNat]?=some ((x1:Int),(x2:Int))) (hn:1≤m.p.re.n) (LI:m.p.re.n≤p.ai.length) (hc:p.ai.length≤1000000000) (i:Nat)
  (hp:p.at_=i) (ht:m.t.length≤1000000) (hq:i+(x2-x1)≤m.t.length) (bW:x1≤x2) (h2:x2≤m.t.length) :
  az prog 154 [.pp 0 g 0 0 b a,.d ((aG.root).d b a),p.v b a] (m.aA g b a (.d (ay m.t))) fun v s=>v=(if cO m.t x1 i (x2-x1)=true then aR b a { p with at_:=p.at_+((x2:Int)-x1) } true else aR b a .zero false)∧s=m.aA g b a (.d (ay m.t)):=by
 have w0:IntKind.i64.wrap (m.p.re.n-1)=m.p.re.n-1:=bR _ (by omega)
 have w1:IntKind.i64.wrap ((x2:Int)-x1)=x2-x1:=bR _ (by omega)
 have w2:IntKind.i64.wrap ((m.t.length:Int)-i)=m.t.length-i:=bR _ (by omega)
 have w3:IntKind.i64.wrap ((i:Int)+((x2:Int)-x1))=i+((x2:Int)-x1):=bR _ (by omega)
 have ma:0≤m.p.re.n-1:=by omega
 have kv:m.p.re.n-1<(p.ai.length:Int):=by omega
 have gD:=hx
 have q1:¬(x1:Int)<0:=by omega
 have q2:¬(m.t.length:Int)-i<(x2:Int)-x1:=by omega
 have l1:(0:Int)≤(x1:Int):=by omega
 have l2:(x1:Int)≤(x2:Int):=by omega
 have l3:(x2:Int)≤(m.t.length:Int):=by omega
 have l4:(0:Int)≤(i:Int):=by omega
 have l5:(i:Int)≤(i:Int)+((x2:Int)-x1):=by omega
 have l6:(i:Int)+((x2:Int)-x1)≤(m.t.length:Int):=by omega
 have e1:((x2:Int)-x1).toNat=x2-x1:=by omega
 have e2:((i:Int)+((x2:Int)-x1)-i).toNat=x2-x1:=by omega
 have hM:=cB m b a (.d (ay m.t)) rfl
 have J4:=nD (t:=m.t) (a:=x1) (i:=i) (n:=x2-x1) (by omega) hq
 have hE:=nW ((m.t.drop x1).take (x2-x1)) ((m.t.drop i).take (x2-x1)) (by simp;omega)
 rw[J4]at hE
 unfold aB.aA;simp only[ay]
 refine av func154 rfl ntmps154 results154 rfl 3 999 (by simp) (by simp) ?_
 simp only[zX,simprocAttr,-Int.reduceNatCast',zM,aG.d]
 refine aK bL.aV ?_
 refine an mix [] [(0,[3],[]),(1,[3],[]),(3,[0],[]),(4,[0],[]),(5,[0],[]),(9,[5],[5]),(10,[5],[5])] (by rfl) ?_
 simp only[zX,simprocAttr,-Int.reduceNatCast',zM,Re.ae,hole,w0,w1,hp,ma,kv,gD,bd,aM]
 refine⟨by decide,by decide,?_⟩
 refine an mix [] [(0,[5],[]),(1,[5],[]),(6,[0],[]),(7,[0],[]),(8,[0],[]),(9,[2],[]),(10,[3],[]),(11,[3],[])] (by rfl) ?_
 simp only[zX,simprocAttr,-Int.reduceNatCast',zM,hp,w1,w2,q1,q2,gt_iff_lt]
 refine⟨by decide,?_⟩
 refine an mix [20] [(1,[0],[]),(2,[0],[]),(3,[0],[]),(4,[5],[]),(5,[5],[]),(6,[5],[]),(7,[5],[]),(8,[2],[]),(10,[0],[]),(11,[0],[]),(12,[0],[]),(13,[3],[]),(14,[3],[]),(15,[3],[]),(16,[3],[]),(19,[2],[])] (by rfl) ?_
 have QN:∀e∈m.t.map (fun x=>[D.sc (Value.int IntKind.i64 x)]),e.length=1:=by
  intro e he;obtain⟨y,_,rfl⟩:=List.mem_map.1 he;rfl
 simp only[ay,List.map_take,List.map_drop,bV,iD]at hE
 simp only[zX,simprocAttr,-Int.reduceNatCast',zM,hp,w1,w3,l1,l2,l3,l4,l5,l6,Vv,e1,e2,VR]
 refine⟨by decide,by decide,.inr QN,.inr QN,bn (aE hE rfl rfl ⟨rfl,rfl⟩) ?_⟩
 cases lP:cO m.t x1 i (x2-x1) with
 |true =>
  simp only[zX,simprocAttr,-Int.reduceNatCast',zM,hp,w1,w3,lP,Vs,Vt]
  exact⟨hM,rfl⟩
 |false =>
  simp only[zX,simprocAttr,-Int.reduceNatCast',zM,hp,w1,w3,lP,Vs,Vt,Vw]
  exact⟨hM,rfl⟩
theorem E4 (g b a:Nat) (m:aB) (re:Re) (p:ao) (x1 x2:Nat) (hx:p.ai[(re.n-1).toNat]?=some ((x1:Int),(x2:Int))) (hn:1≤re.n) (LI:re.n≤p.ai.length) (hc:p.ai.length≤1000000000) (i:Nat)
  (hp:p.at_=i) (ht:m.t.length≤1000000) (hq:i+(x2-x1)≤m.t.length) (bW:x1≤x2) (h2:x2≤m.t.length) (hs:m.own=m.t) :
  az prog 154 [.pp 0 g 0 0 b a,.d ((aG.el re).d b a),p.v b a] (m.aA g b a (.so 2 m.ew 0 m.t.length)) fun v s=>v=(if cO m.t x1 i (x2-x1)=true then aR b a { p with at_:=p.at_+((x2:Int)-x1) } true else aR b a .zero false)∧s=m.aA g b a (.so 2 m.ew 0 m.t.length):=by
 have w0:IntKind.i64.wrap (re.n-1)=re.n-1:=bR _ (by omega)
 have w1:IntKind.i64.wrap ((x2:Int)-x1)=x2-x1:=bR _ (by omega)
 have w2:IntKind.i64.wrap ((m.t.length:Int)-i)=m.t.length-i:=bR _ (by omega)
 have w3:IntKind.i64.wrap ((i:Int)+((x2:Int)-x1))=i+((x2:Int)-x1):=bR _ (by omega)
 have ma:0≤re.n-1:=by omega
 have kv:re.n-1<(p.ai.length:Int):=by omega
 have gD:=hx
 have q1:¬(x1:Int)<0:=by omega
 have q2:¬(m.t.length:Int)-i<(x2:Int)-x1:=by omega
 have l1:(0:Int)≤(x1:Int):=by omega
 have l2:(x1:Int)≤(x2:Int):=by omega
 have l3:(x2:Int)≤(m.t.length:Int):=by omega
 have l4:(0:Int)≤(i:Int):=by omega
 have l5:(i:Int)≤(i:Int)+((x2:Int)-x1):=by omega
 have l6:(i:Int)+((x2:Int)-x1)≤(m.t.length:Int):=by omega
 have e1:((x2:Int)-x1).toNat=x2-x1:=by omega
 have e2:((i:Int)+((x2:Int)-x1)-i).toNat=x2-x1:=by omega
 have hM:=cB m b a (.so 2 m.ew 0 m.t.length) rfl
 have J4:=nD (t:=m.t) (a:=x1) (i:=i) (n:=x2-x1) (by omega) hq
 have hE:=nW ((m.t.drop x1).take (x2-x1)) ((m.t.drop i).take (x2-x1)) (by simp;omega)
 rw[J4]at hE
 unfold aB.aA
 refine av func154 rfl ntmps154 results154 rfl 3 999 (by simp) (by simp) ?_
 simp only[zX,simprocAttr,-Int.reduceNatCast',zM,aG.d]
 refine aK bL.aV ?_
 refine an mix [] [(0,[3],[]),(1,[3],[]),(3,[0],[]),(4,[0],[]),(5,[0],[]),(9,[5],[5]),(10,[5],[5])] (by rfl) ?_
 simp only[zX,simprocAttr,-Int.reduceNatCast',zM,Re.ae,hole,w0,w1,hp,ma,kv,gD,bd,aM]
 refine⟨by decide,by decide,?_⟩
 refine an mix [] [(0,[5],[]),(1,[5],[]),(6,[0],[]),(7,[0],[]),(8,[0],[]),(9,[2],[]),(10,[3],[]),(11,[3],[])] (by rfl) ?_
 simp only[zX,simprocAttr,-Int.reduceNatCast',zM,hp,w1,w2,q1,q2,gt_iff_lt]
 refine⟨by decide,?_⟩
 have hle:m.t.length≤m.own.length:=by rw[hs];exact VA _
 have m6:min m.t.length m.own.length=m.t.length:=by omega
 refine an mix [20] [(1,[0],[]),(2,[0],[]),(3,[0],[]),(4,[5],[]),(5,[5],[]),(6,[5],[]),(7,[5],[]),(8,[2],[]),(10,[0],[]),(11,[0],[]),(12,[0],[]),(13,[3],[]),(14,[3],[]),(15,[3],[]),(16,[3],[]),(19,[2],[])] (by rfl) ?_
 simp only[bV]at hE
 rw[← hs,show cO m.own=cO m.t by rw[hs]]at hE
 rcases VX x1 x2 with l7|l7
 ·have l8:(x1:Int)<(x2:Int):=by omega
  have l9:(i:Int)<(i:Int)+((x2:Int)-x1):=by omega
  simp only[zX,simprocAttr,-Int.reduceNatCast',zM,hle,m6,hp,w1,w3,l1,l2,l3,l4,l5,l6,l8,l9,Vv,V3,VA,e1,e2,VR,VU,or_true,Vr]
  refine⟨by decide,by decide,bn (fX [2] hE (j0 (ig (own:=m.own) rfl (show x1+(x2-x1)≤m.own.length by omega)) (ig (own:=m.own) rfl (show i+(x2-x1)≤m.own.length by omega))) rfl ⟨rfl,rfl⟩) ?_⟩
  cases lP:cO m.t x1 i (x2-x1) with
  |true =>
   simp only[zX,simprocAttr,-Int.reduceNatCast',zM,hp,w1,w3,lP,Vs,Vt]
   exact⟨hM,rfl⟩
  |false =>
   simp only[zX,simprocAttr,-Int.reduceNatCast',zM,hp,w1,w3,lP,Vs,Vt,Vw]
   exact⟨hM,rfl⟩
 ·have l8:¬(x1:Int)<(x2:Int):=by omega
  have l9:¬(i:Int)<(i:Int)+((x2:Int)-x1):=by omega
  have hz:x2-x1=0:=by omega
  by_cases z1:(x1:Int)=0
  ·have y1:=eq_true z1
   by_cases z2:(i:Int)=0
   ·have y2:=eq_true z2
    simp only[zX,simprocAttr,-Int.reduceNatCast',zM,hle,m6,hp,w1,w3,l1,l2,l3,l4,l5,l6,l8,l9,y1,y2,true_or,or_false,Vv,V3,VA,e1,e2,VR,VU,or_true,Vr]
    refine⟨by decide,by decide,bn (fX [2] hE (j0 (ig (own:=m.own) rfl (show x1+(x2-x1)≤m.own.length by omega)) (ig (own:=m.own) rfl (show i+(x2-x1)≤m.own.length by omega))) rfl ⟨rfl,rfl⟩) ?_⟩
    cases lP:cO m.t x1 i (x2-x1) with
    |true =>
     simp only[zX,simprocAttr,-Int.reduceNatCast',zM,hp,w1,w3,lP,Vs,Vt]
     exact⟨hM,rfl⟩
    |false =>
     simp only[zX,simprocAttr,-Int.reduceNatCast',zM,hp,w1,w3,lP,Vs,Vt,Vw]
     exact⟨hM,rfl⟩
   ·have y2:=eq_false z2
    simp only[zX,simprocAttr,-Int.reduceNatCast',zM,hle,m6,hp,w1,w3,l1,l2,l3,l4,l5,l6,l8,l9,y1,y2,true_or,or_false,Vv,V3,VA,e1,e2,VR,VU,or_true,Vr]
    refine⟨by decide,by decide,bn (fX [2] hE (j0 (ig (own:=m.own) rfl (show x1+(x2-x1)≤m.own.length by omega)) (kt hz)) rfl ⟨rfl,rfl⟩) ?_⟩
    cases lP:cO m.t x1 i (x2-x1) with
    |true =>
     simp only[zX,simprocAttr,-Int.reduceNatCast',zM,hp,w1,w3,lP,Vs,Vt]
     exact⟨hM,rfl⟩
    |false =>
     simp only[zX,simprocAttr,-Int.reduceNatCast',zM,hp,w1,w3,lP,Vs,Vt,Vw]
     exact⟨hM,rfl⟩
  ·have y1:=eq_false z1
   by_cases z2:(i:Int)=0
   ·have y2:=eq_true z2
    simp only[zX,simprocAttr,-Int.reduceNatCast',zM,hle,m6,hp,w1,w3,l1,l2,l3,l4,l5,l6,l8,l9,y1,y2,true_or,or_false,Vv,V3,VA,e1,e2,VR,VU,or_true,Vr]
    refine⟨by decide,by decide,bn (fX [2] hE (j0 (kt hz) (ig (own:=m.own) rfl (show i+(x2-x1)≤m.own.length by omega))) rfl ⟨rfl,rfl⟩) ?_⟩
    cases lP:cO m.t x1 i (x2-x1) with
    |true =>
     simp only[zX,simprocAttr,-Int.reduceNatCast',zM,hp,w1,w3,lP,Vs,Vt]
     exact⟨hM,rfl⟩
    |false =>
     simp only[zX,simprocAttr,-Int.reduceNatCast',zM,hp,w1,w3,lP,Vs,Vt,Vw]
     exact⟨hM,rfl⟩
   ·have y2:=eq_false z2
    simp only[zX,simprocAttr,-Int.reduceNatCast',zM,hle,m6,hp,w1,w3,l1,l2,l3,l4,l5,l6,l8,l9,y1,y2,true_or,or_false,Vv,V3,VA,e1,e2,VR,VU,or_true,Vr]
    refine⟨by decide,by decide,bn (fX [2] hE (j0 (kt hz) (kt hz)) rfl ⟨rfl,rfl⟩) ?_⟩
    cases lP:cO m.t x1 i (x2-x1) with
    |true =>
     simp only[zX,simprocAttr,-Int.reduceNatCast',zM,hp,w1,w3,lP,Vs,Vt]
     exact⟨hM,rfl⟩
    |false =>
     simp only[zX,simprocAttr,-Int.reduceNatCast',zM,hp,w1,w3,lP,Vs,Vt,Vw]
     exact⟨hM,rfl⟩
theorem AN (g b a:Nat) (m:aB) (p:ao) (x1 x2:Nat) (hx:p.ai[(m.p.re.n-1).toNat]?=some ((x1:Int),(x2:Int))) (hn:1≤m.p.re.n) (LI:m.p.re.n≤p.ai.length) (hc:p.ai.length≤1000000000) (i:Nat)
  (hp:p.at_=i) (ht:m.t.length≤1000000) (hq:i+(x2-x1)≤m.t.length) (bW:x1≤x2) (h2:x2≤m.t.length) (hs:m.own=m.t) :
  az prog 154 [.pp 0 g 0 0 b a,.d ((aG.root).d b a),p.v b a] (m.aA g b a (.so 2 m.ew 0 m.t.length)) fun v s=>v=(if cO m.t x1 i (x2-x1)=true then aR b a { p with at_:=p.at_+((x2:Int)-x1) } true else aR b a .zero false)∧s=m.aA g b a (.so 2 m.ew 0 m.t.length):=by
 have w0:IntKind.i64.wrap (m.p.re.n-1)=m.p.re.n-1:=bR _ (by omega)
 have w1:IntKind.i64.wrap ((x2:Int)-x1)=x2-x1:=bR _ (by omega)
 have w2:IntKind.i64.wrap ((m.t.length:Int)-i)=m.t.length-i:=bR _ (by omega)
 have w3:IntKind.i64.wrap ((i:Int)+((x2:Int)-x1))=i+((x2:Int)-x1):=bR _ (by omega)
 have ma:0≤m.p.re.n-1:=by omega
 have kv:m.p.re.n-1<(p.ai.length:Int):=by omega
 have gD:=hx
 have q1:¬(x1:Int)<0:=by omega
 have q2:¬(m.t.length:Int)-i<(x2:Int)-x1:=by omega
 have l1:(0:Int)≤(x1:Int):=by omega
 have l2:(x1:Int)≤(x2:Int):=by omega
 have l3:(x2:Int)≤(m.t.length:Int):=by omega
 have l4:(0:Int)≤(i:Int):=by omega
 have l5:(i:Int)≤(i:Int)+((x2:Int)-x1):=by omega
 have l6:(i:Int)+((x2:Int)-x1)≤(m.t.length:Int):=by omega
 have e1:((x2:Int)-x1).toNat=x2-x1:=by omega
 have e2:((i:Int)+((x2:Int)-x1)-i).toNat=x2-x1:=by omega
 have hM:=cB m b a (.so 2 m.ew 0 m.t.length) rfl
 have J4:=nD (t:=m.t) (a:=x1) (i:=i) (n:=x2-x1) (by omega) hq
 have hE:=nW ((m.t.drop x1).take (x2-x1)) ((m.t.drop i).take (x2-x1)) (by simp;omega)
 rw[J4]at hE
 unfold aB.aA
 refine av func154 rfl ntmps154 results154 rfl 3 999 (by simp) (by simp) ?_
 simp only[zX,simprocAttr,-Int.reduceNatCast',zM,aG.d]
 refine aK bL.aV ?_
 refine an mix [] [(0,[3],[]),(1,[3],[]),(3,[0],[]),(4,[0],[]),(5,[0],[]),(9,[5],[5]),(10,[5],[5])] (by rfl) ?_
 simp only[zX,simprocAttr,-Int.reduceNatCast',zM,Re.ae,hole,w0,w1,hp,ma,kv,gD,bd,aM]
 refine⟨by decide,by decide,?_⟩
 refine an mix [] [(0,[5],[]),(1,[5],[]),(6,[0],[]),(7,[0],[]),(8,[0],[]),(9,[2],[]),(10,[3],[]),(11,[3],[])] (by rfl) ?_
 simp only[zX,simprocAttr,-Int.reduceNatCast',zM,hp,w1,w2,q1,q2,gt_iff_lt]
 refine⟨by decide,?_⟩
 have hle:m.t.length≤m.own.length:=by rw[hs];exact VA _
 have m6:min m.t.length m.own.length=m.t.length:=by omega
 refine an mix [20] [(1,[0],[]),(2,[0],[]),(3,[0],[]),(4,[5],[]),(5,[5],[]),(6,[5],[]),(7,[5],[]),(8,[2],[]),(10,[0],[]),(11,[0],[]),(12,[0],[]),(13,[3],[]),(14,[3],[]),(15,[3],[]),(16,[3],[]),(19,[2],[])] (by rfl) ?_
 simp only[bV]at hE
 rw[← hs,show cO m.own=cO m.t by rw[hs]]at hE
 rcases VX x1 x2 with l7|l7
 ·have l8:(x1:Int)<(x2:Int):=by omega
  have l9:(i:Int)<(i:Int)+((x2:Int)-x1):=by omega
  simp only[zX,simprocAttr,-Int.reduceNatCast',zM,hle,m6,hp,w1,w3,l1,l2,l3,l4,l5,l6,l8,l9,Vv,V3,VA,e1,e2,VR,VU,or_true,Vr]
  refine⟨by decide,by decide,bn (fX [2] hE (j0 (ig (own:=m.own) rfl (show x1+(x2-x1)≤m.own.length by omega)) (ig (own:=m.own) rfl (show i+(x2-x1)≤m.own.length by omega))) rfl ⟨rfl,rfl⟩) ?_⟩
  cases lP:cO m.t x1 i (x2-x1) with
  |true =>
   simp only[zX,simprocAttr,-Int.reduceNatCast',zM,hp,w1,w3,lP,Vs,Vt]
   exact⟨hM,rfl⟩
  |false =>
   simp only[zX,simprocAttr,-Int.reduceNatCast',zM,hp,w1,w3,lP,Vs,Vt,Vw]
   exact⟨hM,rfl⟩
 ·have l8:¬(x1:Int)<(x2:Int):=by omega
  have l9:¬(i:Int)<(i:Int)+((x2:Int)-x1):=by omega
  have hz:x2-x1=0:=by omega
  by_cases z1:(x1:Int)=0
  ·have y1:=eq_true z1
   by_cases z2:(i:Int)=0
   ·have y2:=eq_true z2
    simp only[zX,simprocAttr,-Int.reduceNatCast',zM,hle,m6,hp,w1,w3,l1,l2,l3,l4,l5,l6,l8,l9,y1,y2,true_or,or_false,Vv,V3,VA,e1,e2,VR,VU,or_true,Vr]
    refine⟨by decide,by decide,bn (fX [2] hE (j0 (ig (own:=m.own) rfl (show x1+(x2-x1)≤m.own.length by omega)) (ig (own:=m.own) rfl (show i+(x2-x1)≤m.own.length by omega))) rfl ⟨rfl,rfl⟩) ?_⟩
    cases lP:cO m.t x1 i (x2-x1) with
    |true =>
     simp only[zX,simprocAttr,-Int.reduceNatCast',zM,hp,w1,w3,lP,Vs,Vt]
     exact⟨hM,rfl⟩
    |false =>
     simp only[zX,simprocAttr,-Int.reduceNatCast',zM,hp,w1,w3,lP,Vs,Vt,Vw]
     exact⟨hM,rfl⟩
   ·have y2:=eq_false z2
    simp only[zX,simprocAttr,-Int.reduceNatCast',zM,hle,m6,hp,w1,w3,l1,l2,l3,l4,l5,l6,l8,l9,y1,y2,true_or,or_false,Vv,V3,VA,e1,e2,VR,VU,or_true,Vr]
    refine⟨by decide,by decide,bn (fX [2] hE (j0 (ig (own:=m.own) rfl (show x1+(x2-x1)≤m.own.length by omega)) (kt hz)) rfl ⟨rfl,rfl⟩) ?_⟩
    cases lP:cO m.t x1 i (x2-x1) with
    |true =>
     simp only[zX,simprocAttr,-Int.reduceNatCast',zM,hp,w1,w3,lP,Vs,Vt]
     exact⟨hM,rfl⟩
    |false =>
     simp only[zX,simprocAttr,-Int.reduceNatCast',zM,hp,w1,w3,lP,Vs,Vt,Vw]
     exact⟨hM,rfl⟩
  ·have y1:=eq_false z1
   by_cases z2:(i:Int)=0
   ·have y2:=eq_true z2
    simp only[zX,simprocAttr,-Int.reduceNatCast',zM,hle,m6,hp,w1,w3,l1,l2,l3,l4,l5,l6,l8,l9,y1,y2,true_or,or_false,Vv,V3,VA,e1,e2,VR,VU,or_true,Vr]
    refine⟨by decide,by decide,bn (fX [2] hE (j0 (kt hz) (ig (own:=m.own) rfl (show i+(x2-x1)≤m.own.length by omega))) rfl ⟨rfl,rfl⟩) ?_⟩
    cases lP:cO m.t x1 i (x2-x1) with
    |true =>
     simp only[zX,simprocAttr,-Int.reduceNatCast',zM,hp,w1,w3,lP,Vs,Vt]
     exact⟨hM,rfl⟩
    |false =>
     simp only[zX,simprocAttr,-Int.reduceNatCast',zM,hp,w1,w3,lP,Vs,Vt,Vw]
     exact⟨hM,rfl⟩
   ·have y2:=eq_false z2
    simp only[zX,simprocAttr,-Int.reduceNatCast',zM,hle,m6,hp,w1,w3,l1,l2,l3,l4,l5,l6,l8,l9,y1,y2,true_or,or_false,Vv,V3,VA,e1,e2,VR,VU,or_true,Vr]
    refine⟨by decide,by decide,bn (fX [2] hE (j0 (kt hz) (kt hz)) rfl ⟨rfl,rfl⟩) ?_⟩
    cases lP:cO m.t x1 i (x2-x1) with
    |true =>
     simp only[zX,simprocAttr,-Int.reduceNatCast',zM,hp,w1,w3,lP,Vs,Vt]
     exact⟨hM,rfl⟩
    |false =>
     simp only[zX,simprocAttr,-Int.reduceNatCast',zM,hp,w1,w3,lP,Vs,Vt,Vw]
     exact⟨hM,rfl⟩
theorem getD_some {α:Type}{l:List α}{i:Nat}{x d:α} (h:l[i]?=some x):l.getD i d=x:=by
 rw[List.getD,h];rfl
theorem Gs (g b a:Nat) (m:aB) (r:aG) (re:Re) (p:ao) (hr:m.lit r=some re) {x:ao×Bool} (hx:tb m.t re p=some x) (hc:p.ai.length≤1000000000) (hp:0≤p.at_) (Iu:p.at_≤m.t.length) (ht:m.t.length≤1000000) (hs:m.same) :
  az prog 154 [.pp 0 g 0 0 b a,.d (r.d b a),p.v b a] (m.aF g b a) fun v s=>v=aR b a x.1 x.2∧s=m.aF g b a:=by
 unfold tb at hx
 split at hx
 ·cases hx
 rename_i hn
 obtain⟨y,hy⟩:∃y,p.ai[(re.n-1).toNat]?=some y:=⟨_,Vu (by omega)⟩
 rw[getD_some hy]at hx
 simp only at hx
 split at hx
 ·cases hx
 rename_i hb
 split at hx
 ·rename_i hq
  cases hx
  cases r with
  |nil=>cases hr
  |root =>
   cases hr
   cases hT:m.bq with
   |true=>rw[lb hT];exact Am g b a m p y hy (by omega) (by omega) hc (by omega) hp Iu ht hq
   |false=>rw[mT hT];exact Cl g b a m p y hy (by omega) (by omega) hc (by omega) hp Iu ht hq
  |el yv =>
   cases hr
   cases hT:m.bq with
   |true=>rw[lb hT];exact Fm g b a m re p y hy (by omega) (by omega) hc (by omega) hp Iu ht hq
   |false=>rw[mT hT];exact HL g b a m re p y hy (by omega) (by omega) hc (by omega) hp Iu ht hq
 rename_i hq
 split at hx
 ·cases hx
 rename_i UC
 obtain⟨y1,y2⟩:=y
 simp only at hx hb hq UC
 obtain⟨x1,rfl⟩:=Wl (show 0≤y1 by omega)
 obtain⟨x2,rfl⟩:=Wl (show 0≤y2 by omega)
 obtain⟨i,hi⟩:=Wl hp
 rw[show ((x2:Int)-(x1:Int)).toNat=x2-x1 by omega,hi]at hx
 have fin:∀T:V,(az prog 154 [.pp 0 g 0 0 b a,.d (r.d b a),p.v b a] (m.aA g b a T) fun v s=>v=(if cO m.t x1 i (x2-x1)=true then aR b a { p with at_:=p.at_+((x2:Int)-x1) } true else aR b a .zero false)∧s=m.aA g b a T) →
   az prog 154 [.pp 0 g 0 0 b a,.d (r.d b a),p.v b a] (m.aA g b a T) fun v s=>v=aR b a x.1 x.2∧s=m.aA g b a T:=by
  intro T h
  refine aj h (fun v s hv=>?_)
  obtain⟨rfl,rfl⟩:=hv
  refine⟨?_,rfl⟩
  split at hx
  ·rename_i hh;rw[if_pos hh];cases hx;rw[hi]
  ·rename_i hh;rw[if_neg hh];cases hx;rfl
 cases r with
 |nil=>cases hr
 |root =>
  cases hr
  cases hT:m.bq with
  |true=>rw[lb hT];exact fin _ (AN g b a m p x1 x2 hy (by omega) (by omega) hc i hi ht (by omega) (by omega) (by omega) (hs hT))
  |false=>rw[mT hT];exact fin _ (Du g b a m p x1 x2 hy (by omega) (by omega) hc i hi ht (by omega) (by omega) (by omega))
 |el yv =>
  cases hr
  cases hT:m.bq with
  |true=>rw[lb hT];exact fin _ (E4 g b a m re p x1 x2 hy (by omega) (by omega) hc i hi ht (by omega) (by omega) (by omega) (hs hT))
  |false=>rw[mT hT];exact fin _ (HY g b a m re p x1 x2 hy (by omega) (by omega) hc i hi ht (by omega) (by omega) (by omega))
end Go.Proofs.Ytllagoeijcjpiaa
