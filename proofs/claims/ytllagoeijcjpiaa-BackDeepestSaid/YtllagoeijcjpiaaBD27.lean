/- A part of the proof (H12 H13). -/
import Derived.Test.YtllagoeijcjpiaaBD26
set_option linter.unusedSimpArgs false
set_option linter.unusedVariables false
set_option maxRecDepth 100000
set_option maxHeartbeats 80000000
namespace Go.Proofs.Ytllagoeijcjpiaa
open Go.VL
theorem vq {t:List Int}{a i:Int}{j:Nat}:cO t a i (j+1)=(cO t a i j&&(eH t (a+j) == eH t (i+j))):=by
 unfold cO
 rw[List.range_succ,Wi]
 simp
theorem zu {t:List Int}{a i:Int}{n j:Nat} (hj:j<n) (h:¬eH t (a+j)=eH t (i+j)):cO t a i n=false:=by
 rw[V6]
 intro hs
 unfold cO at hs
 rw[VT]at hs
 have:=hs j (List.mem_range.2 hj)
 simp only[beq_iff_eq]at this
 exact h this
section node
variable {g0:Nat}{t:List Int}{F:Int}{kind:Int}{re:Re}{k bO:Int}{next:Goal}{i:Int}{c:aq}{n:Int}{st st' s2:aU}{o d d' d2 w e wl el:Int}{l ll:aq}
theorem Md (ho:re.op=2) (he:st.empty=false) (h0:0≤st.steps) (h1:st.steps≤10000000000000) (hs:(st.step F).empty=false) (cJ:re.kids.length≤1000000000)
  (hc:dH g0 t F 56 (gu re.kids next).d i c n (st.step F) o d st' d' w e l) :
  dH g0 t F 99 (Goal.mk kind re k bO next).d i c n st o d st' d' w e l:=by
 have aH:=b6 g0 t F st o d he h0 h1
 rw[hs]at aH
 generalize st.step F=s1 at *
 have d4:decide (re.op=4)=false:=decide_eq_false (by omega)
 have d1:decide (re.op=1)=false:=decide_eq_false (by omega)
 have d2:decide (re.op=2)=true:=decide_eq_true ho
 unfold cW at aH
 unfold dH cW fm
 simp only[i64,bV,iD,Vt,ay,hs]at aH
 try simp only[hs,ay]
 unfold dH cW fm at hc
 simp only[i64,bV,ay,hs]at hc
 have wl:IntKind.i64.wrap ((re.kids.length:Int)-1)=(re.kids.length:Int)-1:=bR _ (by omega)
 refine av Try.func99 rfl Try.ntmps99 Try.results99 rfl 1 130370302485407109521180524058200202307293977194619920040712988758680403184925606790312229919 (by simp) (by simp) ?_
 simp only[zX,simprocAttr,i64,bV,Goal.aN,iD,bD,d4,d1,d2]
 refine au aH rfl rfl rfl rfl rfl rfl ?_
 simp only[zX,simprocAttr,i64,bV,iD,bD,Vs,d4,d1,d2]
 simp only[zX,simprocAttr,i64,bV,iD,bD,ay,Vv,wl]
 refine aY (fun m E S=>∃(j:Nat),m=j∧j≤re.kids.length∧E 0=.rf 0 g0 0 0∧E 2=i64 i∧E 3=.d (bd c)∧E 4=i64 n∧E 11=.rf 1 0 0 0∧E 12=.rf 2 0 0 0∧E 15=.d (gu (re.kids.drop j) next).d∧E 16=i64 ((j:Int)-1)∧S=[⟨g0,true,6,[[.d (ay t),i64 F,i64 s1.steps,i64 o,i64 d,bV false]]⟩,uH,uN re])
  ⟨_,_,_,dt.refl,re.kids.length,rfl,by omega,rfl,rfl,rfl,rfl,rfl,rfl,?_,rfl,rfl⟩ ?_
 ·rw[List.drop_length];rfl
 rintro m E S ⟨j,rfl,hj,kI,h2,h3,h4,cq,bW,vA,fj,rfl⟩
 unfold uH uN
 cases m with
 |zero =>
  rw[show ((0:Nat):Int)-1=-1 from rfl]at fj
  rw[Wx]at vA
  simp only[zX,simprocAttr,i64,bV,iD,bD,ay,kI,h2,h3,h4,cq,bW,vA,fj,ge_iff_le]
  refine au hc rfl rfl rfl rfl rfl rfl ?_
  simp only[zX,simprocAttr,i64,bV,iD,bD,ay,cq]
 |succ j =>
  rw[show ((j+1:Nat):Int)-1=j by omega]at fj
  have FW:(0:Int)≤(j:Int):=by omega
  have aT:j<re.kids.length:=by omega
  have cn:(j:Int)<(re.kids.length:Int):=by omega
  obtain⟨x,hx⟩:∃x,re.kids[j]?=some x:=⟨_,Vu aT⟩
  have tq:gu (re.kids.drop j) next=.mk 0 x 0 0 (gu (re.kids.drop (j+1)) next):=by rw[zL hx];rfl
  generalize gu (re.kids.drop (j+1)) next=G at *
  have w1:IntKind.i64.wrap ((j:Int)-1)=(j:Int)-1:=bR _ (by omega)
  simp only[zX,simprocAttr,i64,bV,iD,bD,ay,Vv,kI,h2,h3,h4,cq,bW,vA,fj,ge_iff_le,FW,aT,cn,hx,aw x,Re.ae x,w1]
  refine⟨j,_,_,by omega,(dt.freeze [3] [15]).trans (dt.cut 3 (by omega) rfl ?_ [0,2,3,4,11,12,15,16] ?_),j,rfl,by omega,?_,?_,?_,?_,?_,?_,?_,?_,rfl⟩
  ·rfl
  ·simp [fy,cu,bg,ar,i64,kI,h2,h3,h4,cq,bW,vA,fj]
   rfl
  ·simpa [iH,fy,cu,bg]using kI
  ·simpa [iH,fy,cu,bg,i64]using h2
  ·simpa [iH,fy,cu,bg]using h3
  ·simpa [iH,fy,cu,bg,i64]using h4
  ·simpa [iH,fy,cu,bg]using cq
  ·simpa [iH,fy,cu,bg]using bW
  ·rw[tq,Goal.aN];rfl
  ·rfl
theorem Dw (ho:re.op=6) (he:st.empty=false) (h0:0≤st.steps) (h1:st.steps≤10000000000000) (hs:(st.step F).empty=false) {x:Int×Int} (ht:t.length≤1000000) (hi0:0≤i) (eK:i≤t.length) (n1:1≤re.n) (n2:re.n≤c.length) (n3:re.n≤1000000) (hg:c[(re.n-1).toNat]?=some x) (hx:x.1<0) :
  dH g0 t F 99 (Goal.mk kind re k bO next).d i c n st o d (st.step F) d n 0 []:=by
 have aH:=b6 g0 t F st o d he h0 h1
 rw[hs]at aH
 generalize st.step F=s1 at *
 have d4:decide (re.op=4)=false:=decide_eq_false (by omega)
 have d1:decide (re.op=1)=false:=decide_eq_false (by omega)
 have d2:decide (re.op=2)=false:=decide_eq_false (by omega)
 have d3:decide (re.op=3)=false:=decide_eq_false (by omega)
 have d5:decide (re.op=5)=false:=decide_eq_false (by omega)
 have d6:decide (re.op=6)=true:=decide_eq_true ho
 unfold cW at aH
 unfold dH cW fm
 simp only[i64,bV,iD,Vt,ay,hs]at aH
 try simp only[hs,ay]
 have w1:IntKind.i64.wrap (re.n-1)=re.n-1:=bR _ (by omega)
 have aT:(re.n-1).toNat<c.length:=by omega
 have b1:0≤re.n-1:=by omega
 have b2:re.n-1<(c.length:Int):=by omega
 have q0:(0:Int)<((2:Nat):Int):=by decide
 have q1:(1:Int)<((2:Nat):Int):=by decide
 refine av Try.func99 rfl Try.ntmps99 Try.results99 rfl 1 130370302485407109521180524058200202307293977194619920040712988758680403184925606790312229919 (by simp) (by simp) ?_
 simp only[zX,simprocAttr,i64,bV,Goal.aN,iD,bD,d4,d1,d2,d3,d5,d6]
 refine au aH rfl rfl rfl rfl rfl rfl ?_
 simp only[zX,simprocAttr,i64,bV,iD,bD,Vs,d4,d1,d2,d3,d5,d6]
 simp only[zX,simprocAttr,i64,bV,iD,bD,ay,bd,aM,Vv,w1,b1,b2,aT,hg,q0,q1,hx]
theorem Cy (ho:re.op=6) (he:st.empty=false) (h0:0≤st.steps) (h1:st.steps≤10000000000000) (hs:(st.step F).empty=false) {x:Int×Int} (ht:t.length≤1000000) (hi0:0≤i) (eK:i≤t.length) (n1:1≤re.n) (n2:re.n≤c.length) (n3:re.n≤1000000) (hg:c[(re.n-1).toNat]?=some x) (hx:¬x.1<0) (O9:¬x.2<x.1) (Ti:x.2≤t.length) (hl:t.length<i+x.2-x.1) :
  dH g0 t F 99 (Goal.mk kind re k bO next).d i c n st o d (st.step F) d n 0 []:=by
 have aH:=b6 g0 t F st o d he h0 h1
 rw[hs]at aH
 generalize st.step F=s1 at *
 have d4:decide (re.op=4)=false:=decide_eq_false (by omega)
 have d1:decide (re.op=1)=false:=decide_eq_false (by omega)
 have d2:decide (re.op=2)=false:=decide_eq_false (by omega)
 have d3:decide (re.op=3)=false:=decide_eq_false (by omega)
 have d5:decide (re.op=5)=false:=decide_eq_false (by omega)
 have d6:decide (re.op=6)=true:=decide_eq_true ho
 unfold cW at aH
 unfold dH cW fm
 simp only[i64,bV,iD,Vt,ay,hs]at aH
 try simp only[hs,ay]
 have w1:IntKind.i64.wrap (re.n-1)=re.n-1:=bR _ (by omega)
 have aT:(re.n-1).toNat<c.length:=by omega
 have b1:0≤re.n-1:=by omega
 have b2:re.n-1<(c.length:Int):=by omega
 have q0:(0:Int)<((2:Nat):Int):=by decide
 have q1:(1:Int)<((2:Nat):Int):=by decide
 have wa:IntKind.i64.wrap (i+x.2)=i+x.2:=bR _ (by omega)
 have wb:IntKind.i64.wrap (i+x.2-x.1)=i+x.2-x.1:=bR _ (by omega)
 refine av Try.func99 rfl Try.ntmps99 Try.results99 rfl 1 130370302485407109521180524058200202307293977194619920040712988758680403184925606790312229919 (by simp) (by simp) ?_
 simp only[zX,simprocAttr,i64,bV,Goal.aN,iD,bD,d4,d1,d2,d3,d5,d6]
 refine au aH rfl rfl rfl rfl rfl rfl ?_
 simp only[zX,simprocAttr,i64,bV,iD,bD,Vs,d4,d1,d2,d3,d5,d6]
 simp only[zX,simprocAttr,i64,bV,iD,bD,ay,bd,aM,Vv,w1,b1,b2,aT,hg,q0,q1,hx,wa,wb,hl,gt_iff_lt]
theorem Ei (ho:re.op=6) (he:st.empty=false) (h0:0≤st.steps) (h1:st.steps≤10000000000000) (hs:(st.step F).empty=false) {x:Int×Int} (ht:t.length≤1000000) (hi0:0≤i) (eK:i≤t.length) (n1:1≤re.n) (n2:re.n≤c.length) (n3:re.n≤1000000) (hg:c[(re.n-1).toNat]?=some x) (hx:¬x.1<0) (O9:¬x.2<x.1) (Ti:x.2≤t.length) (hl:¬t.length<i+x.2-x.1) (ry:cO t x.1 i (x.2-x.1).toNat=true)
  (hc:dH g0 t F 56 next.d (i+x.2-x.1) c n (st.step F) o d st' d' w e l) :
  dH g0 t F 99 (Goal.mk kind re k bO next).d i c n st o d st' d' w e l:=by
 have aH:=b6 g0 t F st o d he h0 h1
 rw[hs]at aH
 generalize st.step F=s1 at *
 have d4:decide (re.op=4)=false:=decide_eq_false (by omega)
 have d1:decide (re.op=1)=false:=decide_eq_false (by omega)
 have d2:decide (re.op=2)=false:=decide_eq_false (by omega)
 have d3:decide (re.op=3)=false:=decide_eq_false (by omega)
 have d5:decide (re.op=5)=false:=decide_eq_false (by omega)
 have d6:decide (re.op=6)=true:=decide_eq_true ho
 unfold cW at aH
 unfold dH cW fm
 simp only[i64,bV,iD,Vt,ay,hs]at aH
 try simp only[hs,ay]
 unfold dH cW fm at hc
 simp only[i64,bV,ay,hs]at hc
 have w1:IntKind.i64.wrap (re.n-1)=re.n-1:=bR _ (by omega)
 have aT:(re.n-1).toNat<c.length:=by omega
 have b1:0≤re.n-1:=by omega
 have b2:re.n-1<(c.length:Int):=by omega
 have q0:(0:Int)<((2:Nat):Int):=by decide
 have q1:(1:Int)<((2:Nat):Int):=by decide
 have wa:IntKind.i64.wrap (i+x.2)=i+x.2:=bR _ (by omega)
 have wb:IntKind.i64.wrap (i+x.2-x.1)=i+x.2-x.1:=bR _ (by omega)
 refine av Try.func99 rfl Try.ntmps99 Try.results99 rfl 1 130370302485407109521180524058200202307293977194619920040712988758680403184925606790312229919 (by simp) (by simp) ?_
 simp only[zX,simprocAttr,i64,bV,Goal.aN,iD,bD,d4,d1,d2,d3,d5,d6]
 refine au aH rfl rfl rfl rfl rfl rfl ?_
 simp only[zX,simprocAttr,i64,bV,iD,bD,Vs,d4,d1,d2,d3,d5,d6]
 simp only[zX,simprocAttr,i64,bV,iD,bD,ay,bd,aM,Vv,w1,b1,b2,aT,hg,q0,q1,hx,wa,wb,hl,gt_iff_lt]
 obtain⟨N,hN⟩:∃N:Nat,(N:Int)=x.2-x.1:=⟨(x.2-x.1).toNat,by omega⟩
 have P5:(x.2-x.1).toNat=N:=by omega
 rw[P5]at ry
 refine aY (fun m E S=>∃(j:Nat),m=N-j∧j≤N∧E 0=.rf 0 g0 0 0∧E 1=.d (Goal.mk kind re k bO next).d∧E 2=i64 i∧E 3=.d (bd c)∧E 4=i64 n∧E 11=.rf 1 0 0 0∧E 20=i64 x.1∧E 21=i64 x.2∧E 22=i64 (x.1+j)∧S=[⟨g0,true,6,[[.d (ay t),i64 F,i64 s1.steps,i64 o,i64 d,bV false]]⟩,uH,uN re]∧cO t x.1 i j=true)
  ⟨_,_,_,dt.refl,0,rfl,by omega,rfl,?_,rfl,rfl,rfl,rfl,rfl,rfl,?_,rfl,rfl⟩ ?_
 ·rw[Goal.aN];rfl
 ·simp [cu,i64]
 rintro m E S ⟨j,rfl,hj,kI,kP,h2,h3,h4,cq,gJ,tT,xf,rfl,Q8⟩
 rw[Goal.aN]at kP
 unfold uH uN
 rcases VX j N with Kp|iR
 ·have l0:x.1+(j:Int)<x.2:=by omega
  have l1:0≤x.1+(j:Int):=by omega
  have l2:x.1+(j:Int)<(t.length:Int):=by omega
  have l3:0≤i+(j:Int):=by omega
  have l4:i+(j:Int)<(t.length:Int):=by omega
  have g1:(t.map fun x=>[D.sc (.int .i64 x)])[(x.1+(j:Int)).toNat]?=some [D.sc (.int .i64 (eH t (x.1+j)))]:=by rw[VB,fD l1 l2];rfl
  have g2:(t.map fun x=>[D.sc (.int .i64 x)])[(i+(j:Int)).toNat]?=some [D.sc (.int .i64 (eH t (i+j)))]:=by rw[VB,fD l3 l4];rfl
  have m1:(x.1+(j:Int)).toNat<t.length:=by omega
  have m2:(i+(j:Int)).toNat<t.length:=by omega
  have wc:IntKind.i64.wrap (i+(x.1+(j:Int)))=i+(x.1+(j:Int)):=bR _ (by omega)
  have wd:IntKind.i64.wrap (i+(x.1+(j:Int))-x.1)=i+(j:Int):=by rw[bR _ (by omega)];omega
  have we:IntKind.i64.wrap (x.1+(j:Int)+1)=x.1+((j+1:Nat):Int):=by rw[bR _ (by omega)];omega
  simp only[zX,simprocAttr,i64,bV,iD,bD,ay,Vv,kI,kP,h2,h3,h4,cq,gJ,tT,xf,l0]
  refine an mix [] [] (by rfl) ?_
  by_cases hq:eH t (x.1+(j:Int))=eH t (i+(j:Int))
  ·have dq:decide (eH t (x.1+(j:Int))=eH t (i+(j:Int)))=true:=decide_eq_true hq
   have OU:decide (eH t (x.1+(j:Int))≠eH t (i+(j:Int)))=false:=decide_eq_false (by simpa using hq)
   simp only[zX,simprocAttr,i64,bV,iD,bD,ay,Vv,kI,kP,h2,h3,h4,cq,gJ,tT,xf,l1,l2,l3,l4,m1,m2,g1,g2,wc,wd,we,dq,OU,Vs]
   refine⟨N-(j+1),_,_,by omega,dt.refl,j+1,rfl,Kp,?_,?_,?_,?_,?_,?_,?_,?_,?_,rfl,by rw[vq,Q8,hq];simp⟩ <;> (try simp only[zU,Nat.reduceBEq,Nat.reduceShiftRight,Nat.reduceMod,Nat.reduceEqDiff,reduceIte])
   ·exact kI
   ·rw[Goal.aN];exact kP
   ·exact h2
   ·exact h3
   ·exact h4
   ·exact cq
   ·exact gJ
   ·exact tT
  ·have dq:decide (eH t (x.1+(j:Int))=eH t (i+(j:Int)))=false:=decide_eq_false hq
   have OU:decide (eH t (x.1+(j:Int))≠eH t (i+(j:Int)))=true:=decide_eq_true (by simpa using hq)
   have oP:cO t x.1 i N=false:=zu Kp hq
   rw[oP]at ry;cases ry
 ·have Hu:j=N:=by omega
  subst Hu
  have l0:¬x.1+(j:Int)<x.2:=by omega
  simp only[zX,simprocAttr,i64,bV,iD,bD,ay,Vv,kI,kP,h2,h3,h4,cq,gJ,tT,xf,l0,wa,wb]
  refine au hc rfl rfl rfl rfl rfl rfl ?_
  simp only[zX,simprocAttr,i64,bV,iD,bD,ay,cq]
  rfl
theorem Hr (ho:re.op=6) (he:st.empty=false) (h0:0≤st.steps) (h1:st.steps≤10000000000000) (hs:(st.step F).empty=false) {x:Int×Int} (ht:t.length≤1000000) (hi0:0≤i) (eK:i≤t.length) (n1:1≤re.n) (n2:re.n≤c.length) (n3:re.n≤1000000) (hg:c[(re.n-1).toNat]?=some x) (hx:¬x.1<0) (O9:¬x.2<x.1) (Ti:x.2≤t.length) (hl:¬t.length<i+x.2-x.1) (ry:cO t x.1 i (x.2-x.1).toNat=false) :
  dH g0 t F 99 (Goal.mk kind re k bO next).d i c n st o d (st.step F) d n 0 []:=by
 have aH:=b6 g0 t F st o d he h0 h1
 rw[hs]at aH
 generalize st.step F=s1 at *
 have d4:decide (re.op=4)=false:=decide_eq_false (by omega)
 have d1:decide (re.op=1)=false:=decide_eq_false (by omega)
 have d2:decide (re.op=2)=false:=decide_eq_false (by omega)
 have d3:decide (re.op=3)=false:=decide_eq_false (by omega)
 have d5:decide (re.op=5)=false:=decide_eq_false (by omega)
 have d6:decide (re.op=6)=true:=decide_eq_true ho
 unfold cW at aH
 unfold dH cW fm
 simp only[i64,bV,iD,Vt,ay,hs]at aH
 try simp only[hs,ay]
 have w1:IntKind.i64.wrap (re.n-1)=re.n-1:=bR _ (by omega)
 have aT:(re.n-1).toNat<c.length:=by omega
 have b1:0≤re.n-1:=by omega
 have b2:re.n-1<(c.length:Int):=by omega
 have q0:(0:Int)<((2:Nat):Int):=by decide
 have q1:(1:Int)<((2:Nat):Int):=by decide
 have wa:IntKind.i64.wrap (i+x.2)=i+x.2:=bR _ (by omega)
 have wb:IntKind.i64.wrap (i+x.2-x.1)=i+x.2-x.1:=bR _ (by omega)
 refine av Try.func99 rfl Try.ntmps99 Try.results99 rfl 1 130370302485407109521180524058200202307293977194619920040712988758680403184925606790312229919 (by simp) (by simp) ?_
 simp only[zX,simprocAttr,i64,bV,Goal.aN,iD,bD,d4,d1,d2,d3,d5,d6]
 refine au aH rfl rfl rfl rfl rfl rfl ?_
 simp only[zX,simprocAttr,i64,bV,iD,bD,Vs,d4,d1,d2,d3,d5,d6]
 simp only[zX,simprocAttr,i64,bV,iD,bD,ay,bd,aM,Vv,w1,b1,b2,aT,hg,q0,q1,hx,wa,wb,hl,gt_iff_lt]
 obtain⟨N,hN⟩:∃N:Nat,(N:Int)=x.2-x.1:=⟨(x.2-x.1).toNat,by omega⟩
 have P5:(x.2-x.1).toNat=N:=by omega
 rw[P5]at ry
 refine aY (fun m E S=>∃(j:Nat),m=N-j∧j≤N∧E 0=.rf 0 g0 0 0∧E 1=.d (Goal.mk kind re k bO next).d∧E 2=i64 i∧E 3=.d (bd c)∧E 4=i64 n∧E 11=.rf 1 0 0 0∧E 20=i64 x.1∧E 21=i64 x.2∧E 22=i64 (x.1+j)∧S=[⟨g0,true,6,[[.d (ay t),i64 F,i64 s1.steps,i64 o,i64 d,bV false]]⟩,uH,uN re]∧cO t x.1 i j=true)
  ⟨_,_,_,dt.refl,0,rfl,by omega,rfl,?_,rfl,rfl,rfl,rfl,rfl,rfl,?_,rfl,rfl⟩ ?_
 ·rw[Goal.aN];rfl
 ·simp [cu,i64]
 rintro m E S ⟨j,rfl,hj,kI,kP,h2,h3,h4,cq,gJ,tT,xf,rfl,Q8⟩
 rw[Goal.aN]at kP
 unfold uH uN
 rcases VX j N with Kp|iR
 ·have l0:x.1+(j:Int)<x.2:=by omega
  have l1:0≤x.1+(j:Int):=by omega
  have l2:x.1+(j:Int)<(t.length:Int):=by omega
  have l3:0≤i+(j:Int):=by omega
  have l4:i+(j:Int)<(t.length:Int):=by omega
  have g1:(t.map fun x=>[D.sc (.int .i64 x)])[(x.1+(j:Int)).toNat]?=some [D.sc (.int .i64 (eH t (x.1+j)))]:=by rw[VB,fD l1 l2];rfl
  have g2:(t.map fun x=>[D.sc (.int .i64 x)])[(i+(j:Int)).toNat]?=some [D.sc (.int .i64 (eH t (i+j)))]:=by rw[VB,fD l3 l4];rfl
  have m1:(x.1+(j:Int)).toNat<t.length:=by omega
  have m2:(i+(j:Int)).toNat<t.length:=by omega
  have wc:IntKind.i64.wrap (i+(x.1+(j:Int)))=i+(x.1+(j:Int)):=bR _ (by omega)
  have wd:IntKind.i64.wrap (i+(x.1+(j:Int))-x.1)=i+(j:Int):=by rw[bR _ (by omega)];omega
  have we:IntKind.i64.wrap (x.1+(j:Int)+1)=x.1+((j+1:Nat):Int):=by rw[bR _ (by omega)];omega
  simp only[zX,simprocAttr,i64,bV,iD,bD,ay,Vv,kI,kP,h2,h3,h4,cq,gJ,tT,xf,l0]
  refine an mix [] [] (by rfl) ?_
  by_cases hq:eH t (x.1+(j:Int))=eH t (i+(j:Int))
  ·have dq:decide (eH t (x.1+(j:Int))=eH t (i+(j:Int)))=true:=decide_eq_true hq
   have OU:decide (eH t (x.1+(j:Int))≠eH t (i+(j:Int)))=false:=decide_eq_false (by simpa using hq)
   simp only[zX,simprocAttr,i64,bV,iD,bD,ay,Vv,kI,kP,h2,h3,h4,cq,gJ,tT,xf,l1,l2,l3,l4,m1,m2,g1,g2,wc,wd,we,dq,OU,Vs]
   refine⟨N-(j+1),_,_,by omega,dt.refl,j+1,rfl,Kp,?_,?_,?_,?_,?_,?_,?_,?_,?_,rfl,by rw[vq,Q8,hq];simp⟩ <;> (try simp only[zU,Nat.reduceBEq,Nat.reduceShiftRight,Nat.reduceMod,Nat.reduceEqDiff,reduceIte])
   ·exact kI
   ·rw[Goal.aN];exact kP
   ·exact h2
   ·exact h3
   ·exact h4
   ·exact cq
   ·exact gJ
   ·exact tT
  ·have dq:decide (eH t (x.1+(j:Int))=eH t (i+(j:Int)))=false:=decide_eq_false hq
   have OU:decide (eH t (x.1+(j:Int))≠eH t (i+(j:Int)))=true:=decide_eq_true (by simpa using hq)
   have oP:cO t x.1 i N=false:=zu Kp hq
   simp only[zX,simprocAttr,i64,bV,iD,bD,ay,Vv,kI,kP,h2,h3,h4,cq,gJ,tT,xf,l1,l2,l3,l4,m1,m2,g1,g2,wc,wd,we,dq,OU,Vt,bd,VO]
 ·have Hu:j=N:=by omega
  subst Hu
  have l0:¬x.1+(j:Int)<x.2:=by omega
  rw[Q8]at ry;cases ry
end node
inductive vM (g0:Nat) (t:List Int) (F:Int) (next:Goal) (i:Int) (c:aq) (o:Int):List Re→aU→Int→Int→Int→aq→aU→Int→Int→Int→aq→Prop where
 |done {st:aU}{n d e:Int}{l:aq}:vM g0 t F next i c o [] st n d e l st d n e l
 |stop {kids:List Re}{st:aU}{n d e:Int}{l:aq} (h:n≤0∨st.empty=true):vM g0 t F next i c o kids st n d e l st d n e l
 |next {kid:Re}{kids:List Re}{st s1 st':aU}{n d e d1 w1 e1 d' w' e':Int}{l l1 l':aq} (hn:¬n≤0) (he:st.empty=false)
   (hc:dH g0 t F 56 (Goal.mk 0 kid 0 0 next).d i c n st (aO kids o) (aD kids o d) s1 d1 w1 e1 l1) (h:vM g0 t F next i c o kids s1 w1 d1 e1 l1 st' d' w' e' l'):vM g0 t F next i c o (kid::kids) st n d e l st' d' w' e' l'
theorem vM.inv {g0:Nat}{t:List Int}{F:Int}{next:Goal}{i:Int}{c:aq}{o:Int}{kid:Re}{kids:List Re}{st st':aU}{n d e d' w' e':Int}{l l':aq} (h:vM g0 t F next i c o (kid::kids) st n d e l st' d' w' e' l') :
  ((n≤0∨st.empty=true)∧st'=st∧d'=d∧w'=n∧e'=e∧l'=l)∨(¬n≤0∧st.empty=false∧∃s1 d1 w1 e1 l1,dH g0 t F 56 (Goal.mk 0 kid 0 0 next).d i c n st (aO kids o) (aD kids o d) s1 d1 w1 e1 l1∧vM g0 t F next i c o kids s1 w1 d1 e1 l1 st' d' w' e' l'):=by
 cases h with
 |stop h=>exact .inl ⟨h,rfl,rfl,rfl,rfl,rfl⟩
 |next hn he hc h=>exact .inr ⟨hn,he,_,_,_,_,_,hc,h⟩
theorem vM.N0 {g0:Nat}{t:List Int}{F:Int}{next:Goal}{i:Int}{c:aq}{o:Int}{st st':aU}{n d e d' w' e':Int}{l l':aq} (h:vM g0 t F next i c o [] st n d e l st' d' w' e' l'):st'=st∧d'=d∧w'=n∧e'=e∧l'=l:=by
 cases h <;> exact⟨rfl,rfl,rfl,rfl,rfl⟩
def Tk (X:V) (e:Int):VL.Obj:=⟨0,true,2,[[i64 e,X]]⟩
section node
variable {g0:Nat}{t:List Int}{F:Int}{kind:Int}{re:Re}{k bO:Int}{next:Goal}{i:Int}{c:aq}{n:Int}{st st' s2:aU}{o d d' d2 w e wl el:Int}{l ll:aq}
theorem LA (ho:re.op=3) (he:st.empty=false) (h0:0≤st.steps) (h1:st.steps≤10000000000000) (hs:(st.step F).empty=false) (cJ:re.kids.length≤1000000000) (D9:0≤o) (nh:o≤10000000000000) (halt:vM g0 t F next i c o re.kids (st.step F) n d 0 [] st' d' w e l) :
  dH g0 t F 99 (Goal.mk kind re k bO next).d i c n st o d st' d' w e l:=by
 have aH:=b6 g0 t F st o d he h0 h1
 rw[hs]at aH
 generalize st.step F=s1 at *
 have d4:decide (re.op=4)=false:=decide_eq_false (by omega)
 have d1:decide (re.op=1)=false:=decide_eq_false (by omega)
 have d2:decide (re.op=2)=false:=decide_eq_false (by omega)
 have d3:decide (re.op=3)=true:=decide_eq_true ho
 unfold cW at aH
 unfold dH cW fm
 simp only[i64,bV,iD,Vt,ay,hs]at aH
 try simp only[hs,ay]
 refine av Try.func99 rfl Try.ntmps99 Try.results99 rfl 1 130370302485407109521180524058200202307293977194619920040712988758680403184925606790312229919 (by simp) (by simp) ?_
 simp only[zX,simprocAttr,i64,bV,Goal.aN,iD,bD,d4,d1,d2,d3]
 refine au aH rfl rfl rfl rfl rfl rfl ?_
 simp only[zX,simprocAttr,i64,bV,iD,bD,Vs,d4,d1,d2,d3]
 refine aY (fun m E S=>∃(j:Nat) (sj:aU) (nj dj ej:Int) (lj:aq) (X:V),m=re.kids.length-j∧j≤re.kids.length∧E 0=.rf 0 g0 0 0∧E 1=.d (Goal.mk kind re k bO next).d∧E 2=i64 i∧E 3=.d (bd c)∧E 4=i64 nj∧E 11=.rf 1 0 0 0∧E 12=.rf 2 0 0 0∧E 17=.rf 3 0 0 0∧E 18=i64 j ∧
   S=[⟨g0,true,6,[[.d (ay t),i64 F,i64 sj.steps,i64 o,i64 dj,bV sj.empty]]⟩,uH,uN re,Tk X ej]∧(X=.d (bd lj)∨X=.fu []∧lj=[])∧vM g0 t F next i c o (re.kids.drop j) sj nj dj ej lj st' d' w e l)
  ⟨_,_,_,dt.refl,0,s1,n,d,0,[],.fu [],rfl,by omega,rfl,?_,rfl,rfl,rfl,rfl,rfl,rfl,rfl,?_,.inr ⟨rfl,rfl⟩,halt⟩ ?_
 ·rw[Goal.aN];rfl
 ·rw[hs];rfl
 clear halt
 rintro m E S ⟨j,sj,nj,dj,ej,lj,X,rfl,hj,kI,kP,h2,h3,h4,cq,bW,wR,fv,rfl,hX,halt⟩
 rw[Goal.aN]at kP
 unfold uH uN Tk
 have FW:(0:Int)≤(j:Int):=by omega
 rcases VX j re.kids.length with aT|iR
 ·have cn:(j:Int)<(re.kids.length:Int):=by omega
  have wj:IntKind.i64.wrap ((j:Int)+1)=(j:Int)+1:=bR _ (by omega)
  obtain⟨kid,hx⟩:∃x,re.kids[j]?=some x:=⟨_,Vu aT⟩
  rw[zL hx]at halt
  rcases halt.inv with ⟨vy,hz⟩|⟨hn,KH,s2,d1,w1,e1,l1,D8,MV⟩
  ·clear halt
   have dG:(decide (nj>0)=false)∨(decide (nj>0)=true∧sj.empty=true):=by
    rcases vy with h|h
    ·exact .inl (decide_eq_false (by omega))
    ·by_cases hn:nj>0
     ·exact .inr ⟨decide_eq_true hn,h⟩
     ·exact .inl (decide_eq_false hn)
   clear vy
   rcases dG with dn|⟨dn,KH⟩
   ·obtain⟨rfl,rfl,rfl,rfl,rfl⟩:=hz
    rcases hX with rfl|⟨rfl,rfl⟩
    ·simp only[zX,simprocAttr,i64,bV,iD,bD,ay,Vv,kI,kP,h2,h3,h4,cq,bW,wR,fv,aT,cn,dn]
     refine an mix [3] [] (by rfl) ?_
     simp only[zX,simprocAttr,i64,bV,iD,bD,ay,Vv,h4,cq,wR]
     try rfl
    ·simp only[zX,simprocAttr,i64,bV,iD,bD,ay,Vv,kI,kP,h2,h3,h4,cq,bW,wR,fv,aT,cn,dn]
     refine an mix [3] [] (by rfl) ?_
     simp only[zX,simprocAttr,i64,bV,iD,bD,ay,Vv,h4,cq,wR]
     try rfl
   ·obtain⟨rfl,rfl,rfl,rfl,rfl⟩:=hz
    rcases hX with rfl|⟨rfl,rfl⟩
    ·simp only[zX,simprocAttr,i64,bV,iD,bD,ay,Vv,kI,kP,h2,h3,h4,cq,bW,wR,fv,aT,cn,dn,KH,Vs]
     refine an mix [3] [] (by rfl) ?_
     simp only[zX,simprocAttr,i64,bV,iD,bD,ay,Vv,h4,cq,wR]
     try rfl
    ·simp only[zX,simprocAttr,i64,bV,iD,bD,ay,Vv,kI,kP,h2,h3,h4,cq,bW,wR,fv,aT,cn,dn,KH,Vs]
     refine an mix [3] [] (by rfl) ?_
     simp only[zX,simprocAttr,i64,bV,iD,bD,ay,Vv,h4,cq,wR]
     try rfl
  ·have dn:decide (nj>0)=true:=decide_eq_true (by omega)
   clear halt
   by_cases hm:j+1<re.kids.length
   ·have nu:((j:Int)+1)<(re.kids.length:Int):=by omega
    have gf:re.kids.drop (j+1)≠[]:=by intro h;have:=congrArg List.length h;simp at this;omega
    rw[show aO (re.kids.drop (j+1)) o=o+1 from if_neg gf,show aD (re.kids.drop (j+1)) o dj=max dj (o+1) from if_neg gf]at D8
    have EY:=Bi g0 t F sj o dj D9 nh
    have wo:IntKind.i64.wrap (o+1-1)=o:=by rw[bR _ (by omega)];omega
    unfold cW at EY
    unfold dH cW fm at D8
    simp only[i64,bV,iD,bD,ay,KH,Goal.aN]at EY D8
    simp only[zX,simprocAttr,i64,bV,iD,bD,ay,Vv,kI,kP,h2,h3,h4,cq,bW,wR,fv,aT,cn,dn,KH,Vt,wj,decide_eq_true nu]
    refine au EY rfl rfl rfl rfl rfl rfl ?_
    simp only[zX,simprocAttr,i64,bV,iD,bD,ay,Vv,kI,kP,h2,h3,h4,cq,bW,wR,fv]
    refine aK bL.aV ?_
    refine an mix [15,20] [(11,[4],[4])] (by rfl) ?_
    simp only[zX,simprocAttr,i64,bV,iD,bD,ay,hole,Vv,kI,kP,h2,h3,h4,cq,bW,wR,fv,aT,cn,FW,VR,hx,aw kid,Re.ae kid]
    refine bn (aP [4] (by simp [bk,bA,aZ.go,aZ,bQ]) (au D8 rfl rfl rfl rfl rfl rfl ⟨rfl,rfl⟩)) ?_
    simp only[zX,simprocAttr,i64,bV,iD,bD,ay,Vv,kI,kP,h2,h3,h4,cq,bW,wR,fv,wj,wo]
    refine⟨re.kids.length-(j+1),_,_,by omega,dt.cut 4 (by omega) rfl rfl [0,1,2,3,4,11,12,17,18] ?_,j+1,s2,_,_,_,_,_,rfl,aT,?_,?_,?_,?_,?_,?_,?_,?_,?_,rfl,.inl rfl,MV⟩ <;> (try simp only[zU,Nat.reduceBEq,Nat.reduceShiftRight,Nat.reduceMod,Nat.reduceEqDiff,reduceIte])
    ·simp [bg,fP,cu,ar,kI,kP,h2,h3,h4,cq,bW,wR,fv,i64]
    ·exact kI
    ·rw[Goal.aN];exact kP
    ·exact h2
    ·exact h3
    ·exact cq
    ·exact bW
    ·exact wR
    ·rfl
   ·have nu:¬((j:Int)+1)<(re.kids.length:Int):=by omega
    have gf:re.kids.drop (j+1)=[]:=List.drop_eq_nil_of_le (by omega)
    rw[show aO (re.kids.drop (j+1)) o=o from if_pos gf,show aD (re.kids.drop (j+1)) o dj=dj from if_pos gf]at D8
    unfold dH cW fm at D8
    simp only[i64,bV,iD,bD,ay,KH,Goal.aN]at D8
    simp only[zX,simprocAttr,i64,bV,iD,bD,ay,Vv,kI,kP,h2,h3,h4,cq,bW,wR,fv,aT,cn,dn,KH,Vt,wj,decide_eq_false nu]
    refine aK bL.aV ?_
    refine an mix [15,20] [(11,[4],[4])] (by rfl) ?_
    simp only[zX,simprocAttr,i64,bV,iD,bD,ay,hole,Vv,kI,kP,h2,h3,h4,cq,bW,wR,fv,aT,cn,FW,VR,hx,aw kid,Re.ae kid]
    refine bn (aP [4] (by simp [bk,bA,aZ.go,aZ,bQ]) (au D8 rfl rfl rfl rfl rfl rfl ⟨rfl,rfl⟩)) ?_
    simp only[zX,simprocAttr,i64,bV,iD,bD,ay,Vv,kI,kP,h2,h3,h4,cq,bW,wR,fv,wj,FW]
    refine⟨re.kids.length-(j+1),_,_,by omega,dt.cut 4 (by omega) rfl rfl [0,1,2,3,4,11,12,17,18] ?_,j+1,s2,_,_,_,_,_,rfl,aT,?_,?_,?_,?_,?_,?_,?_,?_,?_,rfl,.inl rfl,MV⟩ <;> (try simp only[zU,Nat.reduceBEq,Nat.reduceShiftRight,Nat.reduceMod,Nat.reduceEqDiff,reduceIte])
    ·simp [bg,fP,cu,ar,kI,kP,h2,h3,h4,cq,bW,wR,fv,i64]
    ·exact kI
    ·rw[Goal.aN];exact kP
    ·exact h2
    ·exact h3
    ·exact cq
    ·exact bW
    ·exact wR
    ·rfl
 ·have Hu:j=re.kids.length:=by omega
  subst Hu
  rw[List.drop_length]at halt
  obtain⟨rfl,rfl,rfl,rfl,rfl⟩:=halt.N0
  clear halt
  rcases hX with rfl|⟨rfl,rfl⟩
  ·simp only[zX,simprocAttr,i64,bV,iD,bD,ay,Vv,kI,kP,h2,h3,h4,cq,bW,wR,fv,Int.lt_irrefl]
   refine an mix [3] [] (by rfl) ?_
   simp only[zX,simprocAttr,i64,bV,iD,bD,ay,Vv,h4,cq,wR]
   try rfl
  ·simp only[zX,simprocAttr,i64,bV,iD,bD,ay,Vv,kI,kP,h2,h3,h4,cq,bW,wR,fv,Int.lt_irrefl]
   refine an mix [3] [] (by rfl) ?_
   simp only[zX,simprocAttr,i64,bV,iD,bD,ay,Vv,h4,cq,wR]
   try rfl
end node
end Go.Proofs.Ytllagoeijcjpiaa
