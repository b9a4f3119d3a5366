/- A part of the proof (H11). -/
import Derived.Test.YtllagoeijcjpiaaBD25
set_option linter.unusedSimpArgs false
set_option linter.unusedVariables false
set_option maxRecDepth 100000
set_option maxHeartbeats 80000000
namespace Go.Proofs.Ytllagoeijcjpiaa
open Go.VL
def uN (re:Re):VL.Obj:=⟨0,true,8,[[i64 re.op,.d (.sl (re.set.map aM)),.d (.sl (re.kids.map Re.cells)),i64 re.mn,i64 re.mx,i64 re.mode,i64 re.n,bV re.neg]]⟩
def uH:VL.Obj:=⟨0,true,2,[[i64 0,.fu []]]⟩
theorem De {l:List (Int×Int)}{j:Nat}{p:Int×Int}{x:Int} (h:l[j]?=some p):oQ (l.drop j) x=((decide (p.1≤x)&&decide (x≤p.2))||oQ (l.drop (j+1)) x):=by
 obtain⟨h1,h2⟩:=List.getElem?_eq_some_iff.1 h
 rw[← h2,List.drop_eq_getElem_cons h1]
 rfl
theorem zL {α:Type}{l:List α}{j:Nat}{x:α} (h:l[j]?=some x):l.drop j=x::l.drop (j+1):=by
 obtain⟨h1,h2⟩:=List.getElem?_eq_some_iff.1 h
 rw[← h2];exact List.drop_eq_getElem_cons h1
section node
variable {g0:Nat}{t:List Int}{F:Int}{kind:Int}{re:Re}{k bO:Int}{next:Goal}{i:Int}{c:aq}{n:Int}{st st' s2:aU}{o d d' d2 w e wl el:Int}{l ll:aq}
theorem HU (ho:re.op=1) (he:st.empty=false) (h0:0≤st.steps) (h1:st.steps≤10000000000000) (hs:(st.step F).empty=false) (ht:t.length≤1000000) (hq:¬i<t.length) :
  dH g0 t F 99 (Goal.mk kind re k bO next).d i c n st o d (st.step F) d n 0 []:=by
 have aH:=b6 g0 t F st o d he h0 h1
 rw[hs]at aH
 generalize st.step F=s1 at *
 have d4:decide (re.op=4)=false:=decide_eq_false (by omega)
 have d1:decide (re.op=1)=true:=decide_eq_true ho
 unfold cW at aH
 unfold dH cW fm
 simp only[i64,bV,iD,Vt,ay,hs]at aH
 try simp only[hs,ay]
 refine av Try.func99 rfl Try.ntmps99 Try.results99 rfl 1 130370302485407109521180524058200202307293977194619920040712988758680403184925606790312229919 (by simp) (by simp) ?_
 simp only[zX,simprocAttr,i64,bV,Goal.aN,iD,bD,d4,d1]
 refine au aH rfl rfl rfl rfl rfl rfl ?_
 simp only[zX,simprocAttr,i64,bV,iD,bD,Vs,d4,d1]
 simp only[zX,simprocAttr,i64,bV,iD,bD,ay,Vv,decide_eq_true (show i ≥ (t.length:Int) by omega),bd,VO]
theorem K5 (ho:re.op=1) (he:st.empty=false) (h0:0≤st.steps) (h1:st.steps≤10000000000000) (hs:(st.step F).empty=false) (ht:t.length≤1000000) (cC:re.set.length≤1000000000) (hi0:0≤i) (hq:i<t.length) (hb:oQ re.set (eH t i)=true)
  (hc:dH g0 t F 56 next.d (i+1) c n (st.step F) o d st' d' w e l) :
  dH g0 t F 99 (Goal.mk kind re k bO next).d i c n st o d st' d' w e l:=by
 have aH:=b6 g0 t F st o d he h0 h1
 rw[hs]at aH
 generalize st.step F=s1 at *
 have d4:decide (re.op=4)=false:=decide_eq_false (by omega)
 have d1:decide (re.op=1)=true:=decide_eq_true ho
 unfold cW at aH
 unfold dH cW fm
 simp only[i64,bV,iD,Vt,ay,hs]at aH
 try simp only[hs,ay]
 unfold dH cW fm at hc
 simp only[i64,bV,ay,hs]at hc
 have wi:IntKind.i64.wrap (i+1)=i+1:=bR _ (by omega)
 have oO:¬(i ≥ (t.length:Int)):=by omega
 have RZ:=fD hi0 hq
 refine av Try.func99 rfl Try.ntmps99 Try.results99 rfl 1 130370302485407109521180524058200202307293977194619920040712988758680403184925606790312229919 (by simp) (by simp) ?_
 simp only[zX,simprocAttr,i64,bV,Goal.aN,iD,bD,d4,d1]
 refine au aH rfl rfl rfl rfl rfl rfl ?_
 simp only[zX,simprocAttr,i64,bV,iD,bD,Vs,d4,d1]
 simp only[zX,simprocAttr,i64,bV,iD,bD,ay,Vv,decide_eq_false oO]
 refine aY (fun m E S=>∃j:Nat,m=re.set.length-j∧j≤re.set.length∧E 0=.rf 0 g0 0 0∧E 1=.d (Goal.mk kind re k bO next).d∧E 2=i64 i∧E 3=.d (bd c)∧E 4=i64 n∧E 11=.rf 1 0 0 0∧E 12=.rf 2 0 0 0∧E 14=i64 j∧S=[⟨g0,true,6,[[.d (ay t),i64 F,i64 s1.steps,i64 o,i64 d,bV false]]⟩,uH,uN re]∧oQ (re.set.drop j) (eH t i)=true)
  ⟨_,_,_,dt.refl,0,rfl,by omega,rfl,by rw[Goal.aN];rfl,rfl,rfl,rfl,rfl,rfl,rfl,rfl,hb⟩ ?_
 rintro m E S ⟨j,rfl,hj,kI,kP,h2,h3,h4,cq,bW,dh,rfl,D7⟩
 rw[Goal.aN]at kP
 rcases VX j re.set.length with aT|iR
 ·obtain⟨p,hp⟩:∃p,re.set[j]?=some p:=⟨_,Vu aT⟩
  have cn:(j:Int)<(re.set.length:Int):=by omega
  have FW:(0:Int)≤(j:Int):=by omega
  have Bn:(re.set.map aM)[j]?=some [iD p.1,iD p.2]:=by rw[VB,hp];rfl
  have O0:(t.map fun x=>[D.sc (.int .i64 x)])[i.toNat]?=some [D.sc (.int .i64 (eH t i))]:=by rw[VB,RZ];rfl
  have wj:IntKind.i64.wrap ((j:Int)+1)=(j:Int)+1:=bR _ (by omega)
  have hti:i.toNat<t.length:=by omega
  simp only[iD]at Bn
  rw[De hp]at D7
  unfold uH uN
  by_cases q1:p.1≤eH t i
  ·by_cases q2:eH t i≤p.2
   ·simp only[zX,simprocAttr,i64,bV,iD,bD,ay,Vv,kI,kP,h2,h3,h4,cq,bW,dh,aT,cn]
    refine an mix [] [] (by rfl) ?_
    simp only[zX,simprocAttr,i64,bV,iD,bD,ay,Vv,kI,kP,h2,h3,h4,cq,bW,dh,aT,cn,FW,hi0,hq,hti,VR,Bn,O0,q1,q2,wi]
    refine au hc rfl rfl rfl rfl rfl rfl ?_
    simp only[zX,simprocAttr,i64,bV,iD,bD,cq]
   ·rw[decide_eq_false q2,Bool.and_false,VM]at D7
    simp only[zX,simprocAttr,i64,bV,iD,bD,ay,Vv,kI,kP,h2,h3,h4,cq,bW,dh,aT,cn]
    refine an mix [] [] (by rfl) ?_
    simp only[zX,simprocAttr,i64,bV,iD,bD,ay,Vv,kI,kP,h2,h3,h4,cq,bW,dh,aT,cn,FW,hi0,hq,hti,VR,Bn,O0,q1,q2,wj]
    refine⟨re.set.length-(j+1),_,_,by omega,dt.refl,j+1,rfl,aT,?_,?_,?_,?_,?_,?_,?_,?_,rfl,D7⟩ <;> (try simp only[zU,Nat.reduceBEq,Nat.reduceShiftRight,Nat.reduceMod,Nat.reduceEqDiff,reduceIte])
    ·exact kI
    ·rw[Goal.aN];exact kP
    ·exact h2
    ·exact h3
    ·exact h4
    ·exact cq
    ·exact bW
    ·rfl
  ·rw[decide_eq_false q1,Bool.false_and,VM]at D7
   simp only[zX,simprocAttr,i64,bV,iD,bD,ay,Vv,kI,kP,h2,h3,h4,cq,bW,dh,aT,cn]
   refine an mix [] [] (by rfl) ?_
   simp only[zX,simprocAttr,i64,bV,iD,bD,ay,Vv,kI,kP,h2,h3,h4,cq,bW,dh,aT,cn,FW,hi0,hq,hti,VR,Bn,O0,q1,wj]
   refine⟨re.set.length-(j+1),_,_,by omega,dt.refl,j+1,rfl,aT,?_,?_,?_,?_,?_,?_,?_,?_,rfl,D7⟩ <;> (try simp only[zU,Nat.reduceBEq,Nat.reduceShiftRight,Nat.reduceMod,Nat.reduceEqDiff,reduceIte])
   ·exact kI
   ·rw[Goal.aN];exact kP
   ·exact h2
   ·exact h3
   ·exact h4
   ·exact cq
   ·exact bW
   ·rfl
 ·have Hu:j=re.set.length:=by omega
  subst Hu
  rw[List.drop_length]at D7
  cases D7
theorem Kv (ho:re.op=1) (he:st.empty=false) (h0:0≤st.steps) (h1:st.steps≤10000000000000) (hs:(st.step F).empty=false) (ht:t.length≤1000000) (cC:re.set.length≤1000000000) (hi0:0≤i) (hq:i<t.length) (hb:oQ re.set (eH t i)=false) :
  dH g0 t F 99 (Goal.mk kind re k bO next).d i c n st o d (st.step F) d n 0 []:=by
 have aH:=b6 g0 t F st o d he h0 h1
 rw[hs]at aH
 generalize st.step F=s1 at *
 have d4:decide (re.op=4)=false:=decide_eq_false (by omega)
 have d1:decide (re.op=1)=true:=decide_eq_true ho
 unfold cW at aH
 unfold dH cW fm
 simp only[i64,bV,iD,Vt,ay,hs]at aH
 try simp only[hs,ay]
 have oO:¬(i ≥ (t.length:Int)):=by omega
 have RZ:=fD hi0 hq
 refine av Try.func99 rfl Try.ntmps99 Try.results99 rfl 1 130370302485407109521180524058200202307293977194619920040712988758680403184925606790312229919 (by simp) (by simp) ?_
 simp only[zX,simprocAttr,i64,bV,Goal.aN,iD,bD,d4,d1]
 refine au aH rfl rfl rfl rfl rfl rfl ?_
 simp only[zX,simprocAttr,i64,bV,iD,bD,Vs,d4,d1]
 simp only[zX,simprocAttr,i64,bV,iD,bD,ay,Vv,decide_eq_false oO]
 refine aY (fun m E S=>∃j:Nat,m=re.set.length-j∧j≤re.set.length∧E 0=.rf 0 g0 0 0∧E 1=.d (Goal.mk kind re k bO next).d∧E 2=i64 i∧E 3=.d (bd c)∧E 4=i64 n∧E 11=.rf 1 0 0 0∧E 12=.rf 2 0 0 0∧E 14=i64 j∧S=[⟨g0,true,6,[[.d (ay t),i64 F,i64 s1.steps,i64 o,i64 d,bV false]]⟩,uH,uN re]∧oQ (re.set.drop j) (eH t i)=false)
  ⟨_,_,_,dt.refl,0,rfl,by omega,rfl,by rw[Goal.aN];rfl,rfl,rfl,rfl,rfl,rfl,rfl,rfl,hb⟩ ?_
 rintro m E S ⟨j,rfl,hj,kI,kP,h2,h3,h4,cq,bW,dh,rfl,D7⟩
 rw[Goal.aN]at kP
 rcases VX j re.set.length with aT|iR
 ·obtain⟨p,hp⟩:∃p,re.set[j]?=some p:=⟨_,Vu aT⟩
  have cn:(j:Int)<(re.set.length:Int):=by omega
  have FW:(0:Int)≤(j:Int):=by omega
  have Bn:(re.set.map aM)[j]?=some [iD p.1,iD p.2]:=by rw[VB,hp];rfl
  have O0:(t.map fun x=>[D.sc (.int .i64 x)])[i.toNat]?=some [D.sc (.int .i64 (eH t i))]:=by rw[VB,RZ];rfl
  have wj:IntKind.i64.wrap ((j:Int)+1)=(j:Int)+1:=bR _ (by omega)
  have hti:i.toNat<t.length:=by omega
  simp only[iD]at Bn
  rw[De hp]at D7
  unfold uH uN
  by_cases q1:p.1≤eH t i
  ·by_cases q2:eH t i≤p.2
   ·rw[decide_eq_true q1,decide_eq_true q2]at D7;cases D7
   ·rw[decide_eq_false q2,Bool.and_false,VM]at D7
    simp only[zX,simprocAttr,i64,bV,iD,bD,ay,Vv,kI,kP,h2,h3,h4,cq,bW,dh,aT,cn]
    refine an mix [] [] (by rfl) ?_
    simp only[zX,simprocAttr,i64,bV,iD,bD,ay,Vv,kI,kP,h2,h3,h4,cq,bW,dh,aT,cn,FW,hi0,hq,hti,VR,Bn,O0,q1,q2,wj]
    refine⟨re.set.length-(j+1),_,_,by omega,dt.refl,j+1,rfl,aT,?_,?_,?_,?_,?_,?_,?_,?_,rfl,D7⟩ <;> (try simp only[zU,Nat.reduceBEq,Nat.reduceShiftRight,Nat.reduceMod,Nat.reduceEqDiff,reduceIte])
    ·exact kI
    ·rw[Goal.aN];exact kP
    ·exact h2
    ·exact h3
    ·exact h4
    ·exact cq
    ·exact bW
    ·rfl
  ·rw[decide_eq_false q1,Bool.false_and,VM]at D7
   simp only[zX,simprocAttr,i64,bV,iD,bD,ay,Vv,kI,kP,h2,h3,h4,cq,bW,dh,aT,cn]
   refine an mix [] [] (by rfl) ?_
   simp only[zX,simprocAttr,i64,bV,iD,bD,ay,Vv,kI,kP,h2,h3,h4,cq,bW,dh,aT,cn,FW,hi0,hq,hti,VR,Bn,O0,q1,wj]
   refine⟨re.set.length-(j+1),_,_,by omega,dt.refl,j+1,rfl,aT,?_,?_,?_,?_,?_,?_,?_,?_,rfl,D7⟩ <;> (try simp only[zU,Nat.reduceBEq,Nat.reduceShiftRight,Nat.reduceMod,Nat.reduceEqDiff,reduceIte])
   ·exact kI
   ·rw[Goal.aN];exact kP
   ·exact h2
   ·exact h3
   ·exact h4
   ·exact cq
   ·exact bW
   ·rfl
 ·have Hu:j=re.set.length:=by omega
  subst Hu
  rw[List.drop_length]at D7
  unfold uH uN
  simp only[zX,simprocAttr,i64,bV,iD,bD,ay,Vv,kI,kP,h2,h3,h4,cq,bW,dh,Int.lt_irrefl,bd,VO]
end node
end Go.Proofs.Ytllagoeijcjpiaa
