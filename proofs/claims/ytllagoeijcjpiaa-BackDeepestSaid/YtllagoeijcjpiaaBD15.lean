/- A part of the proof (F34 F35 F36). -/
import Derived.Test.YtllagoeijcjpiaaBD2
import Derived.Test.YtllagoeijcjpiaaBD3
import Derived.Test.YtllagoeijcjpiaaBD4
import Derived.Test.YtllagoeijcjpiaaBD14
set_option linter.unusedSimpArgs false
set_option linter.unusedVariables false
set_option maxRecDepth 100000
set_option maxHeartbeats 80000000
set_option linter.unusedSimpArgs false
set_option linter.unusedVariables false
namespace Go.Proofs.Ytllagoeijcjpiaa
open Go.VL Go.Proofs.Try
def da (op:Int):Int×Int :=
 if op=2∨op=3 then (2,-1) else if op=4∨op=5∨op=7∨op=8∨op=9 then (1,1) else if op=10 then (2,2) else (0,0)
theorem E7 (op:Int):bI prog 157 [i64 op] (.tu [i64 (da op).1,i64 (da op).2]):=by
 have dG:op=2∨op=3∨op=4∨op=5∨op=7∨op=8∨op=9∨op=10∨(¬op=2∧¬op=3∧¬op=4∧¬op=5∧¬op=7∧¬op=8∧¬op=9∧¬op=10):=by omega
 rcases dG with p|p|p|p|p|p|p|p|⟨p1,p2,p3,p4,p5,p6,p7,p8⟩
 all_goals
  first
   |(rw[p]
     refine av func157 rfl ntmps157 results157 rfl 0 317 (by simp) (by simp) ?_
     simp only[zW,simprocAttr,i64]
     all_goals first|exact⟨rfl,rfl⟩|exact⟨rfl,trivial⟩|rfl|trivial|(rw[aw];rfl))
   |(rw[show da op=(0,0) by simp [da,p1,p2,p3,p4,p5,p6,p7,p8]]
     refine av func157 rfl ntmps157 results157 rfl 0 317 (by simp) (by simp) ?_
     simp only[zW,simprocAttr,i64,p1,p2,p3,p4,p5,p6,p7,p8]
     all_goals first|exact⟨rfl,rfl⟩|exact⟨rfl,trivial⟩|rfl|trivial|(rw[aw];rfl))
def oL (top:Int):Int→List (Int×Int)→Bool
 |_,[]=>true
 |p,s::l=>decide (0≤s.1∧s.1≤s.2∧s.2≤top∧p+1<s.1)&&oL top s.2 l
def gV (l:List (Int×Int)) (top:Int):Bool:=decide (l.length≤64)&&oL top (-2) l
def jC (l:List (Int×Int)):Nat→Int
 |0=>-2
 |i+1=>(l[i]?.map (·.2)).getD 0
theorem CL (l:List (Int×Int)) (hl:l.length≤1000000000) (top:Int) (ht:top≤1114111):bI prog 158 [.d (.sl (l.map aM)),i64 top] (bV (gV l top)):=by
 refine av func158 rfl ntmps158 results158 rfl 0 51 (by simp) (by simp) ?_
 by_cases Pp:(64:Int)<l.length
 ·simp only[zX,simprocAttr,i64,Pp]
  have:¬l.length≤64:=by omega
  simp [gV,bV,this]
 have NI:l.length≤64:=by omega
 have hR:gV l top=oL top (-2) l:=by simp [gV,NI]
 rw[hR]
 simp only[zX,simprocAttr,i64,Pp]
 refine aY (fun n e s=>∃i:Nat,n=l.length-i∧i≤l.length∧e 0=.d (.sl (l.map aM))∧e 1=i64 top∧e 5=i64 i∧s=[]∧oL top (-2) l=oL top (jC l i) (l.drop i)∧(0<i→0≤jC l i∧jC l i≤top))
  ⟨_,_,_,dt.refl,0,rfl,by omega,rfl,rfl,rfl,rfl,rfl,fun h=>absurd h (by omega)⟩ ?_
 rintro n e s ⟨i,rfl,hi,h0,h1,h5,rfl,eD,LH⟩
 rcases VX i l.length with aT|iR
 ·obtain⟨k,hk⟩:∃k,l[i]?=some k:=⟨_,Vu aT⟩
  have hd:l.drop i=k::l.drop (i+1):=by
   rw[List.drop_eq_getElem_cons aT]
   rw[Vu aT]at hk
   simp only[Option.some.injEq]at hk
   rw[hk]
  rw[hd]at eD
  simp only[oL]at eD
  have Fh:jC l (i+1)=k.2:=by simp [jC,hk]
  simp only[zX,simprocAttr,i64,h0,h1,h5,aT]
  refine an mix [] [] (by rfl) ?_
  cases i with
  |zero =>
   have eD:oL top (-2) l=(decide (0≤k.1∧k.1≤k.2∧k.2≤top∧-2+1<k.1)&&oL top k.2 (l.drop (0+1))):=eD
   simp only[zX,simprocAttr,i64,h0,h1,h5,hk,aM,iD,VG]
   repeat' (first
 |(with_reducible refine And.intro (by first|omega|exact⟨by omega,by omega⟩|(simp;done)) ?_)
 |(with_reducible refine jz (fun hc=>?_) (fun hc=>?_) <;> simp only[zX,simprocAttr,i64,h0,h1,h5,hk,aM,iD,VG,hc])
 |(with_reducible refine dX (fun hc=>?_) (fun hc=>?_) <;> simp only[zX,simprocAttr,i64,h0,h1,h5,hk,aM,iD,VG,hc])
 |(with_reducible refine dW (fun hc=>?_) (fun hc=>?_) <;> simp only[zX,simprocAttr,i64,h0,h1,h5,hk,aM,iD,VG,hc])
 |(with_reducible refine dr (fun hc=>?_) (fun hc=>?_) <;> simp only[zX,simprocAttr,i64,h0,h1,h5,hk,aM,iD,VG,hc])
 |(with_reducible refine dp (fun hc=>?_) (fun hc=>?_) <;> simp only[zX,simprocAttr,i64,h0,h1,h5,hk,aM,iD,VG,hc])
 |(with_reducible refine gr (fun hc=>?_) (fun hc=>?_) <;> simp only[zX,simprocAttr,i64,h0,h1,h5,hk,aM,iD,VG,hc])
 |(with_reducible refine dS (fun hc=>?_) (fun hc=>?_) <;> simp only[zX,simprocAttr,i64,h0,h1,h5,hk,aM,iD,VG,hc]))
   any_goals (refine congrArg bV (Eq.symm ?_);rw[eD,show decide (0≤k.1∧k.1≤k.2∧k.2≤top∧-2+1<k.1)=false from decide_eq_false (by omega)];rfl)
   refine⟨l.length-1,_,_,by omega,dt.refl,1,rfl,aT,?_,?_,?_,rfl,?_,?_⟩ <;> (try simp only[zU,Nat.reduceBEq,Nat.reduceShiftRight,Nat.reduceMod,Nat.reduceEqDiff,reduceIte])
   ·exact h0
   ·exact h1
   ·rw[bR _ (by omega)];rfl
   ·rw[eD,Fh,show decide (0≤k.1∧k.1≤k.2∧k.2≤top∧-2+1<k.1)=true from decide_eq_true (by omega)];rfl
   ·intro _;rw[Fh];omega
  |succ j =>
   obtain⟨kp,xk⟩:∃k,l[j]?=some k:=⟨_,Vu (by omega:j<l.length)⟩
   have St:jC l (j+1)=kp.2:=by simp [jC,xk]
   have LH:=LH (by omega)
   rw[St]at LH eD
   have w1:IntKind.i64.wrap (((j+1:Nat):Int)-1)=(j:Int):=by rw[bR _ (by omega)];omega
   have w2:IntKind.i64.wrap (kp.2+1)=kp.2+1:=bR _ (by omega)
   have p0:(0:Int)<((j+1:Nat):Int):=by omega
   have q0:(0:Int)≤((j+1:Nat):Int):=by omega
   have q1:((j+1:Nat):Int)<l.length:=by omega
   have q2:(j:Int)<l.length:=by omega
   simp only[zX,simprocAttr,i64,h0,h1,h5,hk,aM,iD,xk,w1,w2,p0,q0,q1,q2]
   repeat' (first
 |(with_reducible refine And.intro (by first|omega|exact⟨by omega,by omega⟩|(simp;done)) ?_)
 |(with_reducible refine jz (fun hc=>?_) (fun hc=>?_) <;> simp only[zX,simprocAttr,i64,h0,h1,h5,hk,aM,iD,xk,w1,w2,p0,q0,q1,q2,hc])
 |(with_reducible refine dX (fun hc=>?_) (fun hc=>?_) <;> simp only[zX,simprocAttr,i64,h0,h1,h5,hk,aM,iD,xk,w1,w2,p0,q0,q1,q2,hc])
 |(with_reducible refine dW (fun hc=>?_) (fun hc=>?_) <;> simp only[zX,simprocAttr,i64,h0,h1,h5,hk,aM,iD,xk,w1,w2,p0,q0,q1,q2,hc])
 |(with_reducible refine dr (fun hc=>?_) (fun hc=>?_) <;> simp only[zX,simprocAttr,i64,h0,h1,h5,hk,aM,iD,xk,w1,w2,p0,q0,q1,q2,hc])
 |(with_reducible refine dp (fun hc=>?_) (fun hc=>?_) <;> simp only[zX,simprocAttr,i64,h0,h1,h5,hk,aM,iD,xk,w1,w2,p0,q0,q1,q2,hc])
 |(with_reducible refine gr (fun hc=>?_) (fun hc=>?_) <;> simp only[zX,simprocAttr,i64,h0,h1,h5,hk,aM,iD,xk,w1,w2,p0,q0,q1,q2,hc])
 |(with_reducible refine dS (fun hc=>?_) (fun hc=>?_) <;> simp only[zX,simprocAttr,i64,h0,h1,h5,hk,aM,iD,xk,w1,w2,p0,q0,q1,q2,hc]))
   any_goals (refine congrArg bV (Eq.symm ?_);rw[eD,show decide (0≤k.1∧k.1≤k.2∧k.2≤top∧kp.2+1<k.1)=false from decide_eq_false (by omega)];rfl)
   refine⟨l.length-(j+1+1),_,_,by omega,dt.refl,j+1+1,rfl,aT,?_,?_,?_,rfl,?_,?_⟩ <;> (try simp only[zU,Nat.reduceBEq,Nat.reduceShiftRight,Nat.reduceMod,Nat.reduceEqDiff,reduceIte])
   ·exact h0
   ·exact h1
   ·rw[bR _ (by omega)];rfl
   ·rw[eD,Fh,show decide (0≤k.1∧k.1≤k.2∧k.2≤top∧kp.2+1<k.1)=true from decide_eq_true (by omega)];rfl
   ·intro _;rw[Fh];omega
 ·have kT:i=l.length:=by omega
  subst kT
  simp only[zX,simprocAttr,i64,h0,h1,h5,Wj]
  rw[eD]
  simp [oL,bV]
def cg (re:Re) (ai top:Int):Bool :=
 decide (0≤re.op∧re.op≤11∧(da re.op).1≤re.kids.length∧((da re.op).2<0∨(re.kids.length:Int)≤(da re.op).2)) &&
 ((if re.op=1 then gV re.set top else decide (re.set.length=0)) &&
 ((if re.op=4 then decide (0≤re.mn∧re.mn≤32∧-1≤re.mx∧re.mx≠0∧re.mx≤32∧(0<re.mx→re.mn≤re.mx)∧0≤re.mode∧re.mode≤2) else decide (re.mn=0∧re.mx=0∧re.mode=0)) &&
 ((if re.op=5∨re.op=6∨re.op=10 then decide (1≤re.n∧re.n≤ai) else if re.op=11 then decide (0≤re.n∧re.n≤5) else decide (re.n=0)) &&
 (!re.neg||decide (re.op=7∨re.op=8)))))
theorem At (re:Re) (hf:re.gi=true) (ai top:Int) (ht:top≤1114111):bI prog 121 [lq re,i64 ai,i64 top] (bV (cg re ai top)):=by
 obtain⟨oT,hlen,JR⟩:=Re.ie hf
 have eD:=CL re.set oT top ht
 have Nb:=E7 re.op
 by_cases ho:re.op<0∨11<re.op
 ·rw[show cg re ai top=false by simp only[cg];rw[decide_eq_false (by omega)];rfl]
  have Pz:re.op<0∨(¬re.op<0∧11<re.op):=by omega
  refine av func121 rfl ntmps121 results121 rfl 0 361550014853497117429835520396253725135 (by simp) (by simp) ?_
  simp only[zX,simprocAttr,i64,aw re,iD,bD]
  refine aE Nb (by simp [ar,ar.go,aw,i64,bV,ck]) (by simp [ar,ar.go,aw,i64,bV,ck]) ?_
  rcases Pz with h1|⟨h1,h2⟩
  ·simp only[zX,simprocAttr,i64,aw re,iD,bD,h1]
   rfl
  ·simp only[zX,simprocAttr,i64,aw re,iD,bD,h1,h2]
   rfl
 ·have hc:re.op=0∨re.op=1∨re.op=2∨re.op=3∨re.op=4∨re.op=5∨re.op=6∨re.op=7∨re.op=8∨re.op=9∨re.op=10∨re.op=11:=by omega
  clear ho
  rcases hc with p|p|p|p|p|p|p|p|p|p|p|p
  case inr.inl =>
   rw[p]at Nb
   simp only[da,Int.reduceEq,or_self,if_false,or_true,true_or,or_false,false_or,if_true,reduceIte]at Nb
   generalize hv:gV re.set top=sv at eD
   cases sv
   all_goals
    refine av func121 rfl ntmps121 results121 rfl 0 361550014853497117429835520396253725135 (by simp) (by simp) ?_
    simp only[zX,simprocAttr,i64,aw re,iD,bD,p]
    refine aE Nb (by simp [ar,ar.go,aw,i64,bV,ck]) (by simp [ar,ar.go,aw,i64,bV,ck]) ?_
    simp only[zX,simprocAttr,i64,aw re,iD,bD,p]
    repeat' (first
 |(with_reducible refine And.intro (by first|omega|exact⟨by omega,by omega⟩|(simp;done)) ?_)
 |(with_reducible refine jz (fun hc=>?_) (fun hc=>?_) <;> simp only[zX,simprocAttr,i64,aw re,iD,bD,p,hc])
 |(with_reducible refine dX (fun hc=>?_) (fun hc=>?_) <;> simp only[zX,simprocAttr,i64,aw re,iD,bD,p,hc])
 |(with_reducible refine dW (fun hc=>?_) (fun hc=>?_) <;> simp only[zX,simprocAttr,i64,aw re,iD,bD,p,hc])
 |(with_reducible refine dr (fun hc=>?_) (fun hc=>?_) <;> simp only[zX,simprocAttr,i64,aw re,iD,bD,p,hc])
 |(with_reducible refine dp (fun hc=>?_) (fun hc=>?_) <;> simp only[zX,simprocAttr,i64,aw re,iD,bD,p,hc])
 |(with_reducible refine gr (fun hc=>?_) (fun hc=>?_) <;> simp only[zX,simprocAttr,i64,aw re,iD,bD,p,hc])
 |(with_reducible refine dS (fun hc=>?_) (fun hc=>?_) <;> simp only[zX,simprocAttr,i64,aw re,iD,bD,p,hc]))
   any_goals
    refine aE eD (by simp [ar,ar.go,aw,i64,bV,ck]) (by simp [ar,ar.go,aw,i64,bV,ck]) ?_
    simp only[zX,simprocAttr,i64,aw re,iD,bD,p,bV]
   any_goals
    repeat' (first
 |(with_reducible refine And.intro (by first|omega|exact⟨by omega,by omega⟩|(simp;done)) ?_)
 |(with_reducible refine jz (fun hc=>?_) (fun hc=>?_) <;> simp only[zX,simprocAttr,i64,aw re,iD,bD,p,bV,hc])
 |(with_reducible refine dX (fun hc=>?_) (fun hc=>?_) <;> simp only[zX,simprocAttr,i64,aw re,iD,bD,p,bV,hc])
 |(with_reducible refine dW (fun hc=>?_) (fun hc=>?_) <;> simp only[zX,simprocAttr,i64,aw re,iD,bD,p,bV,hc])
 |(with_reducible refine dr (fun hc=>?_) (fun hc=>?_) <;> simp only[zX,simprocAttr,i64,aw re,iD,bD,p,bV,hc])
 |(with_reducible refine dp (fun hc=>?_) (fun hc=>?_) <;> simp only[zX,simprocAttr,i64,aw re,iD,bD,p,bV,hc])
 |(with_reducible refine gr (fun hc=>?_) (fun hc=>?_) <;> simp only[zX,simprocAttr,i64,aw re,iD,bD,p,bV,hc])
 |(with_reducible refine dS (fun hc=>?_) (fun hc=>?_) <;> simp only[zX,simprocAttr,i64,aw re,iD,bD,p,bV,hc]))
   all_goals
    rcases Wr re.neg with ca|ca
    all_goals
     try (exfalso;rw[ca]at hc;exact absurd hc (by decide);done)
     try first
      |(first|refine congrArg bV (Eq.symm (Bool.eq_false_iff.2 fun h=>?_))|refine Eq.symm (Bool.eq_false_iff.2 fun h=>?_)
        simp only[cg,da,p,ca,hv,Int.reduceEq,or_self,if_false,or_true,true_or,or_false,false_or,if_true,reduceIte,VE,decide_eq_true_eq,Vs,Vt,VV,VM,reduceCtorEq,Vw,false_and,and_false,true_and,and_true]at h
        try omega
        done)
      |(first|refine congrArg bV (Eq.symm ?_)|refine Eq.symm ?_
        simp only[cg,da,p,ca,hv,Int.reduceEq,or_self,if_false,or_true,true_or,or_false,false_or,if_true,reduceIte,VE,decide_eq_true_eq,Vs,Vt,VV,VM,reduceCtorEq,Vw,false_and,and_false,true_and,and_true]
        try omega
        done)
  all_goals
   rw[p]at Nb
   simp only[da,Int.reduceEq,or_self,if_false,or_true,true_or,or_false,false_or,if_true,reduceIte]at Nb
   refine av func121 rfl ntmps121 results121 rfl 0 361550014853497117429835520396253725135 (by simp) (by simp) ?_
   simp only[zX,simprocAttr,i64,aw re,iD,bD,p]
   refine aE Nb (by simp [ar,ar.go,aw,i64,bV,ck]) (by simp [ar,ar.go,aw,i64,bV,ck]) ?_
   simp only[zX,simprocAttr,i64,aw re,iD,bD,p]
   repeat' (first
 |(with_reducible refine And.intro (by first|omega|exact⟨by omega,by omega⟩|(simp;done)) ?_)
 |(with_reducible refine jz (fun hc=>?_) (fun hc=>?_) <;> simp only[zX,simprocAttr,i64,aw re,iD,bD,p,hc])
 |(with_reducible refine dX (fun hc=>?_) (fun hc=>?_) <;> simp only[zX,simprocAttr,i64,aw re,iD,bD,p,hc])
 |(with_reducible refine dW (fun hc=>?_) (fun hc=>?_) <;> simp only[zX,simprocAttr,i64,aw re,iD,bD,p,hc])
 |(with_reducible refine dr (fun hc=>?_) (fun hc=>?_) <;> simp only[zX,simprocAttr,i64,aw re,iD,bD,p,hc])
 |(with_reducible refine dp (fun hc=>?_) (fun hc=>?_) <;> simp only[zX,simprocAttr,i64,aw re,iD,bD,p,hc])
 |(with_reducible refine gr (fun hc=>?_) (fun hc=>?_) <;> simp only[zX,simprocAttr,i64,aw re,iD,bD,p,hc])
 |(with_reducible refine dS (fun hc=>?_) (fun hc=>?_) <;> simp only[zX,simprocAttr,i64,aw re,iD,bD,p,hc]))
  all_goals
   rcases Wr re.neg with ca|ca
   all_goals
    try (exfalso;rw[ca]at hc;exact absurd hc (by decide);done)
    try first
     |(refine congrArg bV (Eq.symm (Bool.eq_false_iff.2 fun h=>?_))
       simp only[cg,da,p,ca,Int.reduceEq,or_self,if_false,or_true,true_or,or_false,false_or,if_true,reduceIte,VE,decide_eq_true_eq,Vs,Vt,VV,VM,reduceCtorEq,Vw,false_and,and_false,true_and,and_true]at h
       try omega
       done)
     |(refine congrArg bV (Eq.symm ?_)
       simp only[cg,da,p,ca,Int.reduceEq,or_self,if_false,or_true,true_or,or_false,false_or,if_true,reduceIte,VE,decide_eq_true_eq,Vs,Vt,VV,VM,reduceCtorEq,Vw,false_and,and_false,true_and,and_true]
       try omega
       done)
def Re.whole (re:Re) (ai top:Int):Bool:=re.every fun r=>cg r ai top
theorem B0 (ai top:Int) (ht:top≤1114111) (re:Re) (hf:re.gi=true):bI prog 97 [lq re,i64 ai,i64 top] (bV (re.whole ai top)):=by
 revert hf
 refine Re.ind (Q:=fun re=>re.gi=true→bI prog 97 [lq re,i64 ai,i64 top] (bV (re.whole ai top))) (fun re ih hf=>?_) re
 obtain⟨oT,hlen,JR⟩:=Re.ie hf
 have FY:=At re hf ai top ht
 rw[aw]at FY
 simp only[i64,iD,bD]at FY
 refine av func97 rfl ntmps97 results97 rfl 0 207 (by simp) (by simp) ?_
 simp only[zX,simprocAttr,i64,aw re,iD,bD]
 refine aE FY (by simp [ar,ar.go,aw,i64,bV,ck]) (by simp [ar,ar.go,aw,i64,bV,ck]) ?_
 cases oP:cg re ai top with
 |false =>
  simp only[zX,simprocAttr,i64,bV]
  rw[show re.whole ai top=false by
   rw[V6];intro h;unfold Re.whole at h;rw[Re.cS,oP]at h;exact absurd h.1 (by decide)]
 |true =>
  simp only[zX,simprocAttr,i64,bV]
  refine aY (fun n e s=>∃i:Nat,n=re.kids.length-i∧i≤re.kids.length∧e 1=i64 ai∧e 2=i64 top∧e 3=.rf 0 0 0 0∧e 7=i64 i∧(∀x∈re.kids.take i,x.whole ai top=true)∧s=[⟨0,true,8,[re.cells.map .d]⟩])
   ⟨_,_,_,dt.refl,0,rfl,by omega,rfl,rfl,rfl,rfl,by simp,by simp [Re.ae re,iD,bD]⟩ ?_
  rintro n e s ⟨i,rfl,hi,h1,h2,h3,h7,hn,rfl⟩
  rcases VX i re.kids.length with aT|iR
  ·obtain⟨k,hk⟩:∃k,re.kids[i]?=some k:=⟨_,Vu aT⟩
   have hm:=Vy hk
   simp only[zX,simprocAttr,i64,Re.ae re,iD,bD,h1,h2,h3,h7,aT,hk]
   refine aE (ih k hm (JR k hm)) (by simp [ar,ar.go,aw,i64,bV,ck]) (by simp [ar,ar.go,aw,i64,bV,ck]) ?_
   cases vo:k.whole ai top with
   |false =>
    simp only[zX,simprocAttr,i64,bV]
    rw[show re.whole ai top=false by
     rw[V6];intro h;unfold Re.whole at h;rw[Re.cS]at h;have:=h.2 k hm;unfold Re.whole at vo;rw[vo]at this;cases this]
   |true =>
    simp only[zX,simprocAttr,i64,bV,Re.ae re,iD,bD,h1,h2,h3,h7]
    refine⟨re.kids.length-(i+1),_,_,by omega,dt.refl,i+1,rfl,aT,?_,?_,?_,?_,?_,rfl⟩ <;> (try simp only[zU,Nat.reduceBEq,Nat.reduceShiftRight,Nat.reduceMod,Nat.reduceEqDiff,reduceIte])
    ·exact h1
    ·exact h2
    ·exact h3
    ·rw[bR _ (by omega)];rfl
    ·intro x hx
     rcases m5 hk hx with h|rfl
     ·exact hn x h
     ·exact vo
  ·have kT:i=re.kids.length:=by omega
   subst kT
   simp only[zX,simprocAttr,i64,Re.ae re,iD,bD,h1,h2,h3,h7,Wj]
   rw[show re.whole ai top=true from (Re.cS re).2 ⟨oP,fun k hk=>hn k (by rw[We];exact hk)⟩]
def fk (bG:Bool):Int:=if bG=true then 1114111 else 255
def dV (p:ic):Int :=
 if 256<p.re.size∨24<p.re.depth then 4 else if p.ai<0∨9<p.ai∨p.re.whole p.ai (fk p.bG)=false then 1 else 0
theorem u4 (p:ic) (hf:p.re.gi=true) (hs:p.re.size≤1000000000):bI prog 55 [eb p] (i64 (dV p)):=by
 have h1:=Fl p.re hs
 have h2:=By p.re hs
 have h3:=B0 p.ai (fk p.bG) (by unfold fk;split <;> omega) p.re hf
 unfold dV
 rw[aw]at h1 h2 h3
 cases p with
 |mk re ai bG =>
 simp only[i64,iD,bD]at h1 h2 h3
 simp only at *
 refine av func55 rfl ntmps55 results55 rfl 0 15 (by simp) (by simp) ?_
 simp only[zX,simprocAttr,i64,eb,Re.ae re,bV,iD,bD]
 refine aE h1 (by simp [ar,ar.go,aw,i64,bV,ck]) (by simp [ar,ar.go,aw,i64,bV,ck]) ?_
 simp only[zX,simprocAttr,i64,eb,bV,iD,bD]
 by_cases c1:(256:Int)<re.size
 ·simp only[zX,simprocAttr,c1]
  rw[if_pos (by omega)]
 simp only[zX,simprocAttr,i64,eb,bV,iD,bD,c1]
 refine aE h2 (by simp [ar,ar.go,aw,i64,bV,ck]) (by simp [ar,ar.go,aw,i64,bV,ck]) ?_
 simp only[zX,simprocAttr,i64,eb,bV,iD,bD]
 by_cases c2:(24:Int)<re.depth
 ·simp only[zX,simprocAttr,c2]
 rw[if_neg (by omega)]
 simp only[zX,simprocAttr,i64,eb,bV,iD,bD,c2]
 cases bG
 all_goals
  simp only[fk,if_true,if_false,reduceIte,reduceCtorEq,Vw]at h3 ⊢
  simp only[zX,simprocAttr,i64,eb,bV,iD,bD]
  by_cases c3:ai<0
  ·simp only[zX,simprocAttr,i64,eb,bV,iD,bD,c3]
  by_cases c4:9<ai
  ·simp only[zX,simprocAttr,i64,eb,bV,iD,bD,c3,c4,if_true,or_true,true_or]
  simp only[zX,simprocAttr,i64,eb,bV,iD,bD,c3,c4]
  refine aE h3 (by simp [ar,ar.go,aw,i64,bV,ck]) (by simp [ar,ar.go,aw,i64,bV,ck]) ?_
  first
   |(cases hw:re.whole ai 1114111 <;> (simp only[zX,simprocAttr,i64,bV]);done)
   |(cases hw:re.whole ai 255 <;> (simp only[zX,simprocAttr,i64,bV]);done)
end Go.Proofs.Ytllagoeijcjpiaa
