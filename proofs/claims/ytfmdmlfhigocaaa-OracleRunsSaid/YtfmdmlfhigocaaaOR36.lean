/- A part of the proof (F47 F47B F47C F47D F47E F48). -/
import Derived.Test.YtfmdmlfhigocaaaOR35
set_option linter.unusedSimpArgs false
set_option linter.unusedVariables false
open Int renaming reduceEq → jT
set_option maxRecDepth 100000
set_option maxHeartbeats 80000000
namespace Go.Proofs.Ytfmdmlfhigocaaa
open Go.VL Go.Proofs.Try
theorem Tg (re:Re) (hf:re.cN=true) (ai top:Int) (ht:top<=1114111) (xY:re.op=1\/re.op=4\/(¬re.op=0/\¬re.op=1/\¬re.op=2/\¬re.op=3/\¬re.op=4/\¬re.op=5/\¬re.op=6/\¬re.op=7/\¬re.op=8/\¬re.op=9/\¬re.op=10/\¬re.op=11)):aM prog 68 [gH re,i64 ai,i64 top] (bV (bS re ai top)):=by
 obtain⟨rk,hlen,Hc⟩:=Re.fT hf;have pZ:=EN re.set rk top ht;have Z3:=NH re;rw[gH,Re.ah]at Z3;simp only[i64,iD,bD]at pZ Z3;rcases xY with p|p|⟨p0,p1,p2,p3,p4,p5,p6,p7,p8,p9,p10,p11⟩
 case inr.inr =>
  rw[show bS re ai top=false by simp only[bS];rw[ce ae];rfl];by_cases n1:1<=re.n
  ·by_cases n2:re.n<=ai
   ·refine bk func68 ntmps68 results68 0 77371252473350734410155975 ?_;simp only[zI,simprocAttr,gH,Re.ah re,iD,bD,p0,p1,p2,p3,p4,p5,p6,p7,p8,p9,p10,p11,n1,n2];all_goals exact ed
   ·refine bk func68 ntmps68 results68 0 77371252473350734410155975 ?_;simp only[zI,simprocAttr,gH,Re.ah re,iD,bD,p0,p1,p2,p3,p4,p5,p6,p7,p8,p9,p10,p11,n1,n2];all_goals exact ed
  ·refine bk func68 ntmps68 results68 0 77371252473350734410155975 ?_;simp only[zI,simprocAttr,gH,Re.ah re,iD,bD,p0,p1,p2,p3,p4,p5,p6,p7,p8,p9,p10,p11,n1];all_goals exact ed
 case inl =>
  generalize hv:iZ re.set top=sv at pZ;cases sv;all_goals
   refine bk func68 ntmps68 results68 0 77371252473350734410155975 ?_;simp only[zI,simprocAttr,gH,Re.ah re,iD,bD,p,ai9,ajn]
   repeat' (first
 |(with_reducible refine And.intro sW ?_)
 |(with_reducible first|refine lI (λhc=>?_) (λhc=>?_)|refine eu (λhc=>?_) (λhc=>?_)|refine ep (λhc=>?_) (λhc=>?_)|refine dn (λhc=>?_) (λhc=>?_)|refine dm (λhc=>?_) (λhc=>?_)|refine ja (λhc=>?_) (λhc=>?_)|refine eh (λhc=>?_) (λhc=>?_))<;>simp only[zI,simprocAttr,iD,bD,p,ai9,ajn,hc])
  any_goals
   refine bO pZ ?_;simp only[zI,simprocAttr,iD,bD,p,bV,ai9,ajn]
  any_goals
   repeat' (first
 |(with_reducible refine And.intro sW ?_)
 |(with_reducible first|refine lI (λhc=>?_) (λhc=>?_)|refine eu (λhc=>?_) (λhc=>?_)|refine ep (λhc=>?_) (λhc=>?_)|refine dn (λhc=>?_) (λhc=>?_)|refine dm (λhc=>?_) (λhc=>?_)|refine ja (λhc=>?_) (λhc=>?_)|refine eh (λhc=>?_) (λhc=>?_))<;>simp only[zI,simprocAttr,iD,bD,p,bV,ai9,ajn,hc])
  all_goals
   rcases akn re.neg with e8|e8;all_goals
    try (exfalso;rw[e8]at hc;exact absurd hc aJ;done)
    try simp only[e8,aje,ajd]
    first
     |(first|refine congrArg bV (Eq.symm (Bool.eq_false_iff.2 λh=>?_))|refine Eq.symm (Bool.eq_false_iff.2 λh=>?_)
       simp only[bS,cw,p,e8,jT,or_self,if_false,or_true,true_or,or_false,false_or,if_true,reduceIte,aji,decide_eq_true_eq,aje,ajd,ajC,ajx,reduceCtorEq,ajf,false_and,and_false,true_and,and_true,hv]at h;try omega
       done)
     |(first|refine congrArg bV (Eq.symm ?_)|refine Eq.symm ?_
       simp only[bS,cw,p,e8,jT,or_self,if_false,or_true,true_or,or_false,false_or,if_true,reduceIte,aji,decide_eq_true_eq,aje,ajd,ajC,ajx,reduceCtorEq,ajf,false_and,and_false,true_and,and_true,hv];try omega
       done)
 case inr.inl =>
  have VF:Ii re=true ↔ (0<=re.mn/\re.mn<=32/\0<=re.mode/\re.mode<=2/\(re.mx=-1\/(1<=re.mx/\re.mx<=32/\re.mn<=re.mx))):=by unfold Ii;rw[decide_eq_true_eq]
  generalize hv:Ii re=sv at Z3 VF;cases sv;all_goals
   simp only[ajf,false_iff,true_iff]at VF;refine bk func68 ntmps68 results68 0 77371252473350734410155975 ?_;simp only[zI,simprocAttr,gH,Re.ah re,iD,bD,p,ai9,ajn]
   repeat' (first
 |(with_reducible refine And.intro sW ?_)
 |(with_reducible first|refine lI (λhc=>?_) (λhc=>?_)|refine eu (λhc=>?_) (λhc=>?_)|refine ep (λhc=>?_) (λhc=>?_)|refine dn (λhc=>?_) (λhc=>?_)|refine dm (λhc=>?_) (λhc=>?_)|refine ja (λhc=>?_) (λhc=>?_)|refine eh (λhc=>?_) (λhc=>?_))<;>simp only[zI,simprocAttr,iD,bD,p,ai9,ajn,hc])
  any_goals
   rw[p]at Z3;refine bO Z3 ?_;simp only[zI,simprocAttr,iD,bD,p,bV,ai9,ajn]
  any_goals
   repeat' (first
 |(with_reducible refine And.intro sW ?_)
 |(with_reducible first|refine lI (λhc=>?_) (λhc=>?_)|refine eu (λhc=>?_) (λhc=>?_)|refine ep (λhc=>?_) (λhc=>?_)|refine dn (λhc=>?_) (λhc=>?_)|refine dm (λhc=>?_) (λhc=>?_)|refine ja (λhc=>?_) (λhc=>?_)|refine eh (λhc=>?_) (λhc=>?_))<;>simp only[zI,simprocAttr,iD,bD,p,bV,ai9,ajn,hc])
  all_goals
   rcases akn re.neg with e8|e8;all_goals
    try (exfalso;rw[e8]at hc;exact absurd hc aJ;done)
    try simp only[e8,aje,ajd]
    first
     |(first|refine congrArg bV (Eq.symm (Bool.eq_false_iff.2 λh=>?_))|refine Eq.symm (Bool.eq_false_iff.2 λh=>?_)
       simp only[bS,cw,p,e8,jT,or_self,if_false,or_true,true_or,or_false,false_or,if_true,reduceIte,aji,decide_eq_true_eq,aje,ajd,ajC,ajx,reduceCtorEq,ajf,false_and,and_false,true_and,and_true]at h;try omega
       done)
     |(first|refine congrArg bV (Eq.symm ?_)|refine Eq.symm ?_
       simp only[bS,cw,p,e8,jT,or_self,if_false,or_true,true_or,or_false,false_or,if_true,reduceIte,aji,decide_eq_true_eq,aje,ajd,ajC,ajx,reduceCtorEq,ajf,false_and,and_false,true_and,and_true];try omega
       done)
theorem T0 (re:Re) (hf:re.cN=true) (ai top:Int) (ht:top<=1114111) (xY:re.op=0\/re.op=2\/re.op=3):aM prog 68 [gH re,i64 ai,i64 top] (bV (bS re ai top)):=by
 obtain⟨rk,hlen,Hc⟩:=Re.fT hf;rcases xY with p|p|p;all_goals
  refine bk func68 ntmps68 results68 0 77371252473350734410155975 ?_;simp only[zI,simprocAttr,gH,Re.ah re,iD,bD,p]
  repeat' (first
 |(with_reducible refine And.intro sW ?_)
 |(with_reducible first|refine lI (λhc=>?_) (λhc=>?_)|refine eu (λhc=>?_) (λhc=>?_)|refine ep (λhc=>?_) (λhc=>?_)|refine dn (λhc=>?_) (λhc=>?_)|refine dm (λhc=>?_) (λhc=>?_)|refine ja (λhc=>?_) (λhc=>?_)|refine eh (λhc=>?_) (λhc=>?_))<;>simp only[zI,simprocAttr,iD,bD,p,hc])
 all_goals
  rcases akn re.neg with e8|e8;all_goals
   try (exfalso;rw[e8]at hc;exact absurd hc aJ;done)
   try simp only[e8,aje,ajd]
   first
    |(refine congrArg bV (Eq.symm (Bool.eq_false_iff.2 λh=>?_))
      simp only[bS,cw,p,e8,jT,or_self,if_false,or_true,true_or,or_false,false_or,if_true,reduceIte,aji,decide_eq_true_eq,aje,ajd,ajC,ajx,reduceCtorEq,ajf,false_and,and_false,true_and,and_true]at h;try omega
      done)
    |(refine congrArg bV (Eq.symm ?_)
      simp only[bS,cw,p,e8,jT,or_self,if_false,or_true,true_or,or_false,false_or,if_true,reduceIte,aji,decide_eq_true_eq,aje,ajd,ajC,ajx,reduceCtorEq,ajf,false_and,and_false,true_and,and_true];try omega
      done)
theorem Ud (re:Re) (hf:re.cN=true) (ai top:Int) (ht:top<=1114111) (xY:re.op=5\/re.op=6\/re.op=7):aM prog 68 [gH re,i64 ai,i64 top] (bV (bS re ai top)):=by
 obtain⟨rk,hlen,Hc⟩:=Re.fT hf;rcases xY with p|p|p;all_goals
  refine bk func68 ntmps68 results68 0 77371252473350734410155975 ?_;simp only[zI,simprocAttr,gH,Re.ah re,iD,bD,p]
  repeat' (first
 |(with_reducible refine And.intro sW ?_)
 |(with_reducible first|refine lI (λhc=>?_) (λhc=>?_)|refine eu (λhc=>?_) (λhc=>?_)|refine ep (λhc=>?_) (λhc=>?_)|refine dn (λhc=>?_) (λhc=>?_)|refine dm (λhc=>?_) (λhc=>?_)|refine ja (λhc=>?_) (λhc=>?_)|refine eh (λhc=>?_) (λhc=>?_))<;>simp only[zI,simprocAttr,iD,bD,p,hc])
 all_goals
  rcases akn re.neg with e8|e8;all_goals
   try (exfalso;rw[e8]at hc;exact absurd hc aJ;done)
   try simp only[e8,aje,ajd]
   first
    |(refine congrArg bV (Eq.symm (Bool.eq_false_iff.2 λh=>?_))
      simp only[bS,cw,p,e8,jT,or_self,if_false,or_true,true_or,or_false,false_or,if_true,reduceIte,aji,decide_eq_true_eq,aje,ajd,ajC,ajx,reduceCtorEq,ajf,false_and,and_false,true_and,and_true]at h;try omega
      done)
    |(refine congrArg bV (Eq.symm ?_)
      simp only[bS,cw,p,e8,jT,or_self,if_false,or_true,true_or,or_false,false_or,if_true,reduceIte,aji,decide_eq_true_eq,aje,ajd,ajC,ajx,reduceCtorEq,ajf,false_and,and_false,true_and,and_true];try omega
      done)
theorem S9 (re:Re) (hf:re.cN=true) (ai top:Int) (ht:top<=1114111) (xY:re.op=8\/re.op=9):aM prog 68 [gH re,i64 ai,i64 top] (bV (bS re ai top)):=by
 obtain⟨rk,hlen,Hc⟩:=Re.fT hf;rcases xY with p|p;all_goals
  refine bk func68 ntmps68 results68 0 77371252473350734410155975 ?_;simp only[zI,simprocAttr,gH,Re.ah re,iD,bD,p]
  repeat' (first
 |(with_reducible refine And.intro sW ?_)
 |(with_reducible first|refine lI (λhc=>?_) (λhc=>?_)|refine eu (λhc=>?_) (λhc=>?_)|refine ep (λhc=>?_) (λhc=>?_)|refine dn (λhc=>?_) (λhc=>?_)|refine dm (λhc=>?_) (λhc=>?_)|refine ja (λhc=>?_) (λhc=>?_)|refine eh (λhc=>?_) (λhc=>?_))<;>simp only[zI,simprocAttr,iD,bD,p,hc])
 all_goals
  rcases akn re.neg with e8|e8;all_goals
   try (exfalso;rw[e8]at hc;exact absurd hc aJ;done)
   try simp only[e8,aje,ajd]
   first
    |(refine congrArg bV (Eq.symm (Bool.eq_false_iff.2 λh=>?_))
      simp only[bS,cw,p,e8,jT,or_self,if_false,or_true,true_or,or_false,false_or,if_true,reduceIte,aji,decide_eq_true_eq,aje,ajd,ajC,ajx,reduceCtorEq,ajf,false_and,and_false,true_and,and_true]at h;try omega
      done)
    |(refine congrArg bV (Eq.symm ?_)
      simp only[bS,cw,p,e8,jT,or_self,if_false,or_true,true_or,or_false,false_or,if_true,reduceIte,aji,decide_eq_true_eq,aje,ajd,ajC,ajx,reduceCtorEq,ajf,false_and,and_false,true_and,and_true];try omega
      done)
theorem TV (re:Re) (hf:re.cN=true) (ai top:Int) (ht:top<=1114111) (xY:re.op=10\/re.op=11):aM prog 68 [gH re,i64 ai,i64 top] (bV (bS re ai top)):=by
 obtain⟨rk,hlen,Hc⟩:=Re.fT hf;rcases xY with p|p;all_goals
  refine bk func68 ntmps68 results68 0 77371252473350734410155975 ?_;simp only[zI,simprocAttr,gH,Re.ah re,iD,bD,p]
  repeat' (first
 |(with_reducible refine And.intro sW ?_)
 |(with_reducible first|refine lI (λhc=>?_) (λhc=>?_)|refine eu (λhc=>?_) (λhc=>?_)|refine ep (λhc=>?_) (λhc=>?_)|refine dn (λhc=>?_) (λhc=>?_)|refine dm (λhc=>?_) (λhc=>?_)|refine ja (λhc=>?_) (λhc=>?_)|refine eh (λhc=>?_) (λhc=>?_))<;>simp only[zI,simprocAttr,iD,bD,p,hc])
 all_goals
  rcases akn re.neg with e8|e8;all_goals
   try (exfalso;rw[e8]at hc;exact absurd hc aJ;done)
   try simp only[e8,aje,ajd]
   first
    |(refine congrArg bV (Eq.symm (Bool.eq_false_iff.2 λh=>?_))
      simp only[bS,cw,p,e8,jT,or_self,if_false,or_true,true_or,or_false,false_or,if_true,reduceIte,aji,decide_eq_true_eq,aje,ajd,ajC,ajx,reduceCtorEq,ajf,false_and,and_false,true_and,and_true]at h;try omega
      done)
    |(refine congrArg bV (Eq.symm ?_)
      simp only[bS,cw,p,e8,jT,or_self,if_false,or_true,true_or,or_false,false_or,if_true,reduceIte,aji,decide_eq_true_eq,aje,ajd,ajC,ajx,reduceCtorEq,ajf,false_and,and_false,true_and,and_true];try omega
      done)
theorem QT (re:Re) (hf:re.cN=true) (ai top:Int) (ht:top<=1114111):aM prog 68 [gH re,i64 ai,i64 top] (bV (bS re ai top)):=by
 have hc:(re.op=0\/re.op=2\/re.op=3)\/(re.op=5\/re.op=6\/re.op=7)\/(re.op=8\/re.op=9)\/(re.op=10\/re.op=11)\/(re.op=1\/re.op=4\/(¬re.op=0/\¬re.op=1/\¬re.op=2/\¬re.op=3/\¬re.op=4/\¬re.op=5/\¬re.op=6/\¬re.op=7/\¬re.op=8/\¬re.op=9/\¬re.op=10/\¬re.op=11)):=ae;rcases hc with h|h|h|h|h
 ·exact T0 re hf ai top ht h
 ·exact Ud re hf ai top ht h
 ·exact S9 re hf ai top ht h
 ·exact TV re hf ai top ht h
 ·exact Tg re hf ai top ht h
mutual
def Re.vw (ai top:Int):Re->Int->Int->Bool->Bool×Int×Bool
 |.mk op set kids mn mx mode n neg,d,sz,g =>
  if 256<sz+1\/24<d then (false,sz+1,g) else Re.tA ai top kids (d+1) (sz+1) (g&&bS (.mk op set kids mn mx mode n neg) ai top)
def Re.tA (ai top:Int):List Re->Int->Int->Bool->Bool×Int×Bool
 |[],_,sz,g=>(true,sz,g)
 |k::l,d,sz,g=>if (Re.vw ai top k d sz g).1=true then Re.tA ai top l d (Re.vw ai top k d sz g).2.1 (Re.vw ai top k d sz g).2.2 else Re.vw ai top k d sz g
end
theorem Re.Xr (ai top:Int) (re:Re) (d sz:Int) (g:Bool):re.vw ai top d sz g=if 256<sz+1\/24<d then (false,sz+1,g) else Re.tA ai top re.kids (d+1) (sz+1) (g&&bS re ai top):=by
 cases re;simp [Re.vw,Re.kids]
theorem Re.yk (ai top:Int):∀(a b:List Re) (d sz:Int) (g:Bool),Re.tA ai top (a++b) d sz g=if (Re.tA ai top a d sz g).1=true then Re.tA ai top b d (Re.tA ai top a d sz g).2.1 (Re.tA ai top a d sz g).2.2 else Re.tA ai top a d sz g
 |[],b,d,sz,g=>by simp [Re.tA]
 |k::a,b,d,sz,g=>by
  simp only[aiX,Re.tA];split
  ·exact Re.yk ai top a b d _ _
  ·rename_i h;first|rfl|rw[ap h]
theorem Re.So (ai top:Int) (a:List Re) (k:Re) (d sz:Int) (g:Bool) (h:(Re.tA ai top a d sz g).1=true):Re.tA ai top (a++[k]) d sz g=k.vw ai top d (Re.tA ai top a d sz g).2.1 (Re.tA ai top a d sz g).2.2:=by
 rw[Re.yk,be h];simp only[Re.tA];split
 ·rename_i hk;exact Prod.ext hk.symm rfl
 ·rfl
def Yc (ai top:Int) (re:Re):Prop:=∀(d sz:Int) (g:Bool),0<=sz->sz<=256 ->
 ((re.vw ai top d sz g).1=true ↔ (sz+re.size<=256/\d+re.depth-1<=24))/\0<=(re.vw ai top d sz g).2.1/\(re.vw ai top d sz g).2.1<=257 /\
 ((re.vw ai top d sz g).1=true->(re.vw ai top d sz g).2.1=sz+re.size/\(re.vw ai top d sz g).2.2=(g&&re.whole ai top))
theorem NO (ai top:Int):∀(l:List Re),(∀k∈l,Yc ai top k)->∀(d sz:Int) (g:Bool),0<=sz->sz<=256 ->
  ((Re.tA ai top l d sz g).1=true ↔ (sz+Re.bT l<=256/\∀k∈l,d+k.depth-1<=24))/\0<=(Re.tA ai top l d sz g).2.1/\(Re.tA ai top l d sz g).2.1<=257 /\
  ((Re.tA ai top l d sz g).1=true->(Re.tA ai top l d sz g).2.1=sz+Re.bT l/\(Re.tA ai top l d sz g).2.2=(g&&l.all λk=>k.whole ai top))
 |[],_,d,sz,g,h0,h1=>by simp only[Re.tA,Re.bT];exact⟨⟨λ_=>⟨ae,λk hk=>by cases hk⟩,λ_=>trivial⟩,h0,ae,λ_=>⟨ae,aj⟩⟩
 |k::l,hk,d,sz,g,h0,h1=>by
  obtain⟨a1,a2,a3,a4⟩:=hk k aj d sz g h0 h1;simp only[Re.tA,Re.bT];split
  ·rename_i ht;obtain⟨b1,b2⟩:=a4 ht;obtain⟨c1,c2⟩:=a1.1 ht;obtain⟨e1,e2,e3,e4⟩:=NO ai top l (λx hx=>hk x (by simp [hx])) d (k.vw ai top d sz g).2.1 (k.vw ai top d sz g).2.2 a2 ae;refine⟨?_,e2,e3,λh=>?_⟩
   ·rw[e1,b1];constructor
    ·rintro ⟨f1,f2⟩;refine⟨ae,λx hx=>?_⟩;rcases List.mem_cons.1 hx with rfl|hx
     ·exact c2
     ·exact f2 x hx
    ·rintro ⟨f1,f2⟩;exact⟨ae,λx hx=>f2 x (by simp [hx])⟩
   ·obtain⟨f1,f2⟩:=e4 h;refine⟨ae,?_⟩;rw[f2,b2,ajS,Bool.and_assoc]
  ·rename_i ht;refine⟨⟨λh=>absurd h ht,λ⟨f1,f2⟩=>absurd (a1.2 ⟨ae,f2 k aj⟩) ht⟩,a2,a3,λh=>absurd h ht⟩
theorem H3 (re:Re) (b:Int) (hb:0<=b):re.depth-1<=b ↔ ∀k∈re.kids,k.depth<=b:=by
 rw[Re.mc];constructor
 ·intro h k hk;have:∀(l:List Int) (a x:Int),x∈l->x<=l.foldl max a:=by
   intro l;induction l with
   |nil=>intro a x hx;cases hx
   |cons y l ih =>
    intro a x hx;rcases List.mem_cons.1 hx with rfl|hx
    ·exact Int.le_trans ae (oT l (max a x))
    ·exact ih (max a y) x hx
  have:=this (re.kids.map Re.depth) 0 k.depth (List.mem_map.2 ⟨k,hk,rfl⟩);unfold rP at h;omega
 ·intro h;have:=oN (b:=b) (re.kids.map Re.depth) 0 hb (λx hx=>by obtain⟨k,hk,rfl⟩:=List.mem_map.1 hx;exact h k hk);unfold rP;omega
theorem WO (ai top:Int) (re:Re):Yc ai top re:=by
 refine Re.ind (Q:=Yc ai top) (λre ih=>?_) re;intro d sz g h0 h1;have hd:=Re.Kf re;have hp:=re.size_pos;rw[Re.Xr,Re.size_eq];split
 ·rename_i hc;simp only;refine⟨⟨λh=>(by cases h),λh=>?_⟩,ae,ae,λh=>(by cases h)⟩;have hdp:1<=re.depth:=by rw[Re.mc];have:=oT (re.kids.map Re.depth) 0;unfold rP;omega
  omega
 ·rename_i hc;obtain⟨a1,a2,a3,a4⟩:=NO ai top re.kids ih (d+1) (sz+1) (g&&bS re ai top) ae ae;refine⟨?_,a2,a3,λh=>?_⟩
  ·rw[a1];have Yi:=H3 re (24-d) ae;constructor
   ·rintro ⟨f1,f2⟩;have:=Yi.2 (λk hk=>by have:=f2 k hk;omega);omega
   ·rintro ⟨f1,f2⟩;have:=Yi.1 ae;exact⟨ae,λk hk=>by have:=this k hk;omega⟩
  ·obtain⟨f1,f2⟩:=a4 h;refine⟨ae,?_⟩;rw[f2,Bool.and_assoc];congr 1;unfold Re.whole;rw[Bool.eq_iff_iff,aji,Re.av,ajo]
def gO (g:Bool):VL.Obj:=⟨0,true,1,[[bV g]]⟩
def rM (lv:Bool) (p:eJ):VL.Obj:=⟨0,lv,10,[(oe p).map .d]⟩
def jW (f:FuncId):VL.Obj:=⟨0,true,1,[[.cl (.func f) [] [.rf 0 0 0 0,.rf 1 0 0 0,.rf 2 0 0 0,.rf 3 0 0 0,.rf 4 0 0 0]]]⟩
def WD (p:eJ) (top:Int) (re:Re):Prop:=∀(d sz:Int) (g lv:Bool) (pv:V),(pv=.rf 2 0 0 0\/pv=.d (.el (oe p)))->0<=d->d<=25->0<=sz->sz<=256 ->
 az prog 67 [gH re,i64 d,.rf 0 0 0 0,.rf 1 0 0 0,pv,.rf 3 0 0 0,.rf 4 0 0 0] [pk sz,gO g,rM lv p,pk top,jW 67]
  λv s=>v=bV (re.vw p.ai top d sz g).1/\s=[pk (re.vw p.ai top d sz g).2.1,gO (re.vw p.ai top d sz g).2.2,rM lv p,pk top,jW 67]
theorem Rt (p:eJ) (top:Int) (ht:top<=1114111) (re:Re) (hf:re.cN=true):WD p top re:=by
 revert hf;refine Re.ind (Q:=λre=>re.cN=true->WD p top re) (λre ih hf=>?_) re;obtain⟨rk,hlen,Hc⟩:=Re.fT hf;have WG:=QT re hf p.ai top ht;rw[gH,Re.ah]at WG;simp only[i64,iD,bD]at WG;intro d sz g lv pv nY xf qK nR ef;have w1:IntKind.i64.wrap (sz+1)=sz+1:=bF _ ae;have w2:IntKind.i64.wrap (d+1)=d+1:=bF _ ae;rw[Re.Xr];by_cases hc:256<sz+1\/24<d
 ·rw[be hc];have uz:256<sz+1\/(¬256<sz+1/\24<d):=ae;refine bk func67 ntmps67 results67 5 6442452607 ?_;rcases uz with c1|⟨c1,c2⟩
  ·simp only[zI,simprocAttr,gH,Re.ah re,iD,bD,pk,gO,rM,dE p,jW,bV,w1,c1];all_goals exact ed
  ·simp only[zI,simprocAttr,gH,Re.ah re,iD,bD,pk,gO,rM,dE p,jW,bV,w1,c1,c2];all_goals exact ed
 rw[ap hc];have c1:¬256<sz+1:=λh=>hc (.inl h);have c2:¬24<d:=λh=>hc (.inr h);generalize hG:(g&&bS re p.ai top)=G;rcases nY with rfl|rfl;all_goals
  cases g;all_goals
   refine bk func67 ntmps67 results67 5 6442452607 ?_;simp only[zI,simprocAttr,gH,Re.ah re,iD,bD,pk,gO,rM,dE p,jW,bV,w1,c1,c2];try
    rw[ake]at hG;rw[hG]at WG;refine bO WG ?_;simp only[zI,simprocAttr,iD,bD,bV]
   refine ay (λn e s=>∃i:Nat,n=re.kids.length-i/\i<=re.kids.length/\e 0=gH re/\e 1=i64 d/\e 6=.rf 4 0 0 0/\e 31=i64 re.kids.length/\e 32=i64 i /\
     (Re.tA p.ai top (re.kids.take i) (d+1) (sz+1) G).1=true /\
     s=[pk (Re.tA p.ai top (re.kids.take i) (d+1) (sz+1) G).2.1,gO (Re.tA p.ai top (re.kids.take i) (d+1) (sz+1) G).2.2,rM lv p,pk top,jW 67])
    ⟨_,_,_,bJ.refl,0,rfl,ae,by simp [gH,Re.ah re,iD,bD];rfl,rfl,rfl,rfl,rfl,rfl,by simp only[akc,Re.tA,pk,gO,rM,dE p,jW,i64,bV,iD,bD,aiZ,ai2,<- hG,Bool.false_and]⟩ ?_
   rintro n e s ⟨i,rfl,hi,h0,h1,h6,ZM,Fe,bK,rfl⟩;have Xb:=NO p.ai top (re.kids.take i) (λk _=>WO p.ai top k) (d+1) (sz+1) G ae ae;obtain⟨b1,b2⟩:=Xb.2.2.2 bK;have b3:=(Xb.1.1 bK).1;have b4:=Xb.2.1;rcases ajr i re.kids.length with aB|iA
   ·obtain⟨k,hk⟩:∃k,re.kids[i]?=some k:=bZ aB;have hm:=ai4 hk;have Ee:=Re.So p.ai top (re.kids.take i) k (d+1) (sz+1) G bK;rw[<- bj hk]at Ee;have aav:Re.tA p.ai top re.kids (d+1) (sz+1) G=if (Re.tA p.ai top (re.kids.take (i+1)) (d+1) (sz+1) G).1=true then Re.tA p.ai top (re.kids.drop (i+1)) (d+1) (Re.tA p.ai top (re.kids.take (i+1)) (d+1) (sz+1) G).2.1 (Re.tA p.ai top (re.kids.take (i+1)) (d+1) (sz+1) G).2.2 else Re.tA p.ai top (re.kids.take (i+1)) (d+1) (sz+1) G:=by rw[<- Re.yk,aku]
    have di:=ih k hm (Hc k hm) (d+1) (Re.tA p.ai top (re.kids.take i) (d+1) (sz+1) G).2.1 (Re.tA p.ai top (re.kids.take i) (d+1) (sz+1) G).2.2 lv (.rf 2 0 0 0) (.inl rfl) ae ae b4 ae;rw[<- Ee]at di;simp only[rM,dE p,iD,bD,aiZ,ai2]at di;generalize Re.tA p.ai top (re.kids.take i) (d+1) (sz+1) G=A at *;generalize hB:Re.tA p.ai top (re.kids.take (i+1)) (d+1) (sz+1) G=B at *;obtain⟨B1,B2,B3⟩:=B;simp only[zI,simprocAttr,pk,gO,rM,dE p,jW,bV,h0,h1,h6,ZM,Fe,aB];refine aA mix [] [(0,[4],[]),(9,[0,1,2,3,4],[0,1,2,3,4])] aN ?_;simp only[zI,simprocAttr,pk,gO,rM,dE p,jW,bV,gH,Re.ah re,iD,bD,h0,h1,h6,ZM,Fe,aB,hk,w2];refine Mw di (by intro j hj;simp only[ai8,ai9]at hj;simp only[ajF,ajP,or_false];omega) rfl rfl ?_;cases B1 with
    |false =>
     simp only[ajf,if_false]at aav;rw[aav];simp only[zI,simprocAttr,pk,gO,rM,dE p,jW,bV,h0,h1,h6,ZM,Fe];all_goals exact ed
    |true =>
     simp only[zI,simprocAttr,pk,gO,bV,h0,h1,h6,ZM,Fe];refine⟨re.kids.length-(i+1),_,_,ae,bJ.refl,i+1,rfl,aB,?_,?_,?_,?_,?_,by rw[hB],?_⟩ <;> (try simp only[zU,Nat.reduceBEq,Nat.reduceShiftRight,Nat.reduceMod,Nat.reduceEqDiff,reduceIte])
     ·simpa [gH,Re.ah re,iD,bD]using h0
     ·exact h1
     ·exact h6
     ·exact ZM
     ·rw[bF _ ae];rfl
     ·rw[hB];simp only[rM,dE p,iD,bD,aiZ,ai2];rfl
   ·have dY:i=re.kids.length:=by omega
    subst dY;rw[ajt]at *;simp only[zI,simprocAttr,pk,gO,rM,dE p,jW,bV,h0,h1,h6,ZM,Fe,aj7];rw[bK];all_goals exact ed
end Go.Proofs.Ytfmdmlfhigocaaa
