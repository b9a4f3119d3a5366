/- A part of the proof (F47 F47B F47C F47D F47E F48). -/
import Derived.Test.YtjjfioalgbecmaaGreatOQ35
set_option linter.unusedSimpArgs false
set_option linter.unusedVariables false
open Int renaming reduceEq → D6
set_option maxRecDepth 100000
set_option maxHeartbeats 80000000
namespace Go.Proofs.YtjjfioalgbecmaaGreat
open Go.VL Go.Proofs.Tryz
theorem S0 (re:Re) (hf:re.dx=true) (ai top:Int) (ht:top<=1114111) (wL:re.op=1\/re.op=4\/(¬re.op=0/\¬re.op=1/\¬re.op=2/\¬re.op=3/\¬re.op=4/\¬re.op=5/\¬re.op=6/\¬re.op=7/\¬re.op=8/\¬re.op=9/\¬re.op=10/\¬re.op=11)):aM prog 45 [fA re,i64 ai,i64 top] (bV (bU re ai top)):=by
 obtain⟨si,hlen,Ew⟩:=Re.fP hf;have jO:=Dl re.set si top ht;have hbo:=MW re;rw[fA,Re.ah]at hbo;simp only[i64,iD,bD]at jO hbo;rcases wL with p|p|⟨p0,p1,p2,p3,p4,p5,p6,p7,p8,p9,p10,p11⟩
 case inr.inr =>
  rw[show bU re ai top=false by simp only[bU];rw[ce ae];rfl];by_cases n1:1<=re.n
  ·by_cases n2:re.n<=ai
   ·refine bo func45 ntmps45 results45 0 77371252473350734410155975 ?_;simp only[zI,simprocAttr,fA,Re.ah re,iD,bD,p0,p1,p2,p3,p4,p5,p6,p7,p8,p9,p10,p11,n1,n2];all_goals exact dW
   ·refine bo func45 ntmps45 results45 0 77371252473350734410155975 ?_;simp only[zI,simprocAttr,fA,Re.ah re,iD,bD,p0,p1,p2,p3,p4,p5,p6,p7,p8,p9,p10,p11,n1,n2];all_goals exact dW
  ·refine bo func45 ntmps45 results45 0 77371252473350734410155975 ?_;simp only[zI,simprocAttr,fA,Re.ah re,iD,bD,p0,p1,p2,p3,p4,p5,p6,p7,p8,p9,p10,p11,n1];all_goals exact dW
 case inl =>
  generalize hv:gT re.set top=sv at jO;cases sv;all_goals
   refine bo func45 ntmps45 results45 0 77371252473350734410155975 ?_;simp only[zI,simprocAttr,fA,Re.ah re,iD,bD,p,ajX,aka]
   repeat' (first
 |(with_reducible refine And.intro qH ?_)
 |(with_reducible first|refine jQ (λhc=>?_) (λhc=>?_)|refine dI (λhc=>?_) (λhc=>?_)|refine dH (λhc=>?_) (λhc=>?_)|refine cZ (λhc=>?_) (λhc=>?_)|refine cY (λhc=>?_) (λhc=>?_)|refine gX (λhc=>?_) (λhc=>?_)|refine dF (λhc=>?_) (λhc=>?_))<;>simp only[zI,simprocAttr,iD,bD,p,ajX,aka,hc])
  any_goals
   refine dY jO ?_;simp only[zI,simprocAttr,iD,bD,p,bV,ajX,aka]
  any_goals
   repeat' (first
 |(with_reducible refine And.intro qH ?_)
 |(with_reducible first|refine jQ (λhc=>?_) (λhc=>?_)|refine dI (λhc=>?_) (λhc=>?_)|refine dH (λhc=>?_) (λhc=>?_)|refine cZ (λhc=>?_) (λhc=>?_)|refine cY (λhc=>?_) (λhc=>?_)|refine gX (λhc=>?_) (λhc=>?_)|refine dF (λhc=>?_) (λhc=>?_))<;>simp only[zI,simprocAttr,iD,bD,p,bV,ajX,aka,hc])
  all_goals
   rcases ak6 re.neg with eM|eM;all_goals
    try (exfalso;rw[eM]at hc;exact absurd hc aU;done)
    try simp only[eM,aj0,aj2]
    first
     |(first|refine congrArg bV (Eq.symm (Bool.eq_false_iff.2 λh=>?_))|refine Eq.symm (Bool.eq_false_iff.2 λh=>?_)
       simp only[bU,cr,p,eM,D6,or_self,if_false,or_true,true_or,or_false,false_or,if_true,reduceIte,aj5,decide_eq_true_eq,aj0,aj2,ako,akl,reduceCtorEq,ajY,false_and,and_false,true_and,and_true,hv]at h;try omega
       done)
     |(first|refine congrArg bV (Eq.symm ?_)|refine Eq.symm ?_
       simp only[bU,cr,p,eM,D6,or_self,if_false,or_true,true_or,or_false,false_or,if_true,reduceIte,aj5,decide_eq_true_eq,aj0,aj2,ako,akl,reduceCtorEq,ajY,false_and,and_false,true_and,and_true,hv];try omega
       done)
 case inr.inl =>
  have hb2:HF re=true ↔ (0<=re.mn/\re.mn<=32/\0<=re.mode/\re.mode<=2/\(re.mx=-1\/(1<=re.mx/\re.mx<=32/\re.mn<=re.mx))):=by unfold HF;rw[decide_eq_true_eq]
  generalize hv:HF re=sv at hbo hb2;cases sv;all_goals
   simp only[ajY,false_iff,true_iff]at hb2;refine bo func45 ntmps45 results45 0 77371252473350734410155975 ?_;simp only[zI,simprocAttr,fA,Re.ah re,iD,bD,p,ajX,aka]
   repeat' (first
 |(with_reducible refine And.intro qH ?_)
 |(with_reducible first|refine jQ (λhc=>?_) (λhc=>?_)|refine dI (λhc=>?_) (λhc=>?_)|refine dH (λhc=>?_) (λhc=>?_)|refine cZ (λhc=>?_) (λhc=>?_)|refine cY (λhc=>?_) (λhc=>?_)|refine gX (λhc=>?_) (λhc=>?_)|refine dF (λhc=>?_) (λhc=>?_))<;>simp only[zI,simprocAttr,iD,bD,p,ajX,aka,hc])
  any_goals
   rw[p]at hbo;refine dY hbo ?_;simp only[zI,simprocAttr,iD,bD,p,bV,ajX,aka]
  any_goals
   repeat' (first
 |(with_reducible refine And.intro qH ?_)
 |(with_reducible first|refine jQ (λhc=>?_) (λhc=>?_)|refine dI (λhc=>?_) (λhc=>?_)|refine dH (λhc=>?_) (λhc=>?_)|refine cZ (λhc=>?_) (λhc=>?_)|refine cY (λhc=>?_) (λhc=>?_)|refine gX (λhc=>?_) (λhc=>?_)|refine dF (λhc=>?_) (λhc=>?_))<;>simp only[zI,simprocAttr,iD,bD,p,bV,ajX,aka,hc])
  all_goals
   rcases ak6 re.neg with eM|eM;all_goals
    try (exfalso;rw[eM]at hc;exact absurd hc aU;done)
    try simp only[eM,aj0,aj2]
    first
     |(first|refine congrArg bV (Eq.symm (Bool.eq_false_iff.2 λh=>?_))|refine Eq.symm (Bool.eq_false_iff.2 λh=>?_)
       simp only[bU,cr,p,eM,D6,or_self,if_false,or_true,true_or,or_false,false_or,if_true,reduceIte,aj5,decide_eq_true_eq,aj0,aj2,ako,akl,reduceCtorEq,ajY,false_and,and_false,true_and,and_true]at h;try omega
       done)
     |(first|refine congrArg bV (Eq.symm ?_)|refine Eq.symm ?_
       simp only[bU,cr,p,eM,D6,or_self,if_false,or_true,true_or,or_false,false_or,if_true,reduceIte,aj5,decide_eq_true_eq,aj0,aj2,ako,akl,reduceCtorEq,ajY,false_and,and_false,true_and,and_true];try omega
       done)
theorem T7 (re:Re) (hf:re.dx=true) (ai top:Int) (ht:top<=1114111) (wL:re.op=0\/re.op=2\/re.op=3):aM prog 45 [fA re,i64 ai,i64 top] (bV (bU re ai top)):=by
 obtain⟨si,hlen,Ew⟩:=Re.fP hf;rcases wL with p|p|p;all_goals
  refine bo func45 ntmps45 results45 0 77371252473350734410155975 ?_;simp only[zI,simprocAttr,fA,Re.ah re,iD,bD,p]
  repeat' (first
 |(with_reducible refine And.intro qH ?_)
 |(with_reducible first|refine jQ (λhc=>?_) (λhc=>?_)|refine dI (λhc=>?_) (λhc=>?_)|refine dH (λhc=>?_) (λhc=>?_)|refine cZ (λhc=>?_) (λhc=>?_)|refine cY (λhc=>?_) (λhc=>?_)|refine gX (λhc=>?_) (λhc=>?_)|refine dF (λhc=>?_) (λhc=>?_))<;>simp only[zI,simprocAttr,iD,bD,p,hc])
 all_goals
  rcases ak6 re.neg with eM|eM;all_goals
   try (exfalso;rw[eM]at hc;exact absurd hc aU;done)
   try simp only[eM,aj0,aj2]
   first
    |(refine congrArg bV (Eq.symm (Bool.eq_false_iff.2 λh=>?_))
      simp only[bU,cr,p,eM,D6,or_self,if_false,or_true,true_or,or_false,false_or,if_true,reduceIte,aj5,decide_eq_true_eq,aj0,aj2,ako,akl,reduceCtorEq,ajY,false_and,and_false,true_and,and_true]at h;try omega
      done)
    |(refine congrArg bV (Eq.symm ?_)
      simp only[bU,cr,p,eM,D6,or_self,if_false,or_true,true_or,or_false,false_or,if_true,reduceIte,aj5,decide_eq_true_eq,aj0,aj2,ako,akl,reduceCtorEq,ajY,false_and,and_false,true_and,and_true];try omega
      done)
theorem Uk (re:Re) (hf:re.dx=true) (ai top:Int) (ht:top<=1114111) (wL:re.op=5\/re.op=6\/re.op=7):aM prog 45 [fA re,i64 ai,i64 top] (bV (bU re ai top)):=by
 obtain⟨si,hlen,Ew⟩:=Re.fP hf;rcases wL with p|p|p;all_goals
  refine bo func45 ntmps45 results45 0 77371252473350734410155975 ?_;simp only[zI,simprocAttr,fA,Re.ah re,iD,bD,p]
  repeat' (first
 |(with_reducible refine And.intro qH ?_)
 |(with_reducible first|refine jQ (λhc=>?_) (λhc=>?_)|refine dI (λhc=>?_) (λhc=>?_)|refine dH (λhc=>?_) (λhc=>?_)|refine cZ (λhc=>?_) (λhc=>?_)|refine cY (λhc=>?_) (λhc=>?_)|refine gX (λhc=>?_) (λhc=>?_)|refine dF (λhc=>?_) (λhc=>?_))<;>simp only[zI,simprocAttr,iD,bD,p,hc])
 all_goals
  rcases ak6 re.neg with eM|eM;all_goals
   try (exfalso;rw[eM]at hc;exact absurd hc aU;done)
   try simp only[eM,aj0,aj2]
   first
    |(refine congrArg bV (Eq.symm (Bool.eq_false_iff.2 λh=>?_))
      simp only[bU,cr,p,eM,D6,or_self,if_false,or_true,true_or,or_false,false_or,if_true,reduceIte,aj5,decide_eq_true_eq,aj0,aj2,ako,akl,reduceCtorEq,ajY,false_and,and_false,true_and,and_true]at h;try omega
      done)
    |(refine congrArg bV (Eq.symm ?_)
      simp only[bU,cr,p,eM,D6,or_self,if_false,or_true,true_or,or_false,false_or,if_true,reduceIte,aj5,decide_eq_true_eq,aj0,aj2,ako,akl,reduceCtorEq,ajY,false_and,and_false,true_and,and_true];try omega
      done)
theorem SU (re:Re) (hf:re.dx=true) (ai top:Int) (ht:top<=1114111) (wL:re.op=8\/re.op=9):aM prog 45 [fA re,i64 ai,i64 top] (bV (bU re ai top)):=by
 obtain⟨si,hlen,Ew⟩:=Re.fP hf;rcases wL with p|p;all_goals
  refine bo func45 ntmps45 results45 0 77371252473350734410155975 ?_;simp only[zI,simprocAttr,fA,Re.ah re,iD,bD,p]
  repeat' (first
 |(with_reducible refine And.intro qH ?_)
 |(with_reducible first|refine jQ (λhc=>?_) (λhc=>?_)|refine dI (λhc=>?_) (λhc=>?_)|refine dH (λhc=>?_) (λhc=>?_)|refine cZ (λhc=>?_) (λhc=>?_)|refine cY (λhc=>?_) (λhc=>?_)|refine gX (λhc=>?_) (λhc=>?_)|refine dF (λhc=>?_) (λhc=>?_))<;>simp only[zI,simprocAttr,iD,bD,p,hc])
 all_goals
  rcases ak6 re.neg with eM|eM;all_goals
   try (exfalso;rw[eM]at hc;exact absurd hc aU;done)
   try simp only[eM,aj0,aj2]
   first
    |(refine congrArg bV (Eq.symm (Bool.eq_false_iff.2 λh=>?_))
      simp only[bU,cr,p,eM,D6,or_self,if_false,or_true,true_or,or_false,false_or,if_true,reduceIte,aj5,decide_eq_true_eq,aj0,aj2,ako,akl,reduceCtorEq,ajY,false_and,and_false,true_and,and_true]at h;try omega
      done)
    |(refine congrArg bV (Eq.symm ?_)
      simp only[bU,cr,p,eM,D6,or_self,if_false,or_true,true_or,or_false,false_or,if_true,reduceIte,aj5,decide_eq_true_eq,aj0,aj2,ako,akl,reduceCtorEq,ajY,false_and,and_false,true_and,and_true];try omega
      done)
theorem TX (re:Re) (hf:re.dx=true) (ai top:Int) (ht:top<=1114111) (wL:re.op=10\/re.op=11):aM prog 45 [fA re,i64 ai,i64 top] (bV (bU re ai top)):=by
 obtain⟨si,hlen,Ew⟩:=Re.fP hf;rcases wL with p|p;all_goals
  refine bo func45 ntmps45 results45 0 77371252473350734410155975 ?_;simp only[zI,simprocAttr,fA,Re.ah re,iD,bD,p]
  repeat' (first
 |(with_reducible refine And.intro qH ?_)
 |(with_reducible first|refine jQ (λhc=>?_) (λhc=>?_)|refine dI (λhc=>?_) (λhc=>?_)|refine dH (λhc=>?_) (λhc=>?_)|refine cZ (λhc=>?_) (λhc=>?_)|refine cY (λhc=>?_) (λhc=>?_)|refine gX (λhc=>?_) (λhc=>?_)|refine dF (λhc=>?_) (λhc=>?_))<;>simp only[zI,simprocAttr,iD,bD,p,hc])
 all_goals
  rcases ak6 re.neg with eM|eM;all_goals
   try (exfalso;rw[eM]at hc;exact absurd hc aU;done)
   try simp only[eM,aj0,aj2]
   first
    |(refine congrArg bV (Eq.symm (Bool.eq_false_iff.2 λh=>?_))
      simp only[bU,cr,p,eM,D6,or_self,if_false,or_true,true_or,or_false,false_or,if_true,reduceIte,aj5,decide_eq_true_eq,aj0,aj2,ako,akl,reduceCtorEq,ajY,false_and,and_false,true_and,and_true]at h;try omega
      done)
    |(refine congrArg bV (Eq.symm ?_)
      simp only[bU,cr,p,eM,D6,or_self,if_false,or_true,true_or,or_false,false_or,if_true,reduceIte,aj5,decide_eq_true_eq,aj0,aj2,ako,akl,reduceCtorEq,ajY,false_and,and_false,true_and,and_true];try omega
      done)
theorem P8 (re:Re) (hf:re.dx=true) (ai top:Int) (ht:top<=1114111):aM prog 45 [fA re,i64 ai,i64 top] (bV (bU re ai top)):=by
 have hc:(re.op=0\/re.op=2\/re.op=3)\/(re.op=5\/re.op=6\/re.op=7)\/(re.op=8\/re.op=9)\/(re.op=10\/re.op=11)\/(re.op=1\/re.op=4\/(¬re.op=0/\¬re.op=1/\¬re.op=2/\¬re.op=3/\¬re.op=4/\¬re.op=5/\¬re.op=6/\¬re.op=7/\¬re.op=8/\¬re.op=9/\¬re.op=10/\¬re.op=11)):=ae;rcases hc with h|h|h|h|h
 ·exact T7 re hf ai top ht h
 ·exact Uk re hf ai top ht h
 ·exact SU re hf ai top ht h
 ·exact TX re hf ai top ht h
 ·exact S0 re hf ai top ht h
mutual
def Re.vw (ai top:Int):Re->Int->Int->Bool->Bool×Int×Bool
 |.mk op set kids mn mx mode n neg,d,sz,g =>
  if 256<sz+1\/24<d then (false,sz+1,g) else Re.sr ai top kids (d+1) (sz+1) (g&&bU (.mk op set kids mn mx mode n neg) ai top)
def Re.sr (ai top:Int):List Re->Int->Int->Bool->Bool×Int×Bool
 |[],_,sz,g=>(true,sz,g)
 |k::l,d,sz,g=>if (Re.vw ai top k d sz g).1=true then Re.sr ai top l d (Re.vw ai top k d sz g).2.1 (Re.vw ai top k d sz g).2.2 else Re.vw ai top k d sz g
end
theorem Re.XQ (ai top:Int) (re:Re) (d sz:Int) (g:Bool):re.vw ai top d sz g=if 256<sz+1\/24<d then (false,sz+1,g) else Re.sr ai top re.kids (d+1) (sz+1) (g&&bU re ai top):=by
 cases re;simp [Re.vw,Re.kids]
theorem Re.xb (ai top:Int):∀(a b:List Re) (d sz:Int) (g:Bool),Re.sr ai top (a++b) d sz g=if (Re.sr ai top a d sz g).1=true then Re.sr ai top b d (Re.sr ai top a d sz g).2.1 (Re.sr ai top a d sz g).2.2 else Re.sr ai top a d sz g
 |[],b,d,sz,g=>by simp [Re.sr]
 |k::a,b,d,sz,g=>by
  simp only[ajN,Re.sr];split
  ·exact Re.xb ai top a b d _ _
  ·rename_i h;first|rfl|rw[ap h]
theorem Re.RY (ai top:Int) (a:List Re) (k:Re) (d sz:Int) (g:Bool) (h:(Re.sr ai top a d sz g).1=true):Re.sr ai top (a++[k]) d sz g=k.vw ai top d (Re.sr ai top a d sz g).2.1 (Re.sr ai top a d sz g).2.2:=by
 rw[Re.xb,be h];simp only[Re.sr];split
 ·rename_i hk;exact Prod.ext hk.symm rfl
 ·rfl
def Yw (ai top:Int) (re:Re):Prop:=∀(d sz:Int) (g:Bool),0<=sz->sz<=256 ->
 ((re.vw ai top d sz g).1=true ↔ (sz+re.size<=256/\d+re.depth-1<=24))/\0<=(re.vw ai top d sz g).2.1/\(re.vw ai top d sz g).2.1<=257 /\
 ((re.vw ai top d sz g).1=true->(re.vw ai top d sz g).2.1=sz+re.size/\(re.vw ai top d sz g).2.2=(g&&re.whole ai top))
theorem M1 (ai top:Int):∀(l:List Re),(∀k∈l,Yw ai top k)->∀(d sz:Int) (g:Bool),0<=sz->sz<=256 ->
  ((Re.sr ai top l d sz g).1=true ↔ (sz+Re.dw l<=256/\∀k∈l,d+k.depth-1<=24))/\0<=(Re.sr ai top l d sz g).2.1/\(Re.sr ai top l d sz g).2.1<=257 /\
  ((Re.sr ai top l d sz g).1=true->(Re.sr ai top l d sz g).2.1=sz+Re.dw l/\(Re.sr ai top l d sz g).2.2=(g&&l.all λk=>k.whole ai top))
 |[],_,d,sz,g,h0,h1=>by simp only[Re.sr,Re.dw];exact⟨⟨λ_=>⟨ae,λk hk=>by cases hk⟩,λ_=>trivial⟩,h0,ae,λ_=>⟨ae,ak⟩⟩
 |k::l,hk,d,sz,g,h0,h1=>by
  obtain⟨a1,a2,a3,a4⟩:=hk k ak d sz g h0 h1;simp only[Re.sr,Re.dw];split
  ·rename_i ht;obtain⟨b1,b2⟩:=a4 ht;obtain⟨c1,c2⟩:=a1.1 ht;obtain⟨e1,e2,e3,e4⟩:=M1 ai top l (λx hx=>hk x (by simp [hx])) d (k.vw ai top d sz g).2.1 (k.vw ai top d sz g).2.2 a2 ae;refine⟨?_,e2,e3,λh=>?_⟩
   ·rw[e1,b1];constructor
    ·rintro ⟨f1,f2⟩;refine⟨ae,λx hx=>?_⟩;rcases List.mem_cons.1 hx with rfl|hx
     ·exact c2
     ·exact f2 x hx
    ·rintro ⟨f1,f2⟩;exact⟨ae,λx hx=>f2 x (by simp [hx])⟩
   ·obtain⟨f1,f2⟩:=e4 h;refine⟨ae,?_⟩;rw[f2,b2,aks,Bool.and_assoc]
  ·rename_i ht;refine⟨⟨λh=>absurd h ht,λ⟨f1,f2⟩=>absurd (a1.2 ⟨ae,f2 k ak⟩) ht⟩,a2,a3,λh=>absurd h ht⟩
theorem Ht (re:Re) (b:Int) (hb:0<=b):re.depth-1<=b ↔ ∀k∈re.kids,k.depth<=b:=by
 rw[Re.tc];constructor
 ·intro h k hk;have:∀(l:List Int) (a x:Int),x∈l->x<=l.foldl max a:=by
   intro l;induction l with
   |nil=>intro a x hx;cases hx
   |cons y l ih =>
    intro a x hx;rcases List.mem_cons.1 hx with rfl|hx
    ·exact ald ae (nL l (max a x))
    ·exact ih (max a y) x hx
  have:=this (re.kids.map Re.depth) 0 k.depth (List.mem_map.2 ⟨k,hk,rfl⟩);unfold xn at h;omega
 ·intro h;have:=nG (b:=b) (re.kids.map Re.depth) 0 hb (λx hx=>by obtain⟨k,hk,rfl⟩:=List.mem_map.1 hx;exact h k hk);unfold xn;omega
theorem Xi (ai top:Int) (re:Re):Yw ai top re:=by
 refine Re.ind (Q:=Yw ai top) (λre ih=>?_) re;intro d sz g h0 h1;have hd:=Re.Jy re;have hp:=re.size_pos;rw[Re.XQ,Re.size_eq];split
 ·rename_i hc;simp only;refine⟨⟨λh=>(by cases h),λh=>?_⟩,ae,ae,λh=>(by cases h)⟩;have hdp:1<=re.depth:=by rw[Re.tc];have:=nL (re.kids.map Re.depth) 0;unfold xn;omega
  omega
 ·rename_i hc;obtain⟨a1,a2,a3,a4⟩:=M1 ai top re.kids ih (d+1) (sz+1) (g&&bU re ai top) ae ae;refine⟨?_,a2,a3,λh=>?_⟩
  ·rw[a1];have Xv:=Ht re (24-d) ae;constructor
   ·rintro ⟨f1,f2⟩;have:=Xv.2 (λk hk=>by have:=f2 k hk;omega);omega
   ·rintro ⟨f1,f2⟩;have:=Xv.1 ae;exact⟨ae,λk hk=>by have:=this k hk;omega⟩
  ·obtain⟨f1,f2⟩:=a4 h;refine⟨ae,?_⟩;rw[f2,Bool.and_assoc];congr 1;unfold Re.whole;rw[Bool.eq_iff_iff,aj5,Re.aD,aj3]
def gO (g:Bool):VL.Obj:=⟨0,true,1,[[bV g]]⟩
def qG (lv:Bool) (p:iM):VL.Obj:=⟨0,lv,10,[(DZ p).map .d]⟩
def jo (f:FuncId):VL.Obj:=⟨0,true,1,[[.cl (.func f) [] [.rf 0 0 0 0,.rf 1 0 0 0,.rf 2 0 0 0,.rf 3 0 0 0,.rf 4 0 0 0]]]⟩
def W6 (p:iM) (top:Int) (re:Re):Prop:=∀(d sz:Int) (g lv:Bool) (pv:V),(pv=.rf 2 0 0 0\/pv=.d (.el (DZ p)))->0<=d->d<=25->0<=sz->sz<=256 ->
 ar prog 44 [fA re,i64 d,.rf 0 0 0 0,.rf 1 0 0 0,pv,.rf 3 0 0 0,.rf 4 0 0 0] [nW sz,gO g,qG lv p,nW top,jo 44]
  λv s=>v=bV (re.vw p.ai top d sz g).1/\s=[nW (re.vw p.ai top d sz g).2.1,gO (re.vw p.ai top d sz g).2.2,qG lv p,nW top,jo 44]
theorem QY (p:iM) (top:Int) (ht:top<=1114111) (re:Re) (hf:re.dx=true):W6 p top re:=by
 revert hf;refine Re.ind (Q:=λre=>re.dx=true->W6 p top re) (λre ih hf=>?_) re;obtain⟨si,hlen,Ew⟩:=Re.fP hf;have Xa:=P8 re hf p.ai top ht;rw[fA,Re.ah]at Xa;simp only[i64,iD,bD]at Xa;intro d sz g lv pv mj xt qh kA dM;have w1:IntKind.i64.wrap (sz+1)=sz+1:=bG _ ae;have w2:IntKind.i64.wrap (d+1)=d+1:=bG _ ae;rw[Re.XQ];by_cases hc:256<sz+1\/24<d
 ·rw[be hc];have nO:256<sz+1\/(¬256<sz+1/\24<d):=ae;refine bo func44 ntmps44 results44 5 6442452607 ?_;rcases nO with c1|⟨c1,c2⟩
  ·simp only[zI,simprocAttr,fA,Re.ah re,iD,bD,nW,gO,qG,iZ p,jo,bV,w1,c1];all_goals exact dW
  ·simp only[zI,simprocAttr,fA,Re.ah re,iD,bD,nW,gO,qG,iZ p,jo,bV,w1,c1,c2];all_goals exact dW
 rw[ap hc];have c1:¬256<sz+1:=λh=>hc (.inl h);have c2:¬24<d:=λh=>hc (.inr h);generalize hG:(g&&bU re p.ai top)=G;rcases mj with rfl|rfl;all_goals
  cases g;all_goals
   refine bo func44 ntmps44 results44 5 6442452607 ?_;simp only[zI,simprocAttr,fA,Re.ah re,iD,bD,nW,gO,qG,iZ p,jo,bV,w1,c1,c2];try
    rw[ak5]at hG;rw[hG]at Xa;refine dY Xa ?_;simp only[zI,simprocAttr,iD,bD,bV]
   refine aw (λn e s=>∃i:Nat,n=re.kids.length-i/\i<=re.kids.length/\e 0=fA re/\e 1=i64 d/\e 6=.rf 4 0 0 0/\e 31=i64 re.kids.length/\e 32=i64 i /\
     (Re.sr p.ai top (re.kids.take i) (d+1) (sz+1) G).1=true /\
     s=[nW (Re.sr p.ai top (re.kids.take i) (d+1) (sz+1) G).2.1,gO (Re.sr p.ai top (re.kids.take i) (d+1) (sz+1) G).2.2,qG lv p,nW top,jo 44])
    ⟨_,_,_,bA.refl,0,rfl,ae,by simp [fA,Re.ah re,iD,bD];rfl,rfl,rfl,rfl,rfl,rfl,by simp only[akW,Re.sr,nW,gO,qG,iZ p,jo,i64,bV,iD,bD,ajR,ajV,<- hG,Bool.false_and]⟩ ?_
   rintro n e s ⟨i,rfl,hi,h0,h1,h6,U0,Ba,bX,rfl⟩;have XD:=M1 p.ai top (re.kids.take i) (λk _=>Xi p.ai top k) (d+1) (sz+1) G ae ae;obtain⟨b1,b2⟩:=XD.2.2.2 bX;have b3:=(XD.1.1 bX).1;have b4:=XD.2.1;rcases akd i re.kids.length with az|gx
   ·obtain⟨k,hk⟩:∃k,re.kids[i]?=some k:=cc az;have hm:=List.mem_of_getElem? hk;have BK:=Re.RY p.ai top (re.kids.take i) k (d+1) (sz+1) G bX;rw[<- bm hk]at BK;have aaP:Re.sr p.ai top re.kids (d+1) (sz+1) G=if (Re.sr p.ai top (re.kids.take (i+1)) (d+1) (sz+1) G).1=true then Re.sr p.ai top (re.kids.drop (i+1)) (d+1) (Re.sr p.ai top (re.kids.take (i+1)) (d+1) (sz+1) G).2.1 (Re.sr p.ai top (re.kids.take (i+1)) (d+1) (sz+1) G).2.2 else Re.sr p.ai top (re.kids.take (i+1)) (d+1) (sz+1) G:=by rw[<- Re.xb,List.take_append_drop]
    have vE:=ih k hm (Ew k hm) (d+1) (Re.sr p.ai top (re.kids.take i) (d+1) (sz+1) G).2.1 (Re.sr p.ai top (re.kids.take i) (d+1) (sz+1) G).2.2 lv (.rf 2 0 0 0) (.inl rfl) ae ae b4 ae;rw[<- BK]at vE;simp only[qG,iZ p,iD,bD,ajR,ajV]at vE;generalize Re.sr p.ai top (re.kids.take i) (d+1) (sz+1) G=A at *;generalize hB:Re.sr p.ai top (re.kids.take (i+1)) (d+1) (sz+1) G=B at *;obtain⟨B1,B2,B3⟩:=B;simp only[zI,simprocAttr,nW,gO,qG,iZ p,jo,bV,h0,h1,h6,U0,Ba,az];refine cu mix [] [(0,[4],[]),(9,[0,1,2,3,4],[0,1,2,3,4])] ?_;simp only[zI,simprocAttr,nW,gO,qG,iZ p,jo,bV,fA,Re.ah re,iD,bD,h0,h1,h6,U0,Ba,az,hk,w2];refine LU vE (by intro j hj;simp only[ajW,ajX]at hj;simp only[akD,List.not_mem_nil,or_false];omega) rfl rfl ?_;cases B1 with
    |false =>
     simp only[ajY,if_false]at aaP;rw[aaP];simp only[zI,simprocAttr,nW,gO,qG,iZ p,jo,bV,h0,h1,h6,U0,Ba];all_goals exact dW
    |true =>
     simp only[zI,simprocAttr,nW,gO,bV,h0,h1,h6,U0,Ba];refine⟨re.kids.length-(i+1),_,_,ae,bA.refl,i+1,rfl,az,?_,?_,?_,?_,?_,by rw[hB],?_⟩ <;> (try simp only[zU,Nat.reduceBEq,Nat.reduceShiftRight,Nat.reduceMod,Nat.reduceEqDiff,reduceIte])
     ·simpa [fA,Re.ah re,iD,bD]using h0
     ·exact h1
     ·exact h6
     ·exact U0
     ·rw[bG _ ae];rfl
     ·rw[hB];simp only[qG,iZ p,iD,bD,ajR,ajV];rfl
   ·have dX:i=re.kids.length:=by omega
    subst dX;rw[akg]at *;simp only[zI,simprocAttr,nW,gO,qG,iZ p,jo,bV,h0,h1,h6,U0,Ba,ak9];rw[bX];all_goals exact dW
end Go.Proofs.YtjjfioalgbecmaaGreat
