/- A part of the proof (F12 F30 F22 F31 F34 F35 F36 F14 F23 F24). -/
import Derived.Test.YtjjfioalgbecmaaGreatOQ22
set_option linter.unusedSimpArgs false
set_option linter.unusedVariables false
open Nat renaming reduceShiftRight → jN, reduceMod → oN, reduceEqDiff → oV, reduceBEq → pZ
open Int renaming reduceEq → D6
set_option maxRecDepth 100000
set_option maxHeartbeats 80000000
namespace Go.Proofs.YtjjfioalgbecmaaGreat
open Go.VL Go.Proofs.Tryz
structure iM where
 re:Re
 ai:Int
 aB:Bool
def bI (p:iM):V:=.ag (p.re.cells.map .d++[i64 p.ai,bV p.aB])
def ma (l:List Int) (cL most:Int):iM :=
 let x:=Mk.tree 5 ⟨l,0,cL,most,0⟩
 ⟨x.1,x.2.ai,false⟩
theorem RE (ρ:List Nat) (m:Mk):aN ρ (kR m)=kR m:=rfl
theorem B9 (re:Re) (l:List V):(re.cells.map V.d++l).take 8=re.cells.map V.d:=List.take_left' (by simp [Re.kM])
theorem DI (re:Re) (l:List V) (n:Nat):(re.cells.map V.d++l).drop (n+8)=l.drop n:=by rw[Nat.add_comm,<- List.drop_drop,List.drop_left' (by simp [Re.kM])]
theorem MR (l:List Int) (cL most:Int) (hl:∀x∈l,l9 x) (h0:0<=most) (h1:most<=1000000):aM prog 46 [.d (ao l),i64 cL,i64 most] (bI (ma l cL most)):=by refine bo func46 ntmps46 results46 0 455 ?_;simp only[zW,simprocAttr,i64];refine Im 1 (Pl 5 ae aU ⟨l,0,cL,most,0⟩ 0 ae ⟨hl,ak,ak,by simpa using h0,h1,ak,ak⟩ aU) rfl rfl rfl rfl (yj _ _) ?_;rw[RE];have hR:ma l cL most=⟨(Mk.tree 5 ⟨l,0,cL,most,0⟩).1,(Mk.tree 5 ⟨l,0,cL,most,0⟩).2.ai,false⟩:=rfl;rw[hR];generalize Mk.tree 5 ⟨l,0,cL,most,0⟩=R;simp only[zW,simprocAttr,i64];refine cu mix [6] [] ?_;simp only[zJ,simprocAttr,kR,B9,DI,ajQ];simp only[zW,simprocAttr,Re.ah,bI,bV,i64]
end Go.Proofs.YtjjfioalgbecmaaGreat
namespace Go.Proofs.YtjjfioalgbecmaaGreat
open Go.VL Go.Proofs.Tryz
def nW (c:Int):VL.Obj:=⟨0,true,1,[[i64 c]]⟩
mutual
def Re.depth:Re->Int
 |.mk _ _ kids _ _ _ _ _=>Re.Dn kids 0+1
def Re.Dn:List Re->Int->Int
 |[],a=>a
 |k::l,a=>Re.Dn l (max a k.depth)
end
def xn (l:List Int):Int:=l.foldl max 0
theorem Re.GB:∀(l:List Re) (a:Int),Re.Dn l a=(l.map Re.depth).foldl max a
 |[],a=>by simp [Re.Dn]
 |k::l,a=>by simp [Re.Dn,Re.GB l]
theorem Re.tc (re:Re):re.depth=xn (re.kids.map Re.depth)+1:=by
 cases re;simp [Re.depth,Re.GB,Re.kids,xn]
theorem Qf (l:List Int) (k:Int):xn (l++[k])=max (xn l) k:=by simp [xn,ak7]
theorem nG {b:Int}:∀(l:List Int) (a:Int),a<=b->(∀x∈l,x<=b)->l.foldl max a<=b
 |[],a,h,_=>h
 |x::l,a,h,hl=>nG l (max a x) (by have:=hl x ak;omega) (λy hy=>hl y (by simp [hy]))
theorem nL:∀(l:List Int) (a:Int),a<=l.foldl max a
 |[],a=>akc _
 |x::l,a=>ald ae (nL l (max a x))
theorem Re.Jy (re:Re):0<=re.depth/\re.depth<=re.size:=by
 refine Re.ind (Q:=λre=>0<=re.depth/\re.depth<=re.size) (λre ih=>?_) re;rw[Re.tc,Re.size_eq];have h1:=nL (re.kids.map Re.depth) 0;have h2:xn (re.kids.map Re.depth)<=(Re.dw re.kids:Nat):=nG _ _ ae (λx hx=>by
  obtain⟨k,hk,rfl⟩:=List.mem_map.1 hx;have:=Re.y8 hk;have:=(ih k hk).2;omega)
 unfold xn at *;omega
theorem Ja (re:Re) (hs:re.size<=1000000000):aM prog 93 [sN re] (i64 re.depth):=by
 revert hs;refine Re.ind (Q:=λre=>re.size<=1000000000->aM prog 93 [sN re] (i64 re.depth)) (λre ih hs=>?_) re;have hlen:=Re.pR re.kids;have eZ:=Re.size_eq re;have hd:=Re.Jy re;rw[Re.tc]at hd ⊢;refine bo func93 ntmps93 results93 0 31 ?_;simp only[zJ,simprocAttr,av re,iD,bD];refine aw (λn e s=>∃i:Nat,n=re.kids.length-i/\i<=re.kids.length/\e 1=.rf 0 0 0 0/\e 3=i64 (xn ((re.kids.take i).map Re.depth))/\e 4=i64 i/\s=[⟨0,true,8,[re.cells.map .d]⟩])
  ⟨_,_,_,bA.refl,0,rfl,ae,rfl,rfl,rfl,by rw[Re.ah re];rfl⟩ ?_
 rintro n e s ⟨i,rfl,hi,h1,h3,h4,rfl⟩;rcases akd i re.kids.length with az|gx
 ·obtain⟨k,hk⟩:∃k,re.kids[i]?=some k:=cc az;have hm:=List.mem_of_getElem? hk;have UF:=Re.de hm;simp only[zJ,simprocAttr,Re.ah re,iD,bD,h1,h3,h4,az,hk];refine dY (ih k hm ae) ?_;simp only[zJ,simprocAttr,Re.ah re,iD,bD,h1,h3,h4];refine⟨re.kids.length-(i+1),_,_,ae,bA.refl,i+1,rfl,az,?_,?_,?_,rfl⟩ <;> (try simp only[zU,pZ,jN,oN,oV,reduceIte])
  ·exact h1
  ·rw[bm hk,akF,ajR,ajV,Qf]
  ·rw[bG _ ae];rfl
 ·have dX:i=re.kids.length:=by omega
  subst dX;rw[akg]at h3;have w1:IntKind.i64.wrap (xn (re.kids.map Re.depth)+1)=xn (re.kids.map Re.depth)+1:=bG _ ae;simp only[zJ,simprocAttr,Re.ah re,iD,bD,h1,h3,h4,ak9,w1];all_goals exact dW
def cr (op:Int):Int×Int :=
 if op=2\/op=3 then (2,-1) else if op=4\/op=5\/op=7\/op=8\/op=9 then (1,1) else if op=10 then (2,2) else (0,0)
theorem M3 (op:Int):aM prog 133 [i64 op] (.tu [i64 (cr op).1,i64 (cr op).2]):=by
 have wg:op=2\/op=3\/op=4\/op=5\/op=7\/op=8\/op=9\/op=10\/(¬op=2/\¬op=3/\¬op=4/\¬op=5/\¬op=7/\¬op=8/\¬op=9/\¬op=10):=ae;rcases wg with p|p|p|p|p|p|p|p|⟨p1,p2,p3,p4,p5,p6,p7,p8⟩
 all_goals
  first
   |(rw[p]
     refine bo func133 ntmps133 results133 0 317 ?_;simp only[zW,simprocAttr,i64];all_goals exact dW)
   |(rw[show cr op=(0,0) by simp [cr,p1,p2,p3,p4,p5,p6,p7,p8]]
     refine bo func133 ntmps133 results133 0 317 ?_;simp only[zJ,simprocAttr,p1,p2,p3,p4,p5,p6,p7,p8];all_goals exact dW)
def jS (top:Int):Int->List (Int×Int)->Bool
 |_,[]=>true
 |p,s::l=>decide (0<=s.1/\s.1<=s.2/\s.2<=top/\p+1<s.1)&&jS top s.2 l
def gT (l:List (Int×Int)) (top:Int):Bool:=decide (l.length<=64)&&jS top (-2) l
def fM (l:List (Int×Int)):Nat->Int
 |0=>-2
 |i+1=>(l[i]?.map (·.2)).getD 0
theorem KG (l:List (Int×Int)) (hl:l.length<=1000000000) (top:Int) (ht:top<=1114111):aM prog 134 [.d (.sl (l.map aT)),i64 top] (bV (gT l top)):=by
 refine bo func134 ntmps134 results134 0 51 ?_;by_cases h64:(64:Int)<l.length
 ·simp only[zI,simprocAttr,h64];have:¬l.length<=64:=ae;simp [gT,bV,this]
 have Yr:l.length<=64:=ae;have hR:gT l top=jS top (-2) l:=by simp [gT,Yr]
 rw[hR];simp only[zI,simprocAttr,h64];refine aw (λn e s=>∃i:Nat,n=l.length-i/\i<=l.length/\e 0=.d (.sl (l.map aT))/\e 1=i64 top/\e 5=i64 i/\s=[]/\jS top (-2) l=jS top (fM l i) (l.drop i)/\(0<i->0<=fM l i/\fM l i<=top))
  ⟨_,_,_,bA.refl,0,rfl,ae,rfl,rfl,rfl,rfl,rfl,λh=>absurd h ae⟩ ?_
 rintro n e s ⟨i,rfl,hi,h0,h1,h5,rfl,jO,mj⟩;rcases akd i l.length with az|gx
 ·obtain⟨k,hk⟩:∃k,l[i]?=some k:=cc az;have hd:l.drop i=k::l.drop (i+1):=by rw[alc az];rw[List.getElem?_eq_getElem az]at hk;simp only[ajU]at hk;rw[hk]
  rw[hd]at jO;simp only[jS]at jO;have oM:fM l (i+1)=k.2:=by simp [fM,hk]
  simp only[zI,simprocAttr,h0,h1,h5,az];refine cu mix [] [] ?_;cases i with
  |zero =>
   have jO:jS top (-2) l=(decide (0<=k.1/\k.1<=k.2/\k.2<=top/\-2+1<k.1)&&jS top k.2 (l.drop (0+1))):=jO;simp only[zI,simprocAttr,h0,h1,h5,hk,aT,iD,aka]
   repeat' (first
 |(with_reducible refine And.intro qH ?_)
 |(with_reducible first|refine jQ (λhc=>?_) (λhc=>?_)|refine dI (λhc=>?_) (λhc=>?_)|refine dH (λhc=>?_) (λhc=>?_)|refine cZ (λhc=>?_) (λhc=>?_)|refine cY (λhc=>?_) (λhc=>?_)|refine gX (λhc=>?_) (λhc=>?_)|refine dF (λhc=>?_) (λhc=>?_))<;>simp only[zI,simprocAttr,h0,h1,h5,hk,aT,iD,aka,hc])
   any_goals (refine congrArg bV (Eq.symm ?_);rw[jO,show decide (0<=k.1/\k.1<=k.2/\k.2<=top/\-2+1<k.1)=false from ce ae];rfl)
   refine⟨l.length-1,_,_,ae,bA.refl,1,rfl,az,?_,?_,?_,rfl,?_,?_⟩ <;> (try simp only[zU,pZ,jN,oN,oV,reduceIte])
   ·exact h0
   ·exact h1
   ·rw[bG _ ae];rfl
   ·rw[jO,oM,show decide (0<=k.1/\k.1<=k.2/\k.2<=top/\-2+1<k.1)=true from bi ae];rfl
   ·intro _;rw[oM];omega
  |succ j =>
   obtain⟨kp,zv⟩:∃k,l[j]?=some k:=⟨_,List.getElem?_eq_getElem (by omega:j<l.length)⟩
   have IK:fM l (j+1)=kp.2:=by simp [fM,zv]
   have mj:=mj ae;rw[IK]at mj jO;have w1:IntKind.i64.wrap (((j+1:Nat):Int)-1)=(j:Int):=by rw[bG _ ae];omega
   have w2:IntKind.i64.wrap (kp.2+1)=kp.2+1:=bG _ ae;have p0:(0:Int)<((j+1:Nat):Int):=ae;have q0:(0:Int)<=((j+1:Nat):Int):=ae;have q1:((j+1:Nat):Int)<l.length:=ae;have q2:(j:Int)<l.length:=ae;simp only[zI,simprocAttr,h0,h1,h5,hk,aT,iD,zv,w1,w2,p0,q0,q1,q2]
   repeat' (first
 |(with_reducible refine And.intro qH ?_)
 |(with_reducible first|refine jQ (λhc=>?_) (λhc=>?_)|refine dI (λhc=>?_) (λhc=>?_)|refine dH (λhc=>?_) (λhc=>?_)|refine cZ (λhc=>?_) (λhc=>?_)|refine cY (λhc=>?_) (λhc=>?_)|refine gX (λhc=>?_) (λhc=>?_)|refine dF (λhc=>?_) (λhc=>?_))<;>simp only[zI,simprocAttr,h0,h1,h5,hk,aT,iD,zv,w1,w2,p0,q0,q1,q2,hc])
   any_goals (refine congrArg bV (Eq.symm ?_);rw[jO,show decide (0<=k.1/\k.1<=k.2/\k.2<=top/\kp.2+1<k.1)=false from ce ae];rfl)
   refine⟨l.length-(j+1+1),_,_,ae,bA.refl,j+1+1,rfl,az,?_,?_,?_,rfl,?_,?_⟩ <;> (try simp only[zU,pZ,jN,oN,oV,reduceIte])
   ·exact h0
   ·exact h1
   ·rw[bG _ ae];rfl
   ·rw[jO,oM,show decide (0<=k.1/\k.1<=k.2/\k.2<=top/\kp.2+1<k.1)=true from bi ae];rfl
   ·intro _;rw[oM];omega
 ·have dX:i=l.length:=by omega
  subst dX;simp only[zI,simprocAttr,h0,h1,h5,ak9];rw[jO];simp [jS,bV]
def bU (re:Re) (ai top:Int):Bool :=
 decide (0<=re.op/\re.op<=11/\(cr re.op).1<=re.kids.length/\((cr re.op).2<0\/(re.kids.length:Int)<=(cr re.op).2)) &&
 ((if re.op=1 then gT re.set top else decide (re.set.length=0)) &&
 ((if re.op=4 then decide (0<=re.mn/\re.mn<=32/\-1<=re.mx/\re.mx≠0/\re.mx<=32/\(0<re.mx->re.mn<=re.mx)/\0<=re.mode/\re.mode<=2) else decide (re.mn=0/\re.mx=0/\re.mode=0)) &&
 ((if re.op=5\/re.op=6\/re.op=10 then decide (1<=re.n/\re.n<=ai) else if re.op=11 then decide (0<=re.n/\re.n<=5) else decide (re.n=0)) &&
 (!re.neg||decide (re.op=7\/re.op=8)))))
theorem HD (re:Re) (hf:re.dx=true) (ai top:Int) (ht:top<=1114111):aM prog 117 [sN re,i64 ai,i64 top] (bV (bU re ai top)):=by
 obtain⟨si,hlen,Ew⟩:=Re.fP hf;have jO:=KG re.set si top ht;have XV:=M3 re.op;by_cases ho:re.op<0\/11<re.op
 ·rw[show bU re ai top=false by simp only[bU];rw[ce ae];rfl];have SB:re.op<0\/(¬re.op<0/\11<re.op):=ae;refine bo func117 ntmps117 results117 0 361550014853497117429835520396253725135 ?_;simp only[zI,simprocAttr,av re,iD,bD];refine dY XV ?_;rcases SB with h1|⟨h1,h2⟩
  ·simp only[zI,simprocAttr,av re,iD,bD,h1];rfl
  ·simp only[zI,simprocAttr,av re,iD,bD,h1,h2];rfl
 ·have hc:re.op=0\/re.op=1\/re.op=2\/re.op=3\/re.op=4\/re.op=5\/re.op=6\/re.op=7\/re.op=8\/re.op=9\/re.op=10\/re.op=11:=by omega
  clear ho;rcases hc with p|p|p|p|p|p|p|p|p|p|p|p
  case inr.inl =>
   rw[p]at XV;simp only[cr,D6,or_self,if_false,or_true,true_or,or_false,false_or,if_true,reduceIte]at XV;generalize hv:gT re.set top=sv at jO;cases sv;all_goals
    refine bo func117 ntmps117 results117 0 361550014853497117429835520396253725135 ?_;simp only[zI,simprocAttr,av re,iD,bD,p];refine dY XV ?_;simp only[zI,simprocAttr,av re,iD,bD,p]
    repeat' (first
 |(with_reducible refine And.intro qH ?_)
 |(with_reducible first|refine jQ (λhc=>?_) (λhc=>?_)|refine dI (λhc=>?_) (λhc=>?_)|refine dH (λhc=>?_) (λhc=>?_)|refine cZ (λhc=>?_) (λhc=>?_)|refine cY (λhc=>?_) (λhc=>?_)|refine gX (λhc=>?_) (λhc=>?_)|refine dF (λhc=>?_) (λhc=>?_))<;>simp only[zI,simprocAttr,av re,iD,bD,p,hc])
   any_goals
    refine dY jO ?_;simp only[zI,simprocAttr,av re,iD,bD,p,bV]
   any_goals
    repeat' (first
 |(with_reducible refine And.intro qH ?_)
 |(with_reducible first|refine jQ (λhc=>?_) (λhc=>?_)|refine dI (λhc=>?_) (λhc=>?_)|refine dH (λhc=>?_) (λhc=>?_)|refine cZ (λhc=>?_) (λhc=>?_)|refine cY (λhc=>?_) (λhc=>?_)|refine gX (λhc=>?_) (λhc=>?_)|refine dF (λhc=>?_) (λhc=>?_))<;>simp only[zI,simprocAttr,av re,iD,bD,p,bV,hc])
   all_goals
    rcases ak6 re.neg with eM|eM;all_goals
     try (exfalso;rw[eM]at hc;exact absurd hc aU;done)
     try first
      |(first|refine congrArg bV (Eq.symm (Bool.eq_false_iff.2 λh=>?_))|refine Eq.symm (Bool.eq_false_iff.2 λh=>?_)
        simp only[bU,cr,p,eM,hv,D6,or_self,if_false,or_true,true_or,or_false,false_or,if_true,reduceIte,aj5,decide_eq_true_eq,aj0,aj2,ako,akl,reduceCtorEq,ajY,false_and,and_false,true_and,and_true]at h;try omega
        done)
      |(first|refine congrArg bV (Eq.symm ?_)|refine Eq.symm ?_
        simp only[bU,cr,p,eM,hv,D6,or_self,if_false,or_true,true_or,or_false,false_or,if_true,reduceIte,aj5,decide_eq_true_eq,aj0,aj2,ako,akl,reduceCtorEq,ajY,false_and,and_false,true_and,and_true];try omega
        done)
  all_goals
   rw[p]at XV;simp only[cr,D6,or_self,if_false,or_true,true_or,or_false,false_or,if_true,reduceIte]at XV;refine bo func117 ntmps117 results117 0 361550014853497117429835520396253725135 ?_;simp only[zI,simprocAttr,av re,iD,bD,p];refine dY XV ?_;simp only[zI,simprocAttr,av re,iD,bD,p]
   repeat' (first
 |(with_reducible refine And.intro qH ?_)
 |(with_reducible first|refine jQ (λhc=>?_) (λhc=>?_)|refine dI (λhc=>?_) (λhc=>?_)|refine dH (λhc=>?_) (λhc=>?_)|refine cZ (λhc=>?_) (λhc=>?_)|refine cY (λhc=>?_) (λhc=>?_)|refine gX (λhc=>?_) (λhc=>?_)|refine dF (λhc=>?_) (λhc=>?_))<;>simp only[zI,simprocAttr,av re,iD,bD,p,hc])
  all_goals
   rcases ak6 re.neg with eM|eM;all_goals
    try (exfalso;rw[eM]at hc;exact absurd hc aU;done)
    try first
     |(refine congrArg bV (Eq.symm (Bool.eq_false_iff.2 λh=>?_))
       simp only[bU,cr,p,eM,D6,or_self,if_false,or_true,true_or,or_false,false_or,if_true,reduceIte,aj5,decide_eq_true_eq,aj0,aj2,ako,akl,reduceCtorEq,ajY,false_and,and_false,true_and,and_true]at h;try omega
       done)
     |(refine congrArg bV (Eq.symm ?_)
       simp only[bU,cr,p,eM,D6,or_self,if_false,or_true,true_or,or_false,false_or,if_true,reduceIte,aj5,decide_eq_true_eq,aj0,aj2,ako,akl,reduceCtorEq,ajY,false_and,and_false,true_and,and_true];try omega
       done)
def Re.whole (re:Re) (ai top:Int):Bool:=re.every λr=>bU r ai top
theorem JF (ai top:Int) (ht:top<=1114111) (re:Re) (hf:re.dx=true):aM prog 94 [sN re,i64 ai,i64 top] (bV (re.whole ai top)):=by
 revert hf;refine Re.ind (Q:=λre=>re.dx=true->aM prog 94 [sN re,i64 ai,i64 top] (bV (re.whole ai top))) (λre ih hf=>?_) re;obtain⟨si,hlen,Ew⟩:=Re.fP hf;have Xa:=HD re hf ai top ht;rw[av]at Xa;simp only[i64,iD,bD]at Xa;refine bo func94 ntmps94 results94 0 207 ?_;simp only[zI,simprocAttr,av re,iD,bD];refine dY Xa ?_;cases mS:bU re ai top with
 |false =>
  simp only[zI,simprocAttr,bV];rw[show re.whole ai top=false by
   rw[akE];intro h;unfold Re.whole at h;rw[Re.aD,mS]at h;exact absurd h.1 aU]
 |true =>
  simp only[zI,simprocAttr,bV];refine aw (λn e s=>∃i:Nat,n=re.kids.length-i/\i<=re.kids.length/\e 1=i64 ai/\e 2=i64 top/\e 3=.rf 0 0 0 0/\e 7=i64 i/\(∀x∈re.kids.take i,x.whole ai top=true)/\s=[⟨0,true,8,[re.cells.map .d]⟩])
   ⟨_,_,_,bA.refl,0,rfl,ae,rfl,rfl,rfl,rfl,ak,by simp [Re.ah re,iD,bD]⟩ ?_
  rintro n e s ⟨i,rfl,hi,h1,h2,h3,h7,hn,rfl⟩;rcases akd i re.kids.length with az|gx
  ·obtain⟨k,hk⟩:∃k,re.kids[i]?=some k:=cc az;have hm:=List.mem_of_getElem? hk;simp only[zI,simprocAttr,Re.ah re,iD,bD,h1,h2,h3,h7,az,hk];refine dY (ih k hm (Ew k hm)) ?_;cases fm:k.whole ai top with
   |false =>
    simp only[zI,simprocAttr,bV];rw[show re.whole ai top=false by
     rw[akE];intro h;unfold Re.whole at h;rw[Re.aD]at h;have:=h.2 k hm;unfold Re.whole at fm;rw[fm]at this;cases this]
   |true =>
    simp only[zI,simprocAttr,bV,Re.ah re,iD,bD,h1,h2,h3,h7];refine⟨re.kids.length-(i+1),_,_,ae,bA.refl,i+1,rfl,az,?_,?_,?_,?_,?_,rfl⟩ <;> (try simp only[zU,pZ,jN,oN,oV,reduceIte])
    ·exact h1
    ·exact h2
    ·exact h3
    ·rw[bG _ ae];rfl
    ·intro x hx;rcases cy hk hx with h|rfl
     ·exact hn x h
     ·exact fm
  ·have dX:i=re.kids.length:=by omega
   subst dX;simp only[zI,simprocAttr,Re.ah re,iD,bD,h1,h2,h3,h7,ak9];rw[show re.whole ai top=true from (Re.aD re).2 ⟨mS,λk hk=>hn k (by rw[akg];exact hk)⟩]
def gH (aB:Bool):Int:=if aB=true then 1114111 else 255
def cS (p:iM):Int :=
 if 256<p.re.size\/24<p.re.depth then 4 else if p.ai<0\/9<p.ai\/p.re.whole p.ai (gH p.aB)=false then 1 else 0
theorem I9 (p:iM) (hf:p.re.dx=true) (hs:p.re.size<=1000000000):aM prog 49 [bI p] (i64 (cS p)):=by
 have h1:=No p.re hs;have h2:=Ja p.re hs;have h3:=JF p.ai (gH p.aB) (by unfold gH;split <;> omega) p.re hf;unfold cS;rw[av]at h1 h2 h3;cases p with
 |mk re ai aB =>
 simp only[i64,iD,bD]at h1 h2 h3;simp only at *;refine bo func49 ntmps49 results49 0 15 ?_;simp only[zI,simprocAttr,bI,Re.ah re,bV,iD,bD];refine dY h1 ?_;simp only[zI,simprocAttr,bI,bV,iD,bD];by_cases c1:(256:Int)<re.size
 ·simp only[zX,simprocAttr,c1];rw[sP]
 simp only[zI,simprocAttr,bI,bV,iD,bD,c1];refine dY h2 ?_;simp only[zI,simprocAttr,bI,bV,iD,bD];by_cases c2:(24:Int)<re.depth
 ·simp only[zX,simprocAttr,c2]
 rw[bd];simp only[zI,simprocAttr,bI,bV,iD,bD,c2];cases aB;all_goals
  simp only[gH,if_true,if_false,reduceIte,reduceCtorEq,ajY]at h3 ⊢;simp only[zI,simprocAttr,bI,bV,iD,bD];by_cases c3:ai<0
  ·simp only[zI,simprocAttr,bI,bV,iD,bD,c3]
  by_cases c4:9<ai
  ·simp only[zI,simprocAttr,bI,bV,iD,bD,c3,c4,if_true,or_true,true_or]
  simp only[zI,simprocAttr,bI,bV,iD,bD,c3,c4];refine dY h3 ?_;first
   |(cases hw:re.whole ai 1114111 <;> (simp only[zI,simprocAttr,bV]);done)
   |(cases hw:re.whole ai 255 <;> (simp only[zI,simprocAttr,bV]);done)
end Go.Proofs.YtjjfioalgbecmaaGreat
namespace Go.Proofs.YtjjfioalgbecmaaGreat
open Go.VL Go.Proofs.Tryz
def bf (x:Re):VL.Obj:=⟨0,true,8,[x.cells.map .d]⟩
end Go.Proofs.YtjjfioalgbecmaaGreat
